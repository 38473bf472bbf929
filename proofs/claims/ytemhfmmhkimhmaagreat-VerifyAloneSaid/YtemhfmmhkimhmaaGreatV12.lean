/- A part of the walks by abstract values: no statement of its own. -/
import Derived.Test.YtemhfmmhkimhmaaGreatV6
import Derived.Test.YtemhfmmhkimhmaaGreatV4
set_option linter.unusedVariables false
set_option linter.unusedSimpArgs false
namespace Go.Cg
open Go.RowKit
structure ACallM (P:Program) (f:FuncId) (args:List AV) (H:HEnv) (r:AV) (H':HEnv) (lone:Bool:=false):Prop where
 stands:zbU P f
 calls:∀ (g:Base) (K:KK) (ρ:Nat->Value) (w:World) (vs:List Value),(lone=true->g.w1.heap.size=0)->FS g K ρ H w->Qd K w ρ H args vs ->
  Calls P f vs.toArray w fun e w'=>∃ v K' ρ',e=.returned v/\FS g K' ρ' H' w'/\ARel K' w' ρ' H' r v
def zi3 (tb:Tab) (rs:List ResultVar) (r:AV) (H':HEnv):QC:=fun ex env H=>(ex=.normal\/ex=.ret) /\
 ((∃ ps,zar tb H env rs=some ps/\r=.pv (zn ps)/\QM H H' [])\/(∃ t,rs=[.tmp t]/\env.get t=some r/\QM H H' [(t,r)]))
section
variable {P:Program} {tb:Tab} {n:Nat} {g:Base} {K K':KK} {w w':World} {ρ ρ':Nat->Value} {H H':HEnv} {env:Env} {a:Act} {ops:List Oper} {o:Oper} {rest:List Oper} {Q:Env->HEnv->Prop} {f:FuncId} {args:List AV} {r:AV}
theorem FS.narrow {e:Env} (hf:FS g K ρ H w) (hs:QM H H' e):FS g K ρ H' w:=by
 obtain ⟨hs,hin⟩:=hs;simp only [Bool.and_eq_true] at hin;refine ⟨hf.below,hf.old,hf.new,hf.lt,hf.others,hf.pt,fun i h b hi=>hf.away i h b (hs i h hi),?_,?_⟩
 ·intro i h hi;have:=hf.heap.ok i h (hs i h hi);cases h with
  | cell v=>obtain ⟨b,t,arr,u,h1,h2,h3,h4,h5,h6⟩:=this;exact ⟨b,t,arr,u,h1,h2,h3,h4.refs (Qi hin.2 i v hi),h5,h6⟩
  | pin v u=>exact ARel.refs this (Yk hin.2 i v u hi)
  | row t sz es=>exact this
  | mrow t sz es=>exact this
  | dead=>exact this
  | obj X=>exact this
 ·intro i j h h' b hij hi hj;exact hf.heap.apart i j h h' b hij (hs i h hi) (hs j h' hj)
theorem Zk (htb:qm P tb) {fn:Func} {c:Code} (hf:P.funcs[f]?=some fn) (hb:fn.body=some c) (hn:(fn.name == "runtime.NumGoroutine")=false) (hnt:fn.ntmps=n) (hargs:args.length<=n) (rs:List ResultVar) (hrs:fn.results.toList=rs)
  {lone:Bool} (h:∀ g:Base,(lone=true->g.w1.heap.size=0)->AW P n g c (Vb 0 args) H (zi3 tb rs r H')):ACallM P f args H r H' lone:=by
 refine ⟨⟨fn,hf,by simp [hb],hn⟩,fun g0 K ρ w vs hw1 hfs0 hv=>?_⟩;obtain ⟨g,hg0⟩:∃ g:Base,g=⟨g0.w0,g0.K0,g0.w1,[],g0.wp,g0.pr⟩:=⟨_,rfl⟩
 have hfs:FS g K ρ H w:=by subst hg0;exact ⟨hfs0.below,hfs0.old,hfs0.new,hfs0.lt,hfs0.others,⟨hfs0.pt.same,hfs0.pt.kept⟩,hfs0.away,hfs0.heap⟩
 refine calls_of_wp hf hb ?_;have hlen:vs.length=args.length:=hv.1;refine wp_mono (wpIn_wide.1 ((h g (by subst hg0;exact hw1)).go _ w ⟨by simp [hnt];omega,by subst hg0;rfl,K,ρ,hfs,?_⟩ none 0)) ?_
 ·intro t av hg;obtain ⟨_,hp⟩:=VA args 0 t av hg;have hlt:t < vs.length:=by rw [hlen];exact (List.getElem?_eq_some_iff.1 hp).1
  refine ⟨vs[t],?_,hv.2 t av _ hp (List.getElem?_eq_getElem hlt)⟩;rw [Array.getElem?_append_left zwy80];simp [hlt]
 ·rintro e a' w' ⟨env1,H1,hi,he,hq⟩;have key:∃ v K' ρ',(results fn a'.tmps).run P w'=.ok v w'/\a'.defers=[]/\FS g0 K' ρ' H' w'/\ARel K' w' ρ' H' r v:=by
   have back:∀ {K':KK} {ρ':Nat->Value},FS g K' ρ' H' w'->FS g0 K' ρ' H' w':=fun hf1=>by
    subst hg0;exact ⟨hf1.below,hf1.old,hf1.new,hf1.lt,hf1.others,⟨hf1.pt.same,hf1.pt.kept⟩,hf1.away,hf1.heap⟩
   rcases hq with ⟨ps,hps,rfl,hfit⟩|⟨t,ht,hget,hfit⟩
   ·obtain ⟨_,h2,K',ρ',hf',he0⟩:=hi;obtain ⟨us,hrun,hru⟩:=zaO htb hf' he0 hps;have hi2:Inv n g [] H' a' w':=((⟨‹_›,h2,K',ρ',hf',he0⟩:Inv n g env1 H1 a' w').sub yN).hsub hfit;have hres:(results fn a'.tmps).run P w'=.ok (if hh:us.toArray.size=1 then us.toArray[0] else .tuple us.toArray) w':=by
     unfold results;rw [Array.mapM_eq_mapM_toList,hrs];simp only [Sem.run_bind,Sem.run_map]
     erw [hrun]
     rfl
    have hval:PRel K' w' (zn ps) (if hh:us.toArray.size=1 then us.toArray[0] else .tuple us.toArray):=by
     split
     ·rename_i hh;have hl1:=hru.1;have hu:us.length=1:=by simpa using hh
      obtain ⟨u,rfl⟩:=List.length_eq_one_iff.1 hu;obtain ⟨p,rfl⟩:=List.length_eq_one_iff.1 (show ps.length=1 by omega);exact hru.2 0 p u zwy63 zwy63
     ·rename_i hh;simp at hh;have:zn ps=.tup ps:=by
       unfold zn;split
       ·rename_i p;exact absurd zwy101 hh
       ·rfl
      rw [this];exact .tup ps us hru.1 hru.2
    have hf2:=FS.narrow hf' hfit;exact ⟨_,K',ρ',hres,by rw [h2];subst hg0;rfl,back hf2,.pv _ _ hval⟩
   ·obtain ⟨h1,h2,K',ρ',hf',he0⟩:=hi;obtain ⟨v,hv1,hv2⟩:=he0 t r hget;have hf2:=FS.narrow hf' hfit;have hin:=hfit.2;simp only [Xm,Bool.and_eq_true] at hin;have hres:(results fn a'.tmps).run P w'=.ok v w':=by
     unfold results;rw [Array.mapM_eq_mapM_toList,hrs,ht];simp [Result.andThen,hv1]
    exact ⟨v,K',ρ',hres,by rw [h2];subst hg0;rfl,back hf2,hv2.refs hin.1.1⟩
  obtain ⟨v,K',ρ',hres,hd,hf',hr⟩:=key;rcases he with rfl|rfl
  ·exact ⟨hd,_,hres,v,K',ρ',rfl,hf',hr⟩
  ·exact ⟨hd,_,hres,v,K',ρ',rfl,hf',hr⟩
def qB (us:Nat->Value) (ps:List Nat):HEnv:=ps.map fun i=>(1000 + i,.pin (.own i) (us i))
def VQ (ps:List Nat):HEnv:=ps.map fun i=>(i,.dead)
def zjR (A:HEnv) (B:HEnv):Bool:=A.all fun x=>(B.get x.1).isNone
def XU (Hc Hc' R:HEnv) (ps:List Nat) (ars:List AV) (env2:Env) (r:AV):Bool :=
 zjR Hc R&&zjR Hc' R&&zfi 1000 Hc&&zfi 1000 Hc'&&QW Hc ars&&hIn Hc Hc&&hIn Hc' Hc'&&ZX Hc' r&&hIn (R++VQ ps) R&&Xm (R++VQ ps) env2&&ps.all fun i=>(Hc.get i).isSome&&(Hc'.get i).isSome
theorem XM {us:Nat->Value}:∀ {ps:List Nat} {i:Nat} {h:HE},HEnv.get (qB us ps) i=some h->1000<=i/\i - 1000∈ps/\h=.pin (.own (i - 1000)) (us (i - 1000))
 | [],i,h,hg=>by simp [qB,HEnv.get_nil] at hg
 | p::ps,i,h,hg=>by
  rw [qB,List.map_cons,HEnv.get_cons] at hg;split at hg
  ·rename_i e;subst e;simp only [Option.some.injEq] at hg;subst hg;rw [Nat.add_sub_cancel_left];exact ⟨by omega,by simp,rfl⟩
  ·obtain ⟨h1,h2,h3⟩:=XM (ps:=ps) hg;exact ⟨h1,by simp [h2],h3⟩
theorem zdz {us:Nat->Value}:∀ {ps:List Nat} {i:Nat},i∈ps->HEnv.get (qB us ps) (1000 + i)=some (.pin (.own i) (us i))
 | [],i,h=>by cases h
 | p::ps,i,h=>by
  rw [qB,List.map_cons,HEnv.get_cons];split
  ·rename_i e;have:p=i:=by omega
   subst this;rfl
  ·rename_i e;rcases List.mem_cons.1 h with rfl|h
   ·exact absurd rfl e
   ·exact zdz h
theorem YQ {A B:HEnv} (h:zjR A B=true):∀ i x,A.get i=some x->B.get i=none:=by
 induction A with
 | nil=>intro i x hx;simp [HEnv.get_nil] at hx
 | cons y A ih =>
  intro i x hx;obtain ⟨j,z⟩:=y;simp only [zjR,List.all_cons,Bool.and_eq_true] at h;rw [HEnv.get_cons] at hx;split at hx
  ·rename_i e;subst e;simpa using h.1
  ·exact ih h.2 i x hx
theorem zdN {ps:List Nat} {i:Nat} (h:(HEnv.get (VQ ps) i).isSome=true):i∈ps:=by
 induction ps with
 | nil=>simp [VQ,HEnv.get_nil] at h
 | cons p ps ih =>
  rw [VQ,List.map_cons,HEnv.get_cons] at h;split at h
  ·rename_i e;simp [e]
  ·simp [ih h]
theorem Yv {w w':World} {B e sz n:Nat} {v:Value} {xs:List Value} (h:w.ownsRow B e sz v n xs) (hb:∀ b,yj v=some b->w'.heap[b]?=w.heap[b]?):w'.ownsRow B e sz v n xs:=by
 obtain ⟨h1,h2⟩:=h;refine ⟨h1,h2.imp id ?_⟩;rintro ⟨g,cap,cur,a,b,c,d⟩;exact ⟨g,cap,cur,a,b,by rw [hb g (by rw [a];rfl)];exact c,d⟩
theorem Qx {w:World} {B e sz n:Nat} {v:Value} {xs:List Value} (h:w.ownsRow B e sz v n xs) (b:Nat):yj v=some b↔v.ownBlock=some b:=by
 rcases h.2 with ⟨rfl,_⟩|⟨_,_,_,rfl,_⟩ <;> simp [yj,Value.ownBlock]
theorem yH {xs:Array Operand} {ts:Array TypeId} {d:Tmp} {ars:List AV} (Hc Hc' R:HEnv) (env2:Env) {lone:Bool} (ps:List Nat) (hw1:lone=true->g.w1.heap.size=0) (hg:guardE ops env o=some true)
  (hop:o.op=.call { callee:=.value (.func f),args:=xs,argTypes:=ts }) (hargs:avs env xs.toList=some ars) (hsub:HSub H (Hc++R)) (hs:Sub env env2) (hd:o.dst=some d) (hdt:Nat.blt d n=true)
  (hchk:XU Hc Hc' R ps ars env2 r=true) (hc:∀ us,ACallM P f ars (Hc++qB us ps) r (Hc'++qB us ps) lone)
  (h:AO P n g ops.toArray rest ((d,r)::env2) (Hc'++R) Q):AO P n g ops.toArray (o::rest) env H Q:=by
 simp only [XU,Bool.and_eq_true] at hchk;obtain ⟨⟨⟨⟨⟨⟨⟨⟨⟨⟨d1,d2⟩,d3⟩,d4⟩,i1⟩,i2⟩,i3⟩,i4⟩,i5⟩,i6⟩,i7⟩:=hchk;have i7':∀ i∈ps,(Hc.get i).isSome=true/\(Hc'.get i).isSome=true:=fun i hi=>by simpa using List.all_eq_true.1 i7 i hi
 refine ⟨fun a w hinv=>?_⟩;have hw:=qw hinv hg;obtain ⟨h1,h2,K,ρ,hf,he⟩:=hinv;refine wpList_step fun KK hKK=>?_
 rw [if_pos hw];have hlatR:Later K K w w:=.refl K w;have gC:∀ i x,Hc.get i=some x->H.get i=some x:=fun i x hx=>hsub i x (by rw [get_append,hx])
 have gR:∀ i x,R.get i=some x->H.get i=some x:=fun i x hx=>hsub i x (by
  rw [get_append];cases hh:Hc.get i with
  | none=>exact hx
  | some y=>rw [YQ d1 i y hh] at hx;cases hx)
 have nC:∀ i x,R.get i=some x->Hc.get i=none:=fun i x hx=>by
  cases hh:Hc.get i with
  | none=>rfl
  | some y=>rw [YQ d1 i y hh] at hx;cases hx
 have nC':∀ i x,R.get i=some x->Hc'.get i=none:=fun i x hx=>by
  cases hh:Hc'.get i with
  | none=>rfl
  | some y=>rw [YQ d2 i y hh] at hx;cases hx
 have hpinC:∀ {A:HEnv} {us:Nat->Value} {i:Nat} {x:HE},HEnv.get (A++qB us ps) i=some x->x.live=true->A.get i=some x:=by
  intro A us i x hx hl;rw [get_append] at hx;cases hh:A.get i with
  | some z=>rw [hh] at hx;exact hx
  | none =>
   rw [hh] at hx;obtain ⟨_,_,rfl⟩:=XM hx;simp [HE.live] at hl
 obtain ⟨g',hg'⟩:∃ g':Base,g'=⟨g.w0,K,g.w1,g.ds,w,fun b=>g.pr b\/∃ i x,R.get i=some x/\x.live=true/\yj (ρ i)=some b⟩:=⟨_,rfl⟩
 have hfs:FS g' K ρ (Hc++qB ρ ps) w:=by
  subst hg';refine ⟨hf.below,fun _ _ h=>h,fun _ _ h=>.inl h,hf.lt,hf.others,⟨?_,fun _ _ _=>rfl⟩,?_,?_,?_⟩
  ·rintro b (hb|⟨i,x,hi,hl,hb⟩)
   ·exact ⟨(hf.pt.same b hb).1,rfl,fun _=>Iff.rfl⟩
   ·exact ⟨((hf.heap.ok i x (gR i x hi)).block_lt hl hb).2,rfl,fun _=>Iff.rfl⟩
  ·intro i x b hi hl hb;have hC:=hpinC hi hl;rintro (hp|⟨j,y,hj,hly,hbj⟩)
   ·exact hf.away i x b (gC i x hC) hl hb hp
   ·have hne:i≠j:=by rintro rfl;rw [nC i y hj] at hC;cases hC
    exact hf.heap.apart i j x y b hne (gC i x hC) (gR j y hj) hl hly hb hbj
  ·intro i x hi;rw [get_append] at hi;cases hh:Hc.get i with
   | some y =>
    rw [hh] at hi;simp only [Option.some.injEq] at hi;subst hi;have hok:=hf.heap.ok i y (gC i y hh);have hk:∀ j,(HEnv.get Hc j).isSome=true->(HEnv.get (Hc++qB ρ ps) j).isSome=true/\ρ j=ρ j:=fun j hj=>⟨yI j hj,rfl⟩
    cases y with
    | cell v=>obtain ⟨b,t,arr,u,q1,q2,q3,q4,q5,q6⟩:=hok;exact ⟨b,t,arr,u,q1,q2,q3,(q4.refs (Qi i2 i v hh)).keeps hlatR hk,q5,q6⟩
    | pin v u=>exact (ARel.refs hok (Yk i2 i v u hh)).keeps hlatR hk
    | row t sz es=>exact hok
    | mrow t sz es=>exact hok
    | dead=>exact hok
    | obj X=>exact hok
   | none =>
    rw [hh] at hi;obtain ⟨q1,q2,rfl⟩:=XM hi;exact .own _ (yI _ (i7' _ q2).1)
  ·intro i j x y b hij hi hj lx ly bx bj;exact hf.heap.apart i j x y b hij (gC i x (hpinC hi lx)) (gC j y (hpinC hj ly)) lx ly bx bj
 have hpa:=zbM (a:=a) he hargs;have hall:Qd K w ρ (Hc++qB ρ ps) ars (xs.toList.map a.eval) :=
  ⟨hpa.1,fun k c v hc hv=>((hpa.2 k c v hc hv).refs (ZT i1 k c hc)).keeps hlatR fun j hj=>⟨yI j hj,rfl⟩⟩
 have hrun:(execOp a.eval o).run P w=.ok (.enter f (xs.toList.map a.eval).toArray) w:=by
  have e:(xs.toList.map a.eval).toArray=xs.map a.eval:=by rw [<-Array.toList_map,Array.toArray_toList]
  rw [e];simp [execOp,hop,resolve,Act.eval,Deferred.ofValue,invoke,ZK (hc ρ).stands]
 unfold Oper.wp;rw [hrun];simp only [Oper.upon];refine ((hc ρ).calls g' K ρ w _ (by subst hg';exact hw1) hfs hall).mono fun e w' ⟨v,K',ρ',e1,hf',hv⟩=>?_
 subst e1;have hlat:Later K K' w w':=by subst hg';exact ⟨hf'.old,hf'.pt.kept⟩
 have hprot:∀ b,(g.pr b\/∃ i x,R.get i=some x/\x.live=true/\yj (ρ i)=some b)->b < w'.heap.size/\w'.heap[b]?=w.heap[b]? /\∀ o,K' b o↔K b o:=by subst hg';exact hf'.pt.same
 have haway:∀ i x b,Hc'.get i=some x->x.live=true->yj (ρ' i)=some b->¬ (g.pr b\/∃ i x,R.get i=some x/\x.live=true/\yj (ρ i)=some b):=by
  subst hg';exact fun i x b hi=>hf'.away i x b (by rw [get_append,hi])
 obtain ⟨ρ2,hρ2⟩:∃ ρ2:Nat->Value,∀ j,ρ2 j=if (Hc'.get j).isSome then ρ' j else ρ j:=⟨_,fun _=>rfl⟩
 have r1:∀ j,(Hc'.get j).isSome=true->ρ2 j=ρ' j:=fun j hj=>by rw [hρ2,if_pos hj]
 have r2:∀ j,Hc'.get j=none->ρ2 j=ρ j:=fun j hj=>by rw [hρ2,hj];rfl
 have hkC:∀ j,(HEnv.get Hc' j).isSome=true->(HEnv.get (Hc'++R) j).isSome=true/\ρ2 j=ρ' j:=fun j hj=>⟨yI j hj,r1 j hj⟩
 have hps:∀ i∈ps,ρ' i=ρ i:=fun i hi=>by
  have hnone:Hc'.get (1000 + i)=none:=by
   cases hh:Hc'.get (1000 + i) with
   | none=>rfl
   | some x=>have:=Vx d4 _ x hh;omega
  have:=hf'.heap.ok (1000 + i) _ zwy105;have this:ARel K' w' ρ' (Hc'++qB ρ ps) (.own i) (ρ i):=this;generalize hu:ρ i=u at this;cases this with
  | own _ _=>rfl
 have hkR:∀ j,(HEnv.get (R++VQ ps) j).isSome=true->(HEnv.get (Hc'++R) j).isSome=true/\ρ2 j=ρ j:=fun j hj=>by
  rw [get_append] at hj;cases hh:R.get j with
  | some x =>
   have hn:=nC' j x hh;exact ⟨by rw [get_append,hn,hh];rfl,r2 j hn⟩
  | none =>
   rw [hh] at hj;have hm:=zdN hj;have hs':=(i7' j hm).2;exact ⟨yI j hs',by rw [r1 j hs',hps j hm]⟩
 have hfs2:FS g K' ρ2 (Hc'++R) w':=by
  have b1:Below g.w0.heap.size g.w0 w':=by subst hg';exact hf'.below
  have b3:∀ b o,K' b o->K b o\/g.w0.heap.size<=b:=by subst hg';exact hf'.new
  have b5:KeepsOthers g.w1 w':=by subst hg';exact hf'.others
  have bB:HRel K' w' g.w0.heap.size ρ' (Hc'++qB ρ ps):=by subst hg';exact hf'.heap
  refine ⟨b1,fun b o h=>hlat.sub b o (hf.old b o h),fun b o hk=>(b3 b o hk).elim (hf.new b o) .inr,hf'.lt,b5,⟨fun b hb=>?_,fun b o h0=>(hlat.cell b o (hf.old b o h0)).trans (hf.pt.kept b o h0)⟩,fun i x b hi hl hb=>?_,fun i x hi=>?_,fun i j x y b hij hi hj lx ly bx bj=>?_⟩
  ·obtain ⟨p1,p2,p3⟩:=hprot b (.inl hb);obtain ⟨q1,q2,q3⟩:=hf.pt.same b hb;exact ⟨p1,p2.trans q2,fun o=>(p3 o).trans (q3 o)⟩
  ·rw [get_append] at hi;cases hh:Hc'.get i with
   | some y =>
    rw [hh] at hi;simp only [Option.some.injEq] at hi;subst hi;rw [r1 i zwy119] at hb;exact fun hp=>haway i y b hh hl hb (.inl hp)
   | none =>
    rw [hh] at hi;rw [r2 i hh] at hb;exact hf.away i x b (gR i x hi) hl hb
  ·rw [get_append] at hi;cases hh:Hc'.get i with
   | some y =>
    rw [hh] at hi;simp only [Option.some.injEq] at hi;subst hi;rw [r1 i zwy119];have hok:=bB.ok i y (by rw [get_append,hh]);have hl':=Later.refl K' w';cases y with
    | cell v=>obtain ⟨b,t,arr,u,q1,q2,q3,q4,q5,q6⟩:=hok;exact ⟨b,t,arr,u,q1,q2,q3,(q4.refs (Qi i3 i v hh)).keeps hl' hkC,q5,q6⟩
    | pin v u=>exact (ARel.refs hok (Yk i3 i v u hh)).keeps hl' hkC
    | row t sz es=>exact hok
    | mrow t sz es=>exact hok
    | dead=>exact hok
    | obj X=>exact hok
   | none =>
    rw [hh] at hi;rw [r2 i hh];have hok:=hf.heap.ok i x (gR i x hi);have hsame:x.live=true->∀ b,yj (ρ i)=some b->w'.heap[b]?=w.heap[b]? /\∀ o,K' b o↔K b o:=fun hl b hb=>(hprot b (.inr ⟨i,x,hi,hl,hb⟩)).2
    cases x with
    | cell v =>
     obtain ⟨b,t,arr,u,q1,q2,q3,q4,q5,q6⟩:=hok;obtain ⟨s1,s2⟩:=hsame rfl b zwy120;exact ⟨b,t,arr,u,q1,q2,by rw [s1];exact q3,(q4.refs (Qi i5 i v hi)).keeps hlat hkR,q5,fun o hk=>q6 o ((s2 o).1 hk)⟩
    | pin v u=>exact (ARel.refs hok (Yk i5 i v u hi)).keeps hlat hkR
    | row t sz es =>
     obtain ⟨xs,q1,q2,q3,q4⟩:=hok;refine ⟨xs,Yv q1 fun b hb=>(hsame rfl b hb).1,q2,fun k e he=>?_,fun b hb o=>?_⟩
     ·obtain ⟨c1,c2⟩:=q3 k e he;exact ⟨c1,fun k c hc=>let ⟨v,h4,h5,h6⟩:=c2 k c hc;⟨v,h4,h5,h6.later hlat⟩⟩
     ·rw [(hsame rfl b ((Qx q1 b).2 hb)).2 o];exact q4 b hb o
    | mrow t sz es =>
     obtain ⟨xs,q1,q2,q3,q4⟩:=hok;refine ⟨xs,Yv q1 fun b hb=>(hsame rfl b hb).1,q2,fun k e he=>?_,fun b hb o hk=>?_⟩
     ·obtain ⟨c1,c2⟩:=q3 k e he;exact ⟨c1,fun k c hc=>let ⟨v,h4,h5,h6⟩:=c2 k c hc;⟨v,h4,h5,h6.later hlat⟩⟩
     ·exact q4 b hb o (((hsame rfl b ((Qx q1 b).2 hb)).2 o).1 hk)
    | dead=>trivial
    | obj X =>
     obtain ⟨b,ob,q1,q2,q3,q4,q5⟩:=hok;obtain ⟨s1,s2⟩:=hsame rfl b zwy120;exact ⟨b,ob,q1,q2,by rw [s1];exact q3,q4,fun o hk=>q5 o ((s2 o).1 hk)⟩
  ·rw [get_append] at hi hj;cases hhi:Hc'.get i with
   | some x' =>
    rw [hhi] at hi;simp only [Option.some.injEq] at hi;subst hi;rw [r1 i (by rw [hhi];rfl)] at bx;cases hhj:Hc'.get j with
    | some y' =>
     rw [hhj] at hj;simp only [Option.some.injEq] at hj;subst hj;rw [r1 j zwy114] at bj;exact bB.apart i j x' y' b hij (by rw [get_append,hhi]) (by rw [get_append,hhj]) lx ly bx bj
    | none =>
     rw [hhj] at hj;rw [r2 j hhj] at bj;exact haway i x' b hhi lx bx (.inr ⟨j,y,hj,ly,bj⟩)
   | none =>
    rw [hhi] at hi;rw [r2 i hhi] at bx;cases hhj:Hc'.get j with
    | some y' =>
     rw [hhj] at hj;simp only [Option.some.injEq] at hj;subst hj;rw [r1 j zwy114] at bj;exact haway j y' b hhj ly bj (.inr ⟨i,x,hi,lx,bx⟩)
    | none =>
     rw [hhj] at hj;rw [r2 j hhj] at bj;exact hf.heap.apart i j x y b hij (gR i x hi) (gR j y hj) lx ly bx bj
 have he2:EnvR K' w' ρ2 (Hc'++R) env2 a.tmps:=fun t av ht=>by
  obtain ⟨u,u1,u2⟩:=he t av (hs t av ht);exact ⟨u,u1,(u2.refs (zch i6 t av ht)).keeps hlat hkR⟩
 refine hKK _ _ (h.go _ _ ⟨Zm h1,put_defers h2,K',ρ2,hfs2,?_⟩);rw [hd];exact Ye h1 hdt he2 ((hv.refs i4).keeps (Later.refl K' w') hkC)
end
structure ACallPan (P:Program) (f:FuncId) (args:List AV) (H:HEnv) (v:Value) (lone:Bool:=false):Prop where
 stands:zbU P f
 calls:∀ (g:Base) (K:KK) (ρ:Nat->Value) (w:World) (vs:List Value),(lone=true->g.w1.heap.size=0)->FS g K ρ H w->Qd K w ρ H args vs ->
  Calls P f vs.toArray w fun e w'=>e=.panicked [{ v:=v,recovered:=false }]/\∃ K' ρ',FS g K' ρ' [] w'
theorem zi {P:Prop}:false=true->P:=fun h=>nomatch h
inductive Out where
 | ret (r:AV) (H':HEnv)
 | pan (v:Value)
def QF (P:Program) (f:FuncId) (args:List AV) (H:HEnv) (o:Out) (lone:Bool:=false):Prop :=
 match o with
 | .ret r H'=>ACallM P f args H r H' lone
 | .pan v=>ACallPan P f args H v lone
def zkS (tb:Tab) (rs:List ResultVar):Out->QC
 | .ret r H'=>zi3 tb rs r H'
 | .pan v=>fun ex _ _=>ex=.panic [{ v:=v,recovered:=false }]
structure AOX (P:Program) (n:Nat) (g:Base) (ops:Array Oper) (l:List Oper) (env:Env) (H:HEnv) (Q:QC):Prop where
 go:∀ a w,Inv n g env H a w->wpList P ops (fun e a' w'=>∃ env' H',Inv n g env' H' a' w'/\(e=.normal\/∃ ch,e=.panic ch)/\Q e env' H') l a w
section
variable {P:Program} {tb:Tab} {n:Nat} {g:Base} {K K':KK} {w w':World} {ρ ρ':Nat->Value} {H H':HEnv} {env:Env} {a:Act} {ops:List Oper} {o:Oper} {rest:List Oper} {Q:Env->HEnv->Prop} {f:FuncId} {args:List AV} {r:AV} {QQ:QC}
theorem Vd {R:Exit->Act->World->Prop} {arr:Array Oper} {l2:List Oper}:∀ {l1:List Oper} {a:Act} {w:World},wpList P arr (fun e a' w'=>e=.normal/\wpList P arr R l2 a' w') l1 a w->wpList P arr R (l1++l2) a w
 | [],a,w,h=>h.2
 | o::l1,a,w,h=>by
  rw [List.cons_append];unfold wpList at h ⊢;split
  ·rename_i hw;rw [if_pos hw] at h;rcases h with h|⟨h1,a',w',h2,_⟩
   ·refine .inl ?_;unfold Oper.wp at h ⊢;generalize (execOp a.eval o).run P w=r at *;cases r with
    | ok nx w' =>
     cases nx <;> simp only [Oper.upon] at h ⊢ <;>
      first
       | exact Vd h
       | exact Calls.mono h (fun e w'' he=>by
         cases e with
         | returned v=>exact Vd he
         | panicked ch=>cases he.1
         | outgrown=>obtain ⟨_,_,he,_⟩:=he;cases he)
       | exact Rows.mono h (fun _ _ he=>Vd he)
    | halt x w'=>cases x <;> simp only [Oper.upon] at h ⊢ <;> first|exact h.elim|(obtain ⟨he,_⟩:=h;cases he)
   ·cases h2
  ·rename_i hw;rw [if_neg hw] at h;exact Vd h
theorem zuX {l1 l2:List Oper} (h:AO P n g ops.toArray l1 env H (fun env' H'=>AOX P n g ops.toArray l2 env' H' QQ)):AOX P n g ops.toArray (l1++l2) env H QQ :=
 ⟨fun a w hi=>Vd (Yy (fun e a' w' ⟨env',H',h1,h2,h3⟩=>⟨h2,h3.go a' w' h1⟩) (h.go a w hi))⟩
theorem zvf (k:Nat) {l l1 l2:List Oper} (h1:l.take k=l1) (h2:l.drop k=l2) (h:AO P n g ops.toArray l1 env H (fun env' H'=>AOX P n g ops.toArray l2 env' H' QQ)):AOX P n g ops.toArray l env H QQ:=by
 have:=zuX h
 rwa [<-h1,<-h2,List.take_append_drop] at this
theorem zuF (h:QQ .normal env H):AOX P n g ops.toArray [] env H QQ:=⟨fun a w hi=>⟨env,H,hi,.inl rfl,h⟩⟩
theorem Vy {l:List Oper} (h:AO P n g ops.toArray l env H (fun env' H'=>QQ .normal env' H')):AOX P n g ops.toArray l env H QQ :=
 ⟨fun a w hi=>Yy (fun _ _ _ ⟨env',H',h1,h2,h3⟩=>⟨env',H',h1,.inl h2,by rw [h2];exact h3⟩) (h.go a w hi)⟩
theorem zid:¬ LetsOut (fun e a w=>∃ env' H',Inv n g env' H' a w/\(e=.normal\/∃ ch,e=.panic ch)/\QQ e env' H'):=fun ⟨_,_,_,_,_,hx,_⟩=>by rcases hx with hx|⟨_,hx⟩ <;> cases hx
theorem zpi {id:Nat} (h:AOX P n g ops.toArray ops env H QQ) (hnd:Zr ops=true:=by kernel_rfl):AW P n g (.region id ops.toArray false) env H QQ :=
 ⟨fun a w hi r d=>wpIn_mono (wpIn_region_lit (zcS (r:=r) (n:=d) zid hnd (h.go a w hi))) (fun e a' w' ⟨env',H',h1,_,h3⟩=>⟨env',H',h1,h3⟩)⟩
theorem zD {xs:Array Operand} {ts:Array TypeId} {ars:List AV} {v:Value} (Hc:HEnv) {lone:Bool} (hw1:lone=true->g.w1.heap.size=0) (hg:guardE ops env o=some true)
  (hop:o.op=.call { callee:=.value (.func f),args:=xs,argTypes:=ts }) (hargs:avs env xs.toList=some ars) (hfit:QM H Hc (Vb 0 ars)) (hc:ACallPan P f ars Hc v lone)
  (h:QQ (.panic [{ v:=v,recovered:=false }]) [] []):AOX P n g ops.toArray (o::rest) env H QQ:=by
 refine ⟨fun a w hinv=>?_⟩;have hw:=qw hinv hg;obtain ⟨h1,h2,K,ρ,hf,he⟩:=hinv;refine wpList_step fun KK hKK=>?_
 rw [if_pos hw];have hpa:=zbM (a:=a) he hargs;have hall:Qd K w ρ Hc ars (xs.toList.map a.eval) :=
  ⟨hpa.1,fun k c v hc hv=>(hpa.2 k c v hc hv).refs (by
   have hin:=hfit.2;simp only [Bool.and_eq_true] at hin;have key:∀ (l:List AV) (b k:Nat) (c:AV),l[k]?=some c->Xm Hc (Vb b l)=true->ZX Hc c=true:=by
    intro l;induction l with
    | nil=>intro b k c hc;simp at hc
    | cons x l ih =>
     intro b k c hc hb;simp only [Vb,Xm,Bool.and_eq_true] at hb;cases k with
     | zero=>simp at hc;subst hc;exact hb.1
     | succ k=>simp at hc;exact ih _ k c hc hb.2
   exact key ars 0 k c hc hin.1)⟩
 have hrun:(execOp a.eval o).run P w=.ok (.enter f (xs.toList.map a.eval).toArray) w:=by
  have e:(xs.toList.map a.eval).toArray=xs.map a.eval:=by rw [<-Array.toList_map,Array.toArray_toList]
  rw [e];simp [execOp,hop,resolve,Act.eval,Deferred.ofValue,invoke,ZK hc.stands]
 unfold Oper.wp;rw [hrun];simp only [Oper.upon];refine (hc.calls g K ρ w _ hw1 (hf.narrow hfit) hall).mono fun e w' ⟨e1,K',ρ',hf'⟩=>?_
 subst e1;exact ⟨[],[],⟨h1,h2,K',ρ',hf',fun t av ht=>by simp [Env.get_nil] at ht⟩,.inr ⟨_,rfl⟩,h⟩
theorem zkd {x:Operand} {v:Value} {t:TypeId} (hg:guardE ops env o=some true) (hop:o.op=.panic x) (hx:env.pv H x=some (.base (.iface t v))) (h:QQ (.panic [{ v:=.iface t v,recovered:=false }]) env H):AOX P n g ops.toArray (o::rest) env H QQ:=by
 refine ⟨fun a w hinv=>?_⟩;have hw:=qw hinv hg;have hinv':=hinv;obtain ⟨h1,h2,K,ρ,hf,he⟩:=hinv;refine wpList_step fun KK hKK=>?_
 rw [if_pos hw];have hxr:=qA (a:=a) hf (x:=x) (fun av hh=>qI he hh) hx;unfold Oper.wp;generalize hxv:a.eval x=xv at hxr;cases hxr;have hrun:(execOp a.eval o).run P w=.halt (.panic (.iface t v)) w:=by
  simp [execOp,hop,hxv,Instr.panic]
 rw [hrun];exact ⟨env,H,hinv',.inr ⟨_,rfl⟩,h⟩
end
section
variable {P:Program} {tb:Tab} {n:Nat} {H H':HEnv} {f:FuncId} {args:List AV}
theorem zaU {fn:Func} {c:Code} {v:Value} (hf:P.funcs[f]?=some fn) (hb:fn.body=some c) (hn:(fn.name == "runtime.NumGoroutine")=false) (hnt:fn.ntmps=n) (hargs:args.length<=n)
  {lone:Bool} (h:∀ g:Base,(lone=true->g.w1.heap.size=0)->AW P n g c (Vb 0 args) H (fun ex _ _=>ex=.panic [{ v:=v,recovered:=false }])):ACallPan P f args H v lone:=by
 refine ⟨⟨fn,hf,by simp [hb],hn⟩,fun g0 K ρ w vs hw1 hfs0 hv=>?_⟩;obtain ⟨g,hg0⟩:∃ g:Base,g=⟨g0.w0,g0.K0,g0.w1,[],g0.wp,g0.pr⟩:=⟨_,rfl⟩
 have hfs:FS g K ρ H w:=by subst hg0;exact ⟨hfs0.below,hfs0.old,hfs0.new,hfs0.lt,hfs0.others,⟨hfs0.pt.same,hfs0.pt.kept⟩,hfs0.away,hfs0.heap⟩
 refine calls_of_wp hf hb ?_;have hlen:vs.length=args.length:=hv.1;refine wp_mono (wpIn_wide.1 ((h g (by subst hg0;exact hw1)).go _ w ⟨by simp [hnt];omega,by subst hg0;rfl,K,ρ,hfs,?_⟩ none 0)) ?_
 ·intro t av hg;obtain ⟨_,hp⟩:=VA args 0 t av hg;have hlt:t < vs.length:=by rw [hlen];exact (List.getElem?_eq_some_iff.1 hp).1
  refine ⟨vs[t],?_,hv.2 t av _ hp (List.getElem?_eq_getElem hlt)⟩;rw [Array.getElem?_append_left zwy80];simp [hlt]
 ·rintro e a' w' ⟨env1,H1,hi,rfl⟩;obtain ⟨_,h2,K',ρ',hf',_⟩:=hi;have hf2:FS g K' ρ' [] w':=hf'.narrow (e:=[]) ⟨zB,rfl⟩;refine ⟨by rw [h2];subst hg0;rfl,rfl,K',ρ',?_⟩;subst hg0;exact ⟨hf2.below,hf2.old,hf2.new,hf2.lt,hf2.others,⟨hf2.pt.same,hf2.pt.kept⟩,hf2.away,hf2.heap⟩
theorem zI (htb:qm P tb) {fn:Func} {c:Code} {o:Out} (hf:P.funcs[f]?=some fn) (hb:fn.body=some c) (hn:(fn.name == "runtime.NumGoroutine")=false) (hnt:fn.ntmps=n) (hargs:args.length<=n) (rs:List ResultVar) (hrs:fn.results.toList=rs)
  {lone:Bool} (h:∀ g:Base,(lone=true->g.w1.heap.size=0)->AW P n g c (Vb 0 args) H (zkS tb rs o)):QF P f args H o lone:=by
 cases o with
 | ret r H'=>exact Zk htb hf hb hn hnt hargs rs hrs h
 | pan v=>exact zaU hf hb hn hnt hargs h
end
section
variable {P:Program} {tb:Tab} {n:Nat} {g:Base} {K K':KK} {w w':World} {ρ ρ':Nat->Value} {H H':HEnv} {env:Env} {a:Act} {ops:List Oper} {o:Oper} {rest:List Oper} {Q:Env->HEnv->Prop} {f:FuncId} {args:List AV} {r:AV}
theorem zf5 {ars:List AV} {vs:List Value} (Hc Hc' R:HEnv) {lone:Bool} (ps:List Nat) (hw1:lone=true->g.w1.heap.size=0) (hsub:HSub H (Hc++R))
  (hchk:XU Hc Hc' R ps ars [] r=true) (hc:∀ us,ACallM P f ars (Hc++qB us ps) r (Hc'++qB us ps) lone) (hf:FS g K ρ H w) (hall0:Qd K w ρ H ars vs) :
  Calls P f vs.toArray w fun e w'=>∃ v K' ρ2,e=.returned v/\FS g K' ρ2 (Hc'++R) w'/\ARel K' w' ρ2 (Hc'++R) r v/\Later K K' w w'/\(∀ j,(HEnv.get (R++VQ ps) j).isSome=true->(HEnv.get (Hc'++R) j).isSome=true/\ρ2 j=ρ j):=by
 simp only [XU,Bool.and_eq_true] at hchk;obtain ⟨⟨⟨⟨⟨⟨⟨⟨⟨⟨d1,d2⟩,d3⟩,d4⟩,i1⟩,i2⟩,i3⟩,i4⟩,i5⟩,i6⟩,i7⟩:=hchk;have i7':∀ i∈ps,(Hc.get i).isSome=true/\(Hc'.get i).isSome=true:=fun i hi=>by simpa using List.all_eq_true.1 i7 i hi
 have hlatR:Later K K w w:=.refl K w;have gC:∀ i x,Hc.get i=some x->H.get i=some x:=fun i x hx=>hsub i x (by rw [get_append,hx])
 have gR:∀ i x,R.get i=some x->H.get i=some x:=fun i x hx=>hsub i x (by
  rw [get_append];cases hh:Hc.get i with
  | none=>exact hx
  | some y=>rw [YQ d1 i y hh] at hx;cases hx)
 have nC:∀ i x,R.get i=some x->Hc.get i=none:=fun i x hx=>by
  cases hh:Hc.get i with
  | none=>rfl
  | some y=>rw [YQ d1 i y hh] at hx;cases hx
 have nC':∀ i x,R.get i=some x->Hc'.get i=none:=fun i x hx=>by
  cases hh:Hc'.get i with
  | none=>rfl
  | some y=>rw [YQ d2 i y hh] at hx;cases hx
 have hpinC:∀ {A:HEnv} {us:Nat->Value} {i:Nat} {x:HE},HEnv.get (A++qB us ps) i=some x->x.live=true->A.get i=some x:=by
  intro A us i x hx hl;rw [get_append] at hx;cases hh:A.get i with
  | some z=>rw [hh] at hx;exact hx
  | none =>
   rw [hh] at hx;obtain ⟨_,_,rfl⟩:=XM hx;simp [HE.live] at hl
 obtain ⟨g',hg'⟩:∃ g':Base,g'=⟨g.w0,K,g.w1,g.ds,w,fun b=>g.pr b\/∃ i x,R.get i=some x/\x.live=true/\yj (ρ i)=some b⟩:=⟨_,rfl⟩
 have hfs:FS g' K ρ (Hc++qB ρ ps) w:=by
  subst hg';refine ⟨hf.below,fun _ _ h=>h,fun _ _ h=>.inl h,hf.lt,hf.others,⟨?_,fun _ _ _=>rfl⟩,?_,?_,?_⟩
  ·rintro b (hb|⟨i,x,hi,hl,hb⟩)
   ·exact ⟨(hf.pt.same b hb).1,rfl,fun _=>Iff.rfl⟩
   ·exact ⟨((hf.heap.ok i x (gR i x hi)).block_lt hl hb).2,rfl,fun _=>Iff.rfl⟩
  ·intro i x b hi hl hb;have hC:=hpinC hi hl;rintro (hp|⟨j,y,hj,hly,hbj⟩)
   ·exact hf.away i x b (gC i x hC) hl hb hp
   ·have hne:i≠j:=by rintro rfl;rw [nC i y hj] at hC;cases hC
    exact hf.heap.apart i j x y b hne (gC i x hC) (gR j y hj) hl hly hb hbj
  ·intro i x hi;rw [get_append] at hi;cases hh:Hc.get i with
   | some y =>
    rw [hh] at hi;simp only [Option.some.injEq] at hi;subst hi;have hok:=hf.heap.ok i y (gC i y hh);have hk:∀ j,(HEnv.get Hc j).isSome=true->(HEnv.get (Hc++qB ρ ps) j).isSome=true/\ρ j=ρ j:=fun j hj=>⟨yI j hj,rfl⟩
    cases y with
    | cell v=>obtain ⟨b,t,arr,u,q1,q2,q3,q4,q5,q6⟩:=hok;exact ⟨b,t,arr,u,q1,q2,q3,(q4.refs (Qi i2 i v hh)).keeps hlatR hk,q5,q6⟩
    | pin v u=>exact (ARel.refs hok (Yk i2 i v u hh)).keeps hlatR hk
    | row t sz es=>exact hok
    | mrow t sz es=>exact hok
    | dead=>exact hok
    | obj X=>exact hok
   | none =>
    rw [hh] at hi;obtain ⟨q1,q2,rfl⟩:=XM hi;exact .own _ (yI _ (i7' _ q2).1)
  ·intro i j x y b hij hi hj lx ly bx bj;exact hf.heap.apart i j x y b hij (gC i x (hpinC hi lx)) (gC j y (hpinC hj ly)) lx ly bx bj
 have hall:Qd K w ρ (Hc++qB ρ ps) ars vs :=
  ⟨hall0.1,fun k c v hc hv=>((hall0.2 k c v hc hv).refs (ZT i1 k c hc)).keeps hlatR fun j hj=>⟨yI j hj,rfl⟩⟩
 refine ((hc ρ).calls g' K ρ w _ (by subst hg';exact hw1) hfs hall).mono fun e w' ⟨v,K',ρ',e1,hf',hv⟩=>?_
 subst e1;have hlat:Later K K' w w':=by subst hg';exact ⟨hf'.old,hf'.pt.kept⟩
 have hprot:∀ b,(g.pr b\/∃ i x,R.get i=some x/\x.live=true/\yj (ρ i)=some b)->b < w'.heap.size/\w'.heap[b]?=w.heap[b]? /\∀ o,K' b o↔K b o:=by subst hg';exact hf'.pt.same
 have haway:∀ i x b,Hc'.get i=some x->x.live=true->yj (ρ' i)=some b->¬ (g.pr b\/∃ i x,R.get i=some x/\x.live=true/\yj (ρ i)=some b):=by
  subst hg';exact fun i x b hi=>hf'.away i x b (by rw [get_append,hi])
 obtain ⟨ρ2,hρ2⟩:∃ ρ2:Nat->Value,∀ j,ρ2 j=if (Hc'.get j).isSome then ρ' j else ρ j:=⟨_,fun _=>rfl⟩
 have r1:∀ j,(Hc'.get j).isSome=true->ρ2 j=ρ' j:=fun j hj=>by rw [hρ2,if_pos hj]
 have r2:∀ j,Hc'.get j=none->ρ2 j=ρ j:=fun j hj=>by rw [hρ2,hj];rfl
 have hkC:∀ j,(HEnv.get Hc' j).isSome=true->(HEnv.get (Hc'++R) j).isSome=true/\ρ2 j=ρ' j:=fun j hj=>⟨yI j hj,r1 j hj⟩
 have hps:∀ i∈ps,ρ' i=ρ i:=fun i hi=>by
  have hnone:Hc'.get (1000 + i)=none:=by
   cases hh:Hc'.get (1000 + i) with
   | none=>rfl
   | some x=>have:=Vx d4 _ x hh;omega
  have:=hf'.heap.ok (1000 + i) _ zwy105;have this:ARel K' w' ρ' (Hc'++qB ρ ps) (.own i) (ρ i):=this;generalize hu:ρ i=u at this;cases this with
  | own _ _=>rfl
 have hkR:∀ j,(HEnv.get (R++VQ ps) j).isSome=true->(HEnv.get (Hc'++R) j).isSome=true/\ρ2 j=ρ j:=fun j hj=>by
  rw [get_append] at hj;cases hh:R.get j with
  | some x =>
   have hn:=nC' j x hh;exact ⟨by rw [get_append,hn,hh];rfl,r2 j hn⟩
  | none =>
   rw [hh] at hj;have hm:=zdN hj;have hs':=(i7' j hm).2;exact ⟨yI j hs',by rw [r1 j hs',hps j hm]⟩
 have hfs2:FS g K' ρ2 (Hc'++R) w':=by
  have b1:Below g.w0.heap.size g.w0 w':=by subst hg';exact hf'.below
  have b3:∀ b o,K' b o->K b o\/g.w0.heap.size<=b:=by subst hg';exact hf'.new
  have b5:KeepsOthers g.w1 w':=by subst hg';exact hf'.others
  have bB:HRel K' w' g.w0.heap.size ρ' (Hc'++qB ρ ps):=by subst hg';exact hf'.heap
  refine ⟨b1,fun b o h=>hlat.sub b o (hf.old b o h),fun b o hk=>(b3 b o hk).elim (hf.new b o) .inr,hf'.lt,b5,⟨fun b hb=>?_,fun b o h0=>(hlat.cell b o (hf.old b o h0)).trans (hf.pt.kept b o h0)⟩,fun i x b hi hl hb=>?_,fun i x hi=>?_,fun i j x y b hij hi hj lx ly bx bj=>?_⟩
  ·obtain ⟨p1,p2,p3⟩:=hprot b (.inl hb);obtain ⟨q1,q2,q3⟩:=hf.pt.same b hb;exact ⟨p1,p2.trans q2,fun o=>(p3 o).trans (q3 o)⟩
  ·rw [get_append] at hi;cases hh:Hc'.get i with
   | some y =>
    rw [hh] at hi;simp only [Option.some.injEq] at hi;subst hi;rw [r1 i zwy119] at hb;exact fun hp=>haway i y b hh hl hb (.inl hp)
   | none =>
    rw [hh] at hi;rw [r2 i hh] at hb;exact hf.away i x b (gR i x hi) hl hb
  ·rw [get_append] at hi;cases hh:Hc'.get i with
   | some y =>
    rw [hh] at hi;simp only [Option.some.injEq] at hi;subst hi;rw [r1 i zwy119];have hok:=bB.ok i y (by rw [get_append,hh]);have hl':=Later.refl K' w';cases y with
    | cell v=>obtain ⟨b,t,arr,u,q1,q2,q3,q4,q5,q6⟩:=hok;exact ⟨b,t,arr,u,q1,q2,q3,(q4.refs (Qi i3 i v hh)).keeps hl' hkC,q5,q6⟩
    | pin v u=>exact (ARel.refs hok (Yk i3 i v u hh)).keeps hl' hkC
    | row t sz es=>exact hok
    | mrow t sz es=>exact hok
    | dead=>exact hok
    | obj X=>exact hok
   | none =>
    rw [hh] at hi;rw [r2 i hh];have hok:=hf.heap.ok i x (gR i x hi);have hsame:x.live=true->∀ b,yj (ρ i)=some b->w'.heap[b]?=w.heap[b]? /\∀ o,K' b o↔K b o:=fun hl b hb=>(hprot b (.inr ⟨i,x,hi,hl,hb⟩)).2
    cases x with
    | cell v =>
     obtain ⟨b,t,arr,u,q1,q2,q3,q4,q5,q6⟩:=hok;obtain ⟨s1,s2⟩:=hsame rfl b zwy120;exact ⟨b,t,arr,u,q1,q2,by rw [s1];exact q3,(q4.refs (Qi i5 i v hi)).keeps hlat hkR,q5,fun o hk=>q6 o ((s2 o).1 hk)⟩
    | pin v u=>exact (ARel.refs hok (Yk i5 i v u hi)).keeps hlat hkR
    | row t sz es =>
     obtain ⟨xs,q1,q2,q3,q4⟩:=hok;refine ⟨xs,Yv q1 fun b hb=>(hsame rfl b hb).1,q2,fun k e he=>?_,fun b hb o=>?_⟩
     ·obtain ⟨c1,c2⟩:=q3 k e he;exact ⟨c1,fun k c hc=>let ⟨v,h4,h5,h6⟩:=c2 k c hc;⟨v,h4,h5,h6.later hlat⟩⟩
     ·rw [(hsame rfl b ((Qx q1 b).2 hb)).2 o];exact q4 b hb o
    | mrow t sz es =>
     obtain ⟨xs,q1,q2,q3,q4⟩:=hok;refine ⟨xs,Yv q1 fun b hb=>(hsame rfl b hb).1,q2,fun k e he=>?_,fun b hb o hk=>?_⟩
     ·obtain ⟨c1,c2⟩:=q3 k e he;exact ⟨c1,fun k c hc=>let ⟨v,h4,h5,h6⟩:=c2 k c hc;⟨v,h4,h5,h6.later hlat⟩⟩
     ·exact q4 b hb o (((hsame rfl b ((Qx q1 b).2 hb)).2 o).1 hk)
    | dead=>trivial
    | obj X =>
     obtain ⟨b,ob,q1,q2,q3,q4,q5⟩:=hok;obtain ⟨s1,s2⟩:=hsame rfl b zwy120;exact ⟨b,ob,q1,q2,by rw [s1];exact q3,q4,fun o hk=>q5 o ((s2 o).1 hk)⟩
  ·rw [get_append] at hi hj;cases hhi:Hc'.get i with
   | some x' =>
    rw [hhi] at hi;simp only [Option.some.injEq] at hi;subst hi;rw [r1 i (by rw [hhi];rfl)] at bx;cases hhj:Hc'.get j with
    | some y' =>
     rw [hhj] at hj;simp only [Option.some.injEq] at hj;subst hj;rw [r1 j zwy114] at bj;exact bB.apart i j x' y' b hij (by rw [get_append,hhi]) (by rw [get_append,hhj]) lx ly bx bj
    | none =>
     rw [hhj] at hj;rw [r2 j hhj] at bj;exact haway i x' b hhi lx bx (.inr ⟨j,y,hj,ly,bj⟩)
   | none =>
    rw [hhi] at hi;rw [r2 i hhi] at bx;cases hhj:Hc'.get j with
    | some y' =>
     rw [hhj] at hj;simp only [Option.some.injEq] at hj;subst hj;rw [r1 j zwy114] at bj;exact haway j y' b hhj ly bj (.inr ⟨i,x,hi,lx,bx⟩)
    | none =>
     rw [hhj] at hj;rw [r2 j hhj] at bj;exact hf.heap.apart i j x y b hij (gR i x hi) (gR j y hj) lx ly bx bj
 exact ⟨v,K',ρ2,rfl,hfs2,(hv.refs i4).keeps (Later.refl K' w') hkC,hlat,hkR⟩
def zau (X:HEnv):Env->Env
 | []=>[]
 | (t,v)::e=>(t,if ZX X v then v else .any)::zau X e
theorem zbG (X:HEnv):∀ (e:Env) (t:Nat),(zau X e).get t=(e.get t).map fun v=>if ZX X v then v else .any
 | [],t=>rfl
 | (t',v)::e,t=>by
  rw [zau,Env.get_cons,Env.get_cons];split
  ·rfl
  ·exact zbG X e t
theorem zh3 {xs:Array Operand} {ts:Array TypeId} {d:Tmp} {ars:List AV} (Hc Hc' R:HEnv) {lone:Bool} (ps:List Nat) (hw1:lone=true->g.w1.heap.size=0) (hg:guardE ops env o=some true)
  (hop:o.op=.call { callee:=.value (.func f),args:=xs,argTypes:=ts }) (hargs:avs env xs.toList=some ars) (hsub:HSub H (Hc++R)) (hd:o.dst=some d) (hdt:Nat.blt d n=true)
  (hchk:XU Hc Hc' R ps ars [] r=true) (hc:∀ us,ACallM P f ars (Hc++qB us ps) r (Hc'++qB us ps) lone)
  (h:AO P n g ops.toArray rest ((d,r)::zau (R++VQ ps) env) (Hc'++R) Q):AO P n g ops.toArray (o::rest) env H Q:=by
 refine ⟨fun a w hinv=>?_⟩;have hw:=qw hinv hg;obtain ⟨h1,h2,K,ρ,hf,he⟩:=hinv;refine wpList_step fun KK hKK=>?_
 rw [if_pos hw];have hrun:(execOp a.eval o).run P w=.ok (.enter f (xs.toList.map a.eval).toArray) w:=by
  have e:(xs.toList.map a.eval).toArray=xs.map a.eval:=by rw [<-Array.toList_map,Array.toArray_toList]
  rw [e];simp [execOp,hop,resolve,Act.eval,Deferred.ofValue,invoke,ZK (hc ρ).stands]
 unfold Oper.wp;rw [hrun];simp only [Oper.upon];refine (zf5 Hc Hc' R ps hw1 hsub hchk hc hf (zbM (a:=a) he hargs)).mono fun e w' ⟨v,K',ρ2,e1,hf',hv,hlat,hps⟩=>?_
 subst e1;refine hKK _ _ (h.go _ _ ⟨Zm h1,put_defers h2,K',ρ2,hf',?_⟩);rw [hd];refine Ye h1 hdt (fun t av ht=>?_) hv;rw [zbG] at ht;cases hE:env.get t with
 | none=>simp [hE] at ht
 | some v0 =>
  obtain ⟨u,u1,u2⟩:=he t v0 hE;simp only [hE,Option.map_some,Option.some.injEq] at ht;subst ht;refine ⟨u,u1,?_⟩;split
  ·rename_i hr;exact (u2.refs hr).keeps hlat hps
  ·exact .any u
def zgV (i:Nat):HEnv->HEnv
 | []=>[]
 | x::H=>if Nat.beq x.1 i then zgV i H else x::zgV i H
theorem zgs (i:Nat):∀ (H:HEnv) (j:Nat),j≠i->(zgV i H).get j=H.get j
 | [],j,_=>rfl
 | (m,x)::H,j,hj=>by
  rw [zgV];split
  ·rename_i e;have e':=Nat.eq_of_beq_eq_true e;simp only at e';subst e';rw [zgs m H j hj,HEnv.get_cons,if_neg (fun h=>hj h.symm)]
  ·rw [HEnv.get_cons,HEnv.get_cons,zgs i H j hj]
theorem zx {xs:Array Operand} {ts:Array TypeId} {d:Tmp} {ars:List AV} (i:Nat) {x x':HE} {lone:Bool} (hw1:lone=true->g.w1.heap.size=0) (hg:guardE ops env o=some true)
  (hop:o.op=.call { callee:=.value (.func f),args:=xs,argTypes:=ts }) (hc:∀ us,ACallM P f ars ([(i,x)]++qB us [i]) r ([(i,x')]++qB us [i]) lone) (hargs:avs env xs.toList=some ars) (h0:H.get i=some x) (hd:o.dst=some d) (hdt:Nat.blt d n=true)
  (hchk:XU [(i,x)] [(i,x')] (zgV i H) [i] ars [] r=true)
  (h:AO P n g ops.toArray rest ((d,r)::zau (zgV i H++VQ [i]) env) ((i,x')::zgV i H) Q):AO P n g ops.toArray (o::rest) env H Q :=
 zh3 [(i,x)] [(i,x')] (zgV i H) [i] hw1 hg hop hargs (fun j y hj=>by
  rw [get_append,HEnv.get_cons,HEnv.get_nil] at hj;by_cases e:i=j
  ·subst e;rw [if_pos rfl] at hj;simp only [Option.some.injEq] at hj;subst hj;exact h0
  ·rw [if_neg e] at hj;rw [<-zgs i H j (fun h=>e h.symm)];exact hj) hd hdt hchk hc h
theorem ay {xs:Array Operand} {ts:Array TypeId} {d:Tmp} {ars:List AV} (i:Nat) {x x':HE} {lone:Bool} (hc:∀ us,ACallM P f ars ([(i,x)]++qB us [i]) r ([(i,x')]++qB us [i]) lone) (h:AO P n g ops.toArray rest ((d,r)::zau (zgV i H++VQ [i]) env) ((i,x')::zgV i H) Q) (hw1:lone=true->g.w1.heap.size=0:=by exact zi) (hg:guardE ops env o=some true:=by exact rfl) (hop:o.op=.call { callee:=.value (.func f),args:=xs,argTypes:=ts }:=by exact rfl) (hargs:avs env xs.toList=some ars:=by exact rfl) (h0:H.get i=some x:=by exact rfl) (hd:o.dst=some d:=by exact rfl) (hdt:Nat.blt d n=true:=by exact rfl) (hchk:XU [(i,x)] [(i,x')] (zgV i H) [i] ars [] r=true:=by exact rfl):AO P n g ops.toArray (o::rest) env H Q:=zx i hw1 hg hop hc hargs h0 hd hdt hchk h
theorem zo {QQ:QC} {id:Nat} (id' k:Nat) {l1 l2:List Oper} (_:id=id') (h1:ops.take k=l1) (h2:ops.drop k=l2) (h:AO P n g ops.toArray l1 env H (fun env' H'=>AOX P n g ops.toArray l2 env' H' QQ)) (hnd:Zr ops=true:=by kernel_rfl) :
  AW P n g (.region id ops.toArray false) env H QQ:=zpi (zvf k h1 h2 h) hnd
theorem zka {t:TypeId} {x:Operand} {k k0:IntKind} {m:Int} (hop:o.op=.makeInterface t x) (hu:P.underlying t=some (.int k0)) (hx:env.pv H x=some (.base (.int k m))):QStep P g H o env (.pv (.base (.iface t (.int k m)))):=by
 refine ⟨fun K ρ a w hf hv=>?_⟩;have hxr:=qA hf (hv x zwy68) hx;generalize hxv:a.eval x=xv at hxr;cases hxr;have hrun:(execOp a.eval o).run P w=.ok (.value (.iface t (.int k m))) w:=by
  simp [execOp,hop,hxv,Instr.makeInterface,run_underlying hu]
 rw [hrun];exact Yq hf (.pv _ _ (.base _ rfl))
structure EStep (P:Program) (g:Base) (H0 H1 Ht:HEnv) (o:Oper) (e:Env) (r:AV) (pan:Option Value):Prop where
 go:∀ (K:KK) (ρ:Nat->Value) (a:Act) (w:World),FS g K ρ H0 w->(∀ x∈o.op.operands,∀ av,e.val x=some av->ARel K w ρ Ht av (a.eval x)) ->
  ∃ f vs,(execOp a.eval o).run P w=.ok (.enter f vs) w/\Calls P f vs w fun ex w' =>
   match pan with
   | none=>∃ v K' ρ',ex=.returned v/\FS g K' ρ' H1 w'/\Later K K' w w'/\(∀ j,(Ht.get j).isSome=true->ρ' j=ρ j)/\ARel K' w' ρ' Ht r v
   | some v=>ex=.panicked [{ v:=v,recovered:=false }]/\∃ K' ρ',FS g K' ρ' [] w'
def qM (A B:HEnv):Bool:=A.all fun x=>(B.get x.1).isSome
theorem YH {A B:HEnv} (h:qM A B=true):∀ j,(A.get j).isSome=true->(B.get j).isSome=true:=by
 induction A with
 | nil=>intro j hj;simp [HEnv.get_nil] at hj
 | cons y A ih =>
  intro j hj;obtain ⟨i,z⟩:=y;simp only [qM,List.all_cons,Bool.and_eq_true] at h;rw [HEnv.get_cons] at hj;split at hj
  ·rename_i e;subst e;exact h.1
  ·exact ih h.2 j hj
theorem ze0 {e:Env} {Ht:HEnv} {a:Act}:∀ {xs:List Operand} {ars:List AV},(∀ x∈xs,∀ av,e.val x=some av->ARel K w ρ Ht av (a.eval x))->avs e xs=some ars->Qd K w ρ Ht ars (xs.map a.eval)
 | [],ars,_,h=>by simp only [avs,Option.some.injEq] at h;subst h;exact ⟨rfl,fun k c v hc=>by simp at hc⟩
 | x::xs,ars,hv,h=>by
  simp only [avs] at h;split at h
  ·rename_i v vs h1 h2;simp only [Option.some.injEq] at h;subst h;obtain ⟨q1,q2⟩:=ze0 (xs:=xs) (fun y hy=>hv y zwy112) h2;refine ⟨by simp [q1],fun k c u hc hu=>?_⟩;cases k with
   | zero=>simp at hc hu;subst hc hu;exact hv x zwy63 v h1
   | succ k=>simp at hc hu;exact q2 k c u hc (by simpa using hu)
  ·cases h
theorem zmK {xs:Array Operand} {ts:Array TypeId} {ars:List AV} {Ht:HEnv} {e:Env} (Hc Hc' R:HEnv) {lone:Bool} (ps:List Nat) (hw1:lone=true->g.w1.heap.size=0)
  (hop:o.op=.call { callee:=.value (.func f),args:=xs,argTypes:=ts }) (hargs:avs e xs.toList=some ars) (hsub:HSub H (Hc++R)) (hk:qM Ht H=true) (hk2:qM Ht (R++VQ ps)=true)
  (hr:ZX Ht r=true) (hchk:XU Hc Hc' R ps ars [] r=true) (hc:∀ us,ACallM P f ars (Hc++qB us ps) r (Hc'++qB us ps) lone):EStep P g H (Hc'++R) Ht o e r none:=by
 refine ⟨fun K ρ a w hf hv=>?_⟩;have hrun:(execOp a.eval o).run P w=.ok (.enter f (xs.toList.map a.eval).toArray) w:=by
  have e:(xs.toList.map a.eval).toArray=xs.map a.eval:=by rw [<-Array.toList_map,Array.toArray_toList]
  rw [e];simp [execOp,hop,resolve,Act.eval,Deferred.ofValue,invoke,ZK (hc ρ).stands]
 refine ⟨f,_,hrun,?_⟩;have hpa:Qd K w ρ Ht ars (xs.toList.map a.eval):=ze0 (fun x hx=>hv x zwy75) hargs;have hall:Qd K w ρ H ars (xs.toList.map a.eval):=⟨hpa.1,fun k c v hc hv=>(hpa.2 k c v hc hv).keeps (.refl K w) fun j hj=>⟨YH hk j hj,rfl⟩⟩
 refine (zf5 Hc Hc' R ps hw1 hsub hchk hc hf hall).mono fun ex w' ⟨v,K',ρ2,e1,hf',hv,hlat,hps⟩=>?_
 exact ⟨v,K',ρ2,e1,hf',hlat,fun j hj=>(hps j (YH hk2 j hj)).2,hv.refs hr⟩
theorem zrA {xs:Array Operand} {ts:Array TypeId} {ars:List AV} {Ht H1:HEnv} {e:Env} {v:Value} (Hc:HEnv) {lone:Bool} (hw1:lone=true->g.w1.heap.size=0)
  (hop:o.op=.call { callee:=.value (.func f),args:=xs,argTypes:=ts }) (hargs:avs e xs.toList=some ars) (hfit:QM H Hc []) (hin:QW Hc ars=true) (hc:ACallPan P f ars Hc v lone):EStep P g H H1 Ht o e r (some v):=by
 refine ⟨fun K ρ a w hf hv=>?_⟩;have hrun:(execOp a.eval o).run P w=.ok (.enter f (xs.toList.map a.eval).toArray) w:=by
  have e:(xs.toList.map a.eval).toArray=xs.map a.eval:=by rw [<-Array.toList_map,Array.toArray_toList]
  rw [e];simp [execOp,hop,resolve,Act.eval,Deferred.ofValue,invoke,ZK hc.stands]
 refine ⟨f,_,hrun,?_⟩;have hpa:Qd K w ρ Ht ars (xs.toList.map a.eval):=ze0 (fun x hx=>hv x zwy75) hargs;have hall:Qd K w ρ Hc ars (xs.toList.map a.eval):=⟨hpa.1,fun k c v hc hv=>(hpa.2 k c v hc hv).refs (ZT hin k c hc)⟩
 exact hc.calls g K ρ w _ hw1 (hf.narrow hfit) hall
theorem zhI {i:Nat} {v v':AV} {R:HEnv} (hf:FS g K ρ ((i,.cell v)::R) w) (ht:Tells v v'):FS g K ρ ((i,.cell v')::R) w:=by
 have hsome:∀ j,(HEnv.get ((i,HE.cell v)::R) j).isSome=(HEnv.get ((i,HE.cell v')::R) j).isSome:=fun j=>by rw [HEnv.get_cons,HEnv.get_cons];split <;> rfl
 have hk:∀ j,(HEnv.get ((i,HE.cell v)::R) j).isSome=true->(HEnv.get ((i,HE.cell v')::R) j).isSome=true/\ρ j=ρ j:=fun j hj=>⟨by rw [<-hsome];exact hj,rfl⟩
 have hold:∀ j x,HEnv.get ((i,HE.cell v')::R) j=some x->(j=i/\x=.cell v')\/(j≠i/\HEnv.get ((i,HE.cell v)::R) j=some x):=fun j x hx=>by
  rw [HEnv.get_cons] at hx;split at hx
  ·rename_i e;subst e;simp only [Option.some.injEq] at hx;exact .inl ⟨rfl,hx.symm⟩
  ·rename_i e;exact .inr ⟨fun h=>e h.symm,by rw [HEnv.get_cons,if_neg e];exact hx⟩
 have h0:HEnv.get ((i,HE.cell v)::R) i=some (.cell v):=by rw [HEnv.get_cons,if_pos rfl]
 refine ⟨hf.below,hf.old,hf.new,hf.lt,hf.others,hf.pt,fun j x b hj hl hb=>?_,fun j x hj=>?_,fun j j' x x' b hjj hj hj' hl hl' hb hb'=>?_⟩
 ·rcases hold j x hj with ⟨rfl,rfl⟩|⟨_,hj⟩
  ·exact hf.away j _ b h0 rfl hb
  ·exact hf.away j x b hj hl hb
 ·rcases hold j x hj with ⟨rfl,rfl⟩|⟨_,hj⟩
  ·obtain ⟨b,t,arr,u,q1,q2,q3,q4,q5,q6⟩:=hf.heap.ok j _ h0;exact ⟨b,t,arr,u,q1,q2,q3,ht _ _ _ _ _ (q4.keeps (.refl K w) hk),q5,q6⟩
  ·exact (hf.heap.ok j x hj).keeps (.refl hf.lt) hf.lt hk
 ·have key:∀ j x,HEnv.get ((i,HE.cell v')::R) j=some x->x.live=true->∃ y,HEnv.get ((i,HE.cell v)::R) j=some y/\y.live=true:=fun j x hj hl=>by
   rcases hold j x hj with ⟨rfl,rfl⟩|⟨_,hj⟩
   ·exact ⟨_,h0,rfl⟩
   ·exact ⟨x,hj,hl⟩
  obtain ⟨y,y1,y2⟩:=key j x hj hl;obtain ⟨y',y3,y4⟩:=key j' x' hj' hl';exact hf.heap.apart j j' y y' b hjj y1 y3 y2 y4 hb hb'
end
section
variable {P:Program} {n:Nat} {g:Base} {K:KK} {w:World} {ρ:Nat->Value} {H H0 H1:HEnv} {env:Env} {a:Act} {ops l:List Oper} {Q:Env->Prop}
theorem znc {l:List Oper} {r:List AV} {e:List Env} {last env:Env} {o:Oper} {ro:AV} {t:Nat} (hd:o.dst=some t)
  (src:∀ (j:Nat) (ej:Env),(e++[last])[j]?=some ej->∀ (t':Nat) (av:AV),ej.get t'=some av->(∃ i o ri,i < j/\l[i]?=some o/\o.dst=some t'/\r[i]?=some ri/\Tells ri av/\(∀ i' o',i < i'->i' < j->l[i']?=some o'->o'.dst≠some t')) \/
   ((∀ i o,i < j->l[i]?=some o->o.dst≠some t')/\∃ av0,Env.get ((t,ro)::env) t'=some av0/\Tells av0 av)) :
  ∀ (j:Nat) (ej:Env),(env::e++[last])[j]?=some ej->∀ (t':Nat) (av:AV),ej.get t'=some av->(∃ i o' ri,i < j/\(o::l)[i]?=some o'/\o'.dst=some t'/\(ro::r)[i]?=some ri/\Tells ri av/\(∀ i' o',i < i'->i' < j->(o::l)[i']?=some o'->o'.dst≠some t')) \/
   ((∀ i o',i < j->(o::l)[i]?=some o'->o'.dst≠some t')/\∃ av0,env.get t'=some av0/\Tells av0 av):=by
 intro j ej hj t' av hav;cases j with
 | zero=>simp at hj;subst hj;exact .inr ⟨by simp,av,hav,.refl _⟩
 | succ j =>
  have hj':(e++[last])[j]?=some ej:=by simpa using hj
  rcases src j ej hj' t' av hav with ⟨i,o',ri,h1,h2,h3,h4,h5,h6⟩|⟨h1,av0,h2,h3⟩
  ·refine .inl ⟨i + 1,o',ri,by omega,by simpa using h2,h3,by simpa using h4,h5,fun i' o'' hi hi' ho=>?_⟩;cases i' with
   | zero=>omega
   | succ i'=>exact h6 i' o'' zwy62 zwy62 zwy79
  ·simp only [Env.get_nil,Env.get_cons] at h2;split at h2
   ·rename_i e;subst e;simp only [Option.some.injEq] at h2;subst h2;refine .inl ⟨0,o,ro,by omega,rfl,hd,rfl,h3,fun i' o'' hi hi' ho=>?_⟩;cases i' with
    | zero=>omega
    | succ i'=>exact h1 i' o'' zwy62 zwy79
   ·rename_i hne;refine .inr ⟨fun i o' hi ho=>?_,av0,h2,h3⟩;cases i with
    | zero=>simp at ho;subst ho;rw [hd];simpa using hne
    | succ i=>exact h1 i o' zwy62 zwy79
theorem zgQ {r:Option Nat} {d:Nat} {id:Nat} {w:World} {QQ:QC} (hd:Zr ops=true) (hm:P.follows .mixedOrders=true) (h:wpAny P .any ops.toArray (fun e a w=>∃ env' H',Inv n g env' H' a w/\(e=.normal\/∃ ch,e=.panic ch)/\QQ e env' H') ops.toArray.size (Array.replicate ops.toArray.size false) a { w with drawn:=w.drawn + 1 }) :
  (Code.region id ops.toArray true).wpIn (zbA r) d P (fun e a w=>∃ env' H',Inv n g env' H' a w/\QQ e env' H') a w :=
 wpIn_mono (wpIn_region_any hm (zaK zid (by simpa using hd) _ _ _ _ h)) (fun e a' w' ⟨env',H',h1,_,h3⟩=>⟨env',H',h1,h3⟩)
theorem yZ {QQ:QC} {id:Nat} (L k:Nat) (_:ops.length=L) (hok:XY ops k=true) (hm:P.follows .mixedOrders=true) (hB:Qo (zS k ops 0) ((zS k ops 0).take k)=true) (hT:Wp (zS k ops 0) k=true) (hk:Nat.ble k (zS k ops 0).length=true)
  (h:AD P n g H (zS k ops 0) (fun env'=>AOX P n g (zS k ops 0).toArray ((zS k ops 0).drop k) env' H QQ) ((zS k ops 0).take k) env) (hnd:Zr ops=true:=by kernel_rfl):AW P n g (.region id ops.toArray true) env H QQ:=by
 obtain ⟨s⟩:=zgv h;refine ⟨fun a w hi rr dd=>?_⟩;refine zgQ hnd hm ?_;have hlen:=VI k ops 0;refine zcK hok _ _ _ _ zwy63 ?_ ?_
 ·intro j o ho hl;have hlt:=(List.getElem?_eq_some_iff.1 ho).1;simp [Array.getD_eq_getD_getElem?,hlt] at hl
 obtain ⟨h1,h2,K,ρ,hf,he⟩:=hi;have hev:Evo K K w { w with drawn:=w.drawn + 1 }:=(Evo.refl hf.lt).drew;have hkl:=Nat.le_of_ble_eq_true hk;have hlk:((zS k ops 0).take k).length=k:=by simp;omega
 have hsz:ops.toArray.size=(zS k ops 0).length:=by simp [hlen]
 rw [hsz];generalize zS k ops 0=ops' at *;refine zan (l:=ops'.take k) (by rw [hlk]) s hB (by rw [hlk];exact hT) (fun env' a' w' h hi'=>?_) _ _ _ _ zwy63 ⟨h1,h2,by simp,by rw [hlk];exact hkl,?_,?_,K,ρ,hf.evo hev,?_,?_⟩
 ·rw [hlk];exact h.go a' w' hi'
 ·intro j _ hj;simp [Array.getD_eq_getD_getElem?,hj]
 ·intro i o ho hli;have hlt:=(List.getElem?_eq_some_iff.1 ho).1;have:i < ops'.length:=by simp at hlt;omega
  simp [Array.getD_eq_getD_getElem?,this] at hli
 ·intro i o ri t ho hli;have hlt:=(List.getElem?_eq_some_iff.1 ho).1;have:i < ops'.length:=by simp at hlt;omega
  simp [Array.getD_eq_getD_getElem?,this] at hli
 ·intro t av hav _;obtain ⟨v,v1,v2⟩:=he t av hav;exact ⟨v,v1,v2.later (hev.later hf.lt)⟩
end
section
variable {P:Program} {tb:Tab} {n:Nat} {g:Base} {K K':KK} {w w':World} {ρ ρ':Nat->Value} {H H':HEnv} {env:Env} {a:Act} {ops:List Oper} {o:Oper} {rest:List Oper} {Q:Env->HEnv->Prop} {f:FuncId} {args:List AV} {r:AV}
def RetC (tb:Tab) (tc ty:Nat) (r:AV) (H':HEnv):QC:=fun ex env H=>(ex=.normal\/ex=.ret)/\∃ i off v,env.get tc=some (.box i off)/\H.get i=some (.cell v)/\XW tb H ty v off=some r/\QM H H' [(0,r)]
theorem zjo {tc ty:Nat} (htb:qm P tb) {fn:Func} {c:Code} (hf:P.funcs[f]?=some fn) (hb:fn.body=some c) (hn:(fn.name == "runtime.NumGoroutine")=false) (hnt:fn.ntmps=n) (hargs:args.length<=n) (hrs:fn.results.toList=[.cell tc ty])
  {lone:Bool} (h:∀ g:Base,(lone=true->g.w1.heap.size=0)->AW P n g c (Vb 0 args) H (RetC tb tc ty r H')):ACallM P f args H r H' lone:=by
 refine ⟨⟨fn,hf,by simp [hb],hn⟩,fun g0 K ρ w vs hw1 hfs0 hv=>?_⟩;obtain ⟨g,hg0⟩:∃ g:Base,g=⟨g0.w0,g0.K0,g0.w1,[],g0.wp,g0.pr⟩:=⟨_,rfl⟩
 have hfs:FS g K ρ H w:=by subst hg0;exact ⟨hfs0.below,hfs0.old,hfs0.new,hfs0.lt,hfs0.others,⟨hfs0.pt.same,hfs0.pt.kept⟩,hfs0.away,hfs0.heap⟩
 refine calls_of_wp hf hb ?_;have hlen:vs.length=args.length:=hv.1;refine wp_mono (wpIn_wide.1 ((h g (by subst hg0;exact hw1)).go _ w ⟨by simp [hnt];omega,by subst hg0;rfl,K,ρ,hfs,?_⟩ none 0)) ?_
 ·intro t av hg;obtain ⟨_,hp⟩:=VA args 0 t av hg;have hlt:t < vs.length:=by rw [hlen];exact (List.getElem?_eq_some_iff.1 hp).1
  refine ⟨vs[t],?_,hv.2 t av _ hp (List.getElem?_eq_getElem hlt)⟩;rw [Array.getElem?_append_left zwy80];simp [hlt]
 ·rintro e a' w' ⟨env1,H1,hi,he,hq⟩;have key:∃ v K' ρ',(results fn a'.tmps).run P w'=.ok v w'/\a'.defers=[]/\FS g0 K' ρ' H' w'/\ARel K' w' ρ' H' r v:=by
   have back:∀ {K':KK} {ρ':Nat->Value},FS g K' ρ' H' w'->FS g0 K' ρ' H' w':=fun hf1=>by
    subst hg0;exact ⟨hf1.below,hf1.old,hf1.new,hf1.lt,hf1.others,⟨hf1.pt.same,hf1.pt.kept⟩,hf1.away,hf1.heap⟩
   obtain ⟨i,off,v0,hget,hcell,hpart,hfit⟩:=hq;obtain ⟨h1,h2,K',ρ',hf',he0⟩:=hi;have hb:=qI he0 (x:=.tmp tc) hget;obtain ⟨v,hv1,hv2⟩:=zah htb hf' hb hcell hpart;have hf2:=FS.narrow hf' hfit;have hin:=hfit.2;simp only [Xm,Bool.and_eq_true] at hin;have hpt:∃ ad,a'.eval (.tmp tc)=.pointer (some ad):=by generalize a'.eval (.tmp tc)=vv at hb;cases hb;exact ⟨_,rfl⟩
   obtain ⟨ad,had⟩:=hpt;have e1:a'.tmps.getD tc undef=.pointer (some ad):=had;have hl:(loadVar ty ad).run P w'=.ok v w':=by
    rw [had] at hv1;simpa [Instr.loadAt,Instr.sureAddr,asAddr] using hv1
   have hres:(results fn a'.tmps).run P w'=.ok v w':=by
    unfold results;rw [Array.mapM_eq_mapM_toList,hrs];simp only [List.mapM_cons,List.mapM_nil,Sem.run_bind,Sem.run_map,e1];simp [asAddr,hl,Result.andThen]
   exact ⟨v,K',ρ',hres,by rw [h2];subst hg0;rfl,back hf2,hv2.refs hin.1.1⟩
  obtain ⟨v,K',ρ',hres,hd,hf',hr⟩:=key;rcases he with rfl|rfl
  ·exact ⟨hd,_,hres,v,K',ρ',rfl,hf',hr⟩
  ·exact ⟨hd,_,hres,v,K',ρ',rfl,hf',hr⟩
end
end Go.Cg
