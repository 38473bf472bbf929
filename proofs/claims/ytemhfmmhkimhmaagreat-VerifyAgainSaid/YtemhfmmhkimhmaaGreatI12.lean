/- A part of the walks by abstract values: no statement of its own. -/
import Derived.Test.YtemhfmmhkimhmaaGreatI8
import Derived.Test.YtemhfmmhkimhmaaGreatI5
import Derived.Shelf.RegionOpenPlain
import Derived.WalkKit
import Derived.Lib.Walk
import Derived.Lib.SliceRun
import Derived.Lib.AppendZerosOnto
import Derived.Laws.CopyOwn
import Derived.OwnWalk
import Derived.Deep.RegionLaw
set_option linter.unusedVariables false
set_option linter.unusedSimpArgs false
namespace Go.Cg
open Go.RowKit
structure ACallM (P:Program) (f:FuncId) (args:List AV) (H:HEnv) (r:AV) (H':HEnv) (lone:Bool:=false):Prop where
 stands:zaY P f
 calls:∀ (g:Base) (K:KK) (ρ:Nat->Value) (w:World) (vs:List Value),(lone=true->g.w1.heap.size=0)->FS g K ρ H w->Qh K w ρ H args vs ->
  Calls P f vs.toArray w fun e w'=>∃ v K' ρ',e=.returned v/\FS g K' ρ' H' w'/\ARel K' w' ρ' H' r v
structure ACallU {ι:Type} (P:Program) (f:FuncId) (args:List AV) (H:HEnv) (r:ι->AV) (H':ι->HEnv) (lone:Bool:=false):Prop where
 stands:zaY P f
 calls:∀ (g:Base) (K:KK) (ρ:Nat->Value) (w:World) (vs:List Value),(lone=true->g.w1.heap.size=0)->FS g K ρ H w->Qh K w ρ H args vs ->
  Calls P f vs.toArray w fun e w'=>∃ v K' ρ' u,e=.returned v/\FS g K' ρ' (H' u) w'/\ARel K' w' ρ' (H' u) (r u) v
def zhu (tb:Tab) (rs:List ResultVar) (r:AV) (H':HEnv):QC:=fun ex env H=>(ex=.normal\/ex=.ret) /\
 ((∃ ps,zan tb H env rs=some ps/\r=.pv (zn ps)/\Qx H H' [])\/(∃ t,rs=[.tmp t]/\env.get t=some r/\Qx H H' [(t,r)]))
section
variable {P:Program} {tb:Tab} {n:Nat} {g:Base} {K K':KK} {w w':World} {ρ ρ':Nat->Value} {H H':HEnv} {env:Env} {a:Act} {ops:List Oper} {o:Oper} {rest:List Oper} {Q:Env->HEnv->Prop} {f:FuncId} {args:List AV} {r:AV}
theorem FS.narrow {e:Env} (hf:FS g K ρ H w) (hs:Qx H H' e):FS g K ρ H' w:=by
 obtain ⟨hs,hin⟩:=hs;simp only [Bool.and_eq_true] at hin;refine ⟨hf.below,hf.old,hf.new,hf.lt,hf.others,hf.pt,fun i h b hi=>hf.away i h b (hs i h hi),?_,?_⟩
 ·intro i h hi;have:=hf.heap.ok i h (hs i h hi);cases h with
  | cell v=>obtain ⟨b,t,arr,u,h1,h2,h3,h4,h5,h6⟩:=this;exact ⟨b,t,arr,u,h1,h2,h3,h4.refs (zbF hin.2 i v hi),h5,h6⟩
  | pin v u=>exact ARel.refs this (zaa hin.2 i v u hi)
  | row t sz es=>exact this
  | mrow t sz es=>exact this
  | dead=>exact this
  | obj X=>exact this
 ·intro i j h h' b hij hi hj;exact hf.heap.apart i j h h' b hij (hs i h hi) (hs j h' hj)
theorem zlR {ι:Type} {r:ι->AV} {H':ι->HEnv} (htb:yZ P tb) {fn:Func} {c:Code} (hf:P.funcs[f]?=some fn) (hb:fn.body=some c) (hn:(fn.name == "runtime.NumGoroutine")=false) (hnt:fn.ntmps=n) (hargs:args.length<=n) (rs:List ResultVar) (hrs:fn.results.toList=rs)
  {lone:Bool} (h:∀ g:Base,(lone=true->g.w1.heap.size=0)->AW P n g c (WM 0 args) H (fun ex env1 H1=>∃ u,zhu tb rs (r u) (H' u) ex env1 H1)):ACallU P f args H r H' lone:=by
 refine ⟨⟨fn,hf,by simp [hb],hn⟩,fun g0 K ρ w vs hw1 hfs0 hv=>?_⟩;obtain ⟨g,hg0⟩:∃ g:Base,g=⟨g0.w0,g0.K0,g0.w1,[],g0.wp,g0.pr⟩:=⟨_,rfl⟩
 have hfs:FS g K ρ H w:=by subst hg0;exact ⟨hfs0.below,hfs0.old,hfs0.new,hfs0.lt,hfs0.others,⟨hfs0.pt.same,hfs0.pt.kept⟩,hfs0.away,hfs0.heap⟩
 refine calls_of_wp hf hb ?_;have hlen:vs.length=args.length:=hv.1;refine wp_mono (wpIn_wide.1 ((h g (by subst hg0;exact hw1)).go _ w ⟨by simp [hnt];omega,by subst hg0;rfl,K,ρ,hfs,?_⟩ none 0)) ?_
 ·intro t av hg;obtain ⟨_,hp⟩:=Vu args 0 t av hg;have hlt:t < vs.length:=by rw [hlen];exact (List.getElem?_eq_some_iff.1 hp).1
  refine ⟨vs[t],?_,hv.2 t av _ hp (List.getElem?_eq_getElem hlt)⟩;rw [Array.getElem?_append_left zwy80];simp [hlt]
 ·rintro e a' w' ⟨env1,H1,hi,u0,he,hq⟩;have key:∃ v K' ρ',(results fn a'.tmps).run P w'=.ok v w'/\a'.defers=[]/\FS g0 K' ρ' (H' u0) w'/\ARel K' w' ρ' (H' u0) (r u0) v:=by
   have back:∀ {K':KK} {ρ':Nat->Value},FS g K' ρ' (H' u0) w'->FS g0 K' ρ' (H' u0) w':=fun hf1=>by
    subst hg0;exact ⟨hf1.below,hf1.old,hf1.new,hf1.lt,hf1.others,⟨hf1.pt.same,hf1.pt.kept⟩,hf1.away,hf1.heap⟩
   rcases hq with ⟨ps,hps,hr0,hfit⟩|⟨t,ht,hget,hfit⟩
   ·obtain ⟨_,h2,K',ρ',hf',he0⟩:=hi;obtain ⟨us,hrun,hru⟩:=zaH htb hf' he0 hps;have hi2:Inv n g [] (H' u0) a' w':=((⟨‹_›,h2,K',ρ',hf',he0⟩:Inv n g env1 H1 a' w').sub yO).hsub hfit;have hres:(results fn a'.tmps).run P w'=.ok (if hh:us.toArray.size=1 then us.toArray[0] else .tuple us.toArray) w':=by
     unfold results;rw [Array.mapM_eq_mapM_toList,hrs];simp only [Sem.run_bind,Sem.run_map]
     erw [hrun]
     rfl
    have hval:PRel K' w' (zn ps) (if hh:us.toArray.size=1 then us.toArray[0] else .tuple us.toArray):=by
     split
     ·rename_i hh;have hl1:=hru.1;have hu:us.length=1:=by simpa using hh
      obtain ⟨u,rfl⟩:=List.length_eq_one_iff.1 hu;obtain ⟨p,rfl⟩:=List.length_eq_one_iff.1 (show ps.length=1 by omega);exact hru.2 0 p u zwy63 zwy63
     ·rename_i hh;simp at hh;have:zn ps=.tup ps:=by
       unfold zn;split
       ·rename_i p;exact absurd zwy101 hh
       ·rfl
      rw [this];exact .tup ps us hru.1 hru.2
    have hf2:=FS.narrow hf' hfit;exact ⟨_,K',ρ',hres,by rw [h2];subst hg0;rfl,back hf2,by rw [hr0];exact .pv _ _ hval⟩
   ·obtain ⟨h1,h2,K',ρ',hf',he0⟩:=hi;obtain ⟨v,hv1,hv2⟩:=he0 t (r u0) hget;have hf2:=FS.narrow hf' hfit;have hin:=hfit.2;simp only [Xi,Bool.and_eq_true] at hin;have hres:(results fn a'.tmps).run P w'=.ok v w':=by
     unfold results;rw [Array.mapM_eq_mapM_toList,hrs,ht];simp [Result.andThen,hv1]
    exact ⟨v,K',ρ',hres,by rw [h2];subst hg0;rfl,back hf2,hv2.refs hin.1.1⟩
  obtain ⟨v,K',ρ',hres,hd,hf',hr⟩:=key;rcases he with rfl|rfl
  ·exact ⟨hd,_,hres,v,K',ρ',u0,rfl,hf',hr⟩
  ·exact ⟨hd,_,hres,v,K',ρ',u0,rfl,hf',hr⟩
theorem ACallU.one {P:Program} {f:FuncId} {args:List AV} {H H':HEnv} {r:AV} {lone:Bool} (h:ACallU (ι:=Unit) P f args H (fun _=>r) (fun _=>H') lone):ACallM P f args H r H' lone :=
 ⟨h.stands,fun g K ρ w vs hw1 hf hv=>(h.calls g K ρ w vs hw1 hf hv).mono fun _ _ ⟨v,K',ρ',_,a,b,c⟩=>⟨v,K',ρ',a,b,c⟩⟩
theorem ACallM.toU {P:Program} {f:FuncId} {args:List AV} {H H':HEnv} {r:AV} {lone:Bool} (h:ACallM P f args H r H' lone):ACallU (ι:=Unit) P f args H (fun _=>r) (fun _=>H') lone :=
 ⟨h.stands,fun g K ρ w vs hw1 hf hv=>(h.calls g K ρ w vs hw1 hf hv).mono fun _ _ ⟨v,K',ρ',a,b,c⟩=>⟨v,K',ρ',(),a,b,c⟩⟩
theorem Zl (htb:yZ P tb) {fn:Func} {c:Code} (hf:P.funcs[f]?=some fn) (hb:fn.body=some c) (hn:(fn.name == "runtime.NumGoroutine")=false) (hnt:fn.ntmps=n) (hargs:args.length<=n) (rs:List ResultVar) (hrs:fn.results.toList=rs)
  {lone:Bool} (h:∀ g:Base,(lone=true->g.w1.heap.size=0)->AW P n g c (WM 0 args) H (zhu tb rs r H')):ACallM P f args H r H' lone :=
 ACallU.one (zlR htb hf hb hn hnt hargs rs hrs fun g hg=>(h g hg).mono fun _ _ _ hq=>⟨(),hq⟩)
def Zc (us:Nat->Value) (ps:List Nat):HEnv:=ps.map fun i=>(1000 + i,.pin (.own i) (us i))
def VT (ps:List Nat):HEnv:=ps.map fun i=>(i,.dead)
def zjk (A:HEnv) (B:HEnv):Bool:=A.all fun x=>(B.get x.1).isNone
def Ql (Hc Hc' R:HEnv) (ps:List Nat) (ars:List AV) (env2:Env) (r:AV):Bool :=
 zjk Hc R&&zjk Hc' R&&zfa 1000 Hc&&zfa 1000 Hc'&&Qm Hc ars&&hIn Hc Hc&&hIn Hc' Hc'&&Zz Hc' r&&hIn (R++VT ps) R&&Xi (R++VT ps) env2&&ps.all fun i=>(Hc.get i).isSome&&(Hc'.get i).isSome
theorem zfh {us:Nat->Value}:∀ {ps:List Nat} {i:Nat} {h:HE},HEnv.get (Zc us ps) i=some h->1000<=i/\i - 1000∈ps/\h=.pin (.own (i - 1000)) (us (i - 1000))
 | [],i,h,hg=>by simp [Zc,HEnv.get_nil] at hg
 | p::ps,i,h,hg=>by
  rw [Zc,List.map_cons,HEnv.get_cons] at hg;split at hg
  ·rename_i e;subst e;simp only [Option.some.injEq] at hg;subst hg;rw [Nat.add_sub_cancel_left];exact ⟨by omega,by simp,rfl⟩
  ·obtain ⟨h1,h2,h3⟩:=zfh (ps:=ps) hg;exact ⟨h1,by simp [h2],h3⟩
theorem znC {us:Nat->Value}:∀ {ps:List Nat} {i:Nat},i∈ps->HEnv.get (Zc us ps) (1000 + i)=some (.pin (.own i) (us i))
 | [],i,h=>by cases h
 | p::ps,i,h=>by
  rw [Zc,List.map_cons,HEnv.get_cons];split
  ·rename_i e;have:p=i:=by omega
   subst this;rfl
  ·rename_i e;rcases List.mem_cons.1 h with rfl|h
   ·exact absurd rfl e
   ·exact znC h
theorem zfZ {A B:HEnv} (h:zjk A B=true):∀ i x,A.get i=some x->B.get i=none:=by
 induction A with
 | nil=>intro i x hx;simp [HEnv.get_nil] at hx
 | cons y A ih =>
  intro i x hx;obtain ⟨j,z⟩:=y;simp only [zjk,List.all_cons,Bool.and_eq_true] at h;rw [HEnv.get_cons] at hx;split at hx
  ·rename_i e;subst e;simpa using h.1
  ·exact ih h.2 i x hx
theorem zrL {ps:List Nat} {i:Nat} (h:(HEnv.get (VT ps) i).isSome=true):i∈ps:=by
 induction ps with
 | nil=>simp [VT,HEnv.get_nil] at h
 | cons p ps ih =>
  rw [VT,List.map_cons,HEnv.get_cons] at h;split at h
  ·rename_i e;simp [e]
  ·simp [ih h]
theorem zei {w w':World} {B e sz n:Nat} {v:Value} {xs:List Value} (h:w.ownsRow B e sz v n xs) (hb:∀ b,yE v=some b->w'.heap[b]?=w.heap[b]?):w'.ownsRow B e sz v n xs:=by
 obtain ⟨h1,h2⟩:=h;refine ⟨h1,h2.imp id ?_⟩;rintro ⟨g,cap,cur,a,b,c,d⟩;exact ⟨g,cap,cur,a,b,by rw [hb g (by rw [a];rfl)];exact c,d⟩
theorem zgH {w:World} {B e sz n:Nat} {v:Value} {xs:List Value} (h:w.ownsRow B e sz v n xs) (b:Nat):yE v=some b↔v.ownBlock=some b:=by
 rcases h.2 with ⟨rfl,_⟩|⟨_,_,_,rfl,_⟩ <;> simp [yE,Value.ownBlock]
theorem zdE {Hc Hc' R:HEnv} {ps:List Nat} {ars:List AV} {env2:Env} {r:AV} (h:Ql Hc Hc' R ps ars env2 r=true):Ql Hc Hc' R ps ars [] r=true/\Xi (R++VT ps) env2=true:=by
 simp only [Ql,Bool.and_eq_true] at h ⊢;obtain ⟨⟨h1,h6⟩,h7⟩:=h;exact ⟨⟨⟨h1,rfl⟩,h7⟩,h6⟩
theorem zi8 {ars:List AV} {vs:List Value} (Hc R:HEnv) (ps:List Nat) (hsub:HSub H (Hc++R)) (d1:zjk Hc R=true) (i1:Qm Hc ars=true) (i2:hIn Hc Hc=true) (i5:hIn (R++VT ps) R=true) (i7a:(ps.all fun i=>(Hc.get i).isSome)=true) (hf:FS g K ρ H w) (hall0:Qh K w ρ H ars vs) :
  ∃ g':Base,g'.w1=g.w1/\FS g' K ρ (Hc++Zc ρ ps) w/\Qh K w ρ (Hc++Zc ρ ps) ars vs/\∀ K' ρ' w' Hc',zjk Hc' R=true->zfa 1000 Hc'=true->hIn Hc' Hc'=true->(ps.all fun i=>(HEnv.get Hc' i).isSome)=true->FS g' K' ρ' (Hc'++Zc ρ ps) w' ->
   ∃ ρ2,FS g K' ρ2 (Hc'++R) w'/\Later K K' w w'/\(∀ j,(HEnv.get (R++VT ps) j).isSome=true->(HEnv.get (Hc'++R) j).isSome=true/\ρ2 j=ρ j)/\∀ r v,Zz Hc' r=true->ARel K' w' ρ' (Hc'++Zc ρ ps) r v->ARel K' w' ρ2 (Hc'++R) r v:=by
 have i7b:∀ i∈ps,(Hc.get i).isSome=true:=fun i hi=>List.all_eq_true.1 i7a i hi
 have hlatR:Later K K w w:=.refl K w;have gC:∀ i x,Hc.get i=some x->H.get i=some x:=fun i x hx=>hsub i x (by rw [get_append,hx])
 have gR:∀ i x,R.get i=some x->H.get i=some x:=fun i x hx=>hsub i x (by
  rw [get_append];cases hh:Hc.get i with
  | none=>exact hx
  | some y=>rw [zfZ d1 i y hh] at hx;cases hx)
 have nC:∀ i x,R.get i=some x->Hc.get i=none:=fun i x hx=>by
  cases hh:Hc.get i with
  | none=>rfl
  | some y=>rw [zfZ d1 i y hh] at hx;cases hx
 have hpinC:∀ {A:HEnv} {us:Nat->Value} {i:Nat} {x:HE},HEnv.get (A++Zc us ps) i=some x->x.live=true->A.get i=some x:=by
  intro A us i x hx hl;rw [get_append] at hx;cases hh:A.get i with
  | some z=>rw [hh] at hx;exact hx
  | none =>
   rw [hh] at hx;obtain ⟨_,_,rfl⟩:=zfh hx;simp [HE.live] at hl
 obtain ⟨g',hg'⟩:∃ g':Base,g'=⟨g.w0,K,g.w1,g.ds,w,fun b=>g.pr b\/∃ i x,R.get i=some x/\x.live=true/\yE (ρ i)=some b⟩:=⟨_,rfl⟩
 have hfs:FS g' K ρ (Hc++Zc ρ ps) w:=by
  subst hg';refine ⟨hf.below,fun _ _ h=>h,fun _ _ h=>.inl h,hf.lt,hf.others,⟨?_,fun _ _ _=>rfl⟩,?_,?_,?_⟩
  ·rintro b (hb|⟨i,x,hi,hl,hb⟩)
   ·exact ⟨(hf.pt.same b hb).1,rfl,fun _=>Iff.rfl⟩
   ·exact ⟨((hf.heap.ok i x (gR i x hi)).block_lt hl hb).2,rfl,fun _=>Iff.rfl⟩
  ·intro i x b hi hl hb;have hC:=hpinC hi hl;rintro (hp|⟨j,y,hj,hly,hbj⟩)
   ·exact hf.away i x b (gC i x hC) hl hb hp
   ·have hne:i≠j:=by rintro rfl;rw [nC i y hj] at hC;cases hC
    exact hf.heap.apart i j x y b hne (gC i x hC) (gR j y hj) hl hly hb hbj
  ·intro i x hi;rw [get_append] at hi;cases hh:Hc.get i with
   | some y =>
    rw [hh] at hi;simp only [Option.some.injEq] at hi;subst hi;have hok:=hf.heap.ok i y (gC i y hh);have hk:∀ j,(HEnv.get Hc j).isSome=true->(HEnv.get (Hc++Zc ρ ps) j).isSome=true/\ρ j=ρ j:=fun j hj=>⟨ZX j hj,rfl⟩
    cases y with
    | cell v=>obtain ⟨b,t,arr,u,q1,q2,q3,q4,q5,q6⟩:=hok;exact ⟨b,t,arr,u,q1,q2,q3,(q4.refs (zbF i2 i v hh)).keeps hlatR hk,q5,q6⟩
    | pin v u=>exact (ARel.refs hok (zaa i2 i v u hh)).keeps hlatR hk
    | row t sz es=>exact hok
    | mrow t sz es=>exact hok
    | dead=>exact hok
    | obj X=>exact hok
   | none =>
    rw [hh] at hi;obtain ⟨q1,q2,rfl⟩:=zfh hi;exact .own _ (ZX _ (i7b _ q2))
  ·intro i j x y b hij hi hj lx ly bx bj;exact hf.heap.apart i j x y b hij (gC i x (hpinC hi lx)) (gC j y (hpinC hj ly)) lx ly bx bj
 have hall:Qh K w ρ (Hc++Zc ρ ps) ars vs :=
  ⟨hall0.1,fun k c v hc hv=>((hall0.2 k c v hc hv).refs (ZY i1 k c hc)).keeps hlatR fun j hj=>⟨ZX j hj,rfl⟩⟩
 refine ⟨g',by subst hg';rfl,hfs,hall,fun K' ρ' w' Hc' d2 d4 i3 i7c hf'=>?_⟩;have i7':∀ i∈ps,(Hc.get i).isSome=true/\(Hc'.get i).isSome=true:=fun i hi=>⟨i7b i hi,List.all_eq_true.1 i7c i hi⟩
 have nC':∀ i x,R.get i=some x->Hc'.get i=none:=fun i x hx=>by
  cases hh:Hc'.get i with
  | none=>rfl
  | some y=>rw [zfZ d2 i y hh] at hx;cases hx
 have hlat:Later K K' w w':=by subst hg';exact ⟨hf'.old,hf'.pt.kept⟩
 have hprot:∀ b,(g.pr b\/∃ i x,R.get i=some x/\x.live=true/\yE (ρ i)=some b)->b < w'.heap.size/\w'.heap[b]?=w.heap[b]? /\∀ o,K' b o↔K b o:=by subst hg';exact hf'.pt.same
 have haway:∀ i x b,Hc'.get i=some x->x.live=true->yE (ρ' i)=some b->¬ (g.pr b\/∃ i x,R.get i=some x/\x.live=true/\yE (ρ i)=some b):=by
  subst hg';exact fun i x b hi=>hf'.away i x b (by rw [get_append,hi])
 obtain ⟨ρ2,hρ2⟩:∃ ρ2:Nat->Value,∀ j,ρ2 j=if (Hc'.get j).isSome then ρ' j else ρ j:=⟨_,fun _=>rfl⟩
 have r1:∀ j,(Hc'.get j).isSome=true->ρ2 j=ρ' j:=fun j hj=>by rw [hρ2,if_pos hj]
 have r2:∀ j,Hc'.get j=none->ρ2 j=ρ j:=fun j hj=>by rw [hρ2,hj];rfl
 have hkC:∀ j,(HEnv.get Hc' j).isSome=true->(HEnv.get (Hc'++R) j).isSome=true/\ρ2 j=ρ' j:=fun j hj=>⟨ZX j hj,r1 j hj⟩
 have hps:∀ i∈ps,ρ' i=ρ i:=fun i hi=>by
  have hnone:Hc'.get (1000 + i)=none:=by
   cases hh:Hc'.get (1000 + i) with
   | none=>rfl
   | some x=>have:=zdL d4 _ x hh;omega
  have:=hf'.heap.ok (1000 + i) _ (by rw [get_append,hnone];exact znC hi);have this:ARel K' w' ρ' (Hc'++Zc ρ ps) (.own i) (ρ i):=this;generalize hu:ρ i=u at this;cases this with
  | own _ _=>rfl
 have hkR:∀ j,(HEnv.get (R++VT ps) j).isSome=true->(HEnv.get (Hc'++R) j).isSome=true/\ρ2 j=ρ j:=fun j hj=>by
  rw [get_append] at hj;cases hh:R.get j with
  | some x =>
   have hn:=nC' j x hh;exact ⟨by rw [get_append,hn,hh];rfl,r2 j hn⟩
  | none =>
   rw [hh] at hj;have hm:=zrL hj;have hs':=(i7' j hm).2;exact ⟨ZX j hs',by rw [r1 j hs',hps j hm]⟩
 have hfs2:FS g K' ρ2 (Hc'++R) w':=by
  have b1:Below g.w0.heap.size g.w0 w':=by subst hg';exact hf'.below
  have b3:∀ b o,K' b o->K b o\/g.w0.heap.size<=b:=by subst hg';exact hf'.new
  have b5:KeepsOthers g.w1 w':=by subst hg';exact hf'.others
  have bB:HRel K' w' g.w0.heap.size ρ' (Hc'++Zc ρ ps):=by subst hg';exact hf'.heap
  refine ⟨b1,fun b o h=>hlat.sub b o (hf.old b o h),fun b o hk=>(b3 b o hk).elim (hf.new b o) .inr,hf'.lt,b5,⟨fun b hb=>?_,fun b o h0=>(hlat.cell b o (hf.old b o h0)).trans (hf.pt.kept b o h0)⟩,fun i x b hi hl hb=>?_,fun i x hi=>?_,fun i j x y b hij hi hj lx ly bx bj=>?_⟩
  ·obtain ⟨p1,p2,p3⟩:=hprot b (.inl hb);obtain ⟨q1,q2,q3⟩:=hf.pt.same b hb;exact ⟨p1,p2.trans q2,fun o=>(p3 o).trans (q3 o)⟩
  ·rw [get_append] at hi;cases hh:Hc'.get i with
   | some y =>
    rw [hh] at hi;simp only [Option.some.injEq] at hi;subst hi;rw [r1 i (by rw [hh];rfl)] at hb;exact fun hp=>haway i y b hh hl hb (.inl hp)
   | none =>
    rw [hh] at hi;rw [r2 i hh] at hb;exact hf.away i x b (gR i x hi) hl hb
  ·rw [get_append] at hi;cases hh:Hc'.get i with
   | some y =>
    rw [hh] at hi;simp only [Option.some.injEq] at hi;subst hi;rw [r1 i (by rw [hh];rfl)];have hok:=bB.ok i y (by rw [get_append,hh]);have hl':=Later.refl K' w';cases y with
    | cell v=>obtain ⟨b,t,arr,u,q1,q2,q3,q4,q5,q6⟩:=hok;exact ⟨b,t,arr,u,q1,q2,q3,(q4.refs (zbF i3 i v hh)).keeps hl' hkC,q5,q6⟩
    | pin v u=>exact (ARel.refs hok (zaa i3 i v u hh)).keeps hl' hkC
    | row t sz es=>exact hok
    | mrow t sz es=>exact hok
    | dead=>exact hok
    | obj X=>exact hok
   | none =>
    rw [hh] at hi;rw [r2 i hh];have hok:=hf.heap.ok i x (gR i x hi);have hsame:x.live=true->∀ b,yE (ρ i)=some b->w'.heap[b]?=w.heap[b]? /\∀ o,K' b o↔K b o:=fun hl b hb=>(hprot b (.inr ⟨i,x,hi,hl,hb⟩)).2
    cases x with
    | cell v =>
     obtain ⟨b,t,arr,u,q1,q2,q3,q4,q5,q6⟩:=hok;obtain ⟨s1,s2⟩:=hsame rfl b (by rw [q1];rfl);exact ⟨b,t,arr,u,q1,q2,by rw [s1];exact q3,(q4.refs (zbF i5 i v hi)).keeps hlat hkR,q5,fun o hk=>q6 o ((s2 o).1 hk)⟩
    | pin v u=>exact (ARel.refs hok (zaa i5 i v u hi)).keeps hlat hkR
    | row t sz es =>
     obtain ⟨xs,q1,q2,q3,q4⟩:=hok;refine ⟨xs,zei q1 fun b hb=>(hsame rfl b hb).1,q2,fun k e he=>?_,fun b hb o=>?_⟩
     ·obtain ⟨c1,c2⟩:=q3 k e he;exact ⟨c1,fun k c hc=>let ⟨v,h4,h5,h6⟩:=c2 k c hc;⟨v,h4,h5,h6.later hlat⟩⟩
     ·rw [(hsame rfl b ((zgH q1 b).2 hb)).2 o];exact q4 b hb o
    | mrow t sz es =>
     obtain ⟨xs,q1,q2,q3,q4⟩:=hok;refine ⟨xs,zei q1 fun b hb=>(hsame rfl b hb).1,q2,fun k e he=>?_,fun b hb o hk=>?_⟩
     ·obtain ⟨c1,c2⟩:=q3 k e he;exact ⟨c1,fun k c hc=>let ⟨v,h4,h5,h6⟩:=c2 k c hc;⟨v,h4,h5,h6.later hlat⟩⟩
     ·exact q4 b hb o (((hsame rfl b ((zgH q1 b).2 hb)).2 o).1 hk)
    | dead=>trivial
    | obj X =>
     obtain ⟨b,ob,q1,q2,q3,q4,q5⟩:=hok;obtain ⟨s1,s2⟩:=hsame rfl b (by rw [q1];rfl);exact ⟨b,ob,q1,q2,by rw [s1];exact q3,q4,fun o hk=>q5 o ((s2 o).1 hk)⟩
  ·rw [get_append] at hi hj;cases hhi:Hc'.get i with
   | some x' =>
    rw [hhi] at hi;simp only [Option.some.injEq] at hi;subst hi;rw [r1 i (by rw [hhi];rfl)] at bx;cases hhj:Hc'.get j with
    | some y' =>
     rw [hhj] at hj;simp only [Option.some.injEq] at hj;subst hj;rw [r1 j (by rw [hhj];rfl)] at bj;exact bB.apart i j x' y' b hij (by rw [get_append,hhi]) (by rw [get_append,hhj]) lx ly bx bj
    | none =>
     rw [hhj] at hj;rw [r2 j hhj] at bj;exact haway i x' b hhi lx bx (.inr ⟨j,y,hj,ly,bj⟩)
   | none =>
    rw [hhi] at hi;rw [r2 i hhi] at bx;cases hhj:Hc'.get j with
    | some y' =>
     rw [hhj] at hj;simp only [Option.some.injEq] at hj;subst hj;rw [r1 j (by rw [hhj];rfl)] at bj;exact haway j y' b hhj ly bj (.inr ⟨i,x,hi,lx,bx⟩)
    | none =>
     rw [hhj] at hj;rw [r2 j hhj] at bj;exact hf.heap.apart i j x y b hij (gR i x hi) (gR j y hj) lx ly bx bj
 exact ⟨ρ2,hfs2,hlat,hkR,fun r v hr hv=>(hv.refs hr).keeps (Later.refl K' w') hkC⟩
theorem zkm {ι:Type} [Inhabited ι] {rs:ι->AV} {ars:List AV} {vs:List Value} (Hc:HEnv) (Hs':ι->HEnv) (R:HEnv) {lone:Bool} (ps:List Nat) (hw1:lone=true->g.w1.heap.size=0) (hsub:HSub H (Hc++R))
  (hchk:∀ u,Ql Hc (Hs' u) R ps ars [] (rs u)=true) (hc:∀ us,ACallU P f ars (Hc++Zc us ps) rs (fun u=>Hs' u++Zc us ps) lone) (hf:FS g K ρ H w) (hall0:Qh K w ρ H ars vs) :
  Calls P f vs.toArray w fun e w'=>∃ v K' ρ2 u,e=.returned v/\FS g K' ρ2 (Hs' u++R) w'/\ARel K' w' ρ2 (Hs' u++R) (rs u) v/\Later K K' w w'/\(∀ j,(HEnv.get (R++VT ps) j).isSome=true->(HEnv.get (Hs' u++R) j).isSome=true/\ρ2 j=ρ j):=by
 have hchk0:=hchk default;simp only [Ql,Bool.and_eq_true] at hchk0;obtain ⟨⟨⟨⟨⟨⟨⟨⟨⟨⟨d1,_⟩,_⟩,_⟩,i1⟩,i2⟩,_⟩,_⟩,i5⟩,_⟩,i7⟩:=hchk0;obtain ⟨g',e1,hfs,hall,back⟩:=zi8 Hc R ps hsub d1 i1 i2 i5 (List.all_eq_true.2 fun i hi=>by have:=List.all_eq_true.1 i7 i hi;simp only [Bool.and_eq_true] at this;exact this.1) hf hall0;refine ((hc ρ).calls g' K ρ w _ (by rw [e1];exact hw1) hfs hall).mono fun e w' ⟨v,K',ρ',u,e1,hf',hv⟩=>?_
 have hchk1:=hchk u;simp only [Ql,Bool.and_eq_true] at hchk1;obtain ⟨⟨⟨⟨⟨⟨⟨⟨⟨⟨_,d2⟩,_⟩,d4⟩,_⟩,_⟩,i3⟩,i4⟩,_⟩,_⟩,i7⟩:=hchk1;obtain ⟨ρ2,q1,q2,q3,q4⟩:=back K' ρ' w' _ d2 d4 i3 (List.all_eq_true.2 fun i hi=>by have:=List.all_eq_true.1 i7 i hi;simp only [Bool.and_eq_true] at this;exact this.2) hf';exact ⟨v,K',ρ2,u,e1,q1,q4 _ _ i4 hv,q2,q3⟩
theorem zd6 {ars:List AV} {vs:List Value} (Hc Hc' R:HEnv) {lone:Bool} (ps:List Nat) (hw1:lone=true->g.w1.heap.size=0) (hsub:HSub H (Hc++R))
  (hchk:Ql Hc Hc' R ps ars [] r=true) (hc:∀ us,ACallM P f ars (Hc++Zc us ps) r (Hc'++Zc us ps) lone) (hf:FS g K ρ H w) (hall0:Qh K w ρ H ars vs) :
  Calls P f vs.toArray w fun e w'=>∃ v K' ρ2,e=.returned v/\FS g K' ρ2 (Hc'++R) w'/\ARel K' w' ρ2 (Hc'++R) r v/\Later K K' w w'/\(∀ j,(HEnv.get (R++VT ps) j).isSome=true->(HEnv.get (Hc'++R) j).isSome=true/\ρ2 j=ρ j) :=
 (zkm (rs:=fun _:Unit=>r) Hc (fun _=>Hc') R ps hw1 hsub (fun _=>hchk) (fun us=>(hc us).toU) hf hall0).mono fun _ _ ⟨v,K',ρ2,_,q⟩=>⟨v,K',ρ2,q⟩
theorem zoq {ι:Type} [Inhabited ι] {r:ι->AV} {xs:Array Operand} {ts:Array TypeId} {d:Tmp} {ars:List AV} (Hc:HEnv) (Hc':ι->HEnv) (R:HEnv) (env2:Env) {lone:Bool} (ps:List Nat) (hw1:lone=true->g.w1.heap.size=0) (hg:guardE ops env o=some true)
  (hop:o.op=.call { callee:=.value (.func f),args:=xs,argTypes:=ts }) (hargs:avs env xs.toList=some ars) (hsub:HSub H (Hc++R)) (hs:Sub env env2) (hd:o.dst=some d) (hdt:Nat.blt d n=true)
  (hchk:∀ u,Ql Hc (Hc' u) R ps ars env2 (r u)=true) (hc:∀ us,ACallU P f ars (Hc++Zc us ps) r (fun u=>Hc' u++Zc us ps) lone)
  (h:∀ u,AO P n g ops.toArray rest ((d,r u)::env2) (Hc' u++R) Q):AO P n g ops.toArray (o::rest) env H Q:=by
 refine ⟨fun a w hinv=>?_⟩;have hw:=qx hinv hg;obtain ⟨h1,h2,K,ρ,hf,he⟩:=hinv;refine wpList_step fun KK hKK=>?_
 rw [if_pos hw];have hrun:(execOp a.eval o).run P w=.ok (.enter f (xs.toList.map a.eval).toArray) w:=by
  have e:(xs.toList.map a.eval).toArray=xs.map a.eval:=by rw [<-Array.toList_map,Array.toArray_toList]
  rw [e];simp [execOp,hop,resolve,Act.eval,Deferred.ofValue,invoke,ZL (hc ρ).stands]
 unfold Oper.wp;rw [hrun];simp only [Oper.upon];refine (zkm Hc Hc' R ps hw1 hsub (fun u=>(zdE (hchk u)).1) hc hf (zbB (a:=a) he hargs)).mono fun e w' ⟨v,K',ρ2,u,e1,hf',hv,hlat,hps⟩=>?_
 subst e1;refine hKK _ _ ((h u).go _ _ ⟨Zy h1,put_defers h2,K',ρ2,hf',?_⟩);rw [hd];refine Yg h1 hdt (fun t av ht=>?_) hv;obtain ⟨u1,u2,u3⟩:=he t av (hs t av ht);exact ⟨u1,u2,(u3.refs (zb1 (zdE (hchk u)).2 t av ht)).keeps hlat hps⟩
theorem yH {xs:Array Operand} {ts:Array TypeId} {d:Tmp} {ars:List AV} (Hc Hc' R:HEnv) (env2:Env) {lone:Bool} (ps:List Nat) (hw1:lone=true->g.w1.heap.size=0) (hg:guardE ops env o=some true)
  (hop:o.op=.call { callee:=.value (.func f),args:=xs,argTypes:=ts }) (hargs:avs env xs.toList=some ars) (hsub:HSub H (Hc++R)) (hs:Sub env env2) (hd:o.dst=some d) (hdt:Nat.blt d n=true)
  (hchk:Ql Hc Hc' R ps ars env2 r=true) (hc:∀ us,ACallM P f ars (Hc++Zc us ps) r (Hc'++Zc us ps) lone)
  (h:AO P n g ops.toArray rest ((d,r)::env2) (Hc'++R) Q):AO P n g ops.toArray (o::rest) env H Q :=
 zoq (r:=fun _:Unit=>r) Hc (fun _=>Hc') R env2 ps hw1 hg hop hargs hsub hs hd hdt (fun _=>hchk) (fun us=>(hc us).toU) (fun _=>h)
end
structure ACallPan (P:Program) (f:FuncId) (args:List AV) (H:HEnv) (v:Value) (lone:Bool:=false):Prop where
 stands:zaY P f
 calls:∀ (g:Base) (K:KK) (ρ:Nat->Value) (w:World) (vs:List Value),(lone=true->g.w1.heap.size=0)->FS g K ρ H w->Qh K w ρ H args vs ->
  Calls P f vs.toArray w fun e w'=>e=.panicked [{ v:=v,recovered:=false }]/\∃ K' ρ',FS g K' ρ' [] w'
theorem zi {P:Prop}:false=true->P:=fun h=>nomatch h
inductive Out where
 | ret (r:AV) (H':HEnv)
 | pan (v:Value)
def QO (P:Program) (f:FuncId) (args:List AV) (H:HEnv) (o:Out) (lone:Bool:=false):Prop :=
 match o with
 | .ret r H'=>ACallM P f args H r H' lone
 | .pan v=>ACallPan P f args H v lone
def zln (tb:Tab) (rs:List ResultVar):Out->QC
 | .ret r H'=>zhu tb rs r H'
 | .pan v=>fun ex _ _=>ex=.panic [{ v:=v,recovered:=false }]
structure AOX (P:Program) (n:Nat) (g:Base) (ops:Array Oper) (l:List Oper) (env:Env) (H:HEnv) (Q:QC):Prop where
 go:∀ a w,Inv n g env H a w->wpList P ops (fun e a' w'=>∃ env' H',Inv n g env' H' a' w'/\(e=.normal\/∃ ch,e=.panic ch)/\Q e env' H') l a w
section
variable {P:Program} {tb:Tab} {n:Nat} {g:Base} {K K':KK} {w w':World} {ρ ρ':Nat->Value} {H H':HEnv} {env:Env} {a:Act} {ops:List Oper} {o:Oper} {rest:List Oper} {Q:Env->HEnv->Prop} {f:FuncId} {args:List AV} {r:AV} {QQ:QC}
theorem Vx {R:Exit->Act->World->Prop} {arr:Array Oper} {l2:List Oper}:∀ {l1:List Oper} {a:Act} {w:World},wpList P arr (fun e a' w'=>e=.normal/\wpList P arr R l2 a' w') l1 a w->wpList P arr R (l1++l2) a w
 | [],a,w,h=>h.2
 | o::l1,a,w,h=>by
  rw [List.cons_append];unfold wpList at h ⊢;split
  ·rename_i hw;rw [if_pos hw] at h;rcases h with h|⟨h1,a',w',h2,_⟩
   ·refine .inl ?_;unfold Oper.wp at h ⊢;generalize (execOp a.eval o).run P w=r at *;cases r with
    | ok nx w' =>
     cases nx <;> simp only [Oper.upon] at h ⊢ <;>
      first
       | exact Vx h
       | exact Calls.mono h (fun e w'' he=>by
         cases e with
         | returned v=>exact Vx he
         | panicked ch=>cases he.1
         | outgrown=>obtain ⟨_,_,he,_⟩:=he;cases he)
       | exact Rows.mono h (fun _ _ he=>Vx he)
    | halt x w'=>cases x <;> simp only [Oper.upon] at h ⊢ <;> first|exact h.elim|(obtain ⟨he,_⟩:=h;cases he)
   ·cases h2
  ·rename_i hw;rw [if_neg hw] at h;exact Vx h
theorem zvc {l1 l2:List Oper} (h:AO P n g ops.toArray l1 env H (fun env' H'=>AOX P n g ops.toArray l2 env' H' QQ)):AOX P n g ops.toArray (l1++l2) env H QQ :=
 ⟨fun a w hi=>Vx (Qa (fun e a' w' ⟨env',H',h1,h2,h3⟩=>⟨h2,h3.go a' w' h1⟩) (h.go a w hi))⟩
theorem zvZ (k:Nat) {l l1 l2:List Oper} (h1:l.take k=l1) (h2:l.drop k=l2) (h:AO P n g ops.toArray l1 env H (fun env' H'=>AOX P n g ops.toArray l2 env' H' QQ)):AOX P n g ops.toArray l env H QQ:=by
 have:=zvc h
 rwa [<-h1,<-h2,List.take_append_drop] at this
theorem zwc (h:QQ .normal env H):AOX P n g ops.toArray [] env H QQ:=⟨fun a w hi=>⟨env,H,hi,.inl rfl,h⟩⟩
theorem WR {l:List Oper} (h:AO P n g ops.toArray l env H (fun env' H'=>QQ .normal env' H')):AOX P n g ops.toArray l env H QQ :=
 ⟨fun a w hi=>Qa (fun _ _ _ ⟨env',H',h1,h2,h3⟩=>⟨env',H',h1,.inl h2,by rw [h2];exact h3⟩) (h.go a w hi)⟩
theorem zp6 {id:Nat} (h:AOX P n g ops.toArray ops env H QQ) (hnd:ZB ops=true:=by kernel_rfl):AW P n g (.region id ops.toArray false) env H QQ :=
 ⟨fun a w hi r d=>wpIn_mono (wpIn_region_lit (zcD (r:=r) (n:=d) zjo hnd (h.go a w hi))) (fun e a' w' ⟨env',H',h1,_,h3⟩=>⟨env',H',h1,h3⟩)⟩
theorem zF {xs:Array Operand} {ts:Array TypeId} {ars:List AV} {v:Value} (Hc:HEnv) {lone:Bool} (hw1:lone=true->g.w1.heap.size=0) (hg:guardE ops env o=some true)
  (hop:o.op=.call { callee:=.value (.func f),args:=xs,argTypes:=ts }) (hargs:avs env xs.toList=some ars) (hfit:Qx H Hc (WM 0 ars)) (hc:ACallPan P f ars Hc v lone)
  (h:QQ (.panic [{ v:=v,recovered:=false }]) [] []):AOX P n g ops.toArray (o::rest) env H QQ:=by
 refine ⟨fun a w hinv=>?_⟩;have hw:=qx hinv hg;obtain ⟨h1,h2,K,ρ,hf,he⟩:=hinv;refine wpList_step fun KK hKK=>?_
 rw [if_pos hw];have hpa:=zbB (a:=a) he hargs;have hall:Qh K w ρ Hc ars (xs.toList.map a.eval) :=
  ⟨hpa.1,fun k c v hc hv=>(hpa.2 k c v hc hv).refs (by
   have hin:=hfit.2;simp only [Bool.and_eq_true] at hin;have key:∀ (l:List AV) (b k:Nat) (c:AV),l[k]?=some c->Xi Hc (WM b l)=true->Zz Hc c=true:=by
    intro l;induction l with
    | nil=>intro b k c hc;simp at hc
    | cons x l ih =>
     intro b k c hc hb;simp only [WM,Xi,Bool.and_eq_true] at hb;cases k with
     | zero=>simp at hc;subst hc;exact hb.1
     | succ k=>simp at hc;exact ih _ k c hc hb.2
   exact key ars 0 k c hc hin.1)⟩
 have hrun:(execOp a.eval o).run P w=.ok (.enter f (xs.toList.map a.eval).toArray) w:=by
  have e:(xs.toList.map a.eval).toArray=xs.map a.eval:=by rw [<-Array.toList_map,Array.toArray_toList]
  rw [e];simp [execOp,hop,resolve,Act.eval,Deferred.ofValue,invoke,ZL hc.stands]
 unfold Oper.wp;rw [hrun];simp only [Oper.upon];refine (hc.calls g K ρ w _ hw1 (hf.narrow hfit) hall).mono fun e w' ⟨e1,K',ρ',hf'⟩=>?_
 subst e1;exact ⟨[],[],⟨h1,h2,K',ρ',hf',fun t av ht=>by simp [Env.get_nil] at ht⟩,.inr ⟨_,rfl⟩,h⟩
theorem zkq {x:Operand} {v:Value} {t:TypeId} (hg:guardE ops env o=some true) (hop:o.op=.panic x) (hx:env.pv H x=some (.base (.iface t v))) (h:QQ (.panic [{ v:=.iface t v,recovered:=false }]) env H):AOX P n g ops.toArray (o::rest) env H QQ:=by
 refine ⟨fun a w hinv=>?_⟩;have hw:=qx hinv hg;have hinv':=hinv;obtain ⟨h1,h2,K,ρ,hf,he⟩:=hinv;refine wpList_step fun KK hKK=>?_
 rw [if_pos hw];have hxr:=qy (a:=a) hf (x:=x) (fun av hh=>qO he hh) hx;unfold Oper.wp;generalize hxv:a.eval x=xv at hxr;cases hxr;have hrun:(execOp a.eval o).run P w=.halt (.panic (.iface t v)) w:=by
  simp [execOp,hop,hxv,Instr.panic]
 rw [hrun];exact ⟨env,H,hinv',.inr ⟨_,rfl⟩,h⟩
end
section
variable {P:Program} {tb:Tab} {n:Nat} {H H':HEnv} {f:FuncId} {args:List AV}
theorem za0 {fn:Func} {c:Code} {v:Value} (hf:P.funcs[f]?=some fn) (hb:fn.body=some c) (hn:(fn.name == "runtime.NumGoroutine")=false) (hnt:fn.ntmps=n) (hargs:args.length<=n)
  {lone:Bool} (h:∀ g:Base,(lone=true->g.w1.heap.size=0)->AW P n g c (WM 0 args) H (fun ex _ _=>ex=.panic [{ v:=v,recovered:=false }])):ACallPan P f args H v lone:=by
 refine ⟨⟨fn,hf,by simp [hb],hn⟩,fun g0 K ρ w vs hw1 hfs0 hv=>?_⟩;obtain ⟨g,hg0⟩:∃ g:Base,g=⟨g0.w0,g0.K0,g0.w1,[],g0.wp,g0.pr⟩:=⟨_,rfl⟩
 have hfs:FS g K ρ H w:=by subst hg0;exact ⟨hfs0.below,hfs0.old,hfs0.new,hfs0.lt,hfs0.others,⟨hfs0.pt.same,hfs0.pt.kept⟩,hfs0.away,hfs0.heap⟩
 refine calls_of_wp hf hb ?_;have hlen:vs.length=args.length:=hv.1;refine wp_mono (wpIn_wide.1 ((h g (by subst hg0;exact hw1)).go _ w ⟨by simp [hnt];omega,by subst hg0;rfl,K,ρ,hfs,?_⟩ none 0)) ?_
 ·intro t av hg;obtain ⟨_,hp⟩:=Vu args 0 t av hg;have hlt:t < vs.length:=by rw [hlen];exact (List.getElem?_eq_some_iff.1 hp).1
  refine ⟨vs[t],?_,hv.2 t av _ hp (List.getElem?_eq_getElem hlt)⟩;rw [Array.getElem?_append_left zwy80];simp [hlt]
 ·rintro e a' w' ⟨env1,H1,hi,rfl⟩;obtain ⟨_,h2,K',ρ',hf',_⟩:=hi;have hf2:FS g K' ρ' [] w':=hf'.narrow (e:=[]) ⟨zC,rfl⟩;refine ⟨by rw [h2];subst hg0;rfl,rfl,K',ρ',?_⟩;subst hg0;exact ⟨hf2.below,hf2.old,hf2.new,hf2.lt,hf2.others,⟨hf2.pt.same,hf2.pt.kept⟩,hf2.away,hf2.heap⟩
theorem zI (htb:yZ P tb) {fn:Func} {c:Code} {o:Out} (hf:P.funcs[f]?=some fn) (hb:fn.body=some c) (hn:(fn.name == "runtime.NumGoroutine")=false) (hnt:fn.ntmps=n) (hargs:args.length<=n) (rs:List ResultVar) (hrs:fn.results.toList=rs)
  {lone:Bool} (h:∀ g:Base,(lone=true->g.w1.heap.size=0)->AW P n g c (WM 0 args) H (zln tb rs o)):QO P f args H o lone:=by
 cases o with
 | ret r H'=>exact Zl htb hf hb hn hnt hargs rs hrs h
 | pan v=>exact za0 hf hb hn hnt hargs h
end
end Go.Cg
set_option linter.unusedVariables false
set_option linter.unusedSimpArgs false
namespace Go.Cg
open Go.Proofs Go.Shelf Go.RowKit Go.Lib
set_option maxHeartbeats 20000000
theorem zsE (d:Int) (hd:d=0\/d=1\/d=2\/d=3) (w:World):Calls Tryz.prog 316 #[.int .u64 1,.int .u64 d] w fun e w'=>e=.returned (.tuple #[.int .u64 0,.int .u64 d])/\w'=w:=by
 rcases hd with rfl|rfl|rfl|rfl
 all_goals
  go_enter Tryz.func316,Tryz.ntmps316
  go_wp2
  go_ret2
  exact ⟨by kernel_rfl,rfl⟩
theorem zhI (d:Int) (hd:d=0\/d=1\/d=2\/d=3) (w:World):Calls Tryz.prog 307 #[.int .u64 1,.int .u64 d] w fun e w'=>e=.returned (.tuple #[.int .u64 0,.int .u64 d])/\w'=w:=by
 have h1:=zsE d hd
 go_enter Tryz.func307,Tryz.ntmps307
 go_wp2_with (refine (h1 _).mono ?_;rintro e w' ⟨rfl,rfl⟩)
 go_ret2
 exact ⟨rfl,rfl⟩
theorem info5:∃ i,Tryz.prog.info? 5=some i/\i.zero=some (.int .u8 0)/\i.size=1/\i.bytes=1:=by
 obtain ⟨i,h1,h2,h3,h4,_⟩:=Ym (t:=5) zf rfl;exact ⟨i,h1,h4,h2,h3⟩
theorem Addr.add_zero' (a:Addr):a.add 0=a:=by cases a;rfl
theorem za5 {w:World} {a:Addr} {v:Value} (o:Obj) (h:w.cell? a=some v):(w.alloc o).cell? a=some v:=by
 have hlt:a.block < w.heap.size:=by
  unfold World.cell? at h;split at h
  ·rename_i hb;exact (Array.getElem?_eq_some_iff.1 hb).1
  ·cases h
 have hb:Below w.heap.size w (w.alloc o):=(Below.refl _ _).alloc (Nat.le_refl _) _;unfold World.cell? at h ⊢;rw [hb.block _ hlt];exact h
set_option maxRecDepth 100000 in
theorem znt (v:Int) (ad:Addr) (c:Nat) (w:World) (hv:w.cell? ad=some (.int .u8 v)):Calls Tryz.prog 291 #[.slice (some ad) 1 c,.int .i64 1] w fun e w' =>
  e=.returned (.slice (some ⟨w.heap.size,0,none⟩) 1 1)/\w'.heap[w.heap.size]?=some (.cells #[.int .u8 v] 5 (0,0))/\Below w.heap.size w w':=by
 obtain ⟨i0,hi0,hz0,hs0,hb0⟩:=info5;have h1:=zhI 1 zwy69;have hmk:∀ w:World,(Instr.makeSlice 233 (.int .i64 1) (.int .i64 1)).run Tryz.prog w=.ok (.slice (some ⟨w.heap.size,0,none⟩) 1 1) (w.alloc (.cells #[.int .u8 0] 5)):=fun w=>by
  have:=run_makeSlice (P:=Tryz.prog) w 233 5 i0 (.int .u8 0) Tryz.underlying233 hi0 hz0 .i64 .i64 1 1 zwy62 zwy62 (by simp [hs0]) (by simp [hb0]) zwy62;rw [hs0] at this;have e:madeCells (Value.int .u8 0).cells (Int.toNat 1 * 1)=#[.int .u8 0]:=by simp [madeCells,Value.cells,Array.range];rfl
  rw [e] at this;exact this
 have hsz:(Tryz.prog.info? 5).map (·.size)=some 1:=by rw [hi0];simp [hs0]
 go_enter Tryz.func291,Tryz.ntmps291
 go_wp2_with (first|(refine (h1 _).mono ?_;rintro e w2 ⟨rfl,hw2⟩;rw [hw2];clear hw2 w2)|(refine wpList_copy_splice rfl _ _ _ _ rfl 5 Tryz.underlying233 hsz _ _ _ _ _ _ rfl rfl w.heap.size 0 [.int .u8 0] 5 ?_ [.int .u8 v] (by rfl) ?_ zwy63 zwy105 w.heap.size w ?_ (Nat.le_refl _) ?_))
 ·exact heap_alloc_new w _
 ·intro j u hj;cases j with
  | zero =>
   simp at hj;subst hj;rw [Addr.add_zero',za5 _ hv]
  | succ j=>simp at hj
 ·exact (Below.refl _ _).alloc (Nat.le_refl _) _
 ·intro w2 hh hb
  go_wp2
  refine wp_loop_once ?_
  go_wp2
  go_ret
  exact ⟨rfl,by simpa [splice] using (show _=_ from hh),hb⟩
end Go.Cg
set_option linter.unusedVariables false
set_option linter.unusedSimpArgs false
namespace Go.Cg
open Go.Proofs Go.Shelf Go.RowKit Go.Lib
set_option maxHeartbeats 4000000 in
set_option maxRecDepth 100000 in
theorem zme (v:Int) (ad:Addr) (c:Nat) (w:World) (hv:w.cell? ad=some (.int .u8 v)):Calls Tryz.prog 291 #[.slice (some ad) 1 c,.int .i64 2] w fun e w' =>
  e=.returned (.slice (some ⟨w.heap.size,0,none⟩) 2 2)/\w'.heap[w.heap.size]?=some (.cells #[.int .u8 v,.int .u8 v] 5 (0,0))/\Below w.heap.size w w':=by
 obtain ⟨i0,hi0,hz0,hs0,hb0⟩:=info5;have h1:=zhI 2 zwy69;have hmk:∀ w:World,(Instr.makeSlice 233 (.int .i64 2) (.int .i64 2)).run Tryz.prog w=.ok (.slice (some ⟨w.heap.size,0,none⟩) 2 2) (w.alloc (.cells #[.int .u8 0,.int .u8 0] 5)):=fun w=>by
  have:=run_makeSlice (P:=Tryz.prog) w 233 5 i0 (.int .u8 0) Tryz.underlying233 hi0 hz0 .i64 .i64 2 2 zwy62 zwy62 (by simp [hs0]) (by simp [hb0]) zwy62;rw [hs0] at this;have e:madeCells (Value.int .u8 0).cells (Int.toNat 2 * 1)=#[.int .u8 0,.int .u8 0]:=by simp [madeCells,Value.cells,Array.range];rfl
  rw [e] at this;exact this
 have hsz:(Tryz.prog.info? 5).map (·.size)=some 1:=by rw [hi0];simp [hs0]
 go_enter Tryz.func291,Tryz.ntmps291
 go_wp2_with (first|(refine (h1 _).mono ?_;rintro e w2 ⟨rfl,hw2⟩;rw [hw2];clear hw2 w2)|(refine wpList_copy_splice rfl _ _ _ _ rfl 5 Tryz.underlying233 hsz _ _ _ _ _ _ rfl rfl w.heap.size 0 [.int .u8 0,.int .u8 0] 5 ?_ [.int .u8 v] (by rfl) ?_ zwy63 zwy105 w.heap.size w ?_ (Nat.le_refl _) ?_))
 ·exact heap_alloc_new w _
 ·intro j u hj;cases j with
  | zero =>
   simp at hj;subst hj;rw [Addr.add_zero',za5 _ hv]
  | succ j=>simp at hj
 ·exact (Below.refl _ _).alloc (Nat.le_refl _) _
 ·intro w2 hh hb;have hh':w2.heap[w.heap.size]?=some (.cells #[.int .u8 v,.int .u8 0] 5 (0,0)):=by simpa [splice] using (show _=_ from hh)
  go_wp2
  refine wp_loop_rounds 2 ?_;unfold Code.rounds
  go_wp2
  have hsrc:∀ j u,([.int .u8 v]:List Value)[j]?=some u->w2.cell? ((⟨w.heap.size,0,none⟩:Addr).add j)=some u:=by
   intro j u hj;cases j with
   | zero=>simp at hj;subst hj;rw [Addr.add_zero'];simp [World.cell?,hh']
   | succ j=>simp at hj
  go_region_law (refine step_copy_splice rfl (.tmp 41) (.tmp 44) 233 233 rfl 5 Tryz.underlying233 hsz (some ⟨w.heap.size,1,none⟩) (some ⟨w.heap.size,0,none⟩) 1 1 1 2 zwy99 zwy99 w.heap.size 1 [.int .u8 v,.int .u8 0] 5 hh' [.int .u8 v] (by rfl) (fun _=>⟨rfl,_,rfl,hsrc⟩) zwy63 zwy105 w.heap.size w hb.drew (Nat.le_refl _) ?_;intro w3 hh3 hb3)
  go_wp2
  rw [rounds_succ]
  go_wp2
  go_ret
  exact ⟨rfl,by simpa [splice] using (show _=_ from hh3),hb3⟩
end Go.Cg
set_option linter.unusedVariables false
set_option linter.unusedSimpArgs false
namespace Go.Cg
open Go.Proofs Go.Shelf Go.RowKit Go.Lib
set_option maxHeartbeats 4000000 in
set_option maxRecDepth 100000 in
theorem zmW (v:Int) (ad:Addr) (c:Nat) (w:World) (hv:w.cell? ad=some (.int .u8 v)):Calls Tryz.prog 291 #[.slice (some ad) 1 c,.int .i64 3] w fun e w' =>
  e=.returned (.slice (some ⟨w.heap.size,0,none⟩) 3 3)/\w'.heap[w.heap.size]?=some (.cells #[.int .u8 v,.int .u8 v,.int .u8 v] 5 (0,0))/\Below w.heap.size w w':=by
 obtain ⟨i0,hi0,hz0,hs0,hb0⟩:=info5;have h1:=zhI 3 zwy69;have hmk:∀ w:World,(Instr.makeSlice 233 (.int .i64 3) (.int .i64 3)).run Tryz.prog w=.ok (.slice (some ⟨w.heap.size,0,none⟩) 3 3) (w.alloc (.cells #[.int .u8 0,.int .u8 0,.int .u8 0] 5)):=fun w=>by
  have:=run_makeSlice (P:=Tryz.prog) w 233 5 i0 (.int .u8 0) Tryz.underlying233 hi0 hz0 .i64 .i64 3 3 zwy62 zwy62 (by simp [hs0]) (by simp [hb0]) zwy62;rw [hs0] at this;have e:madeCells (Value.int .u8 0).cells (Int.toNat 3 * 1)=#[.int .u8 0,.int .u8 0,.int .u8 0]:=by simp [madeCells,Value.cells,Array.range];rfl
  rw [e] at this;exact this
 have hsz:(Tryz.prog.info? 5).map (·.size)=some 1:=by rw [hi0];simp [hs0]
 go_enter Tryz.func291,Tryz.ntmps291
 go_wp2_with (first|(refine (h1 _).mono ?_;rintro e w2 ⟨rfl,hw2⟩;rw [hw2];clear hw2 w2)|(refine wpList_copy_splice rfl _ _ _ _ rfl 5 Tryz.underlying233 hsz _ _ _ _ _ _ rfl rfl w.heap.size 0 [.int .u8 0,.int .u8 0,.int .u8 0] 5 ?_ [.int .u8 v] (by rfl) ?_ zwy63 zwy105 w.heap.size w ?_ (Nat.le_refl _) ?_))
 ·exact heap_alloc_new w _
 ·intro j u hj;cases j with
  | zero =>
   simp at hj;subst hj;rw [Addr.add_zero',za5 _ hv]
  | succ j=>simp at hj
 ·exact (Below.refl _ _).alloc (Nat.le_refl _) _
 ·intro w2 hh hb;have hh':w2.heap[w.heap.size]?=some (.cells #[.int .u8 v,.int .u8 0,.int .u8 0] 5 (0,0)):=by simpa [splice] using (show _=_ from hh)
  go_wp2
  refine wp_loop_rounds 3 ?_;unfold Code.rounds
  go_wp2
  have hsrc:∀ j u,([.int .u8 v]:List Value)[j]?=some u->w2.cell? ((⟨w.heap.size,0,none⟩:Addr).add j)=some u:=by
   intro j u hj;cases j with
   | zero=>simp at hj;subst hj;rw [Addr.add_zero'];simp [World.cell?,hh']
   | succ j=>simp at hj
  go_region_law (refine step_copy_splice rfl (.tmp 41) (.tmp 44) 233 233 rfl 5 Tryz.underlying233 hsz (some ⟨w.heap.size,1,none⟩) (some ⟨w.heap.size,0,none⟩) 2 2 1 3 zwy99 zwy99 w.heap.size 1 [.int .u8 v,.int .u8 0,.int .u8 0] 5 hh' [.int .u8 v] (by rfl) (fun _=>⟨rfl,_,rfl,hsrc⟩) zwy63 zwy105 w.heap.size w hb.drew (Nat.le_refl _) ?_;intro w3 hh3 hb3)
  have hh3':w3.heap[w.heap.size]?=some (.cells #[.int .u8 v,.int .u8 v,.int .u8 0] 5 (0,0)):=by simpa [splice] using (show _=_ from hh3)
  go_wp2
  rw [rounds_succ]
  go_wp2
  have hsrc3:∀ j u,([.int .u8 v]:List Value)[j]?=some u->w3.cell? ((⟨w.heap.size,0,none⟩:Addr).add j)=some u:=by
   intro j u hj;cases j with
   | zero=>simp at hj;subst hj;rw [Addr.add_zero'];simp [World.cell?,hh3']
   | succ j=>simp at hj
  go_region_law (refine step_copy_splice rfl (.tmp 41) (.tmp 44) 233 233 rfl 5 Tryz.underlying233 hsz (some ⟨w.heap.size,2,none⟩) (some ⟨w.heap.size,0,none⟩) 1 1 2 3 zwy99 zwy99 w.heap.size 2 [.int .u8 v,.int .u8 v,.int .u8 0] 5 hh3' [.int .u8 v] (by rfl) (fun _=>⟨rfl,_,rfl,hsrc3⟩) zwy63 zwy105 w.heap.size w hb3.drew (Nat.le_refl _) ?_;intro w4 hh4 hb4)
  go_wp2
  rw [rounds_succ]
  go_wp2
  go_ret
  exact ⟨rfl,by simpa [splice] using (show _=_ from hh4),hb4⟩
end Go.Cg
set_option linter.unusedVariables false
set_option linter.unusedSimpArgs false
namespace Go.Cg
open Go.Proofs Go.Shelf Go.RowKit Go.Lib
set_option maxHeartbeats 4000000 in
set_option maxRecDepth 100000 in
theorem zoh (v:Int) (ad:Addr) (c:Nat) (w:World) (hv:w.cell? ad=some (.int .u8 v)):Calls Tryz.prog 291 #[.slice (some ad) 1 c,.int .i64 0] w fun e w' =>
  e=.returned (.slice (some ⟨w.heap.size,0,none⟩) 0 0)/\w'.heap[w.heap.size]?=some (.cells #[] 5 (0,0))/\Below w.heap.size w w':=by
 obtain ⟨i0,hi0,hz0,hs0,hb0⟩:=info5;have h1:=zhI 0 zwy69;have hmk:∀ w:World,(Instr.makeSlice 233 (.int .i64 0) (.int .i64 0)).run Tryz.prog w=.ok (.slice (some ⟨w.heap.size,0,none⟩) 0 0) (w.alloc (.cells #[] 5)):=fun w=>by
  have:=run_makeSlice (P:=Tryz.prog) w 233 5 i0 (.int .u8 0) Tryz.underlying233 hi0 hz0 .i64 .i64 0 0 zwy62 zwy62 (by simp [hs0]) (by simp [hb0]) zwy62;rw [hs0] at this;have e:madeCells (Value.int .u8 0).cells (Int.toNat 0 * 1)=#[]:=by simp [madeCells]
  rw [e] at this;exact this
 have hsz:(Tryz.prog.info? 5).map (·.size)=some 1:=by rw [hi0];simp [hs0]
 go_enter Tryz.func291,Tryz.ntmps291
 go_wp2_with (first|(refine (h1 _).mono ?_;rintro e w2 ⟨rfl,hw2⟩;rw [hw2];clear hw2 w2)|(refine wpList_copy_splice rfl _ _ _ _ rfl 5 Tryz.underlying233 hsz _ _ _ _ _ _ rfl rfl w.heap.size 0 [] 5 ?_ [] (by rfl) (fun h=>by simp at h) zwy63 zwy63 w.heap.size w ?_ (Nat.le_refl _) ?_))
 ·exact heap_alloc_new w _
 ·exact (Below.refl _ _).alloc (Nat.le_refl _) _
 ·intro w2 hh hb
  go_wp2
  refine wp_loop_once ?_
  go_wp2
  go_ret
  exact ⟨rfl,by simpa [splice] using (show _=_ from hh),hb⟩
theorem zd4 {K:Cg.KK} {w w':World} (hl:∀ b o,K b o->b < w.heap.size) {t:TypeId} (l:List Int) (hb:Below w.heap.size w w') (hh:w'.heap[w.heap.size]?=some (.cells (l.map fun n=>Value.int .u8 n).toArray t (0,0))) (hlen:l.length<=maxLen) :
  ∃ K',Evo K K' w w'/\PRel K' w' (.slc 1 (l.map fun n=>.base (.int .u8 n)) false) (.slice (some ⟨w.heap.size,0,none⟩) l.length l.length):=by
 have hlt:w.heap.size < w'.heap.size:=(Array.getElem?_eq_some_iff.1 hh).1;refine ⟨zcr K w l.length,⟨hb,fun b o h=>.inl h,fun b o h=>h.imp id (fun ⟨h1,_⟩=>by omega),fun b o h=>?_⟩,?_⟩
 ·rcases h with h|⟨h,_⟩
  ·have:=hl b o h;omega
  ·omega
 ·have hcell:∀ (k:Nat) (v:Value),(l.map fun n=>Value.int .u8 n)[k]?=some v->w'.cell? ⟨w.heap.size,k,none⟩=some v:=by
   intro k v hv;simp only [World.cell?,hh];simpa using hv
  have:=PRel.slc (K:=zcr K w l.length) (w:=w') 1 (l.map fun n=>.base (.int .u8 n)) false w.heap.size 0 l.length (fun i=>[Value.int .u8 (l.getD i 0)]) zwy62 zwy63 zwy63 (by simpa using hlen) hlen
   (fun i e he=>by
    rw [List.getElem?_map] at he;cases hi:l[i]? with
    | none=>simp [hi] at he
    | some n =>
     simp [hi] at he;subst he;refine ⟨rfl,rfl,fun k v hv=>?_⟩;cases k with
     | zero =>
      simp [List.getD_eq_getElem?_getD,hi] at hv;subst hv;refine ⟨.inr ⟨rfl,by have:=(List.getElem?_eq_some_iff.1 hi).1;omega⟩,?_,rfl⟩;have:=hcell i (.int .u8 n) (by simp [hi]);simpa using this
     | succ k=>simp at hv)
   (fun i e k c v he hc hv=>by
    rw [List.getElem?_map] at he;cases hi:l[i]? with
    | none=>simp [hi] at he
    | some n =>
     simp [hi] at he;subst he;cases k with
     | zero =>
      simp [PV.cells] at hc;subst hc;simp [List.getD_eq_getElem?_getD,hi] at hv;subst hv;exact .base _ rfl
     | succ k=>simp [PV.cells] at hc)
  simpa using this
theorem zdy (v d:Int) (h0:0<=d) (h1:d<=3):ACall Tryz.prog 291 [.slc 1 [.base (.int .u8 v)] true,pi d] (.slc 1 ((List.replicate d.toNat v).map fun n=>.base (.int .u8 n)) false):=by
 refine ⟨⟨_,Tryz.func291,rfl,by kernel_rfl⟩,fun K w vs hl hv=>?_⟩;obtain ⟨v0,vs0,rfl,r0,hv0⟩:=hv.cons_inv;obtain ⟨v1,vs1,rfl,r1,hv1⟩:=hv0.cons_inv;obtain rfl:=hv1.nil_inv;cases r1;cases r0 with
 | slc _ _ _ b o cap vss q0 q1 q2 q3 q4 q5 q6 =>
  obtain ⟨_,e2,e3⟩:=q5 0 _ rfl;have hvs:vss 0=[Value.int .u8 v]:=by
   cases hx:vss 0 with
   | nil=>rw [hx] at e2;simp at e2
   | cons x xs =>
    rw [hx] at e2;have:xs=[]:=List.eq_nil_of_length_eq_zero (by simpa using e2);subst this;have:=q6 0 _ 0 _ x rfl rfl (by rw [hx];rfl);cases this;rfl
  have hc:w.cell? ⟨b,o,none⟩=some (.int .u8 v):=by
   have:=(e3 0 (.int .u8 v) (by rw [hvs];rfl)).2.1;simpa using this
  have hd:d=0\/d=1\/d=2\/d=3:=by omega
  rcases hd with rfl|rfl|rfl|rfl
  ·refine (zoh v _ cap w hc).mono ?_;rintro e w' ⟨rfl,hh,hb⟩;obtain ⟨K',g1,g2⟩:=zd4 hl [] hb hh zwy63;exact ⟨_,K',rfl,g1,g2⟩
  ·refine (znt v _ cap w hc).mono ?_;rintro e w' ⟨rfl,hh,hb⟩;obtain ⟨K',g1,g2⟩:=zd4 hl [v] hb hh (by simp [maxLen]);exact ⟨_,K',rfl,g1,g2⟩
  ·refine (zme v _ cap w hc).mono ?_;rintro e w' ⟨rfl,hh,hb⟩;obtain ⟨K',g1,g2⟩:=zd4 hl [v,v] hb hh (by simp [maxLen]);exact ⟨_,K',rfl,g1,g2⟩
  ·refine (zmW v _ cap w hc).mono ?_;rintro e w' ⟨rfl,hh,hb⟩;obtain ⟨K',g1,g2⟩:=zd4 hl [v,v,v] hb hh (by simp [maxLen]);exact ⟨_,K',rfl,g1,g2⟩
end Go.Cg
namespace Go.Cg
open Go.RowKit
section
variable {P:Program} {tb:Tab} {n:Nat} {g:Base} {K K':KK} {w w':World} {ρ ρ':Nat->Value} {H H':HEnv} {env:Env} {a:Act} {ops:List Oper} {o:Oper} {rest:List Oper} {Q:Env->HEnv->Prop} {f:FuncId} {args:List AV} {r:AV}
def RetC (tb:Tab) (tc ty:Nat) (r:AV) (H':HEnv):QC:=fun ex env H=>(ex=.normal\/ex=.ret)/\∃ i off v,env.get tc=some (.box i off)/\H.get i=some (.cell v)/\XV tb H ty v off=some r/\Qx H H' [(0,r)]
end
mutual
def AV.rn (σ:Nat->Nat):AV->AV
 | .pv p=>.pv p
 | .own i=>.own (σ i)
 | .box i off=>.box (σ i) off
 | .ad i off=>.ad (σ i) off
 | .agg cs=>.agg (AV.rns σ cs)
 | .fn f first cap=>.fn f (AV.rns σ first) (AV.rns σ cap)
 | .any=>.any
 | .any1=>.any1
def AV.rns (σ:Nat->Nat):List AV->List AV
 | []=>[]
 | c::l=>AV.rn σ c::AV.rns σ l
end
def HE.rn (σ:Nat->Nat):HE->HE
 | .cell v=>.cell (v.rn σ)
 | .row t sz es=>.row t sz es
 | .dead=>.dead
 | .pin v u=>.pin (v.rn σ) u
 | .obj X=>.obj X
 | .mrow t sz es=>.mrow t sz es
theorem zcC (σ:Nat->Nat):∀ l:List AV,(AV.rns σ l).length=l.length
 | []=>rfl
 | c::l=>by rw [AV.rns,List.length_cons,List.length_cons,zcC σ l]
theorem zcI (σ:Nat->Nat):∀ (l:List AV) (j:Nat),(AV.rns σ l)[j]?=(l[j]?).map (AV.rn σ)
 | [],j=>by simp [AV.rns]
 | c::l,0=>by simp [AV.rns]
 | c::l,j + 1=>by simp [AV.rns,zcI σ l j]
theorem zkV {σ:Nat->Nat} (x:HE):(x.rn σ).live=x.live:=by cases x <;> rfl
abbrev Inj (σ:Nat->Nat):Prop:=∀ i j,σ i=σ j->i=j
section
variable {K:KK} {w:World} {ρ:Nat->Value} {H:HEnv} {σ:Nat->Nat} {av:AV} {v:Value}
theorem ARel.up {ρ':Nat->Value} {H':HEnv} (h:ARel K w ρ H av v) (hk:∀ i,(H.get i).isSome=true->(H'.get (σ i)).isSome=true/\ρ' (σ i)=ρ i):ARel K w ρ' H' (av.rn σ) v:=by
 induction h with
 | pv p v hp=>exact .pv p v hp
 | own i hi=>obtain ⟨h1,h2⟩:=hk i hi;rw [<-h2];exact .own (σ i) h1
 | box i off b hi hb=>obtain ⟨h1,h2⟩:=hk i hi;exact .box (σ i) off b h1 (by rw [h2];exact hb)
 | ad i off b m c hi hb=>obtain ⟨h1,h2⟩:=hk i hi;exact .ad (σ i) off b m c h1 (by rw [h2];exact hb)
 | agg cs vs h1 h2 h3 ih =>
  refine .agg (AV.rns σ cs) vs (by rw [zcC];exact h1) h2 fun j c v hc hv=>?_
  rw [zcI] at hc;cases hx:cs[j]? with
  | none=>rw [hx] at hc;cases hc
  | some x=>rw [hx] at hc;simp only [Option.map_some,Option.some.injEq] at hc;subst hc;exact ih j x v hx hv
 | fn f first cap vf vc h1 h2 h3 h4 ih1 ih2 =>
  refine .fn f (AV.rns σ first) (AV.rns σ cap) vf vc (by rw [zcC];exact h1) (by rw [zcC];exact h2) (fun j c v hc hv=>?_) fun j c v hc hv=>?_
  ·rw [zcI] at hc;cases hx:first[j]? with
   | none=>rw [hx] at hc;cases hc
   | some x=>rw [hx] at hc;simp only [Option.map_some,Option.some.injEq] at hc;subst hc;exact ih1 j x v hx hv
  ·rw [zcI] at hc;cases hx:cap[j]? with
   | none=>rw [hx] at hc;cases hc
   | some x=>rw [hx] at hc;simp only [Option.map_some,Option.some.injEq] at hc;subst hc;exact ih2 j x v hx hv
 | any v=>exact .any v
 | any1 v h1 h2=>exact .any1 v h1 h2
theorem ARel.down {Hc:HEnv} {a':AV} (h:ARel K w ρ H a' v):∀ av:AV,a'=av.rn σ->Zz Hc av=true->ARel K w (fun i=>ρ (σ i)) Hc av v:=by
 induction h with
 | pv p v hp=>intro av e _;cases av <;> simp only [AV.rn,AV.pv.injEq,reduceCtorEq] at e;subst e;exact .pv _ _ hp
 | own i hi=>intro av e hr;cases av <;> simp only [AV.rn,AV.own.injEq,reduceCtorEq] at e;subst e;exact .own _ hr
 | box i off b hi hb=>intro av e hr;cases av <;> simp only [AV.rn,AV.box.injEq,reduceCtorEq] at e;obtain ⟨rfl,rfl⟩:=e;exact .box _ _ b hr hb
 | ad i off b m c hi hb=>intro av e hr;cases av <;> simp only [AV.rn,AV.ad.injEq,reduceCtorEq] at e;obtain ⟨rfl,rfl⟩:=e;exact .ad _ _ b m c hr hb
 | agg cs vs h1 h2 h3 ih =>
  intro av e hr;cases av <;> simp only [AV.rn,AV.agg.injEq,reduceCtorEq] at e;subst e;exact .agg _ vs (by rw [zcC] at h1;exact h1) h2 fun j c v hc hv=>ih j (c.rn σ) v (by rw [zcI,hc];rfl) hv c rfl (ZY hr j c hc)
 | fn f first cap vf vc h1 h2 h3 h4 ih1 ih2 =>
  intro av e hr;cases av <;> simp only [AV.rn,AV.fn.injEq,reduceCtorEq] at e;obtain ⟨rfl,rfl,rfl⟩:=e;simp only [Zz,Bool.and_eq_true] at hr;exact .fn _ _ _ vf vc (by rw [zcC] at h1;exact h1) (by rw [zcC] at h2;exact h2) (fun j c v hc hv=>ih1 j (c.rn σ) v (by rw [zcI,hc];rfl) hv c rfl (ZY hr.1 j c hc)) fun j c v hc hv=>ih2 j (c.rn σ) v (by rw [zcI,hc];rfl) hv c rfl (ZY hr.2 j c hc)
 | any v=>intro av e _;cases av <;> simp only [AV.rn,reduceCtorEq] at e;exact .any v
 | any1 v h1 h2=>intro av e _;cases av <;> simp only [AV.rn,reduceCtorEq] at e;exact .any1 v h1 h2
end
def zxt (g:Base) (K:KK) (w:World) (ρ:Nat->Value) (σ:Nat->Nat) (Hc H:HEnv):Base :=
 ⟨g.w0,K,g.w1,g.ds,w,fun b=>g.pr b\/∃ j y,H.get j=some y/\(∀ i,j=σ i->Hc.get i=none)/\y.live=true/\yE (ρ j)=some b⟩
def PartOf (σ:Nat->Nat) (Hc H:HEnv):Prop:=∀ i x,Hc.get i=some x->H.get (σ i)=some (x.rn σ)
section
variable {g:Base} {K K':KK} {w w':World} {ρ ρ':Nat->Value} {H H' Hc Hc':HEnv} {σ:Nat->Nat}
theorem FS.take (hσ:Inj σ) (hp:PartOf σ Hc H) (hin:hIn Hc Hc=true) (hf:FS g K ρ H w):FS (zxt g K w ρ σ Hc H) K (fun i=>ρ (σ i)) Hc w:=by
 refine ⟨hf.below,fun _ _ h=>h,fun _ _ h=>.inl h,hf.lt,hf.others,⟨?_,fun _ _ _=>rfl⟩,?_,?_,?_⟩
 ·rintro b (hb|⟨j,y,hj,hn,hl,hb⟩)
  ·exact ⟨(hf.pt.same b hb).1,rfl,fun _=>Iff.rfl⟩
  ·exact ⟨((hf.heap.ok j y hj).block_lt hl hb).2,rfl,fun _=>Iff.rfl⟩
 ·intro i x b hi hl hb;have hl':(x.rn σ).live=true:=by rw [zkV];exact hl
  rintro (hpr|⟨j,y,hj,hn,hly,hbj⟩)
  ·exact hf.away (σ i) _ b (hp i x hi) hl' hb hpr
  ·have hne:σ i≠j:=by intro e;have:=hn i e.symm;rw [hi] at this;cases this
   exact hf.heap.apart (σ i) j _ y b hne (hp i x hi) hj hl' hly hb hbj
 ·intro i x hi;have hok:=hf.heap.ok (σ i) _ (hp i x hi);cases x with
  | cell v=>obtain ⟨b,t,arr,u,q1,q2,q3,q4,q5,q6⟩:=hok;exact ⟨b,t,arr,u,q1,q2,q3,q4.down v rfl (zbF hin i v hi),q5,q6⟩
  | pin v u=>exact ARel.down hok v rfl (zaa hin i v u hi)
  | row t sz es=>exact hok
  | mrow t sz es=>exact hok
  | dead=>trivial
  | obj X=>exact hok
 ·intro i j x y b hij hi hj lx ly bx bj;exact hf.heap.apart (σ i) (σ j) _ _ b (fun e=>hij (hσ _ _ e)) (hp i x hi) (hp j y hj) (by rw [zkV];exact lx) (by rw [zkV];exact ly) bx bj
end
section
variable {P:Program} {n:Nat} {g:Base} {H:HEnv} {env:Env} {ops:List Oper} {o:Oper} {rest:List Oper} {Q:Env->HEnv->Prop} {QQ:QC} {c:Code} {f:FuncId} {args:List AV} {ι:Type} {r:ι->AV} {H':ι->HEnv} {ps:List Nat} {σ:Nat->Nat}
end
section
variable {P:Program} {tb:Tab} {n:Nat} {g:Base} {K K':KK} {w w':World} {ρ ρ':Nat->Value} {H:HEnv} {env:Env} {a:Act} {ops:List Oper} {o:Oper} {rest:List Oper} {Q:Env->HEnv->Prop} {f:FuncId} {args:List AV}
theorem zjV {tc ty:Nat} {ι:Type} {r:ι->AV} {H':ι->HEnv} (htb:yZ P tb) {fn:Func} {c:Code} (hf:P.funcs[f]?=some fn) (hb:fn.body=some c) (hn:(fn.name == "runtime.NumGoroutine")=false) (hnt:fn.ntmps=n) (hargs:args.length<=n) (hrs:fn.results.toList=[.cell tc ty])
  {lone:Bool} (h:∀ g:Base,(lone=true->g.w1.heap.size=0)->AW P n g c (WM 0 args) H (fun ex env1 H1=>∃ u,RetC tb tc ty (r u) (H' u) ex env1 H1)):ACallU P f args H r H' lone:=by
 refine ⟨⟨fn,hf,by simp [hb],hn⟩,fun g0 K ρ w vs hw1 hfs0 hv=>?_⟩;obtain ⟨g,hg0⟩:∃ g:Base,g=⟨g0.w0,g0.K0,g0.w1,[],g0.wp,g0.pr⟩:=⟨_,rfl⟩
 have hfs:FS g K ρ H w:=by subst hg0;exact ⟨hfs0.below,hfs0.old,hfs0.new,hfs0.lt,hfs0.others,⟨hfs0.pt.same,hfs0.pt.kept⟩,hfs0.away,hfs0.heap⟩
 refine calls_of_wp hf hb ?_;have hlen:vs.length=args.length:=hv.1;refine wp_mono (wpIn_wide.1 ((h g (by subst hg0;exact hw1)).go _ w ⟨by simp [hnt];omega,by subst hg0;rfl,K,ρ,hfs,?_⟩ none 0)) ?_
 ·intro t av hg;obtain ⟨_,hp⟩:=Vu args 0 t av hg;have hlt:t < vs.length:=by rw [hlen];exact (List.getElem?_eq_some_iff.1 hp).1
  refine ⟨vs[t],?_,hv.2 t av _ hp (List.getElem?_eq_getElem hlt)⟩;rw [Array.getElem?_append_left zwy80];simp [hlt]
 ·rintro e a' w' ⟨env1,H1,hi,u0,he,hq⟩;have key:∃ v K' ρ',(results fn a'.tmps).run P w'=.ok v w'/\a'.defers=[]/\FS g0 K' ρ' (H' u0) w'/\ARel K' w' ρ' (H' u0) (r u0) v:=by
   have back:∀ {K':KK} {ρ':Nat->Value},FS g K' ρ' (H' u0) w'->FS g0 K' ρ' (H' u0) w':=fun hf1=>by
    subst hg0;exact ⟨hf1.below,hf1.old,hf1.new,hf1.lt,hf1.others,⟨hf1.pt.same,hf1.pt.kept⟩,hf1.away,hf1.heap⟩
   obtain ⟨i,off,v0,hget,hcell,hpart,hfit⟩:=hq;obtain ⟨h1,h2,K',ρ',hf',he0⟩:=hi;have hb:=qO he0 (x:=.tmp tc) hget;obtain ⟨v,hv1,hv2⟩:=zah htb hf' hb hcell hpart;have hf2:=FS.narrow hf' hfit;have hin:=hfit.2;simp only [Xi,Bool.and_eq_true] at hin;have hpt:∃ ad,a'.eval (.tmp tc)=.pointer (some ad):=by generalize a'.eval (.tmp tc)=vv at hb;cases hb;exact ⟨_,rfl⟩
   obtain ⟨ad,had⟩:=hpt;have e1:a'.tmps.getD tc undef=.pointer (some ad):=had;have hl:(loadVar ty ad).run P w'=.ok v w':=by
    rw [had] at hv1;simpa [Instr.loadAt,Instr.sureAddr,asAddr] using hv1
   have hres:(results fn a'.tmps).run P w'=.ok v w':=by
    unfold results;rw [Array.mapM_eq_mapM_toList,hrs];simp only [List.mapM_cons,List.mapM_nil,Sem.run_bind,Sem.run_map,e1];simp [asAddr,hl,Result.andThen]
   exact ⟨v,K',ρ',hres,by rw [h2];subst hg0;rfl,back hf2,hv2.refs hin.1.1⟩
  obtain ⟨v,K',ρ',hres,hd,hf',hr⟩:=key;rcases he with rfl|rfl
  ·exact ⟨hd,_,hres,v,K',ρ',u0,rfl,hf',hr⟩
  ·exact ⟨hd,_,hres,v,K',ρ',u0,rfl,hf',hr⟩
end
end Go.Cg
