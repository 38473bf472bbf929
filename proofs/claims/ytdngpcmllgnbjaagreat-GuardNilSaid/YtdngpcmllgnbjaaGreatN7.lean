/- A part of the walks by abstract values: no statement of its own. -/
import Derived.Test.YtdngpcmllgnbjaaGreatN6
set_option linter.unusedVariables false
set_option linter.unusedSimpArgs false
namespace Go.Cg
theorem BL:(∀ b:Bool,(b&&true)=b)∧(∀ b:Bool,(true&&b)=b)∧(∀ b:Bool,(b&&false)=false)∧(∀ b:Bool,(false&&b)=false)∧(∀ b:Bool,(b||true)=true)∧(∀ b:Bool,(true||b)=true)∧(∀ b:Bool,(b||false)=b)
  ∧ (∀ b:Bool,(false||b)=b)∧((!true)=false)∧((!false)=true):=by simp
theorem drop_cons {α:Type} {l:List α} {k:Nat} (h:k < l.length):l.drop k=l[k]::l.drop (k + 1):=List.drop_eq_getElem_cons h
theorem zfG {α:Type} {l:List α} {p:α→Bool} {k:Nat} (h:k < l.length):(l.drop k).all p=(p l[k]&&(l.drop (k + 1)).all p):=by rw [drop_cons h];rfl
theorem zeR {α:Type} {l:List α} {p:α→Bool} {k:Nat} (h:k < l.length):(l.drop k).any p=(p l[k]||(l.drop (k + 1)).any p):=by rw [drop_cons h];rfl
theorem drop_end {α:Type} {l:List α} {k:Nat} (h:l.length≤k):l.drop k=[]:=List.drop_eq_nil_of_le h
theorem qU:∀ (n:Nat) (l:List Int),l.Nodup→(∀ x∈l,0≤x∧x < n)→l.length≤n
 | 0,l,_,h=>by
  cases l with
  | nil=>simp
  | cons x l=>have:=h x (by simp);omega
 | n + 1,l,hd,h=>by
  by_cases hm:(n:Int)∈l
  ·have h1:=qU n (l.erase n) (hd.erase _) (fun x hx=>by
    rw [hd.mem_erase_iff] at hx
    have:=h x hx.2
    omega)
   rw [List.length_erase_of_mem hm] at h1
   omega
  ·have:=qU n l hd (fun x hx=>by
    have:=h x hx
    have hne:x≠n:=by rintro rfl;exact hm hx
    omega)
   omega
end Go.Cg
namespace Go.Cg
open Go.RowKit
structure ACallM (P:Program) (f:FuncId) (args:List AV) (H:HEnv) (r:AV) (H':HEnv) (lone:Bool:=false):Prop where
 stands:QZ P f
 calls:∀ (g:Base) (K:KK) (ρ:Nat→Value) (w:World) (vs:List Value),(lone=true→g.w1.heap.size=0)→FS g K ρ H w→Zq K w ρ H args vs →
  Calls P f vs.toArray w fun e w'=>∃ v K' ρ',e=.returned v∧FS g K' ρ' H' w'∧ARel K' w' ρ' H' r v
def zo1 (tb:Tab) (rs:List ResultVar) (r:AV) (H':HEnv):QC:=fun ex env H=>(ex=.normal∨ex=.ret) ∧
 ((∃ ps,WY tb H env rs=some ps∧r=.pv (zl ps)∧YO H H' [])∨(∃ t,rs=[.tmp t]∧env.get t=some r∧YO H H' [(t,r)]))
section
variable {P:Program} {tb:Tab} {n:Nat} {g:Base} {K K':KK} {w w':World} {ρ ρ':Nat→Value} {H H':HEnv} {env:Env} {a:Act} {ops:List Oper} {o:Oper} {rest:List Oper} {Q:Env→HEnv→Prop} {f:FuncId} {args:List AV} {r:AV}
theorem FS.narrow {e:Env} (hf:FS g K ρ H w) (hs:YO H H' e):FS g K ρ H' w:=by
 obtain ⟨hs,hin⟩:=hs
 simp only [Bool.and_eq_true] at hin
 refine ⟨hf.below,hf.old,hf.new,hf.lt,hf.others,hf.pt,fun i h b hi=>hf.away i h b (hs i h hi),?_,?_⟩
 ·intro i h hi
  have:=hf.heap.ok i h (hs i h hi)
  cases h with
  | cell v=>obtain ⟨b,t,arr,u,h1,h2,h3,h4,h5,h6⟩:=this;exact ⟨b,t,arr,u,h1,h2,h3,h4.refs (qP hin.2 i v hi),h5,h6⟩
  | pin v u=>exact ARel.refs this (qc hin.2 i v u hi)
  | row t sz es=>exact this
  | mrow t sz es=>exact this
  | dead=>exact this
  | obj X=>exact this
 ·intro i j h h' b hij hi hj
  exact hf.heap.apart i j h h' b hij (hs i h hi) (hs j h' hj)
theorem zJ (htb:zX P tb) {fn:Func} {c:Code} (hf:P.funcs[f]?=some fn) (hb:fn.body=some c) (hn:(fn.name == "runtime.NumGoroutine")=false) (hnt:fn.ntmps=n) (hargs:args.length≤n) (rs:List ResultVar) (hrs:fn.results.toList=rs)
  {lone:Bool} (h:∀ g:Base,(lone=true→g.w1.heap.size=0)→AW P n g c (VJ 0 args) H (zo1 tb rs r H')):ACallM P f args H r H' lone:=by
 refine ⟨⟨fn,hf,by simp [hb],hn⟩,fun g0 K ρ w vs hw1 hfs0 hv=>?_⟩
 obtain ⟨g,hg0⟩:∃ g:Base,g=⟨g0.w0,g0.K0,g0.w1,[],g0.wp,g0.pr⟩:=⟨_,rfl⟩
 have hfs:FS g K ρ H w:=by subst hg0;exact ⟨hfs0.below,hfs0.old,hfs0.new,hfs0.lt,hfs0.others,⟨hfs0.pt.same,hfs0.pt.kept⟩,hfs0.away,hfs0.heap⟩
 refine calls_of_wp hf hb ?_
 have hlen:vs.length=args.length:=hv.1
 refine wp_mono (wpIn_wide.1 ((h g (by subst hg0;exact hw1)).go _ w ⟨by simp [hnt];omega,by subst hg0;rfl,K,ρ,hfs,?_⟩ none 0)) ?_
 ·intro t av hg
  obtain ⟨_,hp⟩:=Qn args 0 t av hg
  have hlt:t < vs.length:=by rw [hlen];exact (List.getElem?_eq_some_iff.1 hp).1
  refine ⟨vs[t],?_,hv.2 t av _ hp (List.getElem?_eq_getElem hlt)⟩
  rw [Array.getElem?_append_left (by simpa using hlt)]
  simp [hlt]
 ·rintro e a' w' ⟨env1,H1,hi,he,hq⟩
  have key:∃ v K' ρ',(results fn a'.tmps).run P w'=.ok v w'∧a'.defers=[]∧FS g0 K' ρ' H' w'∧ARel K' w' ρ' H' r v:=by
   have back:∀ {K':KK} {ρ':Nat→Value},FS g K' ρ' H' w'→FS g0 K' ρ' H' w':=fun hf1=>by
    subst hg0;exact ⟨hf1.below,hf1.old,hf1.new,hf1.lt,hf1.others,⟨hf1.pt.same,hf1.pt.kept⟩,hf1.away,hf1.heap⟩
   rcases hq with ⟨ps,hps,rfl,hfit⟩|⟨t,ht,hget,hfit⟩
   ·obtain ⟨_,h2,K',ρ',hf',he0⟩:=hi
    obtain ⟨us,hrun,hru⟩:=Qo htb hf' he0 hps
    have hi2:Inv n g [] H' a' w':=((⟨‹_›,h2,K',ρ',hf',he0⟩:Inv n g env1 H1 a' w').sub yj).hsub hfit
    have hres:(results fn a'.tmps).run P w'=.ok (if hh:us.toArray.size=1 then us.toArray[0] else .tuple us.toArray) w':=by
     unfold results
     rw [Array.mapM_eq_mapM_toList,hrs]
     simp only [Sem.run_bind,Sem.run_map]
     erw [hrun]
     rfl
    have hval:PRel K' w' (zl ps) (if hh:us.toArray.size=1 then us.toArray[0] else .tuple us.toArray):=by
     split
     ·rename_i hh
      have hl1:=hru.1
      have hu:us.length=1:=by simpa using hh
      obtain ⟨u,rfl⟩:=List.length_eq_one_iff.1 hu
      obtain ⟨p,rfl⟩:=List.length_eq_one_iff.1 (show ps.length=1 by omega)
      exact hru.2 0 p u (by simp) (by simp)
     ·rename_i hh
      simp at hh
      have:zl ps=.tup ps:=by
       unfold zl
       split
       ·rename_i p;exact absurd (by have:=hru.1;simpa using this) hh
       ·rfl
      rw [this]
      exact .tup ps us hru.1 hru.2
    have hf2:=FS.narrow hf' hfit
    exact ⟨_,K',ρ',hres,by rw [h2];subst hg0;rfl,back hf2,.pv _ _ hval⟩
   ·obtain ⟨h1,h2,K',ρ',hf',he0⟩:=hi
    obtain ⟨v,hv1,hv2⟩:=he0 t r hget
    have hf2:=FS.narrow hf' hfit
    have hin:=hfit.2
    simp only [XP,Bool.and_eq_true] at hin
    have hres:(results fn a'.tmps).run P w'=.ok v w':=by
     unfold results
     rw [Array.mapM_eq_mapM_toList,hrs,ht]
     simp [Result.andThen,hv1]
    exact ⟨v,K',ρ',hres,by rw [h2];subst hg0;rfl,back hf2,hv2.refs hin.1.1⟩
  obtain ⟨v,K',ρ',hres,hd,hf',hr⟩:=key
  rcases he with rfl|rfl
  ·exact ⟨hd,_,hres,v,K',ρ',rfl,hf',hr⟩
  ·exact ⟨hd,_,hres,v,K',ρ',rfl,hf',hr⟩
def zD (us:Nat→Value) (ps:List Nat):HEnv:=ps.map fun i=>(1000 + i,.pin (.own i) (us i))
def QJ (ps:List Nat):HEnv:=ps.map fun i=>(i,.dead)
def zlN (A:HEnv) (B:HEnv):Bool:=A.all fun x=>(B.get x.1).isNone
def Zr (Hc Hc' R:HEnv) (ps:List Nat) (ars:List AV) (env2:Env) (r:AV):Bool :=
 zlN Hc R&&zlN Hc' R&&zdH 1000 Hc&&zdH 1000 Hc'&&Qk Hc ars&&hIn Hc Hc&&hIn Hc' Hc'&&Zg Hc' r&&hIn (R++QJ ps) R&&XP (R++QJ ps) env2&&ps.all fun i=>(Hc.get i).isSome&&(Hc'.get i).isSome
theorem Yg {us:Nat→Value}:∀ {ps:List Nat} {i:Nat} {h:HE},HEnv.get (zD us ps) i=some h→1000≤i∧i - 1000∈ps∧h=.pin (.own (i - 1000)) (us (i - 1000))
 | [],i,h,hg=>by simp [zD,HEnv.get_nil] at hg
 | p::ps,i,h,hg=>by
  rw [zD,List.map_cons,HEnv.get_cons] at hg
  split at hg
  ·rename_i e;subst e
   simp only [Option.some.injEq] at hg;subst hg
   rw [Nat.add_sub_cancel_left];exact ⟨by omega,by simp,rfl⟩
  ·obtain ⟨h1,h2,h3⟩:=Yg (ps:=ps) hg
   exact ⟨h1,by simp [h2],h3⟩
theorem Vl {us:Nat→Value}:∀ {ps:List Nat} {i:Nat},i∈ps→HEnv.get (zD us ps) (1000 + i)=some (.pin (.own i) (us i))
 | [],i,h=>by cases h
 | p::ps,i,h=>by
  rw [zD,List.map_cons,HEnv.get_cons]
  split
  ·rename_i e
   have:p=i:=by omega
   subst this;rfl
  ·rename_i e
   rcases List.mem_cons.1 h with rfl|h
   ·exact absurd rfl e
   ·exact Vl h
theorem qy {A B:HEnv} (h:zlN A B=true):∀ i x,A.get i=some x→B.get i=none:=by
 induction A with
 | nil=>intro i x hx;simp [HEnv.get_nil] at hx
 | cons y A ih =>
  intro i x hx
  obtain ⟨j,z⟩:=y
  simp only [zlN,List.all_cons,Bool.and_eq_true] at h
  rw [HEnv.get_cons] at hx
  split at hx
  ·rename_i e;subst e;simpa using h.1
  ·exact ih h.2 i x hx
theorem Vs {ps:List Nat} {i:Nat} (h:(HEnv.get (QJ ps) i).isSome=true):i∈ps:=by
 induction ps with
 | nil=>simp [QJ,HEnv.get_nil] at h
 | cons p ps ih =>
  rw [QJ,List.map_cons,HEnv.get_cons] at h
  split at h
  ·rename_i e;simp [e]
  ·simp [ih h]
theorem yZ {w w':World} {B e sz n:Nat} {v:Value} {xs:List Value} (h:w.ownsRow B e sz v n xs) (hb:∀ b,zo v=some b→w'.heap[b]?=w.heap[b]?):w'.ownsRow B e sz v n xs:=by
 obtain ⟨h1,h2⟩:=h
 refine ⟨h1,h2.imp id ?_⟩
 rintro ⟨g,cap,cur,a,b,c,d⟩
 exact ⟨g,cap,cur,a,b,by rw [hb g (by rw [a];rfl)];exact c,d⟩
theorem qQ {w:World} {B e sz n:Nat} {v:Value} {xs:List Value} (h:w.ownsRow B e sz v n xs) (b:Nat):zo v=some b↔v.ownBlock=some b:=by
 rcases h.2 with ⟨rfl,_⟩|⟨_,_,_,rfl,_⟩ <;> simp [zo,Value.ownBlock]
theorem Zu {xs:Array Operand} {ts:Array TypeId} {d:Tmp} {ars:List AV} (Hc Hc' R:HEnv) (env2:Env) {lone:Bool} (ps:List Nat) (hw1:lone=true→g.w1.heap.size=0) (hg:guardE ops env o=some true)
  (hop:o.op=.call { callee:=.value (.func f),args:=xs,argTypes:=ts }) (hargs:avs env xs.toList=some ars) (hsub:HSub H (Hc++R)) (hs:Sub env env2) (hd:o.dst=some d) (hdt:Nat.blt d n=true)
  (hchk:Zr Hc Hc' R ps ars env2 r=true) (hc:∀ us,ACallM P f ars (Hc++zD us ps) r (Hc'++zD us ps) lone)
  (h:AO P n g ops.toArray rest ((d,r)::env2) (Hc'++R) Q):AO P n g ops.toArray (o::rest) env H Q:=by
 simp only [Zr,Bool.and_eq_true] at hchk
 obtain ⟨⟨⟨⟨⟨⟨⟨⟨⟨⟨d1,d2⟩,d3⟩,d4⟩,i1⟩,i2⟩,i3⟩,i4⟩,i5⟩,i6⟩,i7⟩:=hchk
 have i7':∀ i∈ps,(Hc.get i).isSome=true∧(Hc'.get i).isSome=true:=fun i hi=>by simpa using List.all_eq_true.1 i7 i hi
 refine ⟨fun a w hinv=>?_⟩
 have hw:=yh hinv hg
 obtain ⟨h1,h2,K,ρ,hf,he⟩:=hinv
 refine wpList_step fun KK hKK=>?_
 rw [if_pos hw]
 have hlatR:Later K K w w:=.refl K w
 have gC:∀ i x,Hc.get i=some x→H.get i=some x:=fun i x hx=>hsub i x (by rw [get_append,hx])
 have gR:∀ i x,R.get i=some x→H.get i=some x:=fun i x hx=>hsub i x (by
  rw [get_append]
  cases hh:Hc.get i with
  | none=>exact hx
  | some y=>rw [qy d1 i y hh] at hx;cases hx)
 have nC:∀ i x,R.get i=some x→Hc.get i=none:=fun i x hx=>by
  cases hh:Hc.get i with
  | none=>rfl
  | some y=>rw [qy d1 i y hh] at hx;cases hx
 have nC':∀ i x,R.get i=some x→Hc'.get i=none:=fun i x hx=>by
  cases hh:Hc'.get i with
  | none=>rfl
  | some y=>rw [qy d2 i y hh] at hx;cases hx
 have hpinC:∀ {A:HEnv} {us:Nat→Value} {i:Nat} {x:HE},HEnv.get (A++zD us ps) i=some x→x.live=true→A.get i=some x:=by
  intro A us i x hx hl
  rw [get_append] at hx
  cases hh:A.get i with
  | some z=>rw [hh] at hx;exact hx
  | none =>
   rw [hh] at hx
   obtain ⟨_,_,rfl⟩:=Yg hx
   simp [HE.live] at hl
 obtain ⟨g',hg'⟩:∃ g':Base,g'=⟨g.w0,K,g.w1,g.ds,w,fun b=>g.pr b∨∃ i x,R.get i=some x∧x.live=true∧zo (ρ i)=some b⟩:=⟨_,rfl⟩
 have hfs:FS g' K ρ (Hc++zD ρ ps) w:=by
  subst hg'
  refine ⟨hf.below,fun _ _ h=>h,fun _ _ h=>.inl h,hf.lt,hf.others,⟨?_,fun _ _ _=>rfl⟩,?_,?_,?_⟩
  ·rintro b (hb|⟨i,x,hi,hl,hb⟩)
   ·exact ⟨(hf.pt.same b hb).1,rfl,fun _=>Iff.rfl⟩
   ·exact ⟨((hf.heap.ok i x (gR i x hi)).block_lt hl hb).2,rfl,fun _=>Iff.rfl⟩
  ·intro i x b hi hl hb
   have hC:=hpinC hi hl
   rintro (hp|⟨j,y,hj,hly,hbj⟩)
   ·exact hf.away i x b (gC i x hC) hl hb hp
   ·have hne:i≠j:=by rintro rfl;rw [nC i y hj] at hC;cases hC
    exact hf.heap.apart i j x y b hne (gC i x hC) (gR j y hj) hl hly hb hbj
  ·intro i x hi
   rw [get_append] at hi
   cases hh:Hc.get i with
   | some y =>
    rw [hh] at hi;simp only [Option.some.injEq] at hi;subst hi
    have hok:=hf.heap.ok i y (gC i y hh)
    have hk:∀ j,(HEnv.get Hc j).isSome=true→(HEnv.get (Hc++zD ρ ps) j).isSome=true∧ρ j=ρ j:=fun j hj=>⟨zH j hj,rfl⟩
    cases y with
    | cell v=>obtain ⟨b,t,arr,u,q1,q2,q3,q4,q5,q6⟩:=hok;exact ⟨b,t,arr,u,q1,q2,q3,(q4.refs (qP i2 i v hh)).keeps hlatR hk,q5,q6⟩
    | pin v u=>exact (ARel.refs hok (qc i2 i v u hh)).keeps hlatR hk
    | row t sz es=>exact hok
    | mrow t sz es=>exact hok
    | dead=>exact hok
    | obj X=>exact hok
   | none =>
    rw [hh] at hi
    obtain ⟨q1,q2,rfl⟩:=Yg hi
    exact .own _ (zH _ (i7' _ q2).1)
  ·intro i j x y b hij hi hj lx ly bx bj
   exact hf.heap.apart i j x y b hij (gC i x (hpinC hi lx)) (gC j y (hpinC hj ly)) lx ly bx bj
 have hpa:=VF (a:=a) he hargs
 have hall:Zq K w ρ (Hc++zD ρ ps) ars (xs.toList.map a.eval) :=
  ⟨hpa.1,fun k c v hc hv=>((hpa.2 k c v hc hv).refs (qB i1 k c hc)).keeps hlatR fun j hj=>⟨zH j hj,rfl⟩⟩
 have hrun:(execOp a.eval o).run P w=.ok (.enter f (xs.toList.map a.eval).toArray) w:=by
  have e:(xs.toList.map a.eval).toArray=xs.map a.eval:=by rw [←Array.toList_map,Array.toArray_toList]
  rw [e]
  simp [execOp,hop,resolve,Act.eval,Deferred.ofValue,invoke,qj (hc ρ).stands]
 unfold Oper.wp
 rw [hrun]
 simp only [Oper.upon]
 refine ((hc ρ).calls g' K ρ w _ (by subst hg';exact hw1) hfs hall).mono fun e w' ⟨v,K',ρ',e1,hf',hv⟩=>?_
 subst e1
 have hlat:Later K K' w w':=by subst hg';exact ⟨hf'.old,hf'.pt.kept⟩
 have hprot:∀ b,(g.pr b∨∃ i x,R.get i=some x∧x.live=true∧zo (ρ i)=some b)→b < w'.heap.size∧w'.heap[b]?=w.heap[b]?∧∀ o,K' b o↔K b o:=by subst hg';exact hf'.pt.same
 have haway:∀ i x b,Hc'.get i=some x→x.live=true→zo (ρ' i)=some b→¬ (g.pr b∨∃ i x,R.get i=some x∧x.live=true∧zo (ρ i)=some b):=by
  subst hg';exact fun i x b hi=>hf'.away i x b (by rw [get_append,hi])
 obtain ⟨ρ2,hρ2⟩:∃ ρ2:Nat→Value,∀ j,ρ2 j=if (Hc'.get j).isSome then ρ' j else ρ j:=⟨_,fun _=>rfl⟩
 have r1:∀ j,(Hc'.get j).isSome=true→ρ2 j=ρ' j:=fun j hj=>by rw [hρ2,if_pos hj]
 have r2:∀ j,Hc'.get j=none→ρ2 j=ρ j:=fun j hj=>by rw [hρ2,hj];rfl
 have hkC:∀ j,(HEnv.get Hc' j).isSome=true→(HEnv.get (Hc'++R) j).isSome=true∧ρ2 j=ρ' j:=fun j hj=>⟨zH j hj,r1 j hj⟩
 have hps:∀ i∈ps,ρ' i=ρ i:=fun i hi=>by
  have hnone:Hc'.get (1000 + i)=none:=by
   cases hh:Hc'.get (1000 + i) with
   | none=>rfl
   | some x=>have:=YK d4 _ x hh;omega
  have:=hf'.heap.ok (1000 + i) _ (by rw [get_append,hnone];exact Vl hi)
  have this:ARel K' w' ρ' (Hc'++zD ρ ps) (.own i) (ρ i):=this
  generalize hu:ρ i=u at this
  cases this with
  | own _ _=>rfl
 have hkR:∀ j,(HEnv.get (R++QJ ps) j).isSome=true→(HEnv.get (Hc'++R) j).isSome=true∧ρ2 j=ρ j:=fun j hj=>by
  rw [get_append] at hj
  cases hh:R.get j with
  | some x =>
   have hn:=nC' j x hh
   exact ⟨by rw [get_append,hn,hh];rfl,r2 j hn⟩
  | none =>
   rw [hh] at hj
   have hm:=Vs hj
   have hs':=(i7' j hm).2
   exact ⟨zH j hs',by rw [r1 j hs',hps j hm]⟩
 have hfs2:FS g K' ρ2 (Hc'++R) w':=by
  have b1:Below g.w0.heap.size g.w0 w':=by subst hg';exact hf'.below
  have b3:∀ b o,K' b o→K b o∨g.w0.heap.size≤b:=by subst hg';exact hf'.new
  have b5:KeepsOthers g.w1 w':=by subst hg';exact hf'.others
  have bB:HRel K' w' g.w0.heap.size ρ' (Hc'++zD ρ ps):=by subst hg';exact hf'.heap
  refine ⟨b1,fun b o h=>hlat.sub b o (hf.old b o h),fun b o hk=>(b3 b o hk).elim (hf.new b o) .inr,hf'.lt,b5,⟨fun b hb=>?_,fun b o h0=>(hlat.cell b o (hf.old b o h0)).trans (hf.pt.kept b o h0)⟩,fun i x b hi hl hb=>?_,fun i x hi=>?_,fun i j x y b hij hi hj lx ly bx bj=>?_⟩
  ·obtain ⟨p1,p2,p3⟩:=hprot b (.inl hb)
   obtain ⟨q1,q2,q3⟩:=hf.pt.same b hb
   exact ⟨p1,p2.trans q2,fun o=>(p3 o).trans (q3 o)⟩
  ·rw [get_append] at hi
   cases hh:Hc'.get i with
   | some y =>
    rw [hh] at hi;simp only [Option.some.injEq] at hi;subst hi
    rw [r1 i (by rw [hh];rfl)] at hb
    exact fun hp=>haway i y b hh hl hb (.inl hp)
   | none =>
    rw [hh] at hi
    rw [r2 i hh] at hb
    exact hf.away i x b (gR i x hi) hl hb
  ·rw [get_append] at hi
   cases hh:Hc'.get i with
   | some y =>
    rw [hh] at hi;simp only [Option.some.injEq] at hi;subst hi
    rw [r1 i (by rw [hh];rfl)]
    have hok:=bB.ok i y (by rw [get_append,hh])
    have hl':=Later.refl K' w'
    cases y with
    | cell v=>obtain ⟨b,t,arr,u,q1,q2,q3,q4,q5,q6⟩:=hok;exact ⟨b,t,arr,u,q1,q2,q3,(q4.refs (qP i3 i v hh)).keeps hl' hkC,q5,q6⟩
    | pin v u=>exact (ARel.refs hok (qc i3 i v u hh)).keeps hl' hkC
    | row t sz es=>exact hok
    | mrow t sz es=>exact hok
    | dead=>exact hok
    | obj X=>exact hok
   | none =>
    rw [hh] at hi
    rw [r2 i hh]
    have hok:=hf.heap.ok i x (gR i x hi)
    have hsame:x.live=true→∀ b,zo (ρ i)=some b→w'.heap[b]?=w.heap[b]?∧∀ o,K' b o↔K b o:=fun hl b hb=>(hprot b (.inr ⟨i,x,hi,hl,hb⟩)).2
    cases x with
    | cell v =>
     obtain ⟨b,t,arr,u,q1,q2,q3,q4,q5,q6⟩:=hok
     obtain ⟨s1,s2⟩:=hsame rfl b (by rw [q1];rfl)
     exact ⟨b,t,arr,u,q1,q2,by rw [s1];exact q3,(q4.refs (qP i5 i v hi)).keeps hlat hkR,q5,fun o hk=>q6 o ((s2 o).1 hk)⟩
    | pin v u=>exact (ARel.refs hok (qc i5 i v u hi)).keeps hlat hkR
    | row t sz es =>
     obtain ⟨xs,q1,q2,q3,q4⟩:=hok
     refine ⟨xs,yZ q1 fun b hb=>(hsame rfl b hb).1,q2,fun k e he=>?_,fun b hb o=>?_⟩
     ·obtain ⟨c1,c2⟩:=q3 k e he
      exact ⟨c1,fun k c hc=>let ⟨v,h4,h5,h6⟩:=c2 k c hc;⟨v,h4,h5,h6.later hlat⟩⟩
     ·rw [(hsame rfl b ((qQ q1 b).2 hb)).2 o];exact q4 b hb o
    | mrow t sz es =>
     obtain ⟨xs,q1,q2,q3,q4⟩:=hok
     refine ⟨xs,yZ q1 fun b hb=>(hsame rfl b hb).1,q2,fun k e he=>?_,fun b hb o hk=>?_⟩
     ·obtain ⟨c1,c2⟩:=q3 k e he
      exact ⟨c1,fun k c hc=>let ⟨v,h4,h5,h6⟩:=c2 k c hc;⟨v,h4,h5,h6.later hlat⟩⟩
     ·exact q4 b hb o (((hsame rfl b ((qQ q1 b).2 hb)).2 o).1 hk)
    | dead=>trivial
    | obj X =>
     obtain ⟨b,ob,q1,q2,q3,q4,q5⟩:=hok
     obtain ⟨s1,s2⟩:=hsame rfl b (by rw [q1];rfl)
     exact ⟨b,ob,q1,q2,by rw [s1];exact q3,q4,fun o hk=>q5 o ((s2 o).1 hk)⟩
  ·rw [get_append] at hi hj
   cases hhi:Hc'.get i with
   | some x' =>
    rw [hhi] at hi;simp only [Option.some.injEq] at hi;subst hi
    rw [r1 i (by rw [hhi];rfl)] at bx
    cases hhj:Hc'.get j with
    | some y' =>
     rw [hhj] at hj;simp only [Option.some.injEq] at hj;subst hj
     rw [r1 j (by rw [hhj];rfl)] at bj
     exact bB.apart i j x' y' b hij (by rw [get_append,hhi]) (by rw [get_append,hhj]) lx ly bx bj
    | none =>
     rw [hhj] at hj;rw [r2 j hhj] at bj
     exact haway i x' b hhi lx bx (.inr ⟨j,y,hj,ly,bj⟩)
   | none =>
    rw [hhi] at hi;rw [r2 i hhi] at bx
    cases hhj:Hc'.get j with
    | some y' =>
     rw [hhj] at hj;simp only [Option.some.injEq] at hj;subst hj
     rw [r1 j (by rw [hhj];rfl)] at bj
     exact haway j y' b hhj ly bj (.inr ⟨i,x,hi,lx,bx⟩)
    | none =>
     rw [hhj] at hj;rw [r2 j hhj] at bj
     exact hf.heap.apart i j x y b hij (gR i x hi) (gR j y hj) lx ly bx bj
 have he2:EnvR K' w' ρ2 (Hc'++R) env2 a.tmps:=fun t av ht=>by
  obtain ⟨u,u1,u2⟩:=he t av (hs t av ht)
  exact ⟨u,u1,(u2.refs (XE i6 t av ht)).keeps hlat hkR⟩
 refine hKK _ _ (h.go _ _ ⟨yJ h1,put_defers h2,K',ρ2,hfs2,?_⟩)
 rw [hd]
 exact qg h1 hdt he2 ((hv.refs i4).keeps (Later.refl K' w') hkC)
end
structure ACallPan (P:Program) (f:FuncId) (args:List AV) (H:HEnv) (v:Value) (lone:Bool:=false):Prop where
 stands:QZ P f
 calls:∀ (g:Base) (K:KK) (ρ:Nat→Value) (w:World) (vs:List Value),(lone=true→g.w1.heap.size=0)→FS g K ρ H w→Zq K w ρ H args vs →
  Calls P f vs.toArray w fun e w'=>e=.panicked [{ v:=v,recovered:=false }]∧∃ K' ρ',FS g K' ρ' [] w'
theorem yc {P:Prop}:false=true→P:=fun h=>nomatch h
inductive Out where
 | ret (r:AV) (H':HEnv)
 | pan (v:Value)
def zp7 (P:Program) (f:FuncId) (args:List AV) (H:HEnv) (o:Out) (lone:Bool:=false):Prop :=
 match o with
 | .ret r H'=>ACallM P f args H r H' lone
 | .pan v=>ACallPan P f args H v lone
structure AOX (P:Program) (n:Nat) (g:Base) (ops:Array Oper) (l:List Oper) (env:Env) (H:HEnv) (Q:QC):Prop where
 go:∀ a w,Inv n g env H a w→wpList P ops (fun e a' w'=>∃ env' H',Inv n g env' H' a' w'∧(e=.normal∨∃ ch,e=.panic ch)∧Q e env' H') l a w
section
variable {P:Program} {tb:Tab} {n:Nat} {g:Base} {K K':KK} {w w':World} {ρ ρ':Nat→Value} {H H':HEnv} {env:Env} {a:Act} {ops:List Oper} {o:Oper} {rest:List Oper} {Q:Env→HEnv→Prop} {f:FuncId} {args:List AV} {r:AV} {QQ:QC}
theorem Qi {R:Exit→Act→World→Prop} {arr:Array Oper} {l2:List Oper}:∀ {l1:List Oper} {a:Act} {w:World},wpList P arr (fun e a' w'=>e=.normal∧wpList P arr R l2 a' w') l1 a w→wpList P arr R (l1++l2) a w
 | [],a,w,h=>h.2
 | o::l1,a,w,h=>by
  rw [List.cons_append]
  unfold wpList at h ⊢
  split
  ·rename_i hw
   rw [if_pos hw] at h
   rcases h with h|⟨h1,a',w',h2,_⟩
   ·refine .inl ?_
    unfold Oper.wp at h ⊢
    generalize (execOp a.eval o).run P w=r at *
    cases r with
    | ok nx w' =>
     cases nx <;> simp only [Oper.upon] at h ⊢ <;>
      first
       | exact Qi h
       | exact Calls.mono h (fun e w'' he=>by
         cases e with
         | returned v=>exact Qi he
         | panicked ch=>cases he.1
         | outgrown=>obtain ⟨_,_,he,_⟩:=he;cases he)
       | exact Rows.mono h (fun _ _ he=>Qi he)
    | halt x w'=>cases x <;> simp only [Oper.upon] at h ⊢ <;> first|exact h.elim|(obtain ⟨he,_⟩:=h;cases he)
   ·cases h2
  ·rename_i hw
   rw [if_neg hw] at h
   exact Qi h
theorem zpn {l1 l2:List Oper} (h:AO P n g ops.toArray l1 env H (fun env' H'=>AOX P n g ops.toArray l2 env' H' QQ)):AOX P n g ops.toArray (l1++l2) env H QQ :=
 ⟨fun a w hi=>Qi (qG (fun e a' w' ⟨env',H',h1,h2,h3⟩=>⟨h2,h3.go a' w' h1⟩) (h.go a w hi))⟩
theorem zo3 (k:Nat) {l l1 l2:List Oper} (h1:l.take k=l1) (h2:l.drop k=l2) (h:AO P n g ops.toArray l1 env H (fun env' H'=>AOX P n g ops.toArray l2 env' H' QQ)):AOX P n g ops.toArray l env H QQ:=by
 have:=zpn h
 rwa [←h1,←h2,List.take_append_drop] at this
theorem Xd {l:List Oper} (h:AO P n g ops.toArray l env H (fun env' H'=>QQ .normal env' H')):AOX P n g ops.toArray l env H QQ :=
 ⟨fun a w hi=>qG (fun _ _ _ ⟨env',H',h1,h2,h3⟩=>⟨env',H',h1,.inl h2,by rw [h2];exact h3⟩) (h.go a w hi)⟩
theorem zfA:¬ LetsOut (fun e a w=>∃ env' H',Inv n g env' H' a w∧(e=.normal∨∃ ch,e=.panic ch)∧QQ e env' H'):=fun ⟨_,_,_,_,_,hx,_⟩=>by rcases hx with hx|⟨_,hx⟩ <;> cases hx
theorem zkt {id:Nat} (h:AOX P n g ops.toArray ops env H QQ) (hnd:qm ops=true:=by kernel_rfl):AW P n g (.region id ops.toArray false) env H QQ :=
 ⟨fun a w hi r d=>wpIn_mono (wpIn_region_lit (VR (r:=r) (n:=d) zfA hnd (h.go a w hi))) (fun e a' w' ⟨env',H',h1,_,h3⟩=>⟨env',H',h1,h3⟩)⟩
theorem zmo {x:Operand} {v:Value} {t:TypeId} (hg:guardE ops env o=some true) (hop:o.op=.panic x) (hx:env.pv H x=some (.base (.iface t v))) (h:QQ (.panic [{ v:=.iface t v,recovered:=false }]) env H):AOX P n g ops.toArray (o::rest) env H QQ:=by
 refine ⟨fun a w hinv=>?_⟩
 have hw:=yh hinv hg
 have hinv':=hinv
 obtain ⟨h1,h2,K,ρ,hf,he⟩:=hinv
 refine wpList_step fun KK hKK=>?_
 rw [if_pos hw]
 have hxr:=zZ (a:=a) hf (x:=x) (fun av hh=>yt he hh) hx
 unfold Oper.wp
 generalize hxv:a.eval x=xv at hxr
 cases hxr
 have hrun:(execOp a.eval o).run P w=.halt (.panic (.iface t v)) w:=by
  simp [execOp,hop,hxv,Instr.panic]
 rw [hrun]
 exact ⟨env,H,hinv',.inr ⟨_,rfl⟩,h⟩
end
section
variable {P:Program} {tb:Tab} {n:Nat} {H H':HEnv} {f:FuncId} {args:List AV}
end
end Go.Cg
namespace Go.Cg
mutual
def AV.sh (k:Nat):AV→AV
 | .pv p=>.pv p
 | .own i=>.own (i + k)
 | .box i off=>.box (i + k) off
 | .ad i off=>.ad (i + k) off
 | .agg cs=>.agg (AV.shs k cs)
 | .fn f first cap=>.fn f (AV.shs k first) (AV.shs k cap)
 | .any=>.any
 | .any1=>.any1
def AV.shs (k:Nat):List AV→List AV
 | []=>[]
 | c::l=>AV.sh k c::AV.shs k l
end
def HE.sh (k:Nat):HE→HE
 | .cell v=>.cell (v.sh k)
 | .row t sz es=>.row t sz es
 | .dead=>.dead
 | .pin v u=>.pin (v.sh k) u
 | .obj X=>.obj X
 | .mrow t sz es=>.mrow t sz es
def HEnv.sh (k:Nat):HEnv→HEnv
 | []=>[]
 | (i,h)::e=>(i + k,h.sh k)::HEnv.sh k e
theorem Xk (k:Nat):∀ l:List AV,(AV.shs k l).length=l.length
 | []=>rfl
 | c::l=>by rw [AV.shs,List.length_cons,List.length_cons,Xk k l]
theorem Xw (k:Nat):∀ (l:List AV) (j:Nat),(AV.shs k l)[j]?=(l[j]?).map (AV.sh k)
 | [],j=>by simp [AV.shs]
 | c::l,0=>by simp [AV.shs]
 | c::l,j + 1=>by simp [AV.shs,Xw k l j]
theorem ze6 (k:Nat):∀ (H:HEnv) (i:Nat),(H.sh k).get (i + k)=(H.get i).map (HE.sh k)
 | [],i=>by simp [HEnv.sh,HEnv.get_nil]
 | (j,h)::e,i=>by
  rw [HEnv.sh,HEnv.get_cons,HEnv.get_cons]
  by_cases hij:j=i
  ·rw [if_pos (by omega),if_pos hij];rfl
  ·rw [if_neg (by omega),if_neg hij];exact ze6 k e i
theorem zoH (k:Nat):∀ (H:HEnv) (i:Nat),i < k→(H.sh k).get i=none
 | [],i,_=>by simp [HEnv.sh,HEnv.get_nil]
 | (j,h)::e,i,hi=>by
  rw [HEnv.sh,HEnv.get_cons,if_neg (by omega)];exact zoH k e i hi
theorem zei {k:Nat} {H:HEnv} {i:Nat} {h:HE} (hg:(H.sh k).get i=some h):∃ j x,i=j + k∧H.get j=some x∧h=x.sh k:=by
 by_cases hi:i < k
 ·rw [zoH k H i hi] at hg;cases hg
 ·obtain ⟨j,rfl⟩:∃ j,i=j + k:=⟨i - k,by omega⟩
  rw [ze6] at hg
  cases hx:H.get j with
  | none=>rw [hx] at hg;cases hg
  | some x=>rw [hx] at hg;simp only [Option.map_some,Option.some.injEq] at hg;exact ⟨j,x,rfl,hx,hg.symm⟩
section
variable {K:KK} {w:World} {ρ:Nat→Value} {H:HEnv} {k:Nat}
theorem zcT {i:Nat} (h:(H.get i).isSome=true):((H.sh k).get (i + k)).isSome=true:=by
 rw [ze6,Option.isSome_map];exact h
theorem ARel.shift {av:AV} {v:Value} (h:ARel K w (fun i=>ρ (i + k)) H av v):ARel K w ρ (H.sh k) (av.sh k) v:=by
 induction h with
 | pv p v hp=>exact .pv p v hp
 | own i hi=>exact .own (i + k) (zcT hi)
 | box i off b hi hb=>exact .box (i + k) off b (zcT hi) hb
 | ad i off b m c hi hb=>exact .ad (i + k) off b m c (zcT hi) hb
 | agg cs vs h1 h2 h3 ih =>
  refine .agg (AV.shs k cs) vs (by rw [Xk];exact h1) h2 fun j c v hc hv=>?_
  rw [Xw] at hc
  cases hx:cs[j]? with
  | none=>rw [hx] at hc;cases hc
  | some x=>rw [hx] at hc;simp only [Option.map_some,Option.some.injEq] at hc;subst hc;exact ih j x v hx hv
 | fn f first cap vf vc h1 h2 h3 h4 ih1 ih2 =>
  refine .fn f (AV.shs k first) (AV.shs k cap) vf vc (by rw [Xk];exact h1) (by rw [Xk];exact h2) (fun j c v hc hv=>?_) fun j c v hc hv=>?_
  ·rw [Xw] at hc
   cases hx:first[j]? with
   | none=>rw [hx] at hc;cases hc
   | some x=>rw [hx] at hc;simp only [Option.map_some,Option.some.injEq] at hc;subst hc;exact ih1 j x v hx hv
  ·rw [Xw] at hc
   cases hx:cap[j]? with
   | none=>rw [hx] at hc;cases hc
   | some x=>rw [hx] at hc;simp only [Option.map_some,Option.some.injEq] at hc;subst hc;exact ih2 j x v hx hv
 | any v=>exact .any v
 | any1 v h1 h2=>exact .any1 v h1 h2
theorem zdj {i:Nat} (h:((H.sh k).get (i + k)).isSome=true):(H.get i).isSome=true:=by
 rw [ze6] at h
 cases hg:H.get i with
 | none=>rw [hg] at h;cases h
 | some x=>rfl
theorem ARel.unshift {a':AV} {v:Value} (h:ARel K w ρ (H.sh k) a' v):∀ av:AV,a'=av.sh k→ARel K w (fun i=>ρ (i + k)) H av v:=by
 induction h with
 | pv p v hp=>intro av e;cases av <;> simp only [AV.sh,AV.pv.injEq,reduceCtorEq] at e;subst e;exact .pv _ _ hp
 | own i hi=>intro av e;cases av <;> simp only [AV.sh,AV.own.injEq,reduceCtorEq] at e;subst e;exact .own _ (zdj hi)
 | box i off b hi hb=>intro av e;cases av <;> simp only [AV.sh,AV.box.injEq,reduceCtorEq] at e;obtain ⟨rfl,rfl⟩:=e;exact .box _ _ b (zdj hi) hb
 | ad i off b m c hi hb=>intro av e;cases av <;> simp only [AV.sh,AV.ad.injEq,reduceCtorEq] at e;obtain ⟨rfl,rfl⟩:=e;exact .ad _ _ b m c (zdj hi) hb
 | agg cs vs h1 h2 h3 ih =>
  intro av e
  cases av <;> simp only [AV.sh,AV.agg.injEq,reduceCtorEq] at e
  subst e
  exact .agg _ vs (by rw [Xk] at h1;exact h1) h2 fun j c v hc hv=>ih j (c.sh k) v (by rw [Xw,hc];rfl) hv c rfl
 | fn f first cap vf vc h1 h2 h3 h4 ih1 ih2 =>
  intro av e
  cases av <;> simp only [AV.sh,AV.fn.injEq,reduceCtorEq] at e
  obtain ⟨rfl,rfl,rfl⟩:=e
  exact .fn _ _ _ vf vc (by rw [Xk] at h1;exact h1) (by rw [Xk] at h2;exact h2) (fun j c v hc hv=>ih1 j (c.sh k) v (by rw [Xw,hc];rfl) hv c rfl) fun j c v hc hv=>ih2 j (c.sh k) v (by rw [Xw,hc];rfl) hv c rfl
 | any v=>intro av e;cases av <;> simp only [AV.sh,reduceCtorEq] at e;exact .any v
 | any1 v h1 h2=>intro av e;cases av <;> simp only [AV.sh,reduceCtorEq] at e;exact .any1 v h1 h2
theorem za9 (x:HE):(x.sh k).live=x.live:=by cases x <;> rfl
theorem HOk.shift {B:Nat} {x:HE} {r:Value} (h:HOk K w B (fun i=>ρ (i + k)) H x r):HOk K w B ρ (H.sh k) (x.sh k) r:=by
 cases x with
 | cell v=>obtain ⟨b,t,arr,u,h1,h2,h3,h4,h5⟩:=h;exact ⟨b,t,arr,u,h1,h2,h3,h4.shift,h5⟩
 | pin v u=>exact ARel.shift h
 | row t sz es=>exact h
 | mrow t sz es=>exact h
 | dead=>trivial
 | obj X=>exact h
theorem HOk.unshift {B:Nat} {x:HE} {r:Value} (h:HOk K w B ρ (H.sh k) (x.sh k) r):HOk K w B (fun i=>ρ (i + k)) H x r:=by
 cases x with
 | cell v=>obtain ⟨b,t,arr,u,h1,h2,h3,h4,h5⟩:=h;exact ⟨b,t,arr,u,h1,h2,h3,h4.unshift v rfl,h5⟩
 | pin v u=>exact ARel.unshift h v rfl
 | row t sz es=>exact h
 | mrow t sz es=>exact h
 | dead=>trivial
 | obj X=>exact h
theorem FS.unshift {g:Base} (h:FS g K ρ (H.sh k) w):FS g K (fun i=>ρ (i + k)) H w:=by
 have up:∀ i x,H.get i=some x→(H.sh k).get (i + k)=some (x.sh k):=fun i x hx=>by rw [ze6,hx];rfl
 refine ⟨h.below,h.old,h.new,h.lt,h.others,h.pt,fun i x b hx hl hb=>h.away (i + k) _ b (up i x hx) (by rw [za9];exact hl) hb,fun i x hx=>(h.heap.ok (i + k) _ (up i x hx)).unshift,fun i j x y b hij hx hy lx ly bx bye=>?_⟩
 exact h.heap.apart (i + k) (j + k) _ _ b (by omega) (up i x hx) (up j y hy) (by rw [za9];exact lx) (by rw [za9];exact ly) bx bye
theorem FS.shift {g:Base} (h:FS g K (fun i=>ρ (i + k)) H w):FS g K ρ (H.sh k) w:=by
 refine ⟨h.below,h.old,h.new,h.lt,h.others,h.pt,fun i x b hx hl hb=>?_,fun i x hx=>?_,fun i j x y b hij hx hy lx ly bx bye=>?_⟩
 ·obtain ⟨j,z,rfl,hz,rfl⟩:=zei hx
  exact h.away j z b hz (by rw [za9] at hl;exact hl) hb
 ·obtain ⟨j,z,rfl,hz,rfl⟩:=zei hx
  exact (h.heap.ok j z hz).shift
 ·obtain ⟨i',x',rfl,hx',rfl⟩:=zei hx
  obtain ⟨j',y',rfl,hy',rfl⟩:=zei hy
  exact h.heap.apart i' j' x' y' b (by omega) hx' hy' (by rw [za9] at lx;exact lx) (by rw [za9] at ly;exact ly) bx bye
end
theorem ACallM.shift {P:Program} {f:FuncId} {args:List AV} {H:HEnv} {r:AV} {H':HEnv} {lone:Bool} (k:Nat) (h:ACallM P f args H r H' lone):ACallM P f (AV.shs k args) (H.sh k) (r.sh k) (H'.sh k) lone:=by
 refine ⟨h.stands,fun g K ρ w vs hl hf ha=>?_⟩
 have ha':Zq K w (fun i=>ρ (i + k)) H args vs:=⟨by rw [←Xk k args];exact ha.1,fun j c v hc hv=>(ha.2 j (c.sh k) v (by rw [Xw,hc];rfl) hv).unshift c rfl⟩
 refine (h.calls g K _ w vs hl hf.unshift ha').mono fun e w' hq=>?_
 obtain ⟨v,K',ρ',rfl,hf',hr⟩:=hq
 have e1:(fun i=>(fun j=>ρ' (j - k)) (i + k))=ρ':=by funext i;simp
 refine ⟨v,K',fun j=>ρ' (j - k),rfl,FS.shift (by rw [e1];exact hf'),ARel.shift (by rw [e1];exact hr)⟩
end Go.Cg
namespace Go.Cg
open Go.RowKit
structure ACallU {ι:Type} (P:Program) (f:FuncId) (args:List AV) (H:HEnv) (r:ι→AV) (H':ι→HEnv) (lone:Bool:=false):Prop where
 stands:QZ P f
 calls:∀ (g:Base) (K:KK) (ρ:Nat→Value) (w:World) (vs:List Value),(lone=true→g.w1.heap.size=0)→FS g K ρ H w→Zq K w ρ H args vs →
  Calls P f vs.toArray w fun e w'=>∃ v K' ρ' u,e=.returned v∧FS g K' ρ' (H' u) w'∧ARel K' w' ρ' (H' u) (r u) v
section
variable {P:Program} {tb:Tab} {n:Nat} {g:Base} {K K':KK} {w w':World} {ρ ρ':Nat→Value} {H:HEnv} {env:Env} {a:Act} {ops:List Oper} {o:Oper} {rest:List Oper} {Q:Env→HEnv→Prop} {f:FuncId} {args:List AV}
theorem zb5 {ι:Type} {r:ι→AV} {H':ι→HEnv} (htb:zX P tb) {fn:Func} {c:Code} (hf:P.funcs[f]?=some fn) (hb:fn.body=some c) (hn:(fn.name == "runtime.NumGoroutine")=false) (hnt:fn.ntmps=n) (hargs:args.length≤n) (rs:List ResultVar) (hrs:fn.results.toList=rs)
  {lone:Bool} (h:∀ g:Base,(lone=true→g.w1.heap.size=0)→AW P n g c (VJ 0 args) H (fun ex env1 H1=>∃ u,zo1 tb rs (r u) (H' u) ex env1 H1)):ACallU P f args H r H' lone:=by
 refine ⟨⟨fn,hf,by simp [hb],hn⟩,fun g0 K ρ w vs hw1 hfs0 hv=>?_⟩
 obtain ⟨g,hg0⟩:∃ g:Base,g=⟨g0.w0,g0.K0,g0.w1,[],g0.wp,g0.pr⟩:=⟨_,rfl⟩
 have hfs:FS g K ρ H w:=by subst hg0;exact ⟨hfs0.below,hfs0.old,hfs0.new,hfs0.lt,hfs0.others,⟨hfs0.pt.same,hfs0.pt.kept⟩,hfs0.away,hfs0.heap⟩
 refine calls_of_wp hf hb ?_
 have hlen:vs.length=args.length:=hv.1
 refine wp_mono (wpIn_wide.1 ((h g (by subst hg0;exact hw1)).go _ w ⟨by simp [hnt];omega,by subst hg0;rfl,K,ρ,hfs,?_⟩ none 0)) ?_
 ·intro t av hg
  obtain ⟨_,hp⟩:=Qn args 0 t av hg
  have hlt:t < vs.length:=by rw [hlen];exact (List.getElem?_eq_some_iff.1 hp).1
  refine ⟨vs[t],?_,hv.2 t av _ hp (List.getElem?_eq_getElem hlt)⟩
  rw [Array.getElem?_append_left (by simpa using hlt)]
  simp [hlt]
 ·rintro e a' w' ⟨env1,H1,hi,u0,he,hq⟩
  have key:∃ v K' ρ',(results fn a'.tmps).run P w'=.ok v w'∧a'.defers=[]∧FS g0 K' ρ' (H' u0) w'∧ARel K' w' ρ' (H' u0) (r u0) v:=by
   have back:∀ {K':KK} {ρ':Nat→Value},FS g K' ρ' (H' u0) w'→FS g0 K' ρ' (H' u0) w':=fun hf1=>by
    subst hg0;exact ⟨hf1.below,hf1.old,hf1.new,hf1.lt,hf1.others,⟨hf1.pt.same,hf1.pt.kept⟩,hf1.away,hf1.heap⟩
   rcases hq with ⟨ps,hps,hr0,hfit⟩|⟨t,ht,hget,hfit⟩
   ·obtain ⟨_,h2,K',ρ',hf',he0⟩:=hi
    obtain ⟨us,hrun,hru⟩:=Qo htb hf' he0 hps
    have hi2:Inv n g [] (H' u0) a' w':=((⟨‹_›,h2,K',ρ',hf',he0⟩:Inv n g env1 H1 a' w').sub yj).hsub hfit
    have hres:(results fn a'.tmps).run P w'=.ok (if hh:us.toArray.size=1 then us.toArray[0] else .tuple us.toArray) w':=by
     unfold results
     rw [Array.mapM_eq_mapM_toList,hrs]
     simp only [Sem.run_bind,Sem.run_map]
     erw [hrun]
     rfl
    have hval:PRel K' w' (zl ps) (if hh:us.toArray.size=1 then us.toArray[0] else .tuple us.toArray):=by
     split
     ·rename_i hh
      have hl1:=hru.1
      have hu:us.length=1:=by simpa using hh
      obtain ⟨u,rfl⟩:=List.length_eq_one_iff.1 hu
      obtain ⟨p,rfl⟩:=List.length_eq_one_iff.1 (show ps.length=1 by omega)
      exact hru.2 0 p u (by simp) (by simp)
     ·rename_i hh
      simp at hh
      have:zl ps=.tup ps:=by
       unfold zl
       split
       ·rename_i p;exact absurd (by have:=hru.1;simpa using this) hh
       ·rfl
      rw [this]
      exact .tup ps us hru.1 hru.2
    have hf2:=FS.narrow hf' hfit
    exact ⟨_,K',ρ',hres,by rw [h2];subst hg0;rfl,back hf2,by rw [hr0];exact .pv _ _ hval⟩
   ·obtain ⟨h1,h2,K',ρ',hf',he0⟩:=hi
    obtain ⟨v,hv1,hv2⟩:=he0 t (r u0) hget
    have hf2:=FS.narrow hf' hfit
    have hin:=hfit.2
    simp only [XP,Bool.and_eq_true] at hin
    have hres:(results fn a'.tmps).run P w'=.ok v w':=by
     unfold results
     rw [Array.mapM_eq_mapM_toList,hrs,ht]
     simp [Result.andThen,hv1]
    exact ⟨v,K',ρ',hres,by rw [h2];subst hg0;rfl,back hf2,hv2.refs hin.1.1⟩
  obtain ⟨v,K',ρ',hres,hd,hf',hr⟩:=key
  rcases he with rfl|rfl
  ·exact ⟨hd,_,hres,v,K',ρ',u0,rfl,hf',hr⟩
  ·exact ⟨hd,_,hres,v,K',ρ',u0,rfl,hf',hr⟩
theorem zeG {ι:Type} [Inhabited ι] {r:ι→AV} {xs:Array Operand} {ts:Array TypeId} {d:Tmp} {ars:List AV} (Hc:HEnv) (Hc':ι→HEnv) (R:HEnv) (env2:Env) {lone:Bool} (ps:List Nat) (hw1:lone=true→g.w1.heap.size=0) (hg:guardE ops env o=some true)
  (hop:o.op=.call { callee:=.value (.func f),args:=xs,argTypes:=ts }) (hargs:avs env xs.toList=some ars) (hsub:HSub H (Hc++R)) (hs:Sub env env2) (hd:o.dst=some d) (hdt:Nat.blt d n=true)
  (hchk:∀ u,Zr Hc (Hc' u) R ps ars env2 (r u)=true) (hc:∀ us,ACallU P f ars (Hc++zD us ps) r (fun u=>Hc' u++zD us ps) lone)
  (h:∀ u,AO P n g ops.toArray rest ((d,r u)::env2) (Hc' u++R) Q):AO P n g ops.toArray (o::rest) env H Q:=by
 have hchk0:=hchk default
 simp only [Zr,Bool.and_eq_true] at hchk0
 obtain ⟨⟨⟨⟨⟨⟨⟨⟨⟨⟨d1,_⟩,d3⟩,_⟩,i1⟩,i2⟩,_⟩,_⟩,i5⟩,i6⟩,i7a⟩:=hchk0
 have i7':∀ i∈ps,(Hc.get i).isSome=true∧((Hc' default).get i).isSome=true:=fun i hi=>by simpa using List.all_eq_true.1 i7a i hi
 refine ⟨fun a w hinv=>?_⟩
 have hw:=yh hinv hg
 obtain ⟨h1,h2,K,ρ,hf,he⟩:=hinv
 refine wpList_step fun KK hKK=>?_
 rw [if_pos hw]
 have hlatR:Later K K w w:=.refl K w
 have gC:∀ i x,Hc.get i=some x→H.get i=some x:=fun i x hx=>hsub i x (by rw [get_append,hx])
 have gR:∀ i x,R.get i=some x→H.get i=some x:=fun i x hx=>hsub i x (by
  rw [get_append]
  cases hh:Hc.get i with
  | none=>exact hx
  | some y=>rw [qy d1 i y hh] at hx;cases hx)
 have nC:∀ i x,R.get i=some x→Hc.get i=none:=fun i x hx=>by
  cases hh:Hc.get i with
  | none=>rfl
  | some y=>rw [qy d1 i y hh] at hx;cases hx
 have hpinC:∀ {A:HEnv} {us:Nat→Value} {i:Nat} {x:HE},HEnv.get (A++zD us ps) i=some x→x.live=true→A.get i=some x:=by
  intro A us i x hx hl
  rw [get_append] at hx
  cases hh:A.get i with
  | some z=>rw [hh] at hx;exact hx
  | none =>
   rw [hh] at hx
   obtain ⟨_,_,rfl⟩:=Yg hx
   simp [HE.live] at hl
 obtain ⟨g',hg'⟩:∃ g':Base,g'=⟨g.w0,K,g.w1,g.ds,w,fun b=>g.pr b∨∃ i x,R.get i=some x∧x.live=true∧zo (ρ i)=some b⟩:=⟨_,rfl⟩
 have hfs:FS g' K ρ (Hc++zD ρ ps) w:=by
  subst hg'
  refine ⟨hf.below,fun _ _ h=>h,fun _ _ h=>.inl h,hf.lt,hf.others,⟨?_,fun _ _ _=>rfl⟩,?_,?_,?_⟩
  ·rintro b (hb|⟨i,x,hi,hl,hb⟩)
   ·exact ⟨(hf.pt.same b hb).1,rfl,fun _=>Iff.rfl⟩
   ·exact ⟨((hf.heap.ok i x (gR i x hi)).block_lt hl hb).2,rfl,fun _=>Iff.rfl⟩
  ·intro i x b hi hl hb
   have hC:=hpinC hi hl
   rintro (hp|⟨j,y,hj,hly,hbj⟩)
   ·exact hf.away i x b (gC i x hC) hl hb hp
   ·have hne:i≠j:=by rintro rfl;rw [nC i y hj] at hC;cases hC
    exact hf.heap.apart i j x y b hne (gC i x hC) (gR j y hj) hl hly hb hbj
  ·intro i x hi
   rw [get_append] at hi
   cases hh:Hc.get i with
   | some y =>
    rw [hh] at hi;simp only [Option.some.injEq] at hi;subst hi
    have hok:=hf.heap.ok i y (gC i y hh)
    have hk:∀ j,(HEnv.get Hc j).isSome=true→(HEnv.get (Hc++zD ρ ps) j).isSome=true∧ρ j=ρ j:=fun j hj=>⟨zH j hj,rfl⟩
    cases y with
    | cell v=>obtain ⟨b,t,arr,u,q1,q2,q3,q4,q5,q6⟩:=hok;exact ⟨b,t,arr,u,q1,q2,q3,(q4.refs (qP i2 i v hh)).keeps hlatR hk,q5,q6⟩
    | pin v u=>exact (ARel.refs hok (qc i2 i v u hh)).keeps hlatR hk
    | row t sz es=>exact hok
    | mrow t sz es=>exact hok
    | dead=>exact hok
    | obj X=>exact hok
   | none =>
    rw [hh] at hi
    obtain ⟨q1,q2,rfl⟩:=Yg hi
    exact .own _ (zH _ (i7' _ q2).1)
  ·intro i j x y b hij hi hj lx ly bx bj
   exact hf.heap.apart i j x y b hij (gC i x (hpinC hi lx)) (gC j y (hpinC hj ly)) lx ly bx bj
 have hpa:=VF (a:=a) he hargs
 have hall:Zq K w ρ (Hc++zD ρ ps) ars (xs.toList.map a.eval) :=
  ⟨hpa.1,fun k c v hc hv=>((hpa.2 k c v hc hv).refs (qB i1 k c hc)).keeps hlatR fun j hj=>⟨zH j hj,rfl⟩⟩
 have hrun:(execOp a.eval o).run P w=.ok (.enter f (xs.toList.map a.eval).toArray) w:=by
  have e:(xs.toList.map a.eval).toArray=xs.map a.eval:=by rw [←Array.toList_map,Array.toArray_toList]
  rw [e]
  simp [execOp,hop,resolve,Act.eval,Deferred.ofValue,invoke,qj (hc ρ).stands]
 unfold Oper.wp
 rw [hrun]
 simp only [Oper.upon]
 refine ((hc ρ).calls g' K ρ w _ (by subst hg';exact hw1) hfs hall).mono fun e w' ⟨v,K',ρ',u0,e1,hf',hv⟩=>?_
 obtain ⟨Hq,hHq⟩:∃ X,X=Hc' u0:=⟨_,rfl⟩
 rw [←hHq] at hf'
 have hchk2:=hchk u0
 have h2q:=h u0
 rw [←hHq] at hchk2 h2q
 have hv:ARel K' w' ρ' (Hq++zD ρ ps) (r u0) v:=by rw [hHq];exact hv
 simp only [Zr,Bool.and_eq_true] at hchk2
 obtain ⟨⟨⟨⟨⟨⟨⟨⟨⟨⟨_,d2⟩,_⟩,d4⟩,_⟩,_⟩,i3⟩,i4⟩,_⟩,_⟩,i7⟩:=hchk2
 have i7':∀ i∈ps,(Hc.get i).isSome=true∧(Hq.get i).isSome=true:=fun i hi=>by simpa using List.all_eq_true.1 i7 i hi
 have nC':∀ i x,R.get i=some x→Hq.get i=none:=fun i x hx=>by
  cases hh:Hq.get i with
  | none=>rfl
  | some y=>rw [qy d2 i y hh] at hx;cases hx
 subst e1
 have hlat:Later K K' w w':=by subst hg';exact ⟨hf'.old,hf'.pt.kept⟩
 have hprot:∀ b,(g.pr b∨∃ i x,R.get i=some x∧x.live=true∧zo (ρ i)=some b)→b < w'.heap.size∧w'.heap[b]?=w.heap[b]?∧∀ o,K' b o↔K b o:=by subst hg';exact hf'.pt.same
 have haway:∀ i x b,Hq.get i=some x→x.live=true→zo (ρ' i)=some b→¬ (g.pr b∨∃ i x,R.get i=some x∧x.live=true∧zo (ρ i)=some b):=by
  subst hg';exact fun i x b hi=>hf'.away i x b (by rw [get_append,hi])
 obtain ⟨ρ2,hρ2⟩:∃ ρ2:Nat→Value,∀ j,ρ2 j=if (Hq.get j).isSome then ρ' j else ρ j:=⟨_,fun _=>rfl⟩
 have r1:∀ j,(Hq.get j).isSome=true→ρ2 j=ρ' j:=fun j hj=>by rw [hρ2,if_pos hj]
 have r2:∀ j,Hq.get j=none→ρ2 j=ρ j:=fun j hj=>by rw [hρ2,hj];rfl
 have hkC:∀ j,(HEnv.get Hq j).isSome=true→(HEnv.get (Hq++R) j).isSome=true∧ρ2 j=ρ' j:=fun j hj=>⟨zH j hj,r1 j hj⟩
 have hps:∀ i∈ps,ρ' i=ρ i:=fun i hi=>by
  have hnone:Hq.get (1000 + i)=none:=by
   cases hh:Hq.get (1000 + i) with
   | none=>rfl
   | some x=>have:=YK d4 _ x hh;omega
  have:=hf'.heap.ok (1000 + i) _ (by rw [get_append,hnone];exact Vl hi)
  have this:ARel K' w' ρ' (Hq++zD ρ ps) (.own i) (ρ i):=this
  generalize hu:ρ i=u at this
  cases this with
  | own _ _=>rfl
 have hkR:∀ j,(HEnv.get (R++QJ ps) j).isSome=true→(HEnv.get (Hq++R) j).isSome=true∧ρ2 j=ρ j:=fun j hj=>by
  rw [get_append] at hj
  cases hh:R.get j with
  | some x =>
   have hn:=nC' j x hh
   exact ⟨by rw [get_append,hn,hh];rfl,r2 j hn⟩
  | none =>
   rw [hh] at hj
   have hm:=Vs hj
   have hs':=(i7' j hm).2
   exact ⟨zH j hs',by rw [r1 j hs',hps j hm]⟩
 have hfs2:FS g K' ρ2 (Hq++R) w':=by
  have b1:Below g.w0.heap.size g.w0 w':=by subst hg';exact hf'.below
  have b3:∀ b o,K' b o→K b o∨g.w0.heap.size≤b:=by subst hg';exact hf'.new
  have b5:KeepsOthers g.w1 w':=by subst hg';exact hf'.others
  have bB:HRel K' w' g.w0.heap.size ρ' (Hq++zD ρ ps):=by subst hg';exact hf'.heap
  refine ⟨b1,fun b o h=>hlat.sub b o (hf.old b o h),fun b o hk=>(b3 b o hk).elim (hf.new b o) .inr,hf'.lt,b5,⟨fun b hb=>?_,fun b o h0=>(hlat.cell b o (hf.old b o h0)).trans (hf.pt.kept b o h0)⟩,fun i x b hi hl hb=>?_,fun i x hi=>?_,fun i j x y b hij hi hj lx ly bx bj=>?_⟩
  ·obtain ⟨p1,p2,p3⟩:=hprot b (.inl hb)
   obtain ⟨q1,q2,q3⟩:=hf.pt.same b hb
   exact ⟨p1,p2.trans q2,fun o=>(p3 o).trans (q3 o)⟩
  ·rw [get_append] at hi
   cases hh:Hq.get i with
   | some y =>
    rw [hh] at hi;simp only [Option.some.injEq] at hi;subst hi
    rw [r1 i (by rw [hh];rfl)] at hb
    exact fun hp=>haway i y b hh hl hb (.inl hp)
   | none =>
    rw [hh] at hi
    rw [r2 i hh] at hb
    exact hf.away i x b (gR i x hi) hl hb
  ·rw [get_append] at hi
   cases hh:Hq.get i with
   | some y =>
    rw [hh] at hi;simp only [Option.some.injEq] at hi;subst hi
    rw [r1 i (by rw [hh];rfl)]
    have hok:=bB.ok i y (by rw [get_append,hh])
    have hl':=Later.refl K' w'
    cases y with
    | cell v=>obtain ⟨b,t,arr,u,q1,q2,q3,q4,q5,q6⟩:=hok;exact ⟨b,t,arr,u,q1,q2,q3,(q4.refs (qP i3 i v hh)).keeps hl' hkC,q5,q6⟩
    | pin v u=>exact (ARel.refs hok (qc i3 i v u hh)).keeps hl' hkC
    | row t sz es=>exact hok
    | mrow t sz es=>exact hok
    | dead=>exact hok
    | obj X=>exact hok
   | none =>
    rw [hh] at hi
    rw [r2 i hh]
    have hok:=hf.heap.ok i x (gR i x hi)
    have hsame:x.live=true→∀ b,zo (ρ i)=some b→w'.heap[b]?=w.heap[b]?∧∀ o,K' b o↔K b o:=fun hl b hb=>(hprot b (.inr ⟨i,x,hi,hl,hb⟩)).2
    cases x with
    | cell v =>
     obtain ⟨b,t,arr,u,q1,q2,q3,q4,q5,q6⟩:=hok
     obtain ⟨s1,s2⟩:=hsame rfl b (by rw [q1];rfl)
     exact ⟨b,t,arr,u,q1,q2,by rw [s1];exact q3,(q4.refs (qP i5 i v hi)).keeps hlat hkR,q5,fun o hk=>q6 o ((s2 o).1 hk)⟩
    | pin v u=>exact (ARel.refs hok (qc i5 i v u hi)).keeps hlat hkR
    | row t sz es =>
     obtain ⟨xs,q1,q2,q3,q4⟩:=hok
     refine ⟨xs,yZ q1 fun b hb=>(hsame rfl b hb).1,q2,fun k e he=>?_,fun b hb o=>?_⟩
     ·obtain ⟨c1,c2⟩:=q3 k e he
      exact ⟨c1,fun k c hc=>let ⟨v,h4,h5,h6⟩:=c2 k c hc;⟨v,h4,h5,h6.later hlat⟩⟩
     ·rw [(hsame rfl b ((qQ q1 b).2 hb)).2 o];exact q4 b hb o
    | mrow t sz es =>
     obtain ⟨xs,q1,q2,q3,q4⟩:=hok
     refine ⟨xs,yZ q1 fun b hb=>(hsame rfl b hb).1,q2,fun k e he=>?_,fun b hb o hk=>?_⟩
     ·obtain ⟨c1,c2⟩:=q3 k e he
      exact ⟨c1,fun k c hc=>let ⟨v,h4,h5,h6⟩:=c2 k c hc;⟨v,h4,h5,h6.later hlat⟩⟩
     ·exact q4 b hb o (((hsame rfl b ((qQ q1 b).2 hb)).2 o).1 hk)
    | dead=>trivial
    | obj X =>
     obtain ⟨b,ob,q1,q2,q3,q4,q5⟩:=hok
     obtain ⟨s1,s2⟩:=hsame rfl b (by rw [q1];rfl)
     exact ⟨b,ob,q1,q2,by rw [s1];exact q3,q4,fun o hk=>q5 o ((s2 o).1 hk)⟩
  ·rw [get_append] at hi hj
   cases hhi:Hq.get i with
   | some x' =>
    rw [hhi] at hi;simp only [Option.some.injEq] at hi;subst hi
    rw [r1 i (by rw [hhi];rfl)] at bx
    cases hhj:Hq.get j with
    | some y' =>
     rw [hhj] at hj;simp only [Option.some.injEq] at hj;subst hj
     rw [r1 j (by rw [hhj];rfl)] at bj
     exact bB.apart i j x' y' b hij (by rw [get_append,hhi]) (by rw [get_append,hhj]) lx ly bx bj
    | none =>
     rw [hhj] at hj;rw [r2 j hhj] at bj
     exact haway i x' b hhi lx bx (.inr ⟨j,y,hj,ly,bj⟩)
   | none =>
    rw [hhi] at hi;rw [r2 i hhi] at bx
    cases hhj:Hq.get j with
    | some y' =>
     rw [hhj] at hj;simp only [Option.some.injEq] at hj;subst hj
     rw [r1 j (by rw [hhj];rfl)] at bj
     exact haway j y' b hhj ly bj (.inr ⟨i,x,hi,lx,bx⟩)
    | none =>
     rw [hhj] at hj;rw [r2 j hhj] at bj
     exact hf.heap.apart i j x y b hij (gR i x hi) (gR j y hj) lx ly bx bj
 have he2:EnvR K' w' ρ2 (Hq++R) env2 a.tmps:=fun t av ht=>by
  obtain ⟨u,u1,u2⟩:=he t av (hs t av ht)
  exact ⟨u,u1,(u2.refs (XE i6 t av ht)).keeps hlat hkR⟩
 refine hKK _ _ (h2q.go _ _ ⟨yJ h1,put_defers h2,K',ρ2,hfs2,?_⟩)
 rw [hd]
 exact qg h1 hdt he2 ((hv.refs i4).keeps (Later.refl K' w') hkC)
end
theorem ACallU.shift {ι:Type} {P:Program} {f:FuncId} {args:List AV} {H:HEnv} {r:ι→AV} {H':ι→HEnv} {lone:Bool} (k:Nat) (h:ACallU P f args H r H' lone):ACallU P f (AV.shs k args) (H.sh k) (fun u=>(r u).sh k) (fun u=>(H' u).sh k) lone:=by
 refine ⟨h.stands,fun g K ρ w vs hl hf ha=>?_⟩
 have ha':Zq K w (fun i=>ρ (i + k)) H args vs:=⟨by rw [←Xk k args];exact ha.1,fun j c v hc hv=>(ha.2 j (c.sh k) v (by rw [Xw,hc];rfl) hv).unshift c rfl⟩
 refine (h.calls g K _ w vs hl hf.unshift ha').mono fun e w' hq=>?_
 obtain ⟨v,K',ρ',u,rfl,hf',hr⟩:=hq
 have e1:(fun i=>(fun j=>ρ' (j - k)) (i + k))=ρ':=by funext i;simp
 refine ⟨v,K',fun j=>ρ' (j - k),u,rfl,FS.shift (by rw [e1];exact hf'),ARel.shift (by rw [e1];exact hr)⟩
end Go.Cg
