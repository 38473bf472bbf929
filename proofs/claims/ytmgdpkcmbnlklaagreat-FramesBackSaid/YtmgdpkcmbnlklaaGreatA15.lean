/- A part of the walks by abstract values: no statement of its own. -/
import Derived.Test.YtmgdpkcmbnlklaaGreatA11
import Derived.Test.YtmgdpkcmbnlklaaGreatA12
set_option linter.unusedVariables false
set_option linter.unusedSimpArgs false
namespace Go.Cg
open Go.RowKit
section
variable {P:Program} {tb:Tab} {n:Nat} {g:Base} {K K':KK} {w w':World} {ρ ρ':Nat→Value} {H H':HEnv} {env:Env} {a:Act} {ops:List Oper} {o:Oper} {rest:List Oper} {Q:Env→HEnv→Prop} {f:FuncId} {args:List AV} {r:AV}
theorem zbW {ars:List AV} {vs:List Value} (Hc Hc' R:HEnv) {lone:Bool} (ps:List Nat) (hw1:lone=true→g.w1.heap.size=0) (hsub:HSub H (Hc++R))
  (hchk:qY Hc Hc' R ps ars [] r=true) (hc:∀ us,ACallM P f ars (Hc++zu us ps) r (Hc'++zu us ps) lone) (hf:FS g K ρ H w) (hall0:Qj K w ρ H ars vs) :
  Calls P f vs.toArray w fun e w'=>∃ v K' ρ2,e=.returned v∧FS g K' ρ2 (Hc'++R) w'∧ARel K' w' ρ2 (Hc'++R) r v∧Later K K' w w'∧(∀ j,(HEnv.get (R++YP ps) j).isSome=true→(HEnv.get (Hc'++R) j).isSome=true∧ρ2 j=ρ j):=by
 simp only [qY,Bool.and_eq_true] at hchk
 obtain ⟨⟨⟨⟨⟨⟨⟨⟨⟨⟨d1,d2⟩,d3⟩,d4⟩,i1⟩,i2⟩,i3⟩,i4⟩,i5⟩,i6⟩,i7⟩:=hchk
 have i7':∀ i∈ps,(Hc.get i).isSome=true∧(Hc'.get i).isSome=true:=fun i hi=>by simpa using List.all_eq_true.1 i7 i hi
 have hlatR:Later K K w w:=.refl K w
 have gC:∀ i x,Hc.get i=some x→H.get i=some x:=fun i x hx=>hsub i x (by rw [get_append,hx])
 have gR:∀ i x,R.get i=some x→H.get i=some x:=fun i x hx=>hsub i x (by
  rw [get_append]
  cases hh:Hc.get i with
  | none=>exact hx
  | some y=>rw [qJ d1 i y hh] at hx;cases hx)
 have nC:∀ i x,R.get i=some x→Hc.get i=none:=fun i x hx=>by
  cases hh:Hc.get i with
  | none=>rfl
  | some y=>rw [qJ d1 i y hh] at hx;cases hx
 have nC':∀ i x,R.get i=some x→Hc'.get i=none:=fun i x hx=>by
  cases hh:Hc'.get i with
  | none=>rfl
  | some y=>rw [qJ d2 i y hh] at hx;cases hx
 have hpinC:∀ {A:HEnv} {us:Nat→Value} {i:Nat} {x:HE},HEnv.get (A++zu us ps) i=some x→x.live=true→A.get i=some x:=by
  intro A us i x hx hl
  rw [get_append] at hx
  cases hh:A.get i with
  | some z=>rw [hh] at hx;exact hx
  | none =>
   rw [hh] at hx
   obtain ⟨_,_,rfl⟩:=Zq hx
   simp [HE.live] at hl
 obtain ⟨g',hg'⟩:∃ g':Base,g'=⟨g.w0,K,g.w1,g.ds,w,fun b=>g.pr b∨∃ i x,R.get i=some x∧x.live=true∧zq (ρ i)=some b⟩:=⟨_,rfl⟩
 have hfs:FS g' K ρ (Hc++zu ρ ps) w:=by
  subst hg'
  refine ⟨hf.below,fun _ _ h=>h,fun _ _ h=>.inl h,hf.lt,hf.others,⟨?_,fun _ _ _=>rfl⟩,?_,?_,?_⟩
  ·rintro b (hb|⟨i,x,hi,hl,hb⟩)
   ·exact ⟨(hf.pt.same b hb).1,rfl,fun _=>Iff.rfl⟩
   ·exact ⟨((hf.heap.ok i x (gR i x hi)).block_lt hl hb).2,rfl,fun _=>Iff.rfl⟩
  ·intro i x b hi hl hb
   have hC:=hpinC hi hl
   rintro (hp|⟨j,y,hj,hly,hbj⟩)
   ·exact hf.away i x b (gC i x hC) hl hb hp
   ·have hne:i≠j:=by rintro rfl;rw [nC i y hj] at hC;cases hC
    exact hf.heap.apart i j x y b hne (gC i x hC) (gR j y hj) hl hly hb hbj
  ·intro i x hi
   rw [get_append] at hi
   cases hh:Hc.get i with
   | some y =>
    rw [hh] at hi;simp only [Option.some.injEq] at hi;subst hi
    have hok:=hf.heap.ok i y (gC i y hh)
    have hk:∀ j,(HEnv.get Hc j).isSome=true→(HEnv.get (Hc++zu ρ ps) j).isSome=true∧ρ j=ρ j:=fun j hj=>⟨zF j hj,rfl⟩
    cases y with
    | cell v=>obtain ⟨b,t,arr,u,q1,q2,q3,q4,q5,q6⟩:=hok;exact ⟨b,t,arr,u,q1,q2,q3,(q4.refs (qR i2 i v hh)).keeps hlatR hk,q5,q6⟩
    | pin v u=>exact (ARel.refs hok (yR i2 i v u hh)).keeps hlatR hk
    | row t sz es=>exact hok
    | mrow t sz es=>exact hok
    | dead=>exact hok
    | obj X=>exact hok
   | none =>
    rw [hh] at hi
    obtain ⟨q1,q2,rfl⟩:=Zq hi
    exact .own _ (zF _ (i7' _ q2).1)
  ·intro i j x y b hij hi hj lx ly bx bj
   exact hf.heap.apart i j x y b hij (gC i x (hpinC hi lx)) (gC j y (hpinC hj ly)) lx ly bx bj
 have hall:Qj K w ρ (Hc++zu ρ ps) ars vs :=
  ⟨hall0.1,fun k c v hc hv=>((hall0.2 k c v hc hv).refs (yg i1 k c hc)).keeps hlatR fun j hj=>⟨zF j hj,rfl⟩⟩
 refine ((hc ρ).calls g' K ρ w _ (by subst hg';exact hw1) hfs hall).mono fun e w' ⟨v,K',ρ',e1,hf',hv⟩=>?_
 subst e1
 have hlat:Later K K' w w':=by subst hg';exact ⟨hf'.old,hf'.pt.kept⟩
 have hprot:∀ b,(g.pr b∨∃ i x,R.get i=some x∧x.live=true∧zq (ρ i)=some b)→b < w'.heap.size∧w'.heap[b]?=w.heap[b]?∧∀ o,K' b o↔K b o:=by subst hg';exact hf'.pt.same
 have haway:∀ i x b,Hc'.get i=some x→x.live=true→zq (ρ' i)=some b→¬ (g.pr b∨∃ i x,R.get i=some x∧x.live=true∧zq (ρ i)=some b):=by
  subst hg';exact fun i x b hi=>hf'.away i x b (by rw [get_append,hi])
 obtain ⟨ρ2,hρ2⟩:∃ ρ2:Nat→Value,∀ j,ρ2 j=if (Hc'.get j).isSome then ρ' j else ρ j:=⟨_,fun _=>rfl⟩
 have r1:∀ j,(Hc'.get j).isSome=true→ρ2 j=ρ' j:=fun j hj=>by rw [hρ2,if_pos hj]
 have r2:∀ j,Hc'.get j=none→ρ2 j=ρ j:=fun j hj=>by rw [hρ2,hj];rfl
 have hkC:∀ j,(HEnv.get Hc' j).isSome=true→(HEnv.get (Hc'++R) j).isSome=true∧ρ2 j=ρ' j:=fun j hj=>⟨zF j hj,r1 j hj⟩
 have hps:∀ i∈ps,ρ' i=ρ i:=fun i hi=>by
  have hnone:Hc'.get (1000 + i)=none:=by
   cases hh:Hc'.get (1000 + i) with
   | none=>rfl
   | some x=>have:=YK d4 _ x hh;omega
  have:=hf'.heap.ok (1000 + i) _ (by rw [get_append,hnone];exact XO hi)
  have this:ARel K' w' ρ' (Hc'++zu ρ ps) (.own i) (ρ i):=this
  generalize hu:ρ i=u at this
  cases this with
  | own _ _=>rfl
 have hkR:∀ j,(HEnv.get (R++YP ps) j).isSome=true→(HEnv.get (Hc'++R) j).isSome=true∧ρ2 j=ρ j:=fun j hj=>by
  rw [get_append] at hj
  cases hh:R.get j with
  | some x =>
   have hn:=nC' j x hh
   exact ⟨by rw [get_append,hn,hh];rfl,r2 j hn⟩
  | none =>
   rw [hh] at hj
   have hm:=QB hj
   have hs':=(i7' j hm).2
   exact ⟨zF j hs',by rw [r1 j hs',hps j hm]⟩
 have hfs2:FS g K' ρ2 (Hc'++R) w':=by
  have b1:Below g.w0.heap.size g.w0 w':=by subst hg';exact hf'.below
  have b3:∀ b o,K' b o→K b o∨g.w0.heap.size≤b:=by subst hg';exact hf'.new
  have b5:KeepsOthers g.w1 w':=by subst hg';exact hf'.others
  have bB:HRel K' w' g.w0.heap.size ρ' (Hc'++zu ρ ps):=by subst hg';exact hf'.heap
  refine ⟨b1,fun b o h=>hlat.sub b o (hf.old b o h),fun b o hk=>(b3 b o hk).elim (hf.new b o) .inr,hf'.lt,b5,⟨fun b hb=>?_,fun b o h0=>(hlat.cell b o (hf.old b o h0)).trans (hf.pt.kept b o h0)⟩,fun i x b hi hl hb=>?_,fun i x hi=>?_,fun i j x y b hij hi hj lx ly bx bj=>?_⟩
  ·obtain ⟨p1,p2,p3⟩:=hprot b (.inl hb)
   obtain ⟨q1,q2,q3⟩:=hf.pt.same b hb
   exact ⟨p1,p2.trans q2,fun o=>(p3 o).trans (q3 o)⟩
  ·rw [get_append] at hi
   cases hh:Hc'.get i with
   | some y =>
    rw [hh] at hi;simp only [Option.some.injEq] at hi;subst hi
    rw [r1 i (by rw [hh];rfl)] at hb
    exact fun hp=>haway i y b hh hl hb (.inl hp)
   | none =>
    rw [hh] at hi
    rw [r2 i hh] at hb
    exact hf.away i x b (gR i x hi) hl hb
  ·rw [get_append] at hi
   cases hh:Hc'.get i with
   | some y =>
    rw [hh] at hi;simp only [Option.some.injEq] at hi;subst hi
    rw [r1 i (by rw [hh];rfl)]
    have hok:=bB.ok i y (by rw [get_append,hh])
    have hl':=Later.refl K' w'
    cases y with
    | cell v=>obtain ⟨b,t,arr,u,q1,q2,q3,q4,q5,q6⟩:=hok;exact ⟨b,t,arr,u,q1,q2,q3,(q4.refs (qR i3 i v hh)).keeps hl' hkC,q5,q6⟩
    | pin v u=>exact (ARel.refs hok (yR i3 i v u hh)).keeps hl' hkC
    | row t sz es=>exact hok
    | mrow t sz es=>exact hok
    | dead=>exact hok
    | obj X=>exact hok
   | none =>
    rw [hh] at hi
    rw [r2 i hh]
    have hok:=hf.heap.ok i x (gR i x hi)
    have hsame:x.live=true→∀ b,zq (ρ i)=some b→w'.heap[b]?=w.heap[b]?∧∀ o,K' b o↔K b o:=fun hl b hb=>(hprot b (.inr ⟨i,x,hi,hl,hb⟩)).2
    cases x with
    | cell v =>
     obtain ⟨b,t,arr,u,q1,q2,q3,q4,q5,q6⟩:=hok
     obtain ⟨s1,s2⟩:=hsame rfl b (by rw [q1];rfl)
     exact ⟨b,t,arr,u,q1,q2,by rw [s1];exact q3,(q4.refs (qR i5 i v hi)).keeps hlat hkR,q5,fun o hk=>q6 o ((s2 o).1 hk)⟩
    | pin v u=>exact (ARel.refs hok (yR i5 i v u hi)).keeps hlat hkR
    | row t sz es =>
     obtain ⟨xs,q1,q2,q3,q4⟩:=hok
     refine ⟨xs,yK q1 fun b hb=>(hsame rfl b hb).1,q2,fun k e he=>?_,fun b hb o=>?_⟩
     ·obtain ⟨c1,c2⟩:=q3 k e he
      exact ⟨c1,fun k c hc=>let ⟨v,h4,h5,h6⟩:=c2 k c hc;⟨v,h4,h5,h6.later hlat⟩⟩
     ·rw [(hsame rfl b ((qh q1 b).2 hb)).2 o];exact q4 b hb o
    | mrow t sz es =>
     obtain ⟨xs,q1,q2,q3,q4⟩:=hok
     refine ⟨xs,yK q1 fun b hb=>(hsame rfl b hb).1,q2,fun k e he=>?_,fun b hb o hk=>?_⟩
     ·obtain ⟨c1,c2⟩:=q3 k e he
      exact ⟨c1,fun k c hc=>let ⟨v,h4,h5,h6⟩:=c2 k c hc;⟨v,h4,h5,h6.later hlat⟩⟩
     ·exact q4 b hb o (((hsame rfl b ((qh q1 b).2 hb)).2 o).1 hk)
    | dead=>trivial
    | obj X =>
     obtain ⟨b,ob,q1,q2,q3,q4,q5⟩:=hok
     obtain ⟨s1,s2⟩:=hsame rfl b (by rw [q1];rfl)
     exact ⟨b,ob,q1,q2,by rw [s1];exact q3,q4,fun o hk=>q5 o ((s2 o).1 hk)⟩
  ·rw [get_append] at hi hj
   cases hhi:Hc'.get i with
   | some x' =>
    rw [hhi] at hi;simp only [Option.some.injEq] at hi;subst hi
    rw [r1 i (by rw [hhi];rfl)] at bx
    cases hhj:Hc'.get j with
    | some y' =>
     rw [hhj] at hj;simp only [Option.some.injEq] at hj;subst hj
     rw [r1 j (by rw [hhj];rfl)] at bj
     exact bB.apart i j x' y' b hij (by rw [get_append,hhi]) (by rw [get_append,hhj]) lx ly bx bj
    | none =>
     rw [hhj] at hj;rw [r2 j hhj] at bj
     exact haway i x' b hhi lx bx (.inr ⟨j,y,hj,ly,bj⟩)
   | none =>
    rw [hhi] at hi;rw [r2 i hhi] at bx
    cases hhj:Hc'.get j with
    | some y' =>
     rw [hhj] at hj;simp only [Option.some.injEq] at hj;subst hj
     rw [r1 j (by rw [hhj];rfl)] at bj
     exact haway j y' b hhj ly bj (.inr ⟨i,x,hi,lx,bx⟩)
    | none =>
     rw [hhj] at hj;rw [r2 j hhj] at bj
     exact hf.heap.apart i j x y b hij (gR i x hi) (gR j y hj) lx ly bx bj
 exact ⟨v,K',ρ2,rfl,hfs2,(hv.refs i4).keeps (Later.refl K' w') hkC,hlat,hkR⟩
def zc6 (X:HEnv):Env→Env
 | []=>[]
 | (t,v)::e=>(t,if yE X v then v else .any)::zc6 X e
theorem zcK (X:HEnv):∀ (e:Env) (t:Nat),(zc6 X e).get t=(e.get t).map fun v=>if yE X v then v else .any
 | [],t=>rfl
 | (t',v)::e,t=>by
  rw [zc6,Env.get_cons,Env.get_cons]
  split
  ·rfl
  ·exact zcK X e t
theorem yH {xs:Array Operand} {ts:Array TypeId} {d:Tmp} {ars:List AV} (Hc Hc' R:HEnv) {lone:Bool} (ps:List Nat) (hw1:lone=true→g.w1.heap.size=0) (hg:guardE ops env o=some true)
  (hop:o.op=.call { callee:=.value (.func f),args:=xs,argTypes:=ts }) (hargs:avs env xs.toList=some ars) (hsub:HSub H (Hc++R)) (hd:o.dst=some d) (hdt:Nat.blt d n=true)
  (hchk:qY Hc Hc' R ps ars [] r=true) (hc:∀ us,ACallM P f ars (Hc++zu us ps) r (Hc'++zu us ps) lone)
  (h:AO P n g ops.toArray rest ((d,r)::zc6 (R++YP ps) env) (Hc'++R) Q):AO P n g ops.toArray (o::rest) env H Q:=by
 refine ⟨fun a w hinv=>?_⟩
 have hw:=yh hinv hg
 obtain ⟨h1,h2,K,ρ,hf,he⟩:=hinv
 refine wpList_step fun KK hKK=>?_
 rw [if_pos hw]
 have hrun:(execOp a.eval o).run P w=.ok (.enter f (xs.toList.map a.eval).toArray) w:=by
  have e:(xs.toList.map a.eval).toArray=xs.map a.eval:=by rw [←Array.toList_map,Array.toArray_toList]
  rw [e]
  simp [execOp,hop,resolve,Act.eval,Deferred.ofValue,invoke,Zd (hc ρ).stands]
 unfold Oper.wp
 rw [hrun]
 simp only [Oper.upon]
 refine (zbW Hc Hc' R ps hw1 hsub hchk hc hf (VT (a:=a) he hargs)).mono fun e w' ⟨v,K',ρ2,e1,hf',hv,hlat,hps⟩=>?_
 subst e1
 refine hKK _ _ (h.go _ _ ⟨yB h1,put_defers h2,K',ρ2,hf',?_⟩)
 rw [hd]
 refine yY h1 hdt (fun t av ht=>?_) hv
 rw [zcK] at ht
 cases hE:env.get t with
 | none=>simp [hE] at ht
 | some v0 =>
  obtain ⟨u,u1,u2⟩:=he t v0 hE
  simp only [hE,Option.map_some,Option.some.injEq] at ht
  subst ht
  refine ⟨u,u1,?_⟩
  split
  ·rename_i hr;exact (u2.refs hr).keeps hlat hps
  ·exact .any u
structure EStep (P:Program) (g:Base) (H0 H1 Ht:HEnv) (o:Oper) (e:Env) (r:AV) (pan:Option Value):Prop where
 go:∀ (K:KK) (ρ:Nat→Value) (a:Act) (w:World),FS g K ρ H0 w→(∀ x∈o.op.operands,∀ av,e.val x=some av→ARel K w ρ Ht av (a.eval x)) →
  ∃ f vs,(execOp a.eval o).run P w=.ok (.enter f vs) w∧Calls P f vs w fun ex w' =>
   match pan with
   | none=>∃ v K' ρ',ex=.returned v∧FS g K' ρ' H1 w'∧Later K K' w w'∧(∀ j,(Ht.get j).isSome=true→ρ' j=ρ j)∧ARel K' w' ρ' Ht r v
   | some v=>ex=.panicked [{ v:=v,recovered:=false }]∧∃ K' ρ',FS g K' ρ' [] w'
def yO (A B:HEnv):Bool:=A.all fun x=>(B.get x.1).isSome
theorem qG {A B:HEnv} (h:yO A B=true):∀ j,(A.get j).isSome=true→(B.get j).isSome=true:=by
 induction A with
 | nil=>intro j hj;simp [HEnv.get_nil] at hj
 | cons y A ih =>
  intro j hj
  obtain ⟨i,z⟩:=y
  simp only [yO,List.all_cons,Bool.and_eq_true] at h
  rw [HEnv.get_cons] at hj
  split at hj
  ·rename_i e;subst e;exact h.1
  ·exact ih h.2 j hj
theorem zhB {e:Env} {Ht:HEnv} {a:Act}:∀ {xs:List Operand} {ars:List AV},(∀ x∈xs,∀ av,e.val x=some av→ARel K w ρ Ht av (a.eval x))→avs e xs=some ars→Qj K w ρ Ht ars (xs.map a.eval)
 | [],ars,_,h=>by simp only [avs,Option.some.injEq] at h;subst h;exact ⟨rfl,fun k c v hc=>by simp at hc⟩
 | x::xs,ars,hv,h=>by
  simp only [avs] at h
  split at h
  ·rename_i v vs h1 h2
   simp only [Option.some.injEq] at h;subst h
   obtain ⟨q1,q2⟩:=zhB (xs:=xs) (fun y hy=>hv y (by simp [hy])) h2
   refine ⟨by simp [q1],fun k c u hc hu=>?_⟩
   cases k with
   | zero=>simp at hc hu;subst hc hu;exact hv x (by simp) v h1
   | succ k=>simp at hc hu;exact q2 k c u hc (by simpa using hu)
  ·cases h
theorem qM {xs:Array Operand} {ts:Array TypeId} {ars:List AV} {Ht:HEnv} {e:Env} (Hc Hc' R:HEnv) {lone:Bool} (ps:List Nat) (hw1:lone=true→g.w1.heap.size=0)
  (hop:o.op=.call { callee:=.value (.func f),args:=xs,argTypes:=ts }) (hargs:avs e xs.toList=some ars) (hsub:HSub H (Hc++R)) (hk:yO Ht H=true) (hk2:yO Ht (R++YP ps)=true)
  (hr:yE Ht r=true) (hchk:qY Hc Hc' R ps ars [] r=true) (hc:∀ us,ACallM P f ars (Hc++zu us ps) r (Hc'++zu us ps) lone):EStep P g H (Hc'++R) Ht o e r none:=by
 refine ⟨fun K ρ a w hf hv=>?_⟩
 have hrun:(execOp a.eval o).run P w=.ok (.enter f (xs.toList.map a.eval).toArray) w:=by
  have e:(xs.toList.map a.eval).toArray=xs.map a.eval:=by rw [←Array.toList_map,Array.toArray_toList]
  rw [e]
  simp [execOp,hop,resolve,Act.eval,Deferred.ofValue,invoke,Zd (hc ρ).stands]
 refine ⟨f,_,hrun,?_⟩
 have hpa:Qj K w ρ Ht ars (xs.toList.map a.eval):=zhB (fun x hx=>hv x (by rw [hop];simp [Op.operands,Call.operands];exact .inr (by simpa using hx))) hargs
 have hall:Qj K w ρ H ars (xs.toList.map a.eval):=⟨hpa.1,fun k c v hc hv=>(hpa.2 k c v hc hv).keeps (.refl K w) fun j hj=>⟨qG hk j hj,rfl⟩⟩
 refine (zbW Hc Hc' R ps hw1 hsub hchk hc hf hall).mono fun ex w' ⟨v,K',ρ2,e1,hf',hv,hlat,hps⟩=>?_
 exact ⟨v,K',ρ2,e1,hf',hlat,fun j hj=>(hps j (qG hk2 j hj)).2,hv.refs hr⟩
end
section
variable {P:Program} {n:Nat} {g:Base} {K:KK} {w:World} {ρ:Nat→Value} {H H0 H1:HEnv} {env:Env} {a:Act} {ops l:List Oper} {Q:Env→Prop}
theorem zgP {l:List Oper} {r:List AV} {e:List Env} {last env:Env} {o:Oper} {ro:AV} {t:Nat} (hd:o.dst=some t)
  (src:∀ (j:Nat) (ej:Env),(e++[last])[j]?=some ej→∀ (t':Nat) (av:AV),ej.get t'=some av→(∃ i o ri,i < j∧l[i]?=some o∧o.dst=some t'∧r[i]?=some ri∧Tells ri av∧(∀ i' o',i < i'→i' < j→l[i']?=some o'→o'.dst≠some t')) ∨
   ((∀ i o,i < j→l[i]?=some o→o.dst≠some t')∧∃ av0,Env.get ((t,ro)::env) t'=some av0∧Tells av0 av)) :
  ∀ (j:Nat) (ej:Env),(env::e++[last])[j]?=some ej→∀ (t':Nat) (av:AV),ej.get t'=some av→(∃ i o' ri,i < j∧(o::l)[i]?=some o'∧o'.dst=some t'∧(ro::r)[i]?=some ri∧Tells ri av∧(∀ i' o',i < i'→i' < j→(o::l)[i']?=some o'→o'.dst≠some t')) ∨
   ((∀ i o',i < j→(o::l)[i]?=some o'→o'.dst≠some t')∧∃ av0,env.get t'=some av0∧Tells av0 av):=by
 intro j ej hj t' av hav
 cases j with
 | zero=>simp at hj;subst hj;exact .inr ⟨by simp,av,hav,.refl _⟩
 | succ j =>
  have hj':(e++[last])[j]?=some ej:=by simpa using hj
  rcases src j ej hj' t' av hav with ⟨i,o',ri,h1,h2,h3,h4,h5,h6⟩|⟨h1,av0,h2,h3⟩
  ·refine .inl ⟨i + 1,o',ri,by omega,by simpa using h2,h3,by simpa using h4,h5,fun i' o'' hi hi' ho=>?_⟩
   cases i' with
   | zero=>omega
   | succ i'=>exact h6 i' o'' (by omega) (by omega) (by simpa using ho)
  ·simp only [Env.get_nil,Env.get_cons] at h2
   split at h2
   ·rename_i e;subst e
    simp only [Option.some.injEq] at h2;subst h2
    refine .inl ⟨0,o,ro,by omega,rfl,hd,rfl,h3,fun i' o'' hi hi' ho=>?_⟩
    cases i' with
    | zero=>omega
    | succ i'=>exact h1 i' o'' (by omega) (by simpa using ho)
   ·rename_i hne
    refine .inr ⟨fun i o' hi ho=>?_,av0,h2,h3⟩
    cases i with
    | zero=>simp at ho;subst ho;rw [hd];simpa using hne
    | succ i=>exact h1 i o' (by omega) (by simpa using ho)
theorem zhQ {r:Option Nat} {d:Nat} {id:Nat} {w:World} {QQ:QC} (hd:yP ops=true) (hm:P.follows .mixedOrders=true) (h:wpAny P .any ops.toArray (fun e a w=>∃ env' H',Inv n g env' H' a w∧(e=.normal∨∃ ch,e=.panic ch)∧QQ e env' H') ops.toArray.size (Array.replicate ops.toArray.size false) a { w with drawn:=w.drawn + 1 }) :
  (Code.region id ops.toArray true).wpIn (Xn r) d P (fun e a w=>∃ env' H',Inv n g env' H' a w∧QQ e env' H') a w :=
 wpIn_mono (wpIn_region_any hm (Qx zhg (by simpa using hd) _ _ _ _ h)) (fun e a' w' ⟨env',H',h1,_,h3⟩=>⟨env',H',h1,h3⟩)
end
def early (ET:List Nat) (o:Oper):Bool:=match o.dst with|some t=>ET.contains t|none=>false
def SQ (P:Program) (g:Base) (H:HEnv) (Hp:Nat→HEnv) (ET:List (List Nat)) (o:Oper) (e:Env) (r:AV):Prop:=QStep P g H o e r∨∃ p,early (ET.getD p []) o=true∧QStep P g (Hp p) o e r
def zlh (l:List Oper):List (List Nat) :=
 l.zipIdx.foldl (fun acc x=>acc++[(List.range x.2).filter fun j=>zA x.1 j||(List.range x.2).any fun m=>zA x.1 m&&(acc.getD m []).contains j]) []
theorem zfo {l:List Oper} {listed:Array Bool} (hcl:∀ (i:Nat) (o:Oper),l[i]?=some o→listed.getD i true=true→∀ j,zA o j=true→listed.getD j false=true) (hlf:∀ i,listed.getD i false=true→listed.getD i true=true) {i j:Nat} {o:Oper} (hi:l[i]?=some o) (hpr:∀ m,zA o m=true→listed.getD m false=true)
  (hj:(zlh l).getD i [] |>.contains j):listed.getD j false=true:=by
 have key:∀ (xs:List (Oper × Nat)) (pre:List Oper) (acc:List (List Nat)),l=pre++xs.map (·.1)→xs=(xs.map (·.1)).zipIdx pre.length→acc.length=pre.length →
   (∀ i o j,l[i]?=some o→j∈acc.getD i []→(∀ m,zA o m=true→listed.getD m false=true)→listed.getD j false=true) →
   ∀ i o j,l[i]?=some o→j∈(xs.foldl (fun acc x=>acc++[(List.range x.2).filter fun j=>zA x.1 j||(List.range x.2).any fun m=>zA x.1 m&&(acc.getD m []).contains j]) acc).getD i []→(∀ m,zA o m=true→listed.getD m false=true)→listed.getD j false=true:=by
  intro xs
  induction xs with
  | nil=>intro pre acc _ _ _ h;exact h
  | cons x xs ih =>
   intro pre acc h1 h2 h3 h
   rw [List.map_cons,List.zipIdx_cons,List.cons.injEq] at h2
   have hx2:x.2=pre.length:=by rw [h2.1]
   refine ih (pre++[x.1]) _ (by simpa using h1) (by simpa using h2.2) (by simp [h3]) ?_
   intro i o j hi hj hpr
   rw [List.getD_eq_getElem?_getD] at hj
   by_cases hlt:i < acc.length
   ·rw [List.getElem?_append_left hlt,←List.getD_eq_getElem?_getD] at hj
    exact h i o j hi hj hpr
   ·by_cases he:i=acc.length
    ·subst he
     rw [List.getElem?_append_right (Nat.le_refl _)] at hj
     simp only [Nat.sub_self,List.getElem?_cons_zero,Option.getD_some,List.mem_filter,Bool.or_eq_true] at hj
     have ho:x.1=o:=by
      rw [h1,List.map_cons,h3,List.getElem?_append_right (Nat.le_refl _)] at hi
      simpa using hi
     subst ho
     rcases hj.2 with hj2|hj2
     ·exact hpr j hj2
     ·obtain ⟨m,hm1,hm2⟩:=List.any_eq_true.1 hj2
      simp only [Bool.and_eq_true] at hm2
      have hm:=hpr m hm2.1
      have hml:m < acc.length:=by have:=List.mem_range.1 hm1;rw [hx2] at this;omega
      have hmo:m < l.length:=by rw [h1];simp;omega
      exact h m l[m] j (List.getElem?_eq_getElem hmo) (List.contains_iff_mem.1 hm2.2) (hcl m l[m] (List.getElem?_eq_getElem hmo) (hlf m hm))
    ·rw [List.getElem?_eq_none (by simp;omega)] at hj
     simp at hj
 exact key l.zipIdx [] [] (by simp) (by simp) rfl (by simp) i o j hi (List.contains_iff_mem.1 hj) hpr
def zf2 (l:List Oper) (E:List Nat) (ET:List (List Nat)):Bool :=
 let pr:=zlh l
 ET.zipIdx.all fun y=>l.zipIdx.all fun x=>!early y.1 x.1||((match y.2 with|0=>true|q + 1=>match E[q]? with|some e=>(pr.getD x.2 []).contains e|none=>false)&&(match E[y.2]? with|some e=>(pr.getD e []).contains x.2|none=>decide (y.2=E.length)))
structure ScriptM (P:Program) (n:Nat) (g:Base) (H:HEnv) (Hp:Nat→HEnv) (ET:List (List Nat)) (ops:List Oper) (l:List Oper) (E:List Nat) (env:Env) (Q:Env→Prop) where
 r:List AV
 e:List Env
 last:Env
 lenr:r.length=l.length
 lene:e.length=l.length
 ok:∀ (j:Nat) (o:Oper) (rj:AV) (ej:Env),j∉E→l[j]?=some o→r[j]?=some rj→e[j]?=some ej→∃ t,o.dst=some t∧t < n ∧
  ((guardE ops ej o=some true∧SQ P g H Hp ET o ej rj)∨(guardE ops ej o=some false∧rj=.pv (.tup [])))
 src:∀ (j:Nat) (ej:Env),(e++[last])[j]?=some ej→∀ (t:Nat) (av:AV),ej.get t=some av→(∃ i o ri,i < j∧l[i]?=some o∧o.dst=some t∧r[i]?=some ri∧Tells ri av∧(∀ i' o',i < i'→i' < j→l[i']?=some o'→o'.dst≠some t)) ∨
  ((∀ i o,i < j→l[i]?=some o→o.dst≠some t)∧∃ av0,env.get t=some av0∧Tells av0 av)
 fin:Q last
section
variable {P:Program} {n:Nat} {g:Base} {K:KK} {w:World} {ρ:Nat→Value} {H:HEnv} {Hp:Nat→HEnv} {ET:List (List Nat)} {env:Env} {a:Act} {ops l:List Oper} {Q:Env→Prop}
def zhn (n:Nat) (ops:List Oper) (F:Nat→Oper→Env→AV→Prop) (l:List Oper) (r:List AV) (e:List Env) (p j:Nat):Prop :=
 ∃ oc rc ec,l[j]?=some oc∧(∀ tc,oc.dst=some tc→tc < n)∧r[j]?=some rc∧e[j]?=some ec∧guardE ops ec oc=some true∧F p oc ec rc
def Xu (P:Program) (n:Nat) (g:Base) (H:HEnv) (Hp:Nat→HEnv) (ET:List (List Nat)) (ops:List Oper) (Q:Env→Prop) (F:Nat→Oper→Env→AV→Prop) (E:List Nat) (l:List Oper) (env:Env):Prop :=
 ∃ s:ScriptM P n g H Hp ET ops l E env Q,∀ p j,E[p]?=some j→zhn n ops F l s.r s.e p j
variable {F:Nat→Oper→Env→AV→Prop} {E:List Nat}
theorem zlm (h:Q env):Xu P n g H Hp ET ops Q F [] [] env:=by
 refine ⟨⟨[],[],env,rfl,rfl,by simp,?_,h⟩,by simp⟩
 intro j ej hj t av hav
 cases j with
 | zero=>simp at hj;subst hj;exact .inr ⟨by simp,av,hav,.refl _⟩
 | succ j=>simp at hj
theorem zaA {o:Oper} {r0:AV} {e0:Env} {r:List AV} {e:List Env} {p j:Nat} (h:zhn n ops F l r e p j):zhn n ops F (o::l) (r0::r) (e0::e) p (j + 1):=by
 obtain ⟨oc,rc,ec,h1,h2,h4,h5,h6,h7⟩:=h
 exact ⟨oc,rc,ec,by simpa using h1,h2,by simpa using h4,by simpa using h5,h6,h7⟩
theorem Wh {E:List Nat} {p j:Nat} (h:(E.map (· + 1))[p]?=some j):∃ j',j=j' + 1∧E[p]?=some j':=by
 rw [List.getElem?_map] at h
 cases hE:E[p]? with
 | none=>simp [hE] at h
 | some j'=>simp [hE] at h;exact ⟨j',h.symm,rfl⟩
theorem zjk {o:Oper} {r:AV} {t:Nat} (hd:o.dst=some t) (ht:t < n) (hor:(guardE ops env o=some true∧SQ P g H Hp ET o env r)∨(guardE ops env o=some false∧r=.pv (.tup [])))
  (h:Xu P n g H Hp ET ops Q F E l ((t,r)::env)):Xu P n g H Hp ET ops Q F (E.map (· + 1)) (o::l) env:=by
 obtain ⟨s,hs⟩:=h
 refine ⟨⟨r::s.r,env::s.e,s.last,by simp [s.lenr],by simp [s.lene],?_,zgP hd s.src,s.fin⟩,?_⟩
 ·intro j o' rj ej hne ho hr he
  cases j with
  | zero=>simp at ho hr he;subst ho hr he;exact ⟨t,hd,ht,hor⟩
  | succ j=>exact s.ok j o' rj ej (fun hm=>hne (List.mem_map.2 ⟨j,hm,rfl⟩)) (by simpa using ho) (by simpa using hr) (by simpa using he)
 ·intro p j hp
  obtain ⟨j',rfl,hj'⟩:=Wh hp
  exact zaA (hs p j' hj')
theorem zkq {oc:Oper} {rc:AV} {tc:Nat} (hd:oc.dst=some tc) (ht:tc < n) (hg:guardE ops env oc=some true) (hF:F 0 oc env rc)
  (h:Xu P n g H Hp ET ops Q (fun p=>F (p + 1)) E l ((tc,rc)::env)):Xu P n g H Hp ET ops Q F (0::E.map (· + 1)) (oc::l) env:=by
 obtain ⟨s,hs⟩:=h
 refine ⟨⟨rc::s.r,env::s.e,s.last,by simp [s.lenr],by simp [s.lene],?_,zgP hd s.src,s.fin⟩,?_⟩
 ·intro j o' rj ej hne ho hr he
  cases j with
  | zero=>exact absurd (by simp) hne
  | succ j=>exact s.ok j o' rj ej (fun hm=>hne (List.mem_cons_of_mem _ (List.mem_map.2 ⟨j,hm,rfl⟩))) (by simpa using ho) (by simpa using hr) (by simpa using he)
 ·intro p j hp
  cases p with
  | zero=>simp at hp;subst hp;exact ⟨oc,rc,env,rfl,fun t h=>by rw [hd] at h;cases h;exact ht,rfl,rfl,hg,hF⟩
  | succ p =>
   obtain ⟨j',rfl,hj'⟩:=Wh (E:=E) (p:=p) (by simpa using hp)
   exact zaA (hs p j' hj')
theorem zj2 {l:List Oper} {r:List AV} {e:List Env} {last env:Env} {o:Oper} {ro:AV} (hd:o.dst=none)
  (src:∀ (j:Nat) (ej:Env),(e++[last])[j]?=some ej→∀ (t':Nat) (av:AV),ej.get t'=some av→(∃ i o ri,i < j∧l[i]?=some o∧o.dst=some t'∧r[i]?=some ri∧Tells ri av∧(∀ i' o',i < i'→i' < j→l[i']?=some o'→o'.dst≠some t')) ∨
   ((∀ i o,i < j→l[i]?=some o→o.dst≠some t')∧∃ av0,env.get t'=some av0∧Tells av0 av)) :
  ∀ (j:Nat) (ej:Env),(env::e++[last])[j]?=some ej→∀ (t':Nat) (av:AV),ej.get t'=some av→(∃ i o' ri,i < j∧(o::l)[i]?=some o'∧o'.dst=some t'∧(ro::r)[i]?=some ri∧Tells ri av∧(∀ i' o',i < i'→i' < j→(o::l)[i']?=some o'→o'.dst≠some t')) ∨
   ((∀ i o',i < j→(o::l)[i]?=some o'→o'.dst≠some t')∧∃ av0,env.get t'=some av0∧Tells av0 av):=by
 intro j ej hj t' av hav
 cases j with
 | zero=>simp at hj;subst hj;exact .inr ⟨by simp,av,hav,.refl _⟩
 | succ j =>
  rcases src j ej (by simpa using hj) t' av hav with ⟨i,o',ri,h1,h2,h3,h4,h5,h6⟩|⟨h1,av0,h2,h3⟩
  ·refine .inl ⟨i + 1,o',ri,by omega,by simpa using h2,h3,by simpa using h4,h5,fun i' o'' hi hi' ho=>?_⟩
   cases i' with
   | zero=>omega
   | succ i'=>exact h6 i' o'' (by omega) (by omega) (by simpa using ho)
  ·refine .inr ⟨fun i o' hi ho=>?_,av0,h2,h3⟩
   cases i with
   | zero=>simp at ho;subst ho;rw [hd];simp
   | succ i=>exact h1 i o' (by omega) (by simpa using ho)
theorem zj6 {oc:Oper} {rc:AV} (hd:oc.dst=none) (hg:guardE ops env oc=some true) (hF:F 0 oc env rc)
  (h:Xu P n g H Hp ET ops Q (fun p=>F (p + 1)) E l env):Xu P n g H Hp ET ops Q F (0::E.map (· + 1)) (oc::l) env:=by
 obtain ⟨s,hs⟩:=h
 refine ⟨⟨rc::s.r,env::s.e,s.last,by simp [s.lenr],by simp [s.lene],?_,zj2 hd s.src,s.fin⟩,?_⟩
 ·intro j o' rj ej hne ho hr he
  cases j with
  | zero=>exact absurd (by simp) hne
  | succ j=>exact s.ok j o' rj ej (fun hm=>hne (List.mem_cons_of_mem _ (List.mem_map.2 ⟨j,hm,rfl⟩))) (by simpa using ho) (by simpa using hr) (by simpa using he)
 ·intro p j hp
  cases p with
  | zero=>simp at hp;subst hp;exact ⟨oc,rc,env,rfl,fun t h=>(by rw [hd] at h;cases h),rfl,rfl,hg,hF⟩
  | succ p =>
   obtain ⟨j',rfl,hj'⟩:=Wh (E:=E) (p:=p) (by simpa using hp)
   exact zaA (hs p j' hj')
theorem zld {H1:HEnv} {l1 l2:List Oper} (hS:∀ o∈l1,∀ e r,QStep P g H1 o e r→SQ P g H Hp ET o e r) (h:AD P n g H1 ops (fun env1=>Xu P n g H Hp ET ops Q F E l2 env1) l1 env):Xu P n g H Hp ET ops Q F (E.map (· + l1.length)) (l1++l2) env:=by
 induction h with
 | nil env hq=>simpa using hq
 | step o rest env r t hg hq hd ht _ ih =>
  have:=zjk hd (Nat.le_of_ble_eq_true ht) (.inl ⟨hg,hS o (by simp) _ _ hq⟩) (ih fun o' ho'=>hS o' (List.mem_cons_of_mem _ ho'))
  rw [List.map_map] at this
  simpa [Function.comp_def,Nat.add_assoc] using this
 | skip o rest env t hg hd ht _ ih =>
  have:=zjk hd (Nat.le_of_ble_eq_true ht) (.inr ⟨hg,rfl⟩) (ih fun o' ho'=>hS o' (List.mem_cons_of_mem _ ho'))
  rw [List.map_map] at this
  simpa [Function.comp_def,Nat.add_assoc] using this
 | case l env t b hb h1 h2 ih1 ih2 =>
  have key:∀ c,b=c→Xu P n g H Hp ET ops Q F (E.map (· + l.length)) (l++l2) ((t,.pv (.base (.bool c)))::env)→Xu P n g H Hp ET ops Q F (E.map (· + l.length)) (l++l2) env:=by
   rintro c rfl ⟨s,hs⟩
   refine ⟨⟨s.r,s.e,s.last,s.lenr,s.lene,s.ok,?_,s.fin⟩,hs⟩
   intro j ej hj t' av hav
   rcases s.src j ej hj t' av hav with h|⟨h1,av0,h2,h3⟩
   ·exact .inl h
   ·refine .inr ⟨h1,?_⟩
    simp only [Env.get_nil,Env.get_cons] at h2
    split at h2
    ·rename_i e;subst e;simp only [Option.some.injEq] at h2;subst h2;exact ⟨_,hb,h3⟩
    ·exact ⟨av0,h2,h3⟩
  cases hb':b
  ·exact key false hb' (ih2 hb' hS)
  ·exact key true hb' (ih1 hb' hS)
theorem zi7 {l1 l2:List Oper} (h:AD P n g H ops (fun env1=>Xu P n g H Hp ET ops Q F E l2 env1) l1 env):Xu P n g H Hp ET ops Q F (E.map (· + l1.length)) (l1++l2) env:=zld (fun _ _ _ _ h=>.inl h) h
def phase (E:List Nat) (listed:Array Bool):Nat:=(E.filter fun j=>listed.getD j true).length
def qg (l:List Oper):List Nat→Bool
 | []=>true
 | [j]=>(l[j]?).isSome
 | i::j::E=>Nat.blt i j&&(match l[j]? with|some o=>zA o i|none=>false)&&(l[i]?).isSome&&qg l (j::E)
theorem XI:∀ {E:List Nat} {p i j:Nat},qg l E=true→E[p]?=some i→E[p + 1]?=some j→i < j∧∃ o,l[j]?=some o∧zA o i=true
 | [],p,i,j,_,h,_=>by simp at h
 | [x],p,i,j,_,_,h=>by simp at h
 | x::y::E,p,i,j,hc,h1,h2=>by
  simp only [qg,Bool.and_eq_true] at hc
  obtain ⟨⟨⟨c1,c2⟩,c3⟩,c4⟩:=hc
  cases p with
  | zero =>
   simp at h1 h2;subst h1 h2
   refine ⟨Nat.le_of_ble_eq_true c1,?_⟩
   cases hl:l[y]? with
   | none=>simp [hl] at c2
   | some o=>exact ⟨o,rfl,by simpa [hl] using c2⟩
  | succ p=>exact XI c4 (by simpa using h1) (by simpa using h2)
theorem Wy:∀ {E:List Nat},qg l E=true→∀ {p q i j:Nat},p < q→E[p]?=some i→E[q]?=some j→i < j:=by
 intro E hc p q
 induction q with
 | zero=>intro i j h;omega
 | succ q ih =>
  intro i j hpq h1 h2
  cases hq:E[q]? with
  | none =>
   have:=(List.getElem?_eq_some_iff.1 h2).1
   rw [List.getElem?_eq_none_iff] at hq;omega
  | some m =>
   have:=(XI hc hq h2).1
   rcases Nat.lt_or_ge p q with h|h
   ·have:=ih h h1 hq;omega
   ·have:p=q:=by omega
    subst this
    rw [h1] at hq;cases hq;exact this
theorem QU {E:List Nat} (hc:qg l E=true) {p j:Nat} (h:E[p]?=some j):j < l.length:=by
 have key:∀ {E:List Nat},qg l E=true→∀ {p j:Nat},E[p]?=some j→(l[j]?).isSome=true:=by
  intro E
  induction E with
  | nil=>intro _ p j h;simp at h
  | cons x E ih =>
   intro hc p j h
   cases E with
   | nil =>
    simp only [qg] at hc
    cases p with
    | zero=>simp at h;subst h;exact hc
    | succ p=>simp at h
   | cons y E =>
    simp only [qg,Bool.and_eq_true] at hc
    cases p with
    | zero=>simp at h;subst h;exact hc.1.2
    | succ p=>exact ih hc.2 (by simpa using h)
 have:=key hc h
 cases hl:l[j]? with
 | none=>simp [hl] at this
 | some o=>exact (List.getElem?_eq_some_iff.1 hl).1
theorem zaZ {E:List Nat} {listed:Array Bool} {p:Nat} (hp:p≤E.length) (hlow:∀ q i,q < p→E[q]?=some i→listed.getD i true=true) (hhigh:∀ q i,p≤q→E[q]?=some i→listed.getD i true=false):phase E listed=p:=by
 have e:E=E.take p++E.drop p:=(List.take_append_drop p E).symm
 unfold phase
 rw [e,List.filter_append,List.length_append]
 have h1:(E.take p).filter (fun j=>listed.getD j true)=E.take p:=by
  rw [List.filter_eq_self]
  intro x hx
  obtain ⟨q,hq⟩:=List.getElem?_of_mem hx
  rw [List.getElem?_take] at hq
  split at hq
  ·rename_i hlt;exact hlow q x hlt hq
  ·cases hq
 have h2:(E.drop p).filter (fun j=>listed.getD j true)=[]:=by
  rw [List.filter_eq_nil_iff]
  intro x hx
  obtain ⟨q,hq⟩:=List.getElem?_of_mem hx
  rw [List.getElem?_drop] at hq
  simp [hhigh (p + q) x (by omega) hq]
 rw [h1,h2]
 simp;omega
theorem zfw {listed:Array Bool} {i:Nat} (h:listed.getD i false=true):listed.getD i true=true:=by
 rw [Array.getD_eq_getD_getElem?] at h ⊢
 cases hh:listed[i]? with
 | none=>rfl
 | some b=>rw [hh] at h;exact h
theorem VZ {E:List Nat} {listed:Array Bool} (hc:qg l E=true) (hcl:∀ (i:Nat) (o:Oper),l[i]?=some o→listed.getD i true=true→∀ j,zA o j=true→listed.getD j false=true) {j:Nat} {oc:Oper} (hjc:l[j]?=some oc) (hready:∀ i,zA oc i=true→listed.getD i false=true) :
  ∀ {p:Nat},E[p]?=some j→∀ q i,q < p→E[q]?=some i→listed.getD i true=true:=by
 intro p hp
 have key:∀ d q i,q + d + 1=p→E[q]?=some i→listed.getD i true=true:=by
  intro d
  induction d with
  | zero =>
   intro q i hq hi
   have hp':E[q + 1]?=some j:=by rw [show q + 1=p by omega];exact hp
   obtain ⟨_,o,ho,he⟩:=XI hc hi hp'
   rw [hjc] at ho;cases ho
   exact zfw (hready i he)
  | succ d ih =>
   intro q i hq hi
   have hlt:q + 1 < E.length:=by have:=(List.getElem?_eq_some_iff.1 hp).1;omega
   have hn:=List.getElem?_eq_getElem hlt
   have h1:=ih (q + 1) _ (by omega) hn
   obtain ⟨_,o,ho,he⟩:=XI hc hi hn
   exact zfw (hcl _ o ho h1 i he)
 intro q i hq hi
 exact key (p - q - 1) q i (by omega) hi
theorem zij {E:List Nat} {listed:Array Bool} (hc:qg l E=true) (hcl:∀ (i:Nat) (o:Oper),l[i]?=some o→listed.getD i true=true→∀ j,zA o j=true→listed.getD j false=true) {j:Nat} (hun:listed.getD j true=false) :
  ∀ {p:Nat},E[p]?=some j→∀ q i,p≤q→E[q]?=some i→listed.getD i true=false:=by
 intro p hp q
 induction q with
 | zero =>
  intro i hq hi
  have:p=0:=by omega
  subst this;rw [hp] at hi;cases hi;exact hun
 | succ q ih =>
  intro i hq hi
  rcases Nat.eq_or_lt_of_le hq with e|h
  ·subst e;rw [hp] at hi;cases hi;exact hun
  ·have hlt:q < E.length:=by have:=(List.getElem?_eq_some_iff.1 hi).1;omega
   have hn:=List.getElem?_eq_getElem hlt
   have h1:=ih _ (by omega) hn
   obtain ⟨_,o,ho,he⟩:=XI hc hn hi
   cases hb:listed.getD i true with
   | false=>rfl
   | true =>
    have:=zfw (hcl i o ho hb _ he)
    rw [h1] at this;cases this
theorem zbm {F:Nat→Oper→Env→AV→Prop} (h:AD P n g H ops Q l env):Xu P n g H Hp ET ops Q F [] l env:=by
 have:=zi7 (Hp:=Hp) (ET:=ET) (E:=[]) (l2:=[]) (F:=F) (zc0 (fun env h=>zlm h) h)
 simpa using this
theorem VP {F:Nat→Oper→Env→AV→Prop} {E:List Nat} (jc:Nat) (E':List Nat) {oc:Oper} {tc:Nat} (rc:AV) (hsp:l=l.take jc++oc::l.drop (jc + 1)) (hjl:Nat.ble jc l.length=true) (hE:E=jc::E'.map fun x=>x + 1 + jc) (hd:oc.dst=some tc) (ht:Nat.blt tc n=true)
  (h:AD P n g H ops (fun env1=>(guardE ops env1 oc=some true∧F 0 oc env1 rc)∧Xu P n g H Hp ET ops Q (fun p=>F (p + 1)) E' (l.drop (jc + 1)) ((tc,rc)::env1)) (l.take jc) env):Xu P n g H Hp ET ops Q F E l env:=by
 have h1:=zc0 (fun env1 h=>zkq hd (Nat.le_of_ble_eq_true ht) h.1.1 h.1.2 h.2) h
 have h2:=zi7 h1
 have hl:(l.take jc).length=jc:=by have:=Nat.le_of_ble_eq_true hjl;simp;omega
 rw [hl,←hsp] at h2
 rw [hE]
 simpa [Function.comp_def] using h2
theorem zbe {F:Nat→Oper→Env→AV→Prop} {E:List Nat} (E':List Nat) {oc:Oper} (rc:AV) (hl:l=oc::l.tail) (hE:E=0::E'.map fun x=>x + 1) (hd:oc.dst=none)
  (h:(guardE ops env oc=some true∧F 0 oc env rc)∧Xu P n g H Hp ET ops Q (fun p=>F (p + 1)) E' l.tail env):Xu P n g H Hp ET ops Q F E l env:=by
 have:=zj6 hd h.1.1 h.1.2 h.2
 rw [←hl] at this
 rw [hE];exact this
end
section
variable {P:Program} {f:FuncId} {args:List AV} {r:AV} {qs:List Nat}
theorem zds (Hc Hc' R:HEnv) (ps:List Nat) (hchk:qY Hc Hc' R ps args [] r=true) (hc:∀ us,ACallM P f args (Hc++zu us ps) r (Hc'++zu us ps)) (hq:∀ i∈qs,(HEnv.get (R++YP ps) i).isSome=true) :
  ACallE P f args (Hc++R) (fun _:Value=>r) (fun _=>Hc'++R) qs :=
 ⟨(hc fun _=>.nilFunc).stands,fun _ _ _ _ _ hf hv=>(zbW Hc Hc' R ps (fun e=>by cases e) (fun _ _ h=>h) hchk hc hf hv).mono fun _ _ ⟨v,K',ρ2,e1,f2,hr,_,hk⟩=>⟨v,K',ρ2,.nilFunc,e1,f2,hr,fun i hi=>(hk i (hq i hi)).2⟩⟩
theorem zhF {ι:Type} {r:ι→AV} {H:HEnv} {H':ι→HEnv} {Hq:(Nat→Value)→HEnv} {Hq':(Nat→Value)→ι→HEnv} (h:∀ us,ACallU P f args (Hq us) r (Hq' us))
  (h1:∀ us i x,(Hq us).get i=some x→H.get i=some x∨∃ p∈qs,x=.pin (.own p) (us p)) (h2:∀ us j,(H.get j).isSome=true→((Hq us).get j).isSome=true) (h3:∀ p∈qs,(H.get p).isSome=true)
  (h4:∀ us u i x,(H' u).get i=some x→(Hq' us u).get i=some x) (h5:∀ u,hIn (H' u) (H' u)=true) (h6:∀ us u,∀ p∈qs,∃ j,(Hq' us u).get j=some (.pin (.own p) (us p))) (h7:∀ u,yE (H' u) (r u)=true):ACallE P f args H r H' qs:=by
 refine ⟨(h fun _=>.nilFunc).stands,fun g K ρ w vs hf hv=>?_⟩
 have hlat:Later K K w w:=.refl K w
 have hk:∀ j,(HEnv.get H j).isSome=true→(HEnv.get (Hq ρ) j).isSome=true∧ρ j=ρ j:=fun j hj=>⟨h2 ρ j hj,rfl⟩
 have hlv:∀ i x,(Hq ρ).get i=some x→x.live=true→H.get i=some x:=fun i x hx hl=>by
  rcases h1 ρ i x hx with q|⟨p,_,rfl⟩
  ·exact q
  ·cases hl
 have hf2:FS g K ρ (Hq ρ) w:=by
  refine ⟨hf.below,hf.old,hf.new,hf.lt,hf.others,hf.pt,fun i x b hi hl hb=>hf.away i x b (hlv i x hi hl) hl hb,fun i x hi=>?_,fun i j x y b hij hi hj lx ly bx bj=>hf.heap.apart i j x y b hij (hlv i x hi lx) (hlv j y hj ly) lx ly bx bj⟩
  rcases h1 ρ i x hi with q|⟨p,hp,rfl⟩
  ·have hok:=hf.heap.ok i x q
   cases x with
   | cell v=>obtain ⟨b,t,arr,u,q1,q2,q3,q4,q5,q6⟩:=hok;exact ⟨b,t,arr,u,q1,q2,q3,q4.keeps hlat hk,q5,q6⟩
   | pin v u=>exact ARel.keeps hlat hk hok
   | row t sz es=>exact hok
   | mrow t sz es=>exact hok
   | dead=>exact hok
   | obj X=>exact hok
  ·exact .own p (h2 ρ p (h3 p hp))
 refine ((h ρ).calls g K ρ w vs (fun e=>by cases e) hf2 ⟨hv.1,fun k c v hc hv2=>(hv.2 k c v hc hv2).keeps hlat hk⟩).mono fun e w' ⟨v,K',ρ',u,e1,hf',hv'⟩=>?_
 refine ⟨v,K',ρ',u,e1,hf'.narrow (e:=[]) ⟨h4 ρ u,by simp only [Zz,Bool.true_and];exact h5 u⟩,ARel.refs hv' (h7 u),fun p hp=>?_⟩
 obtain ⟨j,hj⟩:=h6 ρ u p hp
 have this:ARel K' w' ρ' (Hq' ρ u) (.own p) (ρ p):=hf'.heap.ok j _ hj
 generalize hu:ρ p=z at this
 cases this with
 | own _ _=>rfl
end
end Go.Cg
