/- A part of the walks by abstract values: no statement of its own. -/
import Derived.Test.YtdngpcmllgnbjaaGreatE7
import Derived.Test.YtdngpcmllgnbjaaGreatE5
import Derived.Test.YtdngpcmllgnbjaaGreatE9
import Derived.Test.YtdngpcmllgnbjaaGreatE10
import Derived.Test.YtdngpcmllgnbjaaGreatE6
import Derived.Shelf.Abstract
import Derived.OwnWalkIn
import Derived.TacticsInMore
import Derived.LoopNIn
import Derived.LoopIn
import Derived.Test.YtdngpcmllgnbjaaGreatE20
set_option linter.unusedVariables false
set_option linter.unusedSimpArgs false
namespace Go.Cg
open Go.RowKit
section
variable {P:Program} {tb:Tab} {n:Nat} {g:Base} {K K':KK} {w w':World} {ρ ρ':Nat→Value} {H H':HEnv} {env:Env} {a:Act} {ops:List Oper} {o:Oper} {rest:List Oper} {Q:Env→HEnv→Prop} {f:FuncId} {args:List AV} {r:AV}
theorem zqp {d:Tmp} {ars:List AV} (Hc Hc' R:HEnv) (env2:Env) {lone:Bool} (ps:List Nat) (hw1:lone=true→g.w1.heap.size=0) (hg:guardE ops env o=some true)
  (henter:∀ (K:KK) (ρ:Nat→Value) (a:Act) (w:World),FS g K ρ H w→EnvR K w ρ H env a.tmps→Vr P f→∃ vs:List Value,(execOp a.eval o).run P w=.ok (.enter f vs.toArray) w∧ZQ K w ρ H ars vs) (hsub:HSub H (Hc++R)) (hs:Sub env env2) (hd:o.dst=some d) (hdt:Nat.blt d n=true)
  (hchk:Yv Hc Hc' R ps ars env2 r=true) (hc:∀ us,ACallM P f ars (Hc++zJ us ps) r (Hc'++zJ us ps) lone)
  (h:AO P n g ops.toArray rest ((d,r)::env2) (Hc'++R) Q):AO P n g ops.toArray (o::rest) env H Q:=by
 simp only [Yv,Bool.and_eq_true] at hchk
 obtain ⟨⟨⟨⟨⟨⟨⟨⟨⟨⟨d1,d2⟩,d3⟩,d4⟩,i1⟩,i2⟩,i3⟩,i4⟩,i5⟩,i6⟩,i7⟩:=hchk
 have i7':∀ i∈ps,(Hc.get i).isSome=true∧(Hc'.get i).isSome=true:=fun i hi=>by simpa using List.all_eq_true.1 i7 i hi
 refine ⟨fun a w hinv=>?_⟩
 have hw:=yB hinv hg
 obtain ⟨h1,h2,K,ρ,hf,he⟩:=hinv
 refine wpList_step fun KK hKK=>?_
 rw [if_pos hw]
 have hlatR:Later K K w w:=.refl K w
 have gC:∀ i x,Hc.get i=some x→H.get i=some x:=fun i x hx=>hsub i x (by rw [get_append,hx])
 have gR:∀ i x,R.get i=some x→H.get i=some x:=fun i x hx=>hsub i x (by
  rw [get_append]
  cases hh:Hc.get i with
  | none=>exact hx
  | some y=>rw [Zc d1 i y hh] at hx;cases hx)
 have nC:∀ i x,R.get i=some x→Hc.get i=none:=fun i x hx=>by
  cases hh:Hc.get i with
  | none=>rfl
  | some y=>rw [Zc d1 i y hh] at hx;cases hx
 have nC':∀ i x,R.get i=some x→Hc'.get i=none:=fun i x hx=>by
  cases hh:Hc'.get i with
  | none=>rfl
  | some y=>rw [Zc d2 i y hh] at hx;cases hx
 have hpinC:∀ {A:HEnv} {us:Nat→Value} {i:Nat} {x:HE},HEnv.get (A++zJ us ps) i=some x→x.live=true→A.get i=some x:=by
  intro A us i x hx hl
  rw [get_append] at hx
  cases hh:A.get i with
  | some z=>rw [hh] at hx;exact hx
  | none =>
   rw [hh] at hx
   obtain ⟨_,_,rfl⟩:=Yz hx
   simp [HE.live] at hl
 obtain ⟨g',hg'⟩:∃ g':Base,g'=⟨g.w0,K,g.w1,g.ds,w,fun b=>g.pr b∨∃ i x,R.get i=some x∧x.live=true∧zA (ρ i)=some b⟩:=⟨_,rfl⟩
 have hfs:FS g' K ρ (Hc++zJ ρ ps) w:=by
  subst hg'
  refine ⟨hf.below,fun _ _ h=>h,fun _ _ h=>.inl h,hf.lt,hf.others,⟨?_,fun _ _ _=>rfl⟩,?_,?_,?_⟩
  ·rintro b (hb|⟨i,x,hi,hl,hb⟩)
   ·exact ⟨(hf.pt.same b hb).1,rfl,fun _=>Iff.rfl⟩
   ·exact ⟨((hf.heap.ok i x (gR i x hi)).block_lt hl hb).2,rfl,fun _=>Iff.rfl⟩
  ·intro i x b hi hl hb
   have hC:=hpinC hi hl
   rintro (hp|⟨j,y,hj,hly,hbj⟩)
   ·exact hf.away i x b (gC i x hC) hl hb hp
   ·have hne:i≠j:=by rintro rfl;rw [nC i y hj] at hC;cases hC
    exact hf.heap.apart i j x y b hne (gC i x hC) (gR j y hj) hl hly hb hbj
  ·intro i x hi
   rw [get_append] at hi
   cases hh:Hc.get i with
   | some y =>
    rw [hh] at hi;simp only [Option.some.injEq] at hi;subst hi
    have hok:=hf.heap.ok i y (gC i y hh)
    have hk:∀ j,(HEnv.get Hc j).isSome=true→(HEnv.get (Hc++zJ ρ ps) j).isSome=true∧ρ j=ρ j:=fun j hj=>⟨zH j hj,rfl⟩
    cases y with
    | cell v=>obtain ⟨b,t,arr,u,q1,q2,q3,q4,q5,q6⟩:=hok;exact ⟨b,t,arr,u,q1,q2,q3,(q4.refs (Zw i2 i v hh)).keeps hlatR hk,q5,q6⟩
    | pin v u=>exact (ARel.refs hok (qP i2 i v u hh)).keeps hlatR hk
    | row t sz es=>exact hok
    | mrow t sz es=>exact hok
    | dead=>exact hok
    | obj X=>exact hok
   | none =>
    rw [hh] at hi
    obtain ⟨q1,q2,rfl⟩:=Yz hi
    exact .own _ (zH _ (i7' _ q2).1)
  ·intro i j x y b hij hi hj lx ly bx bj
   exact hf.heap.apart i j x y b hij (gC i x (hpinC hi lx)) (gC j y (hpinC hj ly)) lx ly bx bj
 obtain ⟨vals,hrun,hpa⟩:=henter K ρ a w hf he (hc ρ).stands
 have hall:ZQ K w ρ (Hc++zJ ρ ps) ars vals :=
  ⟨hpa.1,fun k c v hc hv=>((hpa.2 k c v hc hv).refs (qM i1 k c hc)).keeps hlatR fun j hj=>⟨zH j hj,rfl⟩⟩
 unfold Oper.wp
 rw [hrun]
 simp only [Oper.upon]
 refine ((hc ρ).calls g' K ρ w _ (by subst hg';exact hw1) hfs hall).mono fun e w' ⟨v,K',ρ',e1,hf',hv⟩=>?_
 subst e1
 have hlat:Later K K' w w':=by subst hg';exact ⟨hf'.old,hf'.pt.kept⟩
 have hprot:∀ b,(g.pr b∨∃ i x,R.get i=some x∧x.live=true∧zA (ρ i)=some b)→b < w'.heap.size∧w'.heap[b]?=w.heap[b]?∧∀ o,K' b o↔K b o:=by subst hg';exact hf'.pt.same
 have haway:∀ i x b,Hc'.get i=some x→x.live=true→zA (ρ' i)=some b→¬ (g.pr b∨∃ i x,R.get i=some x∧x.live=true∧zA (ρ i)=some b):=by
  subst hg';exact fun i x b hi=>hf'.away i x b (by rw [get_append,hi])
 obtain ⟨ρ2,hρ2⟩:∃ ρ2:Nat→Value,∀ j,ρ2 j=if (Hc'.get j).isSome then ρ' j else ρ j:=⟨_,fun _=>rfl⟩
 have r1:∀ j,(Hc'.get j).isSome=true→ρ2 j=ρ' j:=fun j hj=>by rw [hρ2,if_pos hj]
 have r2:∀ j,Hc'.get j=none→ρ2 j=ρ j:=fun j hj=>by rw [hρ2,hj];rfl
 have hkC:∀ j,(HEnv.get Hc' j).isSome=true→(HEnv.get (Hc'++R) j).isSome=true∧ρ2 j=ρ' j:=fun j hj=>⟨zH j hj,r1 j hj⟩
 have hps:∀ i∈ps,ρ' i=ρ i:=fun i hi=>by
  have hnone:Hc'.get (1000 + i)=none:=by
   cases hh:Hc'.get (1000 + i) with
   | none=>rfl
   | some x=>have:=YV d4 _ x hh;omega
  have:=hf'.heap.ok (1000 + i) _ (by rw [get_append,hnone];exact zaF hi)
  have this:ARel K' w' ρ' (Hc'++zJ ρ ps) (.own i) (ρ i):=this
  generalize hu:ρ i=u at this
  cases this with
  | own _ _=>rfl
 have hkR:∀ j,(HEnv.get (R++Xk ps) j).isSome=true→(HEnv.get (Hc'++R) j).isSome=true∧ρ2 j=ρ j:=fun j hj=>by
  rw [get_append] at hj
  cases hh:R.get j with
  | some x =>
   have hn:=nC' j x hh
   exact ⟨by rw [get_append,hn,hh];rfl,r2 j hn⟩
  | none =>
   rw [hh] at hj
   have hm:=zaG hj
   have hs':=(i7' j hm).2
   exact ⟨zH j hs',by rw [r1 j hs',hps j hm]⟩
 have hfs2:FS g K' ρ2 (Hc'++R) w':=by
  have b1:Below g.w0.heap.size g.w0 w':=by subst hg';exact hf'.below
  have b3:∀ b o,K' b o→K b o∨g.w0.heap.size≤b:=by subst hg';exact hf'.new
  have b5:KeepsOthers g.w1 w':=by subst hg';exact hf'.others
  have bB:HRel K' w' g.w0.heap.size ρ' (Hc'++zJ ρ ps):=by subst hg';exact hf'.heap
  refine ⟨b1,fun b o h=>hlat.sub b o (hf.old b o h),fun b o hk=>(b3 b o hk).elim (hf.new b o) .inr,hf'.lt,b5,⟨fun b hb=>?_,fun b o h0=>(hlat.cell b o (hf.old b o h0)).trans (hf.pt.kept b o h0)⟩,fun i x b hi hl hb=>?_,fun i x hi=>?_,fun i j x y b hij hi hj lx ly bx bj=>?_⟩
  ·obtain ⟨p1,p2,p3⟩:=hprot b (.inl hb)
   obtain ⟨q1,q2,q3⟩:=hf.pt.same b hb
   exact ⟨p1,p2.trans q2,fun o=>(p3 o).trans (q3 o)⟩
  ·rw [get_append] at hi
   cases hh:Hc'.get i with
   | some y =>
    rw [hh] at hi;simp only [Option.some.injEq] at hi;subst hi
    rw [r1 i (by rw [hh];rfl)] at hb
    exact fun hp=>haway i y b hh hl hb (.inl hp)
   | none =>
    rw [hh] at hi
    rw [r2 i hh] at hb
    exact hf.away i x b (gR i x hi) hl hb
  ·rw [get_append] at hi
   cases hh:Hc'.get i with
   | some y =>
    rw [hh] at hi;simp only [Option.some.injEq] at hi;subst hi
    rw [r1 i (by rw [hh];rfl)]
    have hok:=bB.ok i y (by rw [get_append,hh])
    have hl':=Later.refl K' w'
    cases y with
    | cell v=>obtain ⟨b,t,arr,u,q1,q2,q3,q4,q5,q6⟩:=hok;exact ⟨b,t,arr,u,q1,q2,q3,(q4.refs (Zw i3 i v hh)).keeps hl' hkC,q5,q6⟩
    | pin v u=>exact (ARel.refs hok (qP i3 i v u hh)).keeps hl' hkC
    | row t sz es=>exact hok
    | mrow t sz es=>exact hok
    | dead=>exact hok
    | obj X=>exact hok
   | none =>
    rw [hh] at hi
    rw [r2 i hh]
    have hok:=hf.heap.ok i x (gR i x hi)
    have hsame:x.live=true→∀ b,zA (ρ i)=some b→w'.heap[b]?=w.heap[b]?∧∀ o,K' b o↔K b o:=fun hl b hb=>(hprot b (.inr ⟨i,x,hi,hl,hb⟩)).2
    cases x with
    | cell v =>
     obtain ⟨b,t,arr,u,q1,q2,q3,q4,q5,q6⟩:=hok
     obtain ⟨s1,s2⟩:=hsame rfl b (by rw [q1];rfl)
     exact ⟨b,t,arr,u,q1,q2,by rw [s1];exact q3,(q4.refs (Zw i5 i v hi)).keeps hlat hkR,q5,fun o hk=>q6 o ((s2 o).1 hk)⟩
    | pin v u=>exact (ARel.refs hok (qP i5 i v u hi)).keeps hlat hkR
    | row t sz es =>
     obtain ⟨xs,q1,q2,q3,q4⟩:=hok
     refine ⟨xs,qL q1 fun b hb=>(hsame rfl b hb).1,q2,fun k e he=>?_,fun b hb o=>?_⟩
     ·obtain ⟨c1,c2⟩:=q3 k e he
      exact ⟨c1,fun k c hc=>let ⟨v,h4,h5,h6⟩:=c2 k c hc;⟨v,h4,h5,h6.later hlat⟩⟩
     ·rw [(hsame rfl b ((Zy q1 b).2 hb)).2 o];exact q4 b hb o
    | mrow t sz es =>
     obtain ⟨xs,q1,q2,q3,q4⟩:=hok
     refine ⟨xs,qL q1 fun b hb=>(hsame rfl b hb).1,q2,fun k e he=>?_,fun b hb o hk=>?_⟩
     ·obtain ⟨c1,c2⟩:=q3 k e he
      exact ⟨c1,fun k c hc=>let ⟨v,h4,h5,h6⟩:=c2 k c hc;⟨v,h4,h5,h6.later hlat⟩⟩
     ·exact q4 b hb o (((hsame rfl b ((Zy q1 b).2 hb)).2 o).1 hk)
    | dead=>trivial
    | obj X =>
     obtain ⟨b,ob,q1,q2,q3,q4,q5⟩:=hok
     obtain ⟨s1,s2⟩:=hsame rfl b (by rw [q1];rfl)
     exact ⟨b,ob,q1,q2,by rw [s1];exact q3,q4,fun o hk=>q5 o ((s2 o).1 hk)⟩
  ·rw [get_append] at hi hj
   cases hhi:Hc'.get i with
   | some x' =>
    rw [hhi] at hi;simp only [Option.some.injEq] at hi;subst hi
    rw [r1 i (by rw [hhi];rfl)] at bx
    cases hhj:Hc'.get j with
    | some y' =>
     rw [hhj] at hj;simp only [Option.some.injEq] at hj;subst hj
     rw [r1 j (by rw [hhj];rfl)] at bj
     exact bB.apart i j x' y' b hij (by rw [get_append,hhi]) (by rw [get_append,hhj]) lx ly bx bj
    | none =>
     rw [hhj] at hj;rw [r2 j hhj] at bj
     exact haway i x' b hhi lx bx (.inr ⟨j,y,hj,ly,bj⟩)
   | none =>
    rw [hhi] at hi;rw [r2 i hhi] at bx
    cases hhj:Hc'.get j with
    | some y' =>
     rw [hhj] at hj;simp only [Option.some.injEq] at hj;subst hj
     rw [r1 j (by rw [hhj];rfl)] at bj
     exact haway j y' b hhj ly bj (.inr ⟨i,x,hi,lx,bx⟩)
    | none =>
     rw [hhj] at hj;rw [r2 j hhj] at bj
     exact hf.heap.apart i j x y b hij (gR i x hi) (gR j y hj) lx ly bx bj
 have he2:EnvR K' w' ρ2 (Hc'++R) env2 a.tmps:=fun t av ht=>by
  obtain ⟨u,u1,u2⟩:=he t av (hs t av ht)
  exact ⟨u,u1,(u2.refs (WU i6 t av ht)).keeps hlat hkR⟩
 refine hKK _ _ (h.go _ _ ⟨yT h1,put_defers h2,K',ρ2,hfs2,?_⟩)
 rw [hd]
 exact qW h1 hdt he2 ((hv.refs i4).keeps (Later.refl K' w') hkC)
theorem zii {t:Tmp} {xs:Array Operand} {ts:Array TypeId} {d:Tmp} {first cap ars:List AV} (Hc Hc' R:HEnv) (env2:Env) {lone:Bool} (ps:List Nat) (hw1:lone=true→g.w1.heap.size=0) (hg:guardE ops env o=some true)
  (hop:o.op=.call { callee:=.value (.tmp t),args:=xs,argTypes:=ts }) (ht:env.get t=some (.fn (.func f) first cap)) (hargs:avs env xs.toList=some ars) (hsub:HSub H (Hc++R)) (hs:Sub env env2) (hd:o.dst=some d) (hdt:Nat.blt d n=true)
  (hchk:Yv Hc Hc' R ps (first++ars++cap) env2 r=true) (hc:∀ us,ACallM P f (first++ars++cap) (Hc++zJ us ps) r (Hc'++zJ us ps) lone)
  (h:AO P n g ops.toArray rest ((d,r)::env2) (Hc'++R) Q):AO P n g ops.toArray (o::rest) env H Q :=
 zqp Hc Hc' R env2 ps hw1 hg (fun K ρ a w hf he hst=>by
  have hfn:=yL he (x:=.tmp t) ht
  generalize hfv:a.eval (.tmp t)=fv at hfn
  have hpa:=VG (a:=a) he hargs
  cases hfn with
  | fn _ _ _ vf vc f1 f2 f3 f4 =>
   refine ⟨vf++xs.toList.map a.eval++vc,?_,by have:=hpa.1;simp at this;simp [f1,f2,this],fun k c v hc hv=>?_⟩
   ·have e:(vf++xs.toList.map a.eval++vc).toArray=vf.toArray++xs.map a.eval++vc.toArray:=by
     rw [show xs.map a.eval=(xs.toList.map a.eval).toArray by rw [←Array.toList_map,Array.toArray_toList]]
     simp
    rw [e]
    simp [execOp,hop,resolve,hfv,Deferred.ofValue,invoke,yX hst]
   ·rw [List.append_assoc,List.getElem?_append] at hc hv
    split at hc
    ·rename_i hl
     rw [if_pos (by omega)] at hv
     exact f3 k c v hc hv
    ·rename_i hl
     rw [if_neg (by omega),f1] at hv
     rw [List.getElem?_append] at hc hv
     have e:(xs.toList.map a.eval).length=ars.length:=hpa.1
     split at hc
     ·rename_i hl2
      rw [if_pos (by omega)] at hv
      exact hpa.2 _ c v hc hv
     ·rename_i hl2
      rw [if_neg (by omega),e] at hv
      exact f4 _ c v hc hv) hsub hs hd hdt hchk hc h
def isReady (ops:List Oper) (listed:List Bool) (j:Nat):Bool:=match ops[j]?,listed[j]? with
 | some o,some false=>o.after.toList.all fun e=>!Region.binds .any e||(listed[e.on]?).getD false
 | _,_=>false
structure AT (P:Program) (n:Nat) (g:Base) (ops:List Oper) (listed:List Bool) (env:Env) (H:HEnv) (QQ:QC):Prop where
 go:∀ (fuel:Nat) a w,Inv n g env H a w→fuel=(listed.filter (! ·)).length→listed.length=ops.length→wpAny P .any ops.toArray (fun e a' w'=>e=.normal∧∃ env' H',Inv n g env' H' a' w'∧QQ .normal env' H') fuel listed.toArray a w
structure ATs (P:Program) (n:Nat) (g:Base) (ops:List Oper) (listed:List Bool) (env:Env) (H:HEnv) (QQ:QC) (j:Nat):Prop where
 go:∀ m,j≤m→isReady ops listed m=true→∃ o,ops[m]?=some o∧AO P n g ops.toArray [o] env H (fun env' H'=>AT P n g ops (listed.set m true) env' H' QQ)
variable {listed:List Bool} {QQ:QC}
theorem ziM {m:Nat}:m∈Region.ready .any ops.toArray listed.toArray→isReady ops listed m=true:=by
 rw [yh]
 rintro ⟨o,ho,hun,hall⟩
 have hl:listed[m]?=some false:=by
  simp only [Array.getD_eq_getD_getElem?,List.getElem?_toArray] at hun
  cases h:listed[m]? with
  | none=>rw [h] at hun;cases hun
  | some b=>rw [h] at hun;simp at hun;rw [hun]
 simp only [isReady,ho,hl]
 rw [List.all_eq_true]
 intro e he
 cases hb:Region.binds .any e
 ·rfl
 ·have:=hall e.on (List.any_eq_true.2 ⟨e,he,by simp [hb]⟩)
  simp only [Array.getD_eq_getD_getElem?,List.getElem?_toArray] at this
  simpa using this
theorem at_end {j:Nat} (h:ops.length=j):ATs P n g ops listed env H QQ j:=⟨fun m hm hr=>by
 simp only [isReady,List.getElem?_eq_none (show ops.length≤m by omega)] at hr;cases hr⟩
theorem zpn {j:Nat} (h:isReady ops listed j=false) (k:ATs P n g ops listed env H QQ (j + 1)):ATs P n g ops listed env H QQ j:=⟨fun m hm hr=>by
 rcases Nat.eq_or_lt_of_le hm with rfl|hm
 ·rw [h] at hr;cases hr
 ·exact k.go m hm hr⟩
theorem zo3 {j:Nat} {o:Oper} (ho:ops[j]?=some o) (h:AO P n g ops.toArray [o] env H (fun env' H'=>AT P n g ops (listed.set j true) env' H' QQ)) (k:ATs P n g ops listed env H QQ (j + 1)):ATs P n g ops listed env H QQ j:=⟨fun m hm hr=>by
 rcases Nat.eq_or_lt_of_le hm with rfl|hm
 ·exact ⟨o,ho,h⟩
 ·exact k.go m hm hr⟩
theorem zrX (h:listed.all id=true) (hq:QQ .normal env H):AT P n g ops listed env H QQ:=⟨fun fuel a w hi hf hl=>by
 have h0:(listed.filter (! ·))=[]:=by
  rw [List.filter_eq_nil_iff]
  intro b hb
  have:=List.all_eq_true.1 h b hb
  simpa using this
 rw [h0] at hf
 subst hf
 refine ⟨?_,rfl,env,H,hi,hq⟩
 rw [List.eq_nil_iff_forall_not_mem]
 intro j hj
 obtain ⟨o,ho,hun,_⟩:=yh.1 hj
 have hlt:j < listed.length:=by rw [hl];exact (List.getElem?_eq_some_iff.1 ho).1
 have:=List.all_eq_true.1 h listed[j] (List.getElem_mem hlt)
 simp only [Array.getD_eq_getD_getElem?,List.getElem?_toArray,List.getElem?_eq_getElem hlt,Option.getD_some] at hun
 rw [hun] at this;cases this⟩
theorem zuz (hE:zaz ops=true) (hn:listed.any (! ·)=true) (h:ATs P n g ops listed env H QQ 0):AT P n g ops listed env H QQ:=⟨fun fuel a w hi hf hl=>by
 obtain ⟨b,hb,hb2⟩:=List.any_eq_true.1 hn
 cases fuel with
 | zero =>
  have:=List.filter_eq_nil_iff.1 (List.eq_nil_of_length_eq_zero hf.symm) b hb
  exact absurd hb2 this
 | succ fuel =>
  refine ⟨fun h0=>?_,fun j hj=>?_⟩
  ·have hall:=ready_nil hE (by simpa using hl) h0
   obtain ⟨j,hj⟩:=List.getElem?_of_mem hb
   have hlt:=(List.getElem?_eq_some_iff.1 hj).1
   have:=hall j (by omega)
   simp only [Array.getD_eq_getD_getElem?,List.getElem?_toArray,hj,Option.getD_some] at this
   subst this;cases hb2
  ·obtain ⟨o,ho,hao⟩:=h.go j (Nat.zero_le _) (ziM hj)
   obtain ⟨_,_,hun,_⟩:=yh.1 hj
   have hlt:j < listed.length:=by rw [hl];exact (List.getElem?_eq_some_iff.1 ho).1
   have hcount:fuel=((listed.set j true).filter (! ·)).length:=by
    have h1:=zh5 (listed:=listed.toArray) (j:=j) (fuel:=fuel) (by simpa using hlt) hun (by simpa using hf.symm)
    simpa using h1.symm
   have hw:=hao.go a w hi
   have hnext:∀ a2 w2,(∃ env' H',Inv n g env' H' a2 w2∧Exit.normal=.normal∧AT P n g ops (listed.set j true) env' H' QQ)→wpAny P .any ops.toArray (fun e a' w'=>e=.normal∧∃ env' H',Inv n g env' H' a' w'∧QQ .normal env' H') fuel (listed.toArray.setIfInBounds j true) a2 w2:=by
    rintro a2 w2 ⟨env',H',hi',_,hat⟩
    have:=hat.go fuel a2 w2 hi' hcount (by simpa using hl)
    simpa using this
   unfold wpOp
   simp only [List.getElem?_toArray,ho]
   unfold wpList at hw
   split at hw
   ·rename_i hwt
    rw [if_pos hwt]
    rcases hw with hw|hw
    ·refine .inl ?_
     unfold Oper.wp at hw ⊢
     generalize (execOp a.eval o).run P w=res at hw
     cases res with
     | halt x w'=>cases x <;> simp only [Oper.upon] at hw <;> (obtain ⟨_,_,_,he,_⟩:=hw;cases he)
     | ok nx w' =>
      cases nx <;> simp only [Oper.upon] at hw ⊢
      case value v=>exact hnext _ _ hw
      case skip=>exact hnext _ _ hw
      case defer d=>exact hnext _ _ hw
      case enter f args=>exact Calls.mono hw (fun e w'' he=>by
       cases e with
       | returned v=>exact hnext _ _ he
       | panicked ch=>obtain ⟨_,_,_,he,_⟩:=he;cases he
       | outgrown=>obtain ⟨_,_,_,_,_,he,_⟩:=he;cases he)
      case row f args=>exact Rows.mono hw (fun v _ he=>hnext _ _ he)
    ·obtain ⟨_,_,_,_,_,_,he,_⟩:=hw;cases he
   ·rename_i hwt
    rw [if_neg hwt]
    exact hnext _ _ hw⟩
theorem zfY {id:Nat} (hm:P.follows .mixedOrders=true) (h:AT P n g ops (ops.map fun _=>false) env H QQ) (hnd:qo ops=true:=by kernel_rfl):AW P n g (.region id ops.toArray true) env H QQ:=by
 refine ⟨fun a w hi rr dd=>?_⟩
 refine wpIn_mono (VQ (R:=fun a' w'=>∃ env' H',Inv n g env' H' a' w'∧QQ .normal env' H') hnd hm ?_) (fun e a' w' h=>by obtain ⟨rfl,h⟩:=h;exact h)
 obtain ⟨h1,h2,K,ρ,hf,he⟩:=hi
 have hev:Evo K K w { w with drawn:=w.drawn + 1 }:=(Evo.refl hf.lt).drew
 have hi2:Inv n g env H a { w with drawn:=w.drawn + 1 }:=⟨h1,h2,K,ρ,hf.evo hev,fun t av ht=>let ⟨v,v1,v2⟩:=he t av ht;⟨v,v1,v2.later (hev.later hf.lt)⟩⟩
 have hg:=h.go ops.length a _ hi2 ((show ∀ l:List Oper,l.length=((l.map fun _=>false).filter (! ·)).length from fun l=>by induction l with|nil=>rfl|cons x l ih=>simp only [List.map_cons,List.filter_cons,Bool.not_false,if_true,List.length_cons];omega) ops) (by simp)
 have e1:(ops.map fun _=>false).toArray=Array.replicate ops.toArray.size false:=by
  apply Array.ext
  ·simp
  ·intro i h1 h2;simp
 rw [e1] at hg
 simpa using hg
end
end Go.Cg
set_option linter.unusedVariables false
set_option linter.unusedSimpArgs false
namespace Go.Cg
open Go.Proofs Go.RowKit Go.Shelf
set_option maxHeartbeats 20000000
attribute [local go_sem] Oper.semAt_some
def Wv (l:List Int) (r:Nat):List (Int × Int):=(List.range (l.length - r)).map fun k=>(((l.length - 1 - k:Nat):Int),l.getD (l.length - 1 - k) 0)
theorem zoe (l:List Int):Wv l l.length=[]:=by simp [Wv]
theorem zci (l:List Int) (r:Nat):(Wv l r).length=l.length - r:=by simp [Wv]
theorem znr {l:List Int} {m:Nat} (h:m < l.length):Wv l m=Wv l (m + 1)++[((m:Int),l.getD m 0)]:=by
 rw [Wv,Wv,show l.length - m=(l.length - (m + 1)) + 1 by omega,List.range_succ,List.map_append,List.map_singleton]
 rw [show l.length - 1 - (l.length - (m + 1))=m by omega]
def zkC (W:World) (v:Value) (l:List Int):Prop :=
 ∃ (Bs o:Nat) (sv:Value),v=.pointer (some ⟨Bs,o,none⟩)∧W.cell? ⟨Bs,o,none⟩=some sv ∧
  ((l=[]∧∃ p,sv=.slice p 0 0)∨∃ b off cap,sv=.slice (some ⟨b,off,none⟩) l.length cap∧∀ j,j < l.length→W.cell? ⟨b,off + j,none⟩=some (.int .i64 (l.getD j 0)))
theorem zdw {K:Cg.KK} {W:World} {l:List Int} {vc:List Value} (h:PRels K W [.ptr (ints l) 0] vc):∃ v,vc=[v]∧zkC W v l:=by
 obtain ⟨v,vs,rfl,r,h2⟩:=h.cons_inv
 obtain rfl:=h2.nil_inv
 refine ⟨v,rfl,?_⟩
 cases r with
 | ptr _ _ b o vs hl hr hc =>
  cases vs with
  | nil=>simp [PV.cells,ints] at hl
  | cons sv vs' =>
   have h0:=hr 0 sv rfl
   have hp:=hc 0 (ints l) sv rfl rfl
   refine ⟨b,o,sv,by simp,by simpa using h0.2.1,?_⟩
   generalize hls:ints l=p at hp
   cases hp with
   | nil sz full =>
    simp [ints] at hls
    exact .inl ⟨hls.2.1,none,rfl⟩
   | emp sz full a =>
    simp [ints] at hls
    exact .inl ⟨hls.2.1,some a,rfl⟩
   | slc sz es full b2 o2 cap vss q0 q1 q2 q3 q4 q5 q6 =>
    simp only [ints,PV.slc.injEq] at hls
    obtain ⟨rfl,rfl,_⟩:=hls
    refine .inr ⟨b2,o2,cap,by simp,fun j hj=>?_⟩
    have he:(l.map pi)[j]?=some (pi l[j]):=by simp [hj]
    obtain ⟨_,e2,e3⟩:=q5 j _ he
    have hlt:0 < (vss j).length:=by omega
    have hv:=q6 j _ 0 _ (vss j)[0] he rfl (List.getElem?_eq_getElem hlt)
    have hcell:=(e3 0 _ (List.getElem?_eq_getElem hlt)).2.1
    generalize (vss j)[0]=y at hv hcell
    cases hv
    rw [List.getD_eq_getElem?_getD,List.getElem?_eq_getElem hj,Option.getD_some]
    simpa using hcell
   | _=>simp [ints] at hls
set_option maxRecDepth 100000 in
theorem zrF (n:Nat) (rn:Nat) (v:Value) (l:List Int) (hreach:l.length≤1000) (J Jx:List (Int × Int)→World→Prop)
  (hY:∀ pre x W,J pre W→pre.length < l.length→YieldAt Fence.wide (n - 1) Tryz.prog rn #[.int .i64 x.1,.int .i64 x.2] W fun e W' =>
   (e=.returned (.bool true)∧J (pre++[x]) W'∧((∃ K,PRels K W [.ptr (ints l) 0] [v])→∃ K,PRels K W' [.ptr (ints l) 0] [v]))∨(e=.returned (.bool false)∧Jx (pre++[x]) W'))
  (W:World) (hvP:∃ K,PRels K W [.ptr (ints l) 0] [v]) (h0:J [] W) :
  CallsIn Fence.wide n Tryz.prog 362 #[.func (.yield rn) #[] #[],v] W fun e W'=>(∃ u,e=.returned u) ∧
   ((∃ ys,ys=Wv l 0∧J ys W')∨(∃ pre,Jx pre W')):=by
 obtain ⟨Bs,o,sv,rfl,hBs,hsv⟩:zkC W v l:=by
  obtain ⟨K,hp⟩:=hvP
  obtain ⟨v2,e,hv2⟩:=zdw hp
  simp only [List.cons.injEq,and_true] at e;subst e;exact hv2
 obtain ⟨p,cap,hsve⟩:∃ p cap,sv=.slice p l.length cap:=by
  rcases hsv with ⟨rfl,p,rfl⟩|⟨b,off,cap,rfl,_⟩
  ·exact ⟨p,0,rfl⟩
  ·exact ⟨_,cap,rfl⟩
 subst hsve
 refine callsIn_of_wp Tryz.func362 rfl trivial ?_ rfl
 simp only [Tryz.ntmps362,List.size_toArray,List.length_cons,List.length_nil,Nat.reduceAdd,Nat.reduceSub,Array.replicate_succ,Array.replicate_zero,List.push_toArray,List.append_toArray,List.nil_append,List.cons_append]
 gi_wp2
 gi_loopw [3] (fun i wr=>∃ r:Nat,r≤l.length∧i=.int .i64 ((r:Int) - 1)∧J (Wv l r) wr∧∃ K,PRels K wr [.ptr (ints l) 0] [.pointer (some ⟨Bs,o,none⟩)])
  (fun i _=>(RowKit.intOf i + 1).toNat)
 case atStart=>exact ⟨l.length,Nat.le_refl _,by first|rfl|(simp;done)|(congr 1;exact wrap_in (by omega) (by omega)),by rw [zoe];exact h0,hvP⟩
 case round =>
  obtain ⟨r,hk,rfl,hJs,hnx⟩:=hrel
  clear hsv hBs
  obtain ⟨Bs',o',sv,e1,hBs,hsv⟩:zkC wr (.pointer (some ⟨Bs,o,none⟩)) l:=by
   obtain ⟨K,hp⟩:=hnx
   obtain ⟨v2,e,hv2⟩:=zdw hp
   simp only [List.cons.injEq,and_true] at e;subst e;exact hv2
  simp only [Value.pointer.injEq,Option.some.injEq,Addr.mk.injEq,and_true] at e1
  obtain ⟨rfl,rfl⟩:=e1
  cases r with
  | zero =>
   gi_wp2
   go_end0
   exact ⟨⟨_,rfl⟩,.inl ⟨_,rfl,hJs⟩⟩
  | succ m =>
   have hm:m < l.length:=by omega
   rcases hsv with ⟨rfl,_⟩|⟨b,off,cap2,rfl,hcs⟩
   ·simp at hm
   ·have hcx:=hcs m hm
    obtain ⟨fn,tmps,assign,body,hy,hR⟩:=hY _ ((m:Int),l.getD m 0) wr hJs (by rw [zci];omega)
    dsimp only at hy
    have hgd:l.getD m 0=l[m]:=by rw [List.getD_eq_getElem?_getD,List.getElem?_eq_getElem hm,Option.getD_some]
    rw [hgd] at hy hcx
    rw [show (((m + 1:Nat):Int) - 1)=((m:Nat):Int) by omega]
    gi_wp2
    refine ⟨fun hh=>by simp [Fence.wide] at hh,hR.mono ?_⟩
    rintro e W3 (⟨rfl,hJ3,hk3⟩|⟨rfl,hJx3⟩)
    ·gi_wp2
     go_roundw
     case rel=>exact ⟨m,by omega,by first|rfl|(simp;done)|(congr 1;exact wrap_in (by omega) (by omega)),by rw [znr hm];exact hJ3,hk3 hnx⟩
     case measure=>simp [RowKit.intOf]
    ·gi_wp2
     refine bodyPost_ret (results_none rfl _ _ _) rfl ?_
     exact ⟨⟨_,rfl⟩,.inr ⟨_,hJx3⟩⟩
theorem zjv (l:List Int) (hreach:l.length≤1000):AIter Tryz.prog 362 [.ptr (ints l) 0] (fun x:Int × Int=>#[.int .i64 x.1,.int .i64 x.2]) (Wv l 0):=by
 refine ⟨⟨_,Tryz.func362,rfl,by kernel_rfl⟩,fun K w vc n hp=>?_⟩
 obtain ⟨v,rfl,_⟩:=zdw hp
 intro rn J Jx W hW hJ hJx hY h0
 have hpW:PRels K W [.ptr (ints l) 0] [v]:=hp.keepc fun x u hx=>by
  obtain ⟨o,ho,_⟩:=cells_of_cell hx
  exact (hW.cell (p:=x) (Array.getElem?_eq_some_iff.1 ho).1).trans hx
 rw [show (Wv l 0).length=l.length by rw [zci];omega] at hY
 refine (zrF n rn v l hreach J Jx hY W ⟨K,hpW⟩ h0).mono ?_
 rintro e W' ⟨h1,h2|⟨pre,h2⟩⟩
 ·exact ⟨h1,.inl h2⟩
 ·exact ⟨h1,.inr ⟨pre,trivial,h2⟩⟩
theorem zcS (l:List Int):ACall Tryz.prog 294 [ints l] (.fn (.func 362) [] [.ptr (ints l) 0]):=by
 refine zf zh Tryz.func294 rfl (by kernel_rfl) Tryz.ntmps294 (by simp) _ rfl (fun hw gB hgB=>?_)
 repeat' (first|refine sA ?_|refine sC (fun _=>?_) (fun _=>?_)|fail)
 exact retq rfl rfl
end Go.Cg
namespace Go.Cg
open Go.RowKit
section
variable {P:Program} {n:Nat} {g:Base} {H:HEnv} {env:Env} {ops:List Oper} {o:Oper} {rest:List Oper} {f:FuncId} {QQ:QC}
end
end Go.Cg
