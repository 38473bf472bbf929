/- A part of the walks by abstract values: no statement of its own. -/
import Derived.Test.YtmgdpkcmbnlklaaGreatA15
import Derived.Test.YtmgdpkcmbnlklaaGreatA31
set_option linter.unusedVariables false
set_option linter.unusedSimpArgs false
namespace Go.Cg
open Go.RowKit
section
variable {P:Program} {g:Base} {K:KK} {w:World} {ρ:Nat→Value} {H:HEnv} {f:FuncId}
theorem zkg {ι:Type} [Inhabited ι] {rs:ι→AV} {ars:List AV} {vs:List Value} (Hc:HEnv) (Hs':ι→HEnv) (R:HEnv) {lone:Bool} (ps:List Nat) (hw1:lone=true→g.w1.heap.size=0) (hsub:HSub H (Hc++R))
  (hchk:∀ u,qY Hc (Hs' u) R ps ars [] (rs u)=true) (hc:∀ us,ACallU P f ars (Hc++zu us ps) rs (fun u=>Hs' u++zu us ps) lone) (hf:FS g K ρ H w) (hall0:Qj K w ρ H ars vs) :
  Calls P f vs.toArray w fun e w'=>∃ v K' ρ2 u,e=.returned v∧FS g K' ρ2 (Hs' u++R) w'∧ARel K' w' ρ2 (Hs' u++R) (rs u) v∧Later K K' w w'∧(∀ j,(HEnv.get (R++YP ps) j).isSome=true→(HEnv.get (Hs' u++R) j).isSome=true∧ρ2 j=ρ j):=by
 have hchk0:=hchk default
 simp only [qY,Bool.and_eq_true] at hchk0
 obtain ⟨⟨⟨⟨⟨⟨⟨⟨⟨⟨d1,_⟩,_⟩,_⟩,i1⟩,i2⟩,_⟩,_⟩,_⟩,_⟩,i7a⟩:=hchk0
 have i7b:∀ i∈ps,(Hc.get i).isSome=true:=fun i hi=>by have:=List.all_eq_true.1 i7a i hi;simp only [Bool.and_eq_true] at this;exact this.1
 have hlatR:Later K K w w:=.refl K w
 have gC:∀ i x,Hc.get i=some x→H.get i=some x:=fun i x hx=>hsub i x (by rw [get_append,hx])
 have gR:∀ i x,R.get i=some x→H.get i=some x:=fun i x hx=>hsub i x (by
  rw [get_append]
  cases hh:Hc.get i with
  | none=>exact hx
  | some y=>rw [qJ d1 i y hh] at hx;cases hx)
 have nC:∀ i x,R.get i=some x→Hc.get i=none:=fun i x hx=>by
  cases hh:Hc.get i with
  | none=>rfl
  | some y=>rw [qJ d1 i y hh] at hx;cases hx
 have hpinC:∀ {A:HEnv} {us:Nat→Value} {i:Nat} {x:HE},HEnv.get (A++zu us ps) i=some x→x.live=true→A.get i=some x:=by
  intro A us i x hx hl
  rw [get_append] at hx
  cases hh:A.get i with
  | some z=>rw [hh] at hx;exact hx
  | none =>
   rw [hh] at hx
   obtain ⟨_,_,rfl⟩:=Zq hx
   simp [HE.live] at hl
 obtain ⟨g',hg'⟩:∃ g':Base,g'=⟨g.w0,K,g.w1,g.ds,w,fun b=>g.pr b∨∃ i x,R.get i=some x∧x.live=true∧zq (ρ i)=some b⟩:=⟨_,rfl⟩
 have hfs:FS g' K ρ (Hc++zu ρ ps) w:=by
  subst hg'
  refine ⟨hf.below,fun _ _ h=>h,fun _ _ h=>.inl h,hf.lt,hf.others,⟨?_,fun _ _ _=>rfl⟩,?_,?_,?_⟩
  ·rintro b (hb|⟨i,x,hi,hl,hb⟩)
   ·exact ⟨(hf.pt.same b hb).1,rfl,fun _=>Iff.rfl⟩
   ·exact ⟨((hf.heap.ok i x (gR i x hi)).block_lt hl hb).2,rfl,fun _=>Iff.rfl⟩
  ·intro i x b hi hl hb
   have hC:=hpinC hi hl
   rintro (hp|⟨j,y,hj,hly,hbj⟩)
   ·exact hf.away i x b (gC i x hC) hl hb hp
   ·have hne:i≠j:=by rintro rfl;rw [nC i y hj] at hC;cases hC
    exact hf.heap.apart i j x y b hne (gC i x hC) (gR j y hj) hl hly hb hbj
  ·intro i x hi
   rw [get_append] at hi
   cases hh:Hc.get i with
   | some y =>
    rw [hh] at hi;simp only [Option.some.injEq] at hi;subst hi
    have hok:=hf.heap.ok i y (gC i y hh)
    have hk:∀ j,(HEnv.get Hc j).isSome=true→(HEnv.get (Hc++zu ρ ps) j).isSome=true∧ρ j=ρ j:=fun j hj=>⟨zF j hj,rfl⟩
    cases y with
    | cell v=>obtain ⟨b,t,arr,u,q1,q2,q3,q4,q5,q6⟩:=hok;exact ⟨b,t,arr,u,q1,q2,q3,(q4.refs (qR i2 i v hh)).keeps hlatR hk,q5,q6⟩
    | pin v u=>exact (ARel.refs hok (yR i2 i v u hh)).keeps hlatR hk
    | row t sz es=>exact hok
    | mrow t sz es=>exact hok
    | dead=>exact hok
    | obj X=>exact hok
   | none =>
    rw [hh] at hi
    obtain ⟨q1,q2,rfl⟩:=Zq hi
    exact .own _ (zF _ (i7b _ q2))
  ·intro i j x y b hij hi hj lx ly bx bj
   exact hf.heap.apart i j x y b hij (gC i x (hpinC hi lx)) (gC j y (hpinC hj ly)) lx ly bx bj
 have hall:Qj K w ρ (Hc++zu ρ ps) ars vs :=
  ⟨hall0.1,fun k c v hc hv=>((hall0.2 k c v hc hv).refs (yg i1 k c hc)).keeps hlatR fun j hj=>⟨zF j hj,rfl⟩⟩
 refine ((hc ρ).calls g' K ρ w _ (by subst hg';exact hw1) hfs hall).mono fun e w' ⟨v,K',ρ',u,e1,hf',hv⟩=>?_
 subst e1
 have hchk1:=hchk u
 suffices hgo:∃ ρ2,FS g K' ρ2 (Hs' u++R) w'∧ARel K' w' ρ2 (Hs' u++R) (rs u) v∧Later K K' w w'∧(∀ j,(HEnv.get (R++YP ps) j).isSome=true→(HEnv.get (Hs' u++R) j).isSome=true∧ρ2 j=ρ j) by
  obtain ⟨ρ2,q⟩:=hgo
  exact ⟨v,K',ρ2,u,rfl,q⟩
 generalize Hs' u=Hc' at hf' hv hchk1 ⊢
 generalize rs u=r at hf' hv hchk1 ⊢
 simp only [qY,Bool.and_eq_true] at hchk1
 obtain ⟨⟨⟨⟨⟨⟨⟨⟨⟨⟨_,d2⟩,d3⟩,d4⟩,_⟩,_⟩,i3⟩,i4⟩,i5⟩,i6⟩,i7⟩:=hchk1
 have i7':∀ i∈ps,(Hc.get i).isSome=true∧(Hc'.get i).isSome=true:=fun i hi=>by simpa using List.all_eq_true.1 i7 i hi
 have nC':∀ i x,R.get i=some x→Hc'.get i=none:=fun i x hx=>by
  cases hh:Hc'.get i with
  | none=>rfl
  | some y=>rw [qJ d2 i y hh] at hx;cases hx
 have hlat:Later K K' w w':=by subst hg';exact ⟨hf'.old,hf'.pt.kept⟩
 have hprot:∀ b,(g.pr b∨∃ i x,R.get i=some x∧x.live=true∧zq (ρ i)=some b)→b < w'.heap.size∧w'.heap[b]?=w.heap[b]?∧∀ o,K' b o↔K b o:=by subst hg';exact hf'.pt.same
 have haway:∀ i x b,Hc'.get i=some x→x.live=true→zq (ρ' i)=some b→¬ (g.pr b∨∃ i x,R.get i=some x∧x.live=true∧zq (ρ i)=some b):=by
  subst hg';exact fun i x b hi=>hf'.away i x b (by rw [get_append,hi])
 obtain ⟨ρ2,hρ2⟩:∃ ρ2:Nat→Value,∀ j,ρ2 j=if (Hc'.get j).isSome then ρ' j else ρ j:=⟨_,fun _=>rfl⟩
 have r1:∀ j,(Hc'.get j).isSome=true→ρ2 j=ρ' j:=fun j hj=>by rw [hρ2,if_pos hj]
 have r2:∀ j,Hc'.get j=none→ρ2 j=ρ j:=fun j hj=>by rw [hρ2,hj];rfl
 have hkC:∀ j,(HEnv.get Hc' j).isSome=true→(HEnv.get (Hc'++R) j).isSome=true∧ρ2 j=ρ' j:=fun j hj=>⟨zF j hj,r1 j hj⟩
 have hps:∀ i∈ps,ρ' i=ρ i:=fun i hi=>by
  have hnone:Hc'.get (1000 + i)=none:=by
   cases hh:Hc'.get (1000 + i) with
   | none=>rfl
   | some x=>have:=YK d4 _ x hh;omega
  have:=hf'.heap.ok (1000 + i) _ (by rw [get_append,hnone];exact XO hi)
  have this:ARel K' w' ρ' (Hc'++zu ρ ps) (.own i) (ρ i):=this
  generalize hu:ρ i=u at this
  cases this with
  | own _ _=>rfl
 have hkR:∀ j,(HEnv.get (R++YP ps) j).isSome=true→(HEnv.get (Hc'++R) j).isSome=true∧ρ2 j=ρ j:=fun j hj=>by
  rw [get_append] at hj
  cases hh:R.get j with
  | some x =>
   have hn:=nC' j x hh
   exact ⟨by rw [get_append,hn,hh];rfl,r2 j hn⟩
  | none =>
   rw [hh] at hj
   have hm:=QB hj
   have hs':=(i7' j hm).2
   exact ⟨zF j hs',by rw [r1 j hs',hps j hm]⟩
 have hfs2:FS g K' ρ2 (Hc'++R) w':=by
  have b1:Below g.w0.heap.size g.w0 w':=by subst hg';exact hf'.below
  have b3:∀ b o,K' b o→K b o∨g.w0.heap.size≤b:=by subst hg';exact hf'.new
  have b5:KeepsOthers g.w1 w':=by subst hg';exact hf'.others
  have bB:HRel K' w' g.w0.heap.size ρ' (Hc'++zu ρ ps):=by subst hg';exact hf'.heap
  refine ⟨b1,fun b o h=>hlat.sub b o (hf.old b o h),fun b o hk=>(b3 b o hk).elim (hf.new b o) .inr,hf'.lt,b5,⟨fun b hb=>?_,fun b o h0=>(hlat.cell b o (hf.old b o h0)).trans (hf.pt.kept b o h0)⟩,fun i x b hi hl hb=>?_,fun i x hi=>?_,fun i j x y b hij hi hj lx ly bx bj=>?_⟩
  ·obtain ⟨p1,p2,p3⟩:=hprot b (.inl hb)
   obtain ⟨q1,q2,q3⟩:=hf.pt.same b hb
   exact ⟨p1,p2.trans q2,fun o=>(p3 o).trans (q3 o)⟩
  ·rw [get_append] at hi
   cases hh:Hc'.get i with
   | some y =>
    rw [hh] at hi;simp only [Option.some.injEq] at hi;subst hi
    rw [r1 i (by rw [hh];rfl)] at hb
    exact fun hp=>haway i y b hh hl hb (.inl hp)
   | none =>
    rw [hh] at hi
    rw [r2 i hh] at hb
    exact hf.away i x b (gR i x hi) hl hb
  ·rw [get_append] at hi
   cases hh:Hc'.get i with
   | some y =>
    rw [hh] at hi;simp only [Option.some.injEq] at hi;subst hi
    rw [r1 i (by rw [hh];rfl)]
    have hok:=bB.ok i y (by rw [get_append,hh])
    have hl':=Later.refl K' w'
    cases y with
    | cell v=>obtain ⟨b,t,arr,u,q1,q2,q3,q4,q5,q6⟩:=hok;exact ⟨b,t,arr,u,q1,q2,q3,(q4.refs (qR i3 i v hh)).keeps hl' hkC,q5,q6⟩
    | pin v u=>exact (ARel.refs hok (yR i3 i v u hh)).keeps hl' hkC
    | row t sz es=>exact hok
    | mrow t sz es=>exact hok
    | dead=>exact hok
    | obj X=>exact hok
   | none =>
    rw [hh] at hi
    rw [r2 i hh]
    have hok:=hf.heap.ok i x (gR i x hi)
    have hsame:x.live=true→∀ b,zq (ρ i)=some b→w'.heap[b]?=w.heap[b]?∧∀ o,K' b o↔K b o:=fun hl b hb=>(hprot b (.inr ⟨i,x,hi,hl,hb⟩)).2
    cases x with
    | cell v =>
     obtain ⟨b,t,arr,u,q1,q2,q3,q4,q5,q6⟩:=hok
     obtain ⟨s1,s2⟩:=hsame rfl b (by rw [q1];rfl)
     exact ⟨b,t,arr,u,q1,q2,by rw [s1];exact q3,(q4.refs (qR i5 i v hi)).keeps hlat hkR,q5,fun o hk=>q6 o ((s2 o).1 hk)⟩
    | pin v u=>exact (ARel.refs hok (yR i5 i v u hi)).keeps hlat hkR
    | row t sz es =>
     obtain ⟨xs,q1,q2,q3,q4⟩:=hok
     refine ⟨xs,yK q1 fun b hb=>(hsame rfl b hb).1,q2,fun k e he=>?_,fun b hb o=>?_⟩
     ·obtain ⟨c1,c2⟩:=q3 k e he
      exact ⟨c1,fun k c hc=>let ⟨v,h4,h5,h6⟩:=c2 k c hc;⟨v,h4,h5,h6.later hlat⟩⟩
     ·rw [(hsame rfl b ((qh q1 b).2 hb)).2 o];exact q4 b hb o
    | mrow t sz es =>
     obtain ⟨xs,q1,q2,q3,q4⟩:=hok
     refine ⟨xs,yK q1 fun b hb=>(hsame rfl b hb).1,q2,fun k e he=>?_,fun b hb o hk=>?_⟩
     ·obtain ⟨c1,c2⟩:=q3 k e he
      exact ⟨c1,fun k c hc=>let ⟨v,h4,h5,h6⟩:=c2 k c hc;⟨v,h4,h5,h6.later hlat⟩⟩
     ·exact q4 b hb o (((hsame rfl b ((qh q1 b).2 hb)).2 o).1 hk)
    | dead=>trivial
    | obj X =>
     obtain ⟨b,ob,q1,q2,q3,q4,q5⟩:=hok
     obtain ⟨s1,s2⟩:=hsame rfl b (by rw [q1];rfl)
     exact ⟨b,ob,q1,q2,by rw [s1];exact q3,q4,fun o hk=>q5 o ((s2 o).1 hk)⟩
  ·rw [get_append] at hi hj
   cases hhi:Hc'.get i with
   | some x' =>
    rw [hhi] at hi;simp only [Option.some.injEq] at hi;subst hi
    rw [r1 i (by rw [hhi];rfl)] at bx
    cases hhj:Hc'.get j with
    | some y' =>
     rw [hhj] at hj;simp only [Option.some.injEq] at hj;subst hj
     rw [r1 j (by rw [hhj];rfl)] at bj
     exact bB.apart i j x' y' b hij (by rw [get_append,hhi]) (by rw [get_append,hhj]) lx ly bx bj
    | none =>
     rw [hhj] at hj;rw [r2 j hhj] at bj
     exact haway i x' b hhi lx bx (.inr ⟨j,y,hj,ly,bj⟩)
   | none =>
    rw [hhi] at hi;rw [r2 i hhi] at bx
    cases hhj:Hc'.get j with
    | some y' =>
     rw [hhj] at hj;simp only [Option.some.injEq] at hj;subst hj
     rw [r1 j (by rw [hhj];rfl)] at bj
     exact haway j y' b hhj ly bj (.inr ⟨i,x,hi,lx,bx⟩)
    | none =>
     rw [hhj] at hj;rw [r2 j hhj] at bj
     exact hf.heap.apart i j x y b hij (gR i x hi) (gR j y hj) lx ly bx bj
 exact ⟨ρ2,hfs2,(hv.refs i4).keeps (Later.refl K' w') hkC,hlat,hkR⟩
theorem ziH {ι:Type} [Inhabited ι] {r:ι→AV} {args:List AV} {qs:List Nat} (Hc:HEnv) (Hc':ι→HEnv) (R:HEnv) (ps:List Nat) (hchk:∀ u,qY Hc (Hc' u) R ps args [] (r u)=true) (hc:∀ us,ACallU P f args (Hc++zu us ps) r (fun u=>Hc' u++zu us ps)) (hq:∀ i∈qs,(HEnv.get (R++YP ps) i).isSome=true) :
  ACallE P f args (Hc++R) r (fun u=>Hc' u++R) qs :=
 ⟨(hc fun _=>.nilFunc).stands,fun _ _ _ _ _ hf hv=>(zkg Hc Hc' R ps (fun e=>by cases e) (fun _ _ h=>h) hchk hc hf hv).mono fun _ _ ⟨v,K',ρ2,u,e1,f2,hr,_,hk⟩=>⟨v,K',ρ2,u,e1,f2,hr,fun i hi=>(hk i (hq i hi)).2⟩⟩
end
theorem ACallE.fit {P:Program} {f:FuncId} {args:List AV} {ι:Type} {r:ι→AV} {H H2:HEnv} {H' H2':ι→HEnv} {ps:List Nat} (h:ACallE P f args H r H' ps) (h1:HSub H2 H) (i1:hIn H H=true) (har:qx H args=true) (h2:∀ u,HSub (H' u) (H2' u)) (i2:∀ u,hIn (H2' u) (H2' u)=true) (hr:∀ u,yE (H2' u) (r u)=true):ACallE P f args H2 r H2' ps :=
 ⟨h.stands,fun g K ρ w vs hf hv=>(h.calls g K ρ w vs (hf.narrow (e:=[]) ⟨h1,by simp only [Zz,Bool.true_and];exact i1⟩) ⟨hv.1,fun k c v hc hv2=>(hv.2 k c v hc hv2).refs (yg har k c hc)⟩).mono fun _ _ ⟨v,K',ρ',u,e1,f2,hv2,hn⟩=>⟨v,K',ρ',u,e1,f2.narrow (e:=[]) ⟨h2 u,by simp only [Zz,Bool.true_and];exact i2 u⟩,hv2.refs (hr u),hn⟩⟩
end Go.Cg
namespace Go.Cg
open Go.Proofs
abbrev VA (y:DX) (s:Value) (st:List Int):DX:=⟨⟨y.e.m,y.e.a,y.e.o,y.e.v,s⟩,y.vars,st⟩
section
variable {ws ws':List Int} {fs fs':List Fr} {N:Int} {D A:List DX} {f:FuncId} {args:List AV} {r:AV}
theorem frE (hc:∀ us,ACallM Tryz.prog f args (skH ws 12 N fs++zu us [0,30]) r (skH ws' 12 N fs'++zu us [0,30])) (hchk:qY (skH ws 12 N fs) (skH ws' 12 N fs') (dH N (D.map DX.e)) [0,30] args [] r=true) (ha:∀ t,args=AV.rns (sg t) args) (har:qx (bX ws fs N D++[]) args=true) (hr:∀ t,r=r.rn (sg t)) :
  ACallE Tryz.prog f args (GHx ws fs N D) (fun _:Value=>r) (fun _=>GHx ws' fs' N D) [0,30,60] :=
 ACallE.lift (zbD (t:=2000 + 4 * D.length) (by omega)) (Hc:=bX ws fs N D++[]) (Hc':=fun _=>bX ws' fs' N D++[])
  (zds (skH ws 12 N fs) (skH ws' 12 N fs') (dH N (D.map DX.e)) [0,30] hchk hc (fun i hi=>by simp at hi;rcases hi with rfl|rfl|rfl <;> rfl)) (ha _) har (fun _=>hr _)
  (XG (o:=none) (k:=D.length) (Zu _ _ _ _) (fun x hx=>by cases hx)) rfl (fun _=>XJ (o:=none) (o':=none) (k:=D.length) (Zu _ _ _ _) (Zu _ _ _ _) (fun k' y hy=>.inr (Xg k' y hy)) (fun y hy=>by cases hy))
  (fun i hi=>by simp at hi;rcases hi with rfl|rfl|rfl <;> rfl) (fun _ i hi=>by simp at hi;rcases hi with rfl|rfl|rfl <;> rfl)
theorem zmR {y:DX} {st':List Int} (hc:∀ us,ACallU Tryz.prog f args (dH N ((A++[y]).map DX.e)++ssH y.st y.e.s++zu us [60]) (fun _:Value=>r) (fun s=>dH N ((A++[VA y s st']).map DX.e)++ssH st' s++zu us [60]))
  (hchk:∀ s,qY (dH N ((A++[y]).map DX.e)++ssH y.st y.e.s) (dH N ((A++[VA y s st']).map DX.e)++ssH st' s) (skH ws 12 N fs++vsH y.vars y.e.v) [60] args [] r=true) (ha:∀ t,args=AV.rns (sg t) args) (hr:∀ t,r=r.rn (sg t))
  (har1:qx (dH N ((A++[y]).map DX.e)++ssH y.st y.e.s++(skH ws 12 N fs++vsH y.vars y.e.v)) args=true) (har2:qx (bX ws fs N (A++[y])++YQ (some y)) args=true) (hr2:∀ s,yE (bX ws fs N (A++[VA y s st'])++YQ (some (VA y s st'))) r=true) :
  ACallE Tryz.prog f args (GHx ws fs N (A++[y])) (fun _:Value=>r) (fun s=>GHx ws fs N (A++[VA y s st'])) [0,30,60]:=by
 have t:=ziH (qs:=[0,30,60]) (dH N ((A++[y]).map DX.e)++ssH y.st y.e.s) (fun s=>dH N ((A++[VA y s st']).map DX.e)++ssH st' s) (skH ws 12 N fs++vsH y.vars y.e.v) [60] hchk hc (fun i hi=>by simp at hi;rcases hi with rfl|rfl|rfl <;> rfl)
 have t2:=t.fit (H2:=bX ws fs N (A++[y])++YQ (some y)) (H2':=fun s=>bX ws fs N (A++[VA y s st'])++YQ (some (VA y s st'))) (by repeat (first|exact zi|refine zh rfl ?_)) rfl har1 (fun s=>by repeat (first|exact zi|refine zh rfl ?_)) (fun s=>rfl) hr2
 exact ACallE.lift (zbD (t:=2000 + 4 * A.length) (by omega)) t2 (ha _) har2 (fun _=>hr _) (XG (o:=some y) (Zu _ _ _ _) (fun x hx=>by simp only [Option.some.injEq] at hx;subst hx;exact qc)) rfl
  (fun s=>XJ (o:=some y) (o':=some (VA y s st')) (Zu _ _ _ _) (Zu _ _ _ _) (fun k' z hz=>(zaY (d:=y) (Y:=fun s=>VA y s st') s k' z hz).imp (fun q=>⟨q.1,by rw [q.2]⟩) (fun q=>q)) (fun z hz=>by simp only [Option.some.injEq] at hz;subst hz;exact qc)) (fun i hi=>by simp at hi;rcases hi with rfl|rfl|rfl <;> rfl) (fun _ i hi=>by simp at hi;rcases hi with rfl|rfl|rfl <;> rfl)
end
section
variable {ws ws':List Int} {fs:List Fr} {N:Int} {D A:List DX} {d:DX}
theorem RX.back (h:RX ws fs N D) (wl:ws'.length=16396) (hw:∀ b,0≤b→b < 12 + 256 * (D.length:Int)→Ze ws' b=Ze ws b):RX ws' fs N D:=by
 refine ⟨wl,h.n0,h.n1,h.len,h.le,fun k f d h1 h2=>?_⟩
 have hk:=(List.getElem?_eq_some_iff.1 h2).1
 obtain ⟨o,q⟩:=h.fr k f d h1 h2
 have hs:=q.s96
 have hle:=q.le
 exact ⟨o,q.eo,q.le,q.me,q.ia,q.ba,q.ev,q.sz,q.s96,fun i hi=>(hw _ (by omega) (by omega)).trans (q.st i hi),fun e=>⟨(q.vr e).1,fun i hi=>(hw _ (by omega) (by omega)).trans ((q.vr e).2 i hi)⟩,q.ow⟩
theorem ziO (h:RX ws fs N D) (l:List Int) :
  ACallE Tryz.prog 11 [.box 30 0,.pv (.slc 1 (l.map u64) false)] (GHx ws fs N D) (fun _:Value=>.pv (pb false)) (fun _=>GHx ws fs N D) [0,30,60] ∨
  ∃ W fs1 fs2,∃ D1:Value→List DX,∃ D2:Value→Value→List DX,(∀ s t,RX W fs2 N (D2 s t)) ∧
   ACallE Tryz.prog 11 [.box 30 0,.pv (.slc 1 (l.map u64) false)] (GHx ws fs N D) (fun _:Value=>.pv (pb true)) (fun _=>GHx W fs1 N D) [0,30,60] ∧
   ACallE Tryz.prog 12 [.box 60 0,.pv (.slc 1 (l.map u64) false)] (GHx W fs1 N D) (fun _:Value=>.pv (pb true)) (fun s=>GHx W fs1 N (D1 s)) [0,30,60] ∧
   (∀ s,ACallE Tryz.prog 14 [.box 30 0,.pv (pi (((l.map u64).length:Nat):Int))] (GHx W fs1 N (D1 s)) (fun _:Value=>.pv (.slc 1 (l.map u64) false)) (fun _=>GHx W fs2 N (D1 s)) [0,30,60]) ∧
   (∀ s,ACallE Tryz.prog 15 [.box 60 0,.pv (pi (((l.map u64).length:Nat):Int))] (GHx W fs2 N (D1 s)) (fun _:Value=>.pv (.slc 1 (l.map u64) false)) (fun t=>GHx W fs2 N (D2 s t)) [0,30,60]):=by
 have hwl:=h.wl
 rcases List.eq_nil_or_concat D with e|⟨A,d,e⟩
 ·subst e
  obtain rfl:fs=[]:=List.eq_nil_of_length_eq_zero h.len
  exact .inl (frE (fun us=>za0 ws 12 N l false us) rfl (fun _=>rfl) rfl (fun _=>rfl))
 ·rw [List.concat_eq_append] at e
  subst e
  obtain ⟨F,⟨fm,fa,fb,fe,fz⟩,o,rfl,hF,hA,q⟩:=h.top
  have q1:=q.sz
  have q2:=q.s96
  have q3:=q.ev
  have qo:=q.le
  dsimp only at q1 q3
  subst q1
  by_cases hy:d.st.length + l.length≤96
  ·obtain ⟨W,hW⟩:∃ W,W=ZN ws fe d.st.length l l.length:=⟨_,rfl⟩
   have hWl:W.length=16396:=by rw [hW,Yk,hwl]
   have hg:∀ b,0≤b→Ze W b=if fe + d.st.length≤b∧b < fe + d.st.length + l.length then l.getD (b - fe - d.st.length).toNat 0 else Ze ws b:=fun b hb=>by
    rw [hW,XA (by omega) (by omega) (by omega) _ (by omega) b hb]
   have hs:((d.st.length + l.length - l.length:Nat):Int)=(d.st.length:Int):=by omega
   have hw:Yx W (IntKind.u64.wrap (fe + IntKind.u64.wrap ((d.st.length + l.length - l.length:Nat):Int))) l.length=l:=by
    rw [hs,zM (a:=(d.st.length:Int)) (by omega) (by omega),zM (by omega) (by omega)]
    apply List.ext_getElem?
    intro i
    rw [Yx,List.getElem?_map]
    by_cases hi:i < l.length
    ·rw [List.getElem?_range hi,Option.map_some,zM (a:=(i:Int)) (by omega) (by omega),zM (by omega) (by omega),List.getElem?_eq_getElem hi,hg _ (by omega),if_pos (by omega),show (fe + (d.st.length:Int) + (i:Int) - fe - (d.st.length:Int)).toNat=i by omega,List.getD_eq_getElem?_getD,List.getElem?_eq_getElem hi];rfl
    ·rw [List.getElem?_eq_none (by simp;omega),List.getElem?_eq_none (by omega)];rfl
   have e1:sized ⟨fm,fa,fb,fe,(d.st.length:Int)⟩ ((d.st.length:Int) + (l.length:Int))=⟨fm,fa,fb,fe,((d.st.length + l.length:Nat):Int)⟩:=by simp [sized]
   refine .inr ⟨W,F++[⟨fm,fa,fb,fe,((d.st.length + l.length:Nat):Int)⟩],F++[⟨fm,fa,fb,fe,((d.st.length + l.length - l.length:Nat):Int)⟩],fun s=>A++[VA d s (d.st++l)],fun s t=>A++[VA (VA d s (d.st++l)) t d.st],fun s t=>?_,?_,?_,fun s=>?_,fun s=>?_⟩
   ·have t:=h.upd (ws':=W) (k:=A.length) (f':=⟨fm,fa,fb,fe,((d.st.length + l.length - l.length:Nat):Int)⟩) (d':=VA (VA d s (d.st++l)) t d.st) qc rfl hWl (fun b h0 h1=>by rw [hg b h0,if_neg (by omega)]) ⟨o,?_⟩
    ·rw [zd3 hF,Qy] at t;exact t
    ·refine ⟨q.eo,q.le,q.me,q.ia,q.ba,q.ev,hs,q2,fun i hi=>?_,fun e=>⟨(q.vr e).1,fun i hi=>?_⟩,?_⟩
     ·have hi2:i < d.st.length:=hi
      rw [hg _ (by omega),if_neg (by omega)];exact q.st i hi2
     ·rw [hg _ (by omega),if_neg (by omega)];exact (q.vr e).2 i hi
     ·obtain ⟨c,hc1,hc2⟩:=q.ow
      rw [Qy]
      by_cases e3:o=A.length
      ·subst e3;exact ⟨_,qc,q.eo⟩
      ·exact ⟨c,by rw [List.getElem?_append_left (by omega)] at hc1 ⊢;exact hc1,hc2⟩
   ·have c1:=fun us=>QM ws 12 N l false F ⟨fm,fa,fb,fe,(d.st.length:Int)⟩ (by omega) (by show 0≤(d.st.length:Int);omega) (by show (d.st.length:Int) + _≤96;omega) (by omega) us
    dsimp only at c1
    rw [e1,←hW] at c1
    exact frE c1 rfl (fun _=>rfl) rfl (fun _=>rfl)
   ·refine zmR (y:=d) (st':=d.st++l) (fun us=>?_) (fun _=>rfl) (fun _=>rfl) (fun _=>rfl) rfl rfl (fun _=>rfl)
    have t:=zeb N (A.map DX.e) d.e d.st l false (by simpa using hA) hy us
    simp only [List.map_append,List.map_cons,List.map_nil]
    exact t
   ·have c1:=fun us=>zbX W 12 N fm fa fb fe (d.st.length + l.length) l.length F (by omega) (by omega) (by omega) (by omega) us
    rw [hw] at c1
    rw [List.length_map]
    exact frE c1 rfl (fun _=>rfl) rfl (fun _=>rfl)
   ·rw [List.length_map]
    refine zmR (y:=VA d s (d.st++l)) (st':=d.st) (fun us=>?_) (fun _=>rfl) (fun _=>rfl) (fun _=>rfl) rfl rfl (fun _=>rfl)
    have t:=ze8 N (A.map DX.e) (VA d s (d.st++l)).e (d.st++l) l.length d.st.length (by simpa using hA) (by simpa using hy) (by simp;omega) us
    rw [List.drop_left,List.take_left] at t
    simp only [List.map_append,List.map_cons,List.map_nil]
    exact t
  ·exact .inl (frE (fun us=>zcs ws 12 N l false F ⟨fm,fa,fb,fe,(d.st.length:Int)⟩ (by omega) (by show 0≤(d.st.length:Int);omega) (by show (d.st.length:Int)≤96;omega) (by show 96 < (d.st.length:Int) + _;omega) us) rfl (fun _=>rfl) rfl (fun _=>rfl))
theorem zcf (h:RX ws fs N D) (l:List Int) (hl:l.length≤90) :
  ACallE Tryz.prog 16 [.box 30 0,.pv (pi 1),.pv (pi 2),.pv za1] (GHx ws fs N D) (fun _:Value=>.pv (pb false)) (fun _=>GHx ws fs N D) [0,30,60] ∨
  ∃ W fs1 W2 fs2,RX W2 fs N D ∧
   ACallE Tryz.prog 16 [.box 30 0,.pv (pi 1),.pv (pi 2),.pv za1] (GHx ws fs N D) (fun _:Value=>.pv (pb true)) (fun _=>GHx W fs1 N D) [0,30,60] ∧
   ACallE Tryz.prog 11 [.box 30 0,.pv (.slc 1 (l.map u64) false)] (GHx W fs1 N D) (fun _:Value=>.pv (pb true)) (fun _=>GHx W2 fs2 N D) [0,30,60] ∧
   ACallE Tryz.prog 17 [.box 30 0] (GHx W2 fs2 N D) (fun _:Value=>.pv (pb true)) (fun _=>GHx W2 fs N D) [0,30,60]:=by
 have hwl:=h.wl
 have hl2:=h.len
 have hn:=h.n1
 have key:∀ {H H':HEnv} {r:AV},ACallM Tryz.prog 16 [.box 30 0,.pv (pi 1),.pv (pi 2),.pv (.slc 1 (([]:List Int).map u64) true)] H r H'→ACallM Tryz.prog 16 [.box 30 0,.pv (pi 1),.pv (pi 2),.pv za1] H r H':=fun h=>h.tells rfl fun k c c' hc hc'=>by
  match k,hc,hc' with
  | 0,hc,hc'=>simp at hc hc';exact .inl (by rw [←hc,←hc'])
  | 1,hc,hc'=>simp at hc hc';exact .inl (by rw [←hc,←hc'])
  | 2,hc,hc'=>simp at hc hc';exact .inl (by rw [←hc,←hc'])
  | 3,hc,hc'=>simp at hc hc';exact .inr ⟨_,_,hc.symm,hc'.symm,Vx 1 true⟩
  | k + 4,hc,hc'=>simp at hc
 by_cases hf:(fs.length:Int) < N
 ·obtain ⟨a,ha⟩:∃ a:Int,a=12 + 256 * (fs.length:Int):=⟨_,rfl⟩
  obtain ⟨W,hW⟩:∃ W,W=Va ws a []:=⟨_,rfl⟩
  have hWl:W.length=16396:=by rw [hW,zaN,hwl]
  have hg:∀ b,0≤b→b < a→Ze W b=Ze ws b:=fun b hb h1=>by
   rw [hW,Va,zbO (by omega) (by rw [yT];omega) _ (by rw [yT];simp;omega) b hb,if_neg (by omega),VQ (by omega) (by omega) 256 (by omega) b hb,if_neg (by omega)]
  obtain ⟨W2,hW2⟩:∃ W2,W2=ZN W (a + 152) 0 l l.length:=⟨_,rfl⟩
  have hW2l:W2.length=16396:=by rw [hW2,Yk,hWl]
  have c1:=fun us=>key (zaB ws 12 N 1 2 [] true fs hf (by omega) (by simp) (by omega) (by omega) (by omega) (by omega) us)
  rw [←ha,←hW] at c1
  have c2:=fun us=>QM W 12 N l false fs (Yh 1 0 a a) (by omega) (by show (0:Int)≤0;omega) (by show (0:Int) + _≤96;omega) (by omega) us
  refine .inr ⟨W,fs++[Yh 1 0 a a],W2,fs++[sized (Yh 1 0 a a) (0 + l.length)],h.back hW2l (fun b h0 h1=>?_),frE c1 rfl (fun _=>rfl) rfl (fun _=>rfl),?_,frE (fun us=>zdo W2 12 N fs _ (by omega) us) rfl (fun _=>rfl) rfl (fun _=>rfl)⟩
  ·rw [hW2,XA (by omega) (by omega) (by omega) _ (by omega) b h0,if_neg (by omega),hg b h0 (by omega)]
  ·rw [hW2];exact frE c2 rfl (fun _=>rfl) rfl (fun _=>rfl)
 ·exact .inl (frE (fun us=>key (zbz ws 12 N 1 2 [] true fs (by omega) us)) rfl (fun _=>rfl) rfl (fun _=>rfl))
end
set_option maxHeartbeats 4000000 in
theorem zcP (l:List AT) (words:List Int):ACall Tryz.prog 4 [.slc 5 (l.map atP) false,.slc 1 (words.map u64) false] (pb true):=by
 have cM:=fun us=>Vm us
 have hW0:(ws0 4 7).length=16396:=by rw [zbh];rfl
 generalize ws0 4 7=W0 at *
 obtain ⟨b,hb,cL⟩:=zdr l
 cases b with
 | true =>
  refine zf zk Tryz.func4 rfl (by kernel_rfl) Tryz.ntmps4 (by simp) _ rfl (fun hw gB hgB=>?_)
  repeat' (first|(refine shC ?_;first|refine qC Zm ?_|refine qC cL ?_)|refine sK ?_|refine sC (fun _=>?_) (fun _=>?_)|fail)
  exact retq rfl rfl
 | false =>
  have hl:=hb rfl
  by_cases h90:words.length≤90
  ·have hd9:decide ((90:Int) < (((words.map u64).length:Nat):Int))=false:=decide_eq_false (by rw [List.length_map];omega)
   have cN:=fun us=>zbF W0 12 64 (by omega) (by omega) us
   refine zf zk Tryz.func4 rfl (by kernel_rfl) Tryz.ntmps4 (by simp) _ rfl (fun hw gB hgB=>?_)
   repeat' (first|refine YX rfl hd9 ?_|refine Zx 60 61 1 65 5 (by decide) rfl rfl rfl rfl ?_|(refine shC ?_;first|refine qC Zm ?_|refine qC cL ?_)|(refine zG ?_;first|refine yt [] (Yd W0 12 0) [] [(0,.pv (.slc 5 (l.map atP) false)),(1,.pv (.slc 1 (words.map u64) false))] [] yI rfl rfl rfl (by repeat (first|exact zi|refine zh rfl ?_)) tS rfl rfl rfl cM ?_|refine yt (Yd W0 12 0) (skH W0 12 64 []) [] [(0,.pv (.slc 5 (l.map atP) false)),(1,.pv (.slc 1 (words.map u64) false)),(5,.box 0 0)] [0] yI rfl rfl rfl (by repeat (first|exact zi|refine zh rfl ?_)) tS rfl rfl rfl cN ?_)|(refine VX ?_;first|refine zc4 60 rfl rfl rfl rfl rfl rfl ?_)|refine sK ?_|refine sC (fun _=>?_) (fun _=>?_)|fail)
   refine zI (fun x:Nat × List Int × List Fr × List DX=>[(1,.pv (.slc 1 (words.map u64) false)),(5,.box 0 0),(6,.box 30 0),(7,.box 60 0),(24,.pv (.slc 5 (l.map atP) false)),(25,.pv (pi ((l.map atP).length:Nat))),(26,.pv (pi x.1))]) (fun x=>GHx x.2.1 x.2.2.1 64 x.2.2.2) (fun x=>x.1≤l.length∧RX x.2.1 x.2.2.1 64 x.2.2.2) (fun x=>l.length - x.1) (0,W0,[],[]) ⟨by simp,hW0,by omega,by omega,rfl,by simp,fun k f d h=>by simp at h⟩ tSU ⟨by repeat (first|exact zi|refine zh rfl ?_),rfl⟩ ?_
   rintro ⟨k,ws,fs,D⟩ ⟨hk,hR⟩
   dsimp only at hk hR ⊢
   by_cases hlt:k < l.length
   ·have hdk:decide ((k:Int) < (((l.map atP).length:Nat):Int))=true:=decide_eq_true (by rw [List.length_map];omega)
    have hx:(l.map atP)[k]?=some (atP l[k]):=by rw [List.getElem?_map,List.getElem?_eq_getElem hlt];rfl
    obtain ⟨ws',fs',D',hR',cD⟩:=zhP hR l[k].k l[k].n l[k].m l[k].x l[k].l
    repeat' (first|refine yX zk 80 rfl rfl rfl rfl zis rfl rfl ?_|refine yD (GHx ws fs 64 D) [(1,.pv (.slc 1 (words.map u64) false)),(5,.box 0 0),(6,.box 30 0),(7,.box 60 0),(24,.pv (.slc 5 (l.map atP) false)),(25,.pv (pi ((l.map atP).length:Nat))),(26,.pv (pi k))] cD rfl rfl rfl zi9 qF rfl tS rfl (fun _=>ps3 rfl rfl rfl) rfl rfl (fun s=>?_)|(refine shX ?_;first|refine qX hx ?_)|refine sK ?_|refine sC (fun _=>?_) (fun _=>?_)|fail)
    exact ⟨(k + 1,ws',fs',D' s),⟨hlt,hR' s⟩,tD,tSU,zm6 rfl⟩
   ·have hk2:k=l.length:=by omega
    subst hk2
    have hdk:decide ((l.length:Int) < (((l.map atP).length:Nat):Int))=false:=decide_eq_false (by rw [List.length_map];omega)
    rcases ziO hR words with cP|⟨W,fs1,fs2,D1,D2,hR2,cP,cDP,cPop,cDPop⟩
    ·rcases zcf hR words h90 with cE|⟨W,f1,W2,f2,hR2,cE,cP2,cLv⟩
     ·repeat' (first|refine yD (GHx ws fs 64 D) [(1,.pv (.slc 1 (words.map u64) false)),(5,.box 0 0),(6,.box 30 0),(7,.box 60 0)] cP rfl rfl rfl (fun _ _ h=>h) qF rfl tS rfl (fun _=>ps3 rfl rfl rfl) rfl rfl (fun _=>?_)|refine yD (GHx ws fs 64 D) [(1,.pv (.slc 1 (words.map u64) false)),(5,.box 0 0),(6,.box 30 0),(7,.box 60 0)] cE rfl rfl rfl (fun _ _ h=>h) qF rfl tS rfl (fun _=>ps3 rfl rfl rfl) rfl rfl (fun _=>?_)|refine yD (GHx ws fs 64 D) [(1,.pv (.slc 1 (words.map u64) false)),(5,.box 0 0),(6,.box 30 0),(7,.box 60 0)] (zhT hR) rfl rfl rfl (fun _ _ h=>h) qF rfl tS rfl (fun _=>ps3 rfl rfl rfl) rfl rfl (fun _=>?_)|refine sK ?_|refine sC (fun _=>?_) (fun _=>?_)|fail)
      exact retq rfl rfl
     ·repeat' (first|refine yD (GHx ws fs 64 D) [(1,.pv (.slc 1 (words.map u64) false)),(5,.box 0 0),(6,.box 30 0),(7,.box 60 0)] cP rfl rfl rfl (fun _ _ h=>h) qF rfl tS rfl (fun _=>ps3 rfl rfl rfl) rfl rfl (fun _=>?_)|refine yD (GHx ws fs 64 D) [(1,.pv (.slc 1 (words.map u64) false)),(5,.box 0 0),(6,.box 30 0),(7,.box 60 0)] cE rfl rfl rfl (fun _ _ h=>h) qF rfl tS rfl (fun _=>ps3 rfl rfl rfl) rfl rfl (fun _=>?_)|refine yD (GHx W f1 64 D) [(1,.pv (.slc 1 (words.map u64) false)),(5,.box 0 0),(6,.box 30 0),(7,.box 60 0),(55,.pv (pb true))] cP2 rfl rfl rfl (fun _ _ h=>h) qF rfl tS rfl (fun _=>ps3 rfl rfl rfl) rfl rfl (fun _=>?_)|refine yD (GHx W2 f2 64 D) [(1,.pv (.slc 1 (words.map u64) false)),(5,.box 0 0),(6,.box 30 0),(7,.box 60 0),(55,.pv (pb true)),(60,.pv (pb false))] cLv rfl rfl rfl (fun _ _ h=>h) qF rfl tS rfl (fun _=>ps3 rfl rfl rfl) rfl rfl (fun _=>?_)|refine yD (GHx W2 fs 64 D) [(1,.pv (.slc 1 (words.map u64) false)),(5,.box 0 0),(6,.box 30 0),(7,.box 60 0)] (zhT hR2) rfl rfl rfl (fun _ _ h=>h) qF rfl tS rfl (fun _=>ps3 rfl rfl rfl) rfl rfl (fun _=>?_)|refine sK ?_|refine sC (fun _=>?_) (fun _=>?_)|fail)
      exact retq rfl rfl
    ·repeat' (first|refine yD (GHx ws fs 64 D) [(1,.pv (.slc 1 (words.map u64) false)),(5,.box 0 0),(6,.box 30 0),(7,.box 60 0)] cP rfl rfl rfl (fun _ _ h=>h) qF rfl tS rfl (fun _=>ps3 rfl rfl rfl) rfl rfl (fun _=>?_)|refine yD (GHx W fs1 64 D) [(1,.pv (.slc 1 (words.map u64) false)),(5,.box 0 0),(6,.box 30 0),(7,.box 60 0)] cDP rfl rfl rfl (fun _ _ h=>h) qF rfl tS rfl (fun _=>ps3 rfl rfl rfl) rfl rfl (fun s=>?_)|refine yD (GHx W fs1 64 (D1 s)) [(1,.pv (.slc 1 (words.map u64) false)),(5,.box 0 0),(6,.box 30 0),(7,.box 60 0)] (cPop s) rfl rfl rfl (fun _ _ h=>h) qF rfl tS rfl (fun _=>ps3 rfl rfl rfl) rfl rfl (fun _=>?_)|refine yD (GHx W fs2 64 (D1 s)) [(1,.pv (.slc 1 (words.map u64) false)),(5,.box 0 0),(6,.box 30 0),(7,.box 60 0)] (cDPop s) rfl rfl rfl (fun _ _ h=>h) qF rfl tS rfl (fun _=>ps3 rfl rfl rfl) rfl rfl (fun t=>?_)|(refine shC ?_;first|refine zy rfl (Qd rfl rfl (swX words (by omega))) rfl rfl ?_|refine AD.step _ _ _ _ _ rfl (Qd rfl rfl (swX words (by omega))) rfl rfl ?_)|refine sK ?_|refine sC (fun _=>?_) (fun _=>?_)|fail)
     rcases zcf (hR2 s t) words h90 with cE|⟨W3,f1,W4,f2,hR4,cE,cP2,cLv⟩
     ·repeat' (first|refine yD (GHx W fs2 64 (D2 s t)) [(1,.pv (.slc 1 (words.map u64) false)),(5,.box 0 0),(6,.box 30 0),(7,.box 60 0)] cE rfl rfl rfl (fun _ _ h=>h) qF rfl tS rfl (fun _=>ps3 rfl rfl rfl) rfl rfl (fun _=>?_)|refine yD (GHx W fs2 64 (D2 s t)) [(1,.pv (.slc 1 (words.map u64) false)),(5,.box 0 0),(6,.box 30 0),(7,.box 60 0)] (zhT (hR2 s t)) rfl rfl rfl (fun _ _ h=>h) qF rfl tS rfl (fun _=>ps3 rfl rfl rfl) rfl rfl (fun _=>?_)|refine sK ?_|refine sC (fun _=>?_) (fun _=>?_)|fail)
      exact retq rfl rfl
     ·repeat' (first|refine yD (GHx W fs2 64 (D2 s t)) [(1,.pv (.slc 1 (words.map u64) false)),(5,.box 0 0),(6,.box 30 0),(7,.box 60 0)] cE rfl rfl rfl (fun _ _ h=>h) qF rfl tS rfl (fun _=>ps3 rfl rfl rfl) rfl rfl (fun _=>?_)|refine yD (GHx W3 f1 64 (D2 s t)) [(1,.pv (.slc 1 (words.map u64) false)),(5,.box 0 0),(6,.box 30 0),(7,.box 60 0),(55,.pv (pb true))] cP2 rfl rfl rfl (fun _ _ h=>h) qF rfl tS rfl (fun _=>ps3 rfl rfl rfl) rfl rfl (fun _=>?_)|refine yD (GHx W4 f2 64 (D2 s t)) [(1,.pv (.slc 1 (words.map u64) false)),(5,.box 0 0),(6,.box 30 0),(7,.box 60 0),(55,.pv (pb true)),(60,.pv (pb false))] cLv rfl rfl rfl (fun _ _ h=>h) qF rfl tS rfl (fun _=>ps3 rfl rfl rfl) rfl rfl (fun _=>?_)|refine yD (GHx W4 fs2 64 (D2 s t)) [(1,.pv (.slc 1 (words.map u64) false)),(5,.box 0 0),(6,.box 30 0),(7,.box 60 0)] (zhT hR4) rfl rfl rfl (fun _ _ h=>h) qF rfl tS rfl (fun _=>ps3 rfl rfl rfl) rfl rfl (fun _=>?_)|refine sK ?_|refine sC (fun _=>?_) (fun _=>?_)|fail)
      exact retq rfl rfl
  ·have hd9:decide ((90:Int) < (((words.map u64).length:Nat):Int))=true:=decide_eq_true (by rw [List.length_map];omega)
   refine zf zk Tryz.func4 rfl (by kernel_rfl) Tryz.ntmps4 (by simp) _ rfl (fun hw gB hgB=>?_)
   repeat' (first|refine QN rfl hd9 ?_|(refine shC ?_;first|refine qC Zm ?_|refine qC cL ?_)|refine sK ?_|refine sC (fun _=>?_) (fun _=>?_)|fail)
   exact retq rfl rfl
end Go.Cg
