/- A part of the walks by abstract values: no statement of its own. -/
import Derived.Test.YtoeplllgofpddaaGreatU12
import Derived.Defers
import Derived.Recover
import Derived.Test.YtoeplllgofpddaaGreatU13
import Derived.Test.YtoeplllgofpddaaGreatU10
import Derived.Test.YtoeplllgofpddaaGreatU8
import Derived.Test.YtoeplllgofpddaaGreatU6
set_option linter.unusedVariables false
set_option linter.unusedSimpArgs false
namespace Go.Cg
open Go.RowKit
section
variable {P:Program} {tb:Tab} {n:Nat} {g:Base} {K K':KK} {w w':World} {ρ ρ':Nat→Value} {H H':HEnv} {env:Env} {a:Act} {ops:List Oper} {o:Oper} {rest:List Oper} {f:FuncId} {args:List AV} {r:AV} {QQ:QC} {x y c:Code}
def znQ (Hc R:HEnv) (ars:List AV):Bool:=ziO Hc R&&Ql Hc ars&&hIn Hc Hc&&hIn (R++[]) R
theorem zp5 {ars:List AV} {vs:List Value} {pv:Value} (Hc R:HEnv) {lone:Bool} (hw1:lone=true→g.w1.heap.size=0) (hsub:HSub H (Hc++R))
  (hchk:znQ Hc R ars=true) (hc:ACallPan P f ars Hc pv lone) (hf:FS g K ρ H w) (hall0:YZ K w ρ H ars vs) :
  Calls P f vs.toArray w fun e w'=>e=.panicked [{ v:=pv,recovered:=false }]∧∃ K' ρ2,FS g K' ρ2 R w'∧Later K K' w w'∧(∀ j,(HEnv.get R j).isSome=true→ρ2 j=ρ j):=by
 obtain ⟨Hc',eHc⟩:∃ X:HEnv,X=[]:=⟨[],rfl⟩
 obtain ⟨ps,eps⟩:∃ X:List Nat,X=[]:=⟨[],rfl⟩
 simp only [znQ,Bool.and_eq_true] at hchk
 obtain ⟨⟨⟨d1,i1⟩,i2⟩,i5⟩:=hchk
 have d2:ziO Hc' R=true:=by rw [eHc];rfl
 have d4:zew 1000 Hc'=true:=by rw [eHc];rfl
 have i3:hIn Hc' Hc'=true:=by rw [eHc];rfl
 have i5:hIn (R++Vo ps) R=true:=by rw [eps];exact i5
 have i6:zas (R++Vo ps) []=true:=rfl
 have i7:(ps.all fun i=>(Hc.get i).isSome&&(Hc'.get i).isSome)=true:=by rw [eps];rfl
 have i7':∀ i∈ps,(Hc.get i).isSome=true∧(Hc'.get i).isSome=true:=fun i hi=>by simpa using List.all_eq_true.1 i7 i hi
 have hlatR:Later K K w w:=.refl K w
 have gC:∀ i x,Hc.get i=some x→H.get i=some x:=fun i x hx=>hsub i x (by rw [get_append,hx])
 have gR:∀ i x,R.get i=some x→H.get i=some x:=fun i x hx=>hsub i x (by
  rw [get_append]
  cases hh:Hc.get i with
  | none=>exact hx
  | some y=>rw [QI d1 i y hh] at hx;cases hx)
 have nC:∀ i x,R.get i=some x→Hc.get i=none:=fun i x hx=>by
  cases hh:Hc.get i with
  | none=>rfl
  | some y=>rw [QI d1 i y hh] at hx;cases hx
 have nC':∀ i x,R.get i=some x→Hc'.get i=none:=fun i x hx=>by
  cases hh:Hc'.get i with
  | none=>rfl
  | some y=>rw [QI d2 i y hh] at hx;cases hx
 have hpinC:∀ {A:HEnv} {us:Nat→Value} {i:Nat} {x:HE},HEnv.get (A++ZT us ps) i=some x→x.live=true→A.get i=some x:=by
  intro A us i x hx hl
  rw [get_append] at hx
  cases hh:A.get i with
  | some z=>rw [hh] at hx;exact hx
  | none =>
   rw [hh] at hx
   obtain ⟨_,_,rfl⟩:=zau hx
   simp [HE.live] at hl
 obtain ⟨g',hg'⟩:∃ g':Base,g'=⟨g.w0,K,g.w1,g.ds,w,fun b=>g.pr b∨∃ i x,R.get i=some x∧x.live=true∧zY (ρ i)=some b⟩:=⟨_,rfl⟩
 have hfs:FS g' K ρ (Hc++ZT ρ ps) w:=by
  subst hg'
  refine ⟨hf.below,fun _ _ h=>h,fun _ _ h=>.inl h,hf.lt,hf.others,⟨?_,fun _ _ _=>rfl⟩,?_,?_,?_⟩
  ·rintro b (hb|⟨i,x,hi,hl,hb⟩)
   ·exact ⟨(hf.pt.same b hb).1,rfl,fun _=>Iff.rfl⟩
   ·exact ⟨((hf.heap.ok i x (gR i x hi)).block_lt hl hb).2,rfl,fun _=>Iff.rfl⟩
  ·intro i x b hi hl hb
   have hC:=hpinC hi hl
   rintro (hp|⟨j,y,hj,hly,hbj⟩)
   ·exact hf.away i x b (gC i x hC) hl hb hp
   ·have hne:i≠j:=by rintro rfl;rw [nC i y hj] at hC;cases hC
    exact hf.heap.apart i j x y b hne (gC i x hC) (gR j y hj) hl hly hb hbj
  ·intro i x hi
   rw [get_append] at hi
   cases hh:Hc.get i with
   | some y =>
    rw [hh] at hi;simp only [Option.some.injEq] at hi;subst hi
    have hok:=hf.heap.ok i y (gC i y hh)
    have hk:∀ j,(HEnv.get Hc j).isSome=true→(HEnv.get (Hc++ZT ρ ps) j).isSome=true∧ρ j=ρ j:=fun j hj=>⟨yZ j hj,rfl⟩
    cases y with
    | cell v=>obtain ⟨b,t,arr,u,q1,q2,q3,q4,q5,q6⟩:=hok;exact ⟨b,t,arr,u,q1,q2,q3,(q4.refs (QE i2 i v hh)).keeps hlatR hk,q5,q6⟩
    | pin v u=>exact (ARel.refs hok (YJ i2 i v u hh)).keeps hlatR hk
    | row t sz es=>exact hok
    | mrow t sz es=>exact hok
    | dead=>exact hok
    | obj X=>exact hok
   | none =>
    rw [hh] at hi
    obtain ⟨q1,q2,rfl⟩:=zau hi
    exact .own _ (yZ _ (i7' _ q2).1)
  ·intro i j x y b hij hi hj lx ly bx bj
   exact hf.heap.apart i j x y b hij (gC i x (hpinC hi lx)) (gC j y (hpinC hj ly)) lx ly bx bj
 have hall:YZ K w ρ (Hc++ZT ρ ps) ars vs :=
  ⟨hall0.1,fun k c v hc hv=>((hall0.2 k c v hc hv).refs (Yf i1 k c hc)).keeps hlatR fun j hj=>⟨yZ j hj,rfl⟩⟩
 have hfs1:FS g' K ρ Hc w:=by
  have:Hc++ZT ρ ps=Hc:=by rw [eps];simp [ZT]
  rw [this] at hfs;exact hfs
 have hall1:YZ K w ρ Hc ars vs:=by
  have:Hc++ZT ρ ps=Hc:=by rw [eps];simp [ZT]
  rw [this] at hall;exact hall
 refine (hc.calls g' K ρ w _ (by subst hg';exact hw1) hfs1 hall1).mono fun e w' ⟨e1,K',ρ',hf''⟩=>?_
 subst e1
 have hf':FS g' K' ρ' (Hc'++ZT ρ ps) w':=by
  have:Hc'++ZT ρ ps=[]:=by rw [eps,eHc];simp [ZT]
  rw [this];exact hf''
 have hlat:Later K K' w w':=by subst hg';exact ⟨hf'.old,hf'.pt.kept⟩
 have hprot:∀ b,(g.pr b∨∃ i x,R.get i=some x∧x.live=true∧zY (ρ i)=some b)→b < w'.heap.size∧w'.heap[b]?=w.heap[b]?∧∀ o,K' b o↔K b o:=by subst hg';exact hf'.pt.same
 have haway:∀ i x b,Hc'.get i=some x→x.live=true→zY (ρ' i)=some b→¬ (g.pr b∨∃ i x,R.get i=some x∧x.live=true∧zY (ρ i)=some b):=by
  subst hg';exact fun i x b hi=>hf'.away i x b (by rw [get_append,hi])
 obtain ⟨ρ2,hρ2⟩:∃ ρ2:Nat→Value,∀ j,ρ2 j=if (Hc'.get j).isSome then ρ' j else ρ j:=⟨_,fun _=>rfl⟩
 have r1:∀ j,(Hc'.get j).isSome=true→ρ2 j=ρ' j:=fun j hj=>by rw [hρ2,if_pos hj]
 have r2:∀ j,Hc'.get j=none→ρ2 j=ρ j:=fun j hj=>by rw [hρ2,hj];rfl
 have hkC:∀ j,(HEnv.get Hc' j).isSome=true→(HEnv.get (Hc'++R) j).isSome=true∧ρ2 j=ρ' j:=fun j hj=>⟨yZ j hj,r1 j hj⟩
 have hps:∀ i∈ps,ρ' i=ρ i:=fun i hi=>by
  have hnone:Hc'.get (1000 + i)=none:=by
   cases hh:Hc'.get (1000 + i) with
   | none=>rfl
   | some x=>have:=VG d4 _ x hh;omega
  have:=hf'.heap.ok (1000 + i) _ (by rw [get_append,hnone];exact zeq hi)
  have this:ARel K' w' ρ' (Hc'++ZT ρ ps) (.own i) (ρ i):=this
  generalize hu:ρ i=u at this
  cases this with
  | own _ _=>rfl
 have hkR:∀ j,(HEnv.get (R++Vo ps) j).isSome=true→(HEnv.get (Hc'++R) j).isSome=true∧ρ2 j=ρ j:=fun j hj=>by
  rw [get_append] at hj
  cases hh:R.get j with
  | some x =>
   have hn:=nC' j x hh
   exact ⟨by rw [get_append,hn,hh];rfl,r2 j hn⟩
  | none =>
   rw [hh] at hj
   have hm:=zfe hj
   have hs':=(i7' j hm).2
   exact ⟨yZ j hs',by rw [r1 j hs',hps j hm]⟩
 have hfs2:FS g K' ρ2 (Hc'++R) w':=by
  have b1:Below g.w0.heap.size g.w0 w':=by subst hg';exact hf'.below
  have b3:∀ b o,K' b o→K b o∨g.w0.heap.size≤b:=by subst hg';exact hf'.new
  have b5:KeepsOthers g.w1 w':=by subst hg';exact hf'.others
  have bB:HRel K' w' g.w0.heap.size ρ' (Hc'++ZT ρ ps):=by subst hg';exact hf'.heap
  refine ⟨b1,fun b o h=>hlat.sub b o (hf.old b o h),fun b o hk=>(b3 b o hk).elim (hf.new b o) .inr,hf'.lt,b5,⟨fun b hb=>?_,fun b o h0=>(hlat.cell b o (hf.old b o h0)).trans (hf.pt.kept b o h0)⟩,fun i x b hi hl hb=>?_,fun i x hi=>?_,fun i j x y b hij hi hj lx ly bx bj=>?_⟩
  ·obtain ⟨p1,p2,p3⟩:=hprot b (.inl hb)
   obtain ⟨q1,q2,q3⟩:=hf.pt.same b hb
   exact ⟨p1,p2.trans q2,fun o=>(p3 o).trans (q3 o)⟩
  ·rw [get_append] at hi
   cases hh:Hc'.get i with
   | some y =>
    rw [hh] at hi;simp only [Option.some.injEq] at hi;subst hi
    rw [r1 i (by rw [hh];rfl)] at hb
    exact fun hp=>haway i y b hh hl hb (.inl hp)
   | none =>
    rw [hh] at hi
    rw [r2 i hh] at hb
    exact hf.away i x b (gR i x hi) hl hb
  ·rw [get_append] at hi
   cases hh:Hc'.get i with
   | some y =>
    rw [hh] at hi;simp only [Option.some.injEq] at hi;subst hi
    rw [r1 i (by rw [hh];rfl)]
    have hok:=bB.ok i y (by rw [get_append,hh])
    have hl':=Later.refl K' w'
    cases y with
    | cell v=>obtain ⟨b,t,arr,u,q1,q2,q3,q4,q5,q6⟩:=hok;exact ⟨b,t,arr,u,q1,q2,q3,(q4.refs (QE i3 i v hh)).keeps hl' hkC,q5,q6⟩
    | pin v u=>exact (ARel.refs hok (YJ i3 i v u hh)).keeps hl' hkC
    | row t sz es=>exact hok
    | mrow t sz es=>exact hok
    | dead=>exact hok
    | obj X=>exact hok
   | none =>
    rw [hh] at hi
    rw [r2 i hh]
    have hok:=hf.heap.ok i x (gR i x hi)
    have hsame:x.live=true→∀ b,zY (ρ i)=some b→w'.heap[b]?=w.heap[b]?∧∀ o,K' b o↔K b o:=fun hl b hb=>(hprot b (.inr ⟨i,x,hi,hl,hb⟩)).2
    cases x with
    | cell v =>
     obtain ⟨b,t,arr,u,q1,q2,q3,q4,q5,q6⟩:=hok
     obtain ⟨s1,s2⟩:=hsame rfl b (by rw [q1];rfl)
     exact ⟨b,t,arr,u,q1,q2,by rw [s1];exact q3,(q4.refs (QE i5 i v hi)).keeps hlat hkR,q5,fun o hk=>q6 o ((s2 o).1 hk)⟩
    | pin v u=>exact (ARel.refs hok (YJ i5 i v u hi)).keeps hlat hkR
    | row t sz es =>
     obtain ⟨xs,q1,q2,q3,q4⟩:=hok
     refine ⟨xs,Qj q1 fun b hb=>(hsame rfl b hb).1,q2,fun k e he=>?_,fun b hb o=>?_⟩
     ·obtain ⟨c1,c2⟩:=q3 k e he
      exact ⟨c1,fun k c hc=>let ⟨v,h4,h5,h6⟩:=c2 k c hc;⟨v,h4,h5,h6.later hlat⟩⟩
     ·rw [(hsame rfl b ((Xr q1 b).2 hb)).2 o];exact q4 b hb o
    | mrow t sz es =>
     obtain ⟨xs,q1,q2,q3,q4⟩:=hok
     refine ⟨xs,Qj q1 fun b hb=>(hsame rfl b hb).1,q2,fun k e he=>?_,fun b hb o hk=>?_⟩
     ·obtain ⟨c1,c2⟩:=q3 k e he
      exact ⟨c1,fun k c hc=>let ⟨v,h4,h5,h6⟩:=c2 k c hc;⟨v,h4,h5,h6.later hlat⟩⟩
     ·exact q4 b hb o (((hsame rfl b ((Xr q1 b).2 hb)).2 o).1 hk)
    | dead=>trivial
    | obj X =>
     obtain ⟨b,ob,q1,q2,q3,q4,q5⟩:=hok
     obtain ⟨s1,s2⟩:=hsame rfl b (by rw [q1];rfl)
     exact ⟨b,ob,q1,q2,by rw [s1];exact q3,q4,fun o hk=>q5 o ((s2 o).1 hk)⟩
  ·rw [get_append] at hi hj
   cases hhi:Hc'.get i with
   | some x' =>
    rw [hhi] at hi;simp only [Option.some.injEq] at hi;subst hi
    rw [r1 i (by rw [hhi];rfl)] at bx
    cases hhj:Hc'.get j with
    | some y' =>
     rw [hhj] at hj;simp only [Option.some.injEq] at hj;subst hj
     rw [r1 j (by rw [hhj];rfl)] at bj
     exact bB.apart i j x' y' b hij (by rw [get_append,hhi]) (by rw [get_append,hhj]) lx ly bx bj
    | none =>
     rw [hhj] at hj;rw [r2 j hhj] at bj
     exact haway i x' b hhi lx bx (.inr ⟨j,y,hj,ly,bj⟩)
   | none =>
    rw [hhi] at hi;rw [r2 i hhi] at bx
    cases hhj:Hc'.get j with
    | some y' =>
     rw [hhj] at hj;simp only [Option.some.injEq] at hj;subst hj
     rw [r1 j (by rw [hhj];rfl)] at bj
     exact haway j y' b hhj ly bj (.inr ⟨i,x,hi,lx,bx⟩)
    | none =>
     rw [hhj] at hj;rw [r2 j hhj] at bj
     exact hf.heap.apart i j x y b hij (gR i x hi) (gR j y hj) lx ly bx bj
 refine ⟨rfl,K',ρ2,?_,hlat,fun j hj=>(hkR j (yZ j hj)).2⟩
 have:Hc'++R=R:=by rw [eHc];rfl
 rw [this] at hfs2;exact hfs2
theorem zqy {xs:Array Operand} {ts:Array TypeId} {ars:List AV} {v:Value} (Hc R:HEnv) {lone:Bool} (hw1:lone=true→g.w1.heap.size=0) (hg:guardE ops env o=some true)
  (hop:o.op=.call { callee:=.value (.func f),args:=xs,argTypes:=ts }) (hargs:avs env xs.toList=some ars) (hsub:HSub H (Hc++R)) (hchk:znQ Hc R ars=true) (hc:ACallPan P f ars Hc v lone)
  (h:QQ (.panic [{ v:=v,recovered:=false }]) (zbq R env) R):AOX P n g ops.toArray (o::rest) env H QQ:=by
 refine ⟨fun a w hinv=>?_⟩
 have hw:=qE hinv hg
 obtain ⟨h1,h2,K,ρ,hf,he⟩:=hinv
 refine wpList_step fun KK hKK=>?_
 rw [if_pos hw]
 have hrun:(execOp a.eval o).run P w=.ok (.enter f (xs.toList.map a.eval).toArray) w:=by
  have e:(xs.toList.map a.eval).toArray=xs.map a.eval:=by rw [←Array.toList_map,Array.toArray_toList]
  rw [e]
  simp [execOp,hop,resolve,Act.eval,Deferred.ofValue,invoke,ZU hc.stands]
 unfold Oper.wp
 rw [hrun]
 simp only [Oper.upon]
 refine (zp5 Hc R hw1 hsub hchk hc hf (zcV (a:=a) he hargs)).mono fun e w' ⟨e1,K',ρ2,hf',hlat,hps⟩=>?_
 subst e1
 refine ⟨zbq R env,R,⟨h1,h2,K',ρ2,hf',fun t av ht=>?_⟩,.inr ⟨_,rfl⟩,h⟩
 rw [zca] at ht
 cases hE:env.get t with
 | none=>simp [hE] at ht
 | some v0 =>
  obtain ⟨u,u1,u2⟩:=he t v0 hE
  simp only [hE,Option.map_some,Option.some.injEq] at ht
  subst ht
  refine ⟨u,u1,?_⟩
  split
  ·rename_i hr;exact (u2.refs hr).keeps hlat fun j hj=>⟨hj,hps j hj⟩
  ·exact .any u
structure AWD (P:Program) (n:Nat) (ds0:List Deferred) (c:Code) (env:Env) (H:HEnv) (Q:List Deferred→QC):Prop where
 go:∀ (g:Base),g.ds=ds0→∀ a w,Inv n g env H a w→c.wp P (fun e a' w'=>∃ ds env' H',Inv n { g with ds:=ds } env' H' a' w'∧Q ds e env' H') a w
variable {Q:List Deferred→QC} {ds0:List Deferred}
theorem zgk (h:∀ g,AW P n g c env H (Q ds0)):AWD P n ds0 c env H Q :=
 ⟨fun g hg a w hi=>wp_mono (wpIn_wide.1 ((h g).go a w hi none 0)) fun e a' w' ⟨env',H',h1,h2⟩=>⟨g.ds,env',H',h1,by rw [hg];exact h2⟩⟩
theorem zgi (h:AWD P n ds0 x env H (fun ds=>zsW (fun env' H'=>AWD P n ds y env' H' Q) (Q ds))):AWD P n ds0 (.seq x y) env H Q :=
 ⟨fun g hg a w hi=>wp_seq (wp_mono (h.go g hg a w hi) fun e a' w' ⟨ds,env',H',h1,h2⟩=>by
  cases e <;> first
   | exact h2.go { g with ds:=ds } rfl a' w' h1
   | exact ⟨ds,env',H',h1,h2⟩)⟩
theorem zop (i j:Nat) {v:AV} (hi:H.get i=some (.cell v)) (hj:H.get j=none) (k:∀ p,AWD P n ds0 c env ((j,.pin (.box i 0) p)::H) Q):AWD P n ds0 c env H Q:=by
 refine ⟨fun g hg a w hinv=>?_⟩
 obtain ⟨g1,g2,K,ρ,hf,he⟩:=hinv
 obtain ⟨b,t,arr,u,q1,q2,q3,q4,q5,q6⟩:=hf.heap.ok i _ hi
 have hkk:∀ p m,(H.get m).isSome=true→(HEnv.get ((j,.pin (.box i 0) p)::H) m).isSome=true∧ρ m=ρ m:=by
  intro p m hm
  refine ⟨?_,rfl⟩
  rw [HEnv.get_cons];split <;> first|rfl|exact hm
 have hlive:∀ p m hh,HEnv.get ((j,.pin (.box i 0) p)::H) m=some hh→hh.live=true→H.get m=some hh:=by
  intro p m hh hm hl
  rw [HEnv.get_cons] at hm
  split at hm
  ·simp only [Option.some.injEq] at hm;subst hm;simp [HE.live] at hl
  ·exact hm
 refine (k (.pointer (some ⟨b,0,none⟩))).go g hg a w ⟨g1,g2,K,ρ,⟨hf.below,hf.old,hf.new,hf.lt,hf.others,hf.pt,fun m hh bb hm hl hb=>hf.away m hh bb (hlive _ m hh hm hl) hl hb,fun m hh hm=>?_,fun m m' hh hh' bb hmm hm hm' hl hl'=>hf.heap.apart m m' hh hh' bb hmm (hlive _ m hh hm hl) (hlive _ m' hh' hm' hl') hl hl'⟩,he.keeps (.refl K w) (hkk _)⟩
 rw [HEnv.get_cons] at hm
 split at hm
 ·simp only [Option.some.injEq] at hm;subst hm
  have hold:ARel K w ρ H (.box i 0) (.pointer (some ⟨b,0,none⟩)):=.box i 0 b (by rw [hi];rfl) q1
  exact hold.keeps (.refl K w) (hkk _)
 ·exact (hf.heap.ok m hh hm).keeps (.refl hf.lt) hf.lt (hkk _)
theorem zoh {i off:Nat} {u v:Value} (h:ARel K w ρ H (.box i off) u) (h':ARel K w ρ H (.box i off) v):u=v:=by
 cases h with
 | box _ _ b _ hb =>
  cases h' with
  | box _ _ b' _ hb'=>rw [hb] at hb';cases hb';rfl
def Qy (H:HEnv):List AV→List Value→Prop
 | [],[]=>True
 | .box i off::cs,p::ps=>(∃ m,H.get m=some (.pin (.box i off) p))∧Qy H cs ps
 | _,_=>False
theorem zb2 (hf:FS g K ρ H w):∀ {cs:List AV} {ps vs:List Value},Qy H cs ps→(vs.length=cs.length∧∀ (k:Nat) (c:AV) (v:Value),cs[k]?=some c→vs[k]?=some v→ARel K w ρ H c v)→vs=ps
 | [],[],vs,_,h=>List.eq_nil_of_length_eq_zero (by simpa using h.1)
 | [],_::_,_,h,_=>h.elim
 | .box i off::cs,[],_,h,_=>h.elim
 | .box i off::cs,p::ps,vs,h,hv=>by
  obtain ⟨⟨m,hm⟩,h2⟩:=h
  cases vs with
  | nil=>simp at hv
  | cons v vs =>
   have h1:=hv.2 0 _ v rfl rfl
   have h3:ARel K w ρ H (.box i off) p:=hf.heap.ok m _ hm
   have e1:=zoh h1 h3
   have e2:=zb2 (vs:=vs) hf h2 ⟨by simpa using hv.1,fun k c u hc hu=>hv.2 (k + 1) c u (by simpa using hc) (by simpa using hu)⟩
   rw [e1,e2]
 | .pv _::_,_,_,h,_=>h.elim
 | .own _::_,_,_,h,_=>h.elim
 | .ad _ _::_,_,_,h,_=>h.elim
 | .agg _::_,_,_,h,_=>h.elim
 | .fn _ _ _::_,_,_,h,_=>h.elim
 | .any::_,_,_,h,_=>h.elim
 | .any1::_,_,_,h,_=>h.elim
theorem Vf (hf:FS g K ρ H w):∀ {cs:List AV} {ps:List Value},Qy H cs ps→YZ K w ρ H cs ps
 | [],[],_=>⟨rfl,fun k c v h=>by simp at h⟩
 | [],_::_,h=>h.elim
 | .box i off::cs,[],h=>h.elim
 | .box i off::cs,p::ps,h=>by
  obtain ⟨⟨m,hm⟩,h2⟩:=h
  obtain ⟨q1,q2⟩:=Vf hf h2
  refine ⟨by simp [q1],fun k c v hc hv=>?_⟩
  cases k with
  | zero=>simp at hc hv;subst hc hv;exact hf.heap.ok m _ hm
  | succ k=>simp at hc hv;exact q2 k c v hc hv
 | .pv _::_,_,h=>h.elim
 | .own _::_,_,h=>h.elim
 | .ad _ _::_,_,h=>h.elim
 | .agg _::_,_,h=>h.elim
 | .fn _ _ _::_,_,h=>h.elim
 | .any::_,_,h=>h.elim
 | .any1::_,_,h=>h.elim
structure DCall (P:Program) (f:FuncId) (H:HEnv) (args:List AV) (u u':FrameMode) (H':HEnv):Prop where
 stands:zbV P f
 calls:∀ (g:Base) (K:KK) (ρ:Nat→Value) (w:World) (vs:List Value),FS g K ρ H w→YZ K w ρ H args vs →
  CallsD P f vs.toArray u w fun e m w'=>(∃ v,e=.returned v)∧m=u'∧∃ K' ρ',FS g K' ρ' H' w'
def zdI:Exit→Option FrameMode
 | .normal=>some .returning
 | .ret=>some .returning
 | .panic ch=>some (.panicking ch)
 | _=>none
def Yy:List Nat→List AV→Env
 | t::ts,c::cs=>(t,c)::Yy ts cs
 | _,_=>[]
def DQ (P:Program) (tb:Tab) (rs:List ResultVar) (r:PV) (ex:Exit) (env:Env) (H:HEnv):List Deferred→Prop
 | []=>zpI tb rs r ex env H
 | [d]=>∃ (mode u':FrameMode) (f:FuncId) (slots:List Nat) (caps:List AV) (ps:List Value) (Hn H':HEnv) (rp:List PV),zdI ex=some mode∧d={ target:=.fn (.func f) ps.toArray,args:=#[] }∧Wn H Hn (Yy slots caps)∧Qy Hn caps ps∧Qy H' caps ps ∧
   DCall P f Hn caps mode u' H'∧settle u'=.returning∧slots.length=caps.length∧slots.Nodup∧Sub env (Yy slots caps)∧zaJ tb H' (Yy slots caps) rs=some rp∧zk rp=r
 | _=>False
theorem zoU {id k t:Nat} {l1:List Oper} {oD:Oper} {ts:Array TypeId} (h1:ops.take k=l1) (h2:ops.drop k=[oD]) (hop:oD.op=.defer { callee:=.value (.tmp t),args:=#[],argTypes:=ts }) (hg:oD.guard=none) (hd:oD.dst=none)
  (h:∀ g,AO P n g ops.toArray l1 env H (fun env' H'=>∃ f caps ps,env'.get t=some (.fn (.func f) [] caps)∧Qy H' caps ps∧Q ({ target:=.fn (.func f) ps.toArray,args:=#[] }::ds0) .normal env' H')) :
  AWD P n ds0 (.region id ops.toArray false) env H Q:=by
 refine ⟨fun g hgd a w hi=>wp_region_lit ?_⟩
 rw [←List.take_append_drop k ops,h1,h2]
 have e0:(l1++[oD]).toArray=ops.toArray:=by rw [←h1,←h2,List.take_append_drop]
 rw [e0]
 refine Ws (ZJ (fun e a' w' hh=>?_) ((h g).go a w hi))
 obtain ⟨env',H',hi',he,f,caps,ps,hget,hpin,hQ⟩:=hh
 refine ⟨he,?_⟩
 unfold wpList
 have hw:Region.wanted oD (yielded ops.toArray a'.tmps)=true:=by simp [Region.wanted,hg]
 rw [if_pos hw]
 refine .inl ?_
 obtain ⟨g1,g2,K,ρ,hf,hE⟩:=hi'
 obtain ⟨v,v1,v2⟩:=hE t _ hget
 cases v2 with
 | fn _ _ _ vf vc a1 a2 a3 a4 =>
  have hvc:=zb2 hf hpin ⟨a2,a4⟩
  have hvf:vf=[]:=List.eq_nil_of_length_eq_zero (by simpa using a1)
  subst hvc hvf
  have hev:a'.eval (.tmp t)=.func (.func f) #[] vc.toArray:=by
   simp [Act.eval,Array.getD_eq_getD_getElem?,v1]
  unfold Oper.wp
  have hrun:(execOp a'.eval oD).run P w'=.ok (.defer { target:=.fn (.func f) vc.toArray,args:=#[] }) w':=by
   simp [execOp,hop,resolve,hev,Deferred.ofValue]
  rw [hrun]
  simp only [Oper.upon,hd,Act.put]
  unfold wpList
  exact ⟨({ target:=.fn (.func f) vc.toArray,args:=#[] }:Deferred)::ds0,env',H',⟨g1,by simp [g2,hgd],K,ρ,⟨hf.below,hf.old,hf.new,hf.lt,hf.others,⟨hf.pt.same,hf.pt.kept⟩,hf.away,hf.heap⟩,hE⟩,hQ⟩
theorem ziV (hf:FS g K ρ H w):∀ {slots:List Nat} {caps:List AV} {ps:List Value} {tmps:Array Value},Qy H caps ps→EnvR K w ρ H (Yy slots caps) tmps→slots.length=caps.length→slots.Nodup→∀ (k t:Nat) (p:Value),slots[k]?=some t→ps[k]?=some p→tmps[t]?=some p
 | [],caps,ps,tmps,_,_,_,_=>fun k t p h=>by simp at h
 | s::slots,[],ps,tmps,_,_,hl,_=>by simp at hl
 | s::slots,c::caps,[],tmps,hp,_,_,_=>by cases c <;> exact hp.elim
 | s::slots,c::caps,q::ps,tmps,hp,hE,hl,hnd=>by
  rw [List.nodup_cons] at hnd
  intro k t p hk hpk
  have hc:∃ i off,c=.box i off:=by cases c <;> first|exact ⟨_,_,rfl⟩|exact hp.elim
  obtain ⟨i,off,rfl⟩:=hc
  obtain ⟨⟨m,hm⟩,hp2⟩:=hp
  cases k with
  | zero =>
   simp at hk hpk;subst hk hpk
   obtain ⟨v,v1,v2⟩:=hE s (.box i off) (by simp [Yy,Env.get_cons])
   rw [v1,zoh v2 (hf.heap.ok m _ hm)]
  | succ k =>
   simp at hk hpk
   refine ziV (slots:=slots) (caps:=caps) (ps:=ps) hf hp2 (fun t' av hg=>?_) (by simpa using hl) hnd.2 k t p hk hpk
   have hne:s≠t':=by
    rintro rfl
    have key:∀ {slots:List Nat} {caps:List AV} {av:AV},(Yy slots caps).get s=some av→s∈slots:=by
     intro slots
     induction slots with
     | nil=>intro caps av h;simp [Yy,Env.get_nil] at h
     | cons x xs ih =>
      intro caps av h
      cases caps with
      | nil=>simp [Yy,Env.get_nil] at h
      | cons y ys =>
       rw [Yy,Env.get_cons] at h
       split at h
       ·rename_i e;simp [e]
       ·exact List.mem_cons_of_mem _ (ih h)
    exact hnd.1 (key hg)
   exact hE t' av (by rw [Yy,Env.get_cons,if_neg hne];exact hg)
theorem ziK:∀ {slots:List Nat} {caps:List AV} {ps:List Value} {tmps:Array Value},YZ K w ρ H caps ps→slots.length=caps.length→(∀ (k t:Nat) (p:Value),slots[k]?=some t→ps[k]?=some p→tmps[t]?=some p)→EnvR K w ρ H (Yy slots caps) tmps
 | [],caps,ps,tmps,_,_,_=>fun t av h=>by simp [Yy,Env.get_nil] at h
 | s::slots,[],ps,tmps,_,hl,_=>by simp at hl
 | s::slots,c::caps,ps,tmps,hr,hl,hk=>fun t av h=>by
  cases ps with
  | nil=>have:=hr.1;simp at this
  | cons p ps =>
   rw [Yy,Env.get_cons] at h
   split at h
   ·rename_i e;subst e
    simp only [Option.some.injEq] at h;subst h
    exact ⟨p,hk 0 s p rfl rfl,hr.2 0 c p rfl rfl⟩
   ·exact ziK (slots:=slots) (caps:=caps) (ps:=ps) ⟨by simpa using hr.1,fun k c u hc hu=>hr.2 (k + 1) c u (by simpa using hc) (by simpa using hu)⟩ (by simpa using hl) (fun k t p h1 h2=>hk (k + 1) t p (by simpa using h1) (by simpa using h2)) t av h
theorem zoS (htb:qp P tb) {args:List PV} {r:PV} {fn:Func} {c:Code} (hf:P.funcs[f]?=some fn) (hb:fn.body=some c) (hn:(fn.name == "runtime.NumGoroutine")=false) (hnt:fn.ntmps=n) (hargs:args.length≤n)
  (rs:List ResultVar) (hrs:fn.results.toList=rs) (h:lensOk args→AWD P n [] c (zfm 0 args) [] (fun ds ex env H=>DQ P tb rs r ex env H ds)):ACall P f args r:=by
 refine ⟨⟨fn,hf,by simp [hb],hn⟩,fun K w vs hl hv=>?_⟩
 refine calls_of_wp_defers hf hb ?_
 have hlen:vs.length=args.length:=hv.1
 refine wp_mono ((h hv.lensOk).go (Base.of w K (bare w) []) rfl _ w ⟨by simp [hnt];omega,rfl,K,fun _=>undef,⟨.refl _ _,fun _ _ h=>h,fun _ _ h=>.inl h,hl,WX _ _,.base,.none _ _,⟨by simp [HEnv.get_nil,HEnv.get_cons],by simp [HEnv.get_nil,HEnv.get_cons]⟩⟩,?_⟩) ?_
 ·intro t av hg
  obtain ⟨_,p,hp,rfl⟩:=za2 args 0 t av hg
  have hlt:t < vs.length:=by rw [hlen];exact (List.getElem?_eq_some_iff.1 hp).1
  refine ⟨vs[t],?_,.pv _ _ (hv.2 t p _ hp (List.getElem?_eq_getElem hlt))⟩
  rw [Array.getElem?_append_left (by simpa using hlt)]
  simp [hlt]
 ·rintro e a' w' ⟨ds,env1,H',hi,hq⟩
  have fin:∀ (ds:List Deferred) {K':KK} {ρ':Nat→Value} {H2:HEnv} {env2:Env} {w2:World} {rp:List PV},FS { Base.of w K (bare w) [] with ds:=ds } K' ρ' H2 w2→EnvR K' w2 ρ' H2 env2 a'.tmps→zaJ tb H2 env2 rs=some rp →
    ∃ v,(results fn a'.tmps).run P w2=.ok v w2∧(∃ K'',Evo K K'' w w2∧PRel K'' w2 (zk rp) v):=by
   intro ds K' ρ' H2 env2 w2 rp hf' he' hps
   obtain ⟨us,hrun,hru⟩:=za7 htb hf' he' hps
   have hev:Evo K K' w w2:=⟨hf'.below,hf'.old,hf'.new,hf'.lt⟩
   have hres:(results fn a'.tmps).run P w2=.ok (if hh:us.toArray.size=1 then us.toArray[0] else .tuple us.toArray) w2:=by
    unfold results
    rw [Array.mapM_eq_mapM_toList,hrs]
    simp only [Sem.run_bind,Sem.run_map]
    erw [hrun]
    rfl
   refine ⟨_,hres,K',hev,?_⟩
   split
   ·rename_i hh
    have hl1:=hru.1
    have hu:us.length=1:=by simpa using hh
    obtain ⟨u,rfl⟩:=List.length_eq_one_iff.1 hu
    obtain ⟨p,rfl⟩:=List.length_eq_one_iff.1 (show rp.length=1 by omega)
    exact hru.2 0 p u (by simp) (by simp)
   ·rename_i hh
    simp at hh
    have:zk rp=.tup rp:=by
     unfold zk
     split
     ·rename_i p;exact absurd (by have:=hru.1;simpa using this) hh
     ·rfl
    rw [this]
    exact .tup rp us hru.1 hru.2
  match ds,hi,hq with
  | [],hi,hq =>
   obtain ⟨i1,i2,K',ρ',hf',he0⟩:=hi
   obtain ⟨he,env',hent,ps,hps,rfl⟩:=hq
   have he':EnvR K' w' ρ' H' env' a'.tmps:=fun t av ht=>by
    obtain ⟨av0,q1,q2⟩:=hent t av ht
    obtain ⟨v,v1,v2⟩:=he0 t av0 q1
    exact ⟨v,v1,q2 _ _ _ _ _ v2⟩
   obtain ⟨v,hres,K'',hev,hval⟩:=fin _ hf' he' hps
   have i2':a'.defers=[]:=i2
   rcases he with rfl|rfl <;> (simp only [bodyPostD,i2'];exact ⟨v,hres,v,K'',rfl,hev,hval⟩)
  | [d],hi,hq =>
   obtain ⟨mode,u',f2,slots,caps,ps,Hn,H2,rp,hm,rfl,hfit,hb1,hb2,hD,hset,hsl,hnd,hsub,hrp,rfl⟩:=hq
   obtain ⟨i1,i2,K',ρ',hf',hE⟩:=(hi.sub hsub).hsub hfit
   have i2':a'.defers=[{ target:=.fn (.func f2) ps.toArray,args:=#[] }]:=i2
   have hslots:=ziV hf' hb1 hE hsl hnd
   have key:mode≠.run→Leaves P fn a'.tmps (fun e w'=>∃ v K',e=.returned v∧Evo K K' w w'∧PRel K' w' (zk rp) v) [{ target:=.fn (.func f2) ps.toArray,args:=#[] }] mode w':=by
    intro hmr
    refine leaves_cons hmr (f:=f2) (args:=ps.toArray) (by simp [invoke,ZU hD.stands]) ?_
    refine (hD.calls _ K' ρ' w' ps hf' (Vf hf' hb1)).mono ?_
    rintro e m w2 ⟨⟨v0,rfl⟩,rfl,K2,ρ2,hf2⟩
    obtain ⟨v,hres,K'',hev,hval⟩:=fin _ hf2 (ziK (Vf hf2 hb2) hsl hslots) hrp
    simp only [hset]
    exact ⟨v,hres,v,K'',rfl,hev,hval⟩
   cases e with
   | normal=>simp only [zdI,Option.some.injEq] at hm;subst hm;simp only [bodyPostD,i2'];exact key (by simp)
   | ret=>simp only [zdI,Option.some.injEq] at hm;subst hm;simp only [bodyPostD,i2'];exact key (by simp)
   | panic ch=>simp only [zdI,Option.some.injEq] at hm;subst hm;simp only [bodyPostD,i2'];exact key (by simp)
   | exit id=>simp [zdI] at hm
   | goto l=>simp [zdI] at hm
   | outgrown=>simp [zdI] at hm
  | _::_::_,_,hq=>exact hq.elim
theorem zfW {caps:List AV} {u u':FrameMode} {fn:Func} {c:Code} (hf:P.funcs[f]?=some fn) (hb:fn.body=some c) (hn:(fn.name == "runtime.NumGoroutine")=false) (hrs:fn.results=#[])
  (h:∀ (g:Base) (K:KK) (ρ:Nat→Value) (w:World) (vs:List Value),g.ds=[]→FS g K ρ H w→YZ K w ρ H caps vs→∀ (c₀:Frame) (cs:List Frame),c₀.mode=u →
   c.wpS P (fun ex a' cs' w'=>(ex=.normal∨ex=.ret)∧a'.defers=[]∧cs'={ c₀ with mode:=u' }::cs∧∃ K' ρ',FS g K' ρ' H' w') { tmps:=vs.toArray++Array.replicate (fn.ntmps - vs.length) undef,defers:=[] } (c₀::cs) w):DCall P f H caps u u' H':=by
 refine ⟨⟨fn,hf,by simp [hb],hn⟩,fun g0 K ρ w vs hfs0 hv=>?_⟩
 obtain ⟨g,hg0⟩:∃ g:Base,g=⟨g0.w0,g0.K0,g0.w1,[],g0.wp,g0.pr⟩:=⟨_,rfl⟩
 have hfs:FS g K ρ H w:=by subst hg0;exact ⟨hfs0.below,hfs0.old,hfs0.new,hfs0.lt,hfs0.others,⟨hfs0.pt.same,hfs0.pt.kept⟩,hfs0.away,hfs0.heap⟩
 refine callsD_of_wpS hf hb fun c₀ cs hu=>?_
 have hh:=h g K ρ w vs (by subst hg0;rfl) hfs hv c₀ cs hu
 intro b k hb1 hb2
 obtain ⟨e,a',cs',w',hq,harr⟩:=hh b k hb1 hb2
 refine ⟨e,a',cs',w',?_,by simpa using harr⟩
 obtain ⟨he,hd,hcs,K',ρ',hf'⟩:=hq
 have hf2:FS g0 K' ρ' H' w':=by subst hg0;exact ⟨hf'.below,hf'.old,hf'.new,hf'.lt,hf'.others,⟨hf'.pt.same,hf'.pt.kept⟩,hf'.away,hf'.heap⟩
 have hres:(results fn a'.tmps).run P w'=.ok (.tuple #[]) w':=by simp [results,hrs]
 rcases he with rfl|rfl <;> exact ⟨hd,u',hcs,_,hres,⟨_,rfl⟩,rfl,K',ρ',hf2⟩
theorem zrA {QS:Exit→Act→List Frame→World→Prop} {cs:List Frame} (h:AW P n g c env H QQ) (hi:Inv n g env H a w) (hq:∀ e a' w' env' H',Inv n g env' H' a' w'→QQ e env' H'→QS e a' cs w'):c.wpS P QS a cs w :=
 wpS_of_wp (wp_mono (wpIn_wide.1 (h.go a w hi none 0)) fun e a' w' ⟨env',H',h1,h2⟩=>hq e a' w' env' H' h1 h2)
theorem zrz (htb:qp P tb) {ty:Nat} {z:Value} (hz:tb.zero ty=some z):(zeroValue ty).run P w=.ok z w:=by
 have hzi:∃ i:TypeInfo,P.info? ty=some i∧i.zero=some z:=by
  unfold Tab.zero at hz
  split at hz
  ·rename_i ti hti
   obtain ⟨i,e1,_,_,e4,_⟩:=ZH htb hti
   exact ⟨i,e1,by rw [e4];exact hz⟩
  ·cases hz
 obtain ⟨ti,hti,htz⟩:=hzi
 simp [zeroValue,typeInfo,hti,htz]
theorem zjh {i:Nat} {v v':AV} (hi:H.get i=some (.cell v)) (ht:Tells v v') (h:Inv n g env H a w):Inv n g env ((i,.cell v')::H) a w:=by
 obtain ⟨g1,g2,K,ρ,hf,he⟩:=h
 have hsame:∀ j,HEnv.get ((i,HE.cell v)::H) j=H.get j:=fun j=>by
  rw [HEnv.get_cons]
  split
  ·rename_i e;subst e;exact hi.symm
  ·rfl
 have hk:∀ j,(H.get j).isSome=true→(HEnv.get ((i,HE.cell v)::H) j).isSome=true∧ρ j=ρ j:=fun j hj=>⟨by rw [hsame];exact hj,rfl⟩
 have hf1:FS g K ρ ((i,.cell v)::H) w:=by
  refine ⟨hf.below,hf.old,hf.new,hf.lt,hf.others,hf.pt,fun j x b hj=>hf.away j x b (by rw [←hsame];exact hj),fun j x hj=>?_,fun j j' x x' b hjj hj hj'=>hf.heap.apart j j' x x' b hjj (by rw [←hsame];exact hj) (by rw [←hsame];exact hj')⟩
  rw [hsame] at hj
  exact (hf.heap.ok j x hj).keeps (.refl hf.lt) hf.lt hk
 have hk2:∀ j,(H.get j).isSome=true→(HEnv.get ((i,HE.cell v')::H) j).isSome=true∧ρ j=ρ j:=fun j hj=>⟨by
  rw [HEnv.get_cons];split <;> first|rfl|exact hj,rfl⟩
 exact ⟨g1,g2,K,ρ,zgp hf1 ht,he.keeps (.refl K w) hk2⟩
theorem zfw (i:Nat) {v v':AV} (hi:H.get i=some (.cell v)) (ht:Tells v v') (k:AW P n g c env ((i,.cell v')::H) QQ):AW P n g c env H QQ:=⟨fun a w hinv=>k.go a w (zjh hi ht hinv)⟩
theorem ziW (cs:List PV):Tells (.pv (.agg cs)) (.agg (cs.map .pv)):=fun K w ρ H v h=>by
 cases h with
 | pv _ _ hp =>
  cases hp with
  | agg _ vs h1 h2 h3 =>
   refine .agg _ vs (by simpa using h1) h2 fun k c v hc hv=>?_
   rw [List.getElem?_map] at hc
   cases hcs:cs[k]? with
   | none=>simp [hcs] at hc
   | some p=>simp [hcs] at hc;subst hc;exact .pv _ _ (h3 k p v hcs hv)
end
end Go.Cg
namespace Go.Cg
open Go.Proofs
set_option maxHeartbeats 20000000
theorem zhm {P:Program} {t xt:TypeId} {k0:IntKind} {v:Value} {w:World} (hu:P.underlying t=some (.int k0)):(Instr.typeAssert (.iface t v) xt t true).run P w=.ok (.tuple #[v,.bool true]) w:=by
 simp [Instr.typeAssert,run_underlying hu]
theorem zgb {P:Program} {t xt:TypeId} {k0:IntKind} {z:Value} {w:World} (hu:P.underlying t=some (.int k0)) (hz:(zeroValue t).run P w=.ok z w):(Instr.typeAssert .nilIface xt t true).run P w=.ok (.tuple #[z,.bool false]) w:=by
 simp [Instr.typeAssert,run_underlying hu,hz]
abbrev rbH (o e:PV) (p1 p2:Value):HEnv:=[(1,.cell (.pv o)),(2,.cell (.pv e)),(2001,.pin (.box 1 0) p1),(2002,.pin (.box 2 0) p2)]
theorem za6 {K:KK} {w:World} {ρ:Nat→Value} {H:HEnv} {env:Env} {tmps:Array Value} {t:Nat} {av:AV} {v:Value} (h1:tmps[t]?=some v) (h2:ARel K w ρ H av v) (h:EnvR K w ρ H env tmps):EnvR K w ρ H ((t,av)::env) tmps:=fun t' av' hg=>by
 rw [Env.get_cons] at hg
 split at hg
 ·rename_i e;subst e;simp only [Option.some.injEq] at hg;subst hg;exact ⟨v,h1,h2⟩
 ·exact h t' av' hg
theorem zme {K:KK} {w:World} {ρ:Nat→Value} {H:HEnv} {tmps:Array Value}:EnvR K w ρ H [] tmps:=fun t av h=>by simp [Env.get_nil] at h
def ztQ (H2:HEnv):QC:=fun ex _ H=>(ex=.normal∨ex=.ret)∧Wn H H2 []
theorem zqB {n:Nat} {g:Base} {env:Env} {H H2:HEnv} {a:Act} {w:World} (hi:Inv n g env H a w) (hf:Wn H H2 []):∃ K ρ,FS g K ρ H2 w:=by
 obtain ⟨_,_,K,ρ,h,_⟩:=hi
 exact ⟨K,ρ,h.narrow hf⟩
theorem zlB {α:Type} {l:List α} (h:l.length=2):∃ a b,l=[a,b]:=by
 match l,h with
 | [a,b],_=>exact ⟨a,b,rfl⟩
theorem zoZ (p1 p2:Value) (e:Int):DCall Tryz.prog 53 (rbH (.base (.slice none 0 0)) (pi 0) p1 p2) [.box 1 0,.box 2 0] (.panicking [{ v:=flt e,recovered:=false }]) (.panicking [{ v:=flt e,recovered:=true }]) (rbH (.base (.slice none 0 0)) (pi e) p1 p2):=by
 refine zfW Tryz.func53 rfl (by kernel_rfl) rfl (fun g K ρ w vs hds hf hv c₀ cs hu=>?_)
 obtain ⟨v1,v2,rfl⟩:=zlB hv.1
 have r1:=hv.2 0 _ v1 rfl rfl
 have r2:=hv.2 1 _ v2 rfl rfl
 refine wpS_seq ?_
 refine wpS_region ?_
 have h1:=zhm (P:=Tryz.prog) (xt:=20) (v:=.int .i64 e) (w:=w) Tryz.underlying108
 simp [wpOpsS,go_sem,recoverD,hu,Tryz.ntmps53,Exit.thenS,flt,h1]
 refine zrA (n:=11) (g:=g) (env:=[(0,.box 1 0),(1,.box 2 0),(2,.pv (pi e)),(3,.pv (pb true))]) (H:=rbH (.base (.slice none 0 0)) (pi 0) p1 p2) (QQ:=ztQ (rbH (.base (.slice none 0 0)) (pi e) p1 p2)) ?_
  ⟨by simp,by rw [hds],K,ρ,hf,za6 (v:=v1) (by simp) r1 (za6 (v:=v2) (by simp) r2 (za6 (v:=.int .i64 e) (by simp) (.pv _ _ (.base _ rfl)) (za6 (v:=.bool true) (by simp) (.pv _ _ (.base _ rfl)) zme)))⟩
  (fun ex a' w' env' H' hi hq=>⟨hq.1,hi.defers.trans hds,rfl,zqB hi hq.2⟩)
 repeat' (first|refine sK ?_|refine sC (fun _=>?_) (fun _=>?_)|fail)
 exact ⟨.inl rfl,tH⟩
theorem zmG (o e:PV) (p1 p2:Value):DCall Tryz.prog 53 (rbH o e p1 p2) [.box 1 0,.box 2 0] .returning .returning (rbH o e p1 p2):=by
 refine zfW Tryz.func53 rfl (by kernel_rfl) rfl (fun g K ρ w vs hds hf hv c₀ cs hu=>?_)
 obtain ⟨v1,v2,rfl⟩:=zlB hv.1
 refine wpS_seq ?_
 refine wpS_region ?_
 have hz:=zrz (P:=Tryz.prog) (w:=w) (z:=.int .i64 0) zf (ty:=108) rfl
 have h1:=zgb (P:=Tryz.prog) (xt:=20) (w:=w) Tryz.underlying108 hz
 simp [wpOpsS,go_sem,recoverD,hu,Tryz.ntmps53,Exit.thenS,h1]
 refine zrA (n:=11) (g:=g) (env:=[(3,.pv (pb false))]) (H:=rbH o e p1 p2) (QQ:=ztQ (rbH o e p1 p2)) ?_
  ⟨by simp,by rw [hds],K,ρ,hf,za6 (v:=.bool false) (by simp) (.pv _ _ (.base _ rfl)) zme⟩
  (fun ex a' w' env' H' hi hq=>⟨hq.1,hi.defers.trans hds,by cases c₀;simp_all,zqB hi hq.2⟩)
 repeat' (first|refine sK ?_|refine sC (fun _=>?_) (fun _=>?_)|fail)
 exact ⟨.inl rfl,tH⟩
def whole (t:Ty):Bool:=t.kind != 6||t.ref||decide (0 < t.dims)
def ZQ (g:Img) (t:Int):List Fd:=g.fields.filter fun f=>f.owner==t&&!f.static
def intTy:Ty:=⟨2,0,0,false⟩
def Va (g:Img):Nat→Ty→List Ty
 | 0,_=>[]
 | n + 1,t=>if t.kind==1 then [] else if whole t then [t] else
   if ((ZQ g t.index).flatMap fun f=>Va g n f.ty).length=0 then [intTy] else (ZQ g t.index).flatMap fun f=>Va g n f.ty
def Dp (g:Img):Nat→Ty→Prop
 | 0,t=>whole t=true
 | n + 1,t=>whole t=true∨∀ f∈ZQ g t.index,Dp g n f.ty
theorem Dp.whole {g:Img} {t:Ty} (h:Cg.whole t=true):∀ n,Dp g n t
 | 0=>h
 | _ + 1=>.inl h
theorem zcj {α β:Type} {l:List α} {f h:α→List β} (hh:∀ x∈l,f x=h x):l.flatMap f=l.flatMap h:=by
 induction l with
 | nil=>rfl
 | cons x l ih=>rw [List.flatMap_cons,List.flatMap_cons,hh x (by simp),ih (fun y hy=>hh y (by simp [hy]))]
theorem zfp {g:Img}:∀ (n:Nat) (t:Ty),Dp g n t→∀ m,n < m→Va g m t=Va g (n + 1) t
 | 0,t,h,m,hm=>by
  obtain ⟨k,rfl⟩:∃ k,m=k + 1:=⟨m - 1,by omega⟩
  have hwt:whole t=true:=h
  rw [Va,Va,hwt];rfl
 | n + 1,t,h,m,hm=>by
  obtain ⟨k,rfl⟩:∃ k,m=k + 1:=⟨m - 1,by omega⟩
  rw [Va,Va]
  rcases h with h|h
  ·rw [h];rfl
  ·rw [zcj (fun f hf=>zfp n f.ty (h f hf) k (by omega))]
def Zt (g:Img) (t:Ty):List Ty:=Va g (g.types.length + 2) t
def fcs (g:Img) (l:List Fd):List Ty:=l.flatMap fun f=>Zt g f.ty
theorem zkR (g:Img) (f:Fd) (l:List Fd):fcs g (f::l)=Zt g f.ty++fcs g l:=rfl
theorem zg3 (g:Img) (l m:List Fd):fcs g (l++m)=fcs g l++fcs g m:=by simp [fcs]
def qx (g:Img) (t:Ty):Bool :=
 Zw t&&(if t.kind==5 then zN g t.index==0||zN g t.index==2||zN g t.index==3 else t.kind != 6||zN g t.index==1)
def Ya (g:Img):Bool:=(List.range g.fields.length).all fun i=>qx g (g.fields.getD i default).ty
theorem znj {g:Img} {t:Ty} (h:qx g t=true) (hw:whole t=false):t.kind=6∧t.ref=false∧t.dims=0∧zN g t.index=1:=by
 simp only [whole,Bool.or_eq_false_iff,bne_eq_false_iff_eq,decide_eq_false_iff_not] at hw
 obtain ⟨⟨h1,h2⟩,h3⟩:=hw
 rw [qx,Bool.and_eq_true] at h
 obtain ⟨hp,hk⟩:=h
 have hd:0≤t.dims:=by
  unfold Zw at hp
  split at hp
  ·cases hp
  ·rename_i hc;simp only [Bool.or_eq_true,decide_eq_true_eq,not_or] at hc;omega
 have hk':zN g t.index=1:=by simpa [h1] using hk
 exact ⟨h1,h2,by omega,hk'⟩
theorem zmo {g:Img} (h:Ya g=true) {f:Fd} (hf:f∈g.fields):qx g f.ty=true:=by
 obtain ⟨k,hk,rfl⟩:=List.getElem_of_mem hf
 have:=List.all_eq_true.1 h k (by simpa using hk)
 rwa [zL hk] at this
theorem zfg {g:Img} (hf:yg g=true) {f:Fd} (h:f∈g.fields):0≤f.owner∧f.owner < g.types.length∧QG f.ty 1 g.types.length=true:=by
 obtain ⟨k,hk,rfl⟩:=List.getElem_of_mem h
 simp only [yg,Bool.and_eq_true,List.all_eq_true] at hf
 have:=hf.1.2 k (by simpa using hk)
 rw [zkv hk] at this
 simp only [Bool.and_eq_true,decide_eq_true_eq] at this
 exact ⟨this.1.1.1.2,this.1.1.2,this.2⟩
theorem zsJ {g:Img} (hf:yg g=true) {u:Int} {f:Fd} (h:f∈ZQ g u) (hu:qx g f.ty=true) (hw:whole f.ty=false):f.ty.index∈partsOf g u:=by
 obtain ⟨h1,_,h3,h4⟩:=znj hu hw
 obtain ⟨hm,hc⟩:=List.mem_filter.1 h
 simp only [Bool.and_eq_true,beq_iff_eq,Bool.not_eq_true'] at hc
 obtain ⟨ho,hs⟩:=hc
 obtain ⟨o0,o1,_⟩:=zfg hf hm
 obtain ⟨k,hk,rfl⟩:=List.getElem_of_mem hm
 have hgk:g.fields.getD ((k:Int)).toNat default=g.fields[k]:=by rw [Int.toNat_natCast,zL hk]
 rw [partsOf,List.mem_map]
 refine ⟨(k:Int),List.mem_filter.2 ⟨List.mem_filter.2 ⟨zhM.2 ⟨by omega,by omega⟩,?_⟩,?_⟩,by rw [hgk]⟩
 ·rw [hgk,WW (by omega),ho];simp
 ·rw [zck,hgk];simp [h1,hs,h3,h4]
theorem zrh {g:Img} {p u:Int} (h:Rch (partsOf g) (partsOf g p) u):zN g u=1:=by
 have key:∀ q,u∈partsOf g q→zN g u=1:=by
  intro q hq
  simp only [partsOf,List.mem_map,List.mem_filter,zck,Bool.and_eq_true,beq_iff_eq] at hq
  obtain ⟨i,⟨_,_,hk⟩,rfl⟩:=hq
  exact hk
 cases h with
 | base _ hx=>exact key _ hx
 | step x _ _ hy=>exact key _ hy
theorem znT {g:Img} (hf:yg g=true) (hu:Ya g=true) (hz:∀ u:Int,zN g u=1→u∉zmh g u):∀ (n:Nat) (path:List Int) (t:Ty),path.Nodup→(∀ p∈path,0≤p∧p < g.types.length)→g.types.length + 1≤path.length + n →
  (∀ p∈path,Rch (partsOf g) (partsOf g p) t.index)→Dp g n t
 | 0,path,t,h1,h2,h3,h4=>by have:=Zu _ _ h1 h2;omega
 | n + 1,path,t,h1,h2,h3,h4=>by
  cases hw:whole t
  ·refine .inr fun f hfo=>?_
   cases hwf:whole f.ty
   ·have hm:=(List.mem_filter.1 hfo).1
    have hc:=(List.mem_filter.1 hfo).2
    simp only [Bool.and_eq_true,beq_iff_eq] at hc
    obtain ⟨o0,o1,_⟩:=zfg hf hm
    have hp:=zsJ hf hfo (zmo hu hm) hwf
    have hni:t.index∉path:=fun hin=>by
     have hr:=h4 _ hin
     exact hz _ (zrh hr) (zla.2 hr)
    refine znT hf hu hz n (t.index::path) f.ty (List.nodup_cons.2 ⟨hni,h1⟩) ?_ (by simp;omega) ?_
    ·intro p hp'
     rcases List.mem_cons.1 hp' with rfl|hp'
     ·omega
     ·exact h2 p hp'
    ·intro p hp'
     rcases List.mem_cons.1 hp' with rfl|hp'
     ·exact .base _ hp
     ·exact .step _ _ (h4 p hp') hp
   ·exact Dp.whole hwf n
  ·exact .inl hw
theorem zmH {g:Img} (h:Yq g=true) {u:Int} (hk:zN g u=1):u∉zmh g u:=by
 have hf:=Yc h
 obtain ⟨td,htd,_⟩:=zgU hk (by omega)
 have hlt:=Wh htd
 have hck:=zsk h (k:=u.toNat) (by omega)
 rw [zbC (by omega)] at hck
 have e:((u.toNat:Nat):Int)=u:=Int.toNat_of_nonneg hlt.1
 rw [e] at hck
 have hs:zbv g u=true:=by
  cases hs:zbv g u
  ·rw [hs] at hck
   split at hck
   ·cases hck
   ·split at hck
    ·cases hck
    ·simp at hck
  ·rfl
 rw [zbv,hk,Bool.and_eq_true] at hs
 simpa using hs.2
theorem zhI {g:Img} (h:Yq g=true) (hu:Ya g=true) (t:Ty):Dp g (g.types.length + 1) t :=
 znT (Yc h) hu (fun _ hk=>zmH h hk) _ [] t (by simp) (by simp) (by simp) (by simp)
theorem zeC {g:Img} (h:Yq g=true) (hu:Ya g=true) (t:Ty):Zt g t=if t.kind==1 then [] else if whole t then [t] else if (fcs g (ZQ g t.index)).length=0 then [intTy] else fcs g (ZQ g t.index):=by
 have hd:=zhI h hu t
 rcases hd with hd|hd
 ·rw [Zt,Va,hd];rfl
 ·have e:((ZQ g t.index).flatMap fun f=>Va g (g.types.length + 1) f.ty)=fcs g (ZQ g t.index):=zcj (fun f hf=>(zfp _ _ (hd f hf) _ (by omega)).symm)
  rw [Zt,Va,e]
def Cnt (b r s:Nat):Prop:=min r (b + 1)=min s (b + 1)
theorem Cnt.zero (b:Nat):Cnt b 0 0:=rfl
theorem Cnt.add {b r s l:Nat} (h:Cnt b r s) (hr:r≤b):Cnt b (r + min l (b + 1)) (s + l):=by unfold Cnt at h ⊢;omega
theorem Cnt.stay {b r s l:Nat} (h:Cnt b r s) (hr:b < r):Cnt b r (s + l):=by unfold Cnt at h ⊢;omega
theorem Cnt.more {b r s:Nat} (h:Cnt b r s):b < r↔b < s:=by unfold Cnt at h;omega
def YO (g:Img) (b:Nat) (t:Ty):Nat:=min (Zt g t).length (b + 1)
theorem Vq (g:Img) (f:Fd) (l:List Fd):(fcs g (f::l)).length=(Zt g f.ty).length + (fcs g l).length:=by rw [zkR,List.length_append]
theorem zcO (g:Img) (l m:List Fd):(fcs g (l++m)).length=(fcs g l).length + (fcs g m).length:=by rw [zg3,List.length_append]
def objT (g:Img) (t:Int):List Ty:=(up g t).reverse.flatMap fun u=>fcs g (ZQ g u)
theorem zlQ (g:Img):∀ l:List Int,(l.flatMap fun u=>fcs g (ZQ g u)).length=(l.map fun u=>(fcs g (ZQ g u)).length).sum
 | []=>rfl
 | x::l=>by rw [List.flatMap_cons,List.length_append,zlQ g l];rfl
theorem zsr (l:List Nat):l.reverse.sum=l.sum:=by
 induction l with
 | nil=>rfl
 | cons x l ih=>rw [List.reverse_cons,List.sum_append,ih];simp;omega
theorem zmi (g:Img) (t:Int):(objT g t).length=((up g t).map fun u=>(fcs g (ZQ g u)).length).sum:=by
 rw [objT,zlQ,List.map_reverse,zsr]
def ztJ (g:Img) (t:Int):List Fd:=g.fields.filter fun f=>decide (f.owner∈up g t)&&!f.static
theorem zgK (g:Img):∀ (fs:List Fd) (us:List Int),us.Nodup→(us.map fun u=>(fcs g (fs.filter fun f=>f.owner==u&&!f.static)).length).sum=(fcs g (fs.filter fun f=>decide (f.owner∈us)&&!f.static)).length
 | [],us,_=>by
  simp only [List.filter_nil]
  induction us with
  | nil=>rfl
  | cons u us ih=>simp_all [fcs]
 | f::fs,us,hn=>by
  have ih:=zgK g fs us hn
  have key:∀ us:List Int,us.Nodup→(us.map fun u=>(fcs g ((f::fs).filter fun f=>f.owner==u&&!f.static)).length).sum
    = (us.map fun u=>(fcs g (fs.filter fun f=>f.owner==u&&!f.static)).length).sum + (if decide (f.owner∈us)&&!f.static then (Zt g f.ty).length else 0):=by
   intro us hn
   induction us with
   | nil=>simp
   | cons u us ih2 =>
    have hn':=List.nodup_cons.1 hn
    rw [List.map_cons,List.sum_cons,ih2 hn'.2,List.map_cons,List.sum_cons,List.filter_cons]
    cases hs:f.static
    ·by_cases hu:f.owner=u
     ·subst hu
      have:decide (f.owner∈us)=false:=by simp [hn'.1]
      simp only [beq_self_eq_true,Bool.not_false,Bool.and_true,if_true,this,List.mem_cons_self,decide_true,Bool.false_eq_true,if_false]
      rw [Vq];omega
     ·have h1:(f.owner==u)=false:=by simp [hu]
      have h2:decide (f.owner∈u::us)=decide (f.owner∈us):=by simp [hu]
      simp only [h1,h2,Bool.false_and,Bool.false_eq_true,if_false]
      omega
    ·simp
  rw [key us hn,ih,List.filter_cons]
  cases hc:(decide (f.owner∈us)&&!f.static)
  ·simp
  ·simp only [if_true];rw [Vq];omega
theorem zrM (g:Img) (t:Int):(fcs g (ztJ g t)).length=(objT g t).length:=by
 rw [zmi,ztJ,←zgK g g.fields (up g t) (XY g t).1];rfl
def YG (g:Img) (t:Nat):Bool:=(zN g t==1&&decide (8 < (Zt g ⟨6,t,0,false⟩).length))||(zN g t==0&&decide (32 < (objT g t).length))
def YW (g:Img):Int × Int :=
 if !Yq g then (0,17) else match (List.range g.fields.length).find? (fun i=>!qx g (g.fields.getD i default).ty) with
  | some i=>(((i:Nat):Int),10)
  | none=>match (List.range g.types.length).find? (YG g) with
   | some t=>(((t:Nat):Int),20)
   | none=>(0,0)
def zdg (g:Img):Bool:=(YW g).2==0
theorem zex {g:Img} {k:Nat} (hw:Yq g=true) (hk:k < g.fields.length) (hno:∀ j,j < k→qx g (g.fields.getD j default).ty=true) (h:qx g (g.fields.getD k default).ty=false):YW g=(((k:Nat):Int),10):=by
 have:(List.range g.fields.length).find? (fun i=>!qx g (g.fields.getD i default).ty)=some k:=by
  rw [List.find?_range_eq_some]
  exact ⟨by simpa using h,by simpa using hk,fun j hj=>by simp only [hno j hj,Bool.not_true,Bool.not_false]⟩
 rw [YW,hw];simp only [Bool.not_true,Bool.false_eq_true,if_false];rw [this]
theorem zjR {n:Nat} {p:Nat→Bool} (h:∀ j,j < n→p j=false):(List.range n).find? p=none:=by
 rw [List.find?_eq_none]
 intro j hj
 simp [h j (List.mem_range.1 hj)]
theorem zeg {g:Img} {k:Nat} (hw:Yq g=true) (hu:Ya g=true) (hk:k < g.types.length) (hno:∀ j,j < k→YG g j=false) (h:YG g k=true):YW g=(((k:Nat):Int),20):=by
 have h1:(List.range g.fields.length).find? (fun i=>!qx g (g.fields.getD i default).ty)=none:=zjR fun j hj=>by
  have:=List.all_eq_true.1 hu j (by simpa using hj);simp only [this];rfl
 have h2:(List.range g.types.length).find? (YG g)=some k:=by
  rw [List.find?_range_eq_some]
  exact ⟨h,by simpa using hk,fun j hj=>by simp only [hno j hj,Bool.not_false]⟩
 rw [YW,hw];simp only [Bool.not_true,Bool.false_eq_true,if_false];rw [h1];simp only;rw [h2]
theorem zdB {g:Img} (hw:Yq g=true) (hu:Ya g=true) (hno:∀ j,j < g.types.length→YG g j=false):YW g=(0,0):=by
 have h1:(List.range g.fields.length).find? (fun i=>!qx g (g.fields.getD i default).ty)=none:=zjR fun j hj=>by
  have:=List.all_eq_true.1 hu j (by simpa using hj);simp only [this];rfl
 rw [YW,hw];simp only [Bool.not_true,Bool.false_eq_true,if_false];rw [h1];simp only;rw [zjR hno]
structure Fine (g:Img):Prop where
 well:Yq g=true
 used:Ya g=true
 size:∀ j,j < g.types.length→YG g j=false
theorem zc7 {g:Img} (h:zdg g=true):Fine g:=by
 rw [zdg,YW] at h
 cases hw:Yq g
 ·simp [hw] at h
 ·rw [hw] at h
  simp only [Bool.not_true,Bool.false_eq_true,if_false] at h
  cases h1:(List.range g.fields.length).find? (fun i=>!qx g (g.fields.getD i default).ty) with
  | some i=>rw [h1] at h;simp at h
  | none =>
   rw [h1] at h
   cases h2:(List.range g.types.length).find? (YG g) with
   | some t=>rw [h2] at h;simp at h
   | none =>
    refine ⟨hw,?_,fun j hj=>?_⟩
    ·rw [Ya,List.all_eq_true]
     intro i hi
     have:=List.find?_eq_none.1 h1 i hi
     simpa using this
    ·have:=List.find?_eq_none.1 h2 j (by simpa using hj)
     simpa using this
theorem Fine.formed {g:Img} (h:Fine g):yg g=true:=Yc h.well
set_option maxHeartbeats 20000000
theorem zk6 (p:Int→Int→Bool) (f:FuncId) (first cap:List PV) (a b:Int) (hp:ACall Tryz.prog f (first++[pi a,pi b]++cap) (pb (p a b))):ACall Tryz.prog 226 [pi b,.ptr (.fn (.func f) first cap) 0,.ptr (pi a) 0] (pb (p a b)):=by
 refine zh zf Tryz.func226 rfl (by kernel_rfl) Tryz.ntmps226 (by simp) _ rfl (fun hw gB hgB=>?_)
 repeat' (first|(refine shC ?_;first|refine qV (hp) ?_)|refine sA ?_|refine sC (fun _=>?_) (fun _=>?_)|fail)
 exact retq rfl rfl
theorem zhg (l:List Int) (p:Int→Int→Bool) (f:FuncId) (first cap:List PV) (hp:∀ a∈l,∀ b∈l,ACall Tryz.prog f (first++[pi a,pi b]++cap) (pb (p a b))):ACall Tryz.prog 207 [ints l,.fn (.func f) first cap] (pb (zcA l p)):=by
 refine zh zf Tryz.func207 rfl (by kernel_rfl) Tryz.ntmps207 (by simp) _ rfl (fun hw gB hgB=>?_)
 have hl:=zcD hw.1
 repeat' (first|refine sA ?_|refine sC (fun _=>?_) (fun _=>?_)|fail)
 refine zJ (fun k:Nat=>[(0,.pv (ints l)),(3,.pv (.ptr (.fn (.func f) first cap) 0)),(7,.pv (ints l)),(8,.pv (pi l.length)),(9,.pv (pi k))]) (fun _=>[]) (fun k=>k≤l.length∧zcA l p=((List.range l.length).drop k).any fun i=>(l.take i).any (p (l.getD i 0))) (fun k=>l.length - k) 0 ⟨by omega,rfl⟩ (tS) tH ?_
 rintro k ⟨hk,hr⟩
 by_cases hlt:k < l.length
 ·have he:=qB hlt
  have c1:=Xi (l.take k) (p l[k]) 226 [] [.ptr (.fn (.func f) first cap) 0,.ptr (pi l[k]) 0] (fun x hx=>zk6 p f first cap l[k] x (hp _ (List.getElem_mem hlt) x (List.mem_of_mem_take hx)))
  rw [zgQ hlt,zL hlt] at hr
  repeat' (first|refine XW (t:=6) rfl rfl rfl ?_|refine zB rfl (Xn (xs:=l) (f:=pi) 0 k zf rfl rfl rfl rfl rfl rfl rfl (by omega) (by omega)) rfl rfl ?_|(refine shC ?_;first|refine qC c1 ?_)|(refine shX ?_;first|refine qX he ?_)|refine sK ?_|refine sC (fun _=>?_) (fun _=>?_)|fail)
  all_goals first|(refine retq rfl ?_;first|(simp only [zk,BL,List.length_map] at *;simp only [*,BL,List.length_map];done)|(simp_all [zk];done)|(simp_all [zk];omega)|(simp_all [zk];intros;omega))|(refine ⟨k + 1,⟨by omega,?_⟩,tD,tS,tH⟩;first|(simp only [BL,List.length_map] at *;simp only [*,BL,List.length_map];done)|(simp_all [];done)|(simp_all [];omega)|(simp_all [];intros;omega))|(trace "LEND";trace_state)
 ·rw [drop_end (by simp;omega)] at hr
  repeat' (first|refine sK ?_|refine sC (fun _=>?_) (fun _=>?_)|fail)
  all_goals first|(refine retq rfl ?_;first|(simp only [zk,BL,List.length_map] at *;simp only [*,BL,List.length_map];done)|(simp_all [zk];done)|(simp_all [zk];omega)|(simp_all [zk];intros;omega))|(refine ZN rfl ?_;first|(simp only [zk,BL,List.length_map] at *;simp only [*,BL,List.length_map];done)|(simp_all [zk];done)|(simp_all [zk];omega)|(simp_all [zk];intros;omega))|skip
theorem zks (g:Img) (a b:Int) (ha0:0≤a) (ha:a.toNat < g.fields.length) (hb0:0≤b) (hb:b.toNat < g.fields.length):ACall Tryz.prog 208 [pi a,pi b,.ptr (zH g) 0] (pb (zhQ g a b)):=by
 refine zh zf Tryz.func208 rfl (by kernel_rfl) Tryz.ntmps208 (by simp) _ rfl (fun hw gB hgB=>?_)
 have hea:=qW (f:=ZK) ha
 have heb:=qW (f:=ZK) hb
 repeat' (first|(refine shX ?_;first|refine zB rfl (zl zf rfl rfl rfl rfl rfl rfl ha0 hea) rfl rfl ?_|refine AD.step _ _ _ _ _ rfl (zl zf rfl rfl rfl rfl rfl rfl ha0 hea) rfl rfl ?_|refine zB rfl (zl zf rfl rfl rfl rfl rfl rfl hb0 heb) rfl rfl ?_|refine AD.step _ _ _ _ _ rfl (zl zf rfl rfl rfl rfl rfl rfl hb0 heb) rfl rfl ?_)|refine sA ?_|refine sC (fun _=>?_) (fun _=>?_)|fail)
 exact retq rfl (by simp only [zk,zhQ,fName,zL ha,zL hb])
theorem zdV (a b:List Ty):ACall Tryz.prog 198 [tys a,tys b] (pb (decide (a=b))):=by
 refine zh zf Tryz.func198 rfl (by kernel_rfl) Tryz.ntmps198 (by simp) _ rfl (fun hw gB hgB=>?_)
 have hl:=zb1 hw.1
 by_cases hlen:a.length=b.length
 ·repeat' (first|refine sK ?_|refine sC (fun _=>?_) (fun _=>?_)|fail)
  refine zJ (fun k:Nat=>[(0,.pv (tys a)),(1,.pv (tys b)),(11,.pv (tys a)),(12,.pv (pi a.length)),(13,.pv (pi k))]) (fun _=>[]) (fun k=>k≤a.length∧a.take k=b.take k) (fun k=>a.length - k) 0 ⟨by simp,by simp⟩ (tS) tH ?_
  rintro k ⟨hk,hno⟩
  by_cases hlt:k < a.length
  ·have he:=WJ hlt
   have hltb:k < b.length:=by omega
   have he':=WJ hltb
   repeat' (first|(refine shX ?_;first|refine qX he ?_|refine qX he' ?_)|refine sK ?_|refine sC (fun _=>?_) (fun _=>?_)|fail)
   ·rename_i h
    refine retq rfl ?_
    have:a≠b:=by
     rintro rfl
     simp at h
    simp [zk,this]
   ·rename_i h
    have e:a[k]=b[k]:=by
     simp only [Bool.not_eq_false'] at h
     rw [QA] at h
     simpa using h
    exact ⟨k + 1,⟨by omega,zel hlt hltb hno e⟩,tD,tS,tH⟩
  ·repeat' (first|refine sK ?_|refine sC (fun _=>?_) (fun _=>?_)|fail)
   refine retq rfl ?_
   rw [List.take_of_length_le (by omega),List.take_of_length_le (by omega)] at hno
   simp [zk,hno]
 ·have hne:a≠b:=by rintro rfl;exact hlen rfl
  have hb:((((a.map yJ).length:Nat):Int) != (((b.map yJ).length:Nat):Int))=true:=by simp;omega
  repeat' (first|refine sK ?_|refine sC (fun _=>?_) (fun _=>?_)|fail)
  exact retq rfl (by simp [zk,hne])
theorem zl6 (g:Img) (a b:Int) (ha0:0≤a) (ha:a.toNat < g.methods.length) (hb0:0≤b) (hb:b.toNat < g.methods.length):ACall Tryz.prog 209 [pi a,pi b,.ptr (zH g) 0] (pb (zaP (mAt g a) (mAt g b))):=by
 refine zh zf Tryz.func209 rfl (by kernel_rfl) Tryz.ntmps209 (by simp) _ rfl (fun hw gB hgB=>?_)
 have hea:=qW (f:=yL) ha
 have heb:=qW (f:=yL) hb
 rw [mAt,mAt,zL ha,zL hb]
 generalize g.methods[a.toNat]=x at hea ⊢
 generalize g.methods[b.toNat]=y at heb ⊢
 have hty:=QA x.ret y.ret
 have c1:=zdV x.params y.params
 repeat' (first|refine zil [⟨0,10,12,3,6,12,4,70,.agg #[.string ByteArray.empty,.int .i64 0,.int .i64 0,.slice none 0 0,.int .i64 0,.int .i64 0,.int .i64 0,.bool false,.slice none 0 0,.int .i64 0,.slice none 0 0,.slice none 0 0],.pv (.agg [.base (.string ByteArray.empty),.base (.int .i64 0),.base (.int .i64 0),.base (.slice none 0 0),.base (.int .i64 0),.base (.int .i64 0),.base (.int .i64 0),.base (.bool false),.base (.slice none 0 0),.base (.int .i64 0),.base (.slice none 0 0),.base (.slice none 0 0)])⟩,⟨1,11,13,4,7,17,9,70,.agg #[.string ByteArray.empty,.int .i64 0,.int .i64 0,.slice none 0 0,.int .i64 0,.int .i64 0,.int .i64 0,.bool false,.slice none 0 0,.int .i64 0,.slice none 0 0,.slice none 0 0],.pv (.agg [.base (.string ByteArray.empty),.base (.int .i64 0),.base (.int .i64 0),.base (.slice none 0 0),.base (.int .i64 0),.base (.int .i64 0),.base (.int .i64 0),.base (.bool false),.base (.slice none 0 0),.base (.int .i64 0),.base (.slice none 0 0),.base (.slice none 0 0)])⟩] zf (by kernel_rfl) (by kernel_rfl) ⟨⟨⟨_,rfl,rfl,rfl,rfl⟩,⟨_,rfl,rfl,rfl,rfl,rfl,rfl⟩,⟨_,rfl,rfl⟩,rfl,rfl,rfl,rfl,rfl,rfl,rfl,rfl,⟨rfl,rfl⟩⟩,⟨⟨_,rfl,rfl,rfl,rfl⟩,⟨_,rfl,rfl,rfl,rfl,rfl,rfl⟩,⟨_,rfl,rfl⟩,rfl,rfl,rfl,rfl,rfl,rfl,rfl,rfl,⟨rfl,rfl⟩⟩,trivial⟩ rfl rfl rfl ?_|refine yh rfl rfl ?_|refine ⟨_,rfl,?_⟩|(refine shC ?_;first|refine qC c1 ?_)|(refine shX ?_;first|refine zB rfl (zl zf rfl rfl rfl rfl rfl rfl ha0 hea) rfl rfl ?_|refine AD.step _ _ _ _ _ rfl (zl zf rfl rfl rfl rfl rfl rfl ha0 hea) rfl rfl ?_|refine zB rfl (zl zf rfl rfl rfl rfl rfl rfl hb0 heb) rfl rfl ?_|refine AD.step _ _ _ _ _ rfl (zl zf rfl rfl rfl rfl rfl rfl hb0 heb) rfl rfl ?_)|refine sK ?_|refine sC (fun _=>?_) (fun _=>?_)|fail)
 all_goals refine retq rfl ?_
 all_goals (simp only [zk,zaP,←hty];clear hty;simp_all)
theorem zkI (g:Img) (t:Int) (td:TD) (htd:typeAt g t=some td) (hg:g.types.length≤1000) (hgf:g.fields.length≤1000) (hgm:g.methods.length≤1000):ACall Tryz.prog 180 [zH g,pi t] (pb (zeR g t td)):=by
 refine zh zf Tryz.func180 rfl (by kernel_rfl) Tryz.ntmps180 (by simp) _ rfl (fun hw gB hgB=>?_)
 obtain ⟨h0,heT⟩:=qA htd
 have cf:=zhg (fieldsOf g t) (zhQ g) 208 [] [.ptr (zH g) 0] (fun a ha b hb=>zks g a b (Zp ha).1 (Zp ha).2 (Zp hb).1 (Zp hb).2)
 have cm:=zhg (methodsOf g t) (fun a b=>zaP (mAt g a) (mAt g b)) 209 [] [.ptr (zH g) 0] (fun a ha b hb=>zl6 g a b (qc ha).1 (qc ha).2 (qc hb).1 (qc hb).2)
 repeat' (first|refine sA ?_|refine sC (fun _=>?_) (fun _=>?_)|fail)
 refine zJ (fun k:Nat=>[(1,.pv (pi t)),(2,.pv (.ptr (zH g) 0)),(8,.pv (.slc 4 (g.types.map ZA) false)),(9,.pv (pi g.types.length)),(10,.pv (pi k))]) (fun _=>[]) (fun k=>k≤g.types.length∧zeR g t td=(((List.range g.types.length).drop k).all (VL g t td)&&!zcA (fieldsOf g t) (zhQ g)&&!zcA (methodsOf g t) (fun a b=>zaP (mAt g a) (mAt g b)))) (fun k=>g.types.length - k) 0 ⟨by omega,rfl⟩ (tS) tH ?_
 rintro k ⟨hk,hr⟩
 by_cases hlt:k < g.types.length
 ·have he:=yu (f:=ZA) hlt
  rw [qF hlt,VL,zL hlt] at hr
  repeat' (first|(refine shX ?_;first|refine qX he ?_|refine zB rfl (zl zf rfl rfl rfl rfl rfl rfl h0 heT) rfl rfl ?_|refine AD.step _ _ _ _ _ rfl (zl zf rfl rfl rfl rfl rfl rfl h0 heT) rfl rfl ?_)|refine sK ?_|refine sC (fun _=>?_) (fun _=>?_)|fail)
  all_goals first|(refine retq rfl ?_;first|(simp only [zk,BL,List.length_map] at *;simp only [*,BL,List.length_map];done)|(simp_all [zk];done)|(simp_all [zk];omega)|(simp_all [zk];intros;omega))|(refine ⟨k + 1,⟨by omega,?_⟩,tD,tS,tH⟩;first|(simp only [BL,List.length_map] at *;simp only [*,BL,List.length_map];done)|(simp_all [];done)|(simp_all [];omega)|(simp_all [];intros;omega))|(trace "LEND";trace_state)
 ·rw [drop_end (by simp;omega)] at hr
  repeat' (first|(refine shC ?_;first|refine qC (XP g t hgf) ?_|refine qC (YD g t hgm) ?_|refine qC cf ?_|refine qC cm ?_)|refine sK ?_|refine sC (fun _=>?_) (fun _=>?_)|fail)
  all_goals first|(refine retq rfl ?_;first|(simp only [zk,BL,List.length_map] at *;simp only [*,BL,List.length_map];done)|(simp_all [zk];done)|(simp_all [zk];omega)|(simp_all [zk];intros;omega))|(refine ZN rfl ?_;first|(simp only [zk,BL,List.length_map] at *;simp only [*,BL,List.length_map];done)|(simp_all [zk];done)|(simp_all [zk];omega)|(simp_all [zk];intros;omega))|skip
set_option maxHeartbeats 20000000
theorem zk4 (g:Img) (t:Int) (hF:Fm g):ACall Tryz.prog 206 [pi t,.ptr (zH g) 0] (ints (yQ g t)):=by
 refine zh zf Tryz.func206 rfl (by kernel_rfl) Tryz.ntmps206 (by simp) _ rfl (fun hw gB hgB=>?_)
 repeat' (first|(refine shC ?_;first|refine zB rfl (zG rfl rfl (WL g t (by have:=(hF.at t).1;omega) (fun f hf=>WW ((hF.at t).2 f hf)))) rfl rfl ?_|refine AD.step _ _ _ _ _ rfl (zG rfl rfl (WL g t (by have:=(hF.at t).1;omega) (fun f hf=>WW ((hF.at t).2 f hf)))) rfl rfl ?_)|refine sA ?_|refine sC (fun _=>?_) (fun _=>?_)|fail)
 exact retq rfl rfl
theorem zlp (g:Img) (t:Int) (hf:yg g=true):ACall Tryz.prog 211 [pi t,.ptr (zH g) 0] (ints (partsOf g t)):=by
 refine zh zf Tryz.func211 rfl (by kernel_rfl) Tryz.ntmps211 (by simp) _ rfl (fun hw gB hgB=>?_)
 repeat' (first|(refine shC ?_;first|refine qC (zfA g t hf) ?_)|refine sA ?_|refine sC (fun _=>?_) (fun _=>?_)|fail)
 exact retq rfl rfl
theorem zhS (g:Img) (hf:yg g=true) (t:Int) (td:TD) (htd:typeAt g t=some td):ACall Tryz.prog 98 [ZA td] (pi (zN g t)):=by
 have:=zeU td
 obtain ⟨h0,h1,_⟩:=VP hf htd
 rw [zgH h0 h1] at this
 rw [zN,htd];exact this
theorem zlL (g:Img) (t:Int) (td:TD) (htd:typeAt g t=some td) (hf:yg g=true):ACall Tryz.prog 179 [zH g,pi t] (pb (zfk g t td)):=by
 refine zh zf Tryz.func179 rfl (by kernel_rfl) Tryz.ntmps179 (by simp) _ rfl (fun hw gB hgB=>?_)
 obtain ⟨h0,he⟩:=qA htd
 have hF:=zcq hf
 have hn:=hF.n
 obtain ⟨hf1,hf2⟩:=hF.faces td (zaf htd)
 have c0:=zhS g hf t td htd
 have c1:=zdr g.types.length (by omega) td.faces (yQ g) 206 [] [.ptr (zH g) 0] hf2 (by omega)
  (fun x h0 h1=>zk4 g x hF) (fun x h0 h1=>⟨by have:=(hF.at x).1;omega,(hF.at x).2⟩)
 repeat' (first|(refine shX ?_;first|refine zB rfl (zl zf rfl rfl rfl rfl rfl rfl h0 he) rfl rfl ?_|refine AD.step _ _ _ _ _ rfl (zl zf rfl rfl rfl rfl rfl rfl h0 he) rfl rfl ?_)|refine sA ?_|refine sC (fun _=>?_) (fun _=>?_)|fail)
 refine zJ (fun k:Nat=>[(1,.pv (pi t)),(2,.pv (.ptr (zH g) 0)),(5,.pv (ints td.faces)),(15,.pv (ints td.faces)),(16,.pv (pi td.faces.length)),(17,.pv (pi k))]) (fun _=>[]) (fun k=>k≤td.faces.length∧zfk g t td=(((List.range td.faces.length).drop k).all (zbZ g td.faces)&&(zN g t != 2||!decide (t∈sortL (Xj g.types.length (yQ g) td.faces))))) (fun k=>td.faces.length - k) 0 ⟨by simp,rfl⟩ (tS) tH ?_
 rintro k ⟨hk,hr⟩
 by_cases hlt:k < td.faces.length
 ·have hef:=qB hlt
  rw [qF hlt,zbZ,zL hlt] at hr
  repeat' (first|refine zB rfl (Xn (xs:=td.faces) (f:=pi) 0 k zf rfl rfl rfl rfl rfl rfl rfl (by omega) (by omega)) rfl rfl ?_|(refine shC ?_;first|refine qC (ZI g hf _) ?_|refine qC (Qi (td.faces.take k) _) ?_)|(refine shX ?_;first|refine qX hef ?_)|refine sK ?_|refine sC (fun _=>?_) (fun _=>?_)|fail)
  all_goals first|(refine retq rfl ?_;first|(simp only [zk,BL,List.length_map] at *;simp only [*,BL,List.length_map];done)|(simp_all [zk];done)|(simp_all [zk];omega)|(simp_all [zk];intros;omega))|(refine ⟨k + 1,⟨by omega,?_⟩,tD,tS,tH⟩;first|(simp only [BL,List.length_map] at *;simp only [*,BL,List.length_map];done)|(simp_all [];done)|(simp_all [];omega)|(simp_all [];intros;omega))|(trace "LEND";trace_state)
 ·rw [drop_end (by simp;omega)] at hr
  repeat' (first|(refine shC ?_;first|refine qC c0 ?_|refine qC c1 ?_|refine qC (Qi _ _) ?_)|(refine shX ?_;first|refine zB rfl (zl zf rfl rfl rfl rfl rfl rfl h0 he) rfl rfl ?_|refine AD.step _ _ _ _ _ rfl (zl zf rfl rfl rfl rfl rfl rfl h0 he) rfl rfl ?_)|refine sK ?_|refine sC (fun _=>?_) (fun _=>?_)|fail)
  all_goals first|(refine retq rfl ?_;first|(simp only [zk,BL,List.length_map] at *;simp only [*,BL,List.length_map];done)|(simp_all [zk];done)|(simp_all [zk];omega)|(simp_all [zk];intros;omega))|(refine ZN rfl ?_;first|(simp only [zk,BL,List.length_map] at *;simp only [*,BL,List.length_map];done)|(simp_all [zk];done)|(simp_all [zk];omega)|(simp_all [zk];intros;omega))|skip
theorem zlP (g:Img) (t:Int) (td:TD) (htd:typeAt g t=some td) (hf:yg g=true):ACall Tryz.prog 181 [zH g,pi t] (pb (ze0 g t)):=by
 refine zh zf Tryz.func181 rfl (by kernel_rfl) Tryz.ntmps181 (by simp) _ rfl (fun hw gB hgB=>?_)
 obtain ⟨h0,heT⟩:=qA htd
 have hF:=zcq hf
 have hn:=hF.n
 have hg:g.fields.length≤64:=by have:=(zW hf).2.1;omega
 have c0:=zhS g hf t td htd
 have hpl:=zaK g
 have c1:=zdr g.types.length (by omega) (partsOf g t) (partsOf g) 211 [] [.ptr (zH g) 0] (fun x hx=>Qk hx) (by have:=hpl t;omega)
  (fun x h0 h1=>zlp g x hf) (fun x h0 h1=>⟨by have:=hpl x;omega,fun y hy=>Qk hy⟩)
 repeat' (first|(refine shC ?_;first|refine qC c0 ?_|refine zB rfl (zG rfl rfl (XP g t (by omega))) rfl rfl ?_|refine AD.step _ _ _ _ _ rfl (zG rfl rfl (XP g t (by omega))) rfl rfl ?_)|(refine shX ?_;first|refine zB rfl (zl zf rfl rfl rfl rfl rfl rfl h0 heT) rfl rfl ?_|refine AD.step _ _ _ _ _ rfl (zl zf rfl rfl rfl rfl rfl rfl h0 heT) rfl rfl ?_)|refine sA ?_|refine sC (fun _=>?_) (fun _=>?_)|fail)
 refine zJ (fun k:Nat=>[(1,.pv (pi t)),(2,.pv (.ptr (zH g) 0)),(5,.pv (pi (zN g t))),(16,.pv (ints (fieldsOf g t))),(17,.pv (pi (fieldsOf g t).length)),(18,.pv (pi k))]) (fun _=>[]) (fun k=>k≤(fieldsOf g t).length∧ze0 g t=(((fieldsOf g t).drop k).all (zeS g (zN g t))&&(zN g t != 1||!decide (t∈sortL (Xj g.types.length (partsOf g) (partsOf g t)))))) (fun k=>(fieldsOf g t).length - k) 0 ⟨by simp,rfl⟩ (tS) tH ?_
 have hfl:=YU g t
 rintro k ⟨hk,hr⟩
 by_cases hlt:k < (fieldsOf g t).length
 ·have he:=qB hlt
  obtain ⟨hi0,hi⟩:=Zp (List.getElem_mem hlt)
  have hef:=qW (f:=ZK) hi
  rw [Yl hlt,zeS,zL hi] at hr
  repeat' (first|(refine shX ?_;first|refine qX he ?_|refine zB rfl (zl zf rfl rfl rfl rfl rfl rfl hi0 hef) rfl rfl ?_|refine AD.step _ _ _ _ _ rfl (zl zf rfl rfl rfl rfl rfl rfl hi0 hef) rfl rfl ?_)|refine sK ?_|refine sC (fun _=>?_) (fun _=>?_)|fail)
  all_goals first|(refine retq rfl ?_;first|(simp only [zk,BL,List.length_map] at *;simp only [*,BL,List.length_map];done)|(simp_all [zk];done)|(simp_all [zk];omega)|(simp_all [zk];intros;omega))|(refine ⟨k + 1,⟨by omega,?_⟩,tD,tS,tH⟩;first|(simp only [BL,List.length_map] at *;simp only [*,BL,List.length_map];done)|(simp_all [];done)|(simp_all [];omega)|(simp_all [];intros;omega))|(trace "LEND";trace_state)
 ·rw [drop_end (by omega)] at hr
  repeat' (first|(refine shC ?_;first|refine qC (zfA g t hf) ?_|refine qC c1 ?_|refine qC (Qi _ _) ?_)|refine sK ?_|refine sC (fun _=>?_) (fun _=>?_)|fail)
  all_goals first|(refine retq rfl ?_;first|(simp only [zk,BL,List.length_map] at *;simp only [*,BL,List.length_map];done)|(simp_all [zk];done)|(simp_all [zk];omega)|(simp_all [zk];intros;omega))|(refine ZN rfl ?_;first|(simp only [zk,BL,List.length_map] at *;simp only [*,BL,List.length_map];done)|(simp_all [zk];done)|(simp_all [zk];omega)|(simp_all [zk];intros;omega))|skip
set_option maxHeartbeats 1000000 in
theorem zkH (g:Img) (hx:∀ m∈g.methods,∀ x∈m.code,zeA x):ACall Tryz.prog 145 [zH g] (.tup [pi (Xm g).1,pi (Xm g).2]):=by
 refine zh zf Tryz.func145 rfl (by kernel_rfl) Tryz.ntmps145 (by simp) _ rfl (fun hw gB hgB=>?_)
 have c0:=zjy g hx
 cases hf:yg g
 ·rw [hf] at c0
  repeat' (first|(refine shC ?_;first|refine qC c0 ?_)|refine sK ?_|refine sC (fun _=>?_) (fun _=>?_)|fail)
  exact retq rfl (by simp [zk,Xm,hf])
 ·rw [hf] at c0
  obtain ⟨b1,b2,b3,b4⟩:=zW hf
  have hg:g.types.length≤1000:=by omega
  have hgf:g.fields.length≤1000:=by omega
  have hgm:g.methods.length≤1000:=by omega
  repeat' (first|(refine shC ?_;first|refine qC c0 ?_)|refine sK ?_|refine sC (fun _=>?_) (fun _=>?_)|fail)
  refine zJ (fun k:Nat=>[(1,.pv (.ptr (zH g) 0)),(10,.pv (pi g.types.length)),(11,.pv (pi k))]) (fun _=>[]) (fun k=>k≤g.types.length∧∀ j,j < k→Zk g j=0) (fun k=>g.types.length - k) 0 ⟨by omega,fun j h=>by omega⟩ (tS) tH ?_
  rintro k ⟨hk,hno⟩
  by_cases hlt:k < g.types.length
  ·have he:=yu (f:=ZA) hlt
   have htd:=zbm hlt
   have hat:=zin hf hlt
   have hfin:=fun h=>zhb hf hlt hno h
   have hnx:Zk g k=0→∀ j,j < k + 1→Zk g j=0:=fun h j hj=>by
    by_cases e:j=k
    ·subst e;exact h
    ·exact hno j (by omega)
   clear hno
   have d1:=zh8 g.types[k]
   have d2:=zhY g k _ htd hg
   have d3:=zlL g k _ htd hf
   have d4:=zkI g k _ htd hg hgf hgm
   have d5:=zlP g k _ htd hf
   generalize Yz g.types[k]=e1 at d1 hat
   generalize zii g k g.types[k]=e2 at d2 hat
   generalize zfk g k g.types[k]=e3 at d3 hat
   generalize zeR g k g.types[k]=e4 at d4 hat
   generalize ze0 g k=e5 at d5 hat
   have fin:∀ c:Int,c≠0→Zk g k=c→PV.tup [pi (k:Int),pi c]=.tup [pi (Xm g).1,pi (Xm g).2]:=fun c hc h=>by rw [hfin (by rw [h];exact hc),h]
   repeat' (first|(refine shC ?_;first|refine qC d1 ?_|refine qC d2 ?_|refine qC d3 ?_|refine qC d4 ?_|refine qC d5 ?_)|(refine shX ?_;first|refine qX he ?_)|refine sK ?_|refine sC (fun _=>?_) (fun _=>?_)|fail)
   all_goals first
    | exact retq rfl (fin 7 (by decide) (by rw [hat];simp_all;done))
    | exact retq rfl (fin 18 (by decide) (by rw [hat];simp_all;done))
    | exact retq rfl (fin 20 (by decide) (by rw [hat];simp_all;done))
    | exact ⟨k + 1,⟨hlt,hnx (by rw [hat];simp_all;done)⟩,tD,tS,tH⟩
  ·repeat' (first|refine sK ?_|refine sC (fun _=>?_) (fun _=>?_)|fail)
   obtain rfl:k=g.types.length:=by omega
   exact retq rfl (by simp [zk,zlU hf hno])
end Go.Cg
namespace Go.Cg
open Go.RowKit
section
variable {P:Program} {g:Base} {H:HEnv} {env:Env} {tb:Tab} {o:Oper}
theorem ztR {x y:Operand} {ts:Array TypeId} {k:IntKind} {m c:Int} (hop:o.op=.call { callee:=.builtin .max,args:=#[x,y],argTypes:=ts }) (hx:env.pv H x=some (.base (.int k m))) (hy:env.pv H y=some (.base (.int k c))):QStep P g H o env (.pv (.base (.int k (max m c)))):=by
 refine ⟨fun K ρ a w hf hv=>?_⟩
 have hxr:=qo hf (hv x (by rw [hop];simp [Op.operands,Call.operands])) hx
 have hyr:=qo hf (hv y (by rw [hop];simp [Op.operands,Call.operands])) hy
 generalize hxv:a.eval x=xv at hxr
 generalize hyv:a.eval y=yv at hyr
 cases hxr;cases hyr
 have hrun:(execOp a.eval o).run P w=.ok (.value (.int k (max m c))) w:=by
  simp [execOp,hop,resolve,invoke,builtin,Builtin.max_,Builtin.max2,hxv,hyv]
  first|done|omega|(split <;> simp <;> omega)
 rw [hrun]
 exact Yh hf (.pv _ _ (.base _ rfl))
theorem ztL {x y:Operand} {ts:Array TypeId} {k:IntKind} {m c:Int} (hop:o.op=.call { callee:=.builtin .min,args:=#[x,y],argTypes:=ts }) (hx:env.pv H x=some (.base (.int k m))) (hy:env.pv H y=some (.base (.int k c))):QStep P g H o env (.pv (.base (.int k (min m c)))):=by
 refine ⟨fun K ρ a w hf hv=>?_⟩
 have hxr:=qo hf (hv x (by rw [hop];simp [Op.operands,Call.operands])) hx
 have hyr:=qo hf (hv y (by rw [hop];simp [Op.operands,Call.operands])) hy
 generalize hxv:a.eval x=xv at hxr
 generalize hyv:a.eval y=yv at hyr
 cases hxr;cases hyr
 have hrun:(execOp a.eval o).run P w=.ok (.value (.int k (min m c))) w:=by
  simp [execOp,hop,resolve,invoke,builtin,Builtin.min_,Builtin.min2,hxv,hyv]
  first|done|omega|(split <;> simp <;> omega)
 rw [hrun]
 exact Yh hf (.pv _ _ (.base _ rfl))
end
end Go.Cg
namespace Go.Cg
open Go.Proofs
set_option maxHeartbeats 20000000
def OkA (g:Img):Prop:=∀ m∈g.methods,∀ x∈m.code,zeA x
theorem znc (g:Img) (hx:OkA g):ACall Tryz.prog 93 [zH g] (pb (Yq g)):=by
 refine zh zf Tryz.func93 rfl (by kernel_rfl) Tryz.ntmps93 (by simp) _ rfl (fun hw gB hgB=>?_)
 repeat' (first|(refine shC ?_;first|refine qC (zkH g hx) ?_)|refine sA ?_|refine sC (fun _=>?_) (fun _=>?_)|fail)
 exact retq rfl rfl
theorem zcs (g:Img) (t:Int):zN g t = -1∨zN g t=0∨zN g t=1∨zN g t=2∨zN g t=3:=by
 unfold zN
 cases typeAt g t with
 | none=>exact .inl rfl
 | some td =>
  simp only
  unfold XV
  cases yM td.flags 2 <;> cases yM td.flags 1 <;> cases yM td.flags 16 <;> simp
theorem zmQ (g:Img) (t:Ty) (hf:yg g=true):ACall Tryz.prog 94 [zH g,yJ t] (pb (qx g t)):=by
 refine zh zf Tryz.func94 rfl (by kernel_rfl) Tryz.ntmps94 (by simp) _ rfl (fun hw gB hgB=>?_)
 have hk:=zcs g t.index
 have c1:=ZI g hf t.index
 have hu:qx g t=(Zw t&&(if t.kind==5 then zN g t.index==0||zN g t.index==2||zN g t.index==3 else t.kind != 6||zN g t.index==1)):=rfl
 rw [hu]
 generalize zN g t.index=k at c1 hk hu
 clear hu
 repeat' (first|(refine shC ?_;first|refine qC (zaC t) ?_|refine qC c1 ?_)|refine sA ?_|refine sC (fun _=>?_) (fun _=>?_)|fail)
 all_goals (refine retq rfl ?_;rcases hk with rfl|rfl|rfl|rfl|rfl <;> simp_all [zk])
theorem zrp {α:Type} (d:α) (fs:List α):(nums fs.length).map (fun i=>fs.getD i.toNat d)=fs:=by
 rw [nums,List.map_map]
 apply List.ext_getElem
 ·simp
 ·intro i h1 h2
  simp only [List.getElem_map,List.getElem_range,Function.comp]
  rw [Int.toNat_natCast,zL h2]
theorem zs7 {g:Img} (hf:yg g=true) (t:Int):((fieldsOf g t).filter fun i=>!(g.fields.getD i.toNat default).static).map (fun i=>g.fields.getD i.toNat default)=ZQ g t:=by
 have h1:ZQ g t=((nums g.fields.length).filter ((fun f:Fd=>f.owner==t&&!f.static) ∘ fun i=>g.fields.getD i.toNat default)).map (fun i=>g.fields.getD i.toNat default):=by
  rw [ZQ,←List.filter_map,zrp]
 rw [h1,fieldsOf,List.filter_filter]
 congr 1
 apply List.filter_congr
 intro i hi
 obtain ⟨i0,i1⟩:=zhM.1 hi
 have hlt:i.toNat < g.fields.length:=by omega
 obtain ⟨o0,o1,_⟩:=zfg hf (List.getElem_mem hlt)
 simp only [Function.comp,zL hlt]
 by_cases ho:g.fields[i.toNat].owner=t
 ·have:=WW (g:=g) (t:=t) (by omega)
  rw [this,Bool.true_and,Bool.and_comm]
 ·have:(g.fields[i.toNat].owner==t)=false:=by simp [ho]
  rw [this];simp
theorem zld (g:Img) (t:Int):(ZQ g t).length≤g.fields.length:=List.length_filter_le _ _
theorem zlR (g:Img) (t:Int) (hf:yg g=true):ACall Tryz.prog 149 [zH g,pi t] (.slc 7 ((ZQ g t).map ZK) false):=by
 refine zh zf Tryz.func149 rfl (by kernel_rfl) Tryz.ntmps149 (by simp) _ rfl (fun hw gB hgB=>?_)
 have hg:g.fields.length≤1000:=by have:=(zW hf).2.1;omega
 have hfl:=YU g t
 repeat' (first|(refine shC ?_;first|refine qC (XP g t hg) ?_)|refine sA ?_|refine sC (fun _=>?_) (fun _=>?_)|fail)
 refine qY (t:=5) 0 136 7 (by decide) rfl rfl ?_
 refine zJ (fun x:Nat × List Fd=>[(2,.pv (.ptr (zH g) 0)),(5,.own 0),(10,.pv (ints (fieldsOf g t))),(11,.pv (pi (fieldsOf g t).length)),(12,.pv (pi x.1))]) (fun x=>[(0,.row 136 7 (x.2.map ZK))])
  (fun x=>x.1≤(fieldsOf g t).length∧x.2.length≤x.1∧x.2++(((fieldsOf g t).drop x.1).filter fun i=>!(g.fields.getD i.toNat default).static).map (fun i=>g.fields.getD i.toNat default)=ZQ g t) (fun x=>(fieldsOf g t).length - x.1) (0,[]) ⟨by simp,by simp,zs7 hf t⟩ (tS) ⟨zT rfl zK,rfl⟩ ?_
 rintro ⟨k,out⟩ ⟨hk,hol,hr⟩
 simp only at hk hol hr
 by_cases hlt:k < (fieldsOf g t).length
 ·have he:=qB hlt
  obtain ⟨h0,hi⟩:=Zp (List.getElem_mem hlt)
  have hef:=qW (f:=ZK) hi
  rw [drop_cons hlt,List.filter_cons,zL hi] at hr
  generalize hfd:g.fields[(fieldsOf g t)[k].toNat]=f at hr hef
  repeat' (first|(refine shX ?_;first|refine qX he ?_|refine zB rfl (zl zf rfl rfl rfl rfl rfl rfl h0 hef) rfl rfl ?_|refine AD.step _ _ _ _ _ rfl (zl zf rfl rfl rfl rfl rfl rfl h0 hef) rfl rfl ?_)|(refine yH ?_;first|refine yU zf rfl rfl rfl rfl rfl rfl rfl (by show _ * 64≤_;simp;omega) (by simp;omega) rfl rfl ?_)|refine sK ?_|refine sC (fun _=>?_) (fun _=>?_)|fail)
  ·rename_i hx
   rw [if_pos hx,List.map_cons,zL hi,hfd] at hr
   exact ⟨(k + 1,out++[f]),⟨by simp;omega,by simp;omega,by simpa using hr⟩,tD,tS,⟨qG rfl (by simp) zK,rfl⟩⟩
  ·rename_i hx
   rw [if_neg (by simp [hx])] at hr
   exact ⟨(k + 1,out),⟨by simp;omega,by simp;omega,hr⟩,tD,tS,⟨qG rfl rfl zK,rfl⟩⟩
 ·rw [drop_end (by omega)] at hr
  repeat' (first|refine sK ?_|refine sC (fun _=>?_) (fun _=>?_)|fail)
  exact retq rfl (by rw [←hr];simp [zk])
theorem zfv (t:Ty):ACall Tryz.prog 214 [yJ t] (pb (whole t)):=by
 refine zh zf Tryz.func214 rfl (by kernel_rfl) Tryz.ntmps214 (by simp) _ rfl (fun hw gB hgB=>?_)
 repeat' (first|refine sA ?_|refine sC (fun _=>?_) (fun _=>?_)|fail)
 all_goals first|(refine retq rfl ?_;first|(simp only [zk,whole,BL,List.length_map] at *;simp only [*,BL,List.length_map];done)|(simp_all [zk,whole];done)|(simp_all [zk,whole];omega)|(simp_all [zk,whole];intros;omega))|(refine ZN rfl ?_;first|(simp only [zk,whole,BL,List.length_map] at *;simp only [*,BL,List.length_map];done)|(simp_all [zk,whole];done)|(simp_all [zk,whole];omega)|(simp_all [zk,whole];intros;omega))|skip
theorem Wp (g:Img) (t:Ty):ACall Tryz.prog 153 [zH g,yJ t] (pb (qx g t)):=by
 refine zh zf Tryz.func153 rfl (by kernel_rfl) Tryz.ntmps153 (by simp) _ rfl (fun hw gB hgB=>?_)
 repeat' (first|(refine shC ?_;first|refine qC (zdp t) ?_|refine qC (qZ g t.index) ?_)|refine sA ?_|refine sC (fun _=>?_) (fun _=>?_)|fail)
 all_goals first|(refine retq rfl ?_;first|(simp only [zk,qx,BL,List.length_map] at *;simp only [*,BL,List.length_map];done)|(simp_all [zk,qx];done)|(simp_all [zk,qx];omega)|(simp_all [zk,qx];intros;omega))|(refine ZN rfl ?_;first|(simp only [zk,qx,BL,List.length_map] at *;simp only [*,BL,List.length_map];done)|(simp_all [zk,qx];done)|(simp_all [zk,qx];omega)|(simp_all [zk,qx];intros;omega))|skip
end Go.Cg
