/- A part of the walks by abstract values: no statement of its own. -/
import Derived.Test.YtdngpcmllgnbjaaGreatE12
import Derived.Defers
import Derived.Recover
import Derived.Test.YtdngpcmllgnbjaaGreatE18
set_option linter.unusedVariables false
set_option linter.unusedSimpArgs false
namespace Go.Cg
open Go.RowKit
section
variable {P:Program} {tb:Tab} {n:Nat} {g:Base} {K K':KK} {w w':World} {ρ ρ':Nat→Value} {H H':HEnv} {env:Env} {a:Act} {ops:List Oper} {o:Oper} {rest:List Oper} {f:FuncId} {args:List AV} {r:AV} {QQ:QC} {x y c:Code}
def zot (Hc R:HEnv) (ars:List AV):Bool:=ziR Hc R&&YB Hc ars&&hIn Hc Hc&&hIn (R++[]) R
theorem zqL {ars:List AV} {vs:List Value} {pv:Value} (Hc R:HEnv) {lone:Bool} (hw1:lone=true→g.w1.heap.size=0) (hsub:HSub H (Hc++R))
  (hchk:zot Hc R ars=true) (hc:ACallPan P f ars Hc pv lone) (hf:FS g K ρ H w) (hall0:ZQ K w ρ H ars vs) :
  Calls P f vs.toArray w fun e w'=>e=.panicked [{ v:=pv,recovered:=false }]∧∃ K' ρ2,FS g K' ρ2 R w'∧Later K K' w w'∧(∀ j,(HEnv.get R j).isSome=true→ρ2 j=ρ j):=by
 obtain ⟨Hc',eHc⟩:∃ X:HEnv,X=[]:=⟨[],rfl⟩
 obtain ⟨ps,eps⟩:∃ X:List Nat,X=[]:=⟨[],rfl⟩
 simp only [zot,Bool.and_eq_true] at hchk
 obtain ⟨⟨⟨d1,i1⟩,i2⟩,i5⟩:=hchk
 have d2:ziR Hc' R=true:=by rw [eHc];rfl
 have d4:zcR 1000 Hc'=true:=by rw [eHc];rfl
 have i3:hIn Hc' Hc'=true:=by rw [eHc];rfl
 have i5:hIn (R++Xk ps) R=true:=by rw [eps];exact i5
 have i6:YI (R++Xk ps) []=true:=rfl
 have i7:(ps.all fun i=>(Hc.get i).isSome&&(Hc'.get i).isSome)=true:=by rw [eps];rfl
 have i7':∀ i∈ps,(Hc.get i).isSome=true∧(Hc'.get i).isSome=true:=fun i hi=>by simpa using List.all_eq_true.1 i7 i hi
 have hlatR:Later K K w w:=.refl K w
 have gC:∀ i x,Hc.get i=some x→H.get i=some x:=fun i x hx=>hsub i x (by rw [get_append,hx])
 have gR:∀ i x,R.get i=some x→H.get i=some x:=fun i x hx=>hsub i x (by
  rw [get_append]
  cases hh:Hc.get i with
  | none=>exact hx
  | some y=>rw [Zc d1 i y hh] at hx;cases hx)
 have nC:∀ i x,R.get i=some x→Hc.get i=none:=fun i x hx=>by
  cases hh:Hc.get i with
  | none=>rfl
  | some y=>rw [Zc d1 i y hh] at hx;cases hx
 have nC':∀ i x,R.get i=some x→Hc'.get i=none:=fun i x hx=>by
  cases hh:Hc'.get i with
  | none=>rfl
  | some y=>rw [Zc d2 i y hh] at hx;cases hx
 have hpinC:∀ {A:HEnv} {us:Nat→Value} {i:Nat} {x:HE},HEnv.get (A++zJ us ps) i=some x→x.live=true→A.get i=some x:=by
  intro A us i x hx hl
  rw [get_append] at hx
  cases hh:A.get i with
  | some z=>rw [hh] at hx;exact hx
  | none =>
   rw [hh] at hx
   obtain ⟨_,_,rfl⟩:=Yz hx
   simp [HE.live] at hl
 obtain ⟨g',hg'⟩:∃ g':Base,g'=⟨g.w0,K,g.w1,g.ds,w,fun b=>g.pr b∨∃ i x,R.get i=some x∧x.live=true∧zA (ρ i)=some b⟩:=⟨_,rfl⟩
 have hfs:FS g' K ρ (Hc++zJ ρ ps) w:=by
  subst hg'
  refine ⟨hf.below,fun _ _ h=>h,fun _ _ h=>.inl h,hf.lt,hf.others,⟨?_,fun _ _ _=>rfl⟩,?_,?_,?_⟩
  ·rintro b (hb|⟨i,x,hi,hl,hb⟩)
   ·exact ⟨(hf.pt.same b hb).1,rfl,fun _=>Iff.rfl⟩
   ·exact ⟨((hf.heap.ok i x (gR i x hi)).block_lt hl hb).2,rfl,fun _=>Iff.rfl⟩
  ·intro i x b hi hl hb
   have hC:=hpinC hi hl
   rintro (hp|⟨j,y,hj,hly,hbj⟩)
   ·exact hf.away i x b (gC i x hC) hl hb hp
   ·have hne:i≠j:=by rintro rfl;rw [nC i y hj] at hC;cases hC
    exact hf.heap.apart i j x y b hne (gC i x hC) (gR j y hj) hl hly hb hbj
  ·intro i x hi
   rw [get_append] at hi
   cases hh:Hc.get i with
   | some y =>
    rw [hh] at hi;simp only [Option.some.injEq] at hi;subst hi
    have hok:=hf.heap.ok i y (gC i y hh)
    have hk:∀ j,(HEnv.get Hc j).isSome=true→(HEnv.get (Hc++zJ ρ ps) j).isSome=true∧ρ j=ρ j:=fun j hj=>⟨zH j hj,rfl⟩
    cases y with
    | cell v=>obtain ⟨b,t,arr,u,q1,q2,q3,q4,q5,q6⟩:=hok;exact ⟨b,t,arr,u,q1,q2,q3,(q4.refs (Zw i2 i v hh)).keeps hlatR hk,q5,q6⟩
    | pin v u=>exact (ARel.refs hok (qP i2 i v u hh)).keeps hlatR hk
    | row t sz es=>exact hok
    | mrow t sz es=>exact hok
    | dead=>exact hok
    | obj X=>exact hok
   | none =>
    rw [hh] at hi
    obtain ⟨q1,q2,rfl⟩:=Yz hi
    exact .own _ (zH _ (i7' _ q2).1)
  ·intro i j x y b hij hi hj lx ly bx bj
   exact hf.heap.apart i j x y b hij (gC i x (hpinC hi lx)) (gC j y (hpinC hj ly)) lx ly bx bj
 have hall:ZQ K w ρ (Hc++zJ ρ ps) ars vs :=
  ⟨hall0.1,fun k c v hc hv=>((hall0.2 k c v hc hv).refs (qM i1 k c hc)).keeps hlatR fun j hj=>⟨zH j hj,rfl⟩⟩
 have hfs1:FS g' K ρ Hc w:=by
  have:Hc++zJ ρ ps=Hc:=by rw [eps];simp [zJ]
  rw [this] at hfs;exact hfs
 have hall1:ZQ K w ρ Hc ars vs:=by
  have:Hc++zJ ρ ps=Hc:=by rw [eps];simp [zJ]
  rw [this] at hall;exact hall
 refine (hc.calls g' K ρ w _ (by subst hg';exact hw1) hfs1 hall1).mono fun e w' ⟨e1,K',ρ',hf''⟩=>?_
 subst e1
 have hf':FS g' K' ρ' (Hc'++zJ ρ ps) w':=by
  have:Hc'++zJ ρ ps=[]:=by rw [eps,eHc];simp [zJ]
  rw [this];exact hf''
 have hlat:Later K K' w w':=by subst hg';exact ⟨hf'.old,hf'.pt.kept⟩
 have hprot:∀ b,(g.pr b∨∃ i x,R.get i=some x∧x.live=true∧zA (ρ i)=some b)→b < w'.heap.size∧w'.heap[b]?=w.heap[b]?∧∀ o,K' b o↔K b o:=by subst hg';exact hf'.pt.same
 have haway:∀ i x b,Hc'.get i=some x→x.live=true→zA (ρ' i)=some b→¬ (g.pr b∨∃ i x,R.get i=some x∧x.live=true∧zA (ρ i)=some b):=by
  subst hg';exact fun i x b hi=>hf'.away i x b (by rw [get_append,hi])
 obtain ⟨ρ2,hρ2⟩:∃ ρ2:Nat→Value,∀ j,ρ2 j=if (Hc'.get j).isSome then ρ' j else ρ j:=⟨_,fun _=>rfl⟩
 have r1:∀ j,(Hc'.get j).isSome=true→ρ2 j=ρ' j:=fun j hj=>by rw [hρ2,if_pos hj]
 have r2:∀ j,Hc'.get j=none→ρ2 j=ρ j:=fun j hj=>by rw [hρ2,hj];rfl
 have hkC:∀ j,(HEnv.get Hc' j).isSome=true→(HEnv.get (Hc'++R) j).isSome=true∧ρ2 j=ρ' j:=fun j hj=>⟨zH j hj,r1 j hj⟩
 have hps:∀ i∈ps,ρ' i=ρ i:=fun i hi=>by
  have hnone:Hc'.get (1000 + i)=none:=by
   cases hh:Hc'.get (1000 + i) with
   | none=>rfl
   | some x=>have:=YV d4 _ x hh;omega
  have:=hf'.heap.ok (1000 + i) _ (by rw [get_append,hnone];exact zaF hi)
  have this:ARel K' w' ρ' (Hc'++zJ ρ ps) (.own i) (ρ i):=this
  generalize hu:ρ i=u at this
  cases this with
  | own _ _=>rfl
 have hkR:∀ j,(HEnv.get (R++Xk ps) j).isSome=true→(HEnv.get (Hc'++R) j).isSome=true∧ρ2 j=ρ j:=fun j hj=>by
  rw [get_append] at hj
  cases hh:R.get j with
  | some x =>
   have hn:=nC' j x hh
   exact ⟨by rw [get_append,hn,hh];rfl,r2 j hn⟩
  | none =>
   rw [hh] at hj
   have hm:=zaG hj
   have hs':=(i7' j hm).2
   exact ⟨zH j hs',by rw [r1 j hs',hps j hm]⟩
 have hfs2:FS g K' ρ2 (Hc'++R) w':=by
  have b1:Below g.w0.heap.size g.w0 w':=by subst hg';exact hf'.below
  have b3:∀ b o,K' b o→K b o∨g.w0.heap.size≤b:=by subst hg';exact hf'.new
  have b5:KeepsOthers g.w1 w':=by subst hg';exact hf'.others
  have bB:HRel K' w' g.w0.heap.size ρ' (Hc'++zJ ρ ps):=by subst hg';exact hf'.heap
  refine ⟨b1,fun b o h=>hlat.sub b o (hf.old b o h),fun b o hk=>(b3 b o hk).elim (hf.new b o) .inr,hf'.lt,b5,⟨fun b hb=>?_,fun b o h0=>(hlat.cell b o (hf.old b o h0)).trans (hf.pt.kept b o h0)⟩,fun i x b hi hl hb=>?_,fun i x hi=>?_,fun i j x y b hij hi hj lx ly bx bj=>?_⟩
  ·obtain ⟨p1,p2,p3⟩:=hprot b (.inl hb)
   obtain ⟨q1,q2,q3⟩:=hf.pt.same b hb
   exact ⟨p1,p2.trans q2,fun o=>(p3 o).trans (q3 o)⟩
  ·rw [get_append] at hi
   cases hh:Hc'.get i with
   | some y =>
    rw [hh] at hi;simp only [Option.some.injEq] at hi;subst hi
    rw [r1 i (by rw [hh];rfl)] at hb
    exact fun hp=>haway i y b hh hl hb (.inl hp)
   | none =>
    rw [hh] at hi
    rw [r2 i hh] at hb
    exact hf.away i x b (gR i x hi) hl hb
  ·rw [get_append] at hi
   cases hh:Hc'.get i with
   | some y =>
    rw [hh] at hi;simp only [Option.some.injEq] at hi;subst hi
    rw [r1 i (by rw [hh];rfl)]
    have hok:=bB.ok i y (by rw [get_append,hh])
    have hl':=Later.refl K' w'
    cases y with
    | cell v=>obtain ⟨b,t,arr,u,q1,q2,q3,q4,q5,q6⟩:=hok;exact ⟨b,t,arr,u,q1,q2,q3,(q4.refs (Zw i3 i v hh)).keeps hl' hkC,q5,q6⟩
    | pin v u=>exact (ARel.refs hok (qP i3 i v u hh)).keeps hl' hkC
    | row t sz es=>exact hok
    | mrow t sz es=>exact hok
    | dead=>exact hok
    | obj X=>exact hok
   | none =>
    rw [hh] at hi
    rw [r2 i hh]
    have hok:=hf.heap.ok i x (gR i x hi)
    have hsame:x.live=true→∀ b,zA (ρ i)=some b→w'.heap[b]?=w.heap[b]?∧∀ o,K' b o↔K b o:=fun hl b hb=>(hprot b (.inr ⟨i,x,hi,hl,hb⟩)).2
    cases x with
    | cell v =>
     obtain ⟨b,t,arr,u,q1,q2,q3,q4,q5,q6⟩:=hok
     obtain ⟨s1,s2⟩:=hsame rfl b (by rw [q1];rfl)
     exact ⟨b,t,arr,u,q1,q2,by rw [s1];exact q3,(q4.refs (Zw i5 i v hi)).keeps hlat hkR,q5,fun o hk=>q6 o ((s2 o).1 hk)⟩
    | pin v u=>exact (ARel.refs hok (qP i5 i v u hi)).keeps hlat hkR
    | row t sz es =>
     obtain ⟨xs,q1,q2,q3,q4⟩:=hok
     refine ⟨xs,qL q1 fun b hb=>(hsame rfl b hb).1,q2,fun k e he=>?_,fun b hb o=>?_⟩
     ·obtain ⟨c1,c2⟩:=q3 k e he
      exact ⟨c1,fun k c hc=>let ⟨v,h4,h5,h6⟩:=c2 k c hc;⟨v,h4,h5,h6.later hlat⟩⟩
     ·rw [(hsame rfl b ((Zy q1 b).2 hb)).2 o];exact q4 b hb o
    | mrow t sz es =>
     obtain ⟨xs,q1,q2,q3,q4⟩:=hok
     refine ⟨xs,qL q1 fun b hb=>(hsame rfl b hb).1,q2,fun k e he=>?_,fun b hb o hk=>?_⟩
     ·obtain ⟨c1,c2⟩:=q3 k e he
      exact ⟨c1,fun k c hc=>let ⟨v,h4,h5,h6⟩:=c2 k c hc;⟨v,h4,h5,h6.later hlat⟩⟩
     ·exact q4 b hb o (((hsame rfl b ((Zy q1 b).2 hb)).2 o).1 hk)
    | dead=>trivial
    | obj X =>
     obtain ⟨b,ob,q1,q2,q3,q4,q5⟩:=hok
     obtain ⟨s1,s2⟩:=hsame rfl b (by rw [q1];rfl)
     exact ⟨b,ob,q1,q2,by rw [s1];exact q3,q4,fun o hk=>q5 o ((s2 o).1 hk)⟩
  ·rw [get_append] at hi hj
   cases hhi:Hc'.get i with
   | some x' =>
    rw [hhi] at hi;simp only [Option.some.injEq] at hi;subst hi
    rw [r1 i (by rw [hhi];rfl)] at bx
    cases hhj:Hc'.get j with
    | some y' =>
     rw [hhj] at hj;simp only [Option.some.injEq] at hj;subst hj
     rw [r1 j (by rw [hhj];rfl)] at bj
     exact bB.apart i j x' y' b hij (by rw [get_append,hhi]) (by rw [get_append,hhj]) lx ly bx bj
    | none =>
     rw [hhj] at hj;rw [r2 j hhj] at bj
     exact haway i x' b hhi lx bx (.inr ⟨j,y,hj,ly,bj⟩)
   | none =>
    rw [hhi] at hi;rw [r2 i hhi] at bx
    cases hhj:Hc'.get j with
    | some y' =>
     rw [hhj] at hj;simp only [Option.some.injEq] at hj;subst hj
     rw [r1 j (by rw [hhj];rfl)] at bj
     exact haway j y' b hhj ly bj (.inr ⟨i,x,hi,lx,bx⟩)
    | none =>
     rw [hhj] at hj;rw [r2 j hhj] at bj
     exact hf.heap.apart i j x y b hij (gR i x hi) (gR j y hj) lx ly bx bj
 refine ⟨rfl,K',ρ2,?_,hlat,fun j hj=>(hkR j (zH j hj)).2⟩
 have:Hc'++R=R:=by rw [eHc];rfl
 rw [this] at hfs2;exact hfs2
theorem zaE {xs:Array Operand} {ts:Array TypeId} {ars:List AV} {v:Value} (Hc R:HEnv) {lone:Bool} (hw1:lone=true→g.w1.heap.size=0) (hg:guardE ops env o=some true)
  (hop:o.op=.call { callee:=.value (.func f),args:=xs,argTypes:=ts }) (hargs:avs env xs.toList=some ars) (hsub:HSub H (Hc++R)) (hchk:zot Hc R ars=true) (hc:ACallPan P f ars Hc v lone)
  (h:QQ (.panic [{ v:=v,recovered:=false }]) (zbj R env) R):AOX P n g ops.toArray (o::rest) env H QQ:=by
 refine ⟨fun a w hinv=>?_⟩
 have hw:=yB hinv hg
 obtain ⟨h1,h2,K,ρ,hf,he⟩:=hinv
 refine wpList_step fun KK hKK=>?_
 rw [if_pos hw]
 have hrun:(execOp a.eval o).run P w=.ok (.enter f (xs.toList.map a.eval).toArray) w:=by
  have e:(xs.toList.map a.eval).toArray=xs.map a.eval:=by rw [←Array.toList_map,Array.toArray_toList]
  rw [e]
  simp [execOp,hop,resolve,Act.eval,Deferred.ofValue,invoke,yX hc.stands]
 unfold Oper.wp
 rw [hrun]
 simp only [Oper.upon]
 refine (zqL Hc R hw1 hsub hchk hc hf (VG (a:=a) he hargs)).mono fun e w' ⟨e1,K',ρ2,hf',hlat,hps⟩=>?_
 subst e1
 refine ⟨zbj R env,R,⟨h1,h2,K',ρ2,hf',fun t av ht=>?_⟩,.inr ⟨_,rfl⟩,h⟩
 rw [zbR] at ht
 cases hE:env.get t with
 | none=>simp [hE] at ht
 | some v0 =>
  obtain ⟨u,u1,u2⟩:=he t v0 hE
  simp only [hE,Option.map_some,Option.some.injEq] at ht
  subst ht
  refine ⟨u,u1,?_⟩
  split
  ·rename_i hr;exact (u2.refs hr).keeps hlat fun j hj=>⟨hj,hps j hj⟩
  ·exact .any u
structure AWD (P:Program) (n:Nat) (ds0:List Deferred) (c:Code) (env:Env) (H:HEnv) (Q:List Deferred→QC):Prop where
 go:∀ (g:Base),g.ds=ds0→∀ a w,Inv n g env H a w→c.wp P (fun e a' w'=>∃ ds env' H',Inv n { g with ds:=ds } env' H' a' w'∧Q ds e env' H') a w
variable {Q:List Deferred→QC} {ds0:List Deferred}
theorem VI (h:∀ g,AW P n g c env H (Q ds0)):AWD P n ds0 c env H Q :=
 ⟨fun g hg a w hi=>wp_mono (wpIn_wide.1 ((h g).go a w hi none 0)) fun e a' w' ⟨env',H',h1,h2⟩=>⟨g.ds,env',H',h1,by rw [hg];exact h2⟩⟩
theorem VL (h:AWD P n ds0 x env H (fun ds=>zsd (fun env' H'=>AWD P n ds y env' H' Q) (Q ds))):AWD P n ds0 (.seq x y) env H Q :=
 ⟨fun g hg a w hi=>wp_seq (wp_mono (h.go g hg a w hi) fun e a' w' ⟨ds,env',H',h1,h2⟩=>by
  cases e <;> first
   | exact h2.go { g with ds:=ds } rfl a' w' h1
   | exact ⟨ds,env',H',h1,h2⟩)⟩
theorem zgr (i j:Nat) {v:AV} (hi:H.get i=some (.cell v)) (hj:H.get j=none) (k:∀ p,AWD P n ds0 c env ((j,.pin (.box i 0) p)::H) Q):AWD P n ds0 c env H Q:=by
 refine ⟨fun g hg a w hinv=>?_⟩
 obtain ⟨g1,g2,K,ρ,hf,he⟩:=hinv
 obtain ⟨b,t,arr,u,q1,q2,q3,q4,q5,q6⟩:=hf.heap.ok i _ hi
 have hkk:∀ p m,(H.get m).isSome=true→(HEnv.get ((j,.pin (.box i 0) p)::H) m).isSome=true∧ρ m=ρ m:=by
  intro p m hm
  refine ⟨?_,rfl⟩
  rw [HEnv.get_cons];split <;> first|rfl|exact hm
 have hlive:∀ p m hh,HEnv.get ((j,.pin (.box i 0) p)::H) m=some hh→hh.live=true→H.get m=some hh:=by
  intro p m hh hm hl
  rw [HEnv.get_cons] at hm
  split at hm
  ·simp only [Option.some.injEq] at hm;subst hm;simp [HE.live] at hl
  ·exact hm
 refine (k (.pointer (some ⟨b,0,none⟩))).go g hg a w ⟨g1,g2,K,ρ,⟨hf.below,hf.old,hf.new,hf.lt,hf.others,hf.pt,fun m hh bb hm hl hb=>hf.away m hh bb (hlive _ m hh hm hl) hl hb,fun m hh hm=>?_,fun m m' hh hh' bb hmm hm hm' hl hl'=>hf.heap.apart m m' hh hh' bb hmm (hlive _ m hh hm hl) (hlive _ m' hh' hm' hl') hl hl'⟩,he.keeps (.refl K w) (hkk _)⟩
 rw [HEnv.get_cons] at hm
 split at hm
 ·simp only [Option.some.injEq] at hm;subst hm
  have hold:ARel K w ρ H (.box i 0) (.pointer (some ⟨b,0,none⟩)):=.box i 0 b (by rw [hi];rfl) q1
  exact hold.keeps (.refl K w) (hkk _)
 ·exact (hf.heap.ok m hh hm).keeps (.refl hf.lt) hf.lt (hkk _)
theorem zo2 {i off:Nat} {u v:Value} (h:ARel K w ρ H (.box i off) u) (h':ARel K w ρ H (.box i off) v):u=v:=by
 cases h with
 | box _ _ b _ hb =>
  cases h' with
  | box _ _ b' _ hb'=>rw [hb] at hb';cases hb';rfl
def ZX (H:HEnv):List AV→List Value→Prop
 | [],[]=>True
 | .box i off::cs,p::ps=>(∃ m,H.get m=some (.pin (.box i off) p))∧ZX H cs ps
 | _,_=>False
theorem zbx (hf:FS g K ρ H w):∀ {cs:List AV} {ps vs:List Value},ZX H cs ps→(vs.length=cs.length∧∀ (k:Nat) (c:AV) (v:Value),cs[k]?=some c→vs[k]?=some v→ARel K w ρ H c v)→vs=ps
 | [],[],vs,_,h=>List.eq_nil_of_length_eq_zero (by simpa using h.1)
 | [],_::_,_,h,_=>h.elim
 | .box i off::cs,[],_,h,_=>h.elim
 | .box i off::cs,p::ps,vs,h,hv=>by
  obtain ⟨⟨m,hm⟩,h2⟩:=h
  cases vs with
  | nil=>simp at hv
  | cons v vs =>
   have h1:=hv.2 0 _ v rfl rfl
   have h3:ARel K w ρ H (.box i off) p:=hf.heap.ok m _ hm
   have e1:=zo2 h1 h3
   have e2:=zbx (vs:=vs) hf h2 ⟨by simpa using hv.1,fun k c u hc hu=>hv.2 (k + 1) c u (by simpa using hc) (by simpa using hu)⟩
   rw [e1,e2]
 | .pv _::_,_,_,h,_=>h.elim
 | .own _::_,_,_,h,_=>h.elim
 | .ad _ _::_,_,_,h,_=>h.elim
 | .agg _::_,_,_,h,_=>h.elim
 | .fn _ _ _::_,_,_,h,_=>h.elim
 | .any::_,_,_,h,_=>h.elim
 | .any1::_,_,_,h,_=>h.elim
theorem YA (hf:FS g K ρ H w):∀ {cs:List AV} {ps:List Value},ZX H cs ps→ZQ K w ρ H cs ps
 | [],[],_=>⟨rfl,fun k c v h=>by simp at h⟩
 | [],_::_,h=>h.elim
 | .box i off::cs,[],h=>h.elim
 | .box i off::cs,p::ps,h=>by
  obtain ⟨⟨m,hm⟩,h2⟩:=h
  obtain ⟨q1,q2⟩:=YA hf h2
  refine ⟨by simp [q1],fun k c v hc hv=>?_⟩
  cases k with
  | zero=>simp at hc hv;subst hc hv;exact hf.heap.ok m _ hm
  | succ k=>simp at hc hv;exact q2 k c v hc hv
 | .pv _::_,_,h=>h.elim
 | .own _::_,_,h=>h.elim
 | .ad _ _::_,_,h=>h.elim
 | .agg _::_,_,h=>h.elim
 | .fn _ _ _::_,_,h=>h.elim
 | .any::_,_,h=>h.elim
 | .any1::_,_,h=>h.elim
structure DCall (P:Program) (f:FuncId) (H:HEnv) (args:List AV) (u u':FrameMode) (H':HEnv):Prop where
 stands:Vr P f
 calls:∀ (g:Base) (K:KK) (ρ:Nat→Value) (w:World) (vs:List Value),FS g K ρ H w→ZQ K w ρ H args vs →
  CallsD P f vs.toArray u w fun e m w'=>(∃ v,e=.returned v)∧m=u'∧∃ K' ρ',FS g K' ρ' H' w'
def QV:Exit→Option FrameMode
 | .normal=>some .returning
 | .ret=>some .returning
 | .panic ch=>some (.panicking ch)
 | _=>none
def Zi:List Nat→List AV→Env
 | t::ts,c::cs=>(t,c)::Zi ts cs
 | _,_=>[]
def DQ (P:Program) (tb:Tab) (rs:List ResultVar) (r:PV) (ex:Exit) (env:Env) (H:HEnv):List Deferred→Prop
 | []=>zqa tb rs r ex env H
 | [d]=>∃ (mode u':FrameMode) (f:FuncId) (slots:List Nat) (caps:List AV) (ps:List Value) (Hn H':HEnv) (rp:List PV),QV ex=some mode∧d={ target:=.fn (.func f) ps.toArray,args:=#[] }∧Ye H Hn (Zi slots caps)∧ZX Hn caps ps∧ZX H' caps ps ∧
   DCall P f Hn caps mode u' H'∧settle u'=.returning∧slots.length=caps.length∧slots.Nodup∧Sub env (Zi slots caps)∧Vy tb H' (Zi slots caps) rs=some rp∧zn rp=r
 | _=>False
theorem zeP {id k t:Nat} {l1:List Oper} {oD:Oper} {ts:Array TypeId} (h1:ops.take k=l1) (h2:ops.drop k=[oD]) (hop:oD.op=.defer { callee:=.value (.tmp t),args:=#[],argTypes:=ts }) (hg:oD.guard=none) (hd:oD.dst=none)
  (h:∀ g,AO P n g ops.toArray l1 env H (fun env' H'=>∃ f caps ps,env'.get t=some (.fn (.func f) [] caps)∧ZX H' caps ps∧Q ({ target:=.fn (.func f) ps.toArray,args:=#[] }::ds0) .normal env' H')) :
  AWD P n ds0 (.region id ops.toArray false) env H Q:=by
 refine ⟨fun g hgd a w hi=>wp_region_lit ?_⟩
 rw [←List.take_append_drop k ops,h1,h2]
 have e0:(l1++[oD]).toArray=ops.toArray:=by rw [←h1,←h2,List.take_append_drop]
 rw [e0]
 refine Xq (Zl (fun e a' w' hh=>?_) ((h g).go a w hi))
 obtain ⟨env',H',hi',he,f,caps,ps,hget,hpin,hQ⟩:=hh
 refine ⟨he,?_⟩
 unfold wpList
 have hw:Region.wanted oD (yielded ops.toArray a'.tmps)=true:=by simp [Region.wanted,hg]
 rw [if_pos hw]
 refine .inl ?_
 obtain ⟨g1,g2,K,ρ,hf,hE⟩:=hi'
 obtain ⟨v,v1,v2⟩:=hE t _ hget
 cases v2 with
 | fn _ _ _ vf vc a1 a2 a3 a4 =>
  have hvc:=zbx hf hpin ⟨a2,a4⟩
  have hvf:vf=[]:=List.eq_nil_of_length_eq_zero (by simpa using a1)
  subst hvc hvf
  have hev:a'.eval (.tmp t)=.func (.func f) #[] vc.toArray:=by
   simp [Act.eval,Array.getD_eq_getD_getElem?,v1]
  unfold Oper.wp
  have hrun:(execOp a'.eval oD).run P w'=.ok (.defer { target:=.fn (.func f) vc.toArray,args:=#[] }) w':=by
   simp [execOp,hop,resolve,hev,Deferred.ofValue]
  rw [hrun]
  simp only [Oper.upon,hd,Act.put]
  unfold wpList
  exact ⟨({ target:=.fn (.func f) vc.toArray,args:=#[] }:Deferred)::ds0,env',H',⟨g1,by simp [g2,hgd],K,ρ,⟨hf.below,hf.old,hf.new,hf.lt,hf.others,⟨hf.pt.same,hf.pt.kept⟩,hf.away,hf.heap⟩,hE⟩,hQ⟩
theorem zfg (hf:FS g K ρ H w):∀ {slots:List Nat} {caps:List AV} {ps:List Value} {tmps:Array Value},ZX H caps ps→EnvR K w ρ H (Zi slots caps) tmps→slots.length=caps.length→slots.Nodup→∀ (k t:Nat) (p:Value),slots[k]?=some t→ps[k]?=some p→tmps[t]?=some p
 | [],caps,ps,tmps,_,_,_,_=>fun k t p h=>by simp at h
 | s::slots,[],ps,tmps,_,_,hl,_=>by simp at hl
 | s::slots,c::caps,[],tmps,hp,_,_,_=>by cases c <;> exact hp.elim
 | s::slots,c::caps,q::ps,tmps,hp,hE,hl,hnd=>by
  rw [List.nodup_cons] at hnd
  intro k t p hk hpk
  have hc:∃ i off,c=.box i off:=by cases c <;> first|exact ⟨_,_,rfl⟩|exact hp.elim
  obtain ⟨i,off,rfl⟩:=hc
  obtain ⟨⟨m,hm⟩,hp2⟩:=hp
  cases k with
  | zero =>
   simp at hk hpk;subst hk hpk
   obtain ⟨v,v1,v2⟩:=hE s (.box i off) (by simp [Zi,Env.get_cons])
   rw [v1,zo2 v2 (hf.heap.ok m _ hm)]
  | succ k =>
   simp at hk hpk
   refine zfg (slots:=slots) (caps:=caps) (ps:=ps) hf hp2 (fun t' av hg=>?_) (by simpa using hl) hnd.2 k t p hk hpk
   have hne:s≠t':=by
    rintro rfl
    have key:∀ {slots:List Nat} {caps:List AV} {av:AV},(Zi slots caps).get s=some av→s∈slots:=by
     intro slots
     induction slots with
     | nil=>intro caps av h;simp [Zi,Env.get_nil] at h
     | cons x xs ih =>
      intro caps av h
      cases caps with
      | nil=>simp [Zi,Env.get_nil] at h
      | cons y ys =>
       rw [Zi,Env.get_cons] at h
       split at h
       ·rename_i e;simp [e]
       ·exact List.mem_cons_of_mem _ (ih h)
    exact hnd.1 (key hg)
   exact hE t' av (by rw [Zi,Env.get_cons,if_neg hne];exact hg)
theorem zfy:∀ {slots:List Nat} {caps:List AV} {ps:List Value} {tmps:Array Value},ZQ K w ρ H caps ps→slots.length=caps.length→(∀ (k t:Nat) (p:Value),slots[k]?=some t→ps[k]?=some p→tmps[t]?=some p)→EnvR K w ρ H (Zi slots caps) tmps
 | [],caps,ps,tmps,_,_,_=>fun t av h=>by simp [Zi,Env.get_nil] at h
 | s::slots,[],ps,tmps,_,hl,_=>by simp at hl
 | s::slots,c::caps,ps,tmps,hr,hl,hk=>fun t av h=>by
  cases ps with
  | nil=>have:=hr.1;simp at this
  | cons p ps =>
   rw [Zi,Env.get_cons] at h
   split at h
   ·rename_i e;subst e
    simp only [Option.some.injEq] at h;subst h
    exact ⟨p,hk 0 s p rfl rfl,hr.2 0 c p rfl rfl⟩
   ·exact zfy (slots:=slots) (caps:=caps) (ps:=ps) ⟨by simpa using hr.1,fun k c u hc hu=>hr.2 (k + 1) c u (by simpa using hc) (by simpa using hu)⟩ (by simpa using hl) (fun k t p h1 h2=>hk (k + 1) t p (by simpa using h1) (by simpa using h2)) t av h
theorem zi7 (htb:yA P tb) {args:List PV} {r:PV} {fn:Func} {c:Code} (hf:P.funcs[f]?=some fn) (hb:fn.body=some c) (hn:(fn.name == "runtime.NumGoroutine")=false) (hnt:fn.ntmps=n) (hargs:args.length≤n)
  (rs:List ResultVar) (hrs:fn.results.toList=rs) (h:lensOk args→AWD P n [] c (zfO 0 args) [] (fun ds ex env H=>DQ P tb rs r ex env H ds)):ACall P f args r:=by
 refine ⟨⟨fn,hf,by simp [hb],hn⟩,fun K w vs hl hv=>?_⟩
 refine calls_of_wp_defers hf hb ?_
 have hlen:vs.length=args.length:=hv.1
 refine wp_mono ((h hv.lensOk).go (Base.of w K (bare w) []) rfl _ w ⟨by simp [hnt];omega,rfl,K,fun _=>undef,⟨.refl _ _,fun _ _ h=>h,fun _ _ h=>.inl h,hl,XR _ _,.base,.none _ _,⟨by simp [HEnv.get_nil,HEnv.get_cons],by simp [HEnv.get_nil,HEnv.get_cons]⟩⟩,?_⟩) ?_
 ·intro t av hg
  obtain ⟨_,p,hp,rfl⟩:=zay args 0 t av hg
  have hlt:t < vs.length:=by rw [hlen];exact (List.getElem?_eq_some_iff.1 hp).1
  refine ⟨vs[t],?_,.pv _ _ (hv.2 t p _ hp (List.getElem?_eq_getElem hlt))⟩
  rw [Array.getElem?_append_left (by simpa using hlt)]
  simp [hlt]
 ·rintro e a' w' ⟨ds,env1,H',hi,hq⟩
  have fin:∀ (ds:List Deferred) {K':KK} {ρ':Nat→Value} {H2:HEnv} {env2:Env} {w2:World} {rp:List PV},FS { Base.of w K (bare w) [] with ds:=ds } K' ρ' H2 w2→EnvR K' w2 ρ' H2 env2 a'.tmps→Vy tb H2 env2 rs=some rp →
    ∃ v,(results fn a'.tmps).run P w2=.ok v w2∧(∃ K'',Evo K K'' w w2∧PRel K'' w2 (zn rp) v):=by
   intro ds K' ρ' H2 env2 w2 rp hf' he' hps
   obtain ⟨us,hrun,hru⟩:=QG htb hf' he' hps
   have hev:Evo K K' w w2:=⟨hf'.below,hf'.old,hf'.new,hf'.lt⟩
   have hres:(results fn a'.tmps).run P w2=.ok (if hh:us.toArray.size=1 then us.toArray[0] else .tuple us.toArray) w2:=by
    unfold results
    rw [Array.mapM_eq_mapM_toList,hrs]
    simp only [Sem.run_bind,Sem.run_map]
    erw [hrun]
    rfl
   refine ⟨_,hres,K',hev,?_⟩
   split
   ·rename_i hh
    have hl1:=hru.1
    have hu:us.length=1:=by simpa using hh
    obtain ⟨u,rfl⟩:=List.length_eq_one_iff.1 hu
    obtain ⟨p,rfl⟩:=List.length_eq_one_iff.1 (show rp.length=1 by omega)
    exact hru.2 0 p u (by simp) (by simp)
   ·rename_i hh
    simp at hh
    have:zn rp=.tup rp:=by
     unfold zn
     split
     ·rename_i p;exact absurd (by have:=hru.1;simpa using this) hh
     ·rfl
    rw [this]
    exact .tup rp us hru.1 hru.2
  match ds,hi,hq with
  | [],hi,hq =>
   obtain ⟨i1,i2,K',ρ',hf',he0⟩:=hi
   obtain ⟨he,env',hent,ps,hps,rfl⟩:=hq
   have he':EnvR K' w' ρ' H' env' a'.tmps:=fun t av ht=>by
    obtain ⟨av0,q1,q2⟩:=hent t av ht
    obtain ⟨v,v1,v2⟩:=he0 t av0 q1
    exact ⟨v,v1,q2 _ _ _ _ _ v2⟩
   obtain ⟨v,hres,K'',hev,hval⟩:=fin _ hf' he' hps
   have i2':a'.defers=[]:=i2
   rcases he with rfl|rfl <;> (simp only [bodyPostD,i2'];exact ⟨v,hres,v,K'',rfl,hev,hval⟩)
  | [d],hi,hq =>
   obtain ⟨mode,u',f2,slots,caps,ps,Hn,H2,rp,hm,rfl,hfit,hb1,hb2,hD,hset,hsl,hnd,hsub,hrp,rfl⟩:=hq
   obtain ⟨i1,i2,K',ρ',hf',hE⟩:=(hi.sub hsub).hsub hfit
   have i2':a'.defers=[{ target:=.fn (.func f2) ps.toArray,args:=#[] }]:=i2
   have hslots:=zfg hf' hb1 hE hsl hnd
   have key:mode≠.run→Leaves P fn a'.tmps (fun e w'=>∃ v K',e=.returned v∧Evo K K' w w'∧PRel K' w' (zn rp) v) [{ target:=.fn (.func f2) ps.toArray,args:=#[] }] mode w':=by
    intro hmr
    refine leaves_cons hmr (f:=f2) (args:=ps.toArray) (by simp [invoke,yX hD.stands]) ?_
    refine (hD.calls _ K' ρ' w' ps hf' (YA hf' hb1)).mono ?_
    rintro e m w2 ⟨⟨v0,rfl⟩,rfl,K2,ρ2,hf2⟩
    obtain ⟨v,hres,K'',hev,hval⟩:=fin _ hf2 (zfy (YA hf2 hb2) hsl hslots) hrp
    simp only [hset]
    exact ⟨v,hres,v,K'',rfl,hev,hval⟩
   cases e with
   | normal=>simp only [QV,Option.some.injEq] at hm;subst hm;simp only [bodyPostD,i2'];exact key (by simp)
   | ret=>simp only [QV,Option.some.injEq] at hm;subst hm;simp only [bodyPostD,i2'];exact key (by simp)
   | panic ch=>simp only [QV,Option.some.injEq] at hm;subst hm;simp only [bodyPostD,i2'];exact key (by simp)
   | exit id=>simp [QV] at hm
   | goto l=>simp [QV] at hm
   | outgrown=>simp [QV] at hm
  | _::_::_,_,hq=>exact hq.elim
theorem QE {caps:List AV} {u u':FrameMode} {fn:Func} {c:Code} (hf:P.funcs[f]?=some fn) (hb:fn.body=some c) (hn:(fn.name == "runtime.NumGoroutine")=false) (hrs:fn.results=#[])
  (h:∀ (g:Base) (K:KK) (ρ:Nat→Value) (w:World) (vs:List Value),g.ds=[]→FS g K ρ H w→ZQ K w ρ H caps vs→∀ (c₀:Frame) (cs:List Frame),c₀.mode=u →
   c.wpS P (fun ex a' cs' w'=>(ex=.normal∨ex=.ret)∧a'.defers=[]∧cs'={ c₀ with mode:=u' }::cs∧∃ K' ρ',FS g K' ρ' H' w') { tmps:=vs.toArray++Array.replicate (fn.ntmps - vs.length) undef,defers:=[] } (c₀::cs) w):DCall P f H caps u u' H':=by
 refine ⟨⟨fn,hf,by simp [hb],hn⟩,fun g0 K ρ w vs hfs0 hv=>?_⟩
 obtain ⟨g,hg0⟩:∃ g:Base,g=⟨g0.w0,g0.K0,g0.w1,[],g0.wp,g0.pr⟩:=⟨_,rfl⟩
 have hfs:FS g K ρ H w:=by subst hg0;exact ⟨hfs0.below,hfs0.old,hfs0.new,hfs0.lt,hfs0.others,⟨hfs0.pt.same,hfs0.pt.kept⟩,hfs0.away,hfs0.heap⟩
 refine callsD_of_wpS hf hb fun c₀ cs hu=>?_
 have hh:=h g K ρ w vs (by subst hg0;rfl) hfs hv c₀ cs hu
 intro b k hb1 hb2
 obtain ⟨e,a',cs',w',hq,harr⟩:=hh b k hb1 hb2
 refine ⟨e,a',cs',w',?_,by simpa using harr⟩
 obtain ⟨he,hd,hcs,K',ρ',hf'⟩:=hq
 have hf2:FS g0 K' ρ' H' w':=by subst hg0;exact ⟨hf'.below,hf'.old,hf'.new,hf'.lt,hf'.others,⟨hf'.pt.same,hf'.pt.kept⟩,hf'.away,hf'.heap⟩
 have hres:(results fn a'.tmps).run P w'=.ok (.tuple #[]) w':=by simp [results,hrs]
 rcases he with rfl|rfl <;> exact ⟨hd,u',hcs,_,hres,⟨_,rfl⟩,rfl,K',ρ',hf2⟩
theorem zeV {QS:Exit→Act→List Frame→World→Prop} {cs:List Frame} (h:AW P n g c env H QQ) (hi:Inv n g env H a w) (hq:∀ e a' w' env' H',Inv n g env' H' a' w'→QQ e env' H'→QS e a' cs w'):c.wpS P QS a cs w :=
 wpS_of_wp (wp_mono (wpIn_wide.1 (h.go a w hi none 0)) fun e a' w' ⟨env',H',h1,h2⟩=>hq e a' w' env' H' h1 h2)
theorem zhc (htb:yA P tb) {ty:Nat} {z:Value} (hz:tb.zero ty=some z):(zeroValue ty).run P w=.ok z w:=by
 have hzi:∃ i:TypeInfo,P.info? ty=some i∧i.zero=some z:=by
  unfold Tab.zero at hz
  split at hz
  ·rename_i ti hti
   obtain ⟨i,e1,_,_,e4,_⟩:=Zg htb hti
   exact ⟨i,e1,by rw [e4];exact hz⟩
  ·cases hz
 obtain ⟨ti,hti,htz⟩:=hzi
 simp [zeroValue,typeInfo,hti,htz]
theorem zkX {i:Nat} {v v':AV} (hi:H.get i=some (.cell v)) (ht:Tells v v') (h:Inv n g env H a w):Inv n g env ((i,.cell v')::H) a w:=by
 obtain ⟨g1,g2,K,ρ,hf,he⟩:=h
 have hsame:∀ j,HEnv.get ((i,HE.cell v)::H) j=H.get j:=fun j=>by
  rw [HEnv.get_cons]
  split
  ·rename_i e;subst e;exact hi.symm
  ·rfl
 have hk:∀ j,(H.get j).isSome=true→(HEnv.get ((i,HE.cell v)::H) j).isSome=true∧ρ j=ρ j:=fun j hj=>⟨by rw [hsame];exact hj,rfl⟩
 have hf1:FS g K ρ ((i,.cell v)::H) w:=by
  refine ⟨hf.below,hf.old,hf.new,hf.lt,hf.others,hf.pt,fun j x b hj=>hf.away j x b (by rw [←hsame];exact hj),fun j x hj=>?_,fun j j' x x' b hjj hj hj'=>hf.heap.apart j j' x x' b hjj (by rw [←hsame];exact hj) (by rw [←hsame];exact hj')⟩
  rw [hsame] at hj
  exact (hf.heap.ok j x hj).keeps (.refl hf.lt) hf.lt hk
 have hk2:∀ j,(H.get j).isSome=true→(HEnv.get ((i,HE.cell v')::H) j).isSome=true∧ρ j=ρ j:=fun j hj=>⟨by
  rw [HEnv.get_cons];split <;> first|rfl|exact hj,rfl⟩
 exact ⟨g1,g2,K,ρ,zgz hf1 ht,he.keeps (.refl K w) hk2⟩
theorem zbI (i:Nat) {v v':AV} (hi:H.get i=some (.cell v)) (ht:Tells v v') (k:AW P n g c env ((i,.cell v')::H) QQ):AW P n g c env H QQ:=⟨fun a w hinv=>k.go a w (zkX hi ht hinv)⟩
theorem zi1 (cs:List PV):Tells (.pv (.agg cs)) (.agg (cs.map .pv)):=fun K w ρ H v h=>by
 cases h with
 | pv _ _ hp =>
  cases hp with
  | agg _ vs h1 h2 h3 =>
   refine .agg _ vs (by simpa using h1) h2 fun k c v hc hv=>?_
   rw [List.getElem?_map] at hc
   cases hcs:cs[k]? with
   | none=>simp [hcs] at hc
   | some p=>simp [hcs] at hc;subst hc;exact .pv _ _ (h3 k p v hcs hv)
end
theorem ZB {K:KK} {w:World} {ρ:Nat→Value} {H:HEnv} {env:Env} {tmps:Array Value} {t:Nat} {av:AV} {v:Value} (h1:tmps[t]?=some v) (h2:ARel K w ρ H av v) (h:EnvR K w ρ H env tmps):EnvR K w ρ H ((t,av)::env) tmps:=fun t' av' hg=>by
 rw [Env.get_cons] at hg
 split at hg
 ·rename_i e;subst e;simp only [Option.some.injEq] at hg;subst hg;exact ⟨v,h1,h2⟩
 ·exact h t' av' hg
theorem zaC {K:KK} {w:World} {ρ:Nat→Value} {H:HEnv} {tmps:Array Value}:EnvR K w ρ H [] tmps:=fun t av h=>by simp [Env.get_nil] at h
def zqR (H2:HEnv):QC:=fun ex _ H=>(ex=.normal∨ex=.ret)∧Ye H H2 []
theorem zfd {n:Nat} {g:Base} {env:Env} {H H2:HEnv} {a:Act} {w:World} (hi:Inv n g env H a w) (hf:Ye H H2 []):∃ K ρ,FS g K ρ H2 w:=by
 obtain ⟨_,_,K,ρ,h,_⟩:=hi
 exact ⟨K,ρ,h.narrow hf⟩
theorem zl7 {α:Type} {l:List α} (h:l.length=2):∃ a b,l=[a,b]:=by
 match l,h with
 | [a,b],_=>exact ⟨a,b,rfl⟩
def DQM (P:Program) (tb:Tab) (rs:List ResultVar) (r:PV) (H2:HEnv) (ex:Exit) (env:Env) (H:HEnv):List Deferred→Prop
 | []=>ziz tb rs (.pv r) H2 ex env H
 | [d]=>∃ (mode u':FrameMode) (f:FuncId) (slots:List Nat) (caps:List AV) (ps:List Value) (Hn H':HEnv) (rp:List PV),QV ex=some mode∧d={ target:=.fn (.func f) ps.toArray,args:=#[] }∧Ye H Hn (Zi slots caps)∧ZX Hn caps ps∧ZX H' caps ps ∧
   DCall P f Hn caps mode u' H'∧settle u'=.returning∧slots.length=caps.length∧slots.Nodup∧Sub env (Zi slots caps)∧Vy tb H' (Zi slots caps) rs=some rp∧zn rp=r∧Ye H' H2 []
 | _=>False
section
variable {P:Program} {tb:Tab} {n:Nat} {H H':HEnv} {f:FuncId} {args:List AV}
theorem zoX (htb:yA P tb) {r:PV} {fn:Func} {c:Code} (hf:P.funcs[f]?=some fn) (hb:fn.body=some c) (hn:(fn.name == "runtime.NumGoroutine")=false) (hnt:fn.ntmps=n) (hargs:args.length≤n)
  (rs:List ResultVar) (hrs:fn.results.toList=rs) (h:AWD P n [] c (QN 0 args) H (fun ds ex env H1=>DQM P tb rs r H' ex env H1 ds)):ACallM P f args H (.pv r) H':=by
 refine ⟨⟨fn,hf,by simp [hb],hn⟩,fun g0 K ρ w vs _ hfs0 hv=>?_⟩
 obtain ⟨g,hg0⟩:∃ g:Base,g=⟨g0.w0,g0.K0,g0.w1,[],g0.wp,g0.pr⟩:=⟨_,rfl⟩
 have hfs:FS g K ρ H w:=by subst hg0;exact ⟨hfs0.below,hfs0.old,hfs0.new,hfs0.lt,hfs0.others,⟨hfs0.pt.same,hfs0.pt.kept⟩,hfs0.away,hfs0.heap⟩
 refine calls_of_wp_defers hf hb ?_
 have hlen:vs.length=args.length:=hv.1
 refine wp_mono (h.go g (by subst hg0;rfl) _ w ⟨by simp [hnt];omega,by subst hg0;rfl,K,ρ,hfs,?_⟩) ?_
 ·intro t av hg
  obtain ⟨_,hp⟩:=Qy args 0 t av hg
  have hlt:t < vs.length:=by rw [hlen];exact (List.getElem?_eq_some_iff.1 hp).1
  refine ⟨vs[t],?_,hv.2 t av _ hp (List.getElem?_eq_getElem hlt)⟩
  rw [Array.getElem?_append_left (by simpa using hlt)]
  simp [hlt]
 ·rintro e a' w' ⟨ds,env1,H1,hi,hq⟩
  have back:∀ {ds:List Deferred} {K':KK} {ρ':Nat→Value} {X:HEnv} {w':World},FS { g with ds:=ds } K' ρ' X w'→FS g0 K' ρ' X w':=fun hf1=>by
   subst hg0;exact ⟨hf1.below,hf1.old,hf1.new,hf1.lt,hf1.others,⟨hf1.pt.same,hf1.pt.kept⟩,hf1.away,hf1.heap⟩
  have fin:∀ (ds:List Deferred) {K':KK} {ρ':Nat→Value} {H2:HEnv} {env2:Env} {w2:World} {rp:List PV},FS { g with ds:=ds } K' ρ' H2 w2→EnvR K' w2 ρ' H2 env2 a'.tmps→Vy tb H2 env2 rs=some rp→Ye H2 H' [] →
    ∃ v,(results fn a'.tmps).run P w2=.ok v w2∧∃ K' ρ',FS g0 K' ρ' H' w2∧ARel K' w2 ρ' H' (.pv (zn rp)) v:=by
   intro ds K' ρ' H2 env2 w2 rp hf' he' hps hfit
   obtain ⟨us,hrun,hru⟩:=QG htb hf' he' hps
   have hres:(results fn a'.tmps).run P w2=.ok (if hh:us.toArray.size=1 then us.toArray[0] else .tuple us.toArray) w2:=by
    unfold results
    rw [Array.mapM_eq_mapM_toList,hrs]
    simp only [Sem.run_bind,Sem.run_map]
    erw [hrun]
    rfl
   refine ⟨_,hres,K',ρ',back (hf'.narrow hfit),.pv _ _ ?_⟩
   split
   ·rename_i hh
    have hl1:=hru.1
    have hu:us.length=1:=by simpa using hh
    obtain ⟨u,rfl⟩:=List.length_eq_one_iff.1 hu
    obtain ⟨p,rfl⟩:=List.length_eq_one_iff.1 (show rp.length=1 by omega)
    exact hru.2 0 p u (by simp) (by simp)
   ·rename_i hh
    simp at hh
    have:zn rp=.tup rp:=by
     unfold zn
     split
     ·rename_i p;exact absurd (by have:=hru.1;simpa using this) hh
     ·rfl
    rw [this]
    exact .tup rp us hru.1 hru.2
  match ds,hi,hq with
  | [],hi,hq =>
   obtain ⟨i1,i2,K',ρ',hf',he'⟩:=hi
   obtain ⟨he,hq⟩:=hq
   have i2':a'.defers=[]:=i2
   have key:∃ v,(results fn a'.tmps).run P w'=.ok v w'∧∃ K' ρ',FS g0 K' ρ' H' w'∧ARel K' w' ρ' H' (.pv r) v:=by
    rcases hq with ⟨ps,hps,e1,hfit⟩|⟨t,ht,hget,hfit⟩
    ·cases e1;exact fin _ hf' he' hps hfit
    ·obtain ⟨v,hv1,hv2⟩:=he' t _ hget
     have hin:=hfit.2
     simp only [YI,Bool.and_eq_true] at hin
     have hres:(results fn a'.tmps).run P w'=.ok v w':=by
      unfold results
      rw [Array.mapM_eq_mapM_toList,hrs,ht]
      simp [Result.andThen,hv1]
     exact ⟨v,hres,K',ρ',back (hf'.narrow hfit),hv2.refs hin.1.1⟩
   obtain ⟨v,hres,K2,ρ2,hf2,hval⟩:=key
   rcases he with rfl|rfl <;> (simp only [bodyPostD,i2'];exact ⟨v,hres,v,K2,ρ2,rfl,hf2,hval⟩)
  | [d],hi,hq =>
   obtain ⟨mode,u',f2,slots,caps,ps,Hn,H2,rp,hm,rfl,hfit,hb1,hb2,hD,hset,hsl,hnd,hsub,hrp,rfl,hft⟩:=hq
   obtain ⟨i1,i2,K',ρ',hf',hE⟩:=(hi.sub hsub).hsub hfit
   have i2':a'.defers=[{ target:=.fn (.func f2) ps.toArray,args:=#[] }]:=i2
   have hslots:=zfg hf' hb1 hE hsl hnd
   have key:mode≠.run→Leaves P fn a'.tmps (fun e w'=>∃ v K' ρ',e=.returned v∧FS g0 K' ρ' H' w'∧ARel K' w' ρ' H' (.pv (zn rp)) v) [{ target:=.fn (.func f2) ps.toArray,args:=#[] }] mode w':=by
    intro hmr
    refine leaves_cons hmr (f:=f2) (args:=ps.toArray) (by simp [invoke,yX hD.stands]) ?_
    refine (hD.calls _ K' ρ' w' ps hf' (YA hf' hb1)).mono ?_
    rintro e m w2 ⟨⟨v0,rfl⟩,rfl,K2,ρ2,hf2⟩
    obtain ⟨v,hres,K3,ρ3,hf3,hval⟩:=fin _ hf2 (zfy (YA hf2 hb2) hsl hslots) hrp hft
    simp only [hset]
    exact ⟨v,hres,v,K3,ρ3,rfl,hf3,hval⟩
   cases e with
   | normal=>simp only [QV,Option.some.injEq] at hm;subst hm;simp only [bodyPostD,i2'];exact key (by simp)
   | ret=>simp only [QV,Option.some.injEq] at hm;subst hm;simp only [bodyPostD,i2'];exact key (by simp)
   | panic ch=>simp only [QV,Option.some.injEq] at hm;subst hm;simp only [bodyPostD,i2'];exact key (by simp)
   | exit id=>simp [QV] at hm
   | goto l=>simp [QV] at hm
   | outgrown=>simp [QV] at hm
  | _::_::_,_,hq=>exact hq.elim
end
end Go.Cg
namespace Go.Cg
inductive Rch (step:Int→List Int) (l:List Int):Int→Prop where
 | base (x:Int):x∈l→Rch step l x
 | step (x y:Int):Rch step l x→y∈step x→Rch step l y
theorem zs7 {met:List Int} {x y:Int}:y∈Yd met x↔y∈met∨y=x:=by
 unfold Yd
 split
 ·rename_i h
  constructor
  ·exact .inl
  ·rintro (h1|rfl)
   ·exact h1
   ·exact h
 ·simp
theorem QJ {y:Int}:∀ {l met:List Int},y∈l.foldl Yd met↔y∈met∨y∈l
 | [],met=>by simp
 | x::l,met=>by
  rw [List.foldl_cons,QJ (l:=l),zs7]
  simp only [List.mem_cons]
  constructor
  ·rintro ((h|h)|h)
   ·exact .inl h
   ·exact .inr (.inl h)
   ·exact .inr (.inr h)
  ·rintro (h|h|h)
   ·exact .inl (.inl h)
   ·exact .inl (.inr h)
   ·exact .inr h
theorem zhk:∀ (l met:List Int),∃ r,l.foldl Yd met=met++r
 | [],met=>⟨[],by simp⟩
 | x::l,met=>by
  obtain ⟨r,hr⟩:=zhk l (Yd met x)
  rw [List.foldl_cons,hr]
  unfold Yd
  split
  ·exact ⟨r,rfl⟩
  ·exact ⟨x::r,by simp⟩
theorem zdZ {N:Nat} {step:Int→List Int} (hs:∀ x:Int,0≤x→x < N→∀ y∈step x,0≤y∧y < N):∀ (n i:Nat) (met:List Int),NInv N met→i≤met.length→N + 1≤n + i →
  (∀ j (h:j < i) (h2:j < met.length),∀ y∈step met[j],y∈met) →
  (∀ x∈met,x∈Qs step n i met)∧(∀ u∈Qs step n i met,∀ y∈step u,y∈Qs step n i met)∧(∀ x∈Qs step n i met,Rch step met x)∧NInv N (Qs step n i met)
 | 0,i,met,hm,hi,hn,hc=>by
  have:=hm.len;omega
 | n + 1,i,met,hm,hi,hn,hc=>by
  rw [Qs]
  by_cases hlt:i < met.length
  ·rw [List.getElem?_eq_getElem hlt]
   simp only
   obtain ⟨h0,h1⟩:=hm.2 _ (List.getElem_mem hlt)
   have hst:=hs _ h0 h1
   have hm2:=NInv.fold _ hm hst
   obtain ⟨r,hr⟩:=zhk (step met[i]) met
   have hl:met.length≤((step met[i]).foldl Yd met).length:=by rw [hr];simp
   obtain ⟨q1,q2,q3,q4⟩:=zdZ hs n (i + 1) ((step met[i]).foldl Yd met) hm2 (by omega) (by omega) (by
    intro j hj hj2 y hy
    rw [QJ]
    have hjm:j < met.length:=by omega
    have e:((step met[i]).foldl Yd met)[j]=met[j]:=by simp only [hr];rw [List.getElem_append_left hjm]
    rw [e] at hy
    by_cases hji:j=i
    ·subst hji;exact .inr hy
    ·exact .inl (hc j (by omega) hjm y hy))
   refine ⟨fun x hx=>q1 x (QJ.2 (.inl hx)),q2,fun x hx=>?_,q4⟩
   have:=q3 x hx
   clear q1 q2 q3 q4 hx
   induction this with
   | base x hx =>
    rcases QJ.1 hx with h|h
    ·exact .base x h
    ·exact .step _ x (.base _ (List.getElem_mem hlt)) h
   | step x y _ hy ih=>exact .step x y ih hy
  ·rw [List.getElem?_eq_none (by omega)]
   simp only
   refine ⟨fun x hx=>hx,fun u hu y hy=>?_,fun x hx=>.base x hx,hm⟩
   obtain ⟨j,hj,rfl⟩:=List.getElem_of_mem hu
   exact hc j (by omega) hj y hy
theorem zbS {N:Nat} {step:Int→List Int} {l:List Int} (hs:∀ x:Int,0≤x→x < N→∀ y∈step x,0≤y∧y < N) (hl:∀ x∈l,0≤x∧x < N):(∀ x,x∈QA N step l↔Rch step l x)∧NInv N (QA N step l):=by
 have hm:NInv N (l.foldl Yd []):=NInv.fold l ⟨by simp,by simp⟩ hl
 obtain ⟨q1,q2,q3,q4⟩:=zdZ hs (N + 1) 0 (l.foldl Yd []) hm (by omega) (by omega) (fun j h=>by omega)
 refine ⟨fun x=>⟨fun hx=>?_,fun hx=>?_⟩,q4⟩
 ·have:=q3 x hx
  clear hx
  induction this with
  | base x hx=>exact .base x (by simpa using QJ.1 hx)
  | step x y _ hy ih=>exact .step x y ih hy
 ·induction hx with
  | base x hx=>exact q1 x (QJ.2 (.inr hx))
  | step x y _ hy ih=>exact q2 x ih y hy
def RF (g:Img) (t f:Int):Prop:=Rch (yw g) ((up g t).flatMap (yw g)) f
theorem ztI {g:Img} (hF:Fm g) (t:Int):∀ x∈(up g t).flatMap (yw g),0≤x∧x < g.types.length:=by
 intro x hx
 obtain ⟨u,_,h⟩:=List.mem_flatMap.1 hx
 exact (hF.at u).2 x h
theorem zhB {g:Img} (hF:Fm g) (t:Int):(∀ x,x∈QA g.types.length (yw g) ((up g t).flatMap (yw g))↔Rch (yw g) ((up g t).flatMap (yw g)) x)∧NInv g.types.length (QA g.types.length (yw g) ((up g t).flatMap (yw g))):=zbS (N:=g.types.length) (step:=yw g) (l:=(up g t).flatMap (yw g)) (fun x _ _=>(hF.at x).2) (ztI hF t)
theorem zhp {g:Img} (hF:Fm g) {t f:Int}:f∈Ya g t↔RF g t f:=by
 rw [Ya,zeU];exact (zhB hF t).1 f
theorem ztN {g:Img} {met:List Int} {f:Int} (h:there g f=true):znN g met f=Yd met f:=by
 unfold znN Yd
 by_cases hm:f∈met
 ·simp [hm]
 ·simp [hm,h]
theorem zlq {g:Img}:∀ (l met:List Int),(∀ f∈l,there g f=true)→l.foldl (znN g) met=l.foldl Yd met
 | [],met,_=>rfl
 | f::l,met,h=>by
  rw [List.foldl_cons,List.foldl_cons,ztN (h f (by simp))]
  exact zlq l _ fun x hx=>h x (by simp [hx])
theorem zhK {g:Img} (hF:Fm g) (met:List Int) (u:Int):zd4 g met u=(yw g u).foldl Yd met :=
 zlq _ _ fun f hf=>XK ((hF.at u).2 f hf)
theorem zl2 {g:Img} (hF:Fm g):∀ (us met:List Int),us.foldl (zd4 g) met=(us.flatMap (yw g)).foldl Yd met
 | [],met=>rfl
 | u::us,met=>by rw [List.foldl_cons,zhK hF,List.flatMap_cons,List.foldl_append];exact zl2 hF us _
theorem zlu {g:Img} (hF:Fm g):∀ (n i:Nat) (met:List Int),zo7 g n i met=Qs (yw g) n i met
 | 0,_,_=>rfl
 | n + 1,i,met=>by
  rw [zo7,Qs]
  cases met[i]? with
  | none=>rfl
  | some u=>simp only;rw [zhK hF];exact zlu hF n _ _
theorem ztR {g:Img} (hF:Fm g) (t:Int):zuL g t=QA g.types.length (yw g) ((up g t).flatMap (yw g)):=by
 rw [zuL,zlu hF,zvF,zl2 hF];rfl
theorem zg6 {n:Nat} {x:Int}:x∈nums n↔0≤x∧x < n:=by
 simp only [nums,List.mem_map,List.mem_range]
 constructor
 ·rintro ⟨k,hk,rfl⟩;omega
 ·intro h;exact ⟨x.toNat,by omega,by omega⟩
theorem zgZ {g:Img} (hF:Fm g) {t f:Int}:f∈zbf g t↔RF g t f:=by
 rw [zbf,List.mem_filter,ztR hF,zg6]
 simp only [decide_eq_true_eq]
 rw [(zhB hF t).1 f]
 exact ⟨fun h=>h.2,fun h=>⟨(zhB hF t).2.2 f (((zhB hF t).1 f).2 h),h⟩⟩
structure Wl (g:Img):Prop where
 fm:Fm g
 ext:∀ t td,typeAt g t=some td → -1≤td.ext∧td.ext < g.types.length
 flags:∀ t td,typeAt g t=some td→0≤td.flags∧td.flags≤31
 flag:∀ t td,typeAt g t=some td→ZN td=true
 hang:∀ t td,typeAt g t=some td→Vt g t td=true
theorem zgC {g:Img} (h:Yo g=true):Wl g:=by
 have hf:=ZP h
 have hb:=(zI hf).2.2.2
 have hck:∀ j,j < g.types.length→Ze g j=0:=by
  intro j hj
  refine Classical.byContradiction fun hne=>?_
  have hex:∃ k,k < g.types.length∧Ze g k≠0∧∀ i,i < k→Ze g i=0:=by
   induction j using Nat.strongRecOn with
   | _ j ih =>
    by_cases hmin:∀ i,i < j→Ze g i=0
    ·exact ⟨j,hj,hne,hmin⟩
    ·rcases Classical.not_forall.1 hmin with ⟨i,hi⟩
     have hij:i < j:=Classical.byContradiction fun h=>hi (fun h'=>(h h').elim)
     exact ih i hij (by omega) (fun e=>hi fun _=>e)
  obtain ⟨k,hk,hk1,hk2⟩:=hex
  have:=zma hf hk hk2 hk1
  rw [Yo,this] at h
  simp at h;exact hk1 h
 have htd:∀ t td,typeAt g t=some td→∃ k:Nat,t=k∧∃ h:k < g.types.length,g.types[k]=td:=by
  intro t td ht
  have hlt:=QF ht
  refine ⟨t.toNat,by omega,by omega,?_⟩
  have:=zdl (g:=g) (k:=t.toNat) (by omega)
  rw [Int.toNat_of_nonneg hlt.1,ht] at this
  exact (Option.some.inj this).symm
 have hcases:∀ t td,typeAt g t=some td→ZN td=true∧Vt g t td=true:=by
  intro t td ht
  obtain ⟨k,rfl,hk,rfl⟩:=htd t td ht
  have:=hck k hk
  rw [zdq hk] at this
  cases h1:ZN g.types[k] <;> cases h2:Vt g k g.types[k] <;> simp [h1,h2] at this ⊢
 refine ⟨zeG hf,?_,?_,fun t td ht=>(hcases t td ht).1,fun t td ht=>(hcases t td ht).2⟩
 ·intro t td ht
  obtain ⟨_,_,h3,h4,_⟩:=Qj (hb td (WZ ht));exact ⟨h3,h4⟩
 ·intro t td ht
  obtain ⟨h1,h2,_⟩:=Qj (hb td (WZ ht));exact ⟨h1,h2⟩
def zck (g:Img):Int→List Int→Prop
 | _,[]=>True
 | t,x::l=>x=t∧∃ td,typeAt g t=some td∧zck g td.ext l
theorem zhf {g:Img}:∀ (n:Nat) (t:Int) (out:List Int),∃ l,zaL g n t out=out++l∧zck g t l
 | 0,t,out=>⟨[],by simp [zaL],trivial⟩
 | n + 1,t,out=>by
  rw [zaL]
  cases ht:typeAt g t with
  | none=>exact ⟨[],by simp,trivial⟩
  | some td =>
   by_cases hm:t∈out
   ·exact ⟨[],by simp [hm],trivial⟩
   ·obtain ⟨l,h1,h2⟩:=zhf n td.ext (out++[t])
    exact ⟨t::l,by simp only [hm,if_false];rw [h1];simp,rfl,td,ht,h2⟩
theorem zlJ (g:Img) (t:Int):zck g t (up g t):=by
 obtain ⟨l,h1,h2⟩:=zhf (g:=g) (g.types.length + 1) t []
 rw [up,h1];exact h2
def ch (g:Img):Nat→Int→List Int
 | 0,_=>[]
 | n + 1,t=>match typeAt g t with|some td=>t::ch g n td.ext|none=>[]
def zmk (g:Img) (t:Int):Int:=match typeAt g t with|some td=>td.ext|none => -1
theorem zeZ {g:Img}:∀ (l:List Int) (t:Int),zck g t l→l≠[]→typeAt g (zmk g (l.getLastD 0))=none→∀ m,l.length≤m→ch g m t=l
 | [],t,_,hne,_,_,_=>(hne rfl).elim
 | x::l,t,hc,_,he,m,hm=>by
  obtain ⟨rfl,td,htd,hc'⟩:=hc
  obtain ⟨m,rfl⟩:∃ m',m=m' + 1:=⟨m - 1,by simp at hm;omega⟩
  rw [ch,htd]
  simp only
  cases l with
  | nil =>
   simp only [List.getLastD_cons,List.getLastD_nil,zmk,htd] at he
   cases m with
   | zero=>rfl
   | succ m=>rw [ch,he]
  | cons y l =>
   rw [zeZ (y::l) td.ext hc' (by simp) (by simpa [List.getLastD_cons] using he) m (by simp at hm ⊢;omega)]
theorem up_nil {g:Img} {t:Int} (h:typeAt g t=none):up g t=[]:=by rw [up,zaL,h]
theorem Wl.top {g:Img} (hW:Wl g) {t:Int} {td:TD} (ht:typeAt g t=some td):typeAt g (zmk g ((up g t).getLastD 0))=none:=by
 obtain ⟨r,hr⟩:=zgE ht
 have hh:=hW.hang t td ht
 simp only [Vt,Bool.and_eq_true,zmR,Bool.or_eq_true,Bool.not_eq_true',decide_eq_false_iff_not,beq_iff_eq,decide_eq_true_eq] at hh
 obtain ⟨⟨h1,_⟩,_⟩:=hh
 have hneg:∀ x:Int,x < 0→typeAt g x=none:=by
  intro x hx;rw [typeAt,if_neg (by omega)]
 by_cases hx:0≤td.ext
 ·rcases h1 with h1|h1
  ·exact (h1 hx).elim
  ·have h3:zai g t < 0:=h1.2
   have:zai g t=zmk g ((up g t).getLastD 0):=rfl
   rw [←this]
   exact hneg _ h3
 ·have hu:up g t=[t]:=by
   rw [up,zaL,ht]
   simp only [List.not_mem_nil,if_false,List.nil_append]
   cases g.types.length with
   | zero=>rfl
   | succ n=>rw [zaL,hneg _ (by omega)]
  rw [hu]
  simp only [List.getLastD_cons,List.getLastD_nil,zmk,ht]
  exact hneg _ (by omega)
theorem Wl.up_eq {g:Img} (hW:Wl g) (t:Int):up g t=ch g (g.types.length + 1) t:=by
 cases ht:typeAt g t with
 | none=>rw [up_nil ht,ch,ht]
 | some td =>
  obtain ⟨r,hr⟩:=zgE ht
  have hui:=zcg g t
  have hul:=ZF _ _ hui.1 hui.2
  exact (zeZ _ t (zlJ g t) (by rw [hr];simp) (hW.top ht) _ (by omega)).symm
theorem Wl.up_cons {g:Img} (hW:Wl g) {t:Int} {td:TD} (ht:typeAt g t=some td):up g t=t::up g td.ext:=by
 obtain ⟨r,hr⟩:=zgE ht
 have hui:=zcg g t
 have hul:=ZF _ _ hui.1 hui.2
 have h1:=zeZ _ t (zlJ g t) (by rw [hr];simp) (hW.top ht) (g.types.length + 2) (by omega)
 rw [←h1,ch,ht,hW.up_eq]
theorem Wl.up_len {g:Img} (hW:Wl g):∀ (n:Nat) (a b:Int),(up g a).length≤n→b∈up g a→(∀ x∈up g b,x∈up g a)∧(b=a∨(up g b).length < (up g a).length)
 | 0,a,b,hn,hb=>by
  have:up g a=[]:=List.eq_nil_of_length_eq_zero (by omega)
  rw [this] at hb;simp at hb
 | n + 1,a,b,hn,hb=>by
  cases ha:typeAt g a with
  | none=>rw [up_nil ha] at hb;simp at hb
  | some td =>
   have e:=hW.up_cons ha
   rw [e] at hb hn ⊢
   rcases List.mem_cons.1 hb with rfl|hb
   ·rw [e];exact ⟨fun x hx=>hx,.inl rfl⟩
   ·obtain ⟨h1,h2⟩:=hW.up_len n td.ext b (by simp at hn;omega) hb
    refine ⟨fun x hx=>List.mem_cons_of_mem _ (h1 x hx),.inr ?_⟩
    rcases h2 with rfl|h2
    ·simp
    ·simp;omega
theorem Wl.up_trans {g:Img} (hW:Wl g) {a b c:Int} (h1:b∈up g a) (h2:c∈up g b):c∈up g a:=(hW.up_len _ a b (Nat.le_refl _) h1).1 c h2
theorem Wl.face_kind {g:Img} (hW:Wl g) {u f:Int} (h:f∈yw g u):zF g f=2:=by
 unfold yw at h
 cases hu:typeAt g u with
 | none=>rw [hu] at h;simp at h
 | some td =>
  rw [hu] at h
  simp only at h
  have hh:=hW.hang u td hu
  simp only [Vt,Bool.and_eq_true,List.all_eq_true,List.mem_range,zdO,beq_iff_eq] at hh
  obtain ⟨⟨_,h2⟩,_⟩:=hh
  obtain ⟨j,hj,rfl⟩:=List.getElem_of_mem h
  have:=(h2 j hj).1
  rwa [zM hj] at this
theorem Wl.rf_kind {g:Img} (hW:Wl g) {t f:Int} (h:RF g t f):zF g f=2:=by
 cases h with
 | base _ hx=>obtain ⟨u,_,h⟩:=List.mem_flatMap.1 hx;exact hW.face_kind h
 | step x _ _ hy=>exact hW.face_kind hy
theorem zdC {g:Img} {t k:Int} (h:zF g t=k) (hk:0≤k):∃ td,typeAt g t=some td∧Wu td.flags=k:=by
 unfold zF at h
 cases ht:typeAt g t with
 | none=>rw [ht] at h;simp at h;omega
 | some td=>rw [ht] at h;exact ⟨td,rfl,h⟩
theorem Wl.face_up {g:Img} (hW:Wl g) {t:Int} (h:zF g t=2):up g t=[t]:=by
 obtain ⟨td,ht,hk⟩:=zdC h (by omega)
 have hfl:=hW.flag t td ht
 have hext:td.ext = -1:=by
  simp [ZN,hk] at hfl
  exact hfl.1.1.1.1
 rw [hW.up_cons ht,hext,up_nil (by rw [typeAt,if_neg (by omega)])]
theorem RF.up {g:Img} (hW:Wl g) {a b f:Int} (h:b∈up g a) (hf:RF g b f):RF g a f:=by
 induction hf with
 | base x hx =>
  obtain ⟨u,hu,hxu⟩:=List.mem_flatMap.1 hx
  exact .base x (List.mem_flatMap.2 ⟨u,hW.up_trans h hu,hxu⟩)
 | step x y _ hy ih=>exact .step x y ih hy
theorem RF.trans {g:Img} (hW:Wl g) {a b f:Int} (h:RF g a b) (hf:RF g b f):RF g a f:=by
 have hu:=hW.face_up (hW.rf_kind h)
 induction hf with
 | base x hx =>
  obtain ⟨u,hu',hxu⟩:=List.mem_flatMap.1 hx
  rw [hu] at hu'
  simp at hu'
  subst hu'
  exact .step _ x h hxu
 | step x y _ hy ih=>exact .step x y ih hy
def Bl (g:Img) (a b:Int):Prop:=b∈up g a∨RF g a b
theorem Wl.trans {g:Img} (hW:Wl g) {a b c:Int} (h1:Bl g a b) (h2:Bl g b c):Bl g a c:=by
 rcases h1 with h1|h1 <;> rcases h2 with h2|h2
 ·exact .inl (hW.up_trans h1 h2)
 ·exact .inr (h2.up hW h1)
 ·rw [hW.face_up (hW.rf_kind h1)] at h2
  simp at h2;subst h2;exact .inr h1
 ·exact .inr (RF.trans hW h1 h2)
theorem Wl.refl {g:Img} (hW:Wl g) {a:Int} {td:TD} (h:typeAt g a=some td):Bl g a a:=by
 rw [Bl,hW.up_cons h];simp
end Go.Cg
