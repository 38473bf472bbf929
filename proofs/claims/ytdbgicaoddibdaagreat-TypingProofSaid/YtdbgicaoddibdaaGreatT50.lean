/- A part of the walks by abstract values: no statement of its own. -/
import Derived.Test.YtdbgicaoddibdaaGreatT7
import Derived.Test.YtdbgicaoddibdaaGreatT15
import Derived.Test.YtdbgicaoddibdaaGreatT16
import Derived.Test.YtdbgicaoddibdaaGreatT29
import Derived.Test.YtdbgicaoddibdaaGreatT21
import Derived.Test.YtdbgicaoddibdaaGreatT14
import Derived.Test.YtdbgicaoddibdaaGreatT49
set_option linter.unusedVariables false
set_option linter.unusedSimpArgs false
namespace Go.Cg
open Go.RowKit
structure KBS (S:Nat→Prop) (A B:World):Prop where
 size:A.heap.size≤B.heap.size
 block:∀ (b:Nat) (o:Obj),¬ S b→A.heap[b]?=some o→o.isCells=true→B.heap[b]?=some o
theorem KBS.trans {S:Nat→Prop} {A B C:World} (h:KBS S A B) (h':KBS S B C):KBS S A C :=
 ⟨Nat.le_trans h.size h'.size,fun b o hs ho hc=>h'.block b o hs (h.block b o hs ho hc) hc⟩
theorem KBS.cell {S:Nat→Prop} {A B:World} (h:KBS S A B) {b o:Nat} {v:Value} (hs:¬ S b) (hc:A.cell? ⟨b,o,none⟩=some v):B.cell? ⟨b,o,none⟩=some v:=by
 obtain ⟨ob,ho,hk⟩:=cells_of_cell hc;exact (World.cell?_of_block ((h.block b ob hs ho hk).trans ho.symm)).trans hc
section
variable {P:Program} {tb:Tab} {n d:Nat} {g:Base} {K:KK} {w w':World} {ρ:Nat→Value} {H H':HEnv} {env:Env} {a:Act} {x y c:Code} {ops rest:List Oper} {o:Oper}
theorem PRel.keepK (h:∀ (b o:Nat) (v:Value),K b o→w.cell? ⟨b,o,none⟩=some v→w'.cell? ⟨b,o,none⟩=some v) {p:PV} {v:Value} (hp:PRel K w p v):PRel K w' p v:=by
 have hrow:∀ {b o:Nat} {vs:List Value},Rows K w b o vs→Rows K w' b o vs:=fun hr k v hv=>⟨(hr k v hv).1,h _ _ _ (hr k v hv).1 (hr k v hv).2.1,(hr k v hv).2.2⟩
 induction hp with
 | base v h1=>exact .base v h1
 | agg cs vs hl h1 _ ih=>exact .agg cs vs hl h1 ih
 | nil sz full=>exact .nil sz full
 | emp sz full a=>exact .emp sz full a
 | slc sz es full b o cap vss h0 hc hf hm hm' hr _ ih=>exact .slc sz es full b o cap vss h0 hc hf hm hm' (fun i e he=>⟨(hr i e he).1,(hr i e he).2.1,hrow (hr i e he).2.2⟩) ih
 | ptr p off b o vs hl hr _ ih=>exact .ptr p off b o vs hl (hrow hr) ih
 | fn f first cap vf vc h1 h2 _ _ ih1 ih2=>exact .fn f first cap vf vc h1 h2 ih1 ih2
 | tup cs vs hl _ ih=>exact .tup cs vs hl ih
structure AIterS (P:Program) (f:FuncId) (cap:List PV) {α:Type} (encs:α→Array Value) (all:List α):Prop where
 stands:Vy P f
 stops:∀ (S:Nat→Prop) (K:KK) (w:World) (vc:List Value) (n:Nat),(∀ b,S b→b < w.heap.size)→(∀ b o,K b o→b < w.heap.size∧¬ S b)→PRels K w cap vc →
  SeqStopsK Fence.wide n P f vc.toArray encs (KBS S) (fun xs=>xs=all) (fun _=>True) all.length w
structure Yb {α:Type} (S:Nat→Prop) (J:List α × Bool→World→Prop) (s:List α × Bool) (g:Base):Prop where
 w1:g.w1.heap.size=0
 bare:Bare g
 j:J s g.w0
 sw:s.2=true→∀ b,S b→b < g.w0.heap.size
 sk:s.2=true→∀ b o,g.K0 b o→¬ S b
abbrev QY (α:Type):=Exit→List α × Bool→Env→HEnv→Prop
variable {α:Type} {S:Nat→Prop} {J:List α × Bool→World→Prop} {s:List α × Bool} {QQ:QY α} {Q:List α × Bool→Env→HEnv→Prop}
structure AWY (P:Program) (n d:Nat) (S:Nat→Prop) (J:List α × Bool→World→Prop) (c:Code) (s:List α × Bool) (env:Env) (H:HEnv) (QQ:QY α):Prop where
 go:∀ g,Yb S J s g→∀ a w,Inv n g env H a w→c.wpIn Fence.wide d P (fun e a' w'=>∃ g' s' env' H',Yb S J s' g'∧Inv n g' env' H' a' w'∧QQ e s' env' H') a w
structure AOY (P:Program) (n d:Nat) (S:Nat→Prop) (J:List α × Bool→World→Prop) (ops l:List Oper) (s:List α × Bool) (env:Env) (H:HEnv) (Q:List α × Bool→Env→HEnv→Prop):Prop where
 go:∀ g,Yb S J s g→∀ a w,Inv n g env H a w→wpListIn Fence.wide d P ops.toArray (fun e a' w'=>∃ g' s' env' H',Yb S J s' g'∧Inv n g' env' H' a' w'∧e=.normal∧Q s' env' H') l a w
theorem Zu (h:∀ g,g.w1.heap.size=0→AW P n g c env H fun e env' H'=>QQ e s env' H'):AWY P n d S J c s env H QQ :=
 ⟨fun g hy a w hi=>wpIn_mono ((h g hy.w1).go a w hi none d) fun _ _ _ ⟨env',H',h1,h2⟩=>⟨g,s,env',H',hy,h1,h2⟩⟩
theorem QA (h:AWY P n d S J x s env H fun e s' env' H'=>match e with|.normal=>AWY P n d S J y s' env' H' QQ|e=>QQ e s' env' H'):AWY P n d S J (.seq x y) s env H QQ :=
 ⟨fun g hy a w hi=>wpIn_seq (wpIn_mono (h.go g hy a w hi) fun e a' w' ⟨g2,s2,env',H',h0,h1,h2⟩=>by
  cases e <;> first
   | exact h2.go g2 h0 a' w' h1
   | exact ⟨g2,s2,env',H',h0,h1,h2⟩)⟩
theorem zkf {id:Nat} (h:AWY P n d S J c s env H fun e s'=>zlR id (fun e=>QQ e s') e):AWY P n d S J (.block id c) s env H QQ :=
 ⟨fun g hy a w hi=>wpIn_block (wpIn_mono (h.go g hy a w hi) fun e a' w' ⟨g2,s2,env',H',h0,h1,h2⟩=>by
  cases e <;> first
   | exact ⟨g2,s2,env',H',h0,h1,h2⟩
   | (simp only [zlR,Exit.inBlock] at h2 ⊢
      split
      ·rename_i he;rw [if_pos he] at h2;exact ⟨g2,s2,env',H',h0,h1,h2⟩
      ·rename_i he;rw [if_neg he] at h2;exact ⟨g2,s2,env',H',h0,h1,h2⟩))⟩
theorem zuQ {ι:Type} (SS:ι→List α × Bool) (E:ι→Env) (HH:ι→HEnv) (Pre:ι→Prop) (μ:ι→Nat) (i0:ι) (hpre:Pre i0) (h0:SS i0=s) (hs:Sub env (E i0)) (hH:Yj H (HH i0) (E i0))
  (round:∀ i,Pre i→AWY P n d S J c (SS i) (E i) (HH i) fun e s' env' H'=>match e with
   | .normal=>∃ j,Pre j∧μ j < μ i∧s'=SS j∧Sub env' (E j)∧Yj H' (HH j) (E j)
   | e=>QQ e s' env' H'):AWY P n d S J (.loop c) s env H QQ:=by
 subst h0;refine ⟨fun g hy a w hi b k cs hro hb hr=>?_⟩;have key:∀ m i,μ i=m→Pre i→∀ g,Yb S J (SS i) g→∀ a w,Inv n g (E i) (HH i) a w →
   ∃ e a' w',(∃ g' s' env' H',Yb S J s' g'∧Inv n g' env' H' a' w'∧QQ e s' env' H')∧ArrivesIn (Machine.fenced P Fence.wide) P (lone (b.atR a (.code c::.inLoop c::k)) cs w) b k cs e a' w':=by
  intro m;induction m using Nat.strongRecOn with
  | _ m ih =>
   intro i hm hp g hy a w hi;obtain ⟨e,a₁,w₁,⟨g',s',env',H',h0,h1,h2⟩,harr⟩:=(round i hp).go g hy a w hi b (.inLoop c::k) cs hro hb hr;cases e with
   | normal =>
    obtain ⟨j,hpj,hlt,rfl,hsub,hfit⟩:=h2;obtain ⟨e₂,a₂,w₂,hq₂,harr₂⟩:=ih (μ j) zwy62 j rfl hpj g' h0 a₁ w₁ ((h1.sub hsub).hsub hfit);exact ⟨e₂,a₂,w₂,hq₂,.of_steps (StepsIn.trans harr (.one (fenced_calm hb hr rfl) stepR_inLoop)) harr₂⟩
   | exit id=>exact ⟨_,a₁,w₁,⟨g',s',env',H',h0,h1,h2⟩,.pass (x:=.inLoop c) rfl (fun _ _=>.inl zwy63) harr⟩
   | goto l=>exact ⟨_,a₁,w₁,⟨g',s',env',H',h0,h1,h2⟩,.pass (x:=.inLoop c) rfl (fun _ _=>.inl zwy63) harr⟩
   | ret=>exact ⟨_,a₁,w₁,⟨g',s',env',H',h0,h1,h2⟩,.pass (x:=.inLoop c) rfl (fun _ _=>.inl zwy63) harr⟩
   | panic ch=>exact ⟨_,a₁,w₁,⟨g',s',env',H',h0,h1,h2⟩,.pass (x:=.inLoop c) rfl (fun _ _=>.inl zwy63) harr⟩
   | outgrown=>exact ⟨_,a₁,w₁,⟨g',s',env',H',h0,h1,h2⟩,.pass (x:=.inLoop c) rfl (fun _ _=>.inl zwy63) harr⟩
 obtain ⟨e,a',w',hq,harr⟩:=key _ i0 rfl hpre g hy a w ((hi.sub hs).hsub hH);exact ⟨e,a',w',hq,.of_steps (.one (fenced_calm hb hr rfl) stepR_loop) harr⟩
theorem zuK {Q':QY α} (hq:∀ e s' env' H',QQ e s' env' H'→Q' e s' env' H') (h:AWY P n d S J c s env H QQ):AWY P n d S J c s env H Q' :=
 ⟨fun g hy a w hi=>wpIn_mono (h.go g hy a w hi) fun e a' w' ⟨g2,s2,env',H',h0,h1,h2⟩=>⟨g2,s2,env',H',h0,h1,hq e s2 env' H' h2⟩⟩
theorem ziu {t i off:Nat} {p:PV} (hp:p.notTup=true) (ht:env.get t=some (.box i off)) (hi:H.get i=some (.cell (.pv p))) (k:AWY P n d S J c s ((t,.pv (.ptr p off))::env) ((i,.dead)::H) QQ):AWY P n d S J c s env H QQ :=
 ⟨fun g hy a w h=>k.go g hy a w (zif hp ht hi h)⟩
theorem zqA (E:Env) (hs:Sub env E) (hh:Yj H H' E) (k:AWY P n d S J c s E H' QQ):AWY P n d S J c s env H QQ :=
 ⟨fun g hy a w h=>k.go g hy a w ((h.sub hs).hsub hh)⟩
def zxP (E:Env) (s2:List α × Bool) (QQ:QY α):QY α
 | .normal,s',env',H'=>s'=s2∧Sub env' E∧Yj H' [] E
 | e,s',env',H'=>QQ e s' env' H'
theorem zu7 (E:Env) (s2:List α × Bool) (h1:AWY P n d S J x s env H (zxP E s2 QQ)) (h2:AWY P n d S J y s2 E [] QQ):AWY P n d S J (.seq x y) s env H QQ :=
 QA (zuK (fun e s' env' H' h=>by
  cases e <;> first
   | (obtain ⟨rfl,hs,hh⟩:=h;exact zqA E hs hh h2)
   | exact h) h1)
theorem zaP {id:Nat} (h:AOY P n d S J ops ops s env H (QQ .normal)):AWY P n d S J (.region id ops.toArray false) s env H QQ :=
 ⟨fun g hy a w hi=>wpIn_mono (wpIn_region_lit (h.go g hy a w hi)) fun _ _ _ ⟨g',s',env',H',h0,h1,h2,h3⟩=>⟨g',s',env',H',h0,h1,by rw [h2];exact h3⟩⟩
theorem ziI {arr:Array Oper} {R:Exit→Act→World→Prop} {l2:List Oper}:∀ {l1:List Oper} {a:Act} {w:World},qU l1=true→wpList P arr (fun e a' w'=>e=.normal∧wpListIn Fence.wide d P arr R l2 a' w') l1 a w→wpListIn Fence.wide d P arr R (l1++l2) a w
 | [],a,w,_,h=>h.2
 | o::l1,a,w,hd,h=>by
  simp only [qU,Bool.and_eq_true] at hd;rw [List.cons_append];unfold wpList at h;unfold wpListIn;split
  ·rename_i hw;rw [if_pos hw] at h;have h:o.wp P a w (wpList P arr (fun e a' w'=>e=.normal∧wpListIn Fence.wide d P arr R l2 a' w') l1) (fun e a' w'=>e=.normal∧wpListIn Fence.wide d P arr R l2 a' w'):=by
    rcases h with h|⟨_,a',w',h2,_⟩
    ·exact h
    ·cases h2
   have h1:o.wpIn Fence.wide d P a w (wpListIn Fence.wide d P arr R (l1++l2)) (fun e a' w'=>e=.normal∧wpListIn Fence.wide d P arr R l2 a' w'):=Oper.wpIn_mono (fun a w h=>ziI hd.2 h) (zeb (r:=none) (n:=d) hd.1 h);refine ⟨h1.1,?_⟩;have h2:=h1.2;revert h2;generalize (o.semAt Fence.wide.round a.eval).run P w=z;intro h2;cases z with
   | ok v w2 =>
    cases v with
    | enter f args=>exact ⟨h2.1,h2.2.mono fun e w3 h3=>by
      cases e with
      | returned v=>exact h3
      | panicked ch=>cases h3.1
      | outgrown=>obtain ⟨_,_,h4,_⟩:=h3;cases h4⟩
    | round l f tmps assign body=>exact ⟨h2.1,h2.2.mono fun e w3 h3=>by
      cases e with
      | returned v=>exact h3
      | panicked ch=>cases h3.1
      | outgrown=>obtain ⟨_,_,h4,_⟩:=h3;cases h4⟩
    | _=>exact h2
   | halt v w2=>cases v <;> first|exact h2|exact h2.elim|(cases h2.1)
  ·rename_i hw;rw [if_neg hw] at h;exact ⟨fun _ _=>trivial,ziI hd.2 h⟩
theorem zfx (k:Nat) {l l1 l2:List Oper} (h1:l.take k=l1) (h2:l.drop k=l2) (h:∀ g,g.w1.heap.size=0→AO P n g ops.toArray l1 env H fun env' H'=>AOY P n d S J ops l2 s env' H' Q) (hnd:qU l1=true:=by kernel_rfl):AOY P n d S J ops l s env H Q:=by
 refine ⟨fun g hy a w hi=>?_⟩;rw [←List.take_append_drop k l,h1,h2];exact ziI hnd (ZL (fun _ _ _ ⟨env',H',k1,k2,k3⟩=>⟨k2,k3.go g hy _ _ k1⟩) ((h g hy.w1).go a w hi))
theorem zba {l:List Oper} (h:∀ g,g.w1.heap.size=0→AO P n g ops.toArray l env H (Q s)) (hnd:qU l=true:=by kernel_rfl):AOY P n d S J ops l s env H Q:=by
 refine ⟨fun g hy a w hi=>?_⟩;refine zau (r:=none) ?_ hnd (ZL (fun _ _ _ ⟨env',H',k1,k2,k3⟩=>⟨g,s,env',H',hy,k1,k2,k3⟩) ((h g hy.w1).go a w hi));rintro ⟨_,_,_,_,_,_,_,_,hx,_⟩;cases hx
def zxx (env:Env):Env:=env.map fun e=>(e.1,match e.2 with|.pv p=>.pv p|_=>.any)
def zxf (env:Env):Env:=env.map fun e=>(e.1,match e.2 with|.pv (.base v)=>.pv (.base v)|_=>.any)
theorem zjn (f:AV→AV):∀ (env:Env) (t:Nat),Env.get (env.map fun e=>(e.1,f e.2)) t=(env.get t).map f
 | [],t=>rfl
 | (t',v)::e,t=>by
  rw [List.map_cons,Env.get_cons,Env.get_cons,zjn f e t];split <;> rfl
def Told (J:List α × Bool→World→Prop) (S:Nat→Prop) (P:Program) (d l N:Nat) (encs:α→Array Value):Prop :=
 ∀ (pre:List α) (x:α) (W:World),J (pre,true) W→pre.length < N→YieldAt Fence.wide (d - 1) P l (encs x) W fun e W' =>
  (e=.returned (.bool true)∧J (pre++[x],true) W'∧KBS S W W')∨(e=.returned (.bool false)∧J (pre++[x],false) W')
theorem Yb.now (hJ:∀ s W W',J s W→W.grownBy W' none→J s W') (hy:Yb S J s g) (hf:FS g K ρ H w):J s w :=
 hJ s g.w0 w hy.j ⟨hf.below.os,hf.below.tape,hf.below.output,hf.below.size,fun i hi _=>hf.below.block i hi⟩
theorem zor {f:AV→AV} {dst:Tmp} {v:Value} {K':KK} {ρ':Nat→Value} (h1:a.tmps.size=n) (hdn:dst < n) (he:EnvR K w ρ H env a.tmps) (hv:Zm v=true) (hk:∀ av u,ARel K w ρ H av u→ARel K' w' ρ' H' (f av) u):EnvR K' w' ρ' H' ((dst,.pv (.base v))::env.map fun e=>(e.1,f e.2)) (a.put (some dst) v).tmps:=by
 intro t av hg;rw [Env.get_cons] at hg;split at hg
 ·rename_i e;subst e;simp only [Option.some.injEq] at hg;subst hg;exact ⟨v,Array.getElem?_setIfInBounds_self_of_lt (by rw [h1];exact hdn),.pv _ _ (.base _ hv)⟩
 ·rename_i hne;rw [zjn] at hg;cases hE:env.get t with
  | none=>simp [hE] at hg
  | some v0 =>
   obtain ⟨u,u1,u2⟩:=he t v0 hE;simp only [hE,Option.map_some,Option.some.injEq] at hg;subst hg;exact ⟨u,(Array.getElem?_setIfInBounds_ne hne).trans u1,hk _ _ u2⟩
theorem zbp {N l:Nat} {encs:α→Array Value} {t dst:Tmp} {x0 x1:Operand} {ts:Array TypeId} {pre:List α} (x:α) {v0 v1:Value} (hJ:∀ s W W',J s W→W.grownBy W' none→J s W') (hY:Told J S P d l N encs) (henc:encs x=#[v0,v1]) (hN:pre.length < N)
  (hg:guardE ops env o=some true) (hop:o.op=.call { callee:=.value (.tmp t),args:=#[x0,x1],argTypes:=ts }) (hdst:o.dst=some dst) (hdn:dst < n) (ht:env.get t=some (.pv (.base (.func (.yield l) #[] #[])))) (h0:env.val x0=some (.pv (.base v0))) (h1:env.val x1=some (.pv (.base v1)))
  (htrue:AOY P n d S J ops rest (pre++[x],true) ((dst,.pv (.base (.bool true)))::zxx env) [] Q) (hfalse:AOY P n d S J ops rest (pre++[x],false) ((dst,.pv (.base (.bool false)))::zxf env) [] Q):AOY P n d S J ops (o::rest) (pre,true) env H Q:=by
 refine ⟨fun g hy a w hi=>?_⟩;have hw:=yT hi hg;obtain ⟨s1,s2,K,ρ,hf,he⟩:=hi;refine wpListIn_step fun KK hKK=>?_
 rw [if_pos hw];refine ⟨fun _ _=>trivial,?_⟩;rw [Oper.semAt_eq _ _ _ (fun c hc=>by rw [hop] at hc;cases hc)];obtain ⟨fn,tmps,assign,body,hrun,hR⟩:=hY pre x w (hy.now hJ hf) hN;have ev:∀ {y:Operand} {v:Value},env.val y=some (.pv (.base v))→a.eval y=v:=fun h=>by
  have:=qA he h;generalize a.eval _=u at this;cases this with|pv _ _ hp=>cases hp;rfl
 have hexec:(execOp a.eval o).run P w=.ok (.round l fn tmps assign body) w:=by
  rw [henc] at hrun;simp [execOp,hop,resolve,ev (y:=.tmp t) ht,ev h0,ev h1,Deferred.ofValue,invoke,hrun]
 rw [hexec];simp only [Oper.uponIn];refine ⟨fun hh=>by simp [Fence.wide] at hh,hR.mono ?_⟩;have hds:∀ v,(a.put o.dst v).defers=[]:=fun v=>by rw [←hy.bare.ds,←s2];cases o.dst <;> rfl
 have hsz:∀ v,(a.put o.dst v).tmps.size=n:=fun v=>by rw [hdst];simp [Act.put,s1]
 rintro e W' (⟨rfl,hJ',hk⟩|⟨rfl,hJ'⟩)
 ·have hlt:∀ b o,K b o→b < W'.heap.size:=fun b o hk0=>Nat.lt_of_lt_of_le (hf.lt b o hk0) hk.size
  have hS:∀ b o,K b o→¬ S b:=fun b o hk0 hb=>by
   rcases hf.new b o hk0 with h|h
   ·exact hy.sk rfl b o h hb
   ·have:=hy.sw rfl b hb;omega
  refine hKK _ _ (htrue.go (Base.of W' K (bare W') []) ⟨rfl,⟨rfl,fun _ h=>h,hlt⟩,hJ',fun _ b hb=>?_,fun _=>hS⟩ _ _ ⟨hsz _,hds _,K,ρ,⟨.refl _ _,fun _ _ h=>h,fun _ _ h=>.inl h,hlt,YX _ _,.base,.none _ _,⟨by simp [HEnv.get_nil],by simp [HEnv.get_nil]⟩⟩,?_⟩)
  ·exact Nat.lt_of_lt_of_le (hy.sw rfl b hb) (Nat.le_trans hf.below.size hk.size)
  ·rw [hdst];refine zor (f:=fun v=>match v with|.pv p=>.pv p|_=>.any) s1 hdn he (v:=.bool true) rfl fun av u hu=>?_
   cases hu with
   | pv p u hp=>exact .pv _ _ (hp.keepK fun b o v hk0 hc=>hk.cell (hS b o hk0) hc)
   | _=>exact .any _
 ·refine hKK _ _ (hfalse.go (Base.of W' (fun _ _=>False) (bare W') []) ⟨rfl,⟨rfl,fun _ h=>h,fun _ _ h=>h.elim⟩,hJ',fun h=>Bool.noConfusion h,fun h=>Bool.noConfusion h⟩ _ _ ⟨hsz _,hds _,fun _ _=>False,ρ,⟨.refl _ _,fun _ _ h=>h,fun _ _ h=>.inl h,fun _ _ h=>h.elim,YX _ _,.base,.none _ _,⟨by simp [HEnv.get_nil],by simp [HEnv.get_nil]⟩⟩,?_⟩);rw [hdst];refine zor (f:=fun v=>match v with|.pv (.base v)=>.pv (.base v)|_=>.any) s1 hdn he (v:=.bool false) rfl fun av u hu=>?_
  cases hu with
  | pv p u hp =>
   cases hp with
   | base v hb=>exact .pv _ _ (.base _ hb)
   | _=>exact .any _
  | _=>exact .any _
theorem zlG {f:FuncId} {fn:Func} {cap:List PV} {encs:α→Array Value} {all:List α} (hf:P.funcs[f]?=some fn) (hb:fn.body=some c) (hn:(fn.name == "runtime.NumGoroutine")=false) (hnt:fn.ntmps=n) (hres:fn.results=#[]) (hcap:cap.length + 1≤n)
  (h:∀ (d:Nat) (S:Nat→Prop) (J:List α × Bool→World→Prop) (l:Nat),(∀ s W W',J s W→W.grownBy W' none→J s W')→Told J S P d l all.length encs →
   AWY P n d S J c ([],true) ((0,.pv (.base (.func (.yield l) #[] #[])))::zeW 1 cap) [] fun e s _ _=>(e=.normal∨e=.ret)∧(s=(all,true)∨s.2=false)):AIterS P f cap encs all:=by
 refine ⟨⟨fn,hf,by simp [hb],hn⟩,fun S K w vc d hSw hK hvc l J Jx W hW hJ hJx hY h0=>?_⟩;obtain ⟨J2,hJ2⟩:∃ J2:List α × Bool→World→Prop,J2=fun s W=>if s.2 then J s.1 W else Jx s.1 W:=⟨_,rfl⟩
 have hab:∀ s W W',J2 s W→W.grownBy W' none→J2 s W':=by
  rintro ⟨pre,b⟩ W W' hj hg;subst hJ2;cases b
  ·exact hJx pre W W' none hj hg fun r e=>by cases e
  ·exact hJ pre W W' none hj hg fun r e=>by cases e
 have htold:Told J2 S P d l all.length encs:=by
  intro pre x W1 hj hl;subst hJ2;exact hY pre x W1 hj hl
 have hvW:PRels K W cap vc:=⟨hvc.1,fun k p v hp hv=>(hvc.2 k p v hp hv).keepK fun b o v hk0 hc=>by
  obtain ⟨ob,ho,_⟩:=cells_of_cell hc;exact (hW.cell (p:=⟨b,o,none⟩) (Array.getElem?_eq_some_iff.1 ho).1).trans hc⟩
 have hlt:∀ b o,K b o→b < W.heap.size:=fun b o hk=>Nat.lt_of_lt_of_le (hK b o hk).1 hW.size
 have hlen:vc.length=cap.length:=hvc.1;refine callsIn_of_wp hf hb trivial ?_ rfl;refine wpIn_mono ((h d S J2 l hab htold).go (Base.of W K (bare W) []) ⟨rfl,⟨rfl,fun _ h=>h,hlt⟩,by subst hJ2;exact h0,fun _ b hb=>Nat.lt_of_lt_of_le (hSw b hb) hW.size,fun _ b o hk=>(hK b o hk).2⟩ _ W ⟨by simp [hnt];omega,rfl,K,fun _=>undef,⟨.refl _ _,fun _ _ h=>h,fun _ _ h=>.inl h,hlt,YX _ _,.base,.none _ _,⟨by simp [HEnv.get_nil],by simp [HEnv.get_nil]⟩⟩,?_⟩) ?_
 ·intro t av hg;rw [Env.get_cons] at hg;split at hg
  ·rename_i e;subst e;simp only [Option.some.injEq] at hg;subst hg;refine ⟨.func (.yield l) #[] #[],?_,.pv _ _ (.base _ rfl)⟩;rw [Array.getElem?_append_left zwy63];simp
  ·obtain ⟨hle,p,hp,rfl⟩:=zaf cap 1 t av hg;have hlt2:t - 1 < vc.length:=by rw [hlen];exact (List.getElem?_eq_some_iff.1 hp).1
   refine ⟨vc[t - 1],?_,.pv _ _ (hvW.2 (t - 1) p _ hp (List.getElem?_eq_getElem hlt2))⟩;rw [Array.getElem?_append_left zwy64];obtain ⟨k,rfl⟩:∃ k,t=k + 1:=⟨t - 1,by omega⟩
   simp [show k + 1 - 1=k by omega] at hlt2 ⊢
 ·rintro e a' w' ⟨g',s',env',H',hy,⟨_,k2,K',ρ',hf2,_⟩,he,hs⟩;have hd:a'.defers=[]:=k2.trans hy.bare.ds;have hnow:J2 s' w':=hy.now hab hf2;have hR:(∃ v,Ending.returned (.tuple #[])=.returned v)∧((∃ xs,xs=all∧J xs w')∨(∃ pre,True∧Jx pre w')):=by
   refine ⟨⟨_,rfl⟩,?_⟩;subst hJ2;rcases hs with rfl|hs
   ·exact .inl ⟨_,rfl,hnow⟩
   ·obtain ⟨pre,b⟩:=s';obtain rfl:b=false:=hs;exact .inr ⟨_,trivial,hnow⟩
  rcases he with rfl|rfl
  ·exact ⟨hd,_,results_none hres _ _ _,hR⟩
  ·exact ⟨hd,_,results_none hres _ _ _,hR⟩
end
def noRow:HEnv→Bool
 | []=>true
 | (_,.row _ _ _)::_=>false
 | _::e=>noRow e
theorem zkb:∀ {e:HEnv},noRow e=true→∀ i h,e.get i=some h→∀ t sz es,h≠.row t sz es
 | [],_,i,h,hg,_,_,_=>by simp [HEnv.get_nil] at hg
 | (j,x)::e,hn,i,h,hg,t,sz,es=>by
  have hn':noRow e=true∧∀ t sz es,x≠.row t sz es:=by
   cases x <;> simp_all [noRow]
  rw [HEnv.get_cons] at hg;split at hg
  ·simp only [Option.some.injEq] at hg;subst hg;exact hn'.2 t sz es
  ·exact zkb hn'.1 i h hg t sz es
section
variable {P:Program} {tb:Tab} {n:Nat} {g:Base} {K:KK} {w w':World} {ρ:Nat→Value} {H H':HEnv} {env:Env} {a:Act}
variable {x y c:Code} {QQ:QC} {ops:List Oper}
theorem HOk.ncO {B B0:Nat} (h:NC B0 w w') {e:HE} {r:Value} (hX:∀ X,e=.obj X→∀ b,r=.map (some b)→b < B0) (ho:HOk K w B ρ H e r):HOk K w' B ρ H e r:=by
 cases e with
 | obj X =>
  obtain ⟨b,ob,e1,hB,hb,hx,hn⟩:=ho;obtain ⟨row,hg,hr⟩:=h.row;refine ⟨b,ob,e1,hB,?_,hx,hn⟩;rw [hg.block b (Array.getElem?_eq_some_iff.1 hb).1 fun e=>by have:=(hr b e.symm).1;have:=hX X rfl b e1;omega];exact hb
 | _=>exact ho.nc h (fun X e=>by cases e)
theorem FS.ncO {B:Nat} (hf:FS g K ρ H w) (hB:g.w0.heap.size≤B) (hpr:∀ b,¬ g.pr b) (hk0:∀ b o,g.K0 b o→b < g.w0.heap.size) (hw1:g.w1.heap.size=0) (hX:∀ i X,H.get i=some (.obj X)→∀ b,ρ i=.map (some b)→b < B) (h:NC B w w'):FS g K ρ H w':=by
 obtain ⟨row,hg,hr⟩:=h.row;have hpt:Prot g K w':=⟨fun b hb=>(hpr b hb).elim,fun b o h0=>by
  rw [←hf.pt.kept b o h0];refine World.cell?_of_block (hg.block b (hf.lt b o (hf.old b o h0)) fun e=>?_);have h1:=(hr b e.symm).1;have h2:=hk0 b o h0;omega⟩
 refine ⟨hf.below.grown hg hf.below.size (fun k e=>Nat.le_trans hB (hr k e).1),hf.old,hf.new,fun b o hk=>Nat.lt_of_lt_of_le (hf.lt b o hk) hg.size,⟨by rw [hw1];omega,fun k o hk=>by have:=(Array.getElem?_eq_some_iff.1 hk).1;omega⟩,hpt,hf.away,?_,hf.heap.apart⟩;intro i e hi;exact (hf.heap.ok i e hi).ncO h (fun X e1=>hX i X (by rw [hi,e1]))
theorem zpk {us:Nat→Value} {e:Env} {b i:Nat} {X:Obj→Prop} (h:HEnv.get (yQ us b e) i=some (.obj X)):False:=by
 obtain ⟨_,t,av,_,e1⟩:=QJ h;cases e1
set_option maxHeartbeats 2000000 in
theorem zgT {α:Type} {tf p0 p1 tu tv:Nat} {id0 id1:Nat} {ty0 ty1:TypeId} {po0 po1:String} {af0 af1:Array Edge} {body:Code} {fB:FuncId} {cap:List PV} {encs:α→Array Value} {all:List α} (v0 v1:α→Value) (hit:AIterS P fB cap encs all)
  (env2:Env) (HH:List α→HEnv) (b:Nat) (hw1:g.w1.heap.size=0) (hbg:Bare g)
  (henc:∀ x,encs x=#[v0 x,v1 x]) (hv0:∀ x,Zm (v0 x)=true) (hv1:∀ x,Zm (v1 x)=true)
  (ht:env.get tf=some (.pv (.fn (.func fB) [] cap))) (hs:Sub env env2) (hft:env2.get tf=some (.pv (.fn (.func fB) [] cap))) (hnd:zhW env2=true) (hfr:ziq [p0,p1,tu,tv] env2=true) (hpp:p0 < n∧p1 < n∧tu < n∧tv < n∧p0≠p1∧tu≠p1∧tu≠tv)
  (hfit:Yj H (HH []) env2) (hids:∀ pre,zcK b (HH pre)=true) (hno:∀ pre i X,(HH pre).get i=some (.obj X)→(∃ t,env2.get t=some (.own i))∧∃ X0,(HH []).get i=some (.obj X0)) (hnr:noRow (HH [])=true) (hone:all.length≤1∨∀ pre i h,(HH pre).get i=some h→h.live=false)
  (hend:(QD (HH all) env2&&hIn (HH all) (HH all))=true)
  (hbody:∀ (g2:Base) (us:Nat→Value) (pre:List α) (x:α),pre.length < all.length→AW P n g2 body ((tv,.pv (.base (v1 x)))::(tu,.pv (.base (v0 x)))::env2) (HH pre++yQ us b env2) (zf2 fun env' H'=>Yj H' (HH (pre++[x])++yQ us b env2) []))
  (h:QQ .normal env2 (HH all)):AW2 P n g (.rangeFunc (.tmp tf) #[p0,p1] (.seq (.region id0 #[{ dst:=some tu,op:=.assign (.tmp p0),type:=ty0,pos:=po0,after:=af0,guard:=none }] false) (.region id1 #[{ dst:=some tv,op:=.assign (.tmp p1),type:=ty1,pos:=po1,after:=af1,guard:=none }] false)) body) env H QQ:=by
 refine ⟨fun a w hinv d hd=>?_⟩;have hinv2:=(hinv.sub hs).hsub hfit;obtain ⟨h1,h2,K,ρ,hf,he⟩:=hinv2;let us:Nat→Value:=fun t=>a.tmps.getD t undef
 have hus:∀ t av,(t,av)∈env2→ARel K w ρ (HH []) av (us t):=by
  intro t av hm;obtain ⟨v,v1,v2⟩:=he t av (zcd hnd hm);have:us t=v:=by simp [us,Array.getD_eq_getD_getElem?,v1]
  rw [this];exact v2
 have hfs0:FS g K ρ (HH []++yQ us b env2) w:=by
  have hlat:Later K K w w:=.refl K w;have hk:∀ j,(HEnv.get (HH []) j).isSome=true→(HEnv.get (HH []++yQ us b env2) j).isSome=true∧ρ j=ρ j:=fun j hj=>⟨Zn j hj,rfl⟩
  refine ⟨hf.below,hf.old,hf.new,hf.lt,hf.others,hf.pt,fun i h bb _ _ _=>hbg.pr bb,?_,?_⟩
  ·intro i e hi;rw [get_append] at hi;cases hh:HEnv.get (HH []) i with
   | some x=>rw [hh] at hi;simp only [Option.some.injEq] at hi;subst hi;exact (hf.heap.ok i _ hh).keeps (.refl hf.lt) hf.lt hk
   | none =>
    rw [hh] at hi;obtain ⟨_,t,av,hm,rfl⟩:=QJ hi;exact (hus t av hm).keeps hlat hk
  ·intro i j x y bb hij hi hj lx ly bx bby;have e1:∀ i x,HEnv.get (HH []++yQ us b env2) i=some x→x.live=true→HEnv.get (HH []) i=some x:=by
    intro i x hi hl;rw [get_append] at hi;cases hh:HEnv.get (HH []) i with
    | some z=>rw [hh] at hi;exact hi
    | none =>
     rw [hh] at hi;obtain ⟨_,t,av,hm,rfl⟩:=QJ hi;simp [HE.live] at hl
   exact hf.heap.apart i j x y bb hij (e1 i x hi lx) (e1 j y hj ly) lx ly bx bby
 have hread:∀ {K':KK} {ρ':Nat→Value} {pre:List α} {W:World} {g':Base},FS g' K' ρ' (HH pre++yQ us b env2) W→∀ t av,env2.get t=some av→a.tmps[t]?=some (us t)∧ARel K' W ρ' (HH pre++yQ us b env2) av (us t):=by
  intro K' ρ' pre W g' hf' t av hg;obtain ⟨v,v1,v2⟩:=he t av hg;have hu:us t=v:=by simp [us,Array.getD_eq_getD_getElem?,v1]
  obtain ⟨i,hbi,hgi⟩:=ze3 (us:=us) (b:=b) (zbQ hg);have hn:HEnv.get (HH pre) i=none:=by
   cases hh:HEnv.get (HH pre) i with
   | none=>rfl
   | some z=>have:=zbE (hids pre) i z hh;omega
  have hget:HEnv.get (HH pre++yQ us b env2) i=some (.pin av (us t)):=by rw [get_append,hn];exact hgi
  exact ⟨by rw [hu];exact v1,hf'.heap.ok i _ hget⟩
 have hfn:∃ vc,us tf=.func (.func fB) #[] vc.toArray∧PRels K w cap vc:=by
  have:=(hus tf _ (zbQ hft))
  cases this with
  | pv _ _ hp =>
   generalize us tf=u at hp;cases hp with
   | fn _ _ _ vf vc f1 f2 f3 f4 =>
    have:vf=[]:=List.eq_nil_of_length_eq_zero (by simpa using f1);subst this;exact ⟨vc,rfl,f2,f4⟩
 obtain ⟨vc,hvc,hpc⟩:=hfn;have hev:a.eval (.tmp tf)=.func (.func fB) #[] vc.toArray:=by rw [←hvc];rfl
 have hcapW:∀ {K':KK} {ρ':Nat→Value} {pre:List α} {W:World} {g':Base},FS g' K' ρ' (HH pre++yQ us b env2) W→PRels K' W cap vc:=by
  intro K' ρ' pre W g' hf';have:=(hread hf' tf _ hft).2;rw [hvc] at this;cases this with
  | pv _ _ hp =>
   cases hp with
   | fn _ _ _ vf vc' f1 f2 f3 f4=>exact ⟨f2,f4⟩
 obtain ⟨S,hSd⟩:∃ S:Nat→Prop,S=fun b=>∃ i h,(HH []).get i=some h∧h.live=true∧yj (ρ i)=some b:=⟨_,rfl⟩
 have hSb:∀ b,S b→b < w.heap.size∧∀ o,¬ K b o:=by
  intro b hb;subst hSd;obtain ⟨i,h,h1,h2,h3⟩:=hb;have hok:=hf.heap.ok i h h1;have hlt:∀ {ob:Obj},w.heap[b]?=some ob→b < w.heap.size:=fun e=>(Array.getElem?_eq_some_iff.1 e).1
  cases h with
  | cell v =>
   obtain ⟨b',t,arr,u,e,_,hb,_,_,hk⟩:=hok;rw [e] at h3;simp only [yj,Option.some.injEq] at h3;subst h3;exact ⟨hlt hb,hk⟩
  | row t sz es=>exact (zkb hnr i _ h1 t sz es rfl).elim
  | mrow t sz es =>
   obtain ⟨xs,hown,_,_,hk⟩:=hok;rcases hown.2 with ⟨e,_⟩|⟨b',cap,cur,e,_,hb,_⟩
   ·rw [e] at h3;simp [yj] at h3
   ·rw [e] at h3;simp only [yj,Option.some.injEq] at h3;subst h3;exact ⟨hlt hb,hk b' (by rw [e];rfl)⟩
  | dead=>simp [HE.live] at h2
  | pin v u=>simp [HE.live] at h2
  | obj X =>
   obtain ⟨b',ob,e,_,hb,_,hk⟩:=hok;rw [e] at h3;simp only [yj,Option.some.injEq] at h3;subst h3;exact ⟨hlt hb,hk⟩
 have hseq:=hit.stops S K w vc (d - 1) (fun b hb=>(hSb b hb).1) (fun b o hk=>⟨hf.lt b o hk,fun hb=>(hSb b hb).2 o hk⟩) hpc;let a₁:α→Act:=fun x=>{ tmps:=(((a.tmps.setIfInBounds p0 (v0 x)).setIfInBounds p1 (v1 x)).setIfInBounds tu (v0 x)).setIfInBounds tv (v1 x),defers:=[] }
 let I:List α→World→Prop:=fun pre W=>∃ K ρ',FS g K ρ' (HH pre++yQ us b env2) W∧∀ i h b,(HH pre).get i=some h→h.live=true→yj (ρ' i)=some b→pre.length < all.length→S b
 refine wpIn_rangeFunc_ownF (α:=α) (F:=Fence.wide) (n:=d) (w0:=w) (N:=all.length) rfl zwy62 hev trivial (fun args w=>Ze hit.stands args w) hseq
  (fun h1 h2=>h1.trans h2) (fun W l o o' hl hlo ho _=>⟨by simp [World.putObj],fun b ob _ hb hc=>by
   have hne:l≠b:=fun e=>by subst e;rw [hlo] at hb;cases hb;rw [ho] at hc;cases hc
   rw [←hb];simp [World.putObj,Array.getElem?_setIfInBounds_ne hne]⟩) (.refl _ _)
  (fun x=>by rw [henc];rfl) I (fun _ _ _=>False) ?_ (fun _ _ _ _ _ h=>h.elim) ⟨K,ρ,hfs0,fun i h b h1 h2 h3 _=>by subst hSd;exact ⟨i,h,h1,h2,h3⟩⟩ a₁ ?_ ?_ ?_ (fun _ _ _ _ _ _ h _=>h.elim)
 ·rintro pre W W' row ⟨K',ρ',hf',hl'⟩ hg hr;refine ⟨K',ρ',hf'.ncO hf.below.size hbg.pr hbg.k0 hw1 (fun i X hi b hb=>?_) ⟨row,hg,hr⟩,hl'⟩;rw [get_append] at hi;cases hh:HEnv.get (HH pre) i with
  | none=>rw [hh] at hi;exact (zpk hi).elim
  | some z =>
   rw [hh] at hi;simp only [Option.some.injEq] at hi;subst hi;obtain ⟨⟨t,ht'⟩,X0,hX0⟩:=hno pre i X hh;have e1:us t=ρ' i:=by have:=(hread hf' t _ ht').2;generalize us t=u at this;cases this;rfl
   have e2:us t=ρ i:=by have:=hus t _ (zbQ ht');generalize us t=u at this;cases this;rfl
   obtain ⟨b0,ob,e3,_,hb0,_,_⟩:=hf.heap.ok i _ hX0;rw [←e1,e2,e3] at hb;simp only [Value.map.injEq,Option.some.injEq] at hb;subst hb;exact (Array.getElem?_eq_some_iff.1 hb0).1
 ·intro l x W KK hKK;have hK:KK (a₁ x) W:=hKK;have hz:((#[p0,p1]:Array Tmp).zip #[v0 x,v1 x]).foldl (fun t (p,v)=>t.setIfInBounds p v) a.tmps=(a.tmps.setIfInBounds p0 (v0 x)).setIfInBounds p1 (v1 x):=by
   have hz0:(#[p0,p1]:Array Tmp).zip #[v0 x,v1 x]=#[(p0,v0 x),(p1,v1 x)]:=Array.ext' (by rw [Array.toList_zip];rfl);rw [hz0];rfl
  refine wpIn_seq (wpIn_region_list ?_);show wpListIn _ _ _ _ _ [_] _ _
  refine wpListIn_plain rfl fun K2 hK2=>?_
  refine ⟨fun _ _=>trivial,?_⟩;rw [Oper.semAt_eq _ _ _ (fun c hc=>by cases hc)];have hrun:∀ ρ:Operand→Value,(execOp ρ { dst:=some tu,op:=.assign (.tmp p0),type:=ty0,pos:=po0,after:=af0,guard:=none:Oper }).run P W=.ok (.value (ρ (.tmp p0))) W:=fun ρ=>by simp [execOp]
  rw [hrun];simp only [Oper.uponIn];refine hK2 _ _ ?_;have e0:(({ tmps:=((#[p0,p1]:Array Tmp).zip (encs x)).foldl (fun t (p,v)=>t.setIfInBounds p v) a.tmps,defers:=[] }:Act).put (some tu) (({ tmps:=((#[p0,p1]:Array Tmp).zip (encs x)).foldl (fun t (p,v)=>t.setIfInBounds p v) a.tmps,defers:=[] }:Act).eval (.tmp p0)))={ tmps:=((a.tmps.setIfInBounds p0 (v0 x)).setIfInBounds p1 (v1 x)).setIfInBounds tu (v0 x),defers:=[] }:=by
   rw [henc x,hz];simp only [Act.put,Act.eval];congr 2;simp only [Array.getD_eq_getD_getElem?];rw [Array.getElem?_setIfInBounds_ne hpp.2.2.2.2.1.symm,Array.getElem?_setIfInBounds_self_of_lt zwy62];rfl
  rw [e0];show Exit.then _ _ .normal _ W
  refine wpIn_region_list ?_;show wpListIn _ _ _ _ _ [_] _ _
  refine wpListIn_plain rfl fun K2 hK2=>?_
  refine ⟨fun _ _=>trivial,?_⟩;rw [Oper.semAt_eq _ _ _ (fun c hc=>by cases hc)];have hrun:∀ ρ:Operand→Value,(execOp ρ { dst:=some tv,op:=.assign (.tmp p1),type:=ty1,pos:=po1,after:=af1,guard:=none:Oper }).run P W=.ok (.value (ρ (.tmp p1))) W:=fun ρ=>by simp [execOp]
  rw [hrun];simp only [Oper.uponIn];refine hK2 _ _ ?_;show Exit.then KK _ .normal _ W
  have e1:(({ tmps:=((a.tmps.setIfInBounds p0 (v0 x)).setIfInBounds p1 (v1 x)).setIfInBounds tu (v0 x),defers:=[] }:Act).put (some tv) (({ tmps:=((a.tmps.setIfInBounds p0 (v0 x)).setIfInBounds p1 (v1 x)).setIfInBounds tu (v0 x),defers:=[] }:Act).eval (.tmp p1)))=a₁ x:=by
   simp only [Act.put,Act.eval,a₁];congr 2;simp only [Array.getD_eq_getD_getElem?];rw [Array.getElem?_setIfInBounds_ne hpp.2.2.2.2.2.1,Array.getElem?_setIfInBounds_self_of_lt zwy64];rfl
  rw [e1];exact hK
 ·rintro l pre x W ⟨K',ρ',hf',hl'⟩ hlen;let g2:Base:=⟨g.w0,K',W,[],W,fun b=>b < W.heap.size∧¬ S b⟩
  have hf2:FS g2 K' ρ' (HH pre++yQ us b env2) W:=by
   refine ⟨hf'.below,fun _ _ h=>h,fun _ _ h=>.inl h,hf'.lt,KeepsOthers.refl W,⟨fun b hb=>⟨hb.1,rfl,fun _=>Iff.rfl⟩,fun _ _ _=>rfl⟩,fun i h b hi hl hb hp=>?_,hf'.heap⟩;rw [get_append] at hi;cases hh:HEnv.get (HH pre) i with
   | some z=>rw [hh] at hi;simp only [Option.some.injEq] at hi;subst hi;exact hp.2 (hl' i _ b hh hl hb hlen)
   | none =>
    rw [hh] at hi;obtain ⟨_,t,av,hm,rfl⟩:=QJ hi;simp [HE.live] at hl
  have hinvB:Inv n g2 ((tv,.pv (.base (v1 x)))::(tu,.pv (.base (v0 x)))::env2) (HH pre++yQ us b env2) (a₁ x) W:=by
   refine ⟨by simp [a₁,h1],rfl,K',ρ',hf2,fun t av hg=>?_⟩;rw [Env.get_cons] at hg;split at hg
   ·rename_i e;subst e;simp only [Option.some.injEq] at hg;subst hg;refine ⟨v1 x,?_,.pv _ _ (.base _ (hv1 x))⟩;show ((((a.tmps.setIfInBounds p0 (v0 x)).setIfInBounds p1 (v1 x)).setIfInBounds tu (v0 x)).setIfInBounds tv (v1 x))[tv]?=some (v1 x)
    exact Array.getElem?_setIfInBounds_self_of_lt zwy64
   ·rename_i hne0;rw [Env.get_cons] at hg;split at hg
    ·rename_i e;subst e;simp only [Option.some.injEq] at hg;subst hg;refine ⟨v0 x,?_,.pv _ _ (.base _ (hv0 x))⟩;show ((((a.tmps.setIfInBounds p0 (v0 x)).setIfInBounds p1 (v1 x)).setIfInBounds tu (v0 x)).setIfInBounds tv (v1 x))[tu]?=some (v0 x)
     rw [Array.getElem?_setIfInBounds_ne hpp.2.2.2.2.2.2.symm];exact Array.getElem?_setIfInBounds_self_of_lt zwy64
    ·rename_i hne;obtain ⟨q1,q2⟩:=hread hf' t av hg;have hfresh:∀ p,p∈[p0,p1,tu,tv]→p≠t:=by
      intro p hp e;subst e;have:=List.all_eq_true.1 hfr p hp;rw [hg] at this;cases this
     refine ⟨us t,?_,q2⟩;show ((((a.tmps.setIfInBounds p0 (v0 x)).setIfInBounds p1 (v1 x)).setIfInBounds tu (v0 x)).setIfInBounds tv (v1 x))[t]?=_
     rw [Array.getElem?_setIfInBounds_ne (hfresh tv zwy63),Array.getElem?_setIfInBounds_ne (hfresh tu zwy63),Array.getElem?_setIfInBounds_ne (hfresh p1 zwy63),Array.getElem?_setIfInBounds_ne (hfresh p0 zwy63)];exact q1
  refine wpIn_mono ((hbody g2 us pre x hlen).go (a₁ x) W hinvB (some l) (d - 1 - 1)) ?_;rintro e a' W' ⟨env',H',hi',hq⟩;cases e with
  | normal =>
   obtain ⟨_,_,K2,ρ2,hfe,_⟩:=(hi'.sub qh).hsub (H':=HH (pre++[x])++yQ us b env2) hq;refine ⟨hfe.others,⟨hfe.others.size,fun b ob hs ho _=>((hfe.pt.same b ⟨(Array.getElem?_eq_some_iff.1 ho).1,hs⟩).2.1).trans ho⟩,K2,ρ2,⟨hfe.below,fun b o h=>hfe.old b o (hf'.old b o h),fun b o h=>(hfe.new b o h).elim (hf'.new b o) .inr,hfe.lt,⟨by rw [hw1];omega,fun k o hk=>by have:=(Array.getElem?_eq_some_iff.1 hk).1;omega⟩,⟨fun b hb=>(hbg.pr b hb).elim,fun b o h=>(hfe.pt.kept b o (hf'.old b o h)).trans (hf'.pt.kept b o h)⟩,fun i h bb _ _ _=>hbg.pr bb,hfe.heap⟩,fun i h b h1 h2 _ h4=>?_⟩;rcases hone with h5|h5
   ·have:(pre++[x]).length=pre.length + 1:=by simp
    omega
   ·rw [h5 _ i h h1] at h2;cases h2
  | _=>exact hq.elim
 ·rintro D xs W hD rfl ⟨K',ρ',hf',_⟩ hWD;have hend':=hend;simp only [Bool.and_eq_true] at hend';have hfe:FS ⟨g.w0,g.K0,W,[mark D],g.wp,g.pr⟩ K' ρ' (HH xs++yQ us b env2) W:=⟨hf'.below,hf'.old,hf'.new,hf'.lt,KeepsOthers.refl W,⟨hf'.pt.same,hf'.pt.kept⟩,hf'.away,hf'.heap⟩
  have hinvE:Inv n ⟨g.w0,g.K0,W,[mark D],g.wp,g.pr⟩ env2 (HH xs++yQ us b env2) { a with defers:=mark D::a.defers } W:=by
   refine ⟨h1,?_,K',ρ',hfe,fun t av hg=>?_⟩
   ·show mark D::a.defers=[mark D]
    rw [h2,hbg.ds]
   ·obtain ⟨q1,q2⟩:=hread hf' t av hg;exact ⟨us t,q1,q2⟩
  have hsub:HSub (HH xs++yQ us b env2) (HH xs):=fun i h hi=>by rw [get_append,hi]
  exact ⟨⟨g.w0,g.K0,W,[mark D],g.wp,g.pr⟩,D,rfl,rfl,rfl,Nat.le_trans hf.below.size hD,hWD,env2,HH xs,hinvE.hsub ⟨hsub,hend⟩,h⟩
theorem ziJ {α:Type} {tf p0 p1 tu tv:Nat} {id0 id1:Nat} {ty0 ty1:TypeId} {po0 po1:String} {af0 af1:Array Edge} {body:Code} {fB:FuncId} {cap:List PV} {encs:α→Array Value} {all:List α} (v0 v1:α→Value) (hit:AIterS P fB cap encs all)
  (env2:Env) (HH:List α→HEnv) (b:Nat) (hw1:g.w1.heap.size=0) (hbg:Bare g)
  (henc:∀ x,encs x=#[v0 x,v1 x]) (hv0:∀ x,Zm (v0 x)=true) (hv1:∀ x,Zm (v1 x)=true)
  (ht:env.get tf=some (.pv (.fn (.func fB) [] cap))) (hs:Sub env env2) (hft:env2.get tf=some (.pv (.fn (.func fB) [] cap))) (hnd:zhW env2=true) (hfr:ziq [p0,p1,tu,tv] env2=true) (hpp:p0 < n∧p1 < n∧tu < n∧tv < n∧p0≠p1∧tu≠p1∧tu≠tv)
  (hfit:Yj H (HH []) env2) (hids:∀ pre,zcK b (HH pre)=true) (hno:∀ pre,zaZ (HH pre)=true) (hnr:noRow (HH [])=true) (hone:all.length≤1∨∀ pre i h,(HH pre).get i=some h→h.live=false)
  (hend:(QD (HH all) env2&&hIn (HH all) (HH all))=true)
  (hbody:∀ (g2:Base) (us:Nat→Value) (pre:List α) (x:α),pre.length < all.length→AW P n g2 body ((tv,.pv (.base (v1 x)))::(tu,.pv (.base (v0 x)))::env2) (HH pre++yQ us b env2) (zf2 fun env' H'=>Yj H' (HH (pre++[x])++yQ us b env2) []))
  (h:QQ .normal env2 (HH all)):AW2 P n g (.rangeFunc (.tmp tf) #[p0,p1] (.seq (.region id0 #[{ dst:=some tu,op:=.assign (.tmp p0),type:=ty0,pos:=po0,after:=af0,guard:=none }] false) (.region id1 #[{ dst:=some tv,op:=.assign (.tmp p1),type:=ty1,pos:=po1,after:=af1,guard:=none }] false)) body) env H QQ :=
 zgT v0 v1 hit env2 HH b hw1 hbg henc hv0 hv1 ht hs hft hnd hfr hpp hfit hids (fun pre i X hi=>(zf8 (hno pre) i _ hi X rfl).elim) hnr hone hend hbody h
end
end Go.Cg
namespace Go.Cg
open Go.Proofs
def Vr (m:Me) (i:Int):List Int:=(if Qr (YN m i) then [i + 1] else [])++(if ZU (YN m i) then [(qm m i).arg] else [])
def Yr (m:Me) (k:Nat):List (Int × Int):=(List.range k).flatMap fun i:Nat=>(Vr m (i:Int)).map fun t=>((i:Int),t)
theorem za8 (m:Me) (k:Nat):Yr m (k + 1)=Yr m k++(Vr m k).map fun t=>((k:Int),t):=by
 rw [Yr,List.range_succ,List.flatMap_append];simp [Yr]
theorem zo6 (m:Me) (k:Nat):∀ j,(Yr m k).length≤(Yr m (k + j)).length
 | 0=>Nat.le_refl _
 | j + 1=>by
  have h1:=zo6 m k j;have h2:=congrArg List.length (za8 m (k + j));rw [List.length_append] at h2;rw [Nat.add_assoc] at h2;omega
abbrev yv (l:Nat):AV:=.pv (.base (.func (.yield l) #[] #[]))
abbrev encI (x:Int × Int):Array Value:=#[.int .i64 x.1,.int .i64 x.2]
theorem zwY (m:Me) (k:Nat) (x:Ins) (hx:qm m k=x):∃ s o r,ACall Tryz.prog 45 [pi x.op] (.tup [zbc s o (YN m k),pi r]):=by
 unfold YN;rw [hx];by_cases h:1≤x.op∧x.op≤75
 ·rw [if_pos zwy88];exact ⟨_,_,_,zc3 x.op h.1 h.2⟩
 ·rw [if_neg (by simp only [Bool.and_eq_true,decide_eq_true_eq];exact h)];exact ⟨_,_,_,zcI x.op zwy62⟩
theorem zic (m:Me) (k:Nat):∀ j,∃ r,Yr m (k + j)=Yr m k++r
 | 0=>⟨[],by simp⟩
 | j + 1=>by
  obtain ⟨r,h⟩:=zic m k j;exact ⟨_,by rw [←Nat.add_assoc,za8,h,List.append_assoc]⟩
abbrev zrx (m:Me):={x:Int × Int // x∈Yr m m.code.length}
abbrev zeS (m:Me):List (zrx m):=(Yr m m.code.length).attach
theorem zfa {m:Me} {j:Nat} {v:Int × Int} (h:(Yr m m.code.length)[j]?=some v):∃ hm:v∈Yr m m.code.length,(zeS m).take j++[⟨v,hm⟩]=(zeS m).take (j + 1):=by
 obtain ⟨hj,rfl⟩:=List.getElem?_eq_some_iff.1 h;refine ⟨List.getElem_mem hj,?_⟩;rw [List.take_succ_eq_append_getElem zwy100];simp
theorem zwk76 {G:Prop} (h:G:=by repeat' (first|refine sK ?_|refine sC (fun _=>?_) (fun _=>?_)|(have:=b0;exact ⟨by rw [hnb];rfl,tS,⟨zA,rfl⟩⟩)|(have:=b1;exact ⟨k + 1,hlt,by omega,by rw [hln];exact congrArg (·,true) ht,tS,⟨zA,rfl⟩⟩)|(have:=b2;exact ⟨k + 1,hlt,by omega,by rw [hln];simp only [ZU,Qr,a1,a2,a4];cases (wv==0) <;> rfl,tS,⟨zA,rfl⟩⟩)|(have:=b3;exact ⟨.inl rfl,.inl (by rw [List.take_of_length_le (by simp)])⟩)|exact ⟨congrArg (·,true) ht,tS,⟨zA,rfl⟩⟩|exact ⟨.inr rfl,.inr rfl⟩|fail)):G:=h
set_option maxHeartbeats 4000000 in
theorem zcY (m:Me) (hm:m.code.length≤100000):AIterS Tryz.prog 44 [.ptr (yh m) 0] (fun x:zrx m=>encI x.1) (zeS m):=by
 refine zlG Tryz.func44 rfl zws Tryz.ntmps44 rfl zwy63 (fun d S J l hJ hY=>?_);refine QA (Zu fun g hw1=>?_)
 repeat' (first|refine sK ?_|refine sC (fun _=>?_) (fun _=>?_)|fail)
 refine zkf (zuQ (fun k:Nat=>((zeS m).take (Yr m k).length,true)) (fun k=>[(0,yv l),(1,.pv (.ptr (yh m) 0)),(8,.pv (.slc 6 (m.code.map qx) false)),(9,.pv (pi (m.code.map qx).length)),(10,.pv (pi k))]) (fun _=>[]) (fun k=>k≤m.code.length) (fun k=>m.code.length - k) 0 zwy62 rfl tS ⟨zA,rfl⟩ ?_);rintro k hk;by_cases hlt:k < m.code.length
 ·have he:=zY (f:=qx) hlt;have hin:qm m k=m.code[k]:=by unfold qm;rw [Int.toNat_natCast,List.getD_eq_getElem?_getD,List.getElem?_eq_getElem hlt,Option.getD_some]
  obtain ⟨s,o,r,cO⟩:=zwY m k _ hin;have hwl:Vr m k=(if Qr (YN m k) then [(k:Int) + 1] else [])++(if ZU (YN m k) then [(m.code[k]).arg] else []):=by rw [←hin];rfl
  have hat:∀ (j:Nat) (v:Int × Int),((Vr m k).map fun t=>((k:Int),t))[j]?=some v→(Yr m m.code.length)[(Yr m k).length + j]?=some v:=by
   intro j v hv;obtain ⟨r2,hr2⟩:=zic m (k + 1) (m.code.length - (k + 1));rw [show k + 1 + (m.code.length - (k + 1))=m.code.length by omega,za8,List.append_assoc] at hr2;rw [hr2,List.getElem?_append_right zwy62,Nat.add_sub_cancel_left,List.getElem?_append_left (List.getElem?_eq_some_iff.1 hv).1];exact hv
  have hlt2:∀ j,j < (Vr m k).length→((zeS m).take ((Yr m k).length + j)).length < (zeS m).length:=by
   intro j hj;have:=(List.getElem?_eq_some_iff.1 (hat j _ (List.getElem?_eq_getElem zwy100))).1;rw [List.length_take,List.length_attach];omega
  have hln:(Yr m (k + 1)).length=(Yr m k).length + ((if Qr (YN m k) then 1 else 0) + (if ZU (YN m k) then 1 else 0)):=by
   rw [za8,List.length_append,List.length_map,hwl,List.length_append];cases Qr (YN m k) <;> cases ZU (YN m k) <;> rfl
  rw [hwl] at hat hlt2;clear hwl hin;generalize m.code[k]=x at he cO hat hlt2;generalize YN m k=wv at cO hat hlt2 hln;refine QA (Zu fun g hw1=>?_)
  repeat' (first|refine sK ?_|refine sC (fun _=>?_) (fun _=>?_)|fail)
  refine QA (Zu fun g hw1=>?_)
  repeat' (first|refine sK ?_|refine sC (fun _=>?_) (fun _=>?_)|fail)
  refine QA (zkf ?_);refine QA (Zu fun g hw1=>?_)
  repeat' (first|(refine shX ?_;first|refine qX he ?_)|refine sK ?_|refine sC (fun _=>?_) (fun _=>?_)|fail)
  refine QA (Zu fun g hw1=>?_)
  repeat' (first|(refine shC ?_;first|refine qC cO ?_)|refine sK ?_|refine sC (fun _=>?_) (fun _=>?_)|fail)
  refine ziu (t:=4) rfl rfl rfl ?_;refine ziu (t:=5) rfl rfl rfl ?_;refine zqA [(0,yv l),(1,.pv (.ptr (yh m) 0)),(8,.pv (.slc 6 (m.code.map qx) false)),(9,.pv (pi (m.code.map qx).length)),(10,.pv (pi k)),(3,.pv (pi k)),(4,.pv (.ptr (qx x) 0)),(5,.pv (.ptr (zbc s o wv) 0))] tS ⟨zA,rfl⟩ ?_;refine zu7 [(0,yv l),(1,.pv (.ptr (yh m) 0)),(8,.pv (.slc 6 (m.code.map qx) false)),(9,.pv (pi (m.code.map qx).length)),(10,.pv (pi k)),(3,.pv (pi k)),(4,.pv (.ptr (qx x) 0)),(5,.pv (.ptr (zbc s o wv) 0))] ((zeS m).take ((Yr m k).length + (if Qr wv then 1 else 0)),true) ?_ ?_
  ·rcases Bool.eq_false_or_eq_true (wv==0) with a0|a0
   ·obtain rfl:wv=0:=by simpa using a0
    obtain ⟨hv,ht⟩:=zfa (m:=m) (hat 0 ((k:Int),(k:Int) + 1) rfl);refine QA (zaP (zfx 13 rfl rfl (fun g hw1=>?_)))
    repeat' (first|refine sK ?_|refine sC (fun _=>?_) (fun _=>?_)|fail)
    refine zbp ⟨((k:Int),(k:Int) + 1),hv⟩ hJ hY (by dsimp only;rw [wrap_in (by omega) (by omega)]) (hlt2 0 (by simp [Qr,ZU])) rfl rfl rfl zwy67 rfl rfl rfl ?_ ?_
    ·refine zba (fun g hw1=>?_)
     repeat' (first|refine sK ?_|refine sC (fun _=>?_) (fun _=>?_)|fail)
     refine Zu fun g hw1=>?_
     exact zwk76
    ·refine zba (fun g hw1=>?_)
     repeat' (first|refine sK ?_|refine sC (fun _=>?_) (fun _=>?_)|fail)
     refine Zu fun g hw1=>?_
     exact zwk76
   ·rcases Bool.eq_false_or_eq_true (wv==2) with a2|a2
    ·obtain rfl:wv=2:=by simpa using a2
     obtain ⟨hv,ht⟩:=zfa (m:=m) (hat 0 ((k:Int),(k:Int) + 1) rfl);refine QA (zaP (zfx 13 rfl rfl (fun g hw1=>?_)))
     repeat' (first|refine sK ?_|refine sC (fun _=>?_) (fun _=>?_)|fail)
     refine zbp ⟨((k:Int),(k:Int) + 1),hv⟩ hJ hY (by dsimp only;rw [wrap_in (by omega) (by omega)]) (hlt2 0 (by simp [Qr,ZU])) rfl rfl rfl zwy67 rfl rfl rfl ?_ ?_
     ·refine zba (fun g hw1=>?_)
      repeat' (first|refine sK ?_|refine sC (fun _=>?_) (fun _=>?_)|fail)
      refine Zu fun g hw1=>?_
      exact zwk76
     ·refine zba (fun g hw1=>?_)
      repeat' (first|refine sK ?_|refine sC (fun _=>?_) (fun _=>?_)|fail)
      refine Zu fun g hw1=>?_
      exact zwk76
    ·have hnb:Qr wv=false:=by simp [Qr,a0,a2]
     refine Zu fun g hw1=>?_
     have b0:=();exact zwk76
  ·rcases Bool.eq_false_or_eq_true (wv==1) with a1|a1
   ·obtain rfl:wv=1:=by simpa using a1
    obtain ⟨hv,ht⟩:=zfa (m:=m) (hat 0 ((k:Int),x.arg) rfl);refine QA (zaP (zfx 18 rfl rfl (fun g hw1=>?_)))
    repeat' (first|refine sK ?_|refine sC (fun _=>?_) (fun _=>?_)|fail)
    refine zbp ⟨((k:Int),x.arg),hv⟩ hJ hY rfl (hlt2 0 (by simp [Qr,ZU])) rfl rfl rfl zwy67 rfl rfl rfl ?_ ?_
    ·refine zba (fun g hw1=>?_)
     repeat' (first|refine sK ?_|refine sC (fun _=>?_) (fun _=>?_)|fail)
     refine Zu fun g hw1=>?_
     repeat' (first|refine sK ?_|refine sC (fun _=>?_) (fun _=>?_)|fail)
     refine Zu fun g hw1=>?_
     have b1:=();exact zwk76
    ·refine zba (fun g hw1=>?_)
     repeat' (first|refine sK ?_|refine sC (fun _=>?_) (fun _=>?_)|fail)
     refine Zu fun g hw1=>?_
     exact zwk76
   ·rcases Bool.eq_false_or_eq_true (wv==2) with a2|a2
    ·obtain rfl:wv=2:=by simpa using a2
     obtain ⟨hv,ht⟩:=zfa (m:=m) (hat 1 ((k:Int),x.arg) rfl);refine QA (zaP (zfx 18 rfl rfl (fun g hw1=>?_)))
     repeat' (first|refine sK ?_|refine sC (fun _=>?_) (fun _=>?_)|fail)
     refine zbp ⟨((k:Int),x.arg),hv⟩ hJ hY rfl (hlt2 1 (by simp [Qr,ZU])) rfl rfl rfl zwy67 rfl rfl rfl ?_ ?_
     ·refine zba (fun g hw1=>?_)
      repeat' (first|refine sK ?_|refine sC (fun _=>?_) (fun _=>?_)|fail)
      refine Zu fun g hw1=>?_
      repeat' (first|refine sK ?_|refine sC (fun _=>?_) (fun _=>?_)|fail)
      refine Zu fun g hw1=>?_
      have b1:=();exact zwk76
     ·refine zba (fun g hw1=>?_)
      repeat' (first|refine sK ?_|refine sC (fun _=>?_) (fun _=>?_)|fail)
      refine Zu fun g hw1=>?_
      exact zwk76
    ·rcases Bool.eq_false_or_eq_true (wv==4) with a4|a4
     ·obtain rfl:wv=4:=by simpa using a4
      obtain ⟨hv,ht⟩:=zfa (m:=m) (hat 0 ((k:Int),x.arg) rfl);refine QA (zaP (zfx 18 rfl rfl (fun g hw1=>?_)))
      repeat' (first|refine sK ?_|refine sC (fun _=>?_) (fun _=>?_)|fail)
      refine zbp ⟨((k:Int),x.arg),hv⟩ hJ hY rfl (hlt2 0 (by simp [Qr,ZU])) rfl rfl rfl zwy67 rfl rfl rfl ?_ ?_
      ·refine zba (fun g hw1=>?_)
       repeat' (first|refine sK ?_|refine sC (fun _=>?_) (fun _=>?_)|fail)
       refine Zu fun g hw1=>?_
       repeat' (first|refine sK ?_|refine sC (fun _=>?_) (fun _=>?_)|fail)
       refine Zu fun g hw1=>?_
       have b1:=();exact zwk76
      ·refine zba (fun g hw1=>?_)
       repeat' (first|refine sK ?_|refine sC (fun _=>?_) (fun _=>?_)|fail)
       refine Zu fun g hw1=>?_
       exact zwk76
     ·refine Zu fun g hw1=>?_
      repeat' (first|refine sK ?_|refine sC (fun _=>?_) (fun _=>?_)|fail)
      refine Zu fun g hw1=>?_
      have b2:=();exact zwk76
 ·obtain rfl:k=m.code.length:=by omega
  refine QA (Zu fun g hw1=>?_)
  repeat' (first|refine sK ?_|refine sC (fun _=>?_) (fun _=>?_)|fail)
  refine QA (Zu fun g hw1=>?_);have b3:=();exact zwk76
set_option maxHeartbeats 20000000
theorem zcS (m:Me):ACall Tryz.prog 21 [yh m] (.fn (.func 44) [] [.ptr (yh m) 0]):=by
 refine zi zf Tryz.func21 rfl zws Tryz.ntmps21 zwy63 _ rfl (fun hw gB hgB=>?_)
 repeat' (first|refine sA ?_|refine sC (fun _=>?_) (fun _=>?_)|fail)
 exact retq rfl rfl
theorem zjE (c:Cl) (i to:Int):ACall Tryz.prog 47 [Zg c,.ptr (pi to) 0,.ptr (pi i) 0] (pb (c.tf==to&&(decide (i < c.tf)||decide (c.tt≤i)))):=by
 rcases Bool.eq_false_or_eq_true (c.tf==to) with h0|h0 <;> rcases Bool.eq_false_or_eq_true (decide (i < c.tf)) with h1|h1 <;> (
  refine zi zf Tryz.func47 rfl zws Tryz.ntmps47 zwy63 _ rfl (fun hw gB hgB=>?_)
  repeat' (first|refine sK ?_|refine sC (fun _=>?_) (fun _=>?_)|fail)
  exact retq rfl (by simp [zC,h0,h1]))
theorem zfh (m:Me) (i t:Int):ACall Tryz.prog 22 [yh m,pi i,pi t] (pb (XA m i t)):=by
 have cc:=zaC m.clauses (fun c=>c.tf==t&&(decide (i < c.tf)||decide (c.tt≤i))) 47 [] [.ptr (pi t) 0,.ptr (pi i) 0] (fun c _=>zjE c i t);refine zi zf Tryz.func22 rfl zws Tryz.ntmps22 zwy63 _ rfl (fun hw gB hgB=>?_)
 repeat' (first|(refine shC ?_;first|refine qC cc ?_)|refine sA ?_|refine sC (fun _=>?_) (fun _=>?_)|fail)
 exact retq rfl rfl
end Go.Cg
