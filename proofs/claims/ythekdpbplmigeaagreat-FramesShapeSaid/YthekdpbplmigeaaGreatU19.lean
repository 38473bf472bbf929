/- A part of the walks by abstract values: no statement of its own. -/
import Derived.Test.YthekdpbplmigeaaGreatU13
import Derived.Test.YthekdpbplmigeaaGreatU14
import Derived.Test.YthekdpbplmigeaaGreatU12
import Derived.Test.YthekdpbplmigeaaGreatU8
namespace Go.Cg
open Go.RowKit
section
variable {P : Program} {tb : Tab} {n : Nat} {g : Base} {K K' : KK} {w w' : World} {ρ ρ' : Nat → Value} {H H' : HEnv} {env : Env} {a : Act} {ops : List Oper} {o : Oper} {rest : List Oper} {Q : Env → HEnv → Prop} {f : FuncId} {args : List AV} {r : AV}
theorem ao_callMX {d : Tmp} {ars : List AV} (Hc Hc' R : HEnv) (env2 : Env) {lone : Bool} (ps : List Nat) (hw1 : lone = true → g.w1.heap.size = 0) (hg : guardE ops env o = some true)
  (henter : ∀ (K : KK) (ρ : Nat → Value) (a : Act) (w : World), FS g K ρ H w → EnvR K w ρ H env a.tmps → Stands P f → ∃ vs : List Value, (execOp a.eval o).run P w = .ok (.enter f vs.toArray) w ∧ ARels K w ρ H ars vs) (hsub : HSub H (Hc ++ R)) (hs : Sub env env2) (hd : o.dst = some d) (hdt : Nat.blt d n = true)
  (hchk : callChk Hc Hc' R ps ars env2 r = true) (hc : ∀ us, ACallM P f ars (Hc ++ pinB us ps) r (Hc' ++ pinB us ps) lone)
  (h : AO P n g ops.toArray rest ((d, r) :: env2) (Hc' ++ R) Q) : AO P n g ops.toArray (o :: rest) env H Q := by
 simp only [callChk, Bool.and_eq_true] at hchk
 obtain ⟨⟨⟨⟨⟨⟨⟨⟨⟨⟨d1, d2⟩, d3⟩, d4⟩, i1⟩, i2⟩, i3⟩, i4⟩, i5⟩, i6⟩, i7⟩ := hchk
 have i7' : ∀ i ∈ ps, (Hc.get i).isSome = true ∧ (Hc'.get i).isSome = true := fun i hi => by simpa using List.all_eq_true.1 i7 i hi
 refine ⟨fun a w hinv => ?_⟩
 have hw := wanted_of hinv hg
 obtain ⟨h1, h2, K, ρ, hf, he⟩ := hinv
 refine wpList_step fun KK hKK => ?_
 rw [if_pos hw]
 have hlatR : Later K K w w := .refl K w
 have gC : ∀ i x, Hc.get i = some x → H.get i = some x := fun i x hx => hsub i x (by rw [get_append, hx])
 have gR : ∀ i x, R.get i = some x → H.get i = some x := fun i x hx => hsub i x (by
  rw [get_append]
  cases hh : Hc.get i with
  | none => exact hx
  | some y => rw [disjH_get d1 i y hh] at hx; cases hx)
 have nC : ∀ i x, R.get i = some x → Hc.get i = none := fun i x hx => by
  cases hh : Hc.get i with
  | none => rfl
  | some y => rw [disjH_get d1 i y hh] at hx; cases hx
 have nC' : ∀ i x, R.get i = some x → Hc'.get i = none := fun i x hx => by
  cases hh : Hc'.get i with
  | none => rfl
  | some y => rw [disjH_get d2 i y hh] at hx; cases hx
 have hpinC : ∀ {A : HEnv} {us : Nat → Value} {i : Nat} {x : HE}, HEnv.get (A ++ pinB us ps) i = some x → x.live = true → A.get i = some x := by
  intro A us i x hx hl
  rw [get_append] at hx
  cases hh : A.get i with
  | some z => rw [hh] at hx; exact hx
  | none =>
   rw [hh] at hx
   obtain ⟨_, _, rfl⟩ := pinB_get hx
   simp [HE.live] at hl
 obtain ⟨g', hg'⟩ : ∃ g' : Base, g' = ⟨g.w0, K, g.w1, g.ds, w, fun b => g.pr b ∨ ∃ i x, R.get i = some x ∧ x.live = true ∧ blockOf (ρ i) = some b⟩ := ⟨_, rfl⟩
 have hfs : FS g' K ρ (Hc ++ pinB ρ ps) w := by
  subst hg'
  refine ⟨hf.below, fun _ _ h => h, fun _ _ h => .inl h, hf.lt, hf.others, ⟨?_, fun _ _ _ => rfl⟩, ?_, ?_, ?_⟩
  ·rintro b (hb | ⟨i, x, hi, hl, hb⟩)
   ·exact ⟨(hf.pt.same b hb).1, rfl, fun _ => Iff.rfl⟩
   ·exact ⟨((hf.heap.ok i x (gR i x hi)).block_lt hl hb).2, rfl, fun _ => Iff.rfl⟩
  ·intro i x b hi hl hb
   have hC := hpinC hi hl
   rintro (hp | ⟨j, y, hj, hly, hbj⟩)
   ·exact hf.away i x b (gC i x hC) hl hb hp
   ·have hne : i ≠ j := by rintro rfl; rw [nC i y hj] at hC; cases hC
    exact hf.heap.apart i j x y b hne (gC i x hC) (gR j y hj) hl hly hb hbj
  ·intro i x hi
   rw [get_append] at hi
   cases hh : Hc.get i with
   | some y =>
    rw [hh] at hi; simp only [Option.some.injEq] at hi; subst hi
    have hok := hf.heap.ok i y (gC i y hh)
    have hk : ∀ j, (HEnv.get Hc j).isSome = true → (HEnv.get (Hc ++ pinB ρ ps) j).isSome = true ∧ ρ j = ρ j := fun j hj => ⟨isSome_append j hj, rfl⟩
    cases y with
    | cell v => obtain ⟨b, t, arr, u, q1, q2, q3, q4, q5, q6⟩ := hok; exact ⟨b, t, arr, u, q1, q2, q3, (q4.refs (hIn_get i2 i v hh)).keeps hlatR hk, q5, q6⟩
    | pin v u => exact (ARel.refs hok (hIn_getp i2 i v u hh)).keeps hlatR hk
    | row t sz es => exact hok
    | mrow t sz es => exact hok
    | dead => exact hok
    | obj X => exact hok
   | none =>
    rw [hh] at hi
    obtain ⟨q1, q2, rfl⟩ := pinB_get hi
    exact .own _ (isSome_append _ (i7' _ q2).1)
  ·intro i j x y b hij hi hj lx ly bx bj
   exact hf.heap.apart i j x y b hij (gC i x (hpinC hi lx)) (gC j y (hpinC hj ly)) lx ly bx bj
 obtain ⟨vals, hrun, hpa⟩ := henter K ρ a w hf he (hc ρ).stands
 have hall : ARels K w ρ (Hc ++ pinB ρ ps) ars vals :=
  ⟨hpa.1, fun k c v hc hv => ((hpa.2 k c v hc hv).refs (allRefsIn_get i1 k c hc)).keeps hlatR fun j hj => ⟨isSome_append j hj, rfl⟩⟩
 unfold Oper.wp
 rw [hrun]
 simp only [Oper.upon]
 refine ((hc ρ).calls g' K ρ w _ (by subst hg'; exact hw1) hfs hall).mono fun e w' ⟨v, K', ρ', e1, hf', hv⟩ => ?_
 subst e1
 have hlat : Later K K' w w' := by subst hg'; exact ⟨hf'.old, hf'.pt.kept⟩
 have hprot : ∀ b, (g.pr b ∨ ∃ i x, R.get i = some x ∧ x.live = true ∧ blockOf (ρ i) = some b) → b < w'.heap.size ∧ w'.heap[b]? = w.heap[b]? ∧ ∀ o, K' b o ↔ K b o := by subst hg'; exact hf'.pt.same
 have haway : ∀ i x b, Hc'.get i = some x → x.live = true → blockOf (ρ' i) = some b → ¬ (g.pr b ∨ ∃ i x, R.get i = some x ∧ x.live = true ∧ blockOf (ρ i) = some b) := by
  subst hg'; exact fun i x b hi => hf'.away i x b (by rw [get_append, hi])
 obtain ⟨ρ2, hρ2⟩ : ∃ ρ2 : Nat → Value, ∀ j, ρ2 j = if (Hc'.get j).isSome then ρ' j else ρ j := ⟨_, fun _ => rfl⟩
 have r1 : ∀ j, (Hc'.get j).isSome = true → ρ2 j = ρ' j := fun j hj => by rw [hρ2, if_pos hj]
 have r2 : ∀ j, Hc'.get j = none → ρ2 j = ρ j := fun j hj => by rw [hρ2, hj]; rfl
 have hkC : ∀ j, (HEnv.get Hc' j).isSome = true → (HEnv.get (Hc' ++ R) j).isSome = true ∧ ρ2 j = ρ' j := fun j hj => ⟨isSome_append j hj, r1 j hj⟩
 have hps : ∀ i ∈ ps, ρ' i = ρ i := fun i hi => by
  have hnone : Hc'.get (1000 + i) = none := by
   cases hh : Hc'.get (1000 + i) with
   | none => rfl
   | some x => have := idsLt_get d4 _ x hh; omega
  have := hf'.heap.ok (1000 + i) _ (by rw [get_append, hnone]; exact pinB_mem hi)
  have this : ARel K' w' ρ' (Hc' ++ pinB ρ ps) (.own i) (ρ i) := this
  generalize hu : ρ i = u at this
  cases this with
  | own _ _ => rfl
 have hkR : ∀ j, (HEnv.get (R ++ deads ps) j).isSome = true → (HEnv.get (Hc' ++ R) j).isSome = true ∧ ρ2 j = ρ j := fun j hj => by
  rw [get_append] at hj
  cases hh : R.get j with
  | some x =>
   have hn := nC' j x hh
   exact ⟨by rw [get_append, hn, hh]; rfl, r2 j hn⟩
  | none =>
   rw [hh] at hj
   have hm := deads_get hj
   have hs' := (i7' j hm).2
   exact ⟨isSome_append j hs', by rw [r1 j hs', hps j hm]⟩
 have hfs2 : FS g K' ρ2 (Hc' ++ R) w' := by
  have b1 : Below g.w0.heap.size g.w0 w' := by subst hg'; exact hf'.below
  have b3 : ∀ b o, K' b o → K b o ∨ g.w0.heap.size ≤ b := by subst hg'; exact hf'.new
  have b5 : KeepsOthers g.w1 w' := by subst hg'; exact hf'.others
  have bB : HRel K' w' g.w0.heap.size ρ' (Hc' ++ pinB ρ ps) := by subst hg'; exact hf'.heap
  refine ⟨b1, fun b o h => hlat.sub b o (hf.old b o h), fun b o hk => (b3 b o hk).elim (hf.new b o) .inr, hf'.lt, b5, ⟨fun b hb => ?_, fun b o h0 => (hlat.cell b o (hf.old b o h0)).trans (hf.pt.kept b o h0)⟩, fun i x b hi hl hb => ?_, fun i x hi => ?_, fun i j x y b hij hi hj lx ly bx bj => ?_⟩
  ·obtain ⟨p1, p2, p3⟩ := hprot b (.inl hb)
   obtain ⟨q1, q2, q3⟩ := hf.pt.same b hb
   exact ⟨p1, p2.trans q2, fun o => (p3 o).trans (q3 o)⟩
  ·rw [get_append] at hi
   cases hh : Hc'.get i with
   | some y =>
    rw [hh] at hi; simp only [Option.some.injEq] at hi; subst hi
    rw [r1 i (by rw [hh]; rfl)] at hb
    exact fun hp => haway i y b hh hl hb (.inl hp)
   | none =>
    rw [hh] at hi
    rw [r2 i hh] at hb
    exact hf.away i x b (gR i x hi) hl hb
  ·rw [get_append] at hi
   cases hh : Hc'.get i with
   | some y =>
    rw [hh] at hi; simp only [Option.some.injEq] at hi; subst hi
    rw [r1 i (by rw [hh]; rfl)]
    have hok := bB.ok i y (by rw [get_append, hh])
    have hl' := Later.refl K' w'
    cases y with
    | cell v => obtain ⟨b, t, arr, u, q1, q2, q3, q4, q5, q6⟩ := hok; exact ⟨b, t, arr, u, q1, q2, q3, (q4.refs (hIn_get i3 i v hh)).keeps hl' hkC, q5, q6⟩
    | pin v u => exact (ARel.refs hok (hIn_getp i3 i v u hh)).keeps hl' hkC
    | row t sz es => exact hok
    | mrow t sz es => exact hok
    | dead => exact hok
    | obj X => exact hok
   | none =>
    rw [hh] at hi
    rw [r2 i hh]
    have hok := hf.heap.ok i x (gR i x hi)
    have hsame : x.live = true → ∀ b, blockOf (ρ i) = some b → w'.heap[b]? = w.heap[b]? ∧ ∀ o, K' b o ↔ K b o := fun hl b hb => (hprot b (.inr ⟨i, x, hi, hl, hb⟩)).2
    cases x with
    | cell v =>
     obtain ⟨b, t, arr, u, q1, q2, q3, q4, q5, q6⟩ := hok
     obtain ⟨s1, s2⟩ := hsame rfl b (by rw [q1]; rfl)
     exact ⟨b, t, arr, u, q1, q2, by rw [s1]; exact q3, (q4.refs (hIn_get i5 i v hi)).keeps hlat hkR, q5, fun o hk => q6 o ((s2 o).1 hk)⟩
    | pin v u => exact (ARel.refs hok (hIn_getp i5 i v u hi)).keeps hlat hkR
    | row t sz es =>
     obtain ⟨xs, q1, q2, q3, q4⟩ := hok
     refine ⟨xs, ownsRow_block q1 fun b hb => (hsame rfl b hb).1, q2, fun k e he => ?_, fun b hb o => ?_⟩
     ·obtain ⟨c1, c2⟩ := q3 k e he
      exact ⟨c1, fun k c hc => let ⟨v, h4, h5, h6⟩ := c2 k c hc; ⟨v, h4, h5, h6.later hlat⟩⟩
     ·rw [(hsame rfl b ((blockOf_own q1 b).2 hb)).2 o]; exact q4 b hb o
    | mrow t sz es =>
     obtain ⟨xs, q1, q2, q3, q4⟩ := hok
     refine ⟨xs, ownsRow_block q1 fun b hb => (hsame rfl b hb).1, q2, fun k e he => ?_, fun b hb o hk => ?_⟩
     ·obtain ⟨c1, c2⟩ := q3 k e he
      exact ⟨c1, fun k c hc => let ⟨v, h4, h5, h6⟩ := c2 k c hc; ⟨v, h4, h5, h6.later hlat⟩⟩
     ·exact q4 b hb o (((hsame rfl b ((blockOf_own q1 b).2 hb)).2 o).1 hk)
    | dead => trivial
    | obj X =>
     obtain ⟨b, ob, q1, q2, q3, q4, q5⟩ := hok
     obtain ⟨s1, s2⟩ := hsame rfl b (by rw [q1]; rfl)
     exact ⟨b, ob, q1, q2, by rw [s1]; exact q3, q4, fun o hk => q5 o ((s2 o).1 hk)⟩
  ·rw [get_append] at hi hj
   cases hhi : Hc'.get i with
   | some x' =>
    rw [hhi] at hi; simp only [Option.some.injEq] at hi; subst hi
    rw [r1 i (by rw [hhi]; rfl)] at bx
    cases hhj : Hc'.get j with
    | some y' =>
     rw [hhj] at hj; simp only [Option.some.injEq] at hj; subst hj
     rw [r1 j (by rw [hhj]; rfl)] at bj
     exact bB.apart i j x' y' b hij (by rw [get_append, hhi]) (by rw [get_append, hhj]) lx ly bx bj
    | none =>
     rw [hhj] at hj; rw [r2 j hhj] at bj
     exact haway i x' b hhi lx bx (.inr ⟨j, y, hj, ly, bj⟩)
   | none =>
    rw [hhi] at hi; rw [r2 i hhi] at bx
    cases hhj : Hc'.get j with
    | some y' =>
     rw [hhj] at hj; simp only [Option.some.injEq] at hj; subst hj
     rw [r1 j (by rw [hhj]; rfl)] at bj
     exact haway j y' b hhj ly bj (.inr ⟨i, x, hi, lx, bx⟩)
    | none =>
     rw [hhj] at hj; rw [r2 j hhj] at bj
     exact hf.heap.apart i j x y b hij (gR i x hi) (gR j y hj) lx ly bx bj
 have he2 : EnvR K' w' ρ2 (Hc' ++ R) env2 a.tmps := fun t av ht => by
  obtain ⟨u, u1, u2⟩ := he t av (hs t av ht)
  exact ⟨u, u1, (u2.refs (envIn_get i6 t av ht)).keeps hlat hkR⟩
 refine hKK _ _ (h.go _ _ ⟨put_size h1, put_defers h2, K', ρ2, hfs2, ?_⟩)
 rw [hd]
 exact env_put h1 hdt he2 ((hv.refs i4).keeps (Later.refl K' w') hkC)
theorem ao_callC {t : Tmp} {xs : Array Operand} {ts : Array TypeId} {d : Tmp} {first cap ars : List AV} (Hc Hc' R : HEnv) (env2 : Env) {lone : Bool} (ps : List Nat) (hw1 : lone = true → g.w1.heap.size = 0) (hg : guardE ops env o = some true)
  (hop : o.op = .call { callee := .value (.tmp t), args := xs, argTypes := ts }) (ht : env.get t = some (.fn (.func f) first cap)) (hargs : avs env xs.toList = some ars) (hsub : HSub H (Hc ++ R)) (hs : Sub env env2) (hd : o.dst = some d) (hdt : Nat.blt d n = true)
  (hchk : callChk Hc Hc' R ps (first ++ ars ++ cap) env2 r = true) (hc : ∀ us, ACallM P f (first ++ ars ++ cap) (Hc ++ pinB us ps) r (Hc' ++ pinB us ps) lone)
  (h : AO P n g ops.toArray rest ((d, r) :: env2) (Hc' ++ R) Q) : AO P n g ops.toArray (o :: rest) env H Q :=
 ao_callMX Hc Hc' R env2 ps hw1 hg (fun K ρ a w hf he hst => by
  have hfn := val_rel he (x := .tmp t) ht
  generalize hfv : a.eval (.tmp t) = fv at hfn
  have hpa := avs_rel (a := a) he hargs
  cases hfn with
  | fn _ _ _ vf vc f1 f2 f3 f4 =>
   refine ⟨vf ++ xs.toList.map a.eval ++ vc, ?_, by have := hpa.1; simp at this; simp [f1, f2, this], fun k c v hc hv => ?_⟩
   ·have e : (vf ++ xs.toList.map a.eval ++ vc).toArray = vf.toArray ++ xs.map a.eval ++ vc.toArray := by
     rw [show xs.map a.eval = (xs.toList.map a.eval).toArray by rw [← Array.toList_map, Array.toArray_toList]]
     simp
    rw [e]
    simp [execOp, hop, resolve, hfv, Deferred.ofValue, invoke, call_run hst]
   ·rw [List.append_assoc, List.getElem?_append] at hc hv
    split at hc
    ·rename_i hl
     rw [if_pos (by omega)] at hv
     exact f3 k c v hc hv
    ·rename_i hl
     rw [if_neg (by omega), f1] at hv
     rw [List.getElem?_append] at hc hv
     have e : (xs.toList.map a.eval).length = ars.length := hpa.1
     split at hc
     ·rename_i hl2
      rw [if_pos (by omega)] at hv
      exact hpa.2 _ c v hc hv
     ·rename_i hl2
      rw [if_neg (by omega), e] at hv
      exact f4 _ c v hc hv) hsub hs hd hdt hchk hc h
def isReady (ops : List Oper) (listed : List Bool) (j : Nat) : Bool := match ops[j]?, listed[j]? with
 | some o, some false => o.after.toList.all fun e => !Region.binds .any e || (listed[e.on]?).getD false
 | _, _ => false
structure AT (P : Program) (n : Nat) (g : Base) (ops : List Oper) (listed : List Bool) (env : Env) (H : HEnv) (QQ : QC) : Prop where
 go : ∀ (fuel : Nat) a w, Inv n g env H a w → fuel = (listed.filter (! ·)).length → listed.length = ops.length → wpAny P .any ops.toArray (fun e a' w' => e = .normal ∧ ∃ env' H', Inv n g env' H' a' w' ∧ QQ .normal env' H') fuel listed.toArray a w
structure ATs (P : Program) (n : Nat) (g : Base) (ops : List Oper) (listed : List Bool) (env : Env) (H : HEnv) (QQ : QC) (j : Nat) : Prop where
 go : ∀ m, j ≤ m → isReady ops listed m = true → ∃ o, ops[m]? = some o ∧ AO P n g ops.toArray [o] env H (fun env' H' => AT P n g ops (listed.set m true) env' H' QQ)
variable {listed : List Bool} {QQ : QC}
theorem ready_isReady {m : Nat} : m ∈ Region.ready .any ops.toArray listed.toArray → isReady ops listed m = true := by
 rw [mem_ready_iff]
 rintro ⟨o, ho, hun, hall⟩
 have hl : listed[m]? = some false := by
  simp only [Array.getD_eq_getD_getElem?, List.getElem?_toArray] at hun
  cases h : listed[m]? with
  | none => rw [h] at hun; cases hun
  | some b => rw [h] at hun; simp at hun; rw [hun]
 simp only [isReady, ho, hl]
 rw [List.all_eq_true]
 intro e he
 cases hb : Region.binds .any e
 ·rfl
 ·have := hall e.on (List.any_eq_true.2 ⟨e, he, by simp [hb]⟩)
  simp only [Array.getD_eq_getD_getElem?, List.getElem?_toArray] at this
  simpa using this
theorem at_end {j : Nat} (h : ops.length = j) : ATs P n g ops listed env H QQ j := ⟨fun m hm hr => by
 simp only [isReady, List.getElem?_eq_none (show ops.length ≤ m by omega)] at hr; cases hr⟩
theorem at_skip {j : Nat} (h : isReady ops listed j = false) (k : ATs P n g ops listed env H QQ (j + 1)) : ATs P n g ops listed env H QQ j := ⟨fun m hm hr => by
 rcases Nat.eq_or_lt_of_le hm with rfl | hm
 ·rw [h] at hr; cases hr
 ·exact k.go m hm hr⟩
theorem at_take {j : Nat} {o : Oper} (ho : ops[j]? = some o) (h : AO P n g ops.toArray [o] env H (fun env' H' => AT P n g ops (listed.set j true) env' H' QQ)) (k : ATs P n g ops listed env H QQ (j + 1)) : ATs P n g ops listed env H QQ j := ⟨fun m hm hr => by
 rcases Nat.eq_or_lt_of_le hm with rfl | hm
 ·exact ⟨o, ho, h⟩
 ·exact k.go m hm hr⟩
theorem at_fin (h : listed.all id = true) (hq : QQ .normal env H) : AT P n g ops listed env H QQ := ⟨fun fuel a w hi hf hl => by
 have h0 : (listed.filter (! ·)) = [] := by
  rw [List.filter_eq_nil_iff]
  intro b hb
  have := List.all_eq_true.1 h b hb
  simpa using this
 rw [h0] at hf
 subst hf
 refine ⟨?_, rfl, env, H, hi, hq⟩
 rw [List.eq_nil_iff_forall_not_mem]
 intro j hj
 obtain ⟨o, ho, hun, _⟩ := mem_ready_iff.1 hj
 have hlt : j < listed.length := by rw [hl]; exact (List.getElem?_eq_some_iff.1 ho).1
 have := List.all_eq_true.1 h listed[j] (List.getElem_mem hlt)
 simp only [Array.getD_eq_getD_getElem?, List.getElem?_toArray, List.getElem?_eq_getElem hlt, Option.getD_some] at hun
 rw [hun] at this; cases this⟩
theorem at_go (hE : edgesDown ops = true) (hn : listed.any (! ·) = true) (h : ATs P n g ops listed env H QQ 0) : AT P n g ops listed env H QQ := ⟨fun fuel a w hi hf hl => by
 obtain ⟨b, hb, hb2⟩ := List.any_eq_true.1 hn
 cases fuel with
 | zero =>
  have := List.filter_eq_nil_iff.1 (List.eq_nil_of_length_eq_zero hf.symm) b hb
  exact absurd hb2 this
 | succ fuel =>
  refine ⟨fun h0 => ?_, fun j hj => ?_⟩
  ·have hall := ready_nil hE (by simpa using hl) h0
   obtain ⟨j, hj⟩ := List.getElem?_of_mem hb
   have hlt := (List.getElem?_eq_some_iff.1 hj).1
   have := hall j (by omega)
   simp only [Array.getD_eq_getD_getElem?, List.getElem?_toArray, hj, Option.getD_some] at this
   subst this; cases hb2
  ·obtain ⟨o, ho, hao⟩ := h.go j (Nat.zero_le _) (ready_isReady hj)
   obtain ⟨_, _, hun, _⟩ := mem_ready_iff.1 hj
   have hlt : j < listed.length := by rw [hl]; exact (List.getElem?_eq_some_iff.1 ho).1
   have hcount : fuel = ((listed.set j true).filter (! ·)).length := by
    have h1 := count_next (listed := listed.toArray) (j := j) (fuel := fuel) (by simpa using hlt) hun (by simpa using hf.symm)
    simpa using h1.symm
   have hw := hao.go a w hi
   have hnext : ∀ a2 w2, (∃ env' H', Inv n g env' H' a2 w2 ∧ Exit.normal = .normal ∧ AT P n g ops (listed.set j true) env' H' QQ) → wpAny P .any ops.toArray (fun e a' w' => e = .normal ∧ ∃ env' H', Inv n g env' H' a' w' ∧ QQ .normal env' H') fuel (listed.toArray.setIfInBounds j true) a2 w2 := by
    rintro a2 w2 ⟨env', H', hi', _, hat⟩
    have := hat.go fuel a2 w2 hi' hcount (by simpa using hl)
    simpa using this
   unfold wpOp
   simp only [List.getElem?_toArray, ho]
   unfold wpList at hw
   split at hw
   ·rename_i hwt
    rw [if_pos hwt]
    rcases hw with hw | hw
    ·refine .inl ?_
     unfold Oper.wp at hw ⊢
     generalize (execOp a.eval o).run P w = res at hw
     cases res with
     | halt x w' => cases x <;> simp only [Oper.upon] at hw <;> (obtain ⟨_, _, _, he, _⟩ := hw; cases he)
     | ok nx w' =>
      cases nx <;> simp only [Oper.upon] at hw ⊢
      case value v => exact hnext _ _ hw
      case skip => exact hnext _ _ hw
      case defer d => exact hnext _ _ hw
      case enter f args => exact Calls.mono hw (fun e w'' he => by
       cases e with
       | returned v => exact hnext _ _ he
       | panicked ch => obtain ⟨_, _, _, he, _⟩ := he; cases he
       | outgrown => obtain ⟨_, _, _, _, _, he, _⟩ := he; cases he)
      case row f args => exact Rows.mono hw (fun v _ he => hnext _ _ he)
    ·obtain ⟨_, _, _, _, _, _, he, _⟩ := hw; cases he
   ·rename_i hwt
    rw [if_neg hwt]
    exact hnext _ _ hw⟩
theorem aw_draw_all {id : Nat} (hm : P.follows .mixedOrders = true) (h : AT P n g ops (ops.map fun _ => false) env H QQ) (hnd : noDefer ops = true := by kernel_rfl) : AW P n g (.region id ops.toArray true) env H QQ := by
 refine ⟨fun a w hi rr dd => ?_⟩
 refine wpIn_mono (region_anyR (R := fun a' w' => ∃ env' H', Inv n g env' H' a' w' ∧ QQ .normal env' H') hnd hm ?_) (fun e a' w' h => by obtain ⟨rfl, h⟩ := h; exact h)
 obtain ⟨h1, h2, K, ρ, hf, he⟩ := hi
 have hev : Evo K K w { w with drawn := w.drawn + 1 } := (Evo.refl hf.lt).drew
 have hi2 : Inv n g env H a { w with drawn := w.drawn + 1 } := ⟨h1, h2, K, ρ, hf.evo hev, fun t av ht => let ⟨v, v1, v2⟩ := he t av ht; ⟨v, v1, v2.later (hev.later hf.lt)⟩⟩
 have hg := h.go ops.length a _ hi2 ((show ∀ l : List Oper, l.length = ((l.map fun _ => false).filter (! ·)).length from fun l => by induction l with | nil => rfl | cons x l ih => simp only [List.map_cons, List.filter_cons, Bool.not_false, if_true, List.length_cons]; omega) ops) (by simp)
 have e1 : (ops.map fun _ => false).toArray = Array.replicate ops.toArray.size false := by
  apply Array.ext
  ·simp
  ·intro i h1 h2; simp
 rw [e1] at hg
 simpa using hg
end
end Go.Cg
namespace Go.Cg
open Go.Proofs
theorem mOk_flags {g : Img} (hf : formedG g = true) {a : Int} (h : mOk g a) : 0 ≤ (mAt g a).flags ∧ (mAt g a).flags ≤ 31 := formedM_flags (formed_me hf h.2)
theorem alkP_eq {g : Img} (hf : formedG g = true) {a b : Int} (ha : mOk g a) (hb : mOk g b) : alikeP (mAt g a) (mAt g b) = alk g a b := by
 have h1 := mOk_flags hf ha
 have h2 := mOk_flags hf hb
 exact alike_eq h1.1 h1.2 h2.1 h2.2
set_option maxHeartbeats 1000000 in
theorem find1_call (g : Img) (hf : formedG g = true) (x m : Int) (hx : mOk g x) (hm : mOk g m) : ACall Tryz.prog 289 ([] ++ [pi x] ++ [.ptr (imgPV g) 0, .ptr (pi m) 0]) (pb (alk g x m)) := by
 show ACall Tryz.prog 289 [pi x, .ptr (imgPV g) 0, .ptr (pi m) 0] (pb (alk g x m))
 refine acall_intro tbOK Tryz.func289 rfl (by kernel_rfl) Tryz.ntmps289 (by simp) _ rfl (fun hw gB hgB => ?_)
 have e1 := mAt_get hx
 have e2 := mAt_get hm
 have c1 := AlikeP_call (mAt g x) (mAt g m)
 rw [alkP_eq hf hx hm] at c1
 repeat' (first | (refine shC ?_; first | refine qC c1 ?_) | (refine shX ?_; first | refine ao_q rfl (q_index tbOK rfl rfl rfl rfl rfl rfl hx.1 e1) rfl rfl ?_ | refine AD.step _ _ _ _ _ rfl (q_index tbOK rfl rfl rfl rfl rfl rfl hx.1 e1) rfl rfl ?_ | refine ao_q rfl (q_index tbOK rfl rfl rfl rfl rfl rfl hm.1 e2) rfl rfl ?_ | refine AD.step _ _ _ _ _ rfl (q_index tbOK rfl rfl rfl rfl rfl rfl hm.1 e2) rfl rfl ?_) | refine sA ?_ | refine sC (fun _ => ?_) (fun _ => ?_) | fail)
 exact retq rfl rfl
abbrev slH (out : List Int) : HEnv := [(0, .cell (.agg [.own 7])), (7, .mrow 3 1 (out.map pi))]
set_option maxHeartbeats 1000000 in
theorem findS_call (g : Img) (hf : formedG g = true) (out : List Int) (m : Int) (ho : ∀ x ∈ out, mOk g x) (hm : mOk g m) (us : Nat → Value) : ACallM Tryz.prog 270 [.box 0 0, .pv (imgPV g), .pv (pi m)] (slH out ++ pinB us [0]) (.pv (pi (idxF out (fun x => alk g x m)))) (slH out ++ pinB us [0]) := by
 refine acallM_intro tbOK Tryz.func270 rfl (by kernel_rfl) Tryz.ntmps270 (by simp) _ rfl (fun gB hw1 => ?_)
 have c1 := IndexFunc_call out (fun x => alk g x m) 289 [] [.ptr (imgPV g) 0, .ptr (pi m) 0] (fun x hx => find1_call g hf x m (ho x hx) hm)
 repeat' (first | (refine ao_sh_call ?_; first | refine ao_callL rfl rfl rfl c1 rfl rfl ?_) | refine sA ?_ | refine sC (fun _ => ?_) (fun _ => ?_) | fail)
 exact ⟨.inr rfl, .inl ⟨_, rfl, rfl, ⟨by repeat (first | exact hsub_nil | refine hsub_cons rfl ?_), rfl⟩⟩⟩
set_option maxHeartbeats 1000000 in
theorem putS_call (out : List Int) (m : Int) (ho : out.length ≤ 5000) (us : Nat → Value) : ACallM Tryz.prog 271 [.box 0 0, .pv (pi m)] (slH out ++ pinB us [0]) (.pv (.tup [])) (slH (out ++ [m]) ++ pinB us [0]) := by
 refine acallM_intro tbOK Tryz.func271 rfl (by kernel_rfl) Tryz.ntmps271 (by simp) _ rfl (fun gB hw1 => ?_)
 repeat' (first | (refine ao_sh_bi ?_; first | refine ao_mappend tbOK rfl rfl rfl rfl rfl rfl rfl (by show _ * 8 ≤ _; simp; omega) (by simp; omega) rfl rfl ?_) | refine sA ?_ | refine sC (fun _ => ?_) (fun _ => ?_) | fail)
 exact ⟨.inl rfl, .inl ⟨[], rfl, rfl, ⟨hsub_cons rfl (hsub_m rfl (by simp) (by repeat (first | exact hsub_nil | refine hsub_cons rfl ?_))), rfl⟩⟩⟩
theorem tblStep_idx {g : Img} {out : List Int} {m : Int} (hv : virt g m = true) : tblStep g out m = if decide (0 ≤ idxF out (fun x => alk g x m)) && !fresh g m then out.set (idxF out (fun x => alk g x m)).toNat m else out ++ [m] := by
 rw [tblStep, if_pos hv, idxF]
 cases out.any (fun x => alk g x m) <;> cases fresh g m <;> simp
theorem idxF_range {l : List Int} {p : Int → Bool} : idxF l p = -1 ∨ (0 ≤ idxF l p ∧ (idxF l p).toNat < l.length) := by
 rw [idxF]
 split
 ·rename_i h
  right
  obtain ⟨x, hx, hp⟩ := List.any_eq_true.1 h
  have := List.findIdx_lt_length_of_exists (p := p) ⟨x, hx, hp⟩
  omega
 ·exact .inl rfl
def imgCs (g : Img) : List PV := [.slc 4 (g.types.map tdPV) false, .slc 7 (g.fields.map fdPV) false, .slc 12 (g.methods.map mePV) false, pi g.entry]
abbrev tabAV (g : Img) : AV := .agg [.box 0 0, .pv (.slc 4 (g.types.map tdPV) false), .pv (.slc 7 (g.fields.map fdPV) false), .pv (.slc 12 (g.methods.map mePV) false), .pv (pi g.entry)]
theorem noLone {P : Prop} : false = true → P := fun h => nomatch h
set_option maxHeartbeats 2000000 in
theorem takeS_call (g : Img) (hF : Fine g) (out : List Int) (u : Int) (ho : ∀ x ∈ out, mOk g x) (hol0 : out.length ≤ 2048) (us : Nat → Value) :
  ACallM Tryz.prog 235 [tabAV g, .pv (pi u)] (slH out ++ pinB us [0]) (.pv (.tup [])) (slH (tblFold g out (methodsOf g u)) ++ pinB us [0]) := by
 have hgm : g.methods.length ≤ 64 := (formedG_bounds hF.formed).2.2.1
 have c3 := MethodsP_call g u (by omega)
 have hml := methodsOf_len g u
 refine acallM_intro tbOK Tryz.func235 rfl (by kernel_rfl) Tryz.ntmps235 (by simp) _ rfl (fun gB hw1 => ?_)
 repeat' (first | refine ao_q rfl (q_boxload (ps := imgCs g) tbOK rfl rfl rfl rfl rfl) rfl rfl ?_ | (refine shC ?_; first | refine qC c3 ?_) | (refine ao_sh_box ?_; first | refine ao_boxm 2 rfl rfl rfl rfl rfl rfl ?_) | refine sA ?_ | refine sC (fun _ => ?_) (fun _ => ?_) | fail)
 refine aw_loop (fun k : Nat => [(2, .box 2 0), (11, .pv (ints (methodsOf g u))), (12, .pv (pi (methodsOf g u).length)), (13, .pv (pi k))])
  (fun k => [(0, .cell (.agg [.own 7])), (7, .mrow 3 1 ((tblFold g out ((methodsOf g u).take k)).map pi)), (2, .cell (tabAV g)), (1000, .pin (.own 0) (us 0))])
  (fun k => k ≤ (methodsOf g u).length) (fun k => (methodsOf g u).length - k) 0 (by omega) (tS) ⟨hsub_cons rfl (hsub_m rfl rfl (by repeat (first | exact hsub_nil | refine hsub_cons rfl ?_))), rfl⟩ ?_
 rintro k hk
 by_cases hlt : k < (methodsOf g u).length
 ·obtain ⟨x, hx⟩ : ∃ x, x = (methodsOf g u)[k] := ⟨_, rfl⟩
  have hex : ((methodsOf g u).map pi)[k]? = some (pi x) := by rw [hx]; exact map_get (f := pi) hlt
  have hmx : mOk g x := by rw [hx]; exact methodsOf_mem (List.getElem_mem hlt)
  have hem := mAt_get hmx
  have hs := tblFold_snoc g out _ k hlt
  rw [← hx] at hs
  obtain ⟨cur, hcu⟩ : ∃ o, o = tblFold g out ((methodsOf g u).take k) := ⟨_, rfl⟩
  have hcl : cur.length ≤ 2112 := by
   have := (tblFold_len g ((methodsOf g u).take k) out).2
   have h2 : ((methodsOf g u).take k).length ≤ 64 := by simp; omega
   rw [hcu]; omega
  have hcm : ∀ y ∈ cur, mOk g y := by
   intro y hy
   rw [hcu] at hy
   rcases tblFold_mem hy with hy | hy
   ·exact ho y hy
   ·exact methodsOf_mem (List.mem_of_mem_take hy)
  rw [← hcu] at hs ⊢
  have hfl := mOk_flags hF.formed hmx
  have hfe := flags_eq hfl.1 hfl.2
  have b2 := has_call (mAt g x) 2
  have b8 := has_call (mAt g x) 8
  rw [hfe.2.1] at b2
  rw [hfe.2.2.2.1] at b8
  cases hv : virt g x
  ·rw [show bitF (mAt g x).flags 2 = false from hv] at b2
   repeat' (first | (refine shC ?_; first | refine qC b2 ?_) | (refine shX ?_; first | refine qX hex ?_ | refine ao_q rfl (q_index tbOK rfl rfl rfl rfl rfl rfl hmx.1 hem) rfl rfl ?_ | refine AD.step _ _ _ _ _ rfl (q_index tbOK rfl rfl rfl rfl rfl rfl hmx.1 hem) rfl rfl ?_) | refine sK ?_ | refine sC (fun _ => ?_) (fun _ => ?_) | fail)
   exact ⟨k + 1, hlt, tD, tS, ⟨hsub_cons rfl (hsub_m rfl (by rw [hs, tblStep, hv]; rfl) (by repeat (first | exact hsub_nil | refine hsub_cons rfl ?_))), rfl⟩⟩
  ·rw [show bitF (mAt g x).flags 2 = true from hv] at b2
   rw [tblStep_idx hv] at hs
   have cF := fun us => findS_call g hF.formed cur x hcm hmx us
   have cP := fun us => putS_call cur x (by omega) us
   have hr := idxF_range (l := cur) (p := fun y => alk g y x)
   obtain ⟨a, ha⟩ : ∃ a, a = idxF cur (fun y => alk g y x) := ⟨_, rfl⟩
   simp only [← ha] at cF
   rw [← ha] at hs hr
   rcases hr with rfl | ⟨ha0, ha1⟩
   ·rw [if_neg (by simp)] at hs
    repeat' (first | refine ao_q rfl (q_boxload (ps := imgCs g) tbOK rfl rfl rfl rfl rfl) rfl rfl ?_ | (refine shC ?_; first | refine qC b2 ?_ | refine qC b8 ?_) | (refine shX ?_; first | refine qX hex ?_ | refine ao_q rfl (q_index tbOK rfl rfl rfl rfl rfl rfl hmx.1 hem) rfl rfl ?_ | refine AD.step _ _ _ _ _ rfl (q_index tbOK rfl rfl rfl rfl rfl rfl hmx.1 hem) rfl rfl ?_) | (refine ao_sh_call ?_; first | refine ao_callM (slH cur) (slH cur) [(2, .cell (tabAV g)), (1, .cell (.pv (mePV (mAt g x)))), (1000, .pin (.own 0) (us 0))] [(2, .box 2 0), (5, .pv (pi x)), (6, .box 1 0), (11, .pv (ints (methodsOf g u))), (12, .pv (pi (methodsOf g u).length)), (13, .pv (pi k))] [0] noLone rfl rfl rfl (by repeat (first | exact hsub_nil | refine hsub_cons rfl ?_)) tS rfl rfl rfl cF ?_ | refine ao_callM (slH cur) (slH (cur ++ [x])) [(2, .cell (tabAV g)), (1000, .pin (.own 0) (us 0))] [(2, .box 2 0), (11, .pv (ints (methodsOf g u))), (12, .pv (pi (methodsOf g u).length)), (13, .pv (pi k))] [0] noLone rfl rfl rfl (by repeat (first | exact hsub_nil | refine hsub_cons rfl ?_)) tS rfl rfl rfl cP ?_) | refine sK ?_ | refine sC (fun _ => ?_) (fun _ => ?_) | fail)
    exact ⟨k + 1, hlt, tD, tS, ⟨hsub_cons rfl (hsub_m rfl (by rw [hs]) (by repeat (first | exact hsub_nil | refine hsub_cons rfl ?_))), rfl⟩⟩
   ·have hd : decide (0 ≤ a) = true := decide_eq_true ha0
    rw [hd] at hs
    cases hf : fresh g x
    ·rw [show bitF (mAt g x).flags 8 = false from hf] at b8
     rw [hf, if_pos (by simp)] at hs
     have hal : a.toNat < (cur.map pi).length := by rw [List.length_map]; exact ha1
     have hap : (cur.map pi)[a.toNat]? = some (pi cur[a.toNat]) := map_get' ha1
     repeat' (first | refine ao_q rfl (q_boxload (ps := imgCs g) tbOK rfl rfl rfl rfl rfl) rfl rfl ?_ | (refine shC ?_; first | refine qC b2 ?_ | refine qC b8 ?_) | (refine shX ?_; first | refine qX hex ?_ | refine ao_q rfl (q_index tbOK rfl rfl rfl rfl rfl rfl hmx.1 hem) rfl rfl ?_ | refine AD.step _ _ _ _ _ rfl (q_index tbOK rfl rfl rfl rfl rfl rfl hmx.1 hem) rfl rfl ?_ | refine ao_q rfl (q_mindex (k := a.toNat) tbOK rfl rfl rfl rfl rfl rfl rfl (by omega) hal) rfl rfl ?_ | refine AD.step _ _ _ _ _ rfl (q_mindex (k := a.toNat) tbOK rfl rfl rfl rfl rfl rfl rfl (by omega) hal) rfl rfl ?_) | (refine ao_sh_call ?_; first | refine ao_callM (slH cur) (slH cur) [(2, .cell (tabAV g)), (1, .cell (.pv (mePV (mAt g x)))), (1000, .pin (.own 0) (us 0))] [(2, .box 2 0), (5, .pv (pi x)), (6, .box 1 0), (11, .pv (ints (methodsOf g u))), (12, .pv (pi (methodsOf g u).length)), (13, .pv (pi k))] [0] noLone rfl rfl rfl (by repeat (first | exact hsub_nil | refine hsub_cons rfl ?_)) tS rfl rfl rfl cF ?_) | (refine ao_sh_store ?_; first | refine ao_mstore (k := a.toNat) (j := 0) tbOK rfl rfl rfl rfl rfl hap rfl rfl rfl rfl rfl ?_) | refine sK ?_ | refine sC (fun _ => ?_) (fun _ => ?_) | fail)
     exact ⟨k + 1, hlt, tD, tS, ⟨hsub_cons rfl (hsub_m rfl (by rw [hs, List.map_set]) (by repeat (first | exact hsub_nil | refine hsub_cons rfl ?_))), rfl⟩⟩
    ·rw [show bitF (mAt g x).flags 8 = true from hf] at b8
     rw [hf, if_neg (by simp)] at hs
     repeat' (first | refine ao_q rfl (q_boxload (ps := imgCs g) tbOK rfl rfl rfl rfl rfl) rfl rfl ?_ | (refine shC ?_; first | refine qC b2 ?_ | refine qC b8 ?_) | (refine shX ?_; first | refine qX hex ?_ | refine ao_q rfl (q_index tbOK rfl rfl rfl rfl rfl rfl hmx.1 hem) rfl rfl ?_ | refine AD.step _ _ _ _ _ rfl (q_index tbOK rfl rfl rfl rfl rfl rfl hmx.1 hem) rfl rfl ?_) | (refine ao_sh_call ?_; first | refine ao_callM (slH cur) (slH cur) [(2, .cell (tabAV g)), (1, .cell (.pv (mePV (mAt g x)))), (1000, .pin (.own 0) (us 0))] [(2, .box 2 0), (5, .pv (pi x)), (6, .box 1 0), (11, .pv (ints (methodsOf g u))), (12, .pv (pi (methodsOf g u).length)), (13, .pv (pi k))] [0] noLone rfl rfl rfl (by repeat (first | exact hsub_nil | refine hsub_cons rfl ?_)) tS rfl rfl rfl cF ?_ | refine ao_callM (slH cur) (slH (cur ++ [x])) [(2, .cell (tabAV g)), (1000, .pin (.own 0) (us 0))] [(2, .box 2 0), (11, .pv (ints (methodsOf g u))), (12, .pv (pi (methodsOf g u).length)), (13, .pv (pi k))] [0] noLone rfl rfl rfl (by repeat (first | exact hsub_nil | refine hsub_cons rfl ?_)) tS rfl rfl rfl cP ?_) | refine sK ?_ | refine sC (fun _ => ?_) (fun _ => ?_) | fail)
     exact ⟨k + 1, hlt, tD, tS, ⟨hsub_cons rfl (hsub_m rfl (by rw [hs]) (by repeat (first | exact hsub_nil | refine hsub_cons rfl ?_))), rfl⟩⟩
 ·have hk2 : k = (methodsOf g u).length := by omega
  subst hk2
  rw [List.take_length]
  repeat' (first | refine sK ?_ | refine sC (fun _ => ?_) (fun _ => ?_) | fail)
  exact ⟨.inl rfl, .inl ⟨[], rfl, rfl, ⟨by repeat (first | exact hsub_nil | refine hsub_cons rfl ?_), rfl⟩⟩⟩
end Go.Cg
namespace Go.Cg
open Go.Proofs
set_option maxHeartbeats 2000000 in
theorem ofS_call (g : Img) (hF : Fine g) (t : Int) : ACall Tryz.prog 186 [imgPV g, pi t] (ints (tbl g t)) := by
 obtain ⟨hgt, _, hgm, _⟩ := formedG_bounds hF.formed
 have hui := up_inv g t
 have hul := nodup_le _ _ hui.1 hui.2
 refine acall2_intro tbOK Tryz.func186 rfl (by kernel_rfl) Tryz.ntmps186 (by simp) _ rfl (fun hw gB hgB hds => ?_)
 refine aw2_seqL ?_
 repeat' (first | refine sA ?_ | refine sC (fun _ => ?_) (fun _ => ?_) | fail)
 refine aw2_seqL ?_
 repeat' (first | refine ao_q rfl (q_buildA tbOK rfl ⟨_, rfl⟩ rfl rfl rfl rfl rfl rfl) rfl rfl ?_ | (refine ao_sh_box ?_; first | refine ao_boxm 0 rfl rfl rfl rfl rfl rfl ?_) | refine sA ?_ | refine sC (fun _ => ?_) (fun _ => ?_) | fail)
 refine aw2_seqR ?_
 refine aw2_seqL ?_
 repeat' (first | refine aw_mown_nil_field 0 7 0 3 1 (by decide) rfl rfl rfl rfl ?_ | (refine shC ?_; first | refine ao_q rfl (q_call rfl rfl (UpP_call g t (by omega))) rfl rfl ?_ | refine AD.step _ _ _ _ _ rfl (q_call rfl rfl (UpP_call g t (by omega))) rfl rfl ?_ | refine qC (Backward_call _) ?_) | refine sA ?_ | refine sC (fun _ => ?_) (fun _ => ?_) | fail)
 refine aw2_block ?_
 refine aw2_range (fun x => .int .i64 x.1) (fun x => .int .i64 x.2) (back_iter (up g t) (by omega)) [(2, .pv (.ptr (imgPV g) 0)), (5, .box 1 0), (15, .pv (.fn (.func 229) [] [.ptr (ints (up g t)) 0]))]
  (fun pre => [(0, .cell (.agg [.own 7])), (7, .mrow 3 1 ((tblU g (pre.map (·.2))).map pi)), (1, .cell (tabAV g))]) 100 hgB hds (fun _ => rfl) (fun _ => rfl) rfl (tS) rfl rfl rfl (by decide) ⟨by repeat (first | exact hsub_nil | refine hsub_cons rfl ?_), rfl⟩ (fun _ => rfl) (fun _ => rfl) rfl ?_ ?_
 ·intro g2 us pre x hlen
  rw [backL_len] at hlen
  obtain ⟨cur, hcu⟩ : ∃ c, c = tblU g (pre.map (·.2)) := ⟨_, rfl⟩
  have hcl : cur.length ≤ 2048 := by
   have h1 := tblU_len (g := g) (pre.map (·.2))
   have h2 : g.methods.length * (pre.map (·.2)).length ≤ 64 * 32 := Nat.mul_le_mul hgm (by rw [List.length_map]; omega)
   rw [hcu]; omega
  have hcm : ∀ y ∈ cur, mOk g y := fun y hy => tblU_mem (by rw [hcu] at hy; exact hy)
  have hs : tblU g ((pre ++ [x]).map (·.2)) = tblFold g cur (methodsOf g x.2) := by rw [hcu, List.map_append, tblU, List.foldl_append]; rfl
  rw [← hcu]
  have cT := fun us' => takeS_call g hF cur x.2 hcm hcl us'
  repeat' (first | (refine ao_sh_call ?_; first | refine ao_callM (slH cur) (slH (tblFold g cur (methodsOf g x.2))) ((1, .cell (tabAV g)) :: pinsOf us 100 [(2, .pv (.ptr (imgPV g) 0)), (5, .box 1 0), (15, .pv (.fn (.func 229) [] [.ptr (ints (up g t)) 0]))]) [] [0] noLone rfl rfl rfl (by repeat (first | exact hsub_nil | refine hsub_cons rfl ?_)) tS rfl rfl rfl cT ?_) | refine sA ?_ | refine sC (fun _ => ?_) (fun _ => ?_) | fail)
  exact ⟨hsub_cons rfl (hsub_m rfl (by rw [hs]) (by repeat (first | exact hsub_nil | refine hsub_cons rfl ?_))), rfl⟩
 ·intro g3
  repeat' (first | refine aw_mfreeze 7 rfl ?_ | refine sA ?_ | refine sC (fun _ => ?_) (fun _ => ?_) | fail)
  exact ⟨rfl, retq rfl (by rw [backL_snd]; rfl)⟩
end Go.Cg
namespace Go.Cg
open Go.Proofs
theorem kindR_range (f : Int) : 0 ≤ kindR f := by
 unfold kindR
 cases bitF f 2 <;> cases bitF f 1 <;> cases bitF f 16 <;> simp
def useP (g : Img) (t : Ty) : Bool := (t.kind != 5 && t.kind != 6) || (t.kind == 6 && kindG g t.index == 1) || (t.kind == 5 && kindG g t.index != 1)
theorem useP_eq {g : Img} {t : Ty} (hp : plainT t = true) (ho : ownT t g.types.length = true) : useP g t = usedR g t := by
 have hk := kindG_range g t.index
 have hn : (t.kind = 5 ∨ t.kind = 6) → kindG g t.index ≠ -1 := by
  intro h
  have h0 : 0 ≤ t.index := by
   rw [plainT] at hp
   split at hp
   ·cases hp
   ·rename_i hh; simp at hh; omega
  have h1 : t.index < g.types.length := by
   rw [ownT] at ho
   rcases h with h | h <;> simpa [h] using ho
  obtain ⟨td, htd⟩ := typeAt_of_lt ⟨h0, h1⟩
  rw [kindG, htd]
  have := kindR_range td.flags
  simp only; omega
 rw [useP, usedR, hp]
 generalize kindG g t.index = k at hk hn
 by_cases h5 : t.kind = 5
 ·have := hn (.inl h5)
  rcases hk with rfl | rfl | rfl | rfl | rfl <;> simp_all
 ·by_cases h6 : t.kind = 6
  ·have := hn (.inr h6)
   rcases hk with rfl | rfl | rfl | rfl | rfl <;> simp_all
  ·have e5 : (t.kind == 5) = false := beq_eq_false_iff_ne.2 h5
   have e6 : (t.kind == 6) = false := beq_eq_false_iff_ne.2 h6
   simp only [bne, e5, e6]; rfl
theorem may_plain {t : Ty} {p n : Int} (h : mayT t p n = true) : plainT t = true ∧ ownT t n = true := by
 rw [mayT, Bool.and_eq_true] at h
 refine ⟨?_, h.2⟩
 have := h.1
 rw [whereT] at this
 cases hp : plainT t
 ·rw [hp] at this; simp at this
 ·rfl
def codeT (m : Me) : List Ty := (m.code.filter fun x => operand06 x.op == 8).map (·.t)
def catchT (m : Me) : List Ty := (m.clauses.filter fun c => c.kind == 1).map (·.t)
def typedL (m : Me) : List Ty := m.params ++ m.locals ++ [m.ret] ++ codeT m ++ catchT m
def typedR (g : Img) (m : Me) : Bool := usedR g m.ret && m.params.all (usedR g) && m.locals.all (usedR g) && m.code.all (fun x => operand06 x.op != 8 || usedR g x.t) && m.clauses.all (fun c => c.kind != 1 || usedR g c.t)
theorem filt_all {α : Type} {l : List α} {p : α → Bool} {f : α → Ty} {q : Ty → Bool} : ((l.filter p).map f).all q = l.all fun x => !p x || q (f x) := by
 induction l with
 | nil => rfl
 | cons x l ih =>
  rw [List.filter_cons]
  cases h : p x <;> simp [h, ih]
theorem typed_eq {g : Img} {m : Me} (h : formedM g m = true) : (typedL m).all (useP g) = typedR g m := by
 simp only [formedM, formedC, Bool.and_eq_true, List.all_eq_true, clauseOk, codeOk] at h
 obtain ⟨⟨⟨⟨_, hr⟩, hp⟩, hl⟩, ⟨⟨_, hc⟩, hk⟩, _⟩ := h
 have e : (typedL m).all (useP g) = (typedL m).all (usedR g) := by
  rw [Bool.eq_iff_iff, List.all_eq_true, List.all_eq_true]
  have : ∀ t ∈ typedL m, useP g t = usedR g t := by
   intro t ht
   have key : plainT t = true ∧ ownT t g.types.length = true := by
    simp only [typedL, codeT, catchT, List.mem_append, List.mem_singleton, List.mem_map, List.mem_filter] at ht
    rcases ht with (((ht | ht) | rfl) | ⟨x, ⟨hx, ho⟩, rfl⟩) | ⟨c, ⟨hx, ho⟩, rfl⟩
    ·exact may_plain (hp t ht)
    ·exact may_plain (hl t ht)
    ·exact may_plain hr
    ·have h1 := hc x hx
     rw [beq_iff_eq] at ho
     obtain ⟨hf, h2⟩ := h1
     rw [ho] at h2
     refine ⟨?_, by simpa using h2⟩
     rw [beq_iff_eq, fits06] at hf
     cases hpx : plainT x.t
     ·have hw : whereT x.t 1 = false := by rw [whereT, hpx]; rfl
      split at hf
      ·omega
      ·split at hf
       ·omega
       ·split at hf
        ·omega
        ·rw [if_pos ⟨ho, hw⟩] at hf; omega
     ·rfl
    ·have h1 := hk c hx
     rw [beq_iff_eq] at ho
     rw [ho] at h1
     simp at h1
     exact may_plain h1
   exact useP_eq key.1 key.2
  constructor
  ·intro h t ht; rw [← this t ht]; exact h t ht
  ·intro h t ht; rw [this t ht]; exact h t ht
 rw [e, typedL, List.all_append, List.all_append, List.all_append, List.all_append, codeT, catchT, filt_all, filt_all, typedR]
 have e1 : (m.code.all fun x => !(operand06 x.op == 8) || usedR g x.t) = m.code.all fun x => operand06 x.op != 8 || usedR g x.t := rfl
 have e2 : (m.clauses.all fun c => !(c.kind == 1) || usedR g c.t) = m.clauses.all fun c => c.kind != 1 || usedR g c.t := rfl
 rw [e1, e2]
 simp only [List.all_cons, List.all_nil, Bool.and_true]
 cases usedR g m.ret <;> simp [Bool.and_assoc]
def flg13 (k : Int) (b1 b2 b4 b8 b16 rv f16 : Bool) (nc : Nat) (bd : Bool) (ms : Nat) (ab : Bool) : Bool :=
 !(b16 && (k != 0 || !rv || !f16)) && !(b2 && (b1 || k == 1)) && !(!b2 && (b4 || b8)) && !(b4 && (0 < nc || bd)) && !(!b4 && (nc == 0 || decide (2 ≤ k))) && !(k == 3 && ms != 1) && (!b4 || decide (2 ≤ k) || ab)
end Go.Cg
namespace Go.Cg
open Go.Proofs
set_option maxHeartbeats 1000000 in
theorem fineS_call (g : Img) (hx : OkA g) : ACall Tryz.prog 132 [imgPV g] (pb (fineR g)) := by
 refine acall_intro tbOK Tryz.func132 rfl (by kernel_rfl) Tryz.ntmps132 (by simp) _ rfl (fun hw gB hgB => ?_)
 repeat' (first | (refine shC ?_; first | refine qC (CheckL_call g hx) ?_) | refine sA ?_ | refine sC (fun _ => ?_) (fun _ => ?_) | fail)
 exact retq rfl rfl
def tableA (g : Img) (t : Int) : List Int := if fineR g && kindG g t == 0 then tbl g t else []
def ownM (g : Img) (m : Int) : Int := (mAt g m).owner
def slotT (g : Img) (m : Int) : Int := if virt g m && kindG g (ownM g m) == 0 then idx (tbl g (ownM g m)) m else -1
theorem has2 {g : Img} (hF : Fine g) {m : Int} (hm : mOk g m) : ACall Tryz.prog 178 [mePV (mAt g m), pi 2] (pb (virt g m)) := by
 have h := mOk_flags hF.formed hm
 have c := has_call (mAt g m) 2
 rwa [(flags_eq h.1 h.2).2.1] at c
set_option maxHeartbeats 1000000 in
theorem slotP_call (g : Img) (hF : Fine g) (m : Int) (hm : mOk g m) : ACall Tryz.prog 276 [imgPV g, pi m] (pi (slotT g m)) := by
 have hem := mAt_get hm
 have c1 := has2 hF hm
 have c2 := KindPG_call g hF.formed (mAt g m).owner
 have c3 := ofS_call g hF (mAt g m).owner
 have c4 := Index_call (tbl g (mAt g m).owner) m
 refine acall_intro tbOK Tryz.func276 rfl (by kernel_rfl) Tryz.ntmps276 (by simp) _ rfl (fun hw gB hgB => ?_)
 cases hv : virt g m
 ·rw [hv] at c1
  repeat' (first | (refine shC ?_; first | refine qC c1 ?_) | (refine shX ?_; first | refine ao_q rfl (q_index tbOK rfl rfl rfl rfl rfl rfl hm.1 hem) rfl rfl ?_ | refine AD.step _ _ _ _ _ rfl (q_index tbOK rfl rfl rfl rfl rfl rfl hm.1 hem) rfl rfl ?_) | refine sK ?_ | refine sC (fun _ => ?_) (fun _ => ?_) | fail)
  exact retq rfl (by simp [retPV, slotT, hv])
 ·rw [hv] at c1
  by_cases hk : kindG g (mAt g m).owner = 0
  ·rw [hk] at c2
   repeat' (first | (refine shC ?_; first | refine qC c1 ?_ | refine qC c2 ?_ | refine qC c3 ?_ | refine qC c4 ?_) | (refine shX ?_; first | refine ao_q rfl (q_index tbOK rfl rfl rfl rfl rfl rfl hm.1 hem) rfl rfl ?_ | refine AD.step _ _ _ _ _ rfl (q_index tbOK rfl rfl rfl rfl rfl rfl hm.1 hem) rfl rfl ?_) | refine sK ?_ | refine sC (fun _ => ?_) (fun _ => ?_) | fail)
   exact retq rfl (by simp [retPV, slotT, hv, ownM, hk])
  ·have hkb : (kindG g (mAt g m).owner != 0) = true := by simp [hk]
   repeat' (first | (refine shC ?_; first | refine qC c1 ?_ | refine qC c2 ?_) | (refine shX ?_; first | refine ao_q rfl (q_index tbOK rfl rfl rfl rfl rfl rfl hm.1 hem) rfl rfl ?_ | refine AD.step _ _ _ _ _ rfl (q_index tbOK rfl rfl rfl rfl rfl rfl hm.1 hem) rfl rfl ?_) | refine sK ?_ | refine sC (fun _ => ?_) (fun _ => ?_) | fail)
   exact retq rfl (by simp [retPV, slotT, hv, ownM, hk])
def slotA (g : Img) (m : Int) : Int := if fineR g && decide (0 ≤ m) && decide (m < g.methods.length) then slotT g m else -1
set_option maxHeartbeats 1000000 in
theorem SlotR_call (g : Img) (hF : Fine g) (m : Int) (hm : mOk g m) : ACall Tryz.prog 243 [imgPV g, pi m] (pi (slotT g m)) := by
 have hem := mAt_get hm
 have c1 := Bit2_call (mAt g m)
 rw [show bitF (mAt g m).flags 2 = virt g m from rfl] at c1
 have c2 := KindR_call g (mAt g m).owner
 have c3 := Table_call g hF _ (mAt g m).owner (Nat.le_refl _)
 refine acall_intro tbOK Tryz.func243 rfl (by kernel_rfl) Tryz.ntmps243 (by simp) _ rfl (fun hw gB hgB => ?_)
 cases hv : virt g m
 ·rw [hv] at c1
  repeat' (first | (refine shC ?_; first | refine qC c1 ?_) | (refine shX ?_; first | refine ao_q rfl (q_index tbOK rfl rfl rfl rfl rfl rfl hm.1 hem) rfl rfl ?_ | refine AD.step _ _ _ _ _ rfl (q_index tbOK rfl rfl rfl rfl rfl rfl hm.1 hem) rfl rfl ?_) | refine sK ?_ | refine sC (fun _ => ?_) (fun _ => ?_) | fail)
  exact retq rfl (by simp [retPV, slotT, hv])
 ·rw [hv] at c1
  by_cases hk : kindG g (mAt g m).owner = 0
  ·rw [hk] at c2
   obtain ⟨l, hl⟩ : ∃ l, l = tbl g (mAt g m).owner := ⟨_, rfl⟩
   have hs : slotT g m = idx l m := by rw [slotT, hv, ownM, hk, hl]; rfl
   have hll := tbl_len hF (mAt g m).owner
   rw [← hl] at c3 hll
   repeat' (first | (refine shC ?_; first | refine qC c1 ?_ | refine qC c2 ?_ | refine qC c3 ?_) | (refine shX ?_; first | refine ao_q rfl (q_index tbOK rfl rfl rfl rfl rfl rfl hm.1 hem) rfl rfl ?_ | refine AD.step _ _ _ _ _ rfl (q_index tbOK rfl rfl rfl rfl rfl rfl hm.1 hem) rfl rfl ?_) | refine sK ?_ | refine sC (fun _ => ?_) (fun _ => ?_) | fail)
   refine aw_loop (fun k : Nat => [(1, .pv (pi m)), (6, .pv (ints l)), (7, .pv (pi k))]) (fun _ => []) (fun k => k ≤ l.length ∧ ∀ j (h : j < k) (h2 : j < l.length), l[j] ≠ m) (fun k => l.length - k) 0 ⟨by omega, fun j h => by omega⟩ (tS) tH ?_
   rintro k ⟨hk2, hno⟩
   by_cases hlt : k < l.length
   ·have he : (l.map pi)[k]? = some (pi l[k]) := map_get (f := pi) hlt
    by_cases hx : l[k] = m
    ·have hxb : (l[k] == m) = true := by simp [hx]
     have hi : l.findIdx (· == m) = k := by
      rw [List.findIdx_eq hlt]
      exact ⟨hxb, fun j hj => by have := hno j hj (by omega); simpa using this⟩
     repeat' (first | (refine shX ?_; first | refine qX he ?_) | refine sK ?_ | refine sC (fun _ => ?_) (fun _ => ?_) | fail)
     exact retq rfl (by rw [hs, idx, if_pos (by rw [← hx]; exact List.getElem_mem hlt), hi]; rfl)
    ·have hxb : (l[k] == m) = false := by simp [hx]
     repeat' (first | (refine shX ?_; first | refine qX he ?_) | refine sK ?_ | refine sC (fun _ => ?_) (fun _ => ?_) | fail)
     exact ⟨k + 1, ⟨hlt, fun j hj h2 => by
      by_cases e : j = k
      ·subst e; exact hx
      ·exact hno j (by omega) h2⟩, tD, tS, tH⟩
   ·repeat' (first | refine sK ?_ | refine sC (fun _ => ?_) (fun _ => ?_) | fail)
    exact retq rfl (by
     rw [hs, idx, if_neg]
     ·rfl
     ·intro h
      obtain ⟨j, hj, e⟩ := List.getElem_of_mem h
      exact hno j (by omega) hj e)
  ·have hkb : (kindG g (mAt g m).owner != 0) = true := by simp [hk]
   repeat' (first | (refine shC ?_; first | refine qC c1 ?_ | refine qC c2 ?_) | (refine shX ?_; first | refine ao_q rfl (q_index tbOK rfl rfl rfl rfl rfl rfl hm.1 hem) rfl rfl ?_ | refine AD.step _ _ _ _ _ rfl (q_index tbOK rfl rfl rfl rfl rfl rfl hm.1 hem) rfl rfl ?_) | refine sK ?_ | refine sC (fun _ => ?_) (fun _ => ?_) | fail)
   exact retq rfl (by simp [retPV, slotT, hv, ownM, hk])
end Go.Cg
namespace Go.Cg
open Go.Proofs
theorem ext_kind0 {g : Img} (hW : Wl g) {t : Int} {td : TD} (h : typeAt g t = some td) (he : 0 ≤ td.ext) : kindG g t = 0 ∧ kindG g td.ext = 0 := by
 refine ⟨?_, (hW.extk h).resolve_left (by omega)⟩
 have hfl := hW.flag t td h
 rw [kindG, h]
 simp only
 have hne : (td.ext == -1) = false := by simp; omega
 have hr : kindR td.flags = 2 ∨ kindR td.flags = 1 ∨ kindR td.flags = 3 ∨ kindR td.flags = 0 := by
  unfold kindR
  cases bitF td.flags 2 <;> cases bitF td.flags 1 <;> cases bitF td.flags 16 <;> simp
 rw [flaggedR, hne] at hfl
 rcases hr with h1 | h1 | h1 | h1
 ·rw [h1] at hfl; simp at hfl
 ·rw [h1] at hfl; simp at hfl
 ·rw [h1] at hfl; simp at hfl
 ·exact h1
theorem objT_cons {g : Img} (hW : Wl g) {t : Int} {td : TD} (h : typeAt g t = some td) : objT g t = objT g td.ext ++ fcs g (ownF g t) := by
 rw [objT, hW.up_cons h, List.reverse_cons, List.flatMap_append]
 simp [objT]
end Go.Cg
namespace Go.Cg
open Go.Proofs
def baseT (g : Img) (u : Int) : Nat := 1 + (objT g (extAt g u)).length
def cntO (g : Img) (u : Int) (i : Nat) : Nat := (fcs g ((g.fields.take i).filter (ownP u))).length
theorem cntO_all (g : Img) (u : Int) : cntO g u g.fields.length = (fcs g (ownF g u)).length := by rw [cntO, List.take_length]; rfl
theorem cntO_yes {g : Img} {u : Int} {i : Nat} (h : i < g.fields.length) (hp : ownP u g.fields[i] = true) : cntO g u (i + 1) = cntO g u i + (cellsT g g.fields[i].ty).length := by
 rw [cntO, List.take_succ_eq_append_getElem h, List.filter_append, fcs_len_append, cntO]
 simp [hp, fcs]
theorem cntO_no {g : Img} {u : Int} {i : Nat} (h : i < g.fields.length) (hp : ownP u g.fields[i] = false) : cntO g u (i + 1) = cntO g u i := by
 rw [cntO, List.take_succ_eq_append_getElem h, List.filter_append, fcs_len_append, cntO]
 simp [hp, fcs]
theorem cntO_le (g : Img) (u : Int) (i : Nat) : cntO g u i ≤ (fcs g (ownF g u)).length := by
 have : ownF g u = (g.fields.take i).filter (ownP u) ++ (g.fields.drop i).filter (ownP u) := by
  rw [← List.filter_append, List.take_append_drop]; rfl
 rw [this, fcs_len_append, cntO]; omega
theorem tile_cover {g : Img} (hW : Wl g) : ∀ (l : List Int) (t : Int), up g t = l → ∀ p, 1 ≤ p → p < 1 + (objT g t).length → ∃ u ∈ l, baseT g u ≤ p ∧ p < baseT g u + (fcs g (ownF g u)).length
 | [], t, h, p, h1, h2 => by
  cases ht : typeAt g t with
  | none => rw [objT_none ht] at h2; simp at h2; omega
  | some td => rw [hW.up_cons ht] at h; cases h
 | x :: l, t, h, p, h1, h2 => by
  cases ht : typeAt g t with
  | none => rw [up_nil ht] at h; cases h
  | some td =>
   rw [hW.up_cons ht] at h
   injection h with e1 e2
   subst e1
   rw [objT_cons hW ht, List.length_append] at h2
   by_cases hp : p < 1 + (objT g td.ext).length
   ·obtain ⟨u, hu, hh⟩ := tile_cover hW l td.ext e2 p h1 hp
    exact ⟨u, List.mem_cons_of_mem _ hu, hh⟩
   ·refine ⟨t, by simp, ?_⟩
    rw [baseT, extAt_some ht]; omega
theorem tile_below {g : Img} (hW : Wl g) : ∀ (l : List Int) (t : Int), up g t = l → ∀ u ∈ l, baseT g u + (fcs g (ownF g u)).length ≤ 1 + (objT g t).length
 | [], t, h, u, hu => by cases hu
 | x :: l, t, h, u, hu => by
  cases ht : typeAt g t with
  | none => rw [up_nil ht] at h; cases h
  | some td =>
   rw [hW.up_cons ht] at h
   injection h with e1 e2
   subst e1
   rw [objT_cons hW ht, List.length_append]
   rcases List.mem_cons.1 hu with rfl | hu
   ·rw [baseT, extAt_some ht]; omega
   ·have := tile_below hW l td.ext e2 u hu; omega
theorem tile_one {g : Img} (hW : Wl g) : ∀ (l : List Int) (t : Int), up g t = l → ∀ u ∈ l, ∀ u' ∈ l, ∀ p, baseT g u ≤ p → p < baseT g u + (fcs g (ownF g u)).length → baseT g u' ≤ p → p < baseT g u' + (fcs g (ownF g u')).length → u = u'
 | [], t, h, u, hu => by cases hu
 | x :: l, t, h, u, hu => by
  cases ht : typeAt g t with
  | none => rw [up_nil ht] at h; cases h
  | some td =>
   rw [hW.up_cons ht] at h
   injection h with e1 e2
   subst e1
   have hb : baseT g t = 1 + (objT g td.ext).length := by rw [baseT, extAt_some ht]
   intro u' hu' p h1 h2 h3 h4
   rcases List.mem_cons.1 hu with q1 | q1 <;> rcases List.mem_cons.1 hu' with q2 | q2
   ·rw [q1, q2]
   ·subst q1; have := tile_below hW l td.ext e2 u' q2; omega
   ·subst q2; have := tile_below hW l td.ext e2 u q1; omega
   ·exact tile_one hW l td.ext e2 u q1 u' q2 p h1 h2 h3 h4
theorem up_kind0 {g : Img} (hW : Wl g) : ∀ (l : List Int) (t : Int), up g t = l → kindG g t = 0 → ∀ u ∈ l, kindG g u = 0
 | [], t, h, hk, u, hu => by cases hu
 | x :: l, t, h, hk, u, hu => by
  cases ht : typeAt g t with
  | none => rw [up_nil ht] at h; cases h
  | some td =>
   rw [hW.up_cons ht] at h
   injection h with e1 e2
   subst e1
   rcases List.mem_cons.1 hu with rfl | hu
   ·exact hk
   ·have h0 : 0 ≤ td.ext := by
     cases hte : typeAt g td.ext with
     | none => rw [up_nil hte] at e2; subst e2; cases hu
     | some td2 => exact (typeAt_lt hte).1
    exact up_kind0 hW l td.ext e2 (ext_kind0 hW ht h0).2 u hu
def metV (g : Img) (t : Int) (c : Int → Nat) (p : Nat) : Int :=
 if (p == 0 || (kindG g t == 0 && (up g t).any fun u => decide (baseT g u ≤ p) && decide (p < baseT g u + c u))) then 1 else 0
def cK (g : Img) (i k : Nat) (u : Int) : Nat := cntO g u i + (if ownP u (g.fields.getD i default) then k else 0)
theorem metV_congr {g : Img} {t : Int} {c c' : Int → Nat} (h : kindG g t = 0 → ∀ u ∈ up g t, c u = c' u) (p : Nat) : metV g t c p = metV g t c' p := by
 unfold metV
 by_cases hk : kindG g t = 0
 ·have : ((up g t).any fun u => decide (baseT g u ≤ p) && decide (p < baseT g u + c u)) = ((up g t).any fun u => decide (baseT g u ≤ p) && decide (p < baseT g u + c' u)) := by
   have key : ∀ l : List Int, (∀ u ∈ l, c u = c' u) → (l.any fun u => decide (baseT g u ≤ p) && decide (p < baseT g u + c u)) = (l.any fun u => decide (baseT g u ≤ p) && decide (p < baseT g u + c' u)) := by
    intro l
    induction l with
    | nil => intro _; rfl
    | cons x l ih => intro h; rw [List.any_cons, List.any_cons, ih (fun u hu => h u (by simp [hu])), h x (by simp)]
   exact key _ (h hk)
  rw [this]
 ·have : (kindG g t == 0) = false := by simp [hk]
  rw [this]; rfl
theorem metV_step {g : Img} (hW : Wl g) {t : Int} (hk0 : kindG g t = 0) {i k : Nat} (hi : i < g.fields.length) (hu : g.fields[i].owner ∈ up g t) (hs : g.fields[i].static = false) (hk : k < (cellsT g g.fields[i].ty).length) :
  baseT g g.fields[i].owner + cntO g g.fields[i].owner i + k < 1 + (objT g t).length ∧
  metV g t (cK g i k) (baseT g g.fields[i].owner + cntO g g.fields[i].owner i + k) = 0 ∧
  ∀ p, metV g t (cK g i (k + 1)) p = if p = baseT g g.fields[i].owner + cntO g g.fields[i].owner i + k then 1 else metV g t (cK g i k) p := by
 obtain ⟨u0, e0⟩ : ∃ u, u = g.fields[i].owner := ⟨_, rfl⟩
 rw [← e0] at hu ⊢
 have hp0 : ownP u0 g.fields[i] = true := by simp [ownP, e0, hs]
 have hpn : ∀ u, u ≠ u0 → ownP u g.fields[i] = false := fun u hne => by simp [ownP, ← e0, Ne.symm hne]
 have hgd : g.fields.getD i default = g.fields[i] := getD_get hi
 have hc1 := cntO_yes hi hp0
 have hc2 := cntO_le g u0 (i + 1)
 have hbe := tile_below hW _ t rfl u0 hu
 have hcu0 : ∀ k, cK g i k u0 = cntO g u0 i + k := fun k => by rw [cK, hgd, hp0]; rfl
 have hcu : ∀ u k, u ≠ u0 → cK g i k u = cntO g u i := fun u k hne => by rw [cK, hgd, hpn u hne]; rfl
 refine ⟨by omega, ?_, fun p => ?_⟩
 ·unfold metV
  rw [if_neg]
  simp only [Bool.or_eq_true, beq_iff_eq, Bool.and_eq_true, List.any_eq_true, decide_eq_true_eq, not_or, not_and, not_exists]
  refine ⟨by rw [baseT]; omega, fun _ u hu' h1 h2 => ?_⟩
  by_cases hne : u = u0
  ·subst hne; rw [hcu0] at h2; omega
  ·rw [hcu u k hne] at h2
   have h3 := cntO_le g u i
   exact hne (tile_one hW _ t rfl u hu' u0 hu _ h1 (by omega) (by omega) (by omega))
 ·unfold metV
  by_cases hp : p = baseT g u0 + cntO g u0 i + k
  ·rw [if_pos hp, if_pos]
   simp only [Bool.or_eq_true, beq_iff_eq, Bool.and_eq_true, List.any_eq_true, decide_eq_true_eq]
   exact .inr ⟨hk0, u0, hu, by omega, by rw [hcu0]; omega⟩
  ·rw [if_neg hp]
   have : ((up g t).any fun u => decide (baseT g u ≤ p) && decide (p < baseT g u + cK g i (k + 1) u)) = ((up g t).any fun u => decide (baseT g u ≤ p) && decide (p < baseT g u + cK g i k u)) := by
    rw [Bool.eq_iff_iff]
    simp only [List.any_eq_true, Bool.and_eq_true, decide_eq_true_eq]
    constructor
    ·rintro ⟨u, h1, h2, h3⟩
     refine ⟨u, h1, h2, ?_⟩
     by_cases hne : u = u0
     ·subst hne; rw [hcu0] at h3 ⊢; omega
     ·rw [hcu u _ hne] at h3 ⊢; exact h3
    ·rintro ⟨u, h1, h2, h3⟩
     refine ⟨u, h1, h2, ?_⟩
     by_cases hne : u = u0
     ·subst hne; rw [hcu0] at h3 ⊢; omega
     ·rw [hcu u _ hne] at h3 ⊢; exact h3
   rw [this]
theorem metV_skip {g : Img} {t : Int} {i : Nat} (hi : i < g.fields.length) (h : ¬ (kindG g t = 0 ∧ g.fields[i].owner ∈ up g t ∧ g.fields[i].static = false)) (k k' p : Nat) : metV g t (cK g i k) p = metV g t (cK g i k') p := by
 refine metV_congr (fun hk u hu => ?_) p
 have : ownP u g.fields[i] = false := by
  cases hp : ownP u g.fields[i]
  ·rfl
  ·simp only [ownP, Bool.and_eq_true, beq_iff_eq, Bool.not_eq_true'] at hp
   exact absurd ⟨hk, by rw [hp.1]; exact hu, hp.2⟩ h
 rw [cK, cK, getD_get hi, this]; rfl
theorem metV_next {g : Img} {t : Int} {i : Nat} (hi : i < g.fields.length) (p : Nat) : metV g t (cK g i (cellsT g g.fields[i].ty).length) p = metV g t (cK g (i + 1) 0) p := by
 refine metV_congr (fun hk u hu => ?_) p
 have e : cK g (i + 1) 0 u = cntO g u (i + 1) := by rw [cK]; split <;> rfl
 rw [e, cK, getD_get hi]
 cases hp : ownP u g.fields[i]
 ·rw [cntO_no hi hp]; rfl
 ·rw [cntO_yes hi hp]; rfl
theorem metV_first {g : Img} {t : Int} (p : Nat) : metV g t (cK g 0 0) p = if p = 0 then 1 else 0 := by
 have e : ∀ u, cK g 0 0 u = 0 := fun u => by rw [cK]; simp [cntO, fcs]
 unfold metV
 by_cases hp : p = 0
 ·simp [hp]
 ·have : ((up g t).any fun u => decide (baseT g u ≤ p) && decide (p < baseT g u + cK g 0 0 u)) = false := by
   rw [List.any_eq_false]
   intro u hu
   rw [e]; simp only [Bool.and_eq_true, decide_eq_true_eq]; omega
  rw [this]; simp [hp]
theorem metV_last {g : Img} (hW : Wl g) {t : Int} (hk : kindG g t = 0) {p : Nat} (hp : p < 1 + (objT g t).length) : metV g t (cK g g.fields.length 0) p = 1 := by
 unfold metV
 rw [if_pos]
 simp only [Bool.or_eq_true, beq_iff_eq, Bool.and_eq_true, List.any_eq_true, decide_eq_true_eq]
 by_cases h0 : p = 0
 ·exact .inl h0
 ·obtain ⟨u, hu, h1, h2⟩ := tile_cover hW _ t rfl p (by omega) hp
  refine .inr ⟨hk, u, hu, h1, ?_⟩
  have : cK g g.fields.length 0 u = (fcs g (ownF g u)).length := by rw [← cntO_all, cK]; split <;> rfl
  rw [this]; exact h2
def stlN (g : Img) (i k : Nat) : Nat := (statT g i).length + (if (g.fields.getD i default).static then k else 0)
def stlV (g : Img) (i k p : Nat) : Int := if p < stlN g i k then 1 else 0
theorem stlN_next {g : Img} {i : Nat} (hi : i < g.fields.length) : stlN g i (cellsT g g.fields[i].ty).length = stlN g (i + 1) 0 := by
 have e : stlN g (i + 1) 0 = (statT g (i + 1)).length := by rw [stlN]; split <;> rfl
 rw [e, stlN, getD_get hi, statT, statT, List.take_succ_eq_append_getElem hi, List.filter_append, fcs_len_append]
 cases hs : g.fields[i].static <;> simp [hs, fcs]
theorem statT_mono (g : Img) (i : Nat) : (statT g i).length ≤ (statT g g.fields.length).length := by
 have : g.fields.filter (·.static) = (g.fields.take i).filter (·.static) ++ (g.fields.drop i).filter (·.static) := by
  rw [← List.filter_append, List.take_append_drop]
 rw [statT, statT, List.take_length, this, fcs_len_append]; omega
end Go.Cg
namespace Go.Cg
open Go.Proofs
def done0 (g : Img) (t m : Int) : Int := if slotT g m < 0 then m else (tbl g t).getD (slotT g m).toNat 0
def does (g : Img) (m k : Int) : Bool := virt g k && alk g k m
def faceK (g : Img) (t m : Int) : Option Int := ((up g t).flatMap (methodsOf g)).find? (does g m)
def faceT (g : Img) (t m : Int) : Int := match faceK g t m with | some k => done0 g t k | none => -1
def doneT (g : Img) (t m : Int) : Int := if kindG g (ownM g m) == 2 && virt g m then faceT g t m else done0 g t m
theorem tbl_mono {g : Img} (hW : Wl g) : ∀ (l : List Int) (t b : Int), up g t = l → b ∈ l → (tbl g b).length ≤ (tbl g t).length
 | [], t, b, h, hb => by cases hb
 | x :: l, t, b, h, hb => by
  cases ht : typeAt g t with
  | none => rw [up_nil ht] at h; cases h
  | some td =>
   rw [hW.up_cons ht] at h
   simp only [List.cons.injEq] at h
   obtain ⟨rfl, h⟩ := h
   rcases List.mem_cons.1 hb with rfl | hb
   ·exact Nat.le_refl _
   ·have h1 := tbl_mono hW l td.ext b h hb
    have h2 := (tblFold_len g (methodsOf g t) (tbl g td.ext)).1
    rw [tbl_cons hW ht]; omega
theorem idx_range {l : List Int} {v : Int} : idx l v = -1 ∨ (0 ≤ idx l v ∧ (idx l v).toNat < l.length) := by
 rw [idx]
 split
 ·rename_i h
  right
  have := List.findIdx_lt_length_of_exists (p := (· == v)) ⟨v, h, by simp⟩
  omega
 ·exact .inl rfl
theorem slot_in {g : Img} (hW : Wl g) {t m : Int} (hb : kindG g (ownM g m) = 0 → ownM g m ∈ up g t) (h : ¬ slotT g m < 0) : (slotT g m).toNat < (tbl g t).length := by
 rw [slotT] at h ⊢
 split at h
 ·rename_i hh
  rw [if_pos hh]
  simp only [Bool.and_eq_true, beq_iff_eq] at hh
  have h1 := tbl_mono hW _ t _ rfl (hb hh.2)
  rcases idx_range (l := tbl g (ownM g m)) (v := m) with h2 | h2
  ·omega
  ·omega
 ·omega
theorem methodsOf_own {g : Img} {u k : Int} (h : k ∈ methodsOf g u) : ownM g k = u := by
 simp only [methodsOf, List.mem_filter, Bool.and_eq_true, beq_iff_eq] at h
 exact h.2.2
set_option maxHeartbeats 1000000 in
theorem done0_call (g : Img) (hF : Fine g) (t m : Int) (hm : mOk g m) (hn : (kindG g (ownM g m) == 2 && virt g m) = false) (hb : kindG g (ownM g m) = 0 → ownM g m ∈ up g t) : ACall Tryz.prog 240 [imgPV g, pi t, pi m] (pi (done0 g t m)) := by
 have hW := well_wl hF.well
 have hem := mAt_get hm
 have c1 := KindPG_call g hF.formed (mAt g m).owner
 have c2 := has2 hF hm
 have c3 := slotP_call g hF m hm
 have c4 := ofS_call g hF t
 have hsi := slot_in hW hb
 rw [ownM] at hn
 refine acall_intro tbOK Tryz.func240 rfl (by kernel_rfl) Tryz.ntmps240 (by simp) _ rfl (fun hw gB hgB => ?_)
 by_cases hk : kindG g (mAt g m).owner = 2
 ·rw [hk] at c1 hn
  have hv : virt g m = false := by simpa using hn
  rw [hv] at c2
  by_cases hs : slotT g m < 0
  ·repeat' (first | (refine shC ?_; first | refine qC c1 ?_ | refine qC c2 ?_ | refine qC c3 ?_) | (refine shX ?_; first | refine ao_q rfl (q_index tbOK rfl rfl rfl rfl rfl rfl hm.1 hem) rfl rfl ?_ | refine AD.step _ _ _ _ _ rfl (q_index tbOK rfl rfl rfl rfl rfl rfl hm.1 hem) rfl rfl ?_) | refine sK ?_ | refine sC (fun _ => ?_) (fun _ => ?_) | fail)
   exact retq rfl (by simp [retPV, done0, hs])
  ·have he : ((tbl g t).map pi)[(slotT g m).toNat]? = some (pi ((tbl g t).getD (slotT g m).toNat 0)) := by rw [getD_get (hsi hs)]; exact map_get' (hsi hs)
   have hd : decide (slotT g m < 0) = false := decide_eq_false hs
   repeat' (first | (refine shC ?_; first | refine qC c1 ?_ | refine qC c2 ?_ | refine qC c3 ?_ | refine qC c4 ?_) | (refine shX ?_; first | refine ao_q rfl (q_index tbOK rfl rfl rfl rfl rfl rfl hm.1 hem) rfl rfl ?_ | refine AD.step _ _ _ _ _ rfl (q_index tbOK rfl rfl rfl rfl rfl rfl hm.1 hem) rfl rfl ?_ | refine qX he ?_) | refine sK ?_ | refine sC (fun _ => ?_) (fun _ => ?_) | fail)
   exact retq rfl (by rw [done0, if_neg hs]; rfl)
 ·have hkb : (kindG g (mAt g m).owner == 2) = false := by simp [hk]
  by_cases hs : slotT g m < 0
  ·repeat' (first | (refine shC ?_; first | refine qC c1 ?_ | refine qC c2 ?_ | refine qC c3 ?_) | (refine shX ?_; first | refine ao_q rfl (q_index tbOK rfl rfl rfl rfl rfl rfl hm.1 hem) rfl rfl ?_ | refine AD.step _ _ _ _ _ rfl (q_index tbOK rfl rfl rfl rfl rfl rfl hm.1 hem) rfl rfl ?_) | refine sK ?_ | refine sC (fun _ => ?_) (fun _ => ?_) | fail)
   exact retq rfl (by simp [retPV, done0, hs])
  ·have he : ((tbl g t).map pi)[(slotT g m).toNat]? = some (pi ((tbl g t).getD (slotT g m).toNat 0)) := by rw [getD_get (hsi hs)]; exact map_get' (hsi hs)
   have hd : decide (slotT g m < 0) = false := decide_eq_false hs
   repeat' (first | (refine shC ?_; first | refine qC c1 ?_ | refine qC c2 ?_ | refine qC c3 ?_ | refine qC c4 ?_) | (refine shX ?_; first | refine ao_q rfl (q_index tbOK rfl rfl rfl rfl rfl rfl hm.1 hem) rfl rfl ?_ | refine AD.step _ _ _ _ _ rfl (q_index tbOK rfl rfl rfl rfl rfl rfl hm.1 hem) rfl rfl ?_ | refine qX he ?_) | refine sK ?_ | refine sC (fun _ => ?_) (fun _ => ?_) | fail)
   exact retq rfl (by rw [done0, if_neg hs]; rfl)
theorem drop_flat {α : Type} {l : List α} {f : α → List Int} {i : Nat} (h : i < l.length) : (l.drop i).flatMap f = f l[i] ++ (l.drop (i + 1)).flatMap f := by
 rw [List.drop_eq_getElem_cons h, List.flatMap_cons]
theorem up0 {g : Img} (hW : Wl g) {t u k : Int} (hk : kindG g t = 0) (hu : u ∈ up g t) (h : k ∈ methodsOf g u) : mOk g k ∧ (kindG g (ownM g k) == 2 && virt g k) = false ∧ (kindG g (ownM g k) = 0 → ownM g k ∈ up g t) := by
 have h1 := up_kind0 hW _ t rfl hk _ hu
 refine ⟨methodsOf_mem h, ?_, fun _ => by rw [methodsOf_own h]; exact hu⟩
 rw [methodsOf_own h, h1]; rfl
set_option maxHeartbeats 2000000 in
theorem face_call (g : Img) (hF : Fine g) (t m : Int) (hm : mOk g m) (hk : kindG g t = 0) : ACall Tryz.prog 188 [imgPV g, pi t, pi m] (pi (faceT g t m)) := by
 have hW := well_wl hF.well
 obtain ⟨hgt, _, hgm, _⟩ := formedG_bounds hF.formed
 have hem := mAt_get hm
 have hui := up_inv g t
 have hul := nodup_le _ _ hui.1 hui.2
 refine acall_intro tbOK Tryz.func188 rfl (by kernel_rfl) Tryz.ntmps188 (by simp) _ rfl (fun hw gB hgB => ?_)
 repeat' (first | (refine shC ?_; first | refine ao_q rfl (q_call rfl rfl (UpP_call g t (by omega))) rfl rfl ?_ | refine AD.step _ _ _ _ _ rfl (q_call rfl rfl (UpP_call g t (by omega))) rfl rfl ?_) | refine sA ?_ | refine sC (fun _ => ?_) (fun _ => ?_) | fail)
 refine aw_loop (fun i : Nat => [(1, .pv (pi t)), (2, .pv (pi m)), (3, .pv (.ptr (imgPV g) 0)), (13, .pv (ints (up g t))), (14, .pv (pi (up g t).length)), (15, .pv (pi i))]) (fun _ => []) (fun i => i ≤ (up g t).length ∧ faceK g t m = (((up g t).drop i).flatMap (methodsOf g)).find? (does g m)) (fun i => (up g t).length - i) 0 ⟨by omega, rfl⟩ (tS) tH ?_
 rintro i ⟨hi, hr⟩
 by_cases hlt : i < (up g t).length
 ·obtain ⟨u, hu⟩ : ∃ u, u = (up g t)[i] := ⟨_, rfl⟩
  have hum : u ∈ up g t := by rw [hu]; exact List.getElem_mem hlt
  have heu : ((up g t).map pi)[i]? = some (pi u) := by rw [hu]; exact map_get (f := pi) hlt
  have c1 := MethodsP_call g u (by omega)
  have hml := methodsOf_len g u
  rw [drop_flat hlt, ← hu] at hr
  repeat' (first | (refine shC ?_; first | refine qC c1 ?_) | (refine shX ?_; first | refine qX heu ?_) | refine sK ?_ | refine sC (fun _ => ?_) (fun _ => ?_) | fail)
  refine aw_loop (fun j : Nat => [(1, .pv (pi t)), (2, .pv (pi m)), (3, .pv (.ptr (imgPV g) 0)), (13, .pv (ints (up g t))), (14, .pv (pi (up g t).length)), (15, .pv (pi i)), (21, .pv (ints (methodsOf g u))), (22, .pv (pi (methodsOf g u).length)), (23, .pv (pi j))]) (fun _ => [])
   (fun j => j ≤ (methodsOf g u).length ∧ faceK g t m = ((methodsOf g u).drop j ++ ((up g t).drop (i + 1)).flatMap (methodsOf g)).find? (does g m)) (fun j => (methodsOf g u).length - j) 0 ⟨by omega, hr⟩ (tS) tH ?_
  clear hr
  rintro j ⟨hj, hr⟩
  by_cases hjl : j < (methodsOf g u).length
  ·obtain ⟨k, hk2⟩ : ∃ k, k = (methodsOf g u)[j] := ⟨_, rfl⟩
   have hkm : k ∈ methodsOf g u := by rw [hk2]; exact List.getElem_mem hjl
   have hek : ((methodsOf g u).map pi)[j]? = some (pi k) := by rw [hk2]; exact map_get (f := pi) hjl
   obtain ⟨q1, q2, q3⟩ := up0 hW hk hum hkm
   have hekm := mAt_get q1
   have c2 := has2 hF q1
   have c3 := AlikeP_call (mAt g k) (mAt g m)
   rw [alkP_eq hF.formed q1 hm] at c3
   rw [List.drop_eq_getElem_cons hjl, ← hk2, List.cons_append, List.find?_cons] at hr
   cases hv : virt g k
   ·rw [hv] at c2
    rw [show does g m k = false by rw [does, hv]; rfl] at hr
    repeat' (first | (refine shC ?_; first | refine qC c2 ?_) | (refine shX ?_; first | refine qX hek ?_ | refine ao_q rfl (q_index tbOK rfl rfl rfl rfl rfl rfl q1.1 hekm) rfl rfl ?_ | refine AD.step _ _ _ _ _ rfl (q_index tbOK rfl rfl rfl rfl rfl rfl q1.1 hekm) rfl rfl ?_) | refine sK ?_ | refine sC (fun _ => ?_) (fun _ => ?_) | fail)
    exact ⟨j + 1, ⟨hjl, hr⟩, tD, tS, tH⟩
   ·rw [hv] at c2
    cases ha : alk g k m
    ·rw [ha] at c3
     rw [show does g m k = false by rw [does, hv, ha]; rfl] at hr
     repeat' (first | (refine shC ?_; first | refine qC c2 ?_ | refine qC c3 ?_) | (refine shX ?_; first | refine qX hek ?_ | refine ao_q rfl (q_index tbOK rfl rfl rfl rfl rfl rfl q1.1 hekm) rfl rfl ?_ | refine AD.step _ _ _ _ _ rfl (q_index tbOK rfl rfl rfl rfl rfl rfl q1.1 hekm) rfl rfl ?_ | refine ao_q rfl (q_index tbOK rfl rfl rfl rfl rfl rfl hm.1 hem) rfl rfl ?_ | refine AD.step _ _ _ _ _ rfl (q_index tbOK rfl rfl rfl rfl rfl rfl hm.1 hem) rfl rfl ?_) | refine sK ?_ | refine sC (fun _ => ?_) (fun _ => ?_) | fail)
     exact ⟨j + 1, ⟨hjl, hr⟩, tD, tS, tH⟩
    ·rw [ha] at c3
     rw [show does g m k = true by rw [does, hv, ha]; rfl] at hr
     repeat' (first | (refine shC ?_; first | refine qC c2 ?_ | refine qC c3 ?_ | refine qC (done0_call g hF t k q1 q2 q3) ?_) | (refine shX ?_; first | refine qX hek ?_ | refine ao_q rfl (q_index tbOK rfl rfl rfl rfl rfl rfl q1.1 hekm) rfl rfl ?_ | refine AD.step _ _ _ _ _ rfl (q_index tbOK rfl rfl rfl rfl rfl rfl q1.1 hekm) rfl rfl ?_ | refine ao_q rfl (q_index tbOK rfl rfl rfl rfl rfl rfl hm.1 hem) rfl rfl ?_ | refine AD.step _ _ _ _ _ rfl (q_index tbOK rfl rfl rfl rfl rfl rfl hm.1 hem) rfl rfl ?_) | refine sK ?_ | refine sC (fun _ => ?_) (fun _ => ?_) | fail)
     exact retq rfl (by rw [faceT, hr]; rfl)
  ·rw [List.drop_eq_nil_of_le (by omega), List.nil_append] at hr
   repeat' (first | refine sK ?_ | refine sC (fun _ => ?_) (fun _ => ?_) | fail)
   exact ⟨i + 1, ⟨hlt, hr⟩, tD, tS, tH⟩
 ·rw [List.drop_eq_nil_of_le (by omega)] at hr
  repeat' (first | refine sK ?_ | refine sC (fun _ => ?_) (fun _ => ?_) | fail)
  exact retq rfl (by rw [faceT, hr]; rfl)
set_option maxHeartbeats 1000000 in
theorem done_call (g : Img) (hF : Fine g) (t m : Int) (hm : mOk g m) (hk : kindG g t = 0) (hb : kindG g (ownM g m) = 0 → ownM g m ∈ up g t) : ACall Tryz.prog 240 [imgPV g, pi t, pi m] (pi (doneT g t m)) := by
 cases hc : (kindG g (ownM g m) == 2 && virt g m)
 ·rw [show doneT g t m = done0 g t m by rw [doneT, hc]; rfl]
  exact done0_call g hF t m hm hc hb
 ·have hem := mAt_get hm
  have c1 := KindPG_call g hF.formed (mAt g m).owner
  have c2 := has2 hF hm
  have c3 := face_call g hF t m hm hk
  rw [show doneT g t m = faceT g t m by rw [doneT, hc]; rfl]
  rw [Bool.and_eq_true, ownM, beq_iff_eq] at hc
  rw [hc.1] at c1
  rw [hc.2] at c2
  refine acall_intro tbOK Tryz.func240 rfl (by kernel_rfl) Tryz.ntmps240 (by simp) _ rfl (fun hw gB hgB => ?_)
  repeat' (first | (refine shC ?_; first | refine qC c1 ?_ | refine qC c2 ?_ | refine qC c3 ?_) | (refine shX ?_; first | refine ao_q rfl (q_index tbOK rfl rfl rfl rfl rfl rfl hm.1 hem) rfl rfl ?_ | refine AD.step _ _ _ _ _ rfl (q_index tbOK rfl rfl rfl rfl rfl rfl hm.1 hem) rfl rfl ?_) | refine sK ?_ | refine sC (fun _ => ?_) (fun _ => ?_) | fail)
  exact retq rfl rfl
end Go.Cg
namespace Go.Cg
open Go.Proofs
set_option maxHeartbeats 1000000 in
theorem doneR0_call (g : Img) (hF : Fine g) (t m : Int) (hm : mOk g m) (hn : (kindG g (ownM g m) == 2 && virt g m) = false) (hb : kindG g (ownM g m) = 0 → ownM g m ∈ up g t) : ACall Tryz.prog 193 [imgPV g, pi t, pi m] (pi (done0 g t m)) := by
 have hW := well_wl hF.well
 have hem := mAt_get hm
 have c1 := KindR_call g (mAt g m).owner
 have c2 := Bit2_call (mAt g m)
 rw [show bitF (mAt g m).flags 2 = virt g m from rfl] at c2
 have c3 := SlotR_call g hF m hm
 have c4 := Table_call g hF _ t (Nat.le_refl _)
 have hsi := slot_in hW hb
 rw [ownM] at hn
 refine acall_intro tbOK Tryz.func193 rfl (by kernel_rfl) Tryz.ntmps193 (by simp) _ rfl (fun hw gB hgB => ?_)
 by_cases hk : kindG g (mAt g m).owner = 2
 ·rw [hk] at c1 hn
  have hv : virt g m = false := by simpa using hn
  rw [hv] at c2
  by_cases hs : slotT g m < 0
  ·repeat' (first | refine aw_draw_box 0 5 6 0 4 tbOK (by kernel_rfl) (by kernel_rfl) rfl rfl rfl rfl rfl rfl rfl rfl rfl rfl rfl rfl rfl rfl rfl rfl rfl rfl rfl rfl rfl rfl ?_ | refine ad_shadow rfl rfl ?_ | refine ⟨_, _, rfl, rfl, ?_⟩ | (refine shC ?_; first | refine qC c1 ?_ | refine qC c2 ?_ | refine qC c3 ?_) | (refine shX ?_; first | refine ao_q rfl (q_index tbOK rfl rfl rfl rfl rfl rfl hm.1 hem) rfl rfl ?_ | refine AD.step _ _ _ _ _ rfl (q_index tbOK rfl rfl rfl rfl rfl rfl hm.1 hem) rfl rfl ?_) | refine sK ?_ | refine sC (fun _ => ?_) (fun _ => ?_) | fail)
   exact retq rfl (by simp [retPV, done0, hs])
  ·have he : ((tbl g t).map pi)[(slotT g m).toNat]? = some (pi ((tbl g t).getD (slotT g m).toNat 0)) := by rw [getD_get (hsi hs)]; exact map_get' (hsi hs)
   have hd : decide (slotT g m < 0) = false := decide_eq_false hs
   repeat' (first | refine aw_draw_box 0 5 6 0 4 tbOK (by kernel_rfl) (by kernel_rfl) rfl rfl rfl rfl rfl rfl rfl rfl rfl rfl rfl rfl rfl rfl rfl rfl rfl rfl rfl rfl rfl rfl ?_ | refine ad_shadow rfl rfl ?_ | refine ⟨_, _, rfl, rfl, ?_⟩ | (refine shC ?_; first | refine qC c1 ?_ | refine qC c2 ?_ | refine qC c3 ?_ | refine qC c4 ?_) | (refine shX ?_; first | refine ao_q rfl (q_index tbOK rfl rfl rfl rfl rfl rfl hm.1 hem) rfl rfl ?_ | refine AD.step _ _ _ _ _ rfl (q_index tbOK rfl rfl rfl rfl rfl rfl hm.1 hem) rfl rfl ?_ | refine qX he ?_) | refine sK ?_ | refine sC (fun _ => ?_) (fun _ => ?_) | fail)
   exact retq rfl (by rw [done0, if_neg hs]; rfl)
 ·have hkb : (kindG g (mAt g m).owner == 2) = false := by simp [hk]
  by_cases hs : slotT g m < 0
  ·repeat' (first | refine aw_draw_box 0 5 6 0 4 tbOK (by kernel_rfl) (by kernel_rfl) rfl rfl rfl rfl rfl rfl rfl rfl rfl rfl rfl rfl rfl rfl rfl rfl rfl rfl rfl rfl rfl rfl ?_ | refine ad_shadow rfl rfl ?_ | refine ⟨_, _, rfl, rfl, ?_⟩ | (refine shC ?_; first | refine qC c1 ?_ | refine qC c2 ?_ | refine qC c3 ?_) | (refine shX ?_; first | refine ao_q rfl (q_index tbOK rfl rfl rfl rfl rfl rfl hm.1 hem) rfl rfl ?_ | refine AD.step _ _ _ _ _ rfl (q_index tbOK rfl rfl rfl rfl rfl rfl hm.1 hem) rfl rfl ?_) | refine sK ?_ | refine sC (fun _ => ?_) (fun _ => ?_) | fail)
   exact retq rfl (by simp [retPV, done0, hs])
  ·have he : ((tbl g t).map pi)[(slotT g m).toNat]? = some (pi ((tbl g t).getD (slotT g m).toNat 0)) := by rw [getD_get (hsi hs)]; exact map_get' (hsi hs)
   have hd : decide (slotT g m < 0) = false := decide_eq_false hs
   repeat' (first | refine aw_draw_box 0 5 6 0 4 tbOK (by kernel_rfl) (by kernel_rfl) rfl rfl rfl rfl rfl rfl rfl rfl rfl rfl rfl rfl rfl rfl rfl rfl rfl rfl rfl rfl rfl rfl ?_ | refine ad_shadow rfl rfl ?_ | refine ⟨_, _, rfl, rfl, ?_⟩ | (refine shC ?_; first | refine qC c1 ?_ | refine qC c2 ?_ | refine qC c3 ?_ | refine qC c4 ?_) | (refine shX ?_; first | refine ao_q rfl (q_index tbOK rfl rfl rfl rfl rfl rfl hm.1 hem) rfl rfl ?_ | refine AD.step _ _ _ _ _ rfl (q_index tbOK rfl rfl rfl rfl rfl rfl hm.1 hem) rfl rfl ?_ | refine qX he ?_) | refine sK ?_ | refine sC (fun _ => ?_) (fun _ => ?_) | fail)
   exact retq rfl (by rw [done0, if_neg hs]; rfl)
set_option maxHeartbeats 2000000 in
theorem DoneR_call (g : Img) (hF : Fine g) (t m : Int) (hm : mOk g m) (hk : kindG g t = 0) (hb : kindG g (ownM g m) = 0 → ownM g m ∈ up g t) : ACall Tryz.prog 193 [imgPV g, pi t, pi m] (pi (doneT g t m)) := by
 cases hc : (kindG g (ownM g m) == 2 && virt g m)
 ·rw [show doneT g t m = done0 g t m by rw [doneT, hc]; rfl]
  exact doneR0_call g hF t m hm hc hb
 ·have hW := well_wl hF.well
  obtain ⟨hgt, _, hgm, _⟩ := formedG_bounds hF.formed
  have hui := up_inv g t
  have hul := nodup_le _ _ hui.1 hui.2
  have hem := mAt_get hm
  have c1 := KindR_call g (mAt g m).owner
  have c2 := Bit2_call (mAt g m)
  rw [show bitF (mAt g m).flags 2 = virt g m from rfl] at c2
  rw [show doneT g t m = faceT g t m by rw [doneT, hc]; rfl]
  rw [Bool.and_eq_true, ownM, beq_iff_eq] at hc
  rw [hc.1] at c1
  rw [hc.2] at c2
  refine acall_intro tbOK Tryz.func193 rfl (by kernel_rfl) Tryz.ntmps193 (by simp) _ rfl (fun hw gB hgB => ?_)
  repeat' (first | refine aw_draw_box 0 5 6 0 4 tbOK (by kernel_rfl) (by kernel_rfl) rfl rfl rfl rfl rfl rfl rfl rfl rfl rfl rfl rfl rfl rfl rfl rfl rfl rfl rfl rfl rfl rfl ?_ | refine ad_shadow rfl rfl ?_ | refine ⟨_, _, rfl, rfl, ?_⟩ | (refine shC ?_; first | refine qC c1 ?_ | refine qC c2 ?_ | refine ao_q rfl (q_call rfl rfl (UpR_call g t (by omega))) rfl rfl ?_ | refine AD.step _ _ _ _ _ rfl (q_call rfl rfl (UpR_call g t (by omega))) rfl rfl ?_) | (refine shX ?_; first | refine ao_q rfl (q_index tbOK rfl rfl rfl rfl rfl rfl hm.1 hem) rfl rfl ?_ | refine AD.step _ _ _ _ _ rfl (q_index tbOK rfl rfl rfl rfl rfl rfl hm.1 hem) rfl rfl ?_) | refine sK ?_ | refine sC (fun _ => ?_) (fun _ => ?_) | fail)
  refine aw_loop (fun i : Nat => [(1, .pv (pi t)), (3, .pv (.ptr (imgPV g) 0)), (7, .box 0 0), (8, .pv (ints (up g t))), (9, .pv (pi i))]) (fun _ => [(0, .cell (.pv (mePV (mAt g m))))]) (fun i => i ≤ (up g t).length ∧ faceK g t m = (((up g t).drop i).flatMap (methodsOf g)).find? (does g m)) (fun i => (up g t).length - i) 0 ⟨by omega, rfl⟩ (tS) tH ?_
  rintro i ⟨hi, hr⟩
  by_cases hlt : i < (up g t).length
  ·obtain ⟨u, hu⟩ : ∃ u, u = (up g t)[i] := ⟨_, rfl⟩
   have hum : u ∈ up g t := by rw [hu]; exact List.getElem_mem hlt
   have heu : ((up g t).map pi)[i]? = some (pi u) := by rw [hu]; exact map_get (f := pi) hlt
   have c3 := MethodsR_call g u (by omega)
   have hml := methodsOf_len g u
   rw [drop_flat hlt, ← hu] at hr
   repeat' (first | (refine shC ?_; first | refine qC c3 ?_) | (refine shX ?_; first | refine qX heu ?_) | refine sK ?_ | refine sC (fun _ => ?_) (fun _ => ?_) | fail)
   refine aw_loop (fun j : Nat => [(1, .pv (pi t)), (3, .pv (.ptr (imgPV g) 0)), (7, .box 0 0), (8, .pv (ints (up g t))), (9, .pv (pi i)), (10, .pv (ints (methodsOf g u))), (11, .pv (pi j))]) (fun _ => [(0, .cell (.pv (mePV (mAt g m))))])
    (fun j => j ≤ (methodsOf g u).length ∧ faceK g t m = ((methodsOf g u).drop j ++ ((up g t).drop (i + 1)).flatMap (methodsOf g)).find? (does g m)) (fun j => (methodsOf g u).length - j) 0 ⟨by omega, hr⟩ (tS) tH ?_
   clear hr
   rintro j ⟨hj, hr⟩
   by_cases hjl : j < (methodsOf g u).length
   ·obtain ⟨k, hk2⟩ : ∃ k, k = (methodsOf g u)[j] := ⟨_, rfl⟩
    have hkm : k ∈ methodsOf g u := by rw [hk2]; exact List.getElem_mem hjl
    have hek : ((methodsOf g u).map pi)[j]? = some (pi k) := by rw [hk2]; exact map_get (f := pi) hjl
    obtain ⟨q1, q2, q3⟩ := up0 hW hk hum hkm
    have hekm := mAt_get q1
    have c4 := Bit2_call (mAt g k)
    rw [show bitF (mAt g k).flags 2 = virt g k from rfl] at c4
    have c5 := AlikeR_call (mAt g k) (mAt g m)
    rw [show alikeR (mAt g k) (mAt g m) = alk g k m from rfl] at c5
    rw [List.drop_eq_getElem_cons hjl, ← hk2, List.cons_append, List.find?_cons] at hr
    cases hv : virt g k
    ·rw [hv] at c4
     rw [show does g m k = false by rw [does, hv]; rfl] at hr
     repeat' (first | (refine shC ?_; first | refine qC c4 ?_) | (refine shX ?_; first | refine qX hek ?_ | refine ao_q rfl (q_index tbOK rfl rfl rfl rfl rfl rfl q1.1 hekm) rfl rfl ?_ | refine AD.step _ _ _ _ _ rfl (q_index tbOK rfl rfl rfl rfl rfl rfl q1.1 hekm) rfl rfl ?_) | refine sK ?_ | refine sC (fun _ => ?_) (fun _ => ?_) | fail)
     exact ⟨j + 1, ⟨hjl, hr⟩, tD, tS, tH⟩
    ·rw [hv] at c4
     cases ha : alk g k m
     ·rw [ha] at c5
      rw [show does g m k = false by rw [does, hv, ha]; rfl] at hr
      repeat' (first | (refine shC ?_; first | refine qC c4 ?_ | refine qC c5 ?_) | (refine shX ?_; first | refine qX hek ?_ | refine ao_q rfl (q_index tbOK rfl rfl rfl rfl rfl rfl q1.1 hekm) rfl rfl ?_ | refine AD.step _ _ _ _ _ rfl (q_index tbOK rfl rfl rfl rfl rfl rfl q1.1 hekm) rfl rfl ?_) | refine sK ?_ | refine sC (fun _ => ?_) (fun _ => ?_) | fail)
      exact ⟨j + 1, ⟨hjl, hr⟩, tD, tS, tH⟩
     ·rw [ha] at c5
      rw [show does g m k = true by rw [does, hv, ha]; rfl] at hr
      repeat' (first | (refine shC ?_; first | refine qC c4 ?_ | refine qC c5 ?_ | refine qC (doneR0_call g hF t k q1 q2 q3) ?_) | (refine shX ?_; first | refine qX hek ?_ | refine ao_q rfl (q_index tbOK rfl rfl rfl rfl rfl rfl q1.1 hekm) rfl rfl ?_ | refine AD.step _ _ _ _ _ rfl (q_index tbOK rfl rfl rfl rfl rfl rfl q1.1 hekm) rfl rfl ?_) | refine sK ?_ | refine sC (fun _ => ?_) (fun _ => ?_) | fail)
      exact retq rfl (by rw [faceT, hr]; rfl)
   ·rw [List.drop_eq_nil_of_le (by omega), List.nil_append] at hr
    repeat' (first | refine sK ?_ | refine sC (fun _ => ?_) (fun _ => ?_) | fail)
    exact ⟨i + 1, ⟨hlt, hr⟩, tD, tS, tH⟩
  ·rw [List.drop_eq_nil_of_le (by omega)] at hr
   repeat' (first | refine sK ?_ | refine sC (fun _ => ?_) (fun _ => ?_) | fail)
   exact retq rfl (by rw [faceT, hr]; rfl)
end Go.Cg
namespace Go.Cg
open Go.Proofs
def emptyM (m : Me) : Bool := m.code.length == 0 && m.locals.length == 0 && m.clauses.length == 0 && m.max == 0
def flagPB (k : Int) (b1 b2 b4 b8 b16 rv f16 em nc : Bool) : Bool := !(b16 && (k != 0 || rv || f16)) && !(b2 && (b1 || k == 1)) && !((b4 || b8) && !b2) && (if b4 then em else nc)
def ownPB (k : Int) (b4 m1 ab : Bool) : Bool := if k == 2 then b4 else if k == 3 then b4 && m1 else !b4 || ab
def flagRB (k : Int) (b1 b2 b4 b8 b16 rv f16 em nc m1 ab : Bool) : Bool :=
 !(b16 && (k != 0 || rv || f16)) && !(b2 && (b1 || k == 1)) && !(!b2 && (b4 || b8)) && !(b4 && !em) && !(!b4 && (!nc || decide (2 ≤ k))) && !(k == 3 && !m1) && (!b4 || decide (2 ≤ k) || ab)
theorem flagB_eq (b1 b2 b4 b8 b16 rv f16 em nc m1 ab : Bool) {k : Int} (hk : k = 0 ∨ k = 1 ∨ k = 2 ∨ k = 3) : (flagPB k b1 b2 b4 b8 b16 rv f16 em nc && ownPB k b4 m1 ab) = flagRB k b1 b2 b4 b8 b16 rv f16 em nc m1 ab := by
 simp only [flagPB, ownPB, flagRB]
 generalize (b16 && (k != 0 || rv || f16)) = x
 generalize (b2 && (b1 || k == 1)) = y
 rcases hk with rfl | rfl | rfl | rfl <;> cases x <;> cases y <;> cases b2 <;> cases b4 <;> cases b8 <;> cases em <;> cases nc <;> cases m1 <;> cases ab <;> rfl
def flagP (g : Img) (m : Me) : Bool := flagPB (kindG g m.owner) (bitF m.flags 1) (bitF m.flags 2) (bitF m.flags 4) (bitF m.flags 8) (bitF m.flags 16) (m.ret.kind != 1) (m.flags != 16) (emptyM m) (decide (0 < m.code.length))
def ownP13 (g : Img) (m : Me) : Bool := ownPB (kindG g m.owner) (bitF m.flags 4) ((methodsOf g m.owner).length == 1) (bitF (g.types.getD m.owner.toNat default).flags 4)
def flagR (g : Img) (m : Me) : Bool := flagRB (kindG g m.owner) (bitF m.flags 1) (bitF m.flags 2) (bitF m.flags 4) (bitF m.flags 8) (bitF m.flags 16) (m.ret.kind != 1) (m.flags != 16) (emptyM m) (decide (0 < m.code.length)) ((methodsOf g m.owner).length == 1) (bitF (g.types.getD m.owner.toNat default).flags 4)
structure MeOk (g : Img) (m : Me) : Prop where
 f0 : 0 ≤ m.flags
 f1 : m.flags ≤ 31
 o0 : 0 ≤ m.owner
 o1 : m.owner.toNat < g.types.length
 formed : formedM g m = true
theorem meOk_at {g : Img} (hf : formedG g = true) {x : Int} (h : mOk g x) : MeOk g (mAt g x) := by
 have h1 := mOk_flags hf h
 have h2 := formed_me hf h.2
 simp only [formedG, Bool.and_eq_true, List.all_eq_true] at hf
 have := hf.2 x.toNat (by simpa using h.2)
 rw [mthOk] at this
 simp only [Bool.and_eq_true, decide_eq_true_eq] at this
 have e : g.methods.getD x.toNat default = mAt g x := rfl
 rw [e] at this h2
 obtain ⟨⟨⟨t1, t2⟩, _⟩, _⟩ := this
 exact ⟨h1.1, h1.2, t1, by omega, h2⟩
theorem MeOk.kind {g : Img} {m : Me} (h : MeOk g m) : kindG g m.owner = 0 ∨ kindG g m.owner = 1 ∨ kindG g m.owner = 2 ∨ kindG g m.owner = 3 := by
 have h1 := kindG_range g m.owner
 obtain ⟨td, htd⟩ := typeAt_of_lt (g := g) (t := m.owner) ⟨h.o0, by have := h.o1; have := h.o0; omega⟩
 have h2 : kindG g m.owner = kindR td.flags := by rw [kindG, htd]
 have h3 := kindR_range td.flags
 omega
theorem flag_eq {g : Img} {m : Me} (h : MeOk g m) : (flagP g m && ownP13 g m) = flagR g m := flagB_eq _ _ _ _ _ _ _ _ _ _ _ h.kind
theorem MeOk.small {g : Img} {m : Me} (h : MeOk g m) : m.code.length ≤ 160 ∧ m.locals.length ≤ 12 ∧ m.params.length ≤ 6 ∧ m.clauses.length ≤ 6 ∧ 0 ≤ m.max ∧ m.max ≤ 12 := by
 have := h.formed
 simp only [formedM, formedC, right09, Bool.and_eq_true, decide_eq_true_eq] at this
 obtain ⟨⟨⟨⟨⟨⟨⟨⟨⟨⟨_, _⟩, _⟩, h3⟩, h4⟩, h5⟩, h6⟩, _⟩, _⟩, _⟩, ⟨⟨h7, _⟩, _⟩, h8⟩ := this
 refine ⟨by omega, by omega, by omega, ?_, h3, h4⟩
 by_cases hc : 6 < m.clauses.length
 ·rw [check09, if_pos hc] at h8; simp at h8
 ·omega
theorem empty_sum {m : Me} (h1 : m.code.length ≤ 160) (h2 : m.locals.length ≤ 12) (h3 : m.clauses.length ≤ 6) (h4 : 0 ≤ m.max) (h5 : m.max ≤ 12) :
  (IntKind.i64.wrap (IntKind.i64.wrap (IntKind.i64.wrap ((((m.code.map insPV).length : Nat) : Int) + (((m.locals.map tyPV).length : Nat) : Int)) + (((m.clauses.map clPV).length : Nat) : Int)) + m.max) == 0) = emptyM m := by
 simp only [List.length_map]
 rw [wrap_in (a := (m.code.length : Int) + (m.locals.length : Int)) (by omega) (by omega), wrap_in (a := (m.code.length : Int) + (m.locals.length : Int) + (m.clauses.length : Int)) (by omega) (by omega), wrap_in (by omega) (by omega), emptyM, Bool.eq_iff_iff]
 simp only [beq_iff_eq, Bool.and_eq_true]
 omega
theorem hasM {g : Img} {m : Me} (h : MeOk g m) : ACall Tryz.prog 178 [mePV m, pi 1] (pb (bitF m.flags 1)) ∧ ACall Tryz.prog 178 [mePV m, pi 2] (pb (bitF m.flags 2)) ∧ ACall Tryz.prog 178 [mePV m, pi 4] (pb (bitF m.flags 4)) ∧ ACall Tryz.prog 178 [mePV m, pi 8] (pb (bitF m.flags 8)) ∧ ACall Tryz.prog 178 [mePV m, pi 16] (pb (bitF m.flags 16)) := by
 obtain ⟨e1, e2, e4, e8, e16⟩ := flags_eq h.f0 h.f1
 exact ⟨e1 ▸ has_call m 1, e2 ▸ has_call m 2, e4 ▸ has_call m 4, e8 ▸ has_call m 8, e16 ▸ has_call m 16⟩
set_option maxHeartbeats 4000000 in
theorem flaggedS_call (g : Img) (hf : formedG g = true) (m : Me) (h : MeOk g m) : ACall Tryz.prog 133 [imgPV g, mePV m] (pb (flagP g m)) := by
 obtain ⟨h1, h2, h4, h8, h16⟩ := hasM h
 have ck := KindPG_call g hf m.owner
 have hk := h.kind
 obtain ⟨s1, s2, _, s4, s5, s6⟩ := h.small
 have he := empty_sum s1 s2 s4 s5 s6
 refine acall_intro tbOK Tryz.func133 rfl (by kernel_rfl) Tryz.ntmps133 (by simp) _ rfl (fun hw gB hgB => ?_)
 rw [flagP]
 generalize bitF m.flags 1 = b1 at h1 ⊢
 generalize bitF m.flags 2 = b2 at h2 ⊢
 generalize bitF m.flags 4 = b4 at h4 ⊢
 generalize bitF m.flags 8 = b8 at h8 ⊢
 generalize bitF m.flags 16 = b16 at h16 ⊢
 generalize emptyM m = em at he ⊢
 rcases hk with hk | hk | hk | hk <;> rw [hk] at ck ⊢ <;> clear hk
 all_goals repeat' (first | (refine shC ?_; first | refine qC ck ?_ | refine qC h1 ?_ | refine qC h2 ?_ | refine qC h4 ?_ | refine qC h8 ?_ | refine qC h16 ?_) | refine sA ?_ | refine sC (fun _ => ?_) (fun _ => ?_) | fail)
 all_goals (refine retq rfl ?_; first | (simp_all [retPV, flagPB]; done) | (rename_i hx; simp_all [retPV, flagPB]; omega) | (trace_state))
end Go.Cg
