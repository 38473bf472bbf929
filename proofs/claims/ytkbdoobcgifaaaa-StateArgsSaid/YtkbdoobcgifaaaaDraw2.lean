/- A region that draws its order, and that lays one variable and writes it once. -/
import Derived.Test.YtkbdoobcgifaaaaData
namespace Go.Cg
open Go.RowKit

def shadowOp (ja js t' m : Nat) (o : Oper) (j : Nat) : Oper :=
  match Nat.beq j ja with
  | true => { o with op := .move (.tmp m) }
  | false => match Nat.beq j js with
    | true => { o with op := .move (.tmp m), dst := some t' }
    | false => o

def shadowFrom (ja js t' m : Nat) : List Oper → Nat → List Oper
  | [], _ => []
  | o :: os, j => shadowOp ja js t' m o j :: shadowFrom ja js t' m os (j + 1)

theorem shadowFrom_get (ja js t' m : Nat) : ∀ (ops : List Oper) (k j : Nat), (shadowFrom ja js t' m ops k)[j]? = (ops[j]?).map fun o => shadowOp ja js t' m o (k + j)
  | [], k, j => by simp [shadowFrom]
  | o :: os, k, j => by
    cases j with
    | zero => simp [shadowFrom]
    | succ j => simp only [shadowFrom, List.getElem?_cons_succ]; rw [shadowFrom_get ja js t' m os (k + 1) j]; congr; funext o; congr 1; omega
theorem shadowFrom_length (ja js t' m : Nat) : ∀ (ops : List Oper) (k : Nat), (shadowFrom ja js t' m ops k).length = ops.length
  | [], k => rfl
  | o :: os, k => by simp [shadowFrom, shadowFrom_length ja js t' m os (k + 1)]
theorem shadowOp_after {ja js t' m : Nat} {o : Oper} {j : Nat} : (shadowOp ja js t' m o j).after = o.after := by
  unfold shadowOp
  split
  · rfl
  · split <;> rfl
theorem shadowOp_guard {ja js t' m : Nat} {o : Oper} {j : Nat} : (shadowOp ja js t' m o j).guard = o.guard := by
  unfold shadowOp
  split
  · rfl
  · split <;> rfl
theorem shadowOp_pure {ja js t' m : Nat} {o : Oper} {j : Nat} (h1 : j ≠ ja) (h2 : j ≠ js) : shadowOp ja js t' m o j = o := by
  unfold shadowOp
  have e1 : Nat.beq j ja = false := by cases h : Nat.beq j ja; rfl; exact absurd (Nat.eq_of_beq_eq_true h) h1
  have e2 : Nat.beq j js = false := by cases h : Nat.beq j js; rfl; exact absurd (Nat.eq_of_beq_eq_true h) h2
  rw [e1, e2]
theorem shadowOp_dst {ja js t' m : Nat} {o : Oper} {j : Nat} (h2 : j ≠ js) : (shadowOp ja js t' m o j).dst = o.dst := by
  unfold shadowOp
  have e2 : Nat.beq j js = false := by cases h : Nat.beq j js; rfl; exact absurd (Nat.eq_of_beq_eq_true h) h2
  rw [e2]
  split <;> rfl

section
variable {P : Program} {tb : Tab} {n : Nat} {g : Base} {K K' : KK} {w w' : World} {ρ : Nat → Value} {H : HEnv} {env : Env} {a : Act} {ops rest : List Oper} {Q : Env → Prop}

theorem ad_shadow {t m : Nat} {ty : TypeId} {po : String} {af : Array Edge} (hm : env.get m = none) (ht : Nat.blt t n = true) (h : AD P n g H ops Q rest ((t, .any) :: env)) : AD P n g H ops Q (⟨some t, .move (.tmp m), ty, po, af, none⟩ :: rest) env := by
  refine .step _ _ _ .any t rfl ⟨fun K ρ a w hf hv => ?_⟩ rfl ht h
  simp only [execOp, Act.eval]
  exact ⟨K, .refl hf.lt, .any _⟩

/-- What is known of the block that the region lays. -/
structure Blk (g : Base) (K : KK) (ρ : Nat → Value) (H : HEnv) (w : World) (b : Nat) (ty : TypeId) (arr : Array Value) : Prop where
  base : g.w0.heap.size ≤ b
  heap : w.heap[b]? = some (.cells arr ty (0, 0))
  noK : ∀ o, ¬ K b o
  apart : ∀ (j : Nat) (h : HE), H.get j = some h → h.live = true → blockOf (ρ j) = some b → False

theorem Blk.evo {b : Nat} {ty : TypeId} {arr : Array Value} (h : Blk g K ρ H w b ty arr) (hev : Evo K K' w w') : Blk g K' ρ H w' b ty arr := by
  have hlt : b < w.heap.size := (Array.getElem?_eq_some_iff.1 h.heap).1
  exact ⟨h.base, by rw [hev.below.block b hlt]; exact h.heap, fun o ho => (hev.new b o ho).elim (h.noK o) (fun h2 => by omega), h.apart⟩

/-- The block is owned. -/
theorem Blk.own {b i : Nat} {ty : TypeId} {arr : Array Value} (h : Blk g K ρ H w b ty arr) (hf : FS g K ρ H w) (hi : H.get i = none) {v : AV} {u : Value} (hu : ARel K w ρ H v u) (hc : u.cells = arr) :
    FS g K (fun j => if j = i then .pointer (some ⟨b, 0, none⟩) else ρ j) ((i, .cell v) :: H) w := by
  have hk := fresh_keeps (ρ := ρ) hi (.cell v) (.pointer (some ⟨b, 0, none⟩))
  have hlat := Later.refl K w
  refine ⟨hf.below, hf.old, hf.new, hf.lt, ?_, ?_⟩
  · intro j e hj
    simp only [HEnv.get_nil, HEnv.get_cons] at hj
    split at hj
    · rename_i e'; subst e'; simp only [Option.some.injEq] at hj; subst hj
      exact ⟨b, ty, arr, u, by simp, h.base, h.heap, hu.keeps hlat hk, hc, h.noK⟩
    · rename_i hne
      have := (hf.heap.ok j e hj).keeps (.refl hf.lt) hf.lt hk
      simpa [Ne.symm hne] using this
  · intro j k h1 h2 bb hjk hj hk' hlj hlk hbj hbk
    simp only [HEnv.get_nil, HEnv.get_cons] at hj hk'
    split at hj
    · rename_i e'; subst e'
      split at hk'
      · rename_i e''; exact hjk (by omega)
      · rename_i hne
        simp only [if_true] at hbj
        simp only [blockOf, Option.some.injEq] at hbj
        subst hbj
        simp only [Ne.symm hne, if_false] at hbk
        exact h.apart k h2 hk' hlk hbk
    · rename_i hne
      simp only [Ne.symm hne, if_false] at hbj
      split at hk'
      · rename_i e''; subst e''
        simp only [if_true] at hbk
        simp only [blockOf, Option.some.injEq] at hbk
        subst hbk
        exact h.apart j h1 hj hlj hbj
      · rename_i hne'
        simp only [Ne.symm hne', if_false] at hbk
        exact hf.heap.apart j k h1 h2 bb hjk hj hk' hlj hlk hbj hbk

/-- The block is written. -/
theorem Blk.set {b : Nat} {ty : TypeId} {arr arr' : Array Value} (h : Blk g K ρ H w b ty arr) (hf : FS g K ρ H w) :
    FS g K ρ H (w.setRow b arr') ∧ Blk g K ρ H (w.setRow b arr') b ty arr' ∧ Later K K w (w.setRow b arr') := by
  have hgrow : w.grownBy (w.setRow b arr') (some b) := ⟨rfl, rfl, rfl, by simp, fun k _ hk => setRow_other w b k _ (fun e => hk (by simp [e]))⟩
  have hlat : Later K K w (w.setRow b arr') := ⟨fun _ _ h => h, fun b' o hk => by
    have : b' ≠ b := by rintro rfl; exact h.noK o hk
    exact cell_setRow_other w b _ ⟨b', o, none⟩ this⟩
  refine ⟨⟨hf.below.grown hgrow hf.below.size (fun k hk => by simp at hk; have := h.base; omega), hf.old, hf.new, fun b o hk => by have := hf.lt b o hk; simpa using this, ?_, hf.heap.apart⟩, ⟨h.base, setRow_heap w b arr _ ty _ h.heap, h.noK, h.apart⟩, hlat⟩
  intro j e hj
  by_cases hlive : e.live = true
  · have := (hf.heap.ok j e hj).grown (f := id) hgrow hlat (fun b o h => .inl h) (fun av v h => h.keeps hlat (fun j hj => ⟨hj, rfl⟩)) hlive (fun b' hb' e' => by
      simp at e'; subst e'
      exact h.apart j e hj hlive hb')
    cases e <;> exact this
  · cases e <;> simp [HE.live] at hlive
    · trivial
    · exact ARel.keeps hlat (fun j hj => ⟨hj, rfl⟩) (hf.heap.ok j _ hj)

structure MidX (P : Program) (n : Nat) (g : Base) (H : HEnv) (ops : List Oper) (env : Env) (Q : Env → Prop) (s : Script P n g H ops ops env Q) (listed : Array Bool) (a : Act) (w : World) (K : KK) (ρ : Nat → Value) : Prop where
  size : a.tmps.size = n
  defers : a.defers = []
  lsize : listed.size = ops.length
  closed : ∀ (i : Nat) (o : Oper), ops[i]? = some o → listed.getD i true = true → ∀ j, hasEdge o j = true → listed.getD j false = true
  fs : FS g K ρ H w
  hl : ∀ (i : Nat) (o : Oper) (ri : AV) (t : Nat), ops[i]? = some o → listed.getD i true = true → s.r[i]? = some ri → o.dst = some t → ∃ v, a.tmps[t]? = some v ∧ ARel K w ρ H ri v
  he : ∀ (t : Nat) (av : AV), env.get t = some av → (∀ (i : Nat) (o : Oper), ops[i]? = some o → listed.getD i true = true → o.dst ≠ some t) → ∃ v, a.tmps[t]? = some v ∧ ARel K w ρ H av v

theorem MidX.mid {s : Script P n g H ops ops env Q} {listed : Array Bool} (h : MidX P n g H ops env Q s listed a w K ρ) : Mid P n g H ops ops env Q s listed a w :=
  ⟨h.size, h.defers, h.lsize, Nat.le_refl _, fun j h1 h2 => by omega, h.closed, K, ρ, h.fs, h.hl, h.he⟩

theorem closed_next {s : Script P n g H ops ops env Q} {listed : Array Bool} (hm : MidX P n g H ops env Q s listed a w K ρ) {j : Nat} {o : Oper} (ho : ops[j]? = some o) (hready : ∀ i, hasEdge o i = true → listed.getD i false = true) :
    ∀ (i : Nat) (o : Oper), ops[i]? = some o → (listed.setIfInBounds j true).getD i true = true → ∀ k, hasEdge o k = true → (listed.setIfInBounds j true).getD k false = true := by
  have hjlt : j < listed.size := by rw [hm.lsize]; exact (List.getElem?_eq_some_iff.1 ho).1
  intro i o' ho' hli k hk
  by_cases hij : i = j
  · subst hij
    rw [ho] at ho'; cases ho'
    have := hready k hk
    by_cases hkj : k = i
    · subst hkj; exact getD_set_same hjlt
    · rw [getD_set_other hkj]; exact this
  · rw [getD_set_other hij] at hli
    have := hm.closed i o' ho' hli k hk
    by_cases hkj : k = j
    · subst hkj; exact getD_set_same hjlt
    · rw [getD_set_other hkj]; exact this

theorem MidX.next {s : Script P n g H ops ops env Q} {listed : Array Bool} (hB : drawOk ops ops = true) (hm : MidX P n g H ops env Q s listed a w K ρ) {j : Nat} {o : Oper} {rj : AV} {t : Nat} (ho : ops[j]? = some o) (hr : s.r[j]? = some rj) (hd : o.dst = some t) (ht : t < n)
    (hun : listed.getD j true = false) (hready : ∀ i, hasEdge o i = true → listed.getD i false = true) {K' : KK} {w' : World} {v : Value}
    (hfs : FS g K' ρ H w') (hlat : Later K K' w w') (hv : ARel K' w' ρ H rj v) : MidX P n g H ops env Q s (listed.setIfInBounds j true) (a.put (some t) v) w' K' ρ := by
  have hjlt : j < listed.size := by rw [hm.lsize]; exact (List.getElem?_eq_some_iff.1 ho).1
  obtain ⟨_, _, hdst, _⟩ := drawOk_at hB ho
  refine ⟨put_size hm.size, put_defers hm.defers, by simp [hm.lsize], closed_next hm ho hready, hfs, ?_, ?_⟩
  · intro i o' ri t' ho' hli hri hd'
    by_cases hij : i = j
    · subst hij
      rw [ho] at ho'; cases ho'
      rw [hr] at hri; cases hri
      rw [hd] at hd'; cases hd'
      exact ⟨v, by simp only [Act.put]; rw [Array.getElem?_setIfInBounds_self_of_lt (by rw [hm.size]; exact ht)], hv⟩
    · rw [getD_set_other hij] at hli
      obtain ⟨u, h1, h2⟩ := hm.hl i o' ri t' ho' hli hri hd'
      have hne : t ≠ t' := by
        rintro rfl
        exact hdst i o' ho' hij (by rw [hd', hd])
      exact ⟨u, by simp only [Act.put]; rw [Array.getElem?_setIfInBounds_ne hne]; exact h1, h2.later hlat⟩
  · intro t' av hav hno
    have hne : t ≠ t' := by
      rintro rfl
      exact hno j o ho (getD_set_same hjlt) hd
    obtain ⟨u, h1, h2⟩ := hm.he t' av hav (fun i o' ho' hli hd' => by
      by_cases hij : i = j
      · subst hij; rw [hun] at hli; cases hli
      · exact hno i o' ho' (by rw [getD_set_other hij]; exact hli) hd')
    exact ⟨u, by simp only [Act.put]; rw [Array.getElem?_setIfInBounds_ne hne]; exact h1, h2.later hlat⟩

theorem MidX.nop {s : Script P n g H ops ops env Q} {listed : Array Bool} (hm : MidX P n g H ops env Q s listed a w K ρ) {j : Nat} {o : Oper} {rj : AV} {t : Nat} {w' : World} (ho : ops[j]? = some o) (hr : s.r[j]? = some rj) (hany : ∀ u, ARel K w' ρ H rj u) (hd : o.dst = some t) (ht : t < n)
    (hun : listed.getD j true = false) (hready : ∀ i, hasEdge o i = true → listed.getD i false = true)
    (hfs : FS g K ρ H w') (hlat : Later K K w w') : MidX P n g H ops env Q s (listed.setIfInBounds j true) a w' K ρ := by
  have hjlt : j < listed.size := by rw [hm.lsize]; exact (List.getElem?_eq_some_iff.1 ho).1
  refine ⟨hm.size, hm.defers, by simp [hm.lsize], closed_next hm ho hready, hfs, ?_, ?_⟩
  · intro i o' ri t' ho' hli hri hd'
    by_cases hij : i = j
    · subst hij
      rw [ho] at ho'; cases ho'
      rw [hr] at hri; cases hri
      rw [hd] at hd'; cases hd'
      exact ⟨a.tmps[t]'(by rw [hm.size]; exact ht), Array.getElem?_eq_getElem _, hany _⟩
    · rw [getD_set_other hij] at hli
      obtain ⟨u, h1, h2⟩ := hm.hl i o' ri t' ho' hli hri hd'
      exact ⟨u, h1, h2.later hlat⟩
  · intro t' av hav hno
    obtain ⟨u, h1, h2⟩ := hm.he t' av hav (fun i o' ho' hli hd' => by
      by_cases hij : i = j
      · subst hij; rw [hun] at hli; cases hli
      · exact hno i o' ho' (by rw [getD_set_other hij]; exact hli) hd')
    exact ⟨u, h1, h2.later hlat⟩

/-- When all have come up. -/
theorem MidX.done {s : Script P n g H ops ops env Q} {listed : Array Bool} (hm : MidX P n g H ops env Q s listed a w K ρ) (hall : ∀ j, j < ops.length → listed.getD j true = true) : EnvR K w ρ H s.last a.tmps := by
  intro t av hav
  have hlast : (s.e ++ [s.last])[ops.length]? = some s.last := by rw [List.getElem?_append_right (by rw [s.lene]; exact Nat.le_refl _), s.lene]; simp
  rcases s.src ops.length s.last hlast t av hav with ⟨i, o, ri, h1, h2, h3, h4, h5, _⟩ | ⟨h1, av0, h2, h3⟩
  · obtain ⟨v, v1, v2⟩ := hm.hl i o ri t h2 (hall i h1) h4 h3
    exact ⟨v, v1, h5 _ _ _ _ _ v2⟩
  · obtain ⟨v, v1, v2⟩ := hm.he t av0 h2 (fun i o ho _ => h1 i o (List.getElem?_eq_some_iff.1 ho).1 ho)
    exact ⟨v, v1, h3 _ _ _ _ _ v2⟩

/-- What the walk's last frame tells of a slot that is written at one place, holds as soon as that has come up. -/
theorem MidX.early {s : Script P n g H ops ops env Q} {listed : Array Bool} (hB : drawOk ops ops = true) (hm : MidX P n g H ops env Q s listed a w K ρ) {jx tx : Nat} {ox : Oper} {v : AV} (hox : ops[jx]? = some ox) (hdx : ox.dst = some tx) (hlx : listed.getD jx true = true) (hv : s.last.get tx = some v) :
    ∃ u, a.tmps[tx]? = some u ∧ ARel K w ρ H v u := by
  have hlast : (s.e ++ [s.last])[ops.length]? = some s.last := by rw [List.getElem?_append_right (by rw [s.lene]; exact Nat.le_refl _), s.lene]; simp
  rcases s.src ops.length s.last hlast tx v hv with ⟨i, o, ri, h1, h2, h3, h4, h5, _⟩ | ⟨h1, av0, h2, h3⟩
  · have hij : i = jx := Classical.byContradiction fun hne => (drawOk_at hB hox).2.2.1 i o h2 hne (by rw [h3, hdx])
    subst hij
    obtain ⟨u, u1, u2⟩ := hm.hl i o ri tx h2 hlx h4 h3
    exact ⟨u, u1, h5 _ _ _ _ _ u2⟩
  · exact absurd hdx (h1 jx ox (List.getElem?_eq_some_iff.1 hox).1 hox)

theorem evo_same (hev : Evo K K' w w) : Later K' K w w := by
  refine ⟨fun b o h => (hev.new b o h).elim id (fun h2 => ?_), fun _ _ _ => rfl⟩
  have := hev.lt b o h
  omega

/-- A shadow's result holds of whatever value. -/
theorem shadow_any (a : Act) {s : Script P n g H ops ops env Q} {j : Nat} {o : Oper} {rj : AV} (ho : ops[j]? = some o) (hr : s.r[j]? = some rj) (hop : o.op = .move (.tmp n)) (hg : o.guard = none) (henv : env.get n = none) (hf : FS g K ρ H w) (u : Value) : ARel K w ρ H rj u := by
  have hj := (List.getElem?_eq_some_iff.1 ho).1
  have hej : s.e[j]? = some (s.e[j]'(by rw [s.lene]; exact hj)) := List.getElem?_eq_getElem _
  generalize s.e[j]'(by rw [s.lene]; exact hj) = ej at hej
  have hno : ej.get n = none := by
    cases hc : ej.get n with
    | none => rfl
    | some av =>
      exfalso
      rcases s.src j ej (by rw [List.getElem?_append_left (List.getElem?_eq_some_iff.1 hej).1]; exact hej) n av hc with ⟨i, o', ri, h1, h2, h3, h4, _⟩ | ⟨_, av0, h2, _⟩
      · have hi := (List.getElem?_eq_some_iff.1 h2).1
        obtain ⟨t, e1, e2, _⟩ := s.ok i o' ri _ h2 h4 (List.getElem?_eq_getElem (by rw [s.lene]; exact hi))
        rw [h3] at e1; have e3 := Option.some.inj e1; subst e3; exact Nat.lt_irrefl _ e2
      · rw [henv] at h2; cases h2
  obtain ⟨t, hd, ht, hor⟩ := s.ok j o rj ej ho hr hej
  have hgt : guardE ops ej o = some true := by simp [guardE, guardVar, hg]
  rcases hor with ⟨_, hq⟩ | ⟨hgf, _⟩
  · have := hq.go K ρ { a with tmps := Array.replicate (n + 1) u } w hf (fun x hx av hav => by
      rw [hop] at hx
      simp [Op.operands] at hx
      subst hx
      simp [Env.val, hno] at hav)
    rw [show (execOp (Act.eval { a with tmps := Array.replicate (n + 1) u }) o).run P w = .ok (.value u) w by
      simp [execOp, hop, Act.eval, Array.getD_eq_getD_getElem?]] at this
    obtain ⟨K', hev, hr'⟩ := this
    exact hr'.later (evo_same hev)
  · rw [hgt] at hgf; cases hgf
end
end Go.Cg
