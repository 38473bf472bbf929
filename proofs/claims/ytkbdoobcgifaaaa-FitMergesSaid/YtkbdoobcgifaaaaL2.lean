/- A part of the walks by abstract values: no statement of its own. -/
import Derived.Test.YtkbdoobcgifaaaaL1
import Derived.Test.YtkbdoobcgifaaaaA31
namespace Go.Cg

/-! fitting is an order -/
theorem plain_iff {a : Ty} {k : Int} : plain a k = true ↔ a.kind = k ∧ a.dims = 0 ∧ a.ref = false := by simp [plain, and_assoc]
/-- What fitting says, case by case. -/
inductive FitC (g : Img) (a b : Ty) : Prop where
  | same : a = b → FitC g a b
  | null : object a = true → object b = true → plain a 8 = true → FitC g a b
  | top : object a = true → object b = true → plain b 4 = true → FitC g a b
  | cls : plain a 5 = true → plain b 5 = true → Bl g a.index b.index → FitC g a b
  | fault : object a = true → object b = true → plain a 7 = true → b = ⟨7, 0, 0, false⟩ → FitC g a b
theorem fits_cases {g : Img} (hF : Fm g) {a b : Ty} : fitsP g a b = true ↔ FitC g a b := by
  constructor
  · intro h
    unfold fitsP at h
    by_cases h1 : tyB a b = true
    · exact .same (tyB_eq h1)
    rw [if_neg h1] at h
    by_cases h2 : (!object a || !object b) = true
    · rw [if_pos h2] at h; cases h
    rw [if_neg h2] at h
    simp only [Bool.or_eq_true, Bool.not_eq_true', not_or, Bool.not_eq_false] at h2
    by_cases h3 : (plain a 8 || plain b 4) = true
    · simp only [Bool.or_eq_true] at h3
      rcases h3 with h3 | h3
      · exact .null h2.1 h2.2 h3
      · exact .top h2.1 h2.2 h3
    rw [if_neg h3] at h
    by_cases h4 : (plain a 5 && plain b 5) = true
    · rw [if_pos h4] at h
      simp only [Bool.and_eq_true] at h4
      exact .cls h4.1 h4.2 ((belowP_iff hF).1 h)
    rw [if_neg h4] at h
    simp only [Bool.and_eq_true] at h
    exact .fault h2.1 h2.2 h.1 (tyB_eq h.2)
  · intro h
    cases h with
    | same e => subst e; exact fits_refl g a
    | null h1 h2 h3 =>
      unfold fitsP; split
      · rfl
      · rw [h1, h2, h3]; simp
    | top h1 h2 h3 =>
      unfold fitsP; split
      · rfl
      · rw [h1, h2, h3]; simp
    | cls h1 h2 h3 =>
      have k1 := plain_iff.1 h1
      have k2 := plain_iff.1 h2
      have e : b = ⟨5, b.index, 0, false⟩ := by obtain ⟨q1, q2, q3, q4⟩ := b; simp at k2; simp [k2]
      rw [e]; exact fits_class h1 ((belowP_iff hF).2 h3)
    | fault h1 h2 h3 h4 => rw [h4]; exact fits_fault h3
theorem fits_object_of {g : Img} (hF : Fm g) {a b : Ty} (h : fitsP g a b = true) (hne : a ≠ b) : object a = true ∧ object b = true := by
  cases (fits_cases hF).1 h with
  | same e => exact (hne e).elim
  | null h1 h2 _ => exact ⟨h1, h2⟩
  | top h1 h2 _ => exact ⟨h1, h2⟩
  | cls h1 h2 _ => exact ⟨object_class h1, object_class h2⟩
  | fault h1 h2 _ _ => exact ⟨h1, h2⟩
theorem plain_two {a : Ty} {j k : Int} (h1 : plain a j = true) (h2 : plain a k = true) : j = k := by
  rw [← (plain_iff.1 h1).1, ← (plain_iff.1 h2).1]
theorem fits_anti {g : Img} (hW : Wl g) {a b : Ty} (h1 : fitsP g a b = true) (h2 : fitsP g b a = true) : tyB a b = true ∨ (nul a = true ∧ nul b = true) := by
  have same : a = b → tyB a b = true ∨ (nul a = true ∧ nul b = true) := fun e => .inl (by rw [e]; exact tyB_refl b)
  have n8 : ∀ x : Ty, plain x 8 = true → nul x = true := fun x h => by simp [nul, (plain_iff.1 h).1]
  have n4 : ∀ x : Ty, plain x 4 = true → nul x = true := fun x h => by simp [nul, (plain_iff.1 h).1]
  cases (fits_cases hW.fm).1 h1 with
  | same e => exact same e
  | null _ _ p =>
    cases (fits_cases hW.fm).1 h2 with
    | same e => exact same e.symm
    | null _ _ q => exact .inr ⟨n8 a p, n8 b q⟩
    | top _ _ q => have := plain_two p q; omega
    | cls q1 q2 _ => have := plain_two p q2; omega
    | fault _ _ q1 q2 => rw [q2] at p; exact absurd p (by decide)
  | top _ _ p =>
    cases (fits_cases hW.fm).1 h2 with
    | same e => exact same e.symm
    | null _ _ q => have := plain_two p q; omega
    | top _ _ q => exact .inr ⟨n4 a q, n4 b p⟩
    | cls q1 q2 _ => have := plain_two p q1; omega
    | fault _ _ q1 q2 => have := plain_two p q1; omega
  | cls p1 p2 p3 =>
    cases (fits_cases hW.fm).1 h2 with
    | same e => exact same e.symm
    | null _ _ q => have := plain_two p2 q; omega
    | top _ _ q => have := plain_two p1 q; omega
    | cls q1 q2 q3 =>
      have e := hW.anti p3 q3
      refine same ?_
      have k1 := plain_iff.1 p1
      have k2 := plain_iff.1 p2
      obtain ⟨a1, a2, a3, a4⟩ := a; obtain ⟨b1, b2, b3, b4⟩ := b
      simp at k1 k2 e
      simp [k1, k2, e]
    | fault _ _ q1 q2 => have := plain_two p2 q1; omega
  | fault _ _ p1 p2 =>
    cases (fits_cases hW.fm).1 h2 with
    | same e => exact same e.symm
    | null _ _ q => rw [p2] at q; exact absurd q (by decide)
    | top _ _ q => have := plain_two p1 q; omega
    | cls q1 q2 _ => have := plain_two p1 q2; omega
    | fault _ _ q1 q2 => exact same (by rw [p2, q2])
theorem fits_trans {g : Img} (hW : Wl g) {a b c : Ty} (h1 : fitsP g a b = true) (h2 : fitsP g b c = true) : fitsP g a c = true := by
  have hc := (fits_cases hW.fm).1 h2
  have h2' := h2
  rw [fits_cases hW.fm] at h1 ⊢
  cases h1 with
  | same e => subst e; exact hc
  | null o1 o2 p =>
    by_cases e : b = c
    · subst e; exact .null o1 o2 p
    · exact .null o1 (fits_object_of hW.fm h2' e).2 p
  | top o1 o2 p =>
    cases hc with
    | same e => subst e; exact .top o1 o2 p
    | null _ _ q => have := plain_two p q; omega
    | top _ q1 q => exact .top o1 q1 q
    | cls q1 q2 _ => have := plain_two p q1; omega
    | fault _ _ q1 q2 => have := plain_two p q1; omega
  | cls p1 p2 p3 =>
    cases hc with
    | same e => subst e; exact .cls p1 p2 p3
    | null _ _ q => have := plain_two p2 q; omega
    | top _ q1 q => exact .top (object_class p1) q1 q
    | cls q1 q2 q3 => exact .cls p1 q2 (hW.trans p3 q3)
    | fault _ _ q1 q2 => have := plain_two p2 q1; omega
  | fault o1 o2 p1 p2 =>
    cases hc with
    | same e => subst e; exact .fault o1 o2 p1 p2
    | null _ _ q => rw [p2] at q; exact absurd q (by decide)
    | top _ q1 q => exact .top o1 q1 q
    | cls q1 q2 q3 => rw [p2] at q1; exact absurd q1 (by decide)
    | fault _ q0 q1 q2 => exact .fault o1 q0 p1 q2

/-! what two merge to is the least -/
theorem merge_sym {g : Img} (a b : Ty) : (mergeP g a b).2 = (mergeP g b a).2 := by
  unfold mergeP
  by_cases h1 : fitsP g b a = true <;> by_cases h2 : fitsP g a b = true
  · rw [if_pos h1, if_pos h2]
  · rw [if_pos h1, if_neg h2, if_pos h1]
  · rw [if_neg h1, if_pos h2, if_pos h2]
  · rw [if_neg h1, if_neg h2, if_neg h2, if_neg h1]
    rw [Bool.or_comm (!object b) (!object a), Bool.and_comm (plain b 7) (plain a 7), Bool.and_comm (classB g b) (classB g a)]
    by_cases h3 : (!object a || !object b) = true
    · rw [if_pos h3, if_pos h3]
    · rw [if_neg h3, if_neg h3]
      have z : ∀ (p q : Bool) (x y w : Ty), (if p = true then (x, (0 : Int)) else if q = true then (y, 0) else (w, 0)).2 = 0 := by
        intro p q x y w; cases p <;> cases q <;> rfl
      rw [z, z]
theorem first_up {g : Img} (hW : Wl g) {p : Int → Bool} : ∀ (n : Nat) (a c : Int), (up g a).length ≤ n → c ∈ up g a → p c = true → ∃ t, (up g a).find? p = some t ∧ c ∈ up g t
  | 0, a, c, hn, hc, _ => by
    have : up g a = [] := List.eq_nil_of_length_eq_zero (by omega)
    rw [this] at hc; simp at hc
  | n + 1, a, c, hn, hc, hp => by
    cases ha : typeAt g a with
    | none => rw [up_nil ha] at hc; simp at hc
    | some td =>
      have e := hW.up_cons ha
      by_cases hpa : p a = true
      · exact ⟨a, by rw [e, List.find?_cons, hpa], hc⟩
      · rw [e] at hc hn
        rcases List.mem_cons.1 hc with rfl | hc
        · exact (hpa hp).elim
        · obtain ⟨t, t1, t2⟩ := first_up hW n td.ext c (by simp at hn; omega) hc hp
          exact ⟨t, by rw [e, List.find?_cons, Bool.eq_false_iff.2 hpa]; exact t1, t2⟩
def oneP (g : Img) (t : Ty) : Bool := plain t 5 && kindG g t.index == 0
theorem below_class {g : Img} (hW : Wl g) {a b : Int} (h : Bl g a b) (hk : kindG g b = 0) : b ∈ up g a := by
  rcases h with h | h
  · exact h
  · have := hW.rf_kind h; omega
theorem merge_least {g : Img} (hW : Wl g) (hk : ∀ t, kindP g t = kindG g t) {a b c : Ty} (ha : oneP g a = true) (hb : oneP g b = true) (hc : oneP g c = true) (h1 : fitsP g a c = true) (h2 : fitsP g b c = true) : fitsP g (mergeP g a b).1 c = true := by
  simp only [oneP, Bool.and_eq_true, beq_iff_eq] at ha hb hc
  unfold mergeP
  by_cases q1 : fitsP g b a = true
  · rw [if_pos q1]; exact h1
  rw [if_neg q1]
  by_cases q2 : fitsP g a b = true
  · rw [if_pos q2]; exact h2
  rw [if_neg q2]
  rw [if_neg (by rw [object_class ha.1, object_class hb.1]; simp)]
  have p7 : plain a 7 = false := by
    cases hp : plain a 7 with
    | false => rfl
    | true => have := plain_two ha.1 hp; omega
  rw [if_neg (by rw [p7]; simp)]
  have ca : classB g a = true := by simp [classB, ha.1, hk, ha.2]
  have cb : classB g b = true := by simp [classB, hb.1, hk, hb.2]
  rw [if_pos (by rw [ca, cb]; rfl)]
  have key : ∀ x y : Ty, plain x 5 = true → plain y 5 = true → fitsP g x c = true → ¬ fitsP g y x = true → fitsP g y c = true → c.index ∈ up g x.index := by
    intro x y hx hy hxc hno hyc
    cases (fits_cases hW.fm).1 hxc with
    | same e => subst e; exact (hno hyc).elim
    | null _ _ q => have := plain_two hx q; omega
    | top _ _ q => have := plain_two hc.1 q; omega
    | cls _ _ q => exact below_class hW q hc.2
    | fault _ _ q _ => have := plain_two hx q; omega
  have k1 := key a b ha.1 hb.1 h1 q1 h2
  have k2 := key b a hb.1 ha.1 h2 q2 h1
  obtain ⟨t, t1, t2⟩ := first_up hW (p := fun t => decide (t ∈ up g b.index)) _ a.index c.index (Nat.le_refl _) k1 (by simpa using k2)
  have e : mergeTop g a b = ⟨5, t, 0, false⟩ := by rw [mergeTop, t1]
  rw [e]
  have kc := plain_iff.1 hc.1
  have ec : c = ⟨5, c.index, 0, false⟩ := by obtain ⟨q1, q2, q3, q4⟩ := c; simp at kc; simp [kc]
  rw [ec]
  exact fits_class (by simp [plain]) ((belowP_iff hW.fm).2 (.inl t2))
end Go.Cg
