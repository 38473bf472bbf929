/- From a reading of an argument to a pure value. -/
import Derived.Test.YtkbdoobcgifaaaaGreatG4
import Derived.OpenShut
import Derived.Deep.Slices
import Derived.ProofKit
namespace Go.Cg
open Go.RowKit Go.ChangeShapes Go.WideShapes Go.ChangeAt Go.Deep

/-- All that lay when the call began. -/
def KW (w : World) : KK := fun b _ => b < w.heap.size

section
variable {H : Type} {enc : TypeId × Value → H} {P : Program} {w : World}

/-- Whatever reads at this type, holds cells of this kind. -/
def Rd (enc : TypeId × Value → H) (P : Program) (w : World) (t : TypeId) (sz : Nat) (X : List PV → Prop) : Prop :=
  P.cellsOf t = sz ∧ ∀ fuel cs x, DataW.trod enc P w 0 (fun _ => true) true fuel t cs = some x → ∃ pvs, X pvs ∧ PRels (KW w) w pvs cs ∧ cs.length = sz ∧ (∀ v ∈ cs, v.oneCell' = true)

theorem Rd.mono {t : TypeId} {sz : Nat} {X Y : List PV → Prop} (h : Rd enc P w t sz X) (hxy : ∀ ps, X ps → Y ps) : Rd enc P w t sz Y :=
  ⟨h.1, fun fuel cs x hx => let ⟨ps, h1, h2⟩ := h.2 fuel cs x hx; ⟨ps, hxy ps h1, h2⟩⟩

theorem rd_int {t : TypeId} {k : IntKind} (ht : P.underlying t = some (.int k)) (hc : P.cellsOf t = 1) : Rd enc P w t 1 (fun ps => ∃ n, (Lit.int k n).wf = true ∧ ps = [.base (.int k n)]) := by
  refine ⟨hc, fun fuel cs x hx => ?_⟩
  obtain ⟨n, rfl, _, hw⟩ := DataW.trod_int ht hx
  exact ⟨_, ⟨n, hw, rfl⟩, .cons (.base _ rfl) .nil, rfl, by simp [Value.oneCell']⟩

theorem rd_bool {t : TypeId} (ht : P.underlying t = some .bool) (hc : P.cellsOf t = 1) : Rd enc P w t 1 (fun ps => ∃ b, ps = [.base (.bool b)]) := by
  refine ⟨hc, fun fuel cs x hx => ?_⟩
  obtain ⟨b, rfl, _⟩ := DataW.trod_bool ht hx
  exact ⟨_, ⟨b, rfl⟩, .cons (.base _ rfl) .nil, rfl, by simp [Value.oneCell']⟩

theorem rd_string {t : TypeId} (ht : P.underlying t = some .string) (hc : P.cellsOf t = 1) : Rd enc P w t 1 (fun ps => ∃ s : ByteArray, s.size ≤ maxLen ∧ ps = [.base (.string s)]) := by
  refine ⟨hc, fun fuel cs x hx => ?_⟩
  obtain ⟨s, rfl, _, hs⟩ := DataW.trod_string ht hx
  exact ⟨_, ⟨s, hs, rfl⟩, .cons (.base _ (by simpa [baseOk] using hs)) .nil, rfl, by simp [Value.oneCell']⟩

theorem rd_slice {t e : TypeId} {sz : Nat} {α : Type} [Inhabited α] {G : α → Prop} {f : α → PV} (ht : P.underlying t = some (.slice e)) (hc : P.cellsOf t = 1) (h0 : 0 < sz) (he : Rd enc P w e sz (fun ps => ∃ x : α, G x ∧ ps = (f x).cells)) :
    Rd enc P w t 1 (fun ps => ∃ l : List α, (∀ x ∈ l, G x) ∧ ps = [.slc sz (l.map f) false]) := by
  refine ⟨hc, fun fuel cs x hx => ?_⟩
  obtain ⟨hes, hel⟩ := he
  rcases open_slice ht hx with ⟨rfl, _⟩ | ⟨a, len, cap, m, n, D, Pl, rfl, _, hl, hm, hmm, _, hall⟩
  · exact ⟨_, ⟨[], by simp, rfl⟩, .cons (.nil sz false) .nil, rfl, by simp [Value.oneCell']⟩
  · simp only [if_true] at hmm
    subst hmm
    rw [hes] at hall
    by_cases hcap : m = 0
    · subst hcap
      obtain rfl : len = 0 := by omega
      exact ⟨_, ⟨[], by simp, rfl⟩, .cons (.emp sz false a) .nil, rfl, by simp [Value.oneCell']⟩
    · have hx : ∀ i, i < len → ∃ y : α × List Value, G y.1 ∧ w.cells? 0 (a.add (i * sz)) sz = some y.2 ∧ PRels (KW w) w (f y.1).cells y.2 ∧ y.2.length = sz ∧ (∀ v ∈ y.2, v.oneCell' = true) := by
        intro i hi
        obtain ⟨cs', h1, h2⟩ := hall i (by omega)
        obtain ⟨pvs, ⟨x, hg, rfl⟩, h4, h5, h6⟩ := hel _ _ _ h2
        exact ⟨(x, cs'), hg, h1, h4, h5, h6⟩
      obtain ⟨F, hF⟩ := choose_lt hx
      obtain ⟨b, o, spot⟩ := a
      have hspot : spot = none := by
        obtain ⟨cs', h1, _⟩ := hall 0 (by omega)
        obtain ⟨_, h2, h3⟩ := World.cells?_some h1
        have := h3 0 h0
        have h4 : cs'[0]? = some (cs'[0]'(by omega)) := List.getElem?_eq_getElem _
        rw [h4] at this
        simp only [Nat.zero_mul] at this
        have := World.cell?_spot this
        simpa [Addr.add] using this
      subst hspot
      refine ⟨_, ⟨(List.range len).map fun i => (F i).1, ?_, rfl⟩, .cons ?_ .nil, rfl, by simp [Value.oneCell']⟩
      · intro x hx
        simp only [List.mem_map, List.mem_range] at hx
        obtain ⟨i, hi, rfl⟩ := hx
        exact (hF i hi).1
      · have hlen : (((List.range len).map fun i => (F i).1).map f).length = len := by simp
        have hget : ∀ i e, (((List.range len).map fun i => (F i).1).map f)[i]? = some e → i < len ∧ e = f (F i).1 := by
          intro i e he
          have hi : i < len := by have := (List.getElem?_eq_some_iff.1 he).1; rw [hlen] at this; exact this
          refine ⟨hi, ?_⟩
          simp [hi] at he
          exact he.symm
        have := PRel.slc (K := KW w) (w := w) sz (((List.range len).map fun i => (F i).1).map f) false b o m (fun i => (F i).2) h0 (by rw [hlen]; exact hl) (by simp) (by rw [hlen]; omega) hm
          (fun i e he => by
            obtain ⟨hi, rfl⟩ := hget i e he
            obtain ⟨_, h1, h2, h3, h4⟩ := hF i hi
            refine ⟨by rw [← h2.1]; exact h3, h3, fun k v hv => ?_⟩
            have hk : k < sz := by rw [← h3]; exact (List.getElem?_eq_some_iff.1 hv).1
            obtain ⟨_, _, h5⟩ := World.cells?_some h1
            have h6 := h5 k hk
            rw [hv, Addr.add_lit, Addr.add_lit] at h6
            have h7 : b < w.heap.size := World.cells?_block h1 h0 |> (by simpa [Addr.add_lit] using ·)
            exact ⟨h7, h6, h4 v (List.mem_of_getElem? hv)⟩)
          (fun i e k c v he hc hv => by
            obtain ⟨hi, rfl⟩ := hget i e he
            exact (hF i hi).2.2.1.2 k c v hc hv)
        rw [hlen] at this
        exact this

def CatX : List (List PV → Prop) → List PV → Prop
  | [], ps => ps = []
  | X :: r, ps => ∃ a b, X a ∧ CatX r b ∧ ps = a ++ b

def FitsF (enc : TypeId × Value → H) (P : Program) (w : World) (n : Nat) : List Field → List (List PV → Prop) → Nat → Prop
  | [], [], off => off = n
  | f :: fs, X :: Xs, off => f.offset = off ∧ ∃ sz, Rd enc P w f.type sz X ∧ FitsF enc P w n fs Xs (off + sz)
  | _, _, _ => False

theorem fits_nil {n : Nat} : FitsF enc P w n [] [] n := rfl
theorem fits_cons {n sz off : Nat} {f : Field} {fs : List Field} {X : List PV → Prop} {Xs : List (List PV → Prop)} (ho : f.offset = off) (hr : Rd enc P w f.type sz X) (h : FitsF enc P w n fs Xs (off + sz)) : FitsF enc P w n (f :: fs) (X :: Xs) off := ⟨ho, sz, hr, h⟩

theorem fitsF_rd {n m : Nat} {cs : List Value} (hl : cs.length = n) : ∀ {fs : List Field} {Xs : List (List PV → Prop)} {off : Nat}, FitsF enc P w n fs Xs off →
    (∀ (i : Nat) (f : Field), fs[i]? = some f → ∃ x, DataW.trod enc P w 0 (fun _ => true) true m f.type ((cs.drop f.offset).take (P.cellsOf f.type)) = some x) →
    ∃ pvs, CatX Xs pvs ∧ PRels (KW w) w pvs (cs.drop off) ∧ (∀ v ∈ cs.drop off, v.oneCell' = true)
  | [], [], off, h, _ => by
    have h : off = n := h
    subst h
    have : cs.drop off = [] := by rw [← hl]; simp
    rw [this]
    exact ⟨[], rfl, .nil, by simp⟩
  | f :: fs, X :: Xs, off, h, hall => by
    obtain ⟨rfl, sz, ⟨h1, h2⟩, h3⟩ := h
    obtain ⟨x, hx⟩ := hall 0 f rfl
    obtain ⟨pa, a1, a2, a3, a4⟩ := h2 _ _ _ hx
    obtain ⟨pb, b1, b2, b3⟩ := fitsF_rd hl h3 (fun i g hg => hall (i + 1) g (by simpa using hg))
    have e : cs.drop f.offset = (cs.drop f.offset).take sz ++ cs.drop (f.offset + sz) := by
      rw [← List.drop_drop, List.take_append_drop]
    rw [h1] at a2 a3 a4
    rw [e]
    exact ⟨pa ++ pb, ⟨pa, pb, a1, b1, rfl⟩, a2.append b2, fun v hv => (List.mem_append.1 hv).elim (a4 v) (b3 v)⟩

theorem rd_struct {t : TypeId} {fs : Array Field} {n : Nat} {Xs : List (List PV → Prop)} (ht : P.underlying t = some (.struct fs)) (hc : P.cellsOf t = n) (hf : FitsF enc P w n fs.toList Xs 0) : Rd enc P w t n (CatX Xs) := by
  refine ⟨hc, fun fuel cs x hx => ?_⟩
  obtain ⟨xs, m, _, _, hl, hxs, hall⟩ := DataW.trod_struct ht hx
  have := fitsF_rd (m := m) (by rw [hl, hc]) hf (fun i f hf => by
    have hi : i < fs.size := by simpa using (List.getElem?_eq_some_iff.1 hf).1
    have := hall i f (by simpa using hf)
    exact ⟨_, this.trans (List.getElem?_eq_getElem (by omega))⟩)
  simp only [List.drop_zero] at this
  obtain ⟨pvs, h1, h2, h3⟩ := this
  exact ⟨pvs, h1, h2, by rw [hl, hc], h3⟩

/-- An argument of one cell. -/
theorem rd_one {t : TypeId} {X : List PV → Prop} (h : Rd enc P w t 1 X) {v : Value} {d : DataW H} {ps : List MemPlace} (hv : v.cells = #[v]) (ht : DataW.Trod enc P w 0 (fun _ => true) true t v d ps) : ∃ p, X [p] ∧ PRel (KW w) w p v := by
  obtain ⟨fuel, hx⟩ := ht
  obtain ⟨pvs, h1, h2, _, _⟩ := h.2 _ _ _ hx
  rw [hv] at h2
  have hl : pvs.length = 1 := by simpa using h2.1.symm
  obtain ⟨p, rfl⟩ := List.length_eq_one_iff.1 hl
  exact ⟨p, h1, h2.2 0 p v (by simp) (by simp)⟩
/-- An argument that is a struct or an array. -/
theorem rd_agg {t : TypeId} {n : Nat} {X : List PV → Prop} (h : Rd enc P w t n X) {cs : Array Value} {d : DataW H} {ps : List MemPlace} (ht : DataW.Trod enc P w 0 (fun _ => true) true t (.agg cs) d ps) : ∃ pvs, X pvs ∧ PRel (KW w) w (.agg pvs) (.agg cs) := by
  obtain ⟨fuel, hx⟩ := ht
  obtain ⟨pvs, h1, h2, _, h4⟩ := h.2 _ _ _ hx
  refine ⟨pvs, h1, ?_⟩
  have := PRel.agg pvs cs.toList h2.1 (by simpa [Value.cells] using h4) (by simpa [Value.cells] using h2.2)
  simpa using this

theorem okWide_slice_one {t e : TypeId} {v : Value} (ht : P.underlying t = some (.slice e)) {base : Nat} (h : Value.okWide P w .any base t v) : v.cells = #[v] := by
  simp only [Value.okWide, ht, Cell.okWide, Cell.ok] at h
  cases v <;> first | rfl | simp at h
theorem okWide_int_one {t : TypeId} {k : IntKind} {v : Value} (ht : P.underlying t = some (.int k)) {base : Nat} (h : Value.okWide P w .any base t v) : v.cells = #[v] := by
  simp only [Value.okWide, ht, Cell.okWide, Cell.ok] at h
  cases v <;> first | rfl | simp at h
theorem okWide_struct {t : TypeId} {fs : Array Field} {v : Value} (ht : P.underlying t = some (.struct fs)) {base : Nat} (h : Value.okWide P w .any base t v) : ∃ cs, v = .agg cs := by
  simp only [Value.okWide, ht] at h
  obtain ⟨cs, h, _⟩ := h
  exact ⟨cs, h⟩
theorem okWide_array {t e : TypeId} {n : Nat} {v : Value} (ht : P.underlying t = some (.array n e)) {base : Nat} (h : Value.okWide P w .any base t v) : ∃ cs, v = .agg cs := by
  simp only [Value.okWide, ht] at h
  obtain ⟨cs, h, _⟩ := h
  exact ⟨cs, h⟩

theorem rd_array3 {t e : TypeId} {sz : Nat} {X : List PV → Prop} (ht : P.underlying t = some (.array 3 e)) (hc : P.cellsOf t = 3 * sz) (he : Rd enc P w e sz X) : Rd enc P w t (3 * sz) (CatX [X, X, X]) := by
  refine ⟨hc, fun fuel cs x hx => ?_⟩
  obtain ⟨xs, m, _, _, hl, hxs, hall⟩ := DataW.trod_array ht hx
  obtain ⟨hes, hel⟩ := he
  rw [hc] at hl
  rw [hes] at hall
  have one : ∀ i, i < 3 → ∃ pvs, X pvs ∧ PRels (KW w) w pvs ((cs.drop (i * sz)).take sz) ∧ (∀ v ∈ (cs.drop (i * sz)).take sz, v.oneCell' = true) := by
    intro i hi
    have h1 := (hall i hi).trans (List.getElem?_eq_getElem (by omega))
    obtain ⟨pvs, h2, h3, _, h5⟩ := hel _ _ _ h1
    exact ⟨pvs, h2, h3, h5⟩
  obtain ⟨a, a1, a2, a3⟩ := one 0 (by omega)
  obtain ⟨b, b1, b2, b3⟩ := one 1 (by omega)
  obtain ⟨c, c1, c2, c3⟩ := one 2 (by omega)
  have hcs : cs = (cs.drop (0 * sz)).take sz ++ ((cs.drop (1 * sz)).take sz ++ (cs.drop (2 * sz)).take sz) := by
    have e1 : cs = cs.take sz ++ (cs.drop sz) := (List.take_append_drop sz cs).symm
    have e2 : cs.drop sz = (cs.drop sz).take sz ++ (cs.drop sz).drop sz := (List.take_append_drop sz _).symm
    have e3 : (cs.drop sz).drop sz = (cs.drop (2 * sz)).take sz := by
      rw [List.drop_drop, show sz + sz = 2 * sz by omega, List.take_of_length_le]; simp; omega
    simp only [Nat.zero_mul, List.drop_zero, Nat.one_mul]
    rw [← e3, ← e2, ← e1]
  refine ⟨a ++ (b ++ c), ⟨a, b ++ c, a1, ⟨b, c, b1, ⟨c, [], c1, rfl, by simp⟩, rfl⟩, rfl⟩, ?_, hl, ?_⟩
  · rw [hcs]; exact a2.append (b2.append c2)
  · rw [hcs]
    intro v hv
    simp only [List.mem_append] at hv
    rcases hv with hv | hv | hv
    · exact a3 v hv
    · exact b3 v hv
    · exact c3 v hv
end
end Go.Cg
