/- A part of the walks by abstract values: no statement of its own. -/
import Derived.Test.YtglfbaimlajjgaaGreatU12
import Derived.Test.YtglfbaimlajjgaaGreatU9
import Derived.JoinedOf
import Derived.Test.YtglfbaimlajjgaaGreatU4
import Derived.OpenShut
import Derived.Deep.Slices
import Derived.ProofKit
import Derived.Test.YtglfbaimlajjgaaGreatRows
import Derived.Test.YtglfbaimlajjgaaGreatU8
import Derived.Test.YtglfbaimlajjgaaGreatChecked
namespace Go.Cg
open Go.Proofs

theorem cellsA_no {g : Img} {t : Ty} (h : (fineR g && usedR g t) = false) : cellsA g t = [] := by rw [cellsA, h]; rfl
theorem cellsA_yes {g : Img} {t : Ty} (h1 : fineR g = true) (h2 : usedR g t = true) : cellsA g t = cellsT g t := by rw [cellsA, h1, h2]; rfl
set_option maxHeartbeats 1000000 in
theorem LayoutCells_call (g : Img) (hx : OkA g) (t : Ty) : ACall Tryz.prog 7 [imgPV g, tyPV t] (pb true) := by
  refine acall_intro tbOK Tryz.func7 rfl (by kernel_rfl) Tryz.ntmps7 (by simp) _ rfl (fun hw gB hgB => ?_)
  have c1 := Long_call g
  cases hl : longG g
  · rw [hl] at c1
    have c2 := UsedA_call g hx t
    have c3 := Well_call g
    have c4 := UsedR_call g t
    have c5 := CellsA_call g hx t
    have c6 := Words_call g hx t
    have c7 := FineR_call g
    have hw6 : (((cellsA g t).length : Nat) : Int) = (((cellsA g t).map tyPV).length : Nat) := by simp
    cases hfi : fineR g
    · have hn := cellsA_no (g := g) (t := t) (by rw [hfi]; rfl)
      rw [hfi] at c7
      rw [hn] at c5 c6
      cases hwl : wellR g <;> cases hus : usedR g t <;> rw [hwl] at c3 c2 <;> rw [hus] at c4 c2
      all_goals
        repeat' (first | (refine shC ?_; first | refine qC wakes12_call ?_ | refine qC c1 ?_ | refine qC c2 ?_ | refine qC c3 ?_ | refine qC c4 ?_ | refine qC c5 ?_ | refine qC c6 ?_ | refine qC c7 ?_) | refine sK ?_ | refine sC (fun _ => ?_) (fun _ => ?_) | fail)
        all_goals exact retq rfl rfl
    · have hF := fine_of hfi
      rw [hfi] at c7
      rw [hF.well] at c3 c2
      cases hus : usedR g t
      · have hn := cellsA_no (g := g) (t := t) (by rw [hus]; simp)
        rw [hus] at c4 c2
        rw [hn] at c5 c6
        repeat' (first | (refine shC ?_; first | refine qC wakes12_call ?_ | refine qC c1 ?_ | refine qC c2 ?_ | refine qC c3 ?_ | refine qC c4 ?_ | refine qC c5 ?_ | refine qC c6 ?_ | refine qC c7 ?_) | refine sK ?_ | refine sC (fun _ => ?_) (fun _ => ?_) | fail)
        all_goals exact retq rfl rfl
      · have hn := cellsA_yes hfi hus
        rw [hus] at c4 c2
        rw [hn] at c5 c6
        have c8 := CellsRT_call g hF t
        have c9 := SameTypes_call (cellsT g t) (cellsT g t)
        rw [decide_eq_true rfl] at c9
        have hb : ((((cellsT g t).length : Nat) : Int) != ((((cellsT g t).map tyPV).length : Nat) : Int)) = false := by simp
        repeat' (first | (refine shC ?_; first | refine qC wakes12_call ?_ | refine qC c1 ?_ | refine qC c2 ?_ | refine qC c3 ?_ | refine qC c4 ?_ | refine qC c5 ?_ | refine qC c6 ?_ | refine qC c7 ?_ | refine qC c8 ?_ | refine qC c9 ?_) | refine sK ?_ | refine sC (fun _ => ?_) (fun _ => ?_) | fail)
        all_goals exact retq rfl rfl
  · rw [hl] at c1
    repeat' (first | (refine shC ?_; first | refine qC wakes12_call ?_ | refine qC c1 ?_) | refine sK ?_ | refine sC (fun _ => ?_) (fun _ => ?_) | fail)
    all_goals exact retq rfl rfl
set_option maxHeartbeats 1000000 in
theorem LayoutObjects_call (g : Img) (hx : OkA g) (t f : Int) : ACall Tryz.prog 5 [imgPV g, pi t, pi f] (pb true) := by
  refine acall_intro tbOK Tryz.func5 rfl (by kernel_rfl) Tryz.ntmps5 (by simp) _ rfl (fun hw gB hgB => ?_)
  have c1 := Long_call g
  cases hl : longG g
  · rw [hl] at c1
    have c2 := ObjectA_call g hx t
    have c3 := StaticsA_call g hx
    have c4 := PlaceA_call g hx f
    have c7 := FineR_call g
    cases hfi : fineR g
    · rw [hfi] at c7
      rw [show objectA g t = [] by simp [objectA, hfi]] at c2
      rw [show staticsA g = [] by simp [staticsA, hfi]] at c3
      rw [show placeA g f = -1 by simp [placeA, hfi]] at c4
      repeat' (first | (refine shC ?_; first | refine qC wakes12_call ?_ | refine qC c1 ?_ | refine qC c2 ?_ | refine qC c3 ?_ | refine qC c4 ?_ | refine qC c7 ?_) | refine sK ?_ | refine sC (fun _ => ?_) (fun _ => ?_) | fail)
      all_goals exact retq rfl rfl
    · have hF := fine_of hfi
      rw [hfi] at c7
      rw [show staticsA g = statT g g.fields.length by simp [staticsA, hfi]] at c3
      have c5 := KindR_call g t
      have c6 := ObjectR_call g hF t
      have c8 := StaticsR_call g hF g.fields.length (Nat.le_refl _)
      rw [show ((g.fields.length : Nat) : Int) = (((g.fields.map fdPV).length : Nat) : Int) by simp] at c8
      have c9 := SameTypes_call (objT g t) (objT g t)
      rw [decide_eq_true rfl] at c9
      have c10 := SameTypes_call (statT g g.fields.length) (statT g g.fields.length)
      rw [decide_eq_true rfl] at c10
      have hfin : ∀ H env, AW Tryz.prog 82 gB (.seq (.region 0 #[] false) .skip) env H (fun _ _ _ => True) → True := fun _ _ _ => trivial
      clear hfin
      have hp : (f < 0 ∨ (g.fields.length : Int) ≤ f) → placeA g f = -1 := by
        intro h
        simp only [placeA, hfi, Bool.true_and]
        rw [if_neg]
        simp only [Bool.and_eq_true, decide_eq_true_eq]; omega
      by_cases hk : kindG g t = 0
      · rw [show objectA g t = objT g t by simp [objectA, hfi, hk]] at c2
        rw [hk] at c5
        by_cases hin : 0 ≤ f ∧ f < g.fields.length
        · obtain ⟨k, rfl⟩ : ∃ k : Nat, f = k := ⟨f.toNat, by omega⟩
          have hk : k < g.fields.length := by omega
          have e : placeA g (k : Int) = placeT g k := by simp [placeA, hfi, hk]
          rw [e] at c4
          have c11 := PlaceR_call g hF k hk
          have hd1 : decide ((k : Int) < 0) = false := decide_eq_false (by omega)
          have hd2 : decide ((((g.fields.map fdPV).length : Nat) : Int) ≤ (k : Int)) = false := decide_eq_false (by rw [List.length_map]; omega)
          repeat' (first | (refine shC ?_; first | refine qC wakes12_call ?_ | refine qC c1 ?_ | refine qC c2 ?_ | refine qC c3 ?_ | refine qC c4 ?_ | refine qC c5 ?_ | refine qC c6 ?_ | refine qC c7 ?_ | refine qC c8 ?_ | refine qC c9 ?_ | refine qC c10 ?_ | refine qC c11 ?_) | refine sK ?_ | refine sC (fun _ => ?_) (fun _ => ?_) | fail)
          all_goals exact retq rfl (by simp [retPV])
        · rw [hp (by omega)] at c4
          repeat' (first | (refine shC ?_; first | refine qC wakes12_call ?_ | refine qC c1 ?_ | refine qC c2 ?_ | refine qC c3 ?_ | refine qC c4 ?_ | refine qC c5 ?_ | refine qC c6 ?_ | refine qC c7 ?_ | refine qC c8 ?_ | refine qC c9 ?_ | refine qC c10 ?_) | refine sA ?_ | refine sC (fun _ => ?_) (fun _ => ?_) | fail)
          all_goals first
            | exact retq rfl rfl
            | (exfalso; simp_all; done)
            | (exfalso; simp_all; omega)
      · rw [show objectA g t = [] by simp [objectA, hk]] at c2
        have hkb1 : (kindG g t != 0) = true := by simp [hk]
        have hkb2 : (kindG g t == 0) = false := by simp [hk]
        by_cases hin : 0 ≤ f ∧ f < g.fields.length
        · obtain ⟨k, rfl⟩ : ∃ k : Nat, f = k := ⟨f.toNat, by omega⟩
          have hk : k < g.fields.length := by omega
          have e : placeA g (k : Int) = placeT g k := by simp [placeA, hfi, hk]
          rw [e] at c4
          have c11 := PlaceR_call g hF k hk
          have hd1 : decide ((k : Int) < 0) = false := decide_eq_false (by omega)
          have hd2 : decide ((((g.fields.map fdPV).length : Nat) : Int) ≤ (k : Int)) = false := decide_eq_false (by rw [List.length_map]; omega)
          repeat' (first | (refine shC ?_; first | refine qC wakes12_call ?_ | refine qC c1 ?_ | refine qC c2 ?_ | refine qC c3 ?_ | refine qC c4 ?_ | refine qC c5 ?_ | refine qC c6 ?_ | refine qC c7 ?_ | refine qC c8 ?_ | refine qC c9 ?_ | refine qC c10 ?_ | refine qC c11 ?_) | refine sK ?_ | refine sC (fun _ => ?_) (fun _ => ?_) | fail)
          all_goals exact retq rfl (by simp [retPV])
        · rw [hp (by omega)] at c4
          repeat' (first | (refine shC ?_; first | refine qC wakes12_call ?_ | refine qC c1 ?_ | refine qC c2 ?_ | refine qC c3 ?_ | refine qC c4 ?_ | refine qC c5 ?_ | refine qC c6 ?_ | refine qC c7 ?_ | refine qC c8 ?_ | refine qC c9 ?_ | refine qC c10 ?_) | refine sA ?_ | refine sC (fun _ => ?_) (fun _ => ?_) | fail)
          all_goals first
            | exact retq rfl rfl
            | (exfalso; simp_all; done)
            | (exfalso; simp_all; omega)
  · rw [hl] at c1
    repeat' (first | (refine shC ?_; first | refine qC wakes12_call ?_ | refine qC c1 ?_) | refine sK ?_ | refine sC (fun _ => ?_) (fun _ => ?_) | fail)
    all_goals exact retq rfl rfl
end Go.Cg
/- What holds asks of the program itself, put together from parts that the kernel takes one by one. -/
namespace Go.Cg
open Go
theorem joined_of {P : Program} {f : FuncId} {fn : Func} {s : ChangeSpec} {c : OpenClaim}
    (a1 : laidOutB P = true) (a2 : mapsRowed P = true) (a3 : P.stopsHeard = true) (a4 : P.mayEnter = true) (a5 : P.liftsFinal = c.lifted) (a6 : P.make = some c.make)
    (b1 : P.inPlace f = c.inPlace) (b2 : P.unfollowed f = c.unfollowed) (b3 : P.recurses f = c.recurses) (b4 : P.varsNamed f = c.named)
    (rest : (c.wf (OpenSpec.ofChange s) && fn.params.all (P.readableRec ·) && namedTie P c.named s.vars &&
      (c.stops == []) && (P.stops == []) && (c.knobs == []) && (P.stopKnobs == []) &&
      (c.maps == (fn.params.toList ++ s.plain.varTypes P).any (P.mapsRec ·)) && (c.ifaces == (fn.params.toList ++ s.plain.varTypes P).any (P.ifacesRec ·)) && (c.mapsOut == P.mapsAmong fn.resultTypes.toList) &&
      (c.loops == (fn.params.toList ++ s.plain.varTypes P).any (P.loopsFrom ·)) && (c.wideKeys == (fn.params.toList ++ s.plain.varTypes P ++ fn.resultTypes.toList).any (P.wideKeysFrom ·)) &&
      s.vars.all (P.varReadable ·) && fn.resultTypes.all (fun t => P.readableRec t && decide (t < P.types.size)) && (c.ifacesOut == fn.resultTypes.toList.any (P.ifacesRec ·)) && (c.loopsOut == fn.resultTypes.toList.any (P.loopsFrom ·)) && (c.plainKeys == P.plainKeys) && c.shortTexts.isNone && (c.kinds == (if c.domain.isEmpty then [] else fn.params.toList.map fun t => match P.underlying t with | some (.int k) => some k | _ => none)) && (c.pinned == c.pinnedBy) &&
      (c.veiled == (fn.params.toList ++ s.plain.varTypes P ++ fn.resultTypes.toList).any (P.veiledRec ·)) && c.veiledFits P fn.params.toList (fn.params.toList ++ s.plain.varTypes P ++ fn.resultTypes.toList)) = true) : joinedFacts P f fn s c = true := by
  unfold joinedFacts
  rw [a1, a2, a3, a4, a5, a6, b1, b2, b3, b4]
  simp only [Bool.and_eq_true, beq_self_eq_true, and_true] at rest ⊢
  exact rest
end Go.Cg
/- From a reading of an argument to a pure value. -/
namespace Go.Cg
open Go.RowKit Go.ChangeShapes Go.WideShapes Go.ChangeAt Go.Deep

/-- All that lay when the call began. -/
def KW (w : World) : KK := fun b _ => b < w.heap.size

section
variable {H : Type} {enc : TypeId × Value → H} {P : Program} {w : World}

/-- Whatever reads at this type, holds cells of this kind. -/
def Rd (enc : TypeId × Value → H) (P : Program) (w : World) (t : TypeId) (sz : Nat) (X : List PV → Prop) : Prop :=
  P.cellsOf t = sz ∧ ∀ fuel cs x, DataW.trod enc P w 0 (fun _ => true) true fuel t cs = some x → ∃ pvs, X pvs ∧ PRels (KW w) w pvs cs ∧ cs.length = sz ∧ (∀ v ∈ cs, v.oneCell' = true)

theorem Rd.mono {t : TypeId} {sz : Nat} {X Y : List PV → Prop} (h : Rd enc P w t sz X) (hxy : ∀ ps, X ps → Y ps) : Rd enc P w t sz Y :=
  ⟨h.1, fun fuel cs x hx => let ⟨ps, h1, h2⟩ := h.2 fuel cs x hx; ⟨ps, hxy ps h1, h2⟩⟩

theorem rd_int {t : TypeId} {k : IntKind} (ht : P.underlying t = some (.int k)) (hc : P.cellsOf t = 1) : Rd enc P w t 1 (fun ps => ∃ n, (Lit.int k n).wf = true ∧ ps = [.base (.int k n)]) := by
  refine ⟨hc, fun fuel cs x hx => ?_⟩
  obtain ⟨n, rfl, _, hw⟩ := DataW.trod_int ht hx
  exact ⟨_, ⟨n, hw, rfl⟩, .cons (.base _ rfl) .nil, rfl, by simp [Value.oneCell']⟩

theorem rd_bool {t : TypeId} (ht : P.underlying t = some .bool) (hc : P.cellsOf t = 1) : Rd enc P w t 1 (fun ps => ∃ b, ps = [.base (.bool b)]) := by
  refine ⟨hc, fun fuel cs x hx => ?_⟩
  obtain ⟨b, rfl, _⟩ := DataW.trod_bool ht hx
  exact ⟨_, ⟨b, rfl⟩, .cons (.base _ rfl) .nil, rfl, by simp [Value.oneCell']⟩

theorem rd_string {t : TypeId} (ht : P.underlying t = some .string) (hc : P.cellsOf t = 1) : Rd enc P w t 1 (fun ps => ∃ s : ByteArray, s.size ≤ maxLen ∧ ps = [.base (.string s)]) := by
  refine ⟨hc, fun fuel cs x hx => ?_⟩
  obtain ⟨s, rfl, _, hs⟩ := DataW.trod_string ht hx
  exact ⟨_, ⟨s, hs, rfl⟩, .cons (.base _ (by simpa [baseOk] using hs)) .nil, rfl, by simp [Value.oneCell']⟩

theorem rd_slice {t e : TypeId} {sz : Nat} {α : Type} [Inhabited α] {G : α → Prop} {f : α → PV} (ht : P.underlying t = some (.slice e)) (hc : P.cellsOf t = 1) (h0 : 0 < sz) (he : Rd enc P w e sz (fun ps => ∃ x : α, G x ∧ ps = (f x).cells)) :
    Rd enc P w t 1 (fun ps => ∃ l : List α, (∀ x ∈ l, G x) ∧ ps = [.slc sz (l.map f) false]) := by
  refine ⟨hc, fun fuel cs x hx => ?_⟩
  obtain ⟨hes, hel⟩ := he
  rcases open_slice ht hx with ⟨rfl, _⟩ | ⟨a, len, cap, m, n, D, Pl, rfl, _, hl, hm, hmm, _, hall⟩
  · exact ⟨_, ⟨[], by simp, rfl⟩, .cons (.nil sz false) .nil, rfl, by simp [Value.oneCell']⟩
  · simp only [if_true] at hmm
    subst hmm
    rw [hes] at hall
    by_cases hcap : m = 0
    · subst hcap
      obtain rfl : len = 0 := by omega
      exact ⟨_, ⟨[], by simp, rfl⟩, .cons (.emp sz false a) .nil, rfl, by simp [Value.oneCell']⟩
    · have hx : ∀ i, i < len → ∃ y : α × List Value, G y.1 ∧ w.cells? 0 (a.add (i * sz)) sz = some y.2 ∧ PRels (KW w) w (f y.1).cells y.2 ∧ y.2.length = sz ∧ (∀ v ∈ y.2, v.oneCell' = true) := by
        intro i hi
        obtain ⟨cs', h1, h2⟩ := hall i (by omega)
        obtain ⟨pvs, ⟨x, hg, rfl⟩, h4, h5, h6⟩ := hel _ _ _ h2
        exact ⟨(x, cs'), hg, h1, h4, h5, h6⟩
      obtain ⟨F, hF⟩ := choose_lt hx
      obtain ⟨b, o, spot⟩ := a
      have hspot : spot = none := by
        obtain ⟨cs', h1, _⟩ := hall 0 (by omega)
        obtain ⟨_, h2, h3⟩ := World.cells?_some h1
        have := h3 0 h0
        have h4 : cs'[0]? = some (cs'[0]'(by omega)) := List.getElem?_eq_getElem _
        rw [h4] at this
        simp only [Nat.zero_mul] at this
        have := World.cell?_spot this
        simpa [Addr.add] using this
      subst hspot
      refine ⟨_, ⟨(List.range len).map fun i => (F i).1, ?_, rfl⟩, .cons ?_ .nil, rfl, by simp [Value.oneCell']⟩
      · intro x hx
        simp only [List.mem_map, List.mem_range] at hx
        obtain ⟨i, hi, rfl⟩ := hx
        exact (hF i hi).1
      · have hlen : (((List.range len).map fun i => (F i).1).map f).length = len := by simp
        have hget : ∀ i e, (((List.range len).map fun i => (F i).1).map f)[i]? = some e → i < len ∧ e = f (F i).1 := by
          intro i e he
          have hi : i < len := by have := (List.getElem?_eq_some_iff.1 he).1; rw [hlen] at this; exact this
          refine ⟨hi, ?_⟩
          simp [hi] at he
          exact he.symm
        have := PRel.slc (K := KW w) (w := w) sz (((List.range len).map fun i => (F i).1).map f) false b o m (fun i => (F i).2) h0 (by rw [hlen]; exact hl) (by simp) (by rw [hlen]; omega) hm
          (fun i e he => by
            obtain ⟨hi, rfl⟩ := hget i e he
            obtain ⟨_, h1, h2, h3, h4⟩ := hF i hi
            refine ⟨by rw [← h2.1]; exact h3, h3, fun k v hv => ?_⟩
            have hk : k < sz := by rw [← h3]; exact (List.getElem?_eq_some_iff.1 hv).1
            obtain ⟨_, _, h5⟩ := World.cells?_some h1
            have h6 := h5 k hk
            rw [hv, Addr.add_lit, Addr.add_lit] at h6
            have h7 : b < w.heap.size := World.cells?_block h1 h0 |> (by simpa [Addr.add_lit] using ·)
            exact ⟨h7, h6, h4 v (List.mem_of_getElem? hv)⟩)
          (fun i e k c v he hc hv => by
            obtain ⟨hi, rfl⟩ := hget i e he
            exact (hF i hi).2.2.1.2 k c v hc hv)
        rw [hlen] at this
        exact this

def CatX : List (List PV → Prop) → List PV → Prop
  | [], ps => ps = []
  | X :: r, ps => ∃ a b, X a ∧ CatX r b ∧ ps = a ++ b

def FitsF (enc : TypeId × Value → H) (P : Program) (w : World) (n : Nat) : List Field → List (List PV → Prop) → Nat → Prop
  | [], [], off => off = n
  | f :: fs, X :: Xs, off => f.offset = off ∧ ∃ sz, Rd enc P w f.type sz X ∧ FitsF enc P w n fs Xs (off + sz)
  | _, _, _ => False

theorem fits_nil {n : Nat} : FitsF enc P w n [] [] n := rfl
theorem fits_cons {n sz off : Nat} {f : Field} {fs : List Field} {X : List PV → Prop} {Xs : List (List PV → Prop)} (ho : f.offset = off) (hr : Rd enc P w f.type sz X) (h : FitsF enc P w n fs Xs (off + sz)) : FitsF enc P w n (f :: fs) (X :: Xs) off := ⟨ho, sz, hr, h⟩

theorem fitsF_rd {n m : Nat} {cs : List Value} (hl : cs.length = n) : ∀ {fs : List Field} {Xs : List (List PV → Prop)} {off : Nat}, FitsF enc P w n fs Xs off →
    (∀ (i : Nat) (f : Field), fs[i]? = some f → ∃ x, DataW.trod enc P w 0 (fun _ => true) true m f.type ((cs.drop f.offset).take (P.cellsOf f.type)) = some x) →
    ∃ pvs, CatX Xs pvs ∧ PRels (KW w) w pvs (cs.drop off) ∧ (∀ v ∈ cs.drop off, v.oneCell' = true)
  | [], [], off, h, _ => by
    have h : off = n := h
    subst h
    have : cs.drop off = [] := by rw [← hl]; simp
    rw [this]
    exact ⟨[], rfl, .nil, by simp⟩
  | f :: fs, X :: Xs, off, h, hall => by
    obtain ⟨rfl, sz, ⟨h1, h2⟩, h3⟩ := h
    obtain ⟨x, hx⟩ := hall 0 f rfl
    obtain ⟨pa, a1, a2, a3, a4⟩ := h2 _ _ _ hx
    obtain ⟨pb, b1, b2, b3⟩ := fitsF_rd hl h3 (fun i g hg => hall (i + 1) g (by simpa using hg))
    have e : cs.drop f.offset = (cs.drop f.offset).take sz ++ cs.drop (f.offset + sz) := by
      rw [← List.drop_drop, List.take_append_drop]
    rw [h1] at a2 a3 a4
    rw [e]
    exact ⟨pa ++ pb, ⟨pa, pb, a1, b1, rfl⟩, a2.append b2, fun v hv => (List.mem_append.1 hv).elim (a4 v) (b3 v)⟩

theorem rd_struct {t : TypeId} {fs : Array Field} {n : Nat} {Xs : List (List PV → Prop)} (ht : P.underlying t = some (.struct fs)) (hc : P.cellsOf t = n) (hf : FitsF enc P w n fs.toList Xs 0) : Rd enc P w t n (CatX Xs) := by
  refine ⟨hc, fun fuel cs x hx => ?_⟩
  obtain ⟨xs, m, _, _, hl, hxs, hall⟩ := DataW.trod_struct ht hx
  have := fitsF_rd (m := m) (by rw [hl, hc]) hf (fun i f hf => by
    have hi : i < fs.size := by simpa using (List.getElem?_eq_some_iff.1 hf).1
    have := hall i f (by simpa using hf)
    exact ⟨_, this.trans (List.getElem?_eq_getElem (by omega))⟩)
  simp only [List.drop_zero] at this
  obtain ⟨pvs, h1, h2, h3⟩ := this
  exact ⟨pvs, h1, h2, by rw [hl, hc], h3⟩

/-- An argument of one cell. -/
theorem rd_one {t : TypeId} {X : List PV → Prop} (h : Rd enc P w t 1 X) {v : Value} {d : DataW H} {ps : List MemPlace} (hv : v.cells = #[v]) (ht : DataW.Trod enc P w 0 (fun _ => true) true t v d ps) : ∃ p, X [p] ∧ PRel (KW w) w p v := by
  obtain ⟨fuel, hx⟩ := ht
  obtain ⟨pvs, h1, h2, _, _⟩ := h.2 _ _ _ hx
  rw [hv] at h2
  have hl : pvs.length = 1 := by simpa using h2.1.symm
  obtain ⟨p, rfl⟩ := List.length_eq_one_iff.1 hl
  exact ⟨p, h1, h2.2 0 p v (by simp) (by simp)⟩
/-- An argument that is a struct or an array. -/
theorem rd_agg {t : TypeId} {n : Nat} {X : List PV → Prop} (h : Rd enc P w t n X) {cs : Array Value} {d : DataW H} {ps : List MemPlace} (ht : DataW.Trod enc P w 0 (fun _ => true) true t (.agg cs) d ps) : ∃ pvs, X pvs ∧ PRel (KW w) w (.agg pvs) (.agg cs) := by
  obtain ⟨fuel, hx⟩ := ht
  obtain ⟨pvs, h1, h2, _, h4⟩ := h.2 _ _ _ hx
  refine ⟨pvs, h1, ?_⟩
  have := PRel.agg pvs cs.toList h2.1 (by simpa [Value.cells] using h4) (by simpa [Value.cells] using h2.2)
  simpa using this

theorem okWide_slice_one {t e : TypeId} {v : Value} (ht : P.underlying t = some (.slice e)) {base : Nat} (h : Value.okWide P w .any base t v) : v.cells = #[v] := by
  simp only [Value.okWide, ht, Cell.okWide, Cell.ok] at h
  cases v <;> first | rfl | simp at h
theorem okWide_int_one {t : TypeId} {k : IntKind} {v : Value} (ht : P.underlying t = some (.int k)) {base : Nat} (h : Value.okWide P w .any base t v) : v.cells = #[v] := by
  simp only [Value.okWide, ht, Cell.okWide, Cell.ok] at h
  cases v <;> first | rfl | simp at h
theorem okWide_struct {t : TypeId} {fs : Array Field} {v : Value} (ht : P.underlying t = some (.struct fs)) {base : Nat} (h : Value.okWide P w .any base t v) : ∃ cs, v = .agg cs := by
  simp only [Value.okWide, ht] at h
  obtain ⟨cs, h, _⟩ := h
  exact ⟨cs, h⟩
theorem okWide_array {t e : TypeId} {n : Nat} {v : Value} (ht : P.underlying t = some (.array n e)) {base : Nat} (h : Value.okWide P w .any base t v) : ∃ cs, v = .agg cs := by
  simp only [Value.okWide, ht] at h
  obtain ⟨cs, h, _⟩ := h
  exact ⟨cs, h⟩

theorem rd_array3 {t e : TypeId} {sz : Nat} {X : List PV → Prop} (ht : P.underlying t = some (.array 3 e)) (hc : P.cellsOf t = 3 * sz) (he : Rd enc P w e sz X) : Rd enc P w t (3 * sz) (CatX [X, X, X]) := by
  refine ⟨hc, fun fuel cs x hx => ?_⟩
  obtain ⟨xs, m, _, _, hl, hxs, hall⟩ := DataW.trod_array ht hx
  obtain ⟨hes, hel⟩ := he
  rw [hc] at hl
  rw [hes] at hall
  have one : ∀ i, i < 3 → ∃ pvs, X pvs ∧ PRels (KW w) w pvs ((cs.drop (i * sz)).take sz) ∧ (∀ v ∈ (cs.drop (i * sz)).take sz, v.oneCell' = true) := by
    intro i hi
    have h1 := (hall i hi).trans (List.getElem?_eq_getElem (by omega))
    obtain ⟨pvs, h2, h3, _, h5⟩ := hel _ _ _ h1
    exact ⟨pvs, h2, h3, h5⟩
  obtain ⟨a, a1, a2, a3⟩ := one 0 (by omega)
  obtain ⟨b, b1, b2, b3⟩ := one 1 (by omega)
  obtain ⟨c, c1, c2, c3⟩ := one 2 (by omega)
  have hcs : cs = (cs.drop (0 * sz)).take sz ++ ((cs.drop (1 * sz)).take sz ++ (cs.drop (2 * sz)).take sz) := by
    have e1 : cs = cs.take sz ++ (cs.drop sz) := (List.take_append_drop sz cs).symm
    have e2 : cs.drop sz = (cs.drop sz).take sz ++ (cs.drop sz).drop sz := (List.take_append_drop sz _).symm
    have e3 : (cs.drop sz).drop sz = (cs.drop (2 * sz)).take sz := by
      rw [List.drop_drop, show sz + sz = 2 * sz by omega, List.take_of_length_le]; simp; omega
    simp only [Nat.zero_mul, List.drop_zero, Nat.one_mul]
    rw [← e3, ← e2, ← e1]
  refine ⟨a ++ (b ++ c), ⟨a, b ++ c, a1, ⟨b, c, b1, ⟨c, [], c1, rfl, by simp⟩, rfl⟩, rfl⟩, ?_, hl, ?_⟩
  · rw [hcs]; exact a2.append (b2.append c2)
  · rw [hcs]
    intro v hv
    simp only [List.mem_append] at hv
    rcases hv with hv | hv | hv
    · exact a3 v hv
    · exact b3 v hv
    · exact c3 v hv
end
end Go.Cg
namespace Go.Cg
open Go.RowKit Go.Proofs

def okTy (t : Ty) : Prop := (Lit.int .i64 t.kind).wf = true ∧ (Lit.int .i64 t.index).wf = true ∧ (Lit.int .i64 t.dims).wf = true
def okTys (l : List Ty) : Prop := ∀ t ∈ l, okTy t
def okTD (t : TD) : Prop := (Lit.int .i64 t.flags).wf = true ∧ (Lit.int .i64 t.ext).wf = true ∧ ∀ f ∈ t.faces, (Lit.int .i64 f).wf = true
def okFd (f : Fd) : Prop := (Lit.int .i64 f.owner).wf = true ∧ okTy f.ty
def okIns (x : Ins) : Prop := (Lit.int .i64 x.op).wf = true ∧ (Lit.int .i64 x.arg).wf = true ∧ okTy x.t
def okCl (c : Cl) : Prop := (Lit.int .i64 c.kind).wf = true ∧ (Lit.int .i64 c.tf).wf = true ∧ (Lit.int .i64 c.tt).wf = true ∧ (Lit.int .i64 c.hf).wf = true ∧ (Lit.int .i64 c.ht).wf = true ∧ (Lit.int .i64 c.filter).wf = true ∧ okTy c.t
def okMe (m : Me) : Prop := (Lit.int .i64 m.owner).wf = true ∧ (Lit.int .i64 m.flags).wf = true ∧ okTys m.params ∧ okTy m.ret ∧ okTys m.locals ∧ (Lit.int .i64 m.max).wf = true ∧ (∀ x ∈ m.code, okIns x) ∧ ∀ c ∈ m.clauses, okCl c
def okImg (g : Img) : Prop := (∀ t ∈ g.types, okTD t) ∧ (∀ f ∈ g.fields, okFd f) ∧ (∀ m ∈ g.methods, okMe m) ∧ (Lit.int .i64 g.entry).wf = true
def arrPV (l : Ty × Ty × Ty) : PV := .agg ((tyPV l.1).cells ++ ((tyPV l.2.1).cells ++ (tyPV l.2.2).cells))
def okArr (l : Ty × Ty × Ty) : Prop := okTy l.1 ∧ okTy l.2.1 ∧ okTy l.2.2
def okU8 (n : Int) : Prop := (Lit.int .u8 n).wf = true

section
variable {H : Type} {enc : TypeId × Value → H} {w : World}
theorem rdInt : Rd enc Tryz.prog w 3 1 (fun ps => ∃ n, (Lit.int .i64 n).wf = true ∧ ps = [.base (.int .i64 n)]) := rd_int Tryz.underlying3 (by kernel_rfl)
theorem rdInt64 : Rd enc Tryz.prog w 2 1 (fun ps => ∃ n, (Lit.int .i64 n).wf = true ∧ ps = [.base (.int .i64 n)]) := rd_int Tryz.underlying2 (by kernel_rfl)
theorem rdBool : Rd enc Tryz.prog w 4 1 (fun ps => ∃ b, ps = [.base (.bool b)]) := rd_bool Tryz.underlying4 (by kernel_rfl)
theorem rdStr : Rd enc Tryz.prog w 9 1 (fun ps => ∃ s : ByteArray, s.size ≤ maxLen ∧ ps = [.base (.string s)]) := rd_string Tryz.underlying9 (by kernel_rfl)
theorem rdTy : Rd enc Tryz.prog w 48 4 (fun ps => ∃ t : Ty, okTy t ∧ ps = (tyPV t).cells) := by
  refine (rd_struct Tryz.underlying48 (by kernel_rfl) (fits_cons rfl rdInt (fits_cons rfl rdInt (fits_cons rfl rdInt (fits_cons rfl rdBool fits_nil))))).mono ?_
  rintro _ ⟨_, _, ⟨a, ha, rfl⟩, ⟨_, _, ⟨b, hb, rfl⟩, ⟨_, _, ⟨c, hc, rfl⟩, ⟨_, _, ⟨d, rfl⟩, rfl, rfl⟩, rfl⟩, rfl⟩, rfl⟩
  exact ⟨⟨a, b, c, d⟩, ⟨ha, hb, hc⟩, rfl⟩
theorem rdTys : Rd enc Tryz.prog w 39 1 (fun ps => ∃ l : List Ty, okTys l ∧ ps = [tys l]) := rd_slice Tryz.underlying39 (by kernel_rfl) (by decide) rdTy
theorem rdInts : Rd enc Tryz.prog w 36 1 (fun ps => ∃ l : List Int, (∀ n ∈ l, (Lit.int .i64 n).wf = true) ∧ ps = [ints l]) :=
  rd_slice (f := pi) Tryz.underlying36 (by kernel_rfl) (by decide) rdInt
theorem rdTD : Rd enc Tryz.prog w 38 4 (fun ps => ∃ t : TD, okTD t ∧ ps = (tdPV t).cells) := by
  refine (rd_struct Tryz.underlying38 (by kernel_rfl) (fits_cons rfl rdStr (fits_cons rfl rdInt (fits_cons rfl rdInt (fits_cons rfl rdInts fits_nil))))).mono ?_
  rintro _ ⟨_, _, ⟨a, ha, rfl⟩, ⟨_, _, ⟨b, hb, rfl⟩, ⟨_, _, ⟨c, hc, rfl⟩, ⟨_, _, ⟨d, hd, rfl⟩, rfl, rfl⟩, rfl⟩, rfl⟩, rfl⟩
  exact ⟨⟨a, b, c, d⟩, ⟨hb, hc, hd⟩, rfl⟩
theorem rdFd : Rd enc Tryz.prog w 50 7 (fun ps => ∃ t : Fd, okFd t ∧ ps = (fdPV t).cells) := by
  refine (rd_struct Tryz.underlying50 (by kernel_rfl) (fits_cons rfl rdStr (fits_cons rfl rdInt (fits_cons rfl rdTy (fits_cons rfl rdBool fits_nil))))).mono ?_
  rintro _ ⟨_, _, ⟨a, ha, rfl⟩, ⟨_, _, ⟨b, hb, rfl⟩, ⟨_, _, ⟨c, hc, rfl⟩, ⟨_, _, ⟨d, rfl⟩, rfl, rfl⟩, rfl⟩, rfl⟩, rfl⟩
  exact ⟨⟨a, b, c, d⟩, ⟨hb, hc⟩, rfl⟩
theorem rdIns : Rd enc Tryz.prog w 119 6 (fun ps => ∃ t : Ins, okIns t ∧ ps = (insPV t).cells) := by
  refine (rd_struct Tryz.underlying119 (by kernel_rfl) (fits_cons rfl rdInt (fits_cons rfl rdInt64 (fits_cons rfl rdTy fits_nil)))).mono ?_
  rintro _ ⟨_, _, ⟨a, ha, rfl⟩, ⟨_, _, ⟨b, hb, rfl⟩, ⟨_, _, ⟨c, hc, rfl⟩, rfl, rfl⟩, rfl⟩, rfl⟩
  exact ⟨⟨a, b, c⟩, ⟨ha, hb, hc⟩, rfl⟩
theorem rdCl : Rd enc Tryz.prog w 113 10 (fun ps => ∃ t : Cl, okCl t ∧ ps = (clPV t).cells) := by
  refine (rd_struct Tryz.underlying113 (by kernel_rfl) (fits_cons rfl rdInt (fits_cons rfl rdInt (fits_cons rfl rdInt (fits_cons rfl rdInt (fits_cons rfl rdInt (fits_cons rfl rdInt (fits_cons rfl rdTy fits_nil)))))))).mono ?_
  rintro _ ⟨_, _, ⟨a, ha, rfl⟩, ⟨_, _, ⟨b, hb, rfl⟩, ⟨_, _, ⟨c, hc, rfl⟩, ⟨_, _, ⟨d, hd, rfl⟩, ⟨_, _, ⟨e, he, rfl⟩, ⟨_, _, ⟨f, hf, rfl⟩, ⟨_, _, ⟨t, ht, rfl⟩, rfl, rfl⟩, rfl⟩, rfl⟩, rfl⟩, rfl⟩, rfl⟩, rfl⟩
  exact ⟨⟨a, b, c, d, e, f, t⟩, ⟨ha, hb, hc, hd, he, hf, ht⟩, rfl⟩
theorem rdCode : Rd enc Tryz.prog w 62 1 (fun ps => ∃ l : List Ins, (∀ x ∈ l, okIns x) ∧ ps = [.slc 6 (l.map insPV) false]) := rd_slice Tryz.underlying62 (by kernel_rfl) (by decide) rdIns
theorem rdCls : Rd enc Tryz.prog w 63 1 (fun ps => ∃ l : List Cl, (∀ x ∈ l, okCl x) ∧ ps = [.slc 10 (l.map clPV) false]) := rd_slice Tryz.underlying63 (by kernel_rfl) (by decide) rdCl
theorem rdMe : Rd enc Tryz.prog w 65 12 (fun ps => ∃ t : Me, okMe t ∧ ps = (mePV t).cells) := by
  refine (rd_struct Tryz.underlying65 (by kernel_rfl) (fits_cons rfl rdStr (fits_cons rfl rdInt (fits_cons rfl rdInt (fits_cons rfl rdTys (fits_cons rfl rdTy (fits_cons rfl rdTys (fits_cons rfl rdInt (fits_cons rfl rdCode (fits_cons rfl rdCls fits_nil)))))))))).mono ?_
  rintro _ ⟨_, _, ⟨a, ha, rfl⟩, ⟨_, _, ⟨b, hb, rfl⟩, ⟨_, _, ⟨c, hc, rfl⟩, ⟨_, _, ⟨d, hd, rfl⟩, ⟨_, _, ⟨e, he, rfl⟩, ⟨_, _, ⟨f, hf, rfl⟩, ⟨_, _, ⟨t, ht, rfl⟩, ⟨_, _, ⟨x, hx, rfl⟩, ⟨_, _, ⟨y, hy, rfl⟩, rfl, rfl⟩, rfl⟩, rfl⟩, rfl⟩, rfl⟩, rfl⟩, rfl⟩, rfl⟩, rfl⟩
  exact ⟨⟨a, b, c, d, e, f, t, x, y⟩, ⟨hb, hc, hd, he, hf, ht, hx, hy⟩, rfl⟩
theorem rdTDs : Rd enc Tryz.prog w 22 1 (fun ps => ∃ l : List TD, (∀ x ∈ l, okTD x) ∧ ps = [.slc 4 (l.map tdPV) false]) := rd_slice Tryz.underlying22 (by kernel_rfl) (by decide) rdTD
theorem rdFds : Rd enc Tryz.prog w 23 1 (fun ps => ∃ l : List Fd, (∀ x ∈ l, okFd x) ∧ ps = [.slc 7 (l.map fdPV) false]) := rd_slice Tryz.underlying23 (by kernel_rfl) (by decide) rdFd
theorem rdMes : Rd enc Tryz.prog w 24 1 (fun ps => ∃ l : List Me, (∀ x ∈ l, okMe x) ∧ ps = [.slc 12 (l.map mePV) false]) := rd_slice Tryz.underlying24 (by kernel_rfl) (by decide) rdMe
theorem rdImg : Rd enc Tryz.prog w 26 4 (fun ps => ∃ t : Img, okImg t ∧ ps = (imgPV t).cells) := by
  refine (rd_struct Tryz.underlying26 (by kernel_rfl) (fits_cons rfl rdTDs (fits_cons rfl rdFds (fits_cons rfl rdMes (fits_cons rfl rdInt fits_nil))))).mono ?_
  rintro _ ⟨_, _, ⟨a, ha, rfl⟩, ⟨_, _, ⟨b, hb, rfl⟩, ⟨_, _, ⟨c, hc, rfl⟩, ⟨_, _, ⟨d, hd, rfl⟩, rfl, rfl⟩, rfl⟩, rfl⟩, rfl⟩
  exact ⟨⟨a, b, c, d⟩, ⟨ha, hb, hc, hd⟩, rfl⟩
end
theorem own : ownKnob Tryz.prog.godebug = none := by kernel_rfl
theorem laidOut : laidOutB Tryz.prog = true := by kernel_rfl
end Go.Cg
namespace Go.Cg
open Go.RowKit Go.Proofs
theorem rdU8 {H : Type} {enc : TypeId × Value → H} {w : World} : Rd enc Tryz.prog w 5 1 (fun ps => ∃ n, okU8 n ∧ ps = [.base (.int .u8 n)]) := rd_int Tryz.underlying5 (by kernel_rfl)
theorem okU8_in {n : Int} (h : okU8 n) : 0 ≤ n ∧ n ≤ 255 := by
  simp [okU8, Lit.wf, IntKind.min, IntKind.max, IntKind.bits, IntKind.signed] at h; omega
end Go.Cg
namespace Go.Cg
open Go.RowKit Go.Proofs
def okI64 (n : Int) : Prop := (Lit.int .i64 n).wf = true
theorem rdI64 {H : Type} {enc : TypeId × Value → H} {w : World} : Rd enc Tryz.prog w 3 1 (fun ps => ∃ n, okI64 n ∧ ps = [.base (.int .i64 n)]) := rdInt
theorem okI64_in {n : Int} (h : okI64 n) : -9223372036854775808 ≤ n ∧ n ≤ 9223372036854775807 := by
  simp [okI64, Lit.wf, IntKind.min, IntKind.max, IntKind.bits, IntKind.signed] at h; omega
theorem okImg_arg {g : Img} (h : okImg g) : ∀ m ∈ g.methods, ∀ x ∈ m.code, okArg x := fun m hm x hx => by
  have := ((h.2.2.1 m hm).2.2.2.2.2.2.1 x hx).2.1
  simp [Lit.wf, IntKind.min, IntKind.max, IntKind.bits, IntKind.signed] at this
  exact ⟨by omega, by omega⟩
end Go.Cg
namespace Go.Cg
open Go Go.Proofs
theorem jf_laid : laidOutB Tryz.checked.prog = true := by kernel_rfl
theorem jf_maps : mapsRowed Tryz.checked.prog = true := by kernel_rfl
theorem jf_heard : Tryz.checked.prog.stopsHeard = true := by kernel_rfl
theorem jf_enter : Tryz.checked.prog.mayEnter = true := by kernel_rfl
theorem jf_lifts : Tryz.checked.prog.liftsFinal = false := by kernel_rfl
theorem jf_make : Tryz.checked.prog.make = some .cut := by kernel_rfl
end Go.Cg
