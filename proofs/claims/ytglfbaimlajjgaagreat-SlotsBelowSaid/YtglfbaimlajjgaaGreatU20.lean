/- A part of the walks by abstract values: no statement of its own. -/
import Derived.Test.YtglfbaimlajjgaaGreatU19
import Derived.Test.YtglfbaimlajjgaaGreatU12
import Derived.Test.YtglfbaimlajjgaaGreatU14
namespace Go.Cg
open Go.Proofs

/-! whether a class has all that it must do: both sides -/
def openT (g : Img) (m : Int) : Bool := decide (m < 0) || bitF (mAt g m).flags 4
def wholeF (g : Img) (t : Int) (what : Int → Int) (fs : List Int) : Bool := !(tbl g t).any (openT g) && !fs.any fun f => (methodsOf g f).any fun m => openT g (what m)
def okI (g : Img) (m : Int) : Prop := m < 0 ∨ mOk g m
set_option maxHeartbeats 1000000 in
theorem whole1_call (g : Img) (hF : Fine g) (m : Int) (hm : okI g m) : ACall Tryz.prog 127 ([] ++ [pi m] ++ [.ptr (imgPV g) 0]) (pb (openT g m)) := by
  show ACall Tryz.prog 127 [pi m, .ptr (imgPV g) 0] (pb (openT g m))
  refine acall_intro tbOK Tryz.func127 rfl (by kernel_rfl) Tryz.ntmps127 (by simp) _ rfl (fun hw gB hgB => ?_)
  by_cases h0 : m < 0
  · repeat' (first | refine sK ?_ | refine sC (fun _ => ?_) (fun _ => ?_) | fail)
    exact retq rfl (by rw [openT, decide_eq_true h0]; rfl)
  · have hm2 : mOk g m := hm.resolve_left h0
    have hem := mAt_get hm2
    have h := mOk_flags hF.formed hm2
    have c := has_call (mAt g m) 4
    rw [(flags_eq h.1 h.2).2.2.1] at c
    have hd : decide (m < 0) = false := decide_eq_false h0
    repeat' (first | (refine shC ?_; first | refine qC c ?_) | (refine shX ?_; first | refine ao_q rfl (q_index tbOK rfl rfl rfl rfl rfl rfl hm2.1 hem) rfl rfl ?_ | refine AD.step _ _ _ _ _ rfl (q_index tbOK rfl rfl rfl rfl rfl rfl hm2.1 hem) rfl rfl ?_) | refine sK ?_ | refine sC (fun _ => ?_) (fun _ => ?_) | fail)
    exact retq rfl (by rw [openT, hd]; rfl)
set_option maxHeartbeats 1000000 in
theorem openR_call (g : Img) (m : Int) (hm : okI g m) : ACall Tryz.prog 132 [imgPV g, pi m] (pb (openT g m)) := by
  refine acall_intro tbOK Tryz.func132 rfl (by kernel_rfl) Tryz.ntmps132 (by simp) _ rfl (fun hw gB hgB => ?_)
  by_cases h0 : m < 0
  · repeat' (first | refine sK ?_ | refine sC (fun _ => ?_) (fun _ => ?_) | fail)
    exact retq rfl (by rw [openT, decide_eq_true h0]; rfl)
  · have hm2 : mOk g m := hm.resolve_left h0
    have hem := mAt_get hm2
    have hd : decide (m < 0) = false := decide_eq_false h0
    repeat' (first | (refine shC ?_; first | refine qC (Bit4_call _) ?_) | (refine shX ?_; first | refine ao_q rfl (q_index tbOK rfl rfl rfl rfl rfl rfl hm2.1 hem) rfl rfl ?_ | refine AD.step _ _ _ _ _ rfl (q_index tbOK rfl rfl rfl rfl rfl rfl hm2.1 hem) rfl rfl ?_) | refine sK ?_ | refine sC (fun _ => ?_) (fun _ => ?_) | fail)
    exact retq rfl (by rw [openT, hd]; rfl)
theorem done0_ok {g : Img} (hW : Wl g) {t m : Int} (hm : mOk g m) (hb : kindG g (ownM g m) = 0 → ownM g m ∈ up g t) : mOk g (done0 g t m) := by
  rw [done0]
  split
  · exact hm
  · rename_i h
    have := slot_in hW hb h
    rw [getD_get this]
    exact tbl_mem (List.getElem_mem this)
theorem faceT_ok {g : Img} (hW : Wl g) {t m : Int} (hk : kindG g t = 0) : okI g (faceT g t m) := by
  rw [faceT]
  cases h : faceK g t m with
  | none => exact .inl (by show (-1 : Int) < 0; omega)
  | some k =>
    have := List.mem_of_find?_eq_some h
    obtain ⟨u, hu, hku⟩ := List.mem_flatMap.1 this
    obtain ⟨q1, q2, q3⟩ := up0 hW hk hu hku
    exact .inr (done0_ok hW q1 q3)
theorem doneT_ok {g : Img} (hW : Wl g) {t m : Int} (hm : mOk g m) (hk : kindG g t = 0) (hb : kindG g (ownM g m) = 0 → ownM g m ∈ up g t) : okI g (doneT g t m) := by
  rw [doneT]
  split
  · exact faceT_ok hW hk
  · exact .inr (done0_ok hW hm hb)
theorem facesP_le {g : Img} (hF : Fm g) (t : Int) : (facesP g t).length ≤ g.types.length := by
  have := (reachT hF t).2.len
  rw [facesP, sortL]
  simpa using this
set_option maxHeartbeats 1000000 in
set_option maxHeartbeats 2000000 in
theorem wholeS_call (g : Img) (hF : Fine g) (t : Int) (hk : kindG g t = 0) : ACall Tryz.prog 84 [imgPV g, pi t] (pb (wholeF g t (faceT g t) (facesP g t))) := by
  have hW := well_wl hF.well
  obtain ⟨hgt, _, hgm, _⟩ := formedG_bounds hF.formed
  have c1 := ofS_call g hF t
  have c2 := ContainsFuncI_call (tbl g t) (openT g) 127 [] [.ptr (imgPV g) 0] (fun x hx => whole1_call g hF x (.inr (tbl_mem hx)))
  have c3 := FacesP_call g t (fm_of hF.formed)
  have hfpl := facesP_le (fm_of hF.formed) t
  refine acall_intro tbOK Tryz.func84 rfl (by kernel_rfl) Tryz.ntmps84 (by simp) _ rfl (fun hw gB hgB => ?_)
  rw [wholeF]
  cases ho : (tbl g t).any (openT g)
  · rw [ho] at c2
    repeat' (first | (refine shC ?_; first | refine qC c1 ?_ | refine qC c2 ?_ | refine qC c3 ?_) | refine sK ?_ | refine sC (fun _ => ?_) (fun _ => ?_) | fail)
    refine aw_loop (fun i : Nat => [(1, .pv (pi t)), (2, .pv (.ptr (imgPV g) 0)), (5, .pv (.fn (.func 127) [] [.ptr (imgPV g) 0])), (18, .pv (ints (facesP g t))), (19, .pv (pi (facesP g t).length)), (20, .pv (pi i))]) (fun _ => [])
      (fun i => i ≤ (facesP g t).length ∧ ((facesP g t).any fun f => (methodsOf g f).any fun m => openT g (faceT g t m)) = ((facesP g t).drop i).any fun f => (methodsOf g f).any fun m => openT g (faceT g t m)) (fun i => (facesP g t).length - i) 0 ⟨by omega, rfl⟩
      (by repeat (first | exact sub_nil | refine sub_cons rfl ?_ | (refine sub_i rfl ?_ ?_; · simp))) tH ?_
    rintro i ⟨hi, hr⟩
    by_cases hlt : i < (facesP g t).length
    · obtain ⟨f, hf⟩ : ∃ f, f = (facesP g t)[i] := ⟨_, rfl⟩
      have hef : ((facesP g t).map pi)[i]? = some (pi f) := by rw [hf]; exact map_get (f := pi) hlt
      have cm := MethodsP_call g f (by omega)
      have hml := methodsOf_len g f
      rw [drop_any hlt, ← hf] at hr
      repeat' (first | (refine shC ?_; first | refine qC cm ?_) | (refine shX ?_; first | refine qX hef ?_) | refine sK ?_ | refine sC (fun _ => ?_) (fun _ => ?_) | fail)
      refine aw_loop (fun j : Nat => [(1, .pv (pi t)), (2, .pv (.ptr (imgPV g) 0)), (5, .pv (.fn (.func 127) [] [.ptr (imgPV g) 0])), (18, .pv (ints (facesP g t))), (19, .pv (pi (facesP g t).length)), (20, .pv (pi i)), (26, .pv (ints (methodsOf g f))), (27, .pv (pi (methodsOf g f).length)), (28, .pv (pi j))]) (fun _ => [])
        (fun j => j ≤ (methodsOf g f).length ∧ ((facesP g t).any fun f => (methodsOf g f).any fun m => openT g (faceT g t m)) = ((((methodsOf g f).drop j).any fun m => openT g (faceT g t m)) || ((facesP g t).drop (i + 1)).any fun f => (methodsOf g f).any fun m => openT g (faceT g t m))) (fun j => (methodsOf g f).length - j) 0 ⟨by omega, hr⟩
        (by repeat (first | exact sub_nil | refine sub_cons rfl ?_ | (refine sub_i rfl ?_ ?_; · simp))) tH ?_
      clear hr
      rintro j ⟨hj, hr⟩
      by_cases hjl : j < (methodsOf g f).length
      · obtain ⟨m, hm⟩ : ∃ m, m = (methodsOf g f)[j] := ⟨_, rfl⟩
        have hem : ((methodsOf g f).map pi)[j]? = some (pi m) := by rw [hm]; exact map_get (f := pi) hjl
        have hmk : mOk g m := by rw [hm]; exact methodsOf_mem (List.getElem_mem hjl)
        have cf := face_call g hF t m hmk hk
        have cv := whole1_call g hF (faceT g t m) (faceT_ok hW hk)
        rw [drop_any hjl, ← hm] at hr
        cases hop : openT g (faceT g t m)
        · rw [hop] at cv hr
          repeat' (first | (refine shC ?_; first | refine qC cf ?_ | refine qV (cv) ?_) | (refine shX ?_; first | refine qX hem ?_) | refine sK ?_ | refine sC (fun _ => ?_) (fun _ => ?_) | fail)
          exact ⟨j + 1, ⟨hjl, hr⟩, tD, tS, tH⟩
        · rw [hop] at cv hr
          repeat' (first | (refine shC ?_; first | refine qC cf ?_ | refine qV (cv) ?_) | (refine shX ?_; first | refine qX hem ?_) | refine sK ?_ | refine sC (fun _ => ?_) (fun _ => ?_) | fail)
          exact retq rfl (by rw [hr]; rfl)
      · rw [drop_end (by omega)] at hr
        repeat' (first | refine sK ?_ | refine sC (fun _ => ?_) (fun _ => ?_) | fail)
        exact ⟨i + 1, ⟨hlt, hr⟩, tD, tS, tH⟩
    · rw [drop_end (by omega)] at hr
      repeat' (first | refine sK ?_ | refine sC (fun _ => ?_) (fun _ => ?_) | fail)
      exact retq rfl (by rw [hr]; rfl)
  · rw [ho] at c2
    repeat' (first | (refine shC ?_; first | refine qC c1 ?_ | refine qC c2 ?_) | refine sK ?_ | refine sC (fun _ => ?_) (fun _ => ?_) | fail)
    exact retq rfl rfl
set_option maxHeartbeats 2000000 in
theorem wholeR13_call (g : Img) (hF : Fine g) (t : Int) (hk : kindG g t = 0) : ACall Tryz.prog 89 [imgPV g, pi t] (pb (wholeF g t (doneT g t) (facesR g t))) := by
  have hW := well_wl hF.well
  have hFm := fm_of hF.formed
  obtain ⟨hgt, _, hgm, hgf⟩ := formedG_bounds hF.formed
  have c1 := Table_call g hF _ t (Nat.le_refl _)
  have c3 := FacesR_call g t (by omega) (fun td h => by have := (formedT_facts (hgf td h)).2.2.2.2.1; omega)
  refine acall_intro tbOK Tryz.func89 rfl (by kernel_rfl) Tryz.ntmps89 (by simp) _ rfl (fun hw gB hgB => ?_)
  rw [wholeF]
  obtain ⟨N, hN⟩ : ∃ N, N = (facesR g t).any fun f => (methodsOf g f).any fun m => openT g (doneT g t m) := ⟨_, rfl⟩
  rw [← hN]
  repeat' (first | (refine shC ?_; first | refine qC c1 ?_) | refine sK ?_ | refine sC (fun _ => ?_) (fun _ => ?_) | fail)
  refine aw_loop (fun i : Nat => [(1, .pv (pi t)), (2, .pv (.ptr (imgPV g) 0)), (5, .pv (ints (tbl g t))), (6, .pv (pi i))]) (fun _ => []) (fun i => i ≤ (tbl g t).length ∧ (tbl g t).any (openT g) = ((tbl g t).drop i).any (openT g)) (fun i => (tbl g t).length - i) 0 ⟨by omega, rfl⟩ (tS) tH ?_
  have htl := tbl_len hF t
  rintro i ⟨hi, hr⟩
  by_cases hlt : i < (tbl g t).length
  · have he : ((tbl g t).map pi)[i]? = some (pi (tbl g t)[i]) := map_get (f := pi) hlt
    have co := openR_call g (tbl g t)[i] (.inr (tbl_mem (List.getElem_mem hlt)))
    rw [drop_any hlt] at hr
    cases ho : openT g (tbl g t)[i]
    · rw [ho] at co hr
      repeat' (first | (refine shC ?_; first | refine qC co ?_) | (refine shX ?_; first | refine qX he ?_) | refine sK ?_ | refine sC (fun _ => ?_) (fun _ => ?_) | fail)
      exact ⟨i + 1, ⟨hlt, hr⟩, tD, tS, tH⟩
    · rw [ho] at co hr
      repeat' (first | (refine shC ?_; first | refine qC co ?_) | (refine shX ?_; first | refine qX he ?_) | refine sK ?_ | refine sC (fun _ => ?_) (fun _ => ?_) | fail)
      exact retq rfl (by rw [hr]; rfl)
  · rw [drop_end (by omega)] at hr
    rw [hr]
    clear hr
    repeat' (first | (refine shC ?_; first | refine qC c3 ?_) | refine sK ?_ | refine sC (fun _ => ?_) (fun _ => ?_) | fail)
    refine aw_loop (fun i : Nat => [(1, .pv (pi t)), (2, .pv (.ptr (imgPV g) 0)), (7, .pv (ints (facesR g t))), (8, .pv (pi i))]) (fun _ => [])
      (fun i => i ≤ (facesR g t).length ∧ N = ((facesR g t).drop i).any fun f => (methodsOf g f).any fun m => openT g (doneT g t m)) (fun i => (facesR g t).length - i) 0 ⟨by omega, hN⟩ (tS) tH ?_
    have hfl : (facesR g t).length ≤ 1000 := by
      have : (facesR g t).length ≤ (nums g.types.length).length := List.length_filter_le _ _
      simp [nums] at this; omega
    rintro i ⟨hi, hr⟩
    by_cases hlt : i < (facesR g t).length
    · obtain ⟨f, hf⟩ : ∃ f, f = (facesR g t)[i] := ⟨_, rfl⟩
      have hfk : kindG g f = 2 := hW.rf_kind ((mem_facesR hFm).1 (by rw [hf]; exact List.getElem_mem hlt))
      have hef : ((facesR g t).map pi)[i]? = some (pi f) := by rw [hf]; exact map_get (f := pi) hlt
      have cm := MethodsR_call g f (by omega)
      have hml := methodsOf_len g f
      rw [drop_any hlt, ← hf] at hr
      repeat' (first | (refine shC ?_; first | refine qC cm ?_) | (refine shX ?_; first | refine qX hef ?_) | refine sK ?_ | refine sC (fun _ => ?_) (fun _ => ?_) | fail)
      refine aw_loop (fun j : Nat => [(1, .pv (pi t)), (2, .pv (.ptr (imgPV g) 0)), (7, .pv (ints (facesR g t))), (8, .pv (pi i)), (9, .pv (ints (methodsOf g f))), (10, .pv (pi j))]) (fun _ => [])
        (fun j => j ≤ (methodsOf g f).length ∧ N = ((((methodsOf g f).drop j).any fun m => openT g (doneT g t m)) || ((facesR g t).drop (i + 1)).any fun f => (methodsOf g f).any fun m => openT g (doneT g t m))) (fun j => (methodsOf g f).length - j) 0 ⟨by omega, hr⟩ (tS) tH ?_
      clear hr
      rintro j ⟨hj, hr⟩
      by_cases hjl : j < (methodsOf g f).length
      · obtain ⟨m, hm⟩ : ∃ m, m = (methodsOf g f)[j] := ⟨_, rfl⟩
        have hmf : m ∈ methodsOf g f := by rw [hm]; exact List.getElem_mem hjl
        have hem : ((methodsOf g f).map pi)[j]? = some (pi m) := by rw [hm]; exact map_get (f := pi) hjl
        have hmk : mOk g m := methodsOf_mem hmf
        have hb : kindG g (ownM g m) = 0 → ownM g m ∈ up g t := fun h => by rw [methodsOf_own hmf, hfk] at h; omega
        have cd := DoneR_call g hF t m hmk hk hb
        have cv := openR_call g (doneT g t m) (doneT_ok hW hmk hk hb)
        rw [drop_any hjl, ← hm] at hr
        cases hop : openT g (doneT g t m)
        · rw [hop] at cv hr
          repeat' (first | (refine shC ?_; first | refine qC cd ?_ | refine qC cv ?_) | (refine shX ?_; first | refine qX hem ?_) | refine sK ?_ | refine sC (fun _ => ?_) (fun _ => ?_) | fail)
          exact ⟨j + 1, ⟨hjl, hr⟩, tD, tS, tH⟩
        · rw [hop] at cv hr
          repeat' (first | (refine shC ?_; first | refine qC cd ?_ | refine qC cv ?_) | (refine shX ?_; first | refine qX hem ?_) | refine sK ?_ | refine sC (fun _ => ?_) (fun _ => ?_) | fail)
          exact retq rfl (by rw [hr]; rfl)
      · rw [drop_end (by omega)] at hr
        repeat' (first | refine sK ?_ | refine sC (fun _ => ?_) (fun _ => ?_) | fail)
        exact ⟨i + 1, ⟨hlt, hr⟩, tD, tS, tH⟩
    · rw [drop_end (by omega)] at hr
      repeat' (first | refine sK ?_ | refine sC (fun _ => ?_) (fun _ => ?_) | fail)
      exact retq rfl (by rw [hr]; rfl)
end Go.Cg
namespace Go.Cg
open Go.Proofs

/-! whether all methods and classes are well: both sides -/
def numT (t : Ty) : Bool := decide (t = ⟨1, 0, 0, false⟩) || decide (t = ⟨2, 0, 0, false⟩) || decide (t = ⟨3, 0, 0, false⟩)
def begB (m : Me) : Bool := bitF m.flags 1 && !bitF m.flags 4 && m.params.length == 0 && numT m.ret
theorem numT_eq {t : Ty} (hp : plainT t = true) (hr : t.ref = false) : numT t = (t.dims == 0 && decide (1 ≤ t.kind) && decide (t.kind ≤ 3)) := by
  obtain ⟨k, i, d, r⟩ := t
  simp only at hr
  subst hr
  rw [Bool.eq_iff_iff]
  simp only [numT, Ty.mk.injEq, Bool.or_eq_true, decide_eq_true_eq, Bool.and_eq_true, beq_iff_eq, and_true]
  constructor
  · omega
  · rintro ⟨⟨h1, h2⟩, h3⟩
    have hk : k = 1 ∨ k = 2 ∨ k = 3 := by omega
    rcases hk with rfl | rfl | rfl <;> simp_all [plainT]
set_option maxHeartbeats 1000000 in
theorem beginsS_call (g : Img) (m : Me) (h : MeOk g m) : ACall Tryz.prog 86 [mePV m] (pb (begB m)) := by
  obtain ⟨h1, _, h4, _, _⟩ := hasM h
  have e1 := tyEq_iff m.ret ⟨1, 0, 0, false⟩
  have e2 := tyEq_iff m.ret ⟨2, 0, 0, false⟩
  have e3 := tyEq_iff m.ret ⟨3, 0, 0, false⟩
  have hl : ((((m.params.map tyPV).length : Nat) : Int) == 0) = (m.params.length == 0) := by
    rw [List.length_map, Bool.eq_iff_iff]; simp only [beq_iff_eq]; omega
  refine acall_intro tbOK Tryz.func86 rfl (by kernel_rfl) Tryz.ntmps86 (by simp) _ rfl (fun hw gB hgB => ?_)
  rw [begB, numT, ← e1, ← e2, ← e3]
  generalize bitF m.flags 1 = b1 at h1 ⊢
  generalize bitF m.flags 4 = b4 at h4 ⊢
  clear e1 e2 e3
  repeat' (first | (refine shC ?_; first | refine qC h1 ?_ | refine qC h4 ?_) | refine sA ?_ | refine sC (fun _ => ?_) (fun _ => ?_) | fail)
  all_goals (refine retq rfl ?_; first | (simp_all [retPV]; done) | (simp_all [retPV]; intro hh; rcases hh with ⟨a1, a2, a3, a4⟩ | ⟨a1, a2, a3, a4⟩ <;> simp_all))
abbrev Spot13 := (Int × Int) × Int
def spotPV (r : Spot13) : PV := .tup [.agg [pi r.1.1, pi r.1.2], pi r.2]
def stE (g : Img) : Spot13 := if decide (0 ≤ g.entry) && !begB (mAt g g.entry) then ((1, g.entry), 11) else ((0, 0), 0)
def badD (g : Img) (t : Int) : Bool := kindG g t == 3 && (methodsOf g t).length == 0
def badC (g : Img) (W : Int → Bool) (t : Int) : Bool := kindG g t == 0 && !bitF (g.types.getD t.toNat default).flags 4 && !W t
def stD (g : Img) : List Nat → Spot13
  | [] => stE g
  | t :: ts => if badD g (t : Int) then ((0, (t : Int)), 8) else stD g ts
def stC (g : Img) (W : Int → Bool) : List Nat → Spot13
  | [] => stD g (List.range g.types.length)
  | t :: ts => if badC g W (t : Int) then ((0, (t : Int)), 18) else stC g W ts
def stM (g : Img) : List Nat → Spot13
  | [] => stC g (fun t => wholeF g t (doneT g t) (facesR g t)) (List.range g.types.length)
  | i :: is => if flagR g (mAt g (i : Int)) then (if typedR g (mAt g (i : Int)) then stM g is else ((1, (i : Int)), 10)) else ((1, (i : Int)), 8)
def check13 (g : Img) : Spot13 := if fineR g then stM g (List.range g.methods.length) else ((0, 0), 17)
theorem range_drop {n k : Nat} (h : k < n) : (List.range n).drop k = k :: (List.range n).drop (k + 1) := by
  rw [List.drop_eq_getElem_cons (by simpa using h)]; simp
theorem range_end (n : Nat) : (List.range n).drop n = [] := List.drop_eq_nil_of_le (by simp)
theorem any_congr_mem {l l' : List Int} {p q : Int → Bool} (h : ∀ x, x ∈ l ↔ x ∈ l') (hp : ∀ x ∈ l, p x = q x) : l.any p = l'.any q := by
  rw [Bool.eq_iff_iff, List.any_eq_true, List.any_eq_true]
  constructor
  · rintro ⟨x, hx, hpx⟩; exact ⟨x, (h x).1 hx, by rw [← hp x hx]; exact hpx⟩
  · rintro ⟨x, hx, hpx⟩; exact ⟨x, (h x).2 hx, by rw [hp x ((h x).2 hx)]; exact hpx⟩
/-- An interface's methods are virtual, where all flags are well. -/
theorem flag_virt {k : Int} {b1 b2 b4 b8 b16 rv f16 em nc m1 ab : Bool} (h : flagRB k b1 b2 b4 b8 b16 rv f16 em nc m1 ab = true) (hk : k = 2) : b2 = true := by
  subst hk
  cases b2
  · cases b4
    · simp [flagRB] at h
    · simp [flagRB] at h
  · rfl
theorem whole_eq {g : Img} (hF : Fine g) (hm : ∀ i, i < g.methods.length → flagR g (mAt g (i : Int)) = true) (t : Int) : wholeF g t (faceT g t) (facesP g t) = wholeF g t (doneT g t) (facesR g t) := by
  have hFm := fm_of hF.formed
  have hW := well_wl hF.well
  rw [wholeF, wholeF]
  congr 2
  refine any_congr_mem (fun f => by rw [mem_facesP hFm, mem_facesR hFm]) fun f hf => ?_
  refine any_congr_mem (fun m => Iff.rfl) fun m hmm => ?_
  have hk : kindG g (ownM g m) = 2 := by rw [methodsOf_own hmm]; exact hW.rf_kind ((mem_facesP hFm).1 hf)
  have hmo := methodsOf_mem hmm
  have h1 := hm m.toNat hmo.2
  rw [Int.toNat_of_nonneg hmo.1] at h1
  have hv : virt g m = true := flag_virt h1 hk
  rw [doneT, hk, hv]; rfl
theorem mOk_at {g : Img} {k : Nat} (h : k < g.methods.length) : mOk g (k : Int) := ⟨by omega, by simpa using h⟩
theorem me_get {g : Img} {k : Nat} (h : k < g.methods.length) : (g.methods.map mePV)[((k : Int)).toNat]? = some (mePV (mAt g (k : Int))) := mAt_get (mOk_at h)
theorem td_get {g : Img} {k : Nat} (h : k < g.types.length) : (g.types.map tdPV)[((k : Int)).toNat]? = some (tdPV (g.types.getD ((k : Int)).toNat default)) := by
  have h' : ((k : Int)).toNat < g.types.length := by simpa using h
  rw [getD_get h']; exact map_get' h'
theorem entry_in {g : Img} (hf : formedG g = true) (h : 0 ≤ g.entry) : mOk g g.entry := by
  simp only [formedG, Bool.and_eq_true, decide_eq_true_eq] at hf
  exact ⟨h, by omega⟩
end Go.Cg
namespace Go.Cg
open Go.Proofs

theorem and4_zero {f : Int} (h0 : 0 ≤ f) (h1 : f ≤ 31) : (IntKind.i64.wrap ((BitVec.ofInt IntKind.i64.bits f &&& BitVec.ofInt IntKind.i64.bits 4).toNat : Int) == 0) = !bitF f 4 := by
  rw [← (flags_eq h0 h1).2.2.1, andB, bne, Bool.not_not]
theorem div4_fin : ∀ a : Fin 32, ((IntKind.i64.wrap ((a.val : Int).tdiv 4)).tmod 2 == 0) = !bitF (a.val : Int) 4 := by decide +kernel
theorem div4_zero {f : Int} (h0 : 0 ≤ f) (h1 : f ≤ 31) : ((IntKind.i64.wrap (f.tdiv 4)).tmod 2 == 0) = !bitF f 4 := by
  have := div4_fin ⟨f.toNat, by omega⟩
  simpa only [Int.toNat_of_nonneg h0] using this
theorem ty_flags' {g : Img} (hf : formedG g = true) {k : Nat} (h : k < g.types.length) : 0 ≤ (g.types.getD ((k : Int)).toNat default).flags ∧ (g.types.getD ((k : Int)).toNat default).flags ≤ 31 := ty_flags hf (by omega) (by simpa using h)
theorem len_zero {l : List Int} : ((((l.map pi).length : Nat) : Int) == 0) = (l.length == 0) := by
  rw [List.length_map, Bool.eq_iff_iff]; simp only [beq_iff_eq]; omega
set_option maxHeartbeats 4000000 in
theorem CheckS_call (g : Img) (hx : OkA g) : ACall Tryz.prog 39 [imgPV g] (spotPV (check13 g)) := by
  have c0 := fineS_call g hx
  refine acall_intro tbOK Tryz.func39 rfl (by kernel_rfl) Tryz.ntmps39 (by simp) _ rfl (fun hw gB hgB => ?_)
  cases hfi : fineR g
  · rw [hfi] at c0
    repeat' (first | (refine shC ?_; first | refine qC c0 ?_) | refine sK ?_ | refine sC (fun _ => ?_) (fun _ => ?_) | fail)
    exact retq rfl (by rw [check13, hfi]; rfl)
  · rw [hfi] at c0
    have hF := fine_of hfi
    obtain ⟨hgt, _, hgm, _⟩ := formedG_bounds hF.formed
    have hr0 : check13 g = stM g (List.range g.methods.length) := by rw [check13, hfi]; rfl
    repeat' (first | (refine shC ?_; first | refine qC c0 ?_) | refine sK ?_ | refine sC (fun _ => ?_) (fun _ => ?_) | fail)
    refine aw_loop (fun k : Nat => [(1, .pv (.ptr (imgPV g) 0)), (2, .box 0 0), (14, .pv (.slc 12 (g.methods.map mePV) false)), (15, .pv (pi g.methods.length)), (16, .pv (pi k))]) (fun _ => [(0, .cell (.pv (.agg [pi 0, pi 0])))])
      (fun k => k ≤ g.methods.length ∧ check13 g = stM g ((List.range g.methods.length).drop k) ∧ ∀ i, i < k → flagR g (mAt g (i : Int)) = true) (fun k => g.methods.length - k) 0 ⟨by omega, hr0, fun i h => by omega⟩ (by repeat (first | exact sub_nil | refine sub_cons rfl ?_ | (refine sub_i rfl ?_ ?_; · simp))) tH ?_
    rintro k ⟨hk, hr, hall⟩
    by_cases hlt : k < g.methods.length
    · have he := me_get hlt
      have hM := meOk_at hF.formed (mOk_at hlt)
      have cf := flaggedS_call g hF.formed _ hM
      have co := ownedS_call g hF.formed _ hM
      have ct := typedS_call g hF.formed _ hM
      have hfe := flag_eq hM
      rw [range_drop hlt, stM] at hr
      cases hf : flagP g (mAt g (k : Int))
      · rw [hf] at cf hfe
        rw [← hfe] at hr
        repeat' (first | (refine shC ?_; first | refine qC cf ?_) | (refine shX ?_; first | refine qX he ?_) | refine sK ?_ | refine sC (fun _ => ?_) (fun _ => ?_) | fail)
        exact retq rfl (by rw [hr]; rfl)
      · rw [hf] at cf hfe
        cases ho : ownP13 g (mAt g (k : Int))
        · rw [ho] at co hfe
          rw [← hfe] at hr
          repeat' (first | (refine shC ?_; first | refine qC cf ?_ | refine qC co ?_) | (refine shX ?_; first | refine qX he ?_) | refine sK ?_ | refine sC (fun _ => ?_) (fun _ => ?_) | fail)
          exact retq rfl (by rw [hr]; rfl)
        · rw [ho] at co hfe
          have hfR : flagR g (mAt g (k : Int)) = true := hfe.symm
          rw [hfR, if_pos rfl] at hr
          cases ht : typedR g (mAt g (k : Int))
          · rw [ht] at ct hr
            repeat' (first | (refine shC ?_; first | refine qC cf ?_ | refine qC co ?_ | refine qC ct ?_) | (refine shX ?_; first | refine qX he ?_) | refine sK ?_ | refine sC (fun _ => ?_) (fun _ => ?_) | fail)
            exact retq rfl (by rw [hr]; rfl)
          · rw [ht] at ct hr
            repeat' (first | (refine shC ?_; first | refine qC cf ?_ | refine qC co ?_ | refine qC ct ?_) | (refine shX ?_; first | refine qX he ?_) | refine sK ?_ | refine sC (fun _ => ?_) (fun _ => ?_) | fail)
            exact ⟨k + 1, ⟨hlt, hr, fun i hi => by
              by_cases e : i = k
              · subst e; exact hfR
              · exact hall i (by omega)⟩, tD, tS, tH⟩
    · have hk2 : k = g.methods.length := by omega
      subst hk2
      rw [range_end, stM] at hr
      have hwe := fun t => whole_eq hF hall t
      clear hall
      repeat' (first | refine sK ?_ | refine sC (fun _ => ?_) (fun _ => ?_) | fail)
      refine aw_loop (fun k : Nat => [(1, .pv (.ptr (imgPV g) 0)), (2, .box 0 0), (43, .pv (.slc 4 (g.types.map tdPV) false)), (44, .pv (pi g.types.length)), (45, .pv (pi k))]) (fun _ => [(0, .cell (.pv (.agg [pi 0, pi 0])))])
        (fun k => k ≤ g.types.length ∧ check13 g = stC g (fun t => wholeF g t (doneT g t) (facesR g t)) ((List.range g.types.length).drop k)) (fun k => g.types.length - k) 0 ⟨by omega, hr⟩ (by repeat (first | exact sub_nil | refine sub_cons rfl ?_ | (refine sub_i rfl ?_ ?_; · simp))) tH ?_
      clear hr hk hlt
      rintro k ⟨hk, hr⟩
      by_cases hlt : k < g.types.length
      · have he := td_get hlt
        have hfl := ty_flags' hF.formed hlt
        have hz := and4_zero hfl.1 hfl.2
        have ck := KindPG_call g hF.formed (k : Int)
        rw [range_drop hlt, stC, badC] at hr
        by_cases hk0 : kindG g (k : Int) = 0
        · have cw := wholeS_call g hF (k : Int) hk0
          rw [hwe] at cw
          rw [hk0] at ck hr
          cases hb : bitF (g.types.getD ((k : Int)).toNat default).flags 4
          · rw [hb] at hz hr
            cases hw2 : wholeF g (k : Int) (doneT g (k : Int)) (facesR g (k : Int))
            · rw [hw2] at cw hr
              repeat' (first | (refine shC ?_; first | refine qC ck ?_ | refine qC cw ?_) | (refine shX ?_; first | refine qX he ?_) | refine sK ?_ | refine sC (fun _ => ?_) (fun _ => ?_) | fail)
              exact retq rfl (by rw [hr]; rfl)
            · rw [hw2] at cw hr
              repeat' (first | (refine shC ?_; first | refine qC ck ?_ | refine qC cw ?_) | (refine shX ?_; first | refine qX he ?_) | refine sK ?_ | refine sC (fun _ => ?_) (fun _ => ?_) | fail)
              exact ⟨k + 1, ⟨hlt, hr⟩, tD, tS, tH⟩
          · rw [hb] at hz hr
            repeat' (first | (refine shC ?_; first | refine qC ck ?_) | (refine shX ?_; first | refine qX he ?_) | refine sK ?_ | refine sC (fun _ => ?_) (fun _ => ?_) | fail)
            exact ⟨k + 1, ⟨hlt, hr⟩, tD, tS, tH⟩
        · have hkb : (kindG g (k : Int) == 0) = false := by simp [hk0]
          rw [hkb] at hr
          repeat' (first | (refine shC ?_; first | refine qC ck ?_) | (refine shX ?_; first | refine qX he ?_) | refine sK ?_ | refine sC (fun _ => ?_) (fun _ => ?_) | fail)
          exact ⟨k + 1, ⟨hlt, hr⟩, tD, tS, tH⟩
      · have hk2 : k = g.types.length := by omega
        subst hk2
        rw [range_end, stC] at hr
        repeat' (first | refine sK ?_ | refine sC (fun _ => ?_) (fun _ => ?_) | fail)
        refine aw_loop (fun k : Nat => [(1, .pv (.ptr (imgPV g) 0)), (2, .box 0 0), (71, .pv (pi g.types.length)), (72, .pv (pi k))]) (fun _ => [(0, .cell (.pv (.agg [pi 0, pi 0])))])
          (fun k => k ≤ g.types.length ∧ check13 g = stD g ((List.range g.types.length).drop k)) (fun k => g.types.length - k) 0 ⟨by omega, hr⟩ (by repeat (first | exact sub_nil | refine sub_cons rfl ?_ | (refine sub_i rfl ?_ ?_; · simp))) tH ?_
        clear hr hk hlt
        rintro k ⟨hk, hr⟩
        by_cases hlt : k < g.types.length
        · have ck := KindPG_call g hF.formed (k : Int)
          have cm := MethodsP_call g (k : Int) (by omega)
          have hlz := len_zero (l := methodsOf g (k : Int))
          rw [range_drop hlt, stD, badD] at hr
          by_cases hk3 : kindG g (k : Int) = 3
          · rw [hk3] at ck hr
            cases hb : (methodsOf g (k : Int)).length == 0
            · rw [hb] at hlz hr
              repeat' (first | (refine shC ?_; first | refine qC ck ?_ | refine qC cm ?_) | refine sK ?_ | refine sC (fun _ => ?_) (fun _ => ?_) | fail)
              exact ⟨k + 1, ⟨hlt, hr⟩, tD, tS, tH⟩
            · rw [hb] at hlz hr
              repeat' (first | (refine shC ?_; first | refine qC ck ?_ | refine qC cm ?_) | refine sK ?_ | refine sC (fun _ => ?_) (fun _ => ?_) | fail)
              exact retq rfl (by rw [hr]; rfl)
          · have hkb : (kindG g (k : Int) == 3) = false := by simp [hk3]
            rw [hkb] at hr
            repeat' (first | (refine shC ?_; first | refine qC ck ?_) | refine sK ?_ | refine sC (fun _ => ?_) (fun _ => ?_) | fail)
            exact ⟨k + 1, ⟨hlt, hr⟩, tD, tS, tH⟩
        · have hk2 : k = g.types.length := by omega
          subst hk2
          rw [range_end, stD, stE] at hr
          by_cases h0 : 0 ≤ g.entry
          · have hen := entry_in hF.formed h0
            have hem := mAt_get hen
            have cb := beginsS_call g _ (meOk_at hF.formed hen)
            rw [decide_eq_true h0] at hr
            cases hb : begB (mAt g g.entry)
            · rw [hb] at cb hr
              repeat' (first | (refine shC ?_; first | refine qC cb ?_) | (refine shX ?_; first | refine ao_q rfl (q_index tbOK rfl rfl rfl rfl rfl rfl h0 hem) rfl rfl ?_ | refine AD.step _ _ _ _ _ rfl (q_index tbOK rfl rfl rfl rfl rfl rfl h0 hem) rfl rfl ?_) | refine sK ?_ | refine sC (fun _ => ?_) (fun _ => ?_) | fail)
              exact retq rfl (by rw [hr]; rfl)
            · rw [hb] at cb hr
              repeat' (first | (refine shC ?_; first | refine qC cb ?_) | (refine shX ?_; first | refine ao_q rfl (q_index tbOK rfl rfl rfl rfl rfl rfl h0 hem) rfl rfl ?_ | refine AD.step _ _ _ _ _ rfl (q_index tbOK rfl rfl rfl rfl rfl rfl h0 hem) rfl rfl ?_) | refine sK ?_ | refine sC (fun _ => ?_) (fun _ => ?_) | fail)
              exact retq rfl (by rw [hr]; rfl)
          · rw [decide_eq_false h0] at hr
            repeat' (first | refine sK ?_ | refine sC (fun _ => ?_) (fun _ => ?_) | fail)
            exact retq rfl (by rw [hr]; rfl)
end Go.Cg
namespace Go.Cg
open Go.Proofs

set_option maxHeartbeats 4000000 in
theorem CheckR13_call (g : Img) : ACall Tryz.prog 40 [imgPV g] (spotPV (check13 g)) := by
  have c0 := FineR_call g
  refine acall_intro tbOK Tryz.func40 rfl (by kernel_rfl) Tryz.ntmps40 (by simp) _ rfl (fun hw gB hgB => ?_)
  cases hfi : fineR g
  · rw [hfi] at c0
    repeat' (first | (refine shC ?_; first | refine qC c0 ?_) | refine sK ?_ | refine sC (fun _ => ?_) (fun _ => ?_) | fail)
    exact retq rfl (by rw [check13, hfi]; rfl)
  · rw [hfi] at c0
    have hF := fine_of hfi
    obtain ⟨hgt, _, hgm, _⟩ := formedG_bounds hF.formed
    have hr0 : check13 g = stM g (List.range g.methods.length) := by rw [check13, hfi]; rfl
    repeat' (first | (refine shC ?_; first | refine qC c0 ?_) | refine sK ?_ | refine sC (fun _ => ?_) (fun _ => ?_) | fail)
    refine aw_loop (fun k : Nat => [(1, .pv (.ptr (imgPV g) 0)), (2, .box 0 0), (4, .pv (pi k))]) (fun _ => [(0, .cell (.pv (.agg [pi 0, pi 0])))])
      (fun k => k ≤ g.methods.length ∧ check13 g = stM g ((List.range g.methods.length).drop k)) (fun k => g.methods.length - k) 0 ⟨by omega, hr0⟩ (tS) tH ?_
    rintro k ⟨hk, hr⟩
    by_cases hlt : k < g.methods.length
    · have he := me_get hlt
      have hM := meOk_at hF.formed (mOk_at hlt)
      have cf := flaggedR13_call g hF.formed _ hM
      have ct := typedR13_call g _ hM
      rw [range_drop hlt, stM] at hr
      cases hf : flagR g (mAt g (k : Int))
      · rw [hf] at cf hr
        repeat' (first | (refine shC ?_; first | refine qC cf ?_) | (refine shX ?_; first | refine qX he ?_) | refine sK ?_ | refine sC (fun _ => ?_) (fun _ => ?_) | fail)
        exact retq rfl (by rw [hr]; rfl)
      · rw [hf] at cf hr
        cases ht : typedR g (mAt g (k : Int))
        · rw [ht] at ct hr
          repeat' (first | (refine shC ?_; first | refine qC cf ?_ | refine qC ct ?_) | (refine shX ?_; first | refine qX he ?_) | refine sK ?_ | refine sC (fun _ => ?_) (fun _ => ?_) | fail)
          exact retq rfl (by rw [hr]; rfl)
        · rw [ht] at ct hr
          repeat' (first | (refine shC ?_; first | refine qC cf ?_ | refine qC ct ?_) | (refine shX ?_; first | refine qX he ?_) | refine sK ?_ | refine sC (fun _ => ?_) (fun _ => ?_) | fail)
          exact ⟨k + 1, ⟨hlt, hr⟩, tD, tS, tH⟩
    · have hk2 : k = g.methods.length := by omega
      subst hk2
      rw [range_end, stM] at hr
      repeat' (first | refine sK ?_ | refine sC (fun _ => ?_) (fun _ => ?_) | fail)
      refine aw_loop (fun k : Nat => [(1, .pv (.ptr (imgPV g) 0)), (2, .box 0 0), (5, .pv (pi k))]) (fun _ => [(0, .cell (.pv (.agg [pi 0, pi 0])))])
        (fun k => k ≤ g.types.length ∧ check13 g = stC g (fun t => wholeF g t (doneT g t) (facesR g t)) ((List.range g.types.length).drop k)) (fun k => g.types.length - k) 0 ⟨by omega, hr⟩ (tS) tH ?_
      clear hr hk hlt
      rintro k ⟨hk, hr⟩
      by_cases hlt : k < g.types.length
      · have he := td_get hlt
        have hfl := ty_flags' hF.formed hlt
        have hz := div4_zero hfl.1 hfl.2
        have ck := KindR_call g (k : Int)
        rw [range_drop hlt, stC, badC] at hr
        by_cases hk0 : kindG g (k : Int) = 0
        · have cw := wholeR13_call g hF (k : Int) hk0
          rw [hk0] at ck hr
          cases hb : bitF (g.types.getD ((k : Int)).toNat default).flags 4
          · rw [hb] at hz hr
            cases hw2 : wholeF g (k : Int) (doneT g (k : Int)) (facesR g (k : Int))
            · rw [hw2] at cw hr
              repeat' (first | (refine shC ?_; first | refine qC ck ?_ | refine qC cw ?_) | (refine shX ?_; first | refine qX he ?_) | refine sK ?_ | refine sC (fun _ => ?_) (fun _ => ?_) | fail)
              exact retq rfl (by rw [hr]; rfl)
            · rw [hw2] at cw hr
              repeat' (first | (refine shC ?_; first | refine qC ck ?_ | refine qC cw ?_) | (refine shX ?_; first | refine qX he ?_) | refine sK ?_ | refine sC (fun _ => ?_) (fun _ => ?_) | fail)
              exact ⟨k + 1, ⟨hlt, hr⟩, tD, tS, tH⟩
          · rw [hb] at hz hr
            repeat' (first | (refine shC ?_; first | refine qC ck ?_) | (refine shX ?_; first | refine qX he ?_) | refine sK ?_ | refine sC (fun _ => ?_) (fun _ => ?_) | fail)
            exact ⟨k + 1, ⟨hlt, hr⟩, tD, tS, tH⟩
        · have hkb : (kindG g (k : Int) == 0) = false := by simp [hk0]
          rw [hkb] at hr
          repeat' (first | (refine shC ?_; first | refine qC ck ?_) | (refine shX ?_; first | refine qX he ?_) | refine sK ?_ | refine sC (fun _ => ?_) (fun _ => ?_) | fail)
          exact ⟨k + 1, ⟨hlt, hr⟩, tD, tS, tH⟩
      · have hk2 : k = g.types.length := by omega
        subst hk2
        rw [range_end, stC] at hr
        repeat' (first | refine sK ?_ | refine sC (fun _ => ?_) (fun _ => ?_) | fail)
        refine aw_loop (fun k : Nat => [(1, .pv (.ptr (imgPV g) 0)), (2, .box 0 0), (6, .pv (pi k))]) (fun _ => [(0, .cell (.pv (.agg [pi 0, pi 0])))])
          (fun k => k ≤ g.types.length ∧ check13 g = stD g ((List.range g.types.length).drop k)) (fun k => g.types.length - k) 0 ⟨by omega, hr⟩ (tS) tH ?_
        clear hr hk hlt
        rintro k ⟨hk, hr⟩
        by_cases hlt : k < g.types.length
        · have ck := KindR_call g (k : Int)
          have cm := MethodsR_call g (k : Int) (by omega)
          have hlz := len_zero (l := methodsOf g (k : Int))
          rw [range_drop hlt, stD, badD] at hr
          by_cases hk3 : kindG g (k : Int) = 3
          · rw [hk3] at ck hr
            cases hb : (methodsOf g (k : Int)).length == 0
            · rw [hb] at hlz hr
              repeat' (first | (refine shC ?_; first | refine qC ck ?_ | refine qC cm ?_) | refine sK ?_ | refine sC (fun _ => ?_) (fun _ => ?_) | fail)
              exact ⟨k + 1, ⟨hlt, hr⟩, tD, tS, tH⟩
            · rw [hb] at hlz hr
              repeat' (first | (refine shC ?_; first | refine qC ck ?_ | refine qC cm ?_) | refine sK ?_ | refine sC (fun _ => ?_) (fun _ => ?_) | fail)
              exact retq rfl (by rw [hr]; rfl)
          · have hkb : (kindG g (k : Int) == 3) = false := by simp [hk3]
            rw [hkb] at hr
            repeat' (first | (refine shC ?_; first | refine qC ck ?_) | refine sK ?_ | refine sC (fun _ => ?_) (fun _ => ?_) | fail)
            exact ⟨k + 1, ⟨hlt, hr⟩, tD, tS, tH⟩
        · have hk2 : k = g.types.length := by omega
          subst hk2
          rw [range_end, stD, stE] at hr
          by_cases h0 : 0 ≤ g.entry
          · have hen := entry_in hF.formed h0
            have hem := mAt_get hen
            have hM := meOk_at hF.formed hen
            have b1 := Bit1_call (mAt g g.entry)
            have b4 := Bit4_call (mAt g g.entry)
            have hmay : mayT (mAt g g.entry).ret 3 g.types.length = true := by
              have := hM.formed
              simp only [formedM, Bool.and_eq_true] at this
              exact this.1.1.1.2
            have hnr : (mAt g g.entry).ret.ref = false := by
              have hpl := (may_plain hmay).1
              rw [mayT, Bool.and_eq_true, whereT, hpl] at hmay
              simpa using hmay.1
            have hl0 : decide (0 < ((((mAt g g.entry).params.map tyPV).length : Nat) : Int)) = !((mAt g g.entry).params.length == 0) := by
              rw [List.length_map, Bool.eq_iff_iff]
              simp only [decide_eq_true_eq, Bool.not_eq_true', beq_eq_false_iff_ne]
              omega
            rw [decide_eq_true h0, begB, numT_eq (may_plain hmay).1 hnr] at hr
            generalize bitF (mAt g g.entry).flags 1 = c1 at b1 hr
            generalize bitF (mAt g g.entry).flags 4 = c4 at b4 hr
            repeat' (first | (refine shX ?_; first | refine ao_q rfl (q_index tbOK rfl rfl rfl rfl rfl rfl h0 hem) rfl rfl ?_ | refine AD.step _ _ _ _ _ rfl (q_index tbOK rfl rfl rfl rfl rfl rfl h0 hem) rfl rfl ?_) | refine sK ?_ | refine sC (fun _ => ?_) (fun _ => ?_) | fail)
            all_goals repeat' (first | (refine shC ?_; first | refine qC b1 ?_ | refine qC b4 ?_) | refine sA ?_ | refine sC (fun _ => ?_) (fun _ => ?_) | fail)
            all_goals (refine retq rfl ?_; rw [hr]; clear hr hr0; first | (rw [if_neg (by simp_all)]; rfl) | (rw [if_pos (by simp_all)]; rfl))
          · rw [decide_eq_false h0] at hr
            repeat' (first | refine sK ?_ | refine sC (fun _ => ?_) (fun _ => ?_) | fail)
            exact retq rfl (by rw [hr]; rfl)
end Go.Cg
namespace Go.Cg
open Go.Proofs

/-! the law's example -/
def meS (n : UInt8) (o : Int) : Me := ⟨⟨#[n]⟩, o, 2, [], ⟨1, 0, 0, false⟩, [], 0, [⟨46, 0, ⟨0, 0, 0, false⟩⟩], []⟩
def gS : Img := ⟨[⟨⟨#[65]⟩, 0, -1, []⟩, ⟨⟨#[66]⟩, 0, 0, []⟩], [], [meS 102 0, meS 103 0, meS 103 1], -1⟩
theorem wellS : wellR gS = true := by decide +kernel
theorem usedS : allUsed gS = true := by decide +kernel
theorem sizeS : ∀ j, j < gS.types.length → sizeBad gS j = false := by
  intro j hj
  have : j = 0 ∨ j = 1 := by have : gS.types.length = 2 := rfl; omega
  rcases this with rfl | rfl <;> decide +kernel
theorem check12S : check12 gS = (0, 0) := check12_no wellS usedS sizeS
theorem fineS13 : fineR gS = true := by rw [fineR, check12S]; rfl
theorem okS : OkA gS := by
  intro m hm x hx
  have hm2 : m = meS 102 0 ∨ m = meS 103 0 ∨ m = meS 103 1 := by simpa [gS] using hm
  have hx2 : x = ⟨46, 0, ⟨0, 0, 0, false⟩⟩ := by rcases hm2 with rfl | rfl | rfl <;> simpa [meS] using hx
  subst hx2
  exact ⟨by decide, by decide⟩
theorem check13S : check13 gS = ((0, 0), 0) := by
  rw [check13, fineS13]
  show stM gS (List.range gS.methods.length) = ((0, 0), 0)
  decide +kernel
theorem tableS : tableA gS 1 = [0, 2] := by
  rw [tableA, fineS13]
  decide +kernel
theorem done11 : doneT gS 1 1 = 2 := by decide +kernel
theorem done01 : doneT gS 0 1 = 1 := by decide +kernel
abbrev insW : PV := .agg [pi 46, pi 0, pi 0, pi 0, pi 0, pb false]
abbrev wMe (n : UInt8) (o : Int) : PV := .agg [.base (.string ⟨#[n]⟩), pi o, pi 2, .base (.slice none 0 0), pi 1, pi 0, pi 0, pb false, .base (.slice none 0 0), pi 0, .slc 6 [insW] true, .base (.slice none 0 0)]
theorem wMe_tells (n : UInt8) (o : Int) : PTL (wMe n o).cells (mePV (meS n o)).cells :=
  ptl_cons (.refl _) (ptl_cons (.refl _) (ptl_cons (.refl _) (ptl_cons (pt_nil 4 false) (ptl_cons (.refl _) (ptl_cons (.refl _) (ptl_cons (.refl _) (ptl_cons (.refl _) (ptl_cons (pt_nil 4 false) (ptl_cons (.refl _)
    (ptl_cons (pt_slc (pcl_cons (ptl_cons (.refl _) (ptl_cons (.refl _) (ptl_cons (.refl _) (ptl_cons (.refl _) (ptl_cons (.refl _) (ptl_cons (.refl _) ptl_nil)))))) pcl_nil)) (ptl_cons (pt_nil 10 false) ptl_nil)))))))))))
abbrev imgS : PV := .agg [.slc 4 [wTD 65 (-1), wTD 66 0] true, .base (.slice none 0 0), .slc 12 [wMe 102 0, wMe 103 0, wMe 103 1] true, pi (-1)]
theorem imgS_tells : PTells imgS (imgPV gS) :=
  pt_agg (ptl_cons (pt_slc (pcl_cons (wTD_tells 65 (-1)) (pcl_cons (wTD_tells 66 0) pcl_nil))) (ptl_cons (pt_nil 7 false) (ptl_cons (pt_slc (pcl_cons (wMe_tells 102 0) (pcl_cons (wMe_tells 103 0) (pcl_cons (wMe_tells 103 1) pcl_nil)))) (ptl_cons (.refl _) ptl_nil))))
set_option maxHeartbeats 1000000 in
theorem some1_call (n : UInt8) (o : Int) : ACall Tryz.prog 118 ([] ++ [.base (.string ⟨#[n]⟩), pi o] ++ [.ptr (.agg [pi 1, pi 0, pi 0, pb false]) 0, .ptr (.slc 6 [insW] true) 0]) (wMe n o) := by
  show ACall Tryz.prog 118 [.base (.string ⟨#[n]⟩), pi o, .ptr (.agg [pi 1, pi 0, pi 0, pb false]) 0, .ptr (.slc 6 [insW] true) 0] (wMe n o)
  refine acall_intro tbOK Tryz.func118 rfl (by kernel_rfl) Tryz.ntmps118 (by simp) _ rfl (fun hw gB hgB => ?_)
  repeat' (first | refine sA ?_ | refine sC (fun _ => ?_) (fun _ => ?_) | fail)
  exact retq rfl rfl
set_option maxHeartbeats 1000000 in
theorem some_call : ACall Tryz.prog 78 [] imgS := by
  refine acall_intro tbOK Tryz.func78 rfl (by kernel_rfl) Tryz.ntmps78 (by simp) _ rfl (fun hw gB hgB => ?_)
  repeat' (first | refine aw_freeze (t := 1) rfl rfl rfl ?_ | refine aw_freeze (t := 2) rfl rfl rfl ?_ | (refine shC ?_; first | refine qV ((some1_call 102 0)) ?_ | refine qV ((some1_call 103 0)) ?_ | refine qV ((some1_call 103 1)) ?_) | refine sA ?_ | refine sC (fun _ => ?_) (fun _ => ?_) | fail)
  exact retq rfl rfl
set_option maxHeartbeats 1000000 in
theorem wakes13_call : ACall Tryz.prog 38 [] (pb true) := by
  have c0 := CheckS_call gS okS
  rw [check13S] at c0
  have c1 := TableP_call gS okS 1
  rw [tableS] at c1
  have ht : PTells (.slc 1 [pi 0, pi 2] true) (ints [0, 2]) := pt_slc (pcl_cons (ptl_cons (.refl _) ptl_nil) (pcl_cons (ptl_cons (.refl _) ptl_nil) pcl_nil))
  have c2 := SameI_call [0, 2] [0, 2]
  rw [decide_eq_true rfl] at c2
  have m1 : mOk gS 1 := ⟨by decide, by decide⟩
  have c3 := FindP_call gS okS fineS13 1 1 m1 (by decide +kernel) (by decide +kernel) (fun _ => by decide +kernel)
  rw [done11] at c3
  have c4 := FindP_call gS okS fineS13 0 1 m1 (by decide +kernel) (by decide +kernel) (fun _ => by decide +kernel)
  rw [done01] at c4
  refine acall_intro tbOK Tryz.func38 rfl (by kernel_rfl) Tryz.ntmps38 (by simp) _ rfl (fun hw gB hgB => ?_)
  repeat' (first | refine ao_tells 4 imgS_tells rfl ?_ | refine ao_tells 11 imgS_tells rfl ?_ | refine ao_tells 17 imgS_tells rfl ?_ | refine ao_tells 22 imgS_tells rfl ?_ | refine ao_tells 13 ht rfl ?_ | (refine shC ?_; first | refine qC some_call ?_ | refine qC c0 ?_ | refine qC c1 ?_ | refine qC c2 ?_ | refine qC c3 ?_ | refine qC c4 ?_) | refine sA ?_ | refine sC (fun _ => ?_) (fun _ => ?_) | fail)
  exact retq rfl rfl
end Go.Cg
namespace Go.Cg
open Go.Proofs

set_option maxHeartbeats 1000000 in
theorem SlotsCheck_call (g : Img) (hx : OkA g) : ACall Tryz.prog 9 [imgPV g] (pb true) := by
  refine acall_intro tbOK Tryz.func9 rfl (by kernel_rfl) Tryz.ntmps9 (by simp) _ rfl (fun hw gB hgB => ?_)
  have c1 := Long_call g
  cases hl : longG g
  · rw [hl] at c1
    repeat' (first | (refine shC ?_; first | refine qC wakes13_call ?_ | refine qC c1 ?_ | refine qC (Copied_call g hl) ?_ | refine qC (CheckS_call g hx) ?_ | refine qC (CheckR13_call g) ?_ | refine qC (SameImg_call g) ?_) | refine sK ?_ | refine sC (fun _ => ?_) (fun _ => ?_) | fail)
    all_goals exact retq rfl (by simp [retPV])
  · rw [hl] at c1
    repeat' (first | (refine shC ?_; first | refine qC wakes13_call ?_ | refine qC c1 ?_) | refine sK ?_ | refine sC (fun _ => ?_) (fun _ => ?_) | fail)
    all_goals exact retq rfl rfl
set_option maxHeartbeats 1000000 in
theorem SlotsTable_call (g : Img) (hx : OkA g) (t m : Int) : ACall Tryz.prog 11 [imgPV g, pi t, pi m] (pb true) := by
  refine acall_intro tbOK Tryz.func11 rfl (by kernel_rfl) Tryz.ntmps11 (by simp) _ rfl (fun hw gB hgB => ?_)
  have c1 := Long_call g
  have c2 := TableP_call g hx t
  have c3 := Slot_call g hx m
  have c4 := FineR_call g
  cases hl : longG g
  · rw [hl] at c1
    cases hfi : fineR g
    · rw [hfi] at c4
      rw [show tableA g t = [] by rw [tableA, hfi]; rfl] at c2
      rw [show slotA g m = -1 by rw [slotA, hfi]; rfl] at c3
      repeat' (first | (refine shC ?_; first | refine qC wakes13_call ?_ | refine qC c1 ?_ | refine qC c2 ?_ | refine qC c3 ?_ | refine qC c4 ?_) | refine sK ?_ | refine sC (fun _ => ?_) (fun _ => ?_) | fail)
      all_goals exact retq rfl rfl
    · have hF := fine_of hfi
      rw [hfi] at c4
      have ck := KindR_call g t
      have c5 := Table_call g hF _ t (Nat.le_refl _)
      have c6 := SameI_call (tbl g t) (tbl g t)
      rw [decide_eq_true rfl] at c6
      by_cases hk : kindG g t = 0
      · rw [hk] at ck
        rw [show tableA g t = tbl g t by rw [tableA, hfi, hk]; rfl] at c2
        by_cases hm : mOk g m
        · have hd0 : decide (m < 0) = false := decide_eq_false (by have := hm.1; omega)
          have hd1 : decide ((((g.methods.map mePV).length : Nat) : Int) ≤ m) = false := decide_eq_false (by rw [List.length_map]; have := hm.1; have := hm.2; omega)
          rw [show slotA g m = slotT g m by rw [slotA, hfi, decide_eq_true hm.1, decide_eq_true (show m < g.methods.length by have := hm.1; have := hm.2; omega)]; rfl] at c3
          repeat' (first | (refine shC ?_; first | refine qC wakes13_call ?_ | refine qC c1 ?_ | refine qC c2 ?_ | refine qC c3 ?_ | refine qC c4 ?_ | refine qC ck ?_ | refine qC c5 ?_ | refine qC c6 ?_ | refine qC (SlotR_call g hF m hm) ?_) | refine sK ?_ | refine sC (fun _ => ?_) (fun _ => ?_) | fail)
          all_goals exact retq rfl (by simp [retPV])
        · rw [show slotA g m = -1 by
            rw [slotA, if_neg]
            simp only [Bool.and_eq_true, decide_eq_true_eq, not_and]
            rintro ⟨_, h⟩ h2; exact hm ⟨h, by omega⟩] at c3
          by_cases h0 : m < 0
          · repeat' (first | (refine shC ?_; first | refine qC wakes13_call ?_ | refine qC c1 ?_ | refine qC c2 ?_ | refine qC c3 ?_ | refine qC c4 ?_ | refine qC ck ?_ | refine qC c5 ?_ | refine qC c6 ?_) | refine sK ?_ | refine sC (fun _ => ?_) (fun _ => ?_) | fail)
            all_goals exact retq rfl rfl
          · have hd0 : decide (m < 0) = false := decide_eq_false h0
            have hd1 : decide ((((g.methods.map mePV).length : Nat) : Int) ≤ m) = true := decide_eq_true (by rw [List.length_map]; have : ¬ m.toNat < g.methods.length := fun h => hm ⟨by omega, h⟩; omega)
            repeat' (first | (refine shC ?_; first | refine qC wakes13_call ?_ | refine qC c1 ?_ | refine qC c2 ?_ | refine qC c3 ?_ | refine qC c4 ?_ | refine qC ck ?_ | refine qC c5 ?_ | refine qC c6 ?_) | refine sK ?_ | refine sC (fun _ => ?_) (fun _ => ?_) | fail)
            all_goals exact retq rfl rfl
      · have hkb : (kindG g t != 0) = true := by simp [hk]
        have hkc : (kindG g t == 0) = false := by simp [hk]
        rw [show tableA g t = [] by rw [tableA, hfi, hkc]; rfl] at c2
        by_cases hm : mOk g m
        · have hd0 : decide (m < 0) = false := decide_eq_false (by have := hm.1; omega)
          have hd1 : decide ((((g.methods.map mePV).length : Nat) : Int) ≤ m) = false := decide_eq_false (by rw [List.length_map]; have := hm.1; have := hm.2; omega)
          rw [show slotA g m = slotT g m by rw [slotA, hfi, decide_eq_true hm.1, decide_eq_true (show m < g.methods.length by have := hm.1; have := hm.2; omega)]; rfl] at c3
          repeat' (first | (refine shC ?_; first | refine qC wakes13_call ?_ | refine qC c1 ?_ | refine qC c2 ?_ | refine qC c3 ?_ | refine qC c4 ?_ | refine qC ck ?_ | refine qC (SlotR_call g hF m hm) ?_) | refine sK ?_ | refine sC (fun _ => ?_) (fun _ => ?_) | fail)
          all_goals exact retq rfl (by simp [retPV])
        · rw [show slotA g m = -1 by
            rw [slotA, if_neg]
            simp only [Bool.and_eq_true, decide_eq_true_eq, not_and]
            rintro ⟨_, h⟩ h2; exact hm ⟨h, by omega⟩] at c3
          by_cases h0 : m < 0
          · repeat' (first | (refine shC ?_; first | refine qC wakes13_call ?_ | refine qC c1 ?_ | refine qC c2 ?_ | refine qC c3 ?_ | refine qC c4 ?_ | refine qC ck ?_) | refine sK ?_ | refine sC (fun _ => ?_) (fun _ => ?_) | fail)
            all_goals exact retq rfl rfl
          · have hd0 : decide (m < 0) = false := decide_eq_false h0
            have hd1 : decide ((((g.methods.map mePV).length : Nat) : Int) ≤ m) = true := decide_eq_true (by rw [List.length_map]; have : ¬ m.toNat < g.methods.length := fun h => hm ⟨by omega, h⟩; omega)
            repeat' (first | (refine shC ?_; first | refine qC wakes13_call ?_ | refine qC c1 ?_ | refine qC c2 ?_ | refine qC c3 ?_ | refine qC c4 ?_ | refine qC ck ?_) | refine sK ?_ | refine sC (fun _ => ?_) (fun _ => ?_) | fail)
            all_goals exact retq rfl rfl
  · rw [hl] at c1
    repeat' (first | (refine shC ?_; first | refine qC wakes13_call ?_ | refine qC c1 ?_) | refine sK ?_ | refine sC (fun _ => ?_) (fun _ => ?_) | fail)
    all_goals exact retq rfl rfl
set_option maxHeartbeats 1000000 in
theorem SlotsBelow_call (g : Img) (hx : OkA g) (a : Int) (ha0 : 0 ≤ a) (ha1 : a ≤ 255) : ACall Tryz.prog 10 [imgPV g, .base (.int .u8 a)] (pb true) := by
  refine acall_intro tbOK Tryz.func10 rfl (by kernel_rfl) Tryz.ntmps10 (by simp) _ rfl (fun hw gB hgB => ?_)
  have c1 := Long_call g
  have c4 := FineR_call g
  cases hl : longG g
  · rw [hl] at c1
    cases hfi : fineR g
    · rw [hfi] at c4
      repeat' (first | (refine shC ?_; first | refine qC wakes13_call ?_ | refine qC c1 ?_ | refine qC c4 ?_) | refine sK ?_ | refine sC (fun _ => ?_) (fun _ => ?_) | fail)
      all_goals exact retq rfl rfl
    · have hF := fine_of hfi
      have hW := well_wl hF.well
      have hN := (formedG_bounds hF.formed).1
      rw [hfi] at c4
      by_cases hn : g.types.length = 0
      · have hnb : ((((g.types.map tdPV).length : Nat) : Int) == 0) = true := by simp [hn]
        repeat' (first | (refine shC ?_; first | refine qC wakes13_call ?_ | refine qC c1 ?_ | refine qC c4 ?_) | refine sK ?_ | refine sC (fun _ => ?_) (fun _ => ?_) | fail)
        all_goals exact retq rfl rfl
      · have hnb : ((((g.types.map tdPV).length : Nat) : Int) == 0) = false := by rw [List.length_map, beq_eq_false_iff_ne]; omega
        have hne : (((g.types.map tdPV).length : Nat) : Int) ≠ 0 := by rw [List.length_map]; omega
        have hlen : (g.types.map tdPV).length = g.types.length := by simp
        obtain ⟨hx0, hx1⟩ := u8_rem ha0 ha1 hn
        rw [← hlen] at hx0 hx1
        obtain ⟨t, hxx⟩ : ∃ x, (IntKind.i64.wrap a).tmod (((g.types.map tdPV).length : Nat) : Int) = x := ⟨_, rfl⟩
        rw [hxx] at hx0 hx1
        rw [hlen] at hx1
        obtain ⟨td, htd⟩ := typeAt_of_lt (g := g) (t := t) ⟨hx0, hx1⟩
        obtain ⟨h0, he⟩ := typeAt_get htd
        have ck := KindR_call g t
        by_cases hu : td.ext < 0
        · repeat' (first | refine ao_q rfl (q_rem t tbOK rfl rfl rfl hne hxx) rfl rfl ?_ | (refine shC ?_; first | refine qC wakes13_call ?_ | refine qC c1 ?_ | refine qC c4 ?_) | (refine shX ?_; first | refine ao_q rfl (q_index tbOK rfl rfl rfl rfl rfl rfl h0 he) rfl rfl ?_ | refine AD.step _ _ _ _ _ rfl (q_index tbOK rfl rfl rfl rfl rfl rfl h0 he) rfl rfl ?_) | refine sK ?_ | refine sC (fun _ => ?_) (fun _ => ?_) | fail)
          all_goals exact retq rfl rfl
        · have hub : decide (td.ext < 0) = false := decide_eq_false hu
          by_cases hk : kindG g t = 0
          · rw [hk] at ck
            have hup := hW.up_cons htd
            have hfa := formed_at hF.formed htd
            obtain ⟨td2, htd2⟩ := typeAt_of_lt (g := g) (t := td.ext) ⟨by omega, hfa.2.2.2.1⟩
            have hku : kindG g td.ext = 0 := up_kind0 hW _ t rfl hk _ (by rw [hup, hW.up_cons htd2]; simp)
            have c5 := TableP_call g hx t
            have c6 := TableP_call g hx td.ext
            rw [show tableA g t = tbl g t by rw [tableA, hfi, hk]; rfl] at c5
            rw [show tableA g td.ext = tbl g td.ext by rw [tableA, hfi, hku]; rfl] at c6
            have hcons := tbl_cons hW htd
            have hml := (tblFold_len g (methodsOf g t) (tbl g td.ext)).1
            have hll := tbl_len hF t
            rw [← hcons] at hml
            have hd : decide ((((tbl g t).map pi).length : Int) < ((((tbl g td.ext).map pi).length : Nat) : Int)) = false := decide_eq_false (by rw [List.length_map, List.length_map]; omega)
            repeat' (first | refine ao_q rfl (q_rem t tbOK rfl rfl rfl hne hxx) rfl rfl ?_ | (refine shC ?_; first | refine qC wakes13_call ?_ | refine qC c1 ?_ | refine qC c4 ?_ | refine qC ck ?_ | refine qC c5 ?_ | refine qC c6 ?_) | (refine shX ?_; first | refine ao_q rfl (q_index tbOK rfl rfl rfl rfl rfl rfl h0 he) rfl rfl ?_ | refine AD.step _ _ _ _ _ rfl (q_index tbOK rfl rfl rfl rfl rfl rfl h0 he) rfl rfl ?_) | refine sK ?_ | refine sC (fun _ => ?_) (fun _ => ?_) | fail)
            refine aw_loop (fun k : Nat => [(2, .pv (.ptr (imgPV g) 0)), (7, .pv (ints (tbl g t))), (8, .pv (ints (tbl g td.ext))), (57, .pv (pi (tbl g td.ext).length)), (58, .pv (pi k))]) (fun _ => []) (fun k => k ≤ (tbl g td.ext).length) (fun k => (tbl g td.ext).length - k) 0 (by omega)
              (by repeat (first | exact sub_nil | refine sub_cons rfl ?_ | (refine sub_i rfl ?_ ?_; · simp))) tH ?_
            rintro k hk2
            by_cases hlt : k < (tbl g td.ext).length
            · have hlt2 : k < (tbl g t).length := by omega
              have e1 : ((tbl g t).map pi)[k]? = some (pi (tbl g t)[k]) := map_get (f := pi) hlt2
              have e2 : ((tbl g td.ext).map pi)[k]? = some (pi (tbl g td.ext)[k]) := map_get (f := pi) hlt
              have m1 := tbl_mem (List.getElem_mem hlt2)
              have m2 := tbl_mem (List.getElem_mem hlt)
              have q1 := mAt_get m1
              have q2 := mAt_get m2
              have ha := tblFold_alk g (methodsOf g t) (tbl g td.ext) k hlt
              rw [← hcons, getD_get hlt2, getD_get hlt] at ha
              have ca := AlikeR_call (mAt g (tbl g t)[k]) (mAt g (tbl g td.ext)[k])
              rw [show alikeR (mAt g (tbl g t)[k]) (mAt g (tbl g td.ext)[k]) = true from ha] at ca
              repeat' (first | (refine shC ?_; first | refine qC ca ?_) | (refine shX ?_; first | refine qX e1 ?_ | refine qX e2 ?_ | refine ao_q rfl (q_index tbOK rfl rfl rfl rfl rfl rfl m1.1 q1) rfl rfl ?_ | refine AD.step _ _ _ _ _ rfl (q_index tbOK rfl rfl rfl rfl rfl rfl m1.1 q1) rfl rfl ?_ | refine ao_q rfl (q_index tbOK rfl rfl rfl rfl rfl rfl m2.1 q2) rfl rfl ?_ | refine AD.step _ _ _ _ _ rfl (q_index tbOK rfl rfl rfl rfl rfl rfl m2.1 q2) rfl rfl ?_) | refine sK ?_ | refine sC (fun _ => ?_) (fun _ => ?_) | fail)
              all_goals exact ⟨k + 1, hlt, tD, tS, tH⟩
            · repeat' (first | refine sK ?_ | refine sC (fun _ => ?_) (fun _ => ?_) | fail)
              all_goals exact retq rfl rfl
          · have hkb : (kindG g t != 0) = true := by simp [hk]
            repeat' (first | refine ao_q rfl (q_rem t tbOK rfl rfl rfl hne hxx) rfl rfl ?_ | (refine shC ?_; first | refine qC wakes13_call ?_ | refine qC c1 ?_ | refine qC c4 ?_ | refine qC ck ?_) | (refine shX ?_; first | refine ao_q rfl (q_index tbOK rfl rfl rfl rfl rfl rfl h0 he) rfl rfl ?_ | refine AD.step _ _ _ _ _ rfl (q_index tbOK rfl rfl rfl rfl rfl rfl h0 he) rfl rfl ?_) | refine sK ?_ | refine sC (fun _ => ?_) (fun _ => ?_) | fail)
            all_goals exact retq rfl rfl
  · rw [hl] at c1
    repeat' (first | (refine shC ?_; first | refine qC wakes13_call ?_ | refine qC c1 ?_) | refine sK ?_ | refine sC (fun _ => ?_) (fun _ => ?_) | fail)
    all_goals exact retq rfl rfl
end Go.Cg
