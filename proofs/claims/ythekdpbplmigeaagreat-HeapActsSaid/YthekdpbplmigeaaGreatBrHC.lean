/- Law 'HeapActs' of cattlegrid: whatever the image, the number and the acts, the law returns true and each argument reads as before. No conditions. -/
import Derived.Test.YthekdpbplmigeaaGreatU24
namespace Go.Proofs.YthekdpbplmigeaaGreat
open Go.ChangeShapes Go.WideShapes Go.ChangeAt Go.RowKit Go.Cg
theorem okAct_of {c : Ac} (h : okAc c) : OkAct c := by
  obtain ⟨_, _, h3, h4, h5, h6⟩ := h
  exact ⟨okTy_in h3, okU64_in h4, okU64_in h5, fun x hx => okU64_in (h6 x hx)⟩
set_option maxRecDepth 100000 in
theorem heapActs_lifted (hlaw : ∀ (g : Img) (w : Int) (l : List Ac), okImg g → okI64 w → okAcs l → ACall Tryz.prog 5 [imgPV g, pi w, acts l] (pb true))
    (os : Os) (started : os.Started) (H : Type) (enc : TypeId × Value → H) :
    ReturnsInHanded {} Tryz.checked os 5 .any (Rows.heapActsSpec.pre6 enc Tryz.prog Tryz.f5 Rows.heapActsRow.domain false) (Rows.heapActsSpec.post enc Tryz.prog Tryz.f5 false true false false) := by
  refine returnsInHanded_of_change (C := Tryz.checked) own started (by kernel_rfl) Tryz.func5
    (ChangeSpec.witness6 (enc := enc) (C := Tryz.checked) false ⟨#[], #[.agg #[.slice none 0 0, .slice none 0 0, .slice none 0 0, .int .i64 0], .int .i64 0, .slice none 0 0], []⟩ 5 (by kernel_rfl) (by kernel_rfl) (by kernel_rfl) (by kernel_rfl)) ?_
  intro W base args ds gs before hval0 hW hcnd _
  have hval : ∀ (j : Nat) t v, Tryz.f5.params[j]? = some t → args[j]? = some v → Value.okWide Tryz.prog W .any base t v := hval0
  have hW' := hW
  obtain ⟨p, q, hA0, hV, rfl, hfz, hnd⟩ := hW
  have hA : DataW.TrodAll enc Tryz.prog W 0 (fun _ => true) true Tryz.f5.params.toList args.toList ds p := hA0
  rw [Tryz.params5] at hA hval
  obtain ⟨v0, vs0, d0, ds0, p0, q0, hargs, rfl, rfl, h0, r0⟩ := trodAll_cons hA
  obtain ⟨v1, vs1, d1, ds1, p1, q1, rfl, rfl, rfl, h1, r1⟩ := trodAll_cons r0
  obtain ⟨v2, vs2, d2, ds2, p2, q2, rfl, rfl, rfl, h2, r2⟩ := trodAll_cons r1
  obtain ⟨rfl, rfl, rfl⟩ := trodAll_nil r2
  obtain rfl : args = #[v0, v1, v2] := by cases args; simp_all
  obtain ⟨rfl, rfl⟩ := trodVars_none hV
  simp only [List.append_nil] at hW'
  have hlt : ∀ y ∈ p0 ++ (p1 ++ (p2)), y.block < W.heap.size := fun y hy => by simpa using hW'.lt y hy
  obtain ⟨cs0, rfl⟩ := Cg.okWide_struct Tryz.underlying26 (hval 0 26 v0 rfl rfl)
  obtain ⟨_, ⟨x0, g0, e0⟩, k0⟩ := rd_agg rdImg h0
  subst e0
  obtain ⟨_, ⟨x1, g1, e1⟩, k1⟩ := rd_one rdI64 (Cg.okWide_int_one Tryz.underlying3 (hval 1 3 v1 rfl rfl)) h1
  simp only [List.cons.injEq, and_true] at e1
  subst e1
  obtain ⟨_, ⟨x2, g2, e2⟩, k2⟩ := rd_one rdActs (Cg.okWide_slice_one Tryz.underlying27 (hval 2 27 v2 rfl rfl)) h2
  simp only [List.cons.injEq, and_true] at e2
  subst e2
  refine ((hlaw x0 x1 x2 g0 g1 g2).calls (KW W) W [.agg cs0, v1, v2] (fun b o h => h) (.cons k0 (.cons k1 (.cons k2 (.nil))))).mono ?_
  rintro e W' ⟨v, K', rfl, hev, hr⟩
  cases hr
  have hb := hev.below
  refine ⟨_, rfl, _, _, _, [], p0 ++ (p1 ++ (p2 ++ [])), [], hW', trodAll_mk1 (shut_bool Tryz.underlying4 _), ?_, rfl, hb.frame _, fun h => by cases h⟩
  exact (trodAll_cons_mk (Below.trod laidOut (by kernel_rfl) (of_decide_eq_true (by kernel_rfl)) h0 hb (fun y hy => hlt y (by simp [hy]))) (trodAll_cons_mk (Below.trod laidOut (by kernel_rfl) (of_decide_eq_true (by kernel_rfl)) h1 hb (fun y hy => hlt y (by simp [hy]))) (trodAll_cons_mk (Below.trod laidOut (by kernel_rfl) (of_decide_eq_true (by kernel_rfl)) h2 hb (fun y hy => hlt y (by simp [hy]))) trodAll_mk0)))
theorem heapActs_jf0 : Tryz.checked.prog.inPlace 5 = Rows.heapActsRow.inPlace := by kernel_rfl
theorem heapActs_jf1 : Tryz.checked.prog.unfollowed 5 = Rows.heapActsRow.unfollowed := by kernel_rfl
theorem heapActs_jf2 : Tryz.checked.prog.recurses 5 = Rows.heapActsRow.recurses := by kernel_rfl
theorem heapActs_jf3 : Tryz.checked.prog.varsNamed 5 = Rows.heapActsRow.named := by kernel_rfl
theorem heapActs_named : Tryz.checked.prog.funcNamed Rows.heapActsRow.func = some 5 := by kernel_rfl
theorem heapActs_facts : joinedFacts Tryz.checked.prog 5 Tryz.f5 Rows.heapActsSpec Rows.heapActsRow = true :=
  joined_of jf_laid jf_maps jf_heard jf_enter jf_lifts jf_make heapActs_jf0 heapActs_jf1 heapActs_jf2 heapActs_jf3 (by kernel_rfl)
theorem heapActs_over (hlaw : ∀ (g : Img) (w : Int) (l : List Ac), okImg g → okI64 w → okAcs l → ACall Tryz.prog 5 [imgPV g, pi w, acts l] (pb true)) : Rows.HeapActsSaid :=
  OpenClaim.holds_of_wide 5 Tryz.f5 rfl rfl rfl rfl rfl rfl rfl ⟨rfl, rfl, rfl, rfl, rfl⟩ rfl rfl rfl rfl rfl heapActs_named Tryz.func5 heapActs_facts
    (of_decide_eq_true (by kernel_rfl)) (by unfold Func.isWrapper; first | (rw [if_pos (by decide +kernel)]; kernel_rfl) | (rw [if_neg (by decide +kernel)]; exact ⟨rfl, rfl⟩))
    (fun os started H enc _ => heapActs_lifted hlaw os started H enc)
theorem heapActs_holds : Rows.HeapActsSaid :=
  heapActs_over fun g w l hg _ hl => HeapActs_call g (okImg_arg hg) w l fun c hc => okAct_of (hl c hc)
#print axioms heapActs_holds
end Go.Proofs.YthekdpbplmigeaaGreat
