/- Law 'FramesFull' of cattlegrid: whatever the number and the list, the law returns true and each argument reads as before. No conditions. -/
import Derived.Test.YthekdpbplmigeaaGreatU16
import Derived.Test.YthekdpbplmigeaaGreatU15
namespace Go.Proofs.YthekdpbplmigeaaGreat
open Go.ChangeShapes Go.WideShapes Go.ChangeAt Go.RowKit Go.Cg
set_option maxRecDepth 100000 in
theorem framesFull_lifted (hlaw : ∀ (a : Int) (l : List Int), okU8 a → okU8s l → ACall Tryz.prog 4 [.base (.int .u8 a), .slc 1 (l.map fun n => .base (.int .u8 n)) false] (pb true))
    (os : Os) (started : os.Started) (H : Type) (enc : TypeId × Value → H) :
    ReturnsInHanded {} Tryz.checked os 4 .any (Rows.framesFullSpec.pre6 enc Tryz.prog Tryz.f4 Rows.framesFullRow.domain false) (Rows.framesFullSpec.post enc Tryz.prog Tryz.f4 false true false false) := by
  refine returnsInHanded_of_change (C := Tryz.checked) own started (by kernel_rfl) Tryz.func4
    (ChangeSpec.witness6 (enc := enc) (C := Tryz.checked) false ⟨#[], #[.int .u8 0, .slice none 0 0], []⟩ 4 (by kernel_rfl) (by kernel_rfl) (by kernel_rfl) (by kernel_rfl)) ?_
  intro W base args ds gs before hval0 hW hcnd _
  have hval : ∀ (j : Nat) t v, Tryz.f4.params[j]? = some t → args[j]? = some v → Value.okWide Tryz.prog W .any base t v := hval0
  have hW' := hW
  obtain ⟨p, q, hA0, hV, rfl, hfz, hnd⟩ := hW
  have hA : DataW.TrodAll enc Tryz.prog W 0 (fun _ => true) true Tryz.f4.params.toList args.toList ds p := hA0
  rw [Tryz.params4] at hA hval
  obtain ⟨v0, vs0, d0, ds0, p0, q0, hargs, rfl, rfl, h0, r0⟩ := trodAll_cons hA
  obtain ⟨v1, vs1, d1, ds1, p1, q1, rfl, rfl, rfl, h1, r1⟩ := trodAll_cons r0
  obtain ⟨rfl, rfl, rfl⟩ := trodAll_nil r1
  obtain rfl : args = #[v0, v1] := by cases args; simp_all
  obtain ⟨rfl, rfl⟩ := trodVars_none hV
  simp only [List.append_nil] at hW'
  have hlt : ∀ y ∈ p0 ++ (p1), y.block < W.heap.size := fun y hy => by simpa using hW'.lt y hy
  obtain ⟨_, ⟨x0, g0, e0⟩, k0⟩ := rd_one rdU8 (Cg.okWide_int_one Tryz.underlying5 (hval 0 5 v0 rfl rfl)) h0
  simp only [List.cons.injEq, and_true] at e0
  subst e0
  obtain ⟨_, ⟨x1, g1, e1⟩, k1⟩ := rd_one rdU8s (Cg.okWide_slice_one Tryz.underlying43 (hval 1 43 v1 rfl rfl)) h1
  simp only [List.cons.injEq, and_true] at e1
  subst e1
  refine ((hlaw x0 x1 g0 g1).calls (KW W) W [v0, v1] (fun b o h => h) (.cons k0 (.cons k1 (.nil)))).mono ?_
  rintro e W' ⟨v, K', rfl, hev, hr⟩
  cases hr
  have hb := hev.below
  refine ⟨_, rfl, _, _, _, [], p0 ++ (p1 ++ []), [], hW', trodAll_mk1 (shut_bool Tryz.underlying4 _), ?_, rfl, hb.frame _, fun h => by cases h⟩
  exact (trodAll_cons_mk (Below.trod laidOut (by kernel_rfl) (of_decide_eq_true (by kernel_rfl)) h0 hb (fun y hy => hlt y (by simp [hy]))) (trodAll_cons_mk (Below.trod laidOut (by kernel_rfl) (of_decide_eq_true (by kernel_rfl)) h1 hb (fun y hy => hlt y (by simp [hy]))) trodAll_mk0))
theorem framesFull_jf0 : Tryz.checked.prog.inPlace 4 = Rows.framesFullRow.inPlace := by kernel_rfl
theorem framesFull_jf1 : Tryz.checked.prog.unfollowed 4 = Rows.framesFullRow.unfollowed := by kernel_rfl
theorem framesFull_jf2 : Tryz.checked.prog.recurses 4 = Rows.framesFullRow.recurses := by kernel_rfl
theorem framesFull_jf3 : Tryz.checked.prog.varsNamed 4 = Rows.framesFullRow.named := by kernel_rfl
theorem framesFull_named : Tryz.checked.prog.funcNamed Rows.framesFullRow.func = some 4 := by kernel_rfl
theorem framesFull_facts : joinedFacts Tryz.checked.prog 4 Tryz.f4 Rows.framesFullSpec Rows.framesFullRow = true :=
  joined_of jf_laid jf_maps jf_heard jf_enter jf_lifts jf_make framesFull_jf0 framesFull_jf1 framesFull_jf2 framesFull_jf3 (by kernel_rfl)
theorem framesFull_over (hlaw : ∀ (a : Int) (l : List Int), okU8 a → okU8s l → ACall Tryz.prog 4 [.base (.int .u8 a), .slc 1 (l.map fun n => .base (.int .u8 n)) false] (pb true)) : Rows.FramesFullSaid :=
  OpenClaim.holds_of_wide 4 Tryz.f4 rfl rfl rfl rfl rfl rfl rfl ⟨rfl, rfl, rfl, rfl, rfl⟩ rfl rfl rfl rfl rfl framesFull_named Tryz.func4 framesFull_facts
    (of_decide_eq_true (by kernel_rfl)) (by unfold Func.isWrapper; first | (rw [if_pos (by decide +kernel)]; kernel_rfl) | (rw [if_neg (by decide +kernel)]; exact ⟨rfl, rfl⟩))
    (fun os started H enc _ => framesFull_lifted hlaw os started H enc)
theorem framesFull_holds : Rows.FramesFullSaid :=
  framesFull_over fun a l ha _ => FramesFull_call a l (okU8_in ha).1 (okU8_in ha).2
#print axioms framesFull_holds
end Go.Proofs.YthekdpbplmigeaaGreat
