/- Law 'FramesShape' of cattlegrid: whatever the image and the number, the law returns true and each argument reads as before. No conditions. -/
import Derived.Test.YthekdpbplmigeaaGreatU21
import Derived.Test.YthekdpbplmigeaaGreatU15
namespace Go.Proofs.YthekdpbplmigeaaGreat
open Go.ChangeShapes Go.WideShapes Go.ChangeAt Go.RowKit Go.Cg
set_option maxRecDepth 100000 in
theorem framesShape_lifted (hlaw : ∀ (g : Img) (n : Int), okImg g → okI64 n → ACall Tryz.prog 9 [imgPV g, pi n] (pb true))
    (os : Os) (started : os.Started) (H : Type) (enc : TypeId × Value → H) :
    ReturnsInHanded {} Tryz.checked os 9 .any (Rows.framesShapeSpec.pre6 enc Tryz.prog Tryz.f9 Rows.framesShapeRow.domain false) (Rows.framesShapeSpec.post enc Tryz.prog Tryz.f9 false true false false) := by
  refine returnsInHanded_of_change (C := Tryz.checked) own started (by kernel_rfl) Tryz.func9
    (ChangeSpec.witness6 (enc := enc) (C := Tryz.checked) false ⟨#[], #[.agg #[.slice none 0 0, .slice none 0 0, .slice none 0 0, .int .i64 0], .int .i64 0], []⟩ 9 (by kernel_rfl) (by kernel_rfl) (by kernel_rfl) (by kernel_rfl)) ?_
  intro W base args ds gs before hval0 hW hcnd _
  have hval : ∀ (j : Nat) t v, Tryz.f9.params[j]? = some t → args[j]? = some v → Value.okWide Tryz.prog W .any base t v := hval0
  have hW' := hW
  obtain ⟨p, q, hA0, hV, rfl, hfz, hnd⟩ := hW
  have hA : DataW.TrodAll enc Tryz.prog W 0 (fun _ => true) true Tryz.f9.params.toList args.toList ds p := hA0
  rw [Tryz.params9] at hA hval
  obtain ⟨v0, vs0, d0, ds0, p0, q0, hargs, rfl, rfl, h0, r0⟩ := trodAll_cons hA
  obtain ⟨v1, vs1, d1, ds1, p1, q1, rfl, rfl, rfl, h1, r1⟩ := trodAll_cons r0
  obtain ⟨rfl, rfl, rfl⟩ := trodAll_nil r1
  obtain rfl : args = #[v0, v1] := by cases args; simp_all
  obtain ⟨rfl, rfl⟩ := trodVars_none hV
  simp only [List.append_nil] at hW'
  have hlt : ∀ y ∈ p0 ++ (p1), y.block < W.heap.size := fun y hy => by simpa using hW'.lt y hy
  obtain ⟨cs0, rfl⟩ := Cg.okWide_struct Tryz.underlying26 (hval 0 26 v0 rfl rfl)
  obtain ⟨_, ⟨x0, g0, e0⟩, k0⟩ := rd_agg rdImg h0
  subst e0
  obtain ⟨_, ⟨x1, g1, e1⟩, k1⟩ := rd_one rdI64 (Cg.okWide_int_one Tryz.underlying3 (hval 1 3 v1 rfl rfl)) h1
  simp only [List.cons.injEq, and_true] at e1
  subst e1
  refine ((hlaw x0 x1 g0 g1).calls (KW W) W [.agg cs0, v1] (fun b o h => h) (.cons k0 (.cons k1 (.nil)))).mono ?_
  rintro e W' ⟨v, K', rfl, hev, hr⟩
  cases hr
  have hb := hev.below
  refine ⟨_, rfl, _, _, _, [], p0 ++ (p1 ++ []), [], hW', trodAll_mk1 (shut_bool Tryz.underlying4 _), ?_, rfl, hb.frame _, fun h => by cases h⟩
  exact (trodAll_cons_mk (Below.trod laidOut (by kernel_rfl) (of_decide_eq_true (by kernel_rfl)) h0 hb (fun y hy => hlt y (by simp [hy]))) (trodAll_cons_mk (Below.trod laidOut (by kernel_rfl) (of_decide_eq_true (by kernel_rfl)) h1 hb (fun y hy => hlt y (by simp [hy]))) trodAll_mk0))
theorem framesShape_jf0 : Tryz.checked.prog.inPlace 9 = Rows.framesShapeRow.inPlace := by kernel_rfl
theorem framesShape_jf1 : Tryz.checked.prog.unfollowed 9 = Rows.framesShapeRow.unfollowed := by kernel_rfl
theorem framesShape_jf2 : Tryz.checked.prog.recurses 9 = Rows.framesShapeRow.recurses := by kernel_rfl
theorem framesShape_jf3 : Tryz.checked.prog.varsNamed 9 = Rows.framesShapeRow.named := by kernel_rfl
theorem framesShape_named : Tryz.checked.prog.funcNamed Rows.framesShapeRow.func = some 9 := by kernel_rfl
theorem framesShape_facts : joinedFacts Tryz.checked.prog 9 Tryz.f9 Rows.framesShapeSpec Rows.framesShapeRow = true :=
  joined_of jf_laid jf_maps jf_heard jf_enter jf_lifts jf_make framesShape_jf0 framesShape_jf1 framesShape_jf2 framesShape_jf3 (by kernel_rfl)
theorem framesShape_over (hlaw : ∀ (g : Img) (n : Int), okImg g → okI64 n → ACall Tryz.prog 9 [imgPV g, pi n] (pb true)) : Rows.FramesShapeSaid :=
  OpenClaim.holds_of_wide 9 Tryz.f9 rfl rfl rfl rfl rfl rfl rfl ⟨rfl, rfl, rfl, rfl, rfl⟩ rfl rfl rfl rfl rfl framesShape_named Tryz.func9 framesShape_facts
    (of_decide_eq_true (by kernel_rfl)) (by unfold Func.isWrapper; first | (rw [if_pos (by decide +kernel)]; kernel_rfl) | (rw [if_neg (by decide +kernel)]; exact ⟨rfl, rfl⟩))
    (fun os started H enc _ => framesShape_lifted hlaw os started H enc)
theorem framesShape_holds : Rows.FramesShapeSaid :=
  framesShape_over fun g n hg _ => FramesShape_call g (okImg_arg hg) n
#print axioms framesShape_holds
end Go.Proofs.YthekdpbplmigeaaGreat
