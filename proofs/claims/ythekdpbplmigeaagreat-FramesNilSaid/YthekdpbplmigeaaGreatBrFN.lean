/- Law 'FramesNil' of cattlegrid: whatever the numbers, the law returns true and each argument reads as before. No conditions. -/
import Derived.Test.YthekdpbplmigeaaGreatU15
namespace Go.Proofs.YthekdpbplmigeaaGreat
open Go.ChangeShapes Go.WideShapes Go.ChangeAt Go.RowKit Go.Cg
set_option maxRecDepth 100000 in
theorem framesNil_lifted (hlaw : ∀ (n : Int) (x : Int), okI64 n → okU64 x → ACall Tryz.prog 8 [pi n, .base (.int .u64 x)] (pb true))
    (os : Os) (started : os.Started) (H : Type) (enc : TypeId × Value → H) :
    ReturnsInHanded {} Tryz.checked os 8 .any (Rows.framesNilSpec.pre6 enc Tryz.prog Tryz.f8 Rows.framesNilRow.domain false) (Rows.framesNilSpec.post enc Tryz.prog Tryz.f8 false true false false) := by
  refine returnsInHanded_of_change (C := Tryz.checked) own started (by kernel_rfl) Tryz.func8
    (ChangeSpec.witness6 (enc := enc) (C := Tryz.checked) false ⟨#[], #[.int .i64 0, .int .u64 0], []⟩ 8 (by kernel_rfl) (by kernel_rfl) (by kernel_rfl) (by kernel_rfl)) ?_
  intro W base args ds gs before hval0 hW hcnd _
  have hval : ∀ (j : Nat) t v, Tryz.f8.params[j]? = some t → args[j]? = some v → Value.okWide Tryz.prog W .any base t v := hval0
  have hW' := hW
  obtain ⟨p, q, hA0, hV, rfl, hfz, hnd⟩ := hW
  have hA : DataW.TrodAll enc Tryz.prog W 0 (fun _ => true) true Tryz.f8.params.toList args.toList ds p := hA0
  rw [Tryz.params8] at hA hval
  obtain ⟨v0, vs0, d0, ds0, p0, q0, hargs, rfl, rfl, h0, r0⟩ := trodAll_cons hA
  obtain ⟨v1, vs1, d1, ds1, p1, q1, rfl, rfl, rfl, h1, r1⟩ := trodAll_cons r0
  obtain ⟨rfl, rfl, rfl⟩ := trodAll_nil r1
  obtain rfl : args = #[v0, v1] := by cases args; simp_all
  obtain ⟨rfl, rfl⟩ := trodVars_none hV
  simp only [List.append_nil] at hW'
  have hlt : ∀ y ∈ p0 ++ (p1), y.block < W.heap.size := fun y hy => by simpa using hW'.lt y hy
  obtain ⟨_, ⟨x0, g0, e0⟩, k0⟩ := rd_one rdI64 (Cg.okWide_int_one Tryz.underlying3 (hval 0 3 v0 rfl rfl)) h0
  simp only [List.cons.injEq, and_true] at e0
  subst e0
  obtain ⟨_, ⟨x1, g1, e1⟩, k1⟩ := rd_one rdU64 (Cg.okWide_int_one Tryz.underlying33 (hval 1 33 v1 rfl rfl)) h1
  simp only [List.cons.injEq, and_true] at e1
  subst e1
  refine ((hlaw x0 x1 g0 g1).calls (KW W) W [v0, v1] (fun b o h => h) (.cons k0 (.cons k1 (.nil)))).mono ?_
  rintro e W' ⟨v, K', rfl, hev, hr⟩
  cases hr
  have hb := hev.below
  refine ⟨_, rfl, _, _, _, [], p0 ++ (p1 ++ []), [], hW', trodAll_mk1 (shut_bool Tryz.underlying4 _), ?_, rfl, hb.frame _, fun h => by cases h⟩
  exact (trodAll_cons_mk (Below.trod laidOut (by kernel_rfl) (of_decide_eq_true (by kernel_rfl)) h0 hb (fun y hy => hlt y (by simp [hy]))) (trodAll_cons_mk (Below.trod laidOut (by kernel_rfl) (of_decide_eq_true (by kernel_rfl)) h1 hb (fun y hy => hlt y (by simp [hy]))) trodAll_mk0))
theorem framesNil_jf0 : Tryz.checked.prog.inPlace 8 = Rows.framesNilRow.inPlace := by kernel_rfl
theorem framesNil_jf1 : Tryz.checked.prog.unfollowed 8 = Rows.framesNilRow.unfollowed := by kernel_rfl
theorem framesNil_jf2 : Tryz.checked.prog.recurses 8 = Rows.framesNilRow.recurses := by kernel_rfl
theorem framesNil_jf3 : Tryz.checked.prog.varsNamed 8 = Rows.framesNilRow.named := by kernel_rfl
theorem framesNil_named : Tryz.checked.prog.funcNamed Rows.framesNilRow.func = some 8 := by kernel_rfl
theorem framesNil_facts : joinedFacts Tryz.checked.prog 8 Tryz.f8 Rows.framesNilSpec Rows.framesNilRow = true :=
  joined_of jf_laid jf_maps jf_heard jf_enter jf_lifts jf_make framesNil_jf0 framesNil_jf1 framesNil_jf2 framesNil_jf3 (by kernel_rfl)
theorem framesNil_over (hlaw : ∀ (n : Int) (x : Int), okI64 n → okU64 x → ACall Tryz.prog 8 [pi n, .base (.int .u64 x)] (pb true)) : Rows.FramesNilSaid :=
  OpenClaim.holds_of_wide 8 Tryz.f8 rfl rfl rfl rfl rfl rfl rfl ⟨rfl, rfl, rfl, rfl, rfl⟩ rfl rfl rfl rfl rfl framesNil_named Tryz.func8 framesNil_facts
    (of_decide_eq_true (by kernel_rfl)) (by unfold Func.isWrapper; first | (rw [if_pos (by decide +kernel)]; kernel_rfl) | (rw [if_neg (by decide +kernel)]; exact ⟨rfl, rfl⟩))
    (fun os started H enc _ => framesNil_lifted hlaw os started H enc)
theorem framesNil_holds : Rows.FramesNilSaid :=
  framesNil_over fun n x _ _ => FramesNil_call n x
#print axioms framesNil_holds
end Go.Proofs.YthekdpbplmigeaaGreat
