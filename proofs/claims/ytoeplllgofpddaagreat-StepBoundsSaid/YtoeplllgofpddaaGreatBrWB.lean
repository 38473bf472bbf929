/- Law 'StepBounds' of cattlegrid: whatever the image, the place and the state, the law returns true and each argument reads as before. No conditions. -/
import Derived.Test.YtoeplllgofpddaaGreatU21
set_option linter.unusedVariables false
set_option linter.unusedSimpArgs false
namespace Go.Proofs.YtoeplllgofpddaaGreat
open Go.ChangeShapes Go.WideShapes Go.ChangeAt Go.RowKit Go.Cg
set_option maxRecDepth 100000 in
theorem zdU (hlaw : ∀ (g : Img) (p : Int × Int) (l : List Ty), zft g → zbr p → zhe l → ACall Tryz.prog 6 [zH g, zhv p, tys l] (pb true))
    (os : Os) (started : os.Started) (H : Type) (enc : TypeId × Value → H) :
    ReturnsInHanded {} Tryz.checked os 6 .any (Rows.stepBoundsSpec.pre6 enc Tryz.prog Tryz.f6 Rows.stepBoundsRow.domain false) (Rows.stepBoundsSpec.post enc Tryz.prog Tryz.f6 false true false false) := by
  refine returnsInHanded_of_change (C := Tryz.checked) own started (by kernel_rfl) Tryz.func6
    (ChangeSpec.witness6 (enc := enc) (C := Tryz.checked) false ⟨#[], #[.agg #[.slice none 0 0, .slice none 0 0, .slice none 0 0, .int .i64 0], .agg #[.int .i64 0, .int .i64 0], .slice none 0 0], []⟩ 6 (by kernel_rfl) (by kernel_rfl) (by kernel_rfl) (by kernel_rfl)) ?_
  intro W base args ds gs before hval0 hW hcnd _
  have hval : ∀ (j : Nat) t v, Tryz.f6.params[j]? = some t → args[j]? = some v → Value.okWide Tryz.prog W .any base t v := hval0
  have hW' := hW
  obtain ⟨p, q, hA0, hV, rfl, hfz, hnd⟩ := hW
  have hA : DataW.TrodAll enc Tryz.prog W 0 (fun _ => true) true Tryz.f6.params.toList args.toList ds p := hA0
  rw [Tryz.params6] at hA hval
  obtain ⟨v0, vs0, d0, ds0, p0, q0, hargs, rfl, rfl, h0, r0⟩ := trodAll_cons hA
  obtain ⟨v1, vs1, d1, ds1, p1, q1, rfl, rfl, rfl, h1, r1⟩ := trodAll_cons r0
  obtain ⟨v2, vs2, d2, ds2, p2, q2, rfl, rfl, rfl, h2, r2⟩ := trodAll_cons r1
  obtain ⟨rfl, rfl, rfl⟩ := trodAll_nil r2
  obtain rfl : args = #[v0, v1, v2] := by cases args; simp_all
  obtain ⟨rfl, rfl⟩ := trodVars_none hV
  simp only [List.append_nil] at hW'
  have hlt : ∀ y ∈ p0 ++ (p1 ++ (p2)), y.block < W.heap.size := fun y hy => by simpa using hW'.lt y hy
  obtain ⟨cs0, rfl⟩ := Cg.okWide_struct Tryz.underlying50 (hval 0 50 v0 rfl rfl)
  obtain ⟨_, ⟨x0, g0, e0⟩, k0⟩ := zcK zq7 h0
  subst e0
  obtain ⟨cs1, rfl⟩ := Cg.okWide_struct Tryz.underlying52 (hval 1 52 v1 rfl rfl)
  obtain ⟨_, ⟨x1, g1, e1⟩, k1⟩ := zcK zjk h1
  subst e1
  obtain ⟨_, ⟨x2, g2, e2⟩, k2⟩ := ztw zn4 (Cg.okWide_slice_one Tryz.underlying53 (hval 2 53 v2 rfl rfl)) h2
  simp only [List.cons.injEq, and_true] at e2
  subst e2
  refine ((hlaw x0 x1 x2 g0 g1 g2).calls (KW W) W [.agg cs0, .agg cs1, v2] (fun b o h => h) (.cons k0 (.cons k1 (.cons k2 (.nil))))).mono ?_
  rintro e W' ⟨v, K', rfl, hev, hr⟩
  cases hr
  have hb := hev.below
  refine ⟨_, rfl, _, _, _, [], p0 ++ (p1 ++ (p2 ++ [])), [], hW', trodAll_mk1 (shut_bool Tryz.underlying4 _), ?_, rfl, hb.frame _, fun h => by cases h⟩
  exact (trodAll_cons_mk (Below.trod laidOut (by kernel_rfl) (of_decide_eq_true (by kernel_rfl)) h0 hb (fun y hy => hlt y (by simp [hy]))) (trodAll_cons_mk (Below.trod laidOut (by kernel_rfl) (of_decide_eq_true (by kernel_rfl)) h1 hb (fun y hy => hlt y (by simp [hy]))) (trodAll_cons_mk (Below.trod laidOut (by kernel_rfl) (of_decide_eq_true (by kernel_rfl)) h2 hb (fun y hy => hlt y (by simp [hy]))) trodAll_mk0)))
theorem zhp : Tryz.checked.prog.inPlace 6 = Rows.stepBoundsRow.inPlace := by kernel_rfl
theorem zg0 : Tryz.checked.prog.unfollowed 6 = Rows.stepBoundsRow.unfollowed := by kernel_rfl
theorem zhi : Tryz.checked.prog.recurses 6 = Rows.stepBoundsRow.recurses := by kernel_rfl
theorem zhN : Tryz.checked.prog.varsNamed 6 = Rows.stepBoundsRow.named := by kernel_rfl
theorem ze7 : Tryz.checked.prog.funcNamed Rows.stepBoundsRow.func = some 6 := by kernel_rfl
theorem zeG : joinedFacts Tryz.checked.prog 6 Tryz.f6 Rows.stepBoundsSpec Rows.stepBoundsRow = true :=
  zeF zjD zj8 zhP zhE zhC zjC zhp zg0 zhi zhN (by kernel_rfl)
theorem zf9 (hlaw : ∀ (g : Img) (p : Int × Int) (l : List Ty), zft g → zbr p → zhe l → ACall Tryz.prog 6 [zH g, zhv p, tys l] (pb true)) : Rows.StepBoundsSaid :=
  OpenClaim.holds_of_wide 6 Tryz.f6 rfl rfl rfl rfl rfl rfl rfl ⟨rfl, rfl, rfl, rfl, rfl⟩ rfl rfl rfl rfl rfl ze7 Tryz.func6 zeG
    (of_decide_eq_true (by kernel_rfl)) (by unfold Func.isWrapper; first | (rw [if_pos (by decide +kernel)]; kernel_rfl) | (rw [if_neg (by decide +kernel)]; exact ⟨rfl, rfl⟩))
    (fun os started H enc _ => zdU hlaw os started H enc)
theorem stepBounds_holds : Rows.StepBoundsSaid :=
  zf9 fun g p l hg _ _ => zga g (zfd hg) p.1 p.2 l
#print axioms stepBounds_holds
end Go.Proofs.YtoeplllgofpddaaGreat
