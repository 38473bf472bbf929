/- Law 'VerifyAgain' of cattlegrid: whatever the image and the number of the method, the law returns true and each argument reads as before. No conditions. -/
import Derived.Test.YtemhfmmhkimhmaaGreatI47
import Derived.Test.YtemhfmmhkimhmaaGreatI31
set_option linter.unusedVariables false
set_option linter.unusedSimpArgs false
namespace Go.Proofs.YtemhfmmhkimhmaaGreat
open Go.ChangeShapes Go.WideShapes Go.ChangeAt Go.RowKit Go.Cg
set_option maxRecDepth 100000 in
theorem zem (hlaw : ∀ (g : Img) (m : Int), zqD g → zm3 m → ACall Tryz.prog 3 [zK g, pi m] (pb true))
    (os : Os) (started : os.Started) (H : Type) (enc : TypeId × Value → H) :
    ReturnsInHanded {} Tryz.checked os 3 .any (Rows.verifyAgainSpec.pre6 enc Tryz.prog Tryz.f3 Rows.verifyAgainRow.domain false) (Rows.verifyAgainSpec.post enc Tryz.prog Tryz.f3 false true false false) := by
  refine returnsInHanded_of_change (C := Tryz.checked) own started (by kernel_rfl) Tryz.func3
    (ChangeSpec.witness6 (enc := enc) (C := Tryz.checked) false ⟨#[], #[.agg #[.slice none 0 0, .slice none 0 0, .slice none 0 0, .int .i64 0], .int .i64 0], []⟩ 3 (by kernel_rfl) (by kernel_rfl) (by kernel_rfl) (by kernel_rfl)) ?_
  intro W base args ds gs before hval0 hW hcnd _
  have hval : ∀ (j : Nat) t v, Tryz.f3.params[j]? = some t → args[j]? = some v → Value.okWide Tryz.prog W .any base t v := hval0
  have hW' := hW
  obtain ⟨p, q, hA0, hV, rfl, hfz, hnd⟩ := hW
  have hA : DataW.TrodAll enc Tryz.prog W 0 (fun _ => true) true Tryz.f3.params.toList args.toList ds p := hA0
  rw [Tryz.params3] at hA hval
  obtain ⟨v0, vs0, d0, ds0, p0, q0, hargs, rfl, rfl, h0, r0⟩ := trodAll_cons hA
  obtain ⟨v1, vs1, d1, ds1, p1, q1, rfl, rfl, rfl, h1, r1⟩ := trodAll_cons r0
  obtain ⟨rfl, rfl, rfl⟩ := trodAll_nil r1
  obtain rfl : args = #[v0, v1] := by cases args; simp_all
  obtain ⟨rfl, rfl⟩ := trodVars_none hV
  simp only [List.append_nil] at hW'
  have hlt : ∀ y ∈ p0 ++ (p1), y.block < W.heap.size := fun y hy => by simpa using hW'.lt y hy
  obtain ⟨cs0, rfl⟩ := Cg.okWide_struct Tryz.underlying26 (hval 0 26 v0 rfl rfl)
  obtain ⟨_, ⟨x0, g0, e0⟩, k0⟩ := zxa zxF h0
  subst e0
  obtain ⟨_, ⟨x1, g1, e1⟩, k1⟩ := zw1 zxC (Cg.okWide_int_one Tryz.underlying3 (hval 1 3 v1 rfl rfl)) h1
  simp only [List.cons.injEq, and_true] at e1
  subst e1
  refine ((hlaw x0 x1 g0 g1).calls (KW W) W [.agg cs0, v1] (fun b o h => h) (.cons k0 (.cons k1 (.nil)))).mono ?_
  rintro e W' ⟨v, K', rfl, hev, hr⟩
  cases hr
  have hb := hev.below
  refine ⟨_, rfl, _, _, _, [], p0 ++ (p1 ++ []), [], hW', trodAll_mk1 (shut_bool Tryz.underlying4 _), ?_, rfl, hb.frame _, fun h => by cases h⟩
  exact (trodAll_cons_mk (Below.trod laidOut (by kernel_rfl) (of_decide_eq_true (by kernel_rfl)) h0 hb (fun y hy => hlt y (by simp [hy]))) (trodAll_cons_mk (Below.trod laidOut (by kernel_rfl) (of_decide_eq_true (by kernel_rfl)) h1 hb (fun y hy => hlt y (by simp [hy]))) trodAll_mk0))
theorem zhC : Tryz.checked.prog.inPlace 3 = Rows.verifyAgainRow.inPlace := by kernel_rfl
theorem zhr : Tryz.checked.prog.unfollowed 3 = Rows.verifyAgainRow.unfollowed := by kernel_rfl
theorem zhD : Tryz.checked.prog.recurses 3 = Rows.verifyAgainRow.recurses := by kernel_rfl
theorem zhq : Tryz.checked.prog.varsNamed 3 = Rows.verifyAgainRow.named := by kernel_rfl
theorem zfP : Tryz.checked.prog.funcNamed Rows.verifyAgainRow.func = some 3 := by kernel_rfl
theorem zeU : joinedFacts Tryz.checked.prog 3 Tryz.f3 Rows.verifyAgainSpec Rows.verifyAgainRow = true :=
  zrk zvd zvM zup zt9 zt8 zv9 zhC zhr zhD zhq (by kernel_rfl)
theorem zgp (hlaw : ∀ (g : Img) (m : Int), zqD g → zm3 m → ACall Tryz.prog 3 [zK g, pi m] (pb true)) : Rows.VerifyAgainSaid :=
  OpenClaim.holds_of_wide 3 Tryz.f3 rfl rfl rfl rfl rfl rfl rfl ⟨rfl, rfl, rfl, rfl, rfl⟩ rfl rfl rfl rfl rfl zfP Tryz.func3 zeU
    (of_decide_eq_true (by kernel_rfl)) (by unfold Func.isWrapper; first | (rw [if_pos (by decide +kernel)]; kernel_rfl) | (rw [if_neg (by decide +kernel)]; exact ⟨rfl, rfl⟩))
    (fun os started H enc _ => zem hlaw os started H enc)
theorem verifyAgain_holds : Rows.VerifyAgainSaid :=
  zgp fun g m hx _ => zgD g (zrb hx) m
#print axioms verifyAgain_holds
end Go.Proofs.YtemhfmmhkimhmaaGreat
