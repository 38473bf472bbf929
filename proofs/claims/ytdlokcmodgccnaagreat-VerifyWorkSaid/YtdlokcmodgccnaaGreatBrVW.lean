/- Law 'VerifyWork' of cattlegrid: whatever the image and the number of the method, the law returns true and each argument reads as before. No conditions. -/
import Derived.Test.YtdlokcmodgccnaaGreatU43
import Derived.Test.YtdlokcmodgccnaaGreatU22
set_option linter.unusedVariables false
set_option linter.unusedSimpArgs false
namespace Go.Proofs.YtdlokcmodgccnaaGreat
open Go.ChangeShapes Go.WideShapes Go.ChangeAt Go.RowKit Go.Cg
set_option maxRecDepth 100000 in
theorem zdS (hlaw : ∀ (g : Img) (m : Int), zny g → zko m → ACall Tryz.prog 4 [zT g, pi m] (pb true))
    (os : Os) (started : os.Started) (H : Type) (enc : TypeId × Value → H) :
    ReturnsInHanded {} Tryz.checked os 4 .any (Rows.verifyWorkSpec.pre6 enc Tryz.prog Tryz.f4 Rows.verifyWorkRow.domain false) (Rows.verifyWorkSpec.post enc Tryz.prog Tryz.f4 false true false false) := by
  refine returnsInHanded_of_change (C := Tryz.checked) own started (by kernel_rfl) Tryz.func4
    (ChangeSpec.witness6 (enc := enc) (C := Tryz.checked) false ⟨#[], #[.agg #[.slice none 0 0, .slice none 0 0, .slice none 0 0, .int .i64 0], .int .i64 0], []⟩ 4 (by kernel_rfl) (by kernel_rfl) (by kernel_rfl) (by kernel_rfl)) ?_
  intro W base args ds gs before hval0 hW hcnd _
  have hval : ∀ (j : Nat) t v, Tryz.f4.params[j]? = some t → args[j]? = some v → Value.okWide Tryz.prog W .any base t v := hval0
  have hW' := hW
  obtain ⟨p, q, hA0, hV, rfl, hfz, hnd⟩ := hW
  have hA : DataW.TrodAll enc Tryz.prog W 0 (fun _ => true) true Tryz.f4.params.toList args.toList ds p := hA0
  rw [Tryz.params4] at hA hval
  obtain ⟨v0, vs0, d0, ds0, p0, q0, hargs, rfl, rfl, h0, r0⟩ := trodAll_cons hA
  obtain ⟨v1, vs1, d1, ds1, p1, q1, rfl, rfl, rfl, h1, r1⟩ := trodAll_cons r0
  obtain ⟨rfl, rfl, rfl⟩ := trodAll_nil r1
  obtain rfl : args = #[v0, v1] := by cases args; simp_all
  obtain ⟨rfl, rfl⟩ := trodVars_none hV
  simp only [List.append_nil] at hW'
  have hlt : ∀ y ∈ p0 ++ (p1), y.block < W.heap.size := fun y hy => by simpa using hW'.lt y hy
  obtain ⟨cs0, rfl⟩ := Cg.okWide_struct Tryz.underlying26 (hval 0 26 v0 rfl rfl)
  obtain ⟨_, ⟨x0, g0, e0⟩, k0⟩ := zsO ztP h0
  subst e0
  obtain ⟨_, ⟨x1, g1, e1⟩, k1⟩ := zsN ztQ (Cg.okWide_int_one Tryz.underlying3 (hval 1 3 v1 rfl rfl)) h1
  simp only [List.cons.injEq, and_true] at e1
  subst e1
  refine ((hlaw x0 x1 g0 g1).calls (KW W) W [.agg cs0, v1] (fun b o h => h) (.cons k0 (.cons k1 (.nil)))).mono ?_
  rintro e W' ⟨v, K', rfl, hev, hr⟩
  cases hr
  have hb := hev.below
  refine ⟨_, rfl, _, _, _, [], p0 ++ (p1 ++ []), [], hW', trodAll_mk1 (shut_bool Tryz.underlying4 _), ?_, rfl, hb.frame _, fun h => by cases h⟩
  exact (trodAll_cons_mk (Below.trod laidOut (by kernel_rfl) (of_decide_eq_true (by kernel_rfl)) h0 hb (fun y hy => hlt y (by simp [hy]))) (trodAll_cons_mk (Below.trod laidOut (by kernel_rfl) (of_decide_eq_true (by kernel_rfl)) h1 hb (fun y hy => hlt y (by simp [hy]))) trodAll_mk0))
theorem zhN : Tryz.checked.prog.inPlace 4 = Rows.verifyWorkRow.inPlace := by kernel_rfl
theorem zgv : Tryz.checked.prog.unfollowed 4 = Rows.verifyWorkRow.unfollowed := by kernel_rfl
theorem zhF : Tryz.checked.prog.recurses 4 = Rows.verifyWorkRow.recurses := by kernel_rfl
theorem zgr : Tryz.checked.prog.varsNamed 4 = Rows.verifyWorkRow.named := by kernel_rfl
theorem ze2 : Tryz.checked.prog.funcNamed Rows.verifyWorkRow.func = some 4 := by kernel_rfl
theorem zeP : joinedFacts Tryz.checked.prog 4 Tryz.f4 Rows.verifyWorkSpec Rows.verifyWorkRow = true :=
  zpg zrR zr7 zqg zpP zq0 zse zhN zgv zhF zgr (by kernel_rfl)
theorem zfO (hlaw : ∀ (g : Img) (m : Int), zny g → zko m → ACall Tryz.prog 4 [zT g, pi m] (pb true)) : Rows.VerifyWorkSaid :=
  OpenClaim.holds_of_wide 4 Tryz.f4 rfl rfl rfl rfl rfl rfl rfl ⟨rfl, rfl, rfl, rfl, rfl⟩ rfl rfl rfl rfl rfl ze2 Tryz.func4 zeP
    (of_decide_eq_true (by kernel_rfl)) (by unfold Func.isWrapper; first | (rw [if_pos (by decide +kernel)]; kernel_rfl) | (rw [if_neg (by decide +kernel)]; exact ⟨rfl, rfl⟩))
    (fun os started H enc _ => zdS hlaw os started H enc)
theorem verifyWork_holds : Rows.VerifyWorkSaid :=
  zfO fun g m hg _ => zfN g (zpk hg) m
#print axioms verifyWork_holds
end Go.Proofs.YtdlokcmodgccnaaGreat
