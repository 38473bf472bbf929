/- Law 'TypingProof' of cattlegrid: whatever the image and the number of the method, the law returns true and each argument reads as before. No conditions. -/
import Derived.Test.YtdbgicaoddibdaaGreatT54
import Derived.Test.YtdbgicaoddibdaaGreatT48
set_option linter.unusedVariables false
set_option linter.unusedSimpArgs false
namespace Go.Proofs.YtdbgicaoddibdaaGreat
open Go.ChangeShapes Go.WideShapes Go.ChangeAt Go.RowKit Go.Cg
set_option maxRecDepth 100000 in
theorem zef (hlaw : ∀ (g : Img) (m : Int), zqr g → zm6 m → ACall Tryz.prog 3 [zO g, pi m] (pb true))
    (os : Os) (started : os.Started) (H : Type) (enc : TypeId × Value → H) :
    ReturnsInHanded {} Tryz.checked os 3 .any (Rows.typingProofSpec.pre6 enc Tryz.prog Tryz.f3 Rows.typingProofRow.domain false) (Rows.typingProofSpec.post enc Tryz.prog Tryz.f3 false true false false) := by
  refine returnsInHanded_of_change (C := Tryz.checked) own started (by kernel_rfl) Tryz.func3
    (ChangeSpec.witness6 (enc := enc) (C := Tryz.checked) false ⟨#[], #[.agg #[.slice none 0 0, .slice none 0 0, .slice none 0 0, .int .i64 0], .int .i64 0], []⟩ 3 (by kernel_rfl) (by kernel_rfl) (by kernel_rfl) (by kernel_rfl)) ?_
  intro W base args ds gs before hval0 hW hcnd _
  have hval : ∀ (j : Nat) t v, Tryz.f3.params[j]? = some t → args[j]? = some v → Value.okWide Tryz.prog W .any base t v := hval0
  have hW' := hW
  obtain ⟨p, q, hA0, hV, rfl, hfz, hnd⟩ := hW
  have hA : DataW.TrodAll enc Tryz.prog W 0 (fun _ => true) true Tryz.f3.params.toList args.toList ds p := hA0
  rw [Tryz.params3] at hA hval
  obtain ⟨v0, vs0, d0, ds0, p0, q0, hargs, rfl, rfl, h0, r0⟩ := trodAll_cons hA
  obtain ⟨v1, vs1, d1, ds1, p1, q1, rfl, rfl, rfl, h1, r1⟩ := trodAll_cons r0
  obtain ⟨rfl, rfl, rfl⟩ := trodAll_nil r1
  obtain rfl : args = #[v0, v1] := by cases args; simp_all
  obtain ⟨rfl, rfl⟩ := trodVars_none hV
  simp only [List.append_nil] at hW'
  have hlt : ∀ y ∈ p0 ++ (p1), y.block < W.heap.size := fun y hy => by simpa using hW'.lt y hy
  obtain ⟨cs0, rfl⟩ := Cg.okWide_struct Tryz.underlying26 (hval 0 26 v0 rfl rfl)
  obtain ⟨_, ⟨x0, g0, e0⟩, k0⟩ := zwS zxq h0
  subst e0
  obtain ⟨_, ⟨x1, g1, e1⟩, k1⟩ := zwF zxe (Cg.okWide_int_one Tryz.underlying3 (hval 1 3 v1 rfl rfl)) h1
  simp only [List.cons.injEq, and_true] at e1
  subst e1
  refine ((hlaw x0 x1 g0 g1).calls (KW W) W [.agg cs0, v1] (fun b o h => h) (.cons k0 (.cons k1 (.nil)))).mono ?_
  rintro e W' ⟨v, K', rfl, hev, hr⟩
  cases hr
  have hb := hev.below
  refine ⟨_, rfl, _, _, _, [], p0 ++ (p1 ++ []), [], hW', trodAll_mk1 (shut_bool Tryz.underlying4 _), ?_, rfl, hb.frame _, fun h => by cases h⟩
  exact (trodAll_cons_mk (Below.trod laidOut (by kernel_rfl) (of_decide_eq_true (by kernel_rfl)) h0 hb (fun y hy => hlt y (by simp [hy]))) (trodAll_cons_mk (Below.trod laidOut (by kernel_rfl) (of_decide_eq_true (by kernel_rfl)) h1 hb (fun y hy => hlt y (by simp [hy]))) trodAll_mk0))
theorem zhm : Tryz.checked.prog.inPlace 3 = Rows.typingProofRow.inPlace := by kernel_rfl
theorem zhp : Tryz.checked.prog.unfollowed 3 = Rows.typingProofRow.unfollowed := by kernel_rfl
theorem zhh : Tryz.checked.prog.recurses 3 = Rows.typingProofRow.recurses := by kernel_rfl
theorem zhl : Tryz.checked.prog.varsNamed 3 = Rows.typingProofRow.named := by kernel_rfl
theorem zeY : Tryz.checked.prog.funcNamed Rows.typingProofRow.func = some 3 := by kernel_rfl
theorem zfi : joinedFacts Tryz.checked.prog 3 Tryz.f3 Rows.typingProofSpec Rows.typingProofRow = true :=
  zsq zvs zu6 ztH zuS zs3 zvP zhm zhp zhh zhl (by kernel_rfl)
theorem zfH (hlaw : ∀ (g : Img) (m : Int), zqr g → zm6 m → ACall Tryz.prog 3 [zO g, pi m] (pb true)) : Rows.TypingProofSaid :=
  OpenClaim.holds_of_wide 3 Tryz.f3 rfl rfl rfl rfl rfl rfl rfl ⟨rfl, rfl, rfl, rfl, rfl⟩ rfl rfl rfl rfl rfl zeY Tryz.func3 zfi
    (of_decide_eq_true (by kernel_rfl)) (by unfold Func.isWrapper; first | (rw [if_pos (by decide +kernel)]; kernel_rfl) | (rw [if_neg (by decide +kernel)]; exact ⟨rfl, rfl⟩))
    (fun os started H enc _ => zef hlaw os started H enc)
theorem typingProof_holds : Rows.TypingProofSaid :=
  zfH fun g m hx _ => zfZ g (zsH hx) m
#print axioms typingProof_holds
end Go.Proofs.YtdbgicaoddibdaaGreat
