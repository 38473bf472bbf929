/- Law 'VerifyAlone' of cattlegrid: whatever the image and the two numbers, the law returns true and each argument reads as before. No conditions. -/
import Derived.Test.YtemhfmmhkimhmaaGreatV46
import Derived.Test.YtemhfmmhkimhmaaGreatV28
set_option linter.unusedVariables false
set_option linter.unusedSimpArgs false
namespace Go.Proofs.YtemhfmmhkimhmaaGreat
open Go.ChangeShapes Go.WideShapes Go.ChangeAt Go.RowKit Go.Cg
set_option maxRecDepth 100000 in
theorem zeD (hlaw : ∀ (g : Img) (m : Int) (o : Int), zqa g → zhT m → zhT o → ACall Tryz.prog 4 [zK g, pi m, pi o] (pb true))
    (os : Os) (started : os.Started) (H : Type) (enc : TypeId × Value → H) :
    ReturnsInHanded {} Tryz.checked os 4 .any (Rows.verifyAloneSpec.pre6 enc Tryz.prog Tryz.f4 Rows.verifyAloneRow.domain false) (Rows.verifyAloneSpec.post enc Tryz.prog Tryz.f4 false true false false) := by
  refine returnsInHanded_of_change (C := Tryz.checked) own started (by kernel_rfl) Tryz.func4
    (ChangeSpec.witness6 (enc := enc) (C := Tryz.checked) false ⟨#[], #[.agg #[.slice none 0 0, .slice none 0 0, .slice none 0 0, .int .i64 0], .int .i64 0, .int .i64 0], []⟩ 4 (by kernel_rfl) (by kernel_rfl) (by kernel_rfl) (by kernel_rfl)) ?_
  intro W base args ds gs before hval0 hW hcnd _
  have hval : ∀ (j : Nat) t v, Tryz.f4.params[j]? = some t → args[j]? = some v → Value.okWide Tryz.prog W .any base t v := hval0
  have hW' := hW
  obtain ⟨p, q, hA0, hV, rfl, hfz, hnd⟩ := hW
  have hA : DataW.TrodAll enc Tryz.prog W 0 (fun _ => true) true Tryz.f4.params.toList args.toList ds p := hA0
  rw [Tryz.params4] at hA hval
  obtain ⟨v0, vs0, d0, ds0, p0, q0, hargs, rfl, rfl, h0, r0⟩ := trodAll_cons hA
  obtain ⟨v1, vs1, d1, ds1, p1, q1, rfl, rfl, rfl, h1, r1⟩ := trodAll_cons r0
  obtain ⟨v2, vs2, d2, ds2, p2, q2, rfl, rfl, rfl, h2, r2⟩ := trodAll_cons r1
  obtain ⟨rfl, rfl, rfl⟩ := trodAll_nil r2
  obtain rfl : args = #[v0, v1, v2] := by cases args; simp_all
  obtain ⟨rfl, rfl⟩ := trodVars_none hV
  simp only [List.append_nil] at hW'
  have hlt : ∀ y ∈ p0 ++ (p1 ++ (p2)), y.block < W.heap.size := fun y hy => by simpa using hW'.lt y hy
  obtain ⟨cs0, rfl⟩ := Cg.okWide_struct Tryz.underlying26 (hval 0 26 v0 rfl rfl)
  obtain ⟨_, ⟨x0, g0, e0⟩, k0⟩ := zwk zwI h0
  subst e0
  obtain ⟨_, ⟨x1, g1, e1⟩, k1⟩ := zs3 zvJ (Cg.okWide_int_one Tryz.underlying3 (hval 1 3 v1 rfl rfl)) h1
  simp only [List.cons.injEq, and_true] at e1
  subst e1
  obtain ⟨_, ⟨x2, g2, e2⟩, k2⟩ := zs3 zvJ (Cg.okWide_int_one Tryz.underlying3 (hval 2 3 v2 rfl rfl)) h2
  simp only [List.cons.injEq, and_true] at e2
  subst e2
  refine ((hlaw x0 x1 x2 g0 g1 g2).calls (KW W) W [.agg cs0, v1, v2] (fun b o h => h) (.cons k0 (.cons k1 (.cons k2 (.nil))))).mono ?_
  rintro e W' ⟨v, K', rfl, hev, hr⟩
  cases hr
  have hb := hev.below
  refine ⟨_, rfl, _, _, _, [], p0 ++ (p1 ++ (p2 ++ [])), [], hW', trodAll_mk1 (shut_bool Tryz.underlying4 _), ?_, rfl, hb.frame _, fun h => by cases h⟩
  exact (trodAll_cons_mk (Below.trod laidOut (by kernel_rfl) (of_decide_eq_true (by kernel_rfl)) h0 hb (fun y hy => hlt y (by simp [hy]))) (trodAll_cons_mk (Below.trod laidOut (by kernel_rfl) (of_decide_eq_true (by kernel_rfl)) h1 hb (fun y hy => hlt y (by simp [hy]))) (trodAll_cons_mk (Below.trod laidOut (by kernel_rfl) (of_decide_eq_true (by kernel_rfl)) h2 hb (fun y hy => hlt y (by simp [hy]))) trodAll_mk0)))
theorem zhi : Tryz.checked.prog.inPlace 4 = Rows.verifyAloneRow.inPlace := by kernel_rfl
theorem zhl : Tryz.checked.prog.unfollowed 4 = Rows.verifyAloneRow.unfollowed := by kernel_rfl
theorem zhm : Tryz.checked.prog.recurses 4 = Rows.verifyAloneRow.recurses := by kernel_rfl
theorem zhz : Tryz.checked.prog.varsNamed 4 = Rows.verifyAloneRow.named := by kernel_rfl
theorem zfm : Tryz.checked.prog.funcNamed Rows.verifyAloneRow.func = some 4 := by kernel_rfl
theorem zfp : joinedFacts Tryz.checked.prog 4 Tryz.f4 Rows.verifyAloneSpec Rows.verifyAloneRow = true :=
  zrd zu0 zuO zsC zsg zsk zuu zhi zhl zhm zhz (by kernel_rfl)
theorem zgt (hlaw : ∀ (g : Img) (m : Int) (o : Int), zqa g → zhT m → zhT o → ACall Tryz.prog 4 [zK g, pi m, pi o] (pb true)) : Rows.VerifyAloneSaid :=
  OpenClaim.holds_of_wide 4 Tryz.f4 rfl rfl rfl rfl rfl rfl rfl ⟨rfl, rfl, rfl, rfl, rfl⟩ rfl rfl rfl rfl rfl zfm Tryz.func4 zfp
    (of_decide_eq_true (by kernel_rfl)) (by unfold Func.isWrapper; first | (rw [if_pos (by decide +kernel)]; kernel_rfl) | (rw [if_neg (by decide +kernel)]; exact ⟨rfl, rfl⟩))
    (fun os started H enc _ => zeD hlaw os started H enc)
theorem verifyAlone_holds : Rows.VerifyAloneSaid :=
  zgt fun g m o hx _ _ => zgd g (zqO hx) m o
#print axioms verifyAlone_holds
end Go.Proofs.YtemhfmmhkimhmaaGreat
