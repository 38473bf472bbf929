/- Law 'StepRest' of cattlegrid: whatever the image, the place and the two states, the law returns true and each argument reads as before. No conditions. -/
import Derived.Test.YtoeplllgofpddaaGreatU23
import Derived.Test.YtoeplllgofpddaaGreatU21
set_option linter.unusedVariables false
set_option linter.unusedSimpArgs false
namespace Go.Proofs.YtoeplllgofpddaaGreat
open Go.ChangeShapes Go.WideShapes Go.ChangeAt Go.RowKit Go.Cg
set_option maxRecDepth 100000 in
theorem zf2 (hlaw : ∀ (g : Img) (p : Int × Int) (l : List Ty × List Ty), zft g → zbr p → zkf l → ACall Tryz.prog 7 [zH g, zhv p, zio l] (pb true))
    (os : Os) (started : os.Started) (H : Type) (enc : TypeId × Value → H) :
    ReturnsInHanded {} Tryz.checked os 7 .any (Rows.stepRestSpec.pre6 enc Tryz.prog Tryz.f7 Rows.stepRestRow.domain false) (Rows.stepRestSpec.post enc Tryz.prog Tryz.f7 false true false false) := by
  refine returnsInHanded_of_change (C := Tryz.checked) own started (by kernel_rfl) Tryz.func7
    (ChangeSpec.witness6 (enc := enc) (C := Tryz.checked) false ⟨#[], #[.agg #[.slice none 0 0, .slice none 0 0, .slice none 0 0, .int .i64 0], .agg #[.int .i64 0, .int .i64 0], .agg #[.slice none 0 0, .slice none 0 0]], []⟩ 7 (by kernel_rfl) (by kernel_rfl) (by kernel_rfl) (by kernel_rfl)) ?_
  intro W base args ds gs before hval0 hW hcnd _
  have hval : ∀ (j : Nat) t v, Tryz.f7.params[j]? = some t → args[j]? = some v → Value.okWide Tryz.prog W .any base t v := hval0
  have hW' := hW
  obtain ⟨p, q, hA0, hV, rfl, hfz, hnd⟩ := hW
  have hA : DataW.TrodAll enc Tryz.prog W 0 (fun _ => true) true Tryz.f7.params.toList args.toList ds p := hA0
  rw [Tryz.params7] at hA hval
  obtain ⟨v0, vs0, d0, ds0, p0, q0, hargs, rfl, rfl, h0, r0⟩ := trodAll_cons hA
  obtain ⟨v1, vs1, d1, ds1, p1, q1, rfl, rfl, rfl, h1, r1⟩ := trodAll_cons r0
  obtain ⟨v2, vs2, d2, ds2, p2, q2, rfl, rfl, rfl, h2, r2⟩ := trodAll_cons r1
  obtain ⟨rfl, rfl, rfl⟩ := trodAll_nil r2
  obtain rfl : args = #[v0, v1, v2] := by cases args; simp_all
  obtain ⟨rfl, rfl⟩ := trodVars_none hV
  simp only [List.append_nil] at hW'
  have hlt : ∀ y ∈ p0 ++ (p1 ++ (p2)), y.block < W.heap.size := fun y hy => by simpa using hW'.lt y hy
  obtain ⟨cs0, rfl⟩ := Cg.okWide_struct Tryz.underlying50 (hval 0 50 v0 rfl rfl)
  obtain ⟨_, ⟨x0, g0, e0⟩, k0⟩ := zcK zq7 h0
  subst e0
  obtain ⟨cs1, rfl⟩ := Cg.okWide_struct Tryz.underlying52 (hval 1 52 v1 rfl rfl)
  obtain ⟨_, ⟨x1, g1, e1⟩, k1⟩ := zcK zjk h1
  subst e1
  obtain ⟨cs2, rfl⟩ := Cg.okWide_array Tryz.underlying54 (hval 2 54 v2 rfl rfl)
  obtain ⟨_, ⟨x2, g2, e2⟩, k2⟩ := zcK zsY h2
  subst e2
  refine ((hlaw x0 x1 x2 g0 g1 g2).calls (KW W) W [.agg cs0, .agg cs1, .agg cs2] (fun b o h => h) (.cons k0 (.cons k1 (.cons k2 (.nil))))).mono ?_
  rintro e W' ⟨v, K', rfl, hev, hr⟩
  cases hr
  have hb := hev.below
  refine ⟨_, rfl, _, _, _, [], p0 ++ (p1 ++ (p2 ++ [])), [], hW', trodAll_mk1 (shut_bool Tryz.underlying4 _), ?_, rfl, hb.frame _, fun h => by cases h⟩
  exact (trodAll_cons_mk (Below.trod laidOut (by kernel_rfl) (of_decide_eq_true (by kernel_rfl)) h0 hb (fun y hy => hlt y (by simp [hy]))) (trodAll_cons_mk (Below.trod laidOut (by kernel_rfl) (of_decide_eq_true (by kernel_rfl)) h1 hb (fun y hy => hlt y (by simp [hy]))) (trodAll_cons_mk (Below.trod laidOut (by kernel_rfl) (of_decide_eq_true (by kernel_rfl)) h2 hb (fun y hy => hlt y (by simp [hy]))) trodAll_mk0)))
theorem zjM : Tryz.checked.prog.inPlace 7 = Rows.stepRestRow.inPlace := by kernel_rfl
theorem zjA : Tryz.checked.prog.unfollowed 7 = Rows.stepRestRow.unfollowed := by kernel_rfl
theorem zj5 : Tryz.checked.prog.recurses 7 = Rows.stepRestRow.recurses := by kernel_rfl
theorem zjO : Tryz.checked.prog.varsNamed 7 = Rows.stepRestRow.named := by kernel_rfl
theorem zhf : Tryz.checked.prog.funcNamed Rows.stepRestRow.func = some 7 := by kernel_rfl
theorem zgJ : joinedFacts Tryz.checked.prog 7 Tryz.f7 Rows.stepRestSpec Rows.stepRestRow = true :=
  zeF zjD zj8 zhP zhE zhC zjC zjM zjA zj5 zjO (by kernel_rfl)
theorem zhX (hlaw : ∀ (g : Img) (p : Int × Int) (l : List Ty × List Ty), zft g → zbr p → zkf l → ACall Tryz.prog 7 [zH g, zhv p, zio l] (pb true)) : Rows.StepRestSaid :=
  OpenClaim.holds_of_wide 7 Tryz.f7 rfl rfl rfl rfl rfl rfl rfl ⟨rfl, rfl, rfl, rfl, rfl⟩ rfl rfl rfl rfl rfl zhf Tryz.func7 zgJ
    (of_decide_eq_true (by kernel_rfl)) (by unfold Func.isWrapper; first | (rw [if_pos (by decide +kernel)]; kernel_rfl) | (rw [if_neg (by decide +kernel)]; exact ⟨rfl, rfl⟩))
    (fun os started H enc _ => zf2 hlaw os started H enc)
theorem stepRest_holds : Rows.StepRestSaid :=
  zhX fun g p l hg _ _ => zij g (zfd hg) p.1 p.2 l.1 l.2
#print axioms stepRest_holds
end Go.Proofs.YtoeplllgofpddaaGreat
