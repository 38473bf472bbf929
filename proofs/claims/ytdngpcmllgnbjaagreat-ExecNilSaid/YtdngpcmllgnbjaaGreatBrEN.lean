/- Law 'ExecNil' of cattlegrid: whatever the number, the law returns true and its argument reads as before. No conditions. -/
import Derived.Test.YtdngpcmllgnbjaaGreatE47
import Derived.Test.YtdngpcmllgnbjaaGreatE19
set_option linter.unusedVariables false
set_option linter.unusedSimpArgs false
namespace Go.Proofs.YtdngpcmllgnbjaaGreat
open Go.ChangeShapes Go.WideShapes Go.ChangeAt Go.RowKit Go.Cg
set_option maxRecDepth 100000 in
theorem zg7 (hlaw : ∀ (n : Int), zu4 n → ACall Tryz.prog 5 [.base (.int .i8 n)] (pb true))
    (os : Os) (started : os.Started) (H : Type) (enc : TypeId × Value → H) :
    ReturnsInHanded {} Tryz.checked os 5 .any (Rows.execNilSpec.pre6 enc Tryz.prog Tryz.f5 Rows.execNilRow.domain false) (Rows.execNilSpec.post enc Tryz.prog Tryz.f5 false true false false) := by
  refine returnsInHanded_of_change (C := Tryz.checked) own started (by kernel_rfl) Tryz.func5
    (ChangeSpec.witness6 (enc := enc) (C := Tryz.checked) false ⟨#[], #[.int .i8 0], []⟩ 5 (by kernel_rfl) (by kernel_rfl) (by kernel_rfl) (by kernel_rfl)) ?_
  intro W base args ds gs before hval0 hW hcnd _
  have hval : ∀ (j : Nat) t v, Tryz.f5.params[j]? = some t → args[j]? = some v → Value.okWide Tryz.prog W .any base t v := hval0
  have hW' := hW
  obtain ⟨p, q, hA0, hV, rfl, hfz, hnd⟩ := hW
  have hA : DataW.TrodAll enc Tryz.prog W 0 (fun _ => true) true Tryz.f5.params.toList args.toList ds p := hA0
  rw [Tryz.params5] at hA hval
  obtain ⟨v0, vs0, d0, ds0, p0, q0, hargs, rfl, rfl, h0, r0⟩ := trodAll_cons hA
  obtain ⟨rfl, rfl, rfl⟩ := trodAll_nil r0
  obtain rfl : args = #[v0] := by cases args; simp_all
  obtain ⟨rfl, rfl⟩ := trodVars_none hV
  simp only [List.append_nil] at hW'
  have hlt : ∀ y ∈ p0, y.block < W.heap.size := fun y hy => by simpa using hW'.lt y hy
  obtain ⟨_, ⟨x0, g0, e0⟩, k0⟩ := zu7 zvK (Cg.okWide_int_one Tryz.underlying39 (hval 0 39 v0 rfl rfl)) h0
  simp only [List.cons.injEq, and_true] at e0
  subst e0
  refine ((hlaw x0 g0).calls (KW W) W [v0] (fun b o h => h) (.cons k0 (.nil))).mono ?_
  rintro e W' ⟨v, K', rfl, hev, hr⟩
  cases hr
  have hb := hev.below
  refine ⟨_, rfl, _, _, _, [], p0 ++ [], [], hW', trodAll_mk1 (shut_bool Tryz.underlying4 _), ?_, rfl, hb.frame _, fun h => by cases h⟩
  exact (trodAll_cons_mk (Below.trod laidOut (by kernel_rfl) (of_decide_eq_true (by kernel_rfl)) h0 hb (fun y hy => hlt y (by simp [hy]))) trodAll_mk0)
theorem zl1 : Tryz.checked.prog.inPlace 5 = Rows.execNilRow.inPlace := by kernel_rfl
theorem zmG : Tryz.checked.prog.unfollowed 5 = Rows.execNilRow.unfollowed := by kernel_rfl
theorem znk : Tryz.checked.prog.recurses 5 = Rows.execNilRow.recurses := by kernel_rfl
theorem zlk : Tryz.checked.prog.varsNamed 5 = Rows.execNilRow.named := by kernel_rfl
theorem ziB : Tryz.checked.prog.funcNamed Rows.execNilRow.func = some 5 := by kernel_rfl
theorem ziL : joinedFacts Tryz.checked.prog 5 Tryz.f5 Rows.execNilSpec Rows.execNilRow = true :=
  zpV zus zt2 zro zsK zta ztv zl1 zmG znk zlk (by kernel_rfl)
theorem zjT (hlaw : ∀ (n : Int), zu4 n → ACall Tryz.prog 5 [.base (.int .i8 n)] (pb true)) : Rows.ExecNilSaid :=
  OpenClaim.holds_of_wide 5 Tryz.f5 rfl rfl rfl rfl rfl rfl rfl ⟨rfl, rfl, rfl, rfl, rfl⟩ rfl rfl rfl rfl rfl ziB Tryz.func5 ziL
    (of_decide_eq_true (by kernel_rfl)) (by unfold Func.isWrapper; first | (rw [if_pos (by decide +kernel)]; kernel_rfl) | (rw [if_neg (by decide +kernel)]; exact ⟨rfl, rfl⟩))
    (fun os started H enc _ => zg7 hlaw os started H enc)
theorem execNil_holds : Rows.ExecNilSaid :=
  zjT fun n _ => zkD n
#print axioms execNil_holds
end Go.Proofs.YtdngpcmllgnbjaaGreat
