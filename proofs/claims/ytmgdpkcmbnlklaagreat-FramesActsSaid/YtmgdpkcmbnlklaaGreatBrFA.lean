/- Law 'FramesActs' of cattlegrid: whatever the limit and the acts, the law returns true and each argument reads as before. No conditions. -/
import Derived.Test.YtmgdpkcmbnlklaaGreatA31
import Derived.Test.YtmgdpkcmbnlklaaGreatA32
import Derived.Test.YtmgdpkcmbnlklaaGreatA21
set_option linter.unusedVariables false
set_option linter.unusedSimpArgs false
namespace Go.Proofs.YtmgdpkcmbnlklaaGreat
open Go.ChangeShapes Go.WideShapes Go.ChangeAt Go.RowKit Go.Cg
set_option maxRecDepth 100000 in
theorem zbd (hlaw : ∀ (n : Int) (l : List AT), zcC n → zha l → ACall Tryz.prog 3 [pi n, .slc 5 (l.map atP) false] (pb true))
    (os : Os) (started : os.Started) (H : Type) (enc : TypeId × Value → H) :
    ReturnsInHanded {} Tryz.checked os 3 .any (Rows.framesActsSpec.pre6 enc Tryz.prog Tryz.f3 Rows.framesActsRow.domain false) (Rows.framesActsSpec.post enc Tryz.prog Tryz.f3 false true false false) := by
  refine returnsInHanded_of_change (C := Tryz.checked) own started (by kernel_rfl) Tryz.func3
    (ChangeSpec.witness6 (enc := enc) (C := Tryz.checked) false ⟨#[], #[.int .i64 0, .slice none 0 0], []⟩ 3 (by kernel_rfl) (by kernel_rfl) (by kernel_rfl) (by kernel_rfl)) ?_
  intro W base args ds gs before hval0 hW hcnd _
  have hval : ∀ (j : Nat) t v, Tryz.f3.params[j]? = some t → args[j]? = some v → Value.okWide Tryz.prog W .any base t v := hval0
  have hW' := hW
  obtain ⟨p, q, hA0, hV, rfl, hfz, hnd⟩ := hW
  have hA : DataW.TrodAll enc Tryz.prog W 0 (fun _ => true) true Tryz.f3.params.toList args.toList ds p := hA0
  rw [Tryz.params3] at hA hval
  obtain ⟨v0, vs0, d0, ds0, p0, q0, hargs, rfl, rfl, h0, r0⟩ := trodAll_cons hA
  obtain ⟨v1, vs1, d1, ds1, p1, q1, rfl, rfl, rfl, h1, r1⟩ := trodAll_cons r0
  obtain ⟨rfl, rfl, rfl⟩ := trodAll_nil r1
  obtain rfl : args = #[v0, v1] := by cases args; simp_all
  obtain ⟨rfl, rfl⟩ := trodVars_none hV
  simp only [List.append_nil] at hW'
  have hlt : ∀ y ∈ p0 ++ (p1), y.block < W.heap.size := fun y hy => by simpa using hW'.lt y hy
  obtain ⟨_, ⟨x0, g0, e0⟩, k0⟩ := zf5 ziY (Cg.okWide_int_one Tryz.underlying3 (hval 0 3 v0 rfl rfl)) h0
  simp only [List.cons.injEq, and_true] at e0
  subst e0
  obtain ⟨_, ⟨x1, g1, e1⟩, k1⟩ := zf5 zmd (Cg.okWide_slice_one Tryz.underlying22 (hval 1 22 v1 rfl rfl)) h1
  simp only [List.cons.injEq, and_true] at e1
  subst e1
  refine ((hlaw x0 x1 g0 g1).calls (KW W) W [v0, v1] (fun b o h => h) (.cons k0 (.cons k1 (.nil)))).mono ?_
  rintro e W' ⟨v, K', rfl, hev, hr⟩
  cases hr
  have hb := hev.below
  refine ⟨_, rfl, _, _, _, [], p0 ++ (p1 ++ []), [], hW', trodAll_mk1 (shut_bool Tryz.underlying4 _), ?_, rfl, hb.frame _, fun h => by cases h⟩
  exact (trodAll_cons_mk (Below.trod laidOut (by kernel_rfl) (of_decide_eq_true (by kernel_rfl)) h0 hb (fun y hy => hlt y (by simp [hy]))) (trodAll_cons_mk (Below.trod laidOut (by kernel_rfl) (of_decide_eq_true (by kernel_rfl)) h1 hb (fun y hy => hlt y (by simp [hy]))) trodAll_mk0))
theorem zej : Tryz.checked.prog.inPlace 3 = Rows.framesActsRow.inPlace := by kernel_rfl
theorem zea : Tryz.checked.prog.unfollowed 3 = Rows.framesActsRow.unfollowed := by kernel_rfl
theorem zdI : Tryz.checked.prog.recurses 3 = Rows.framesActsRow.recurses := by kernel_rfl
theorem zeu : Tryz.checked.prog.varsNamed 3 = Rows.framesActsRow.named := by kernel_rfl
theorem zcb : Tryz.checked.prog.funcNamed Rows.framesActsRow.func = some 3 := by kernel_rfl
theorem zbG : joinedFacts Tryz.checked.prog 3 Tryz.f3 Rows.framesActsSpec Rows.framesActsRow = true :=
  zfi zjv zjD zht zhr zgK zjx zej zea zdI zeu (by kernel_rfl)
theorem zcS (hlaw : ∀ (n : Int) (l : List AT), zcC n → zha l → ACall Tryz.prog 3 [pi n, .slc 5 (l.map atP) false] (pb true)) : Rows.FramesActsSaid :=
  OpenClaim.holds_of_wide 3 Tryz.f3 rfl rfl rfl rfl rfl rfl rfl ⟨rfl, rfl, rfl, rfl, rfl⟩ rfl rfl rfl rfl rfl zcb Tryz.func3 zbG
    (of_decide_eq_true (by kernel_rfl)) (by unfold Func.isWrapper; first | (rw [if_pos (by decide +kernel)]; kernel_rfl) | (rw [if_neg (by decide +kernel)]; exact ⟨rfl, rfl⟩))
    (fun os started H enc _ => zbd hlaw os started H enc)
theorem framesActs_holds : Rows.FramesActsSaid :=
  zcS fun n l _ _ => zcW n l
#print axioms framesActs_holds
end Go.Proofs.YtmgdpkcmbnlklaaGreat
