/- Law 'FramesBack' of cattlegrid: whatever the acts and the words, the law returns true and each argument reads as before. No conditions. -/
import Derived.Test.YtmgdpkcmbnlklaaGreatA33
import Derived.Test.YtmgdpkcmbnlklaaGreatA32
import Derived.Test.YtmgdpkcmbnlklaaGreatA21
set_option linter.unusedVariables false
set_option linter.unusedSimpArgs false
namespace Go.Proofs.YtmgdpkcmbnlklaaGreat
open Go.ChangeShapes Go.WideShapes Go.ChangeAt Go.RowKit Go.Cg
set_option maxRecDepth 100000 in
theorem zbw (hlaw : ∀ (l : List AT) (words : List Int), zha l → zkW words → ACall Tryz.prog 4 [.slc 5 (l.map atP) false, .slc 1 (words.map fun n => .base (.int .u64 n)) false] (pb true))
    (os : Os) (started : os.Started) (H : Type) (enc : TypeId × Value → H) :
    ReturnsInHanded {} Tryz.checked os 4 .any (Rows.framesBackSpec.pre6 enc Tryz.prog Tryz.f4 Rows.framesBackRow.domain false) (Rows.framesBackSpec.post enc Tryz.prog Tryz.f4 false true false false) := by
  refine returnsInHanded_of_change (C := Tryz.checked) own started (by kernel_rfl) Tryz.func4
    (ChangeSpec.witness6 (enc := enc) (C := Tryz.checked) false ⟨#[], #[.slice none 0 0, .slice none 0 0], []⟩ 4 (by kernel_rfl) (by kernel_rfl) (by kernel_rfl) (by kernel_rfl)) ?_
  intro W base args ds gs before hval0 hW hcnd _
  have hval : ∀ (j : Nat) t v, Tryz.f4.params[j]? = some t → args[j]? = some v → Value.okWide Tryz.prog W .any base t v := hval0
  have hW' := hW
  obtain ⟨p, q, hA0, hV, rfl, hfz, hnd⟩ := hW
  have hA : DataW.TrodAll enc Tryz.prog W 0 (fun _ => true) true Tryz.f4.params.toList args.toList ds p := hA0
  rw [Tryz.params4] at hA hval
  obtain ⟨v0, vs0, d0, ds0, p0, q0, hargs, rfl, rfl, h0, r0⟩ := trodAll_cons hA
  obtain ⟨v1, vs1, d1, ds1, p1, q1, rfl, rfl, rfl, h1, r1⟩ := trodAll_cons r0
  obtain ⟨rfl, rfl, rfl⟩ := trodAll_nil r1
  obtain rfl : args = #[v0, v1] := by cases args; simp_all
  obtain ⟨rfl, rfl⟩ := trodVars_none hV
  simp only [List.append_nil] at hW'
  have hlt : ∀ y ∈ p0 ++ (p1), y.block < W.heap.size := fun y hy => by simpa using hW'.lt y hy
  obtain ⟨_, ⟨x0, g0, e0⟩, k0⟩ := zf5 zmd (Cg.okWide_slice_one Tryz.underlying22 (hval 0 22 v0 rfl rfl)) h0
  simp only [List.cons.injEq, and_true] at e0
  subst e0
  obtain ⟨_, ⟨x1, g1, e1⟩, k1⟩ := zf5 zkK (Cg.okWide_slice_one Tryz.underlying34 (hval 1 34 v1 rfl rfl)) h1
  simp only [List.cons.injEq, and_true] at e1
  subst e1
  refine ((hlaw x0 x1 g0 g1).calls (KW W) W [v0, v1] (fun b o h => h) (.cons k0 (.cons k1 (.nil)))).mono ?_
  rintro e W' ⟨v, K', rfl, hev, hr⟩
  cases hr
  have hb := hev.below
  refine ⟨_, rfl, _, _, _, [], p0 ++ (p1 ++ []), [], hW', trodAll_mk1 (shut_bool Tryz.underlying4 _), ?_, rfl, hb.frame _, fun h => by cases h⟩
  exact (trodAll_cons_mk (Below.trod laidOut (by kernel_rfl) (of_decide_eq_true (by kernel_rfl)) h0 hb (fun y hy => hlt y (by simp [hy]))) (trodAll_cons_mk (Below.trod laidOut (by kernel_rfl) (of_decide_eq_true (by kernel_rfl)) h1 hb (fun y hy => hlt y (by simp [hy]))) trodAll_mk0))
theorem zee : Tryz.checked.prog.inPlace 4 = Rows.framesBackRow.inPlace := by kernel_rfl
theorem zec : Tryz.checked.prog.unfollowed 4 = Rows.framesBackRow.unfollowed := by kernel_rfl
theorem zeo : Tryz.checked.prog.recurses 4 = Rows.framesBackRow.recurses := by kernel_rfl
theorem zdB : Tryz.checked.prog.varsNamed 4 = Rows.framesBackRow.named := by kernel_rfl
theorem zb6 : Tryz.checked.prog.funcNamed Rows.framesBackRow.func = some 4 := by kernel_rfl
theorem zbL : joinedFacts Tryz.checked.prog 4 Tryz.f4 Rows.framesBackSpec Rows.framesBackRow = true :=
  zfi zjv zjD zht zhr zgK zjx zee zec zeo zdB (by kernel_rfl)
theorem zcQ (hlaw : ∀ (l : List AT) (words : List Int), zha l → zkW words → ACall Tryz.prog 4 [.slc 5 (l.map atP) false, .slc 1 (words.map fun n => .base (.int .u64 n)) false] (pb true)) : Rows.FramesBackSaid :=
  OpenClaim.holds_of_wide 4 Tryz.f4 rfl rfl rfl rfl rfl rfl rfl ⟨rfl, rfl, rfl, rfl, rfl⟩ rfl rfl rfl rfl rfl zb6 Tryz.func4 zbL
    (of_decide_eq_true (by kernel_rfl)) (by unfold Func.isWrapper; first | (rw [if_pos (by decide +kernel)]; kernel_rfl) | (rw [if_neg (by decide +kernel)]; exact ⟨rfl, rfl⟩))
    (fun os started H enc _ => zbw hlaw os started H enc)
theorem framesBack_holds : Rows.FramesBackSaid :=
  zcQ fun l w _ _ => zcP l w
#print axioms framesBack_holds
end Go.Proofs.YtmgdpkcmbnlklaaGreat
