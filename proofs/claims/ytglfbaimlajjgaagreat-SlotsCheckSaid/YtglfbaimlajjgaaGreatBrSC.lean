/- Law 'SlotsCheck' of cattlegrid: whatever the image, the law returns true and the argument reads as before. No conditions. -/
import Derived.Test.YtglfbaimlajjgaaGreatU20
import Derived.Test.YtglfbaimlajjgaaGreatU13
namespace Go.Proofs.YtglfbaimlajjgaaGreat
open Go.ChangeShapes Go.WideShapes Go.ChangeAt Go.RowKit Go.Cg
set_option maxRecDepth 100000 in
theorem slotsCheck_lifted (hlaw : ∀ (g : Img), okImg g → ACall Tryz.prog 9 [imgPV g] (pb true))
    (os : Os) (started : os.Started) (H : Type) (enc : TypeId × Value → H) :
    ReturnsInHanded {} Tryz.checked os 9 .any (Rows.slotsCheckSpec.pre6 enc Tryz.prog Tryz.f9 Rows.slotsCheckRow.domain false) (Rows.slotsCheckSpec.post enc Tryz.prog Tryz.f9 false true false false) := by
  refine returnsInHanded_of_change (C := Tryz.checked) own started (by kernel_rfl) Tryz.func9
    (ChangeSpec.witness6 (enc := enc) (C := Tryz.checked) false ⟨#[], #[.agg #[.slice none 0 0, .slice none 0 0, .slice none 0 0, .int .i64 0]], []⟩ 9 (by kernel_rfl) (by kernel_rfl) (by kernel_rfl) (by kernel_rfl)) ?_
  intro W base args ds gs before hval0 hW hcnd _
  have hval : ∀ (j : Nat) t v, Tryz.f9.params[j]? = some t → args[j]? = some v → Value.okWide Tryz.prog W .any base t v := hval0
  have hW' := hW
  obtain ⟨p, q, hA0, hV, rfl, hfz, hnd⟩ := hW
  have hA : DataW.TrodAll enc Tryz.prog W 0 (fun _ => true) true Tryz.f9.params.toList args.toList ds p := hA0
  rw [Tryz.params9] at hA hval
  obtain ⟨v0, vs0, d0, ds0, p0, q0, hargs, rfl, rfl, h0, r0⟩ := trodAll_cons hA
  obtain ⟨rfl, rfl, rfl⟩ := trodAll_nil r0
  obtain rfl : args = #[v0] := by cases args; simp_all
  obtain ⟨rfl, rfl⟩ := trodVars_none hV
  simp only [List.append_nil] at hW'
  have hlt : ∀ y ∈ p0, y.block < W.heap.size := fun y hy => by simpa using hW'.lt y hy
  obtain ⟨cs0, rfl⟩ := Cg.okWide_struct Tryz.underlying26 (hval 0 26 v0 rfl rfl)
  obtain ⟨_, ⟨x0, g0, e0⟩, k0⟩ := rd_agg rdImg h0
  subst e0
  refine ((hlaw x0 g0).calls (KW W) W [.agg cs0] (fun b o h => h) (.cons k0 (.nil))).mono ?_
  rintro e W' ⟨v, K', rfl, hev, hr⟩
  cases hr
  have hb := hev.below
  refine ⟨_, rfl, _, _, _, [], p0 ++ [], [], hW', trodAll_mk1 (shut_bool Tryz.underlying4 _), ?_, rfl, hb.frame _, fun h => by cases h⟩
  exact (trodAll_cons_mk (Below.trod laidOut (by kernel_rfl) (of_decide_eq_true (by kernel_rfl)) h0 hb (fun y hy => hlt y (by simp [hy]))) trodAll_mk0)
theorem slotsCheck_jf0 : Tryz.checked.prog.inPlace 9 = Rows.slotsCheckRow.inPlace := by kernel_rfl
theorem slotsCheck_jf1 : Tryz.checked.prog.unfollowed 9 = Rows.slotsCheckRow.unfollowed := by kernel_rfl
theorem slotsCheck_jf2 : Tryz.checked.prog.recurses 9 = Rows.slotsCheckRow.recurses := by kernel_rfl
theorem slotsCheck_jf3 : Tryz.checked.prog.varsNamed 9 = Rows.slotsCheckRow.named := by kernel_rfl
theorem slotsCheck_named : Tryz.checked.prog.funcNamed Rows.slotsCheckRow.func = some 9 := by kernel_rfl
theorem slotsCheck_facts : joinedFacts Tryz.checked.prog 9 Tryz.f9 Rows.slotsCheckSpec Rows.slotsCheckRow = true :=
  joined_of jf_laid jf_maps jf_heard jf_enter jf_lifts jf_make slotsCheck_jf0 slotsCheck_jf1 slotsCheck_jf2 slotsCheck_jf3 (by kernel_rfl)
theorem slotsCheck_over (hlaw : ∀ (g : Img), okImg g → ACall Tryz.prog 9 [imgPV g] (pb true)) : Rows.SlotsCheckSaid :=
  OpenClaim.holds_of_wide 9 Tryz.f9 rfl rfl rfl rfl rfl rfl rfl ⟨rfl, rfl, rfl, rfl, rfl⟩ rfl rfl rfl rfl rfl slotsCheck_named Tryz.func9 slotsCheck_facts
    (of_decide_eq_true (by kernel_rfl)) (by unfold Func.isWrapper; first | (rw [if_pos (by decide +kernel)]; kernel_rfl) | (rw [if_neg (by decide +kernel)]; exact ⟨rfl, rfl⟩))
    (fun os started H enc _ => slotsCheck_lifted hlaw os started H enc)
theorem slotsCheck_holds : Rows.SlotsCheckSaid :=
  slotsCheck_over fun g hg => SlotsCheck_call g (okImg_arg hg)
#print axioms slotsCheck_holds
end Go.Proofs.YtglfbaimlajjgaaGreat
