/- Law 'HeapNil' of cattlegrid: whatever the act, the law returns true and the argument reads as before. No conditions. -/
import Derived.Test.YtglfbaimlajjgaaGreatU22
import Derived.Test.YtglfbaimlajjgaaGreatU13
namespace Go.Proofs.YtglfbaimlajjgaaGreat
open Go.ChangeShapes Go.WideShapes Go.ChangeAt Go.RowKit Go.Cg
set_option maxRecDepth 100000 in
theorem heapNil_lifted (hlaw : ∀ (a : Ac), okAc a → ACall Tryz.prog 14 [acPV a] (pb true))
    (os : Os) (started : os.Started) (H : Type) (enc : TypeId × Value → H) :
    ReturnsInHanded {} Tryz.checked os 14 .any (Rows.heapNilSpec.pre6 enc Tryz.prog Tryz.f14 Rows.heapNilRow.domain false) (Rows.heapNilSpec.post enc Tryz.prog Tryz.f14 false true false false) := by
  refine returnsInHanded_of_change (C := Tryz.checked) own started (by kernel_rfl) Tryz.func14
    (ChangeSpec.witness6 (enc := enc) (C := Tryz.checked) false ⟨#[], #[.agg #[.int .i64 0, .int .i64 0, .int .i64 0, .int .i64 0, .int .i64 0, .bool false, .int .u64 0, .int .u64 0, .slice none 0 0]], []⟩ 14 (by kernel_rfl) (by kernel_rfl) (by kernel_rfl) (by kernel_rfl)) ?_
  intro W base args ds gs before hval0 hW hcnd _
  have hval : ∀ (j : Nat) t v, Tryz.f14.params[j]? = some t → args[j]? = some v → Value.okWide Tryz.prog W .any base t v := hval0
  have hW' := hW
  obtain ⟨p, q, hA0, hV, rfl, hfz, hnd⟩ := hW
  have hA : DataW.TrodAll enc Tryz.prog W 0 (fun _ => true) true Tryz.f14.params.toList args.toList ds p := hA0
  rw [Tryz.params14] at hA hval
  obtain ⟨v0, vs0, d0, ds0, p0, q0, hargs, rfl, rfl, h0, r0⟩ := trodAll_cons hA
  obtain ⟨rfl, rfl, rfl⟩ := trodAll_nil r0
  obtain rfl : args = #[v0] := by cases args; simp_all
  obtain ⟨rfl, rfl⟩ := trodVars_none hV
  simp only [List.append_nil] at hW'
  have hlt : ∀ y ∈ p0, y.block < W.heap.size := fun y hy => by simpa using hW'.lt y hy
  obtain ⟨cs0, rfl⟩ := Cg.okWide_struct Tryz.underlying75 (hval 0 75 v0 rfl rfl)
  obtain ⟨_, ⟨x0, g0, e0⟩, k0⟩ := rd_agg rdAct h0
  subst e0
  refine ((hlaw x0 g0).calls (KW W) W [.agg cs0] (fun b o h => h) (.cons k0 (.nil))).mono ?_
  rintro e W' ⟨v, K', rfl, hev, hr⟩
  cases hr
  have hb := hev.below
  refine ⟨_, rfl, _, _, _, [], p0 ++ [], [], hW', trodAll_mk1 (shut_bool Tryz.underlying4 _), ?_, rfl, hb.frame _, fun h => by cases h⟩
  exact (trodAll_cons_mk (Below.trod laidOut (by kernel_rfl) (of_decide_eq_true (by kernel_rfl)) h0 hb (fun y hy => hlt y (by simp [hy]))) trodAll_mk0)
theorem heapNil_jf0 : Tryz.checked.prog.inPlace 14 = Rows.heapNilRow.inPlace := by kernel_rfl
theorem heapNil_jf1 : Tryz.checked.prog.unfollowed 14 = Rows.heapNilRow.unfollowed := by kernel_rfl
theorem heapNil_jf2 : Tryz.checked.prog.recurses 14 = Rows.heapNilRow.recurses := by kernel_rfl
theorem heapNil_jf3 : Tryz.checked.prog.varsNamed 14 = Rows.heapNilRow.named := by kernel_rfl
theorem heapNil_named : Tryz.checked.prog.funcNamed Rows.heapNilRow.func = some 14 := by kernel_rfl
theorem heapNil_facts : joinedFacts Tryz.checked.prog 14 Tryz.f14 Rows.heapNilSpec Rows.heapNilRow = true :=
  joined_of jf_laid jf_maps jf_heard jf_enter jf_lifts jf_make heapNil_jf0 heapNil_jf1 heapNil_jf2 heapNil_jf3 (by kernel_rfl)
theorem heapNil_over (hlaw : ∀ (a : Ac), okAc a → ACall Tryz.prog 14 [acPV a] (pb true)) : Rows.HeapNilSaid :=
  OpenClaim.holds_of_wide 14 Tryz.f14 rfl rfl rfl rfl rfl rfl rfl ⟨rfl, rfl, rfl, rfl, rfl⟩ rfl rfl rfl rfl rfl heapNil_named Tryz.func14 heapNil_facts
    (of_decide_eq_true (by kernel_rfl)) (by unfold Func.isWrapper; first | (rw [if_pos (by decide +kernel)]; kernel_rfl) | (rw [if_neg (by decide +kernel)]; exact ⟨rfl, rfl⟩))
    (fun os started H enc _ => heapNil_lifted hlaw os started H enc)
theorem heapNil_holds : Rows.HeapNilSaid :=
  heapNil_over fun a _ => HeapNil_call a
#print axioms heapNil_holds
end Go.Proofs.YtglfbaimlajjgaaGreat
