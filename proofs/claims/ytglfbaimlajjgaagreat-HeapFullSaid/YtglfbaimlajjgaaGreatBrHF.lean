/- Law 'HeapFull' of cattlegrid: whatever the number and the acts, the law returns true and each argument reads as before. No conditions. -/
import Derived.Test.YtglfbaimlajjgaaGreatU22
import Derived.Test.YtglfbaimlajjgaaGreatU13
namespace Go.Proofs.YtglfbaimlajjgaaGreat
open Go.ChangeShapes Go.WideShapes Go.ChangeAt Go.RowKit Go.Cg
set_option maxRecDepth 100000 in
theorem heapFull_lifted (hlaw : ∀ (a : Int) (l : List Ac), okU16 a → okAcs l → ACall Tryz.prog 12 [.base (.int .u16 a), acts l] (pb true))
    (os : Os) (started : os.Started) (H : Type) (enc : TypeId × Value → H) :
    ReturnsInHanded {} Tryz.checked os 12 .any (Rows.heapFullSpec.pre6 enc Tryz.prog Tryz.f12 Rows.heapFullRow.domain false) (Rows.heapFullSpec.post enc Tryz.prog Tryz.f12 false true false false) := by
  refine returnsInHanded_of_change (C := Tryz.checked) own started (by kernel_rfl) Tryz.func12
    (ChangeSpec.witness6 (enc := enc) (C := Tryz.checked) false ⟨#[], #[.int .u16 0, .slice none 0 0], []⟩ 12 (by kernel_rfl) (by kernel_rfl) (by kernel_rfl) (by kernel_rfl)) ?_
  intro W base args ds gs before hval0 hW hcnd _
  have hval : ∀ (j : Nat) t v, Tryz.f12.params[j]? = some t → args[j]? = some v → Value.okWide Tryz.prog W .any base t v := hval0
  have hW' := hW
  obtain ⟨p, q, hA0, hV, rfl, hfz, hnd⟩ := hW
  have hA : DataW.TrodAll enc Tryz.prog W 0 (fun _ => true) true Tryz.f12.params.toList args.toList ds p := hA0
  rw [Tryz.params12] at hA hval
  obtain ⟨v0, vs0, d0, ds0, p0, q0, hargs, rfl, rfl, h0, r0⟩ := trodAll_cons hA
  obtain ⟨v1, vs1, d1, ds1, p1, q1, rfl, rfl, rfl, h1, r1⟩ := trodAll_cons r0
  obtain ⟨rfl, rfl, rfl⟩ := trodAll_nil r1
  obtain rfl : args = #[v0, v1] := by cases args; simp_all
  obtain ⟨rfl, rfl⟩ := trodVars_none hV
  simp only [List.append_nil] at hW'
  have hlt : ∀ y ∈ p0 ++ (p1), y.block < W.heap.size := fun y hy => by simpa using hW'.lt y hy
  obtain ⟨_, ⟨x0, g0, e0⟩, k0⟩ := rd_one rdU16 (Cg.okWide_int_one Tryz.underlying67 (hval 0 67 v0 rfl rfl)) h0
  simp only [List.cons.injEq, and_true] at e0
  subst e0
  obtain ⟨_, ⟨x1, g1, e1⟩, k1⟩ := rd_one rdActs (Cg.okWide_slice_one Tryz.underlying68 (hval 1 68 v1 rfl rfl)) h1
  simp only [List.cons.injEq, and_true] at e1
  subst e1
  refine ((hlaw x0 x1 g0 g1).calls (KW W) W [v0, v1] (fun b o h => h) (.cons k0 (.cons k1 (.nil)))).mono ?_
  rintro e W' ⟨v, K', rfl, hev, hr⟩
  cases hr
  have hb := hev.below
  refine ⟨_, rfl, _, _, _, [], p0 ++ (p1 ++ []), [], hW', trodAll_mk1 (shut_bool Tryz.underlying4 _), ?_, rfl, hb.frame _, fun h => by cases h⟩
  exact (trodAll_cons_mk (Below.trod laidOut (by kernel_rfl) (of_decide_eq_true (by kernel_rfl)) h0 hb (fun y hy => hlt y (by simp [hy]))) (trodAll_cons_mk (Below.trod laidOut (by kernel_rfl) (of_decide_eq_true (by kernel_rfl)) h1 hb (fun y hy => hlt y (by simp [hy]))) trodAll_mk0))
theorem heapFull_jf0 : Tryz.checked.prog.inPlace 12 = Rows.heapFullRow.inPlace := by kernel_rfl
theorem heapFull_jf1 : Tryz.checked.prog.unfollowed 12 = Rows.heapFullRow.unfollowed := by kernel_rfl
theorem heapFull_jf2 : Tryz.checked.prog.recurses 12 = Rows.heapFullRow.recurses := by kernel_rfl
theorem heapFull_jf3 : Tryz.checked.prog.varsNamed 12 = Rows.heapFullRow.named := by kernel_rfl
theorem heapFull_named : Tryz.checked.prog.funcNamed Rows.heapFullRow.func = some 12 := by kernel_rfl
theorem heapFull_facts : joinedFacts Tryz.checked.prog 12 Tryz.f12 Rows.heapFullSpec Rows.heapFullRow = true :=
  joined_of jf_laid jf_maps jf_heard jf_enter jf_lifts jf_make heapFull_jf0 heapFull_jf1 heapFull_jf2 heapFull_jf3 (by kernel_rfl)
theorem heapFull_over (hlaw : ∀ (a : Int) (l : List Ac), okU16 a → okAcs l → ACall Tryz.prog 12 [.base (.int .u16 a), acts l] (pb true)) : Rows.HeapFullSaid :=
  OpenClaim.holds_of_wide 12 Tryz.f12 rfl rfl rfl rfl rfl rfl rfl ⟨rfl, rfl, rfl, rfl, rfl⟩ rfl rfl rfl rfl rfl heapFull_named Tryz.func12 heapFull_facts
    (of_decide_eq_true (by kernel_rfl)) (by unfold Func.isWrapper; first | (rw [if_pos (by decide +kernel)]; kernel_rfl) | (rw [if_neg (by decide +kernel)]; exact ⟨rfl, rfl⟩))
    (fun os started H enc _ => heapFull_lifted hlaw os started H enc)
theorem heapFull_holds : Rows.HeapFullSaid :=
  heapFull_over fun a l ha _ => HeapFull_call a (okU16_in ha).1 (okU16_in ha).2 l
#print axioms heapFull_holds
end Go.Proofs.YtglfbaimlajjgaaGreat
