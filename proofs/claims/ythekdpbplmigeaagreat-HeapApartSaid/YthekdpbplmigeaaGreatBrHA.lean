/- Law 'HeapApart' of cattlegrid: whatever the image and the acts, the law returns true and each argument reads as before. No conditions. -/
import Derived.Test.YthekdpbplmigeaaGreatU18
import Derived.Test.YthekdpbplmigeaaGreatU15
namespace Go.Proofs.YthekdpbplmigeaaGreat
open Go.ChangeShapes Go.WideShapes Go.ChangeAt Go.RowKit Go.Cg
set_option maxRecDepth 100000 in
theorem heapApart_lifted (hlaw : ∀ (g : Img) (l : List Ac), okImg g → okAcs l → ACall Tryz.prog 3 [imgPV g, acts l] (pb true))
    (os : Os) (started : os.Started) (H : Type) (enc : TypeId × Value → H) :
    ReturnsInHanded {} Tryz.checked os 3 .any (Rows.heapApartSpec.pre6 enc Tryz.prog Tryz.f3 Rows.heapApartRow.domain false) (Rows.heapApartSpec.post enc Tryz.prog Tryz.f3 false true false false) := by
  refine returnsInHanded_of_change (C := Tryz.checked) own started (by kernel_rfl) Tryz.func3
    (ChangeSpec.witness6 (enc := enc) (C := Tryz.checked) false ⟨#[], #[.agg #[.slice none 0 0, .slice none 0 0, .slice none 0 0, .int .i64 0], .slice none 0 0], []⟩ 3 (by kernel_rfl) (by kernel_rfl) (by kernel_rfl) (by kernel_rfl)) ?_
  intro W base args ds gs before hval0 hW hcnd _
  have hval : ∀ (j : Nat) t v, Tryz.f3.params[j]? = some t → args[j]? = some v → Value.okWide Tryz.prog W .any base t v := hval0
  have hW' := hW
  obtain ⟨p, q, hA0, hV, rfl, hfz, hnd⟩ := hW
  have hA : DataW.TrodAll enc Tryz.prog W 0 (fun _ => true) true Tryz.f3.params.toList args.toList ds p := hA0
  rw [Tryz.params3] at hA hval
  obtain ⟨v0, vs0, d0, ds0, p0, q0, hargs, rfl, rfl, h0, r0⟩ := trodAll_cons hA
  obtain ⟨v1, vs1, d1, ds1, p1, q1, rfl, rfl, rfl, h1, r1⟩ := trodAll_cons r0
  obtain ⟨rfl, rfl, rfl⟩ := trodAll_nil r1
  obtain rfl : args = #[v0, v1] := by cases args; simp_all
  obtain ⟨rfl, rfl⟩ := trodVars_none hV
  simp only [List.append_nil] at hW'
  have hlt : ∀ y ∈ p0 ++ (p1), y.block < W.heap.size := fun y hy => by simpa using hW'.lt y hy
  obtain ⟨cs0, rfl⟩ := Cg.okWide_struct Tryz.underlying26 (hval 0 26 v0 rfl rfl)
  obtain ⟨_, ⟨x0, g0, e0⟩, k0⟩ := rd_agg rdImg h0
  subst e0
  obtain ⟨_, ⟨x1, g1, e1⟩, k1⟩ := rd_one rdActs (Cg.okWide_slice_one Tryz.underlying27 (hval 1 27 v1 rfl rfl)) h1
  simp only [List.cons.injEq, and_true] at e1
  subst e1
  refine ((hlaw x0 x1 g0 g1).calls (KW W) W [.agg cs0, v1] (fun b o h => h) (.cons k0 (.cons k1 (.nil)))).mono ?_
  rintro e W' ⟨v, K', rfl, hev, hr⟩
  cases hr
  have hb := hev.below
  refine ⟨_, rfl, _, _, _, [], p0 ++ (p1 ++ []), [], hW', trodAll_mk1 (shut_bool Tryz.underlying4 _), ?_, rfl, hb.frame _, fun h => by cases h⟩
  exact (trodAll_cons_mk (Below.trod laidOut (by kernel_rfl) (of_decide_eq_true (by kernel_rfl)) h0 hb (fun y hy => hlt y (by simp [hy]))) (trodAll_cons_mk (Below.trod laidOut (by kernel_rfl) (of_decide_eq_true (by kernel_rfl)) h1 hb (fun y hy => hlt y (by simp [hy]))) trodAll_mk0))
theorem heapApart_jf0 : Tryz.checked.prog.inPlace 3 = Rows.heapApartRow.inPlace := by kernel_rfl
theorem heapApart_jf1 : Tryz.checked.prog.unfollowed 3 = Rows.heapApartRow.unfollowed := by kernel_rfl
theorem heapApart_jf2 : Tryz.checked.prog.recurses 3 = Rows.heapApartRow.recurses := by kernel_rfl
theorem heapApart_jf3 : Tryz.checked.prog.varsNamed 3 = Rows.heapApartRow.named := by kernel_rfl
theorem heapApart_named : Tryz.checked.prog.funcNamed Rows.heapApartRow.func = some 3 := by kernel_rfl
theorem heapApart_facts : joinedFacts Tryz.checked.prog 3 Tryz.f3 Rows.heapApartSpec Rows.heapApartRow = true :=
  joined_of jf_laid jf_maps jf_heard jf_enter jf_lifts jf_make heapApart_jf0 heapApart_jf1 heapApart_jf2 heapApart_jf3 (by kernel_rfl)
theorem heapApart_over (hlaw : ∀ (g : Img) (l : List Ac), okImg g → okAcs l → ACall Tryz.prog 3 [imgPV g, acts l] (pb true)) : Rows.HeapApartSaid :=
  OpenClaim.holds_of_wide 3 Tryz.f3 rfl rfl rfl rfl rfl rfl rfl ⟨rfl, rfl, rfl, rfl, rfl⟩ rfl rfl rfl rfl rfl heapApart_named Tryz.func3 heapApart_facts
    (of_decide_eq_true (by kernel_rfl)) (by unfold Func.isWrapper; first | (rw [if_pos (by decide +kernel)]; kernel_rfl) | (rw [if_neg (by decide +kernel)]; exact ⟨rfl, rfl⟩))
    (fun os started H enc _ => heapApart_lifted hlaw os started H enc)
theorem heapApart_holds : Rows.HeapApartSaid :=
  heapApart_over fun g l hg _ => HeapApart_call g (okImg_arg hg) l
#print axioms heapApart_holds
end Go.Proofs.YthekdpbplmigeaaGreat
