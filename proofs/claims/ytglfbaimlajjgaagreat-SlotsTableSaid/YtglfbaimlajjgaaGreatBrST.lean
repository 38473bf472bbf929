/- Law 'SlotsTable' of cattlegrid: whatever the image and the two numbers, the law returns true and each argument reads as before. No conditions. -/
import Derived.Test.YtglfbaimlajjgaaGreatU20
import Derived.Test.YtglfbaimlajjgaaGreatU13
namespace Go.Proofs.YtglfbaimlajjgaaGreat
open Go.ChangeShapes Go.WideShapes Go.ChangeAt Go.RowKit Go.Cg
set_option maxRecDepth 100000 in
theorem slotsTable_lifted (hlaw : ∀ (g : Img) (t : Int) (m : Int), okImg g → okI64 t → okI64 m → ACall Tryz.prog 11 [imgPV g, pi t, pi m] (pb true))
    (os : Os) (started : os.Started) (H : Type) (enc : TypeId × Value → H) :
    ReturnsInHanded {} Tryz.checked os 11 .any (Rows.slotsTableSpec.pre6 enc Tryz.prog Tryz.f11 Rows.slotsTableRow.domain false) (Rows.slotsTableSpec.post enc Tryz.prog Tryz.f11 false true false false) := by
  refine returnsInHanded_of_change (C := Tryz.checked) own started (by kernel_rfl) Tryz.func11
    (ChangeSpec.witness6 (enc := enc) (C := Tryz.checked) false ⟨#[], #[.agg #[.slice none 0 0, .slice none 0 0, .slice none 0 0, .int .i64 0], .int .i64 0, .int .i64 0], []⟩ 11 (by kernel_rfl) (by kernel_rfl) (by kernel_rfl) (by kernel_rfl)) ?_
  intro W base args ds gs before hval0 hW hcnd _
  have hval : ∀ (j : Nat) t v, Tryz.f11.params[j]? = some t → args[j]? = some v → Value.okWide Tryz.prog W .any base t v := hval0
  have hW' := hW
  obtain ⟨p, q, hA0, hV, rfl, hfz, hnd⟩ := hW
  have hA : DataW.TrodAll enc Tryz.prog W 0 (fun _ => true) true Tryz.f11.params.toList args.toList ds p := hA0
  rw [Tryz.params11] at hA hval
  obtain ⟨v0, vs0, d0, ds0, p0, q0, hargs, rfl, rfl, h0, r0⟩ := trodAll_cons hA
  obtain ⟨v1, vs1, d1, ds1, p1, q1, rfl, rfl, rfl, h1, r1⟩ := trodAll_cons r0
  obtain ⟨v2, vs2, d2, ds2, p2, q2, rfl, rfl, rfl, h2, r2⟩ := trodAll_cons r1
  obtain ⟨rfl, rfl, rfl⟩ := trodAll_nil r2
  obtain rfl : args = #[v0, v1, v2] := by cases args; simp_all
  obtain ⟨rfl, rfl⟩ := trodVars_none hV
  simp only [List.append_nil] at hW'
  have hlt : ∀ y ∈ p0 ++ (p1 ++ (p2)), y.block < W.heap.size := fun y hy => by simpa using hW'.lt y hy
  obtain ⟨cs0, rfl⟩ := Cg.okWide_struct Tryz.underlying26 (hval 0 26 v0 rfl rfl)
  obtain ⟨_, ⟨x0, g0, e0⟩, k0⟩ := rd_agg rdImg h0
  subst e0
  obtain ⟨_, ⟨x1, g1, e1⟩, k1⟩ := rd_one rdI64 (Cg.okWide_int_one Tryz.underlying3 (hval 1 3 v1 rfl rfl)) h1
  simp only [List.cons.injEq, and_true] at e1
  subst e1
  obtain ⟨_, ⟨x2, g2, e2⟩, k2⟩ := rd_one rdI64 (Cg.okWide_int_one Tryz.underlying3 (hval 2 3 v2 rfl rfl)) h2
  simp only [List.cons.injEq, and_true] at e2
  subst e2
  refine ((hlaw x0 x1 x2 g0 g1 g2).calls (KW W) W [.agg cs0, v1, v2] (fun b o h => h) (.cons k0 (.cons k1 (.cons k2 (.nil))))).mono ?_
  rintro e W' ⟨v, K', rfl, hev, hr⟩
  cases hr
  have hb := hev.below
  refine ⟨_, rfl, _, _, _, [], p0 ++ (p1 ++ (p2 ++ [])), [], hW', trodAll_mk1 (shut_bool Tryz.underlying4 _), ?_, rfl, hb.frame _, fun h => by cases h⟩
  exact (trodAll_cons_mk (Below.trod laidOut (by kernel_rfl) (of_decide_eq_true (by kernel_rfl)) h0 hb (fun y hy => hlt y (by simp [hy]))) (trodAll_cons_mk (Below.trod laidOut (by kernel_rfl) (of_decide_eq_true (by kernel_rfl)) h1 hb (fun y hy => hlt y (by simp [hy]))) (trodAll_cons_mk (Below.trod laidOut (by kernel_rfl) (of_decide_eq_true (by kernel_rfl)) h2 hb (fun y hy => hlt y (by simp [hy]))) trodAll_mk0)))
theorem slotsTable_jf0 : Tryz.checked.prog.inPlace 11 = Rows.slotsTableRow.inPlace := by kernel_rfl
theorem slotsTable_jf1 : Tryz.checked.prog.unfollowed 11 = Rows.slotsTableRow.unfollowed := by kernel_rfl
theorem slotsTable_jf2 : Tryz.checked.prog.recurses 11 = Rows.slotsTableRow.recurses := by kernel_rfl
theorem slotsTable_jf3 : Tryz.checked.prog.varsNamed 11 = Rows.slotsTableRow.named := by kernel_rfl
theorem slotsTable_named : Tryz.checked.prog.funcNamed Rows.slotsTableRow.func = some 11 := by kernel_rfl
theorem slotsTable_facts : joinedFacts Tryz.checked.prog 11 Tryz.f11 Rows.slotsTableSpec Rows.slotsTableRow = true :=
  joined_of jf_laid jf_maps jf_heard jf_enter jf_lifts jf_make slotsTable_jf0 slotsTable_jf1 slotsTable_jf2 slotsTable_jf3 (by kernel_rfl)
theorem slotsTable_over (hlaw : ∀ (g : Img) (t : Int) (m : Int), okImg g → okI64 t → okI64 m → ACall Tryz.prog 11 [imgPV g, pi t, pi m] (pb true)) : Rows.SlotsTableSaid :=
  OpenClaim.holds_of_wide 11 Tryz.f11 rfl rfl rfl rfl rfl rfl rfl ⟨rfl, rfl, rfl, rfl, rfl⟩ rfl rfl rfl rfl rfl slotsTable_named Tryz.func11 slotsTable_facts
    (of_decide_eq_true (by kernel_rfl)) (by unfold Func.isWrapper; first | (rw [if_pos (by decide +kernel)]; kernel_rfl) | (rw [if_neg (by decide +kernel)]; exact ⟨rfl, rfl⟩))
    (fun os started H enc _ => slotsTable_lifted hlaw os started H enc)
theorem slotsTable_holds : Rows.SlotsTableSaid :=
  slotsTable_over fun g t m hg _ _ => SlotsTable_call g (okImg_arg hg) t m
#print axioms slotsTable_holds
end Go.Proofs.YtglfbaimlajjgaaGreat
