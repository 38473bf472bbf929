/- A part of the walks by abstract values: no statement of its own. -/
import Derived.Test.YtkbdoobcgifaaaaBrG
namespace Go.Cg
open Go.RowKit Go.Proofs
theorem rdArr {H : Type} {enc : TypeId × Value → H} {w : World} : Rd enc Try.prog w 29 12 (fun ps => ∃ l : Ty × Ty × Ty, okArr l ∧ ps = (arrPV l).cells) := by
  refine (rd_array3 Try.underlying29 (by kernel_rfl) rdTy).mono ?_
  rintro _ ⟨_, _, ⟨a, ha, rfl⟩, ⟨_, _, ⟨b, hb, rfl⟩, ⟨_, _, ⟨c, hc, rfl⟩, rfl, rfl⟩, rfl⟩, rfl⟩
  exact ⟨(a, b, c), ⟨ha, hb, hc⟩, by simp [arrPV, PV.cells]⟩
end Go.Cg
namespace Go.Proofs.Ytkbdoobcgifaaaa
open Go.ChangeShapes Go.WideShapes Go.ChangeAt Go.RowKit Go.Cg
set_option maxRecDepth 100000 in
theorem fitOrder_lifted (hlaw : ∀ (g : Img) (l : Ty × Ty × Ty), okImg g → okArr l → ACall Try.prog 3 [imgPV g, arrPV l] (pb true))
    (os : Os) (started : os.Started) (H : Type) (enc : TypeId × Value → H) :
    ReturnsInHanded {} Try.checked os 3 .any (Rows.fitOrderSpec.pre6 enc Try.prog Try.f3 Rows.fitOrderRow.domain false) (Rows.fitOrderSpec.post enc Try.prog Try.f3 false true false false) := by
  refine returnsInHanded_of_change (C := Try.checked) own started (by kernel_rfl) Try.func3
    (ChangeSpec.witness6 (enc := enc) (C := Try.checked) false ⟨#[], #[.agg #[.slice none 0 0, .slice none 0 0, .slice none 0 0, .int .i64 0], .agg #[.int .i64 0, .int .i64 0, .int .i64 0, .bool false, .int .i64 0, .int .i64 0, .int .i64 0, .bool false, .int .i64 0, .int .i64 0, .int .i64 0, .bool false]], []⟩ 3 (by kernel_rfl) (by kernel_rfl) (by kernel_rfl) (by kernel_rfl)) ?_
  intro W base args ds gs before hval0 hW hcnd _
  have hval : ∀ (j : Nat) t v, Try.f3.params[j]? = some t → args[j]? = some v → Value.okWide Try.prog W .any base t v := hval0
  have hW' := hW
  obtain ⟨p, q, hA0, hV, rfl, hfz, hnd⟩ := hW
  have hA : DataW.TrodAll enc Try.prog W 0 (fun _ => true) true Try.f3.params.toList args.toList ds p := hA0
  rw [Try.params3] at hA hval
  obtain ⟨v0, vs0, d0, ds0, p0, q0, hargs, rfl, rfl, h0, r0⟩ := trodAll_cons hA
  obtain ⟨v1, vs1, d1, ds1, p1, q1, rfl, rfl, rfl, h1, r1⟩ := trodAll_cons r0
  obtain ⟨rfl, rfl, rfl⟩ := trodAll_nil r1
  obtain rfl : args = #[v0, v1] := by cases args; simp_all
  obtain ⟨rfl, rfl⟩ := trodVars_none hV
  simp only [List.append_nil] at hW'
  have hlt : ∀ y ∈ p0 ++ (p1), y.block < W.heap.size := fun y hy => by simpa using hW'.lt y hy
  obtain ⟨cs0, rfl⟩ := Cg.okWide_struct Try.underlying26 (hval 0 26 v0 rfl rfl)
  obtain ⟨_, ⟨x0, g0, e0⟩, k0⟩ := rd_agg rdImg h0
  subst e0
  obtain ⟨cs1, rfl⟩ := Cg.okWide_array Try.underlying29 (hval 1 29 v1 rfl rfl)
  obtain ⟨_, ⟨x1, g1, e1⟩, k1⟩ := rd_agg rdArr h1
  subst e1
  refine ((hlaw x0 x1 g0 g1).calls (KW W) W [.agg cs0, .agg cs1] (fun b o h => h) (.cons k0 (.cons k1 (.nil)))).mono ?_
  rintro e W' ⟨v, K', rfl, hev, hr⟩
  cases hr
  have hb := hev.below
  refine ⟨_, rfl, _, _, _, [], p0 ++ (p1 ++ []), [], hW', trodAll_mk1 (shut_bool Try.underlying4 _), ?_, rfl, hb.frame _, fun h => by cases h⟩
  exact (trodAll_cons_mk (Below.trod laidOut (by kernel_rfl) (of_decide_eq_true (by kernel_rfl)) h0 hb (fun y hy => hlt y (by simp [hy]))) (trodAll_cons_mk (Below.trod laidOut (by kernel_rfl) (of_decide_eq_true (by kernel_rfl)) h1 hb (fun y hy => hlt y (by simp [hy]))) trodAll_mk0))
theorem fitOrder_over (hlaw : ∀ (g : Img) (l : Ty × Ty × Ty), okImg g → okArr l → ACall Try.prog 3 [imgPV g, arrPV l] (pb true)) : Rows.FitOrderSaid :=
  OpenClaim.holds_of_wide 3 Try.f3 rfl rfl rfl rfl rfl rfl rfl ⟨rfl, rfl, rfl, rfl, rfl⟩ rfl rfl rfl rfl rfl (by kernel_rfl) Try.func3 (by kernel_rfl)
    (of_decide_eq_true (by kernel_rfl)) (by unfold Func.isWrapper; first | (rw [if_pos (by decide +kernel)]; kernel_rfl) | (rw [if_neg (by decide +kernel)]; exact ⟨rfl, rfl⟩))
    (fun os started H enc _ => fitOrder_lifted hlaw os started H enc)
end Go.Proofs.Ytkbdoobcgifaaaa
