/- A part of the walks by abstract values: no statement of its own. -/
import Derived.Test.YtkbdoobcgifaaaaBridge
import Derived.Test.YtkbdoobcgifaaaaTab
import Derived.Test.YtkbdoobcgifaaaaRows
namespace Go.Cg
open Go.RowKit Go.Proofs

section
variable {H : Type} {enc : TypeId × Value → H} {w : World}
theorem cells28 : Try.prog.cellsOf 28 = 4 := by kernel_rfl
theorem cells40 : Try.prog.cellsOf 40 = 1 := by kernel_rfl
theorem cells3 : Try.prog.cellsOf 3 = 1 := by kernel_rfl
theorem cells4 : Try.prog.cellsOf 4 = 1 := by kernel_rfl
theorem cells53 : Try.prog.cellsOf 53 = 1 := by kernel_rfl
def okTy (t : Ty) : Prop := (Lit.int .i64 t.kind).wf = true ∧ (Lit.int .i64 t.index).wf = true ∧ (Lit.int .i64 t.dims).wf = true
theorem rdInt : Rd enc Try.prog w 3 1 (fun ps => ∃ n, (Lit.int .i64 n).wf = true ∧ ps = [.base (.int .i64 n)]) := rd_int Try.underlying3 cells3
theorem rdBool : Rd enc Try.prog w 4 1 (fun ps => ∃ b, ps = [.base (.bool b)]) := rd_bool Try.underlying4 cells4
theorem rdTy : Rd enc Try.prog w 28 4 (fun ps => ∃ t : Ty, okTy t ∧ ps = (tyPV t).cells) := by
  refine (rd_struct Try.underlying28 cells28 (fits_cons rfl rdInt (fits_cons rfl rdInt (fits_cons rfl rdInt (fits_cons rfl rdBool fits_nil))))).mono ?_
  rintro _ ⟨_, _, ⟨a, ha, rfl⟩, ⟨_, _, ⟨b, hb, rfl⟩, ⟨_, _, ⟨c, hc, rfl⟩, ⟨_, _, ⟨d, rfl⟩, rfl, rfl⟩, rfl⟩, rfl⟩, rfl⟩
  exact ⟨⟨a, b, c, d⟩, ⟨ha, hb, hc⟩, rfl⟩
theorem rdTys : Rd enc Try.prog w 40 1 (fun ps => ∃ l : List Ty, (∀ t ∈ l, okTy t) ∧ ps = [tys l]) := rd_slice Try.underlying40 cells40 (by decide) rdTy
end

theorem own : ownKnob Try.prog.godebug = none := by kernel_rfl
theorem laidOut : laidOutB Try.prog = true := by kernel_rfl
end Go.Cg
namespace Go.Proofs.Ytkbdoobcgifaaaa
open Go.ChangeShapes Go.WideShapes Go.ChangeAt Go.RowKit Go.Cg
set_option maxRecDepth 100000 in
theorem statePops_lifted (hlaw : ∀ (a b : List Ty) (n : Int), (∀ t ∈ a, okTy t) → (∀ t ∈ b, okTy t) → (Lit.int .i8 n).wf = true → ACall Try.prog 8 [tys a, tys b, .base (.int .i8 n)] (pb true))
    (os : Os) (started : os.Started) (H : Type) (enc : TypeId × Value → H) :
    ReturnsInHanded {} Try.checked os 8 .any (Rows.statePopsSpec.pre6 enc Try.prog Try.f8 Rows.statePopsRow.domain false) (Rows.statePopsSpec.post enc Try.prog Try.f8 false true false false) := by
  refine returnsInHanded_of_change (C := Try.checked) own started (by kernel_rfl) Try.func8
    (ChangeSpec.witness6 (enc := enc) (C := Try.checked) false ⟨#[], #[.slice none 0 0, .slice none 0 0, .int .i8 0], []⟩ 8 (by kernel_rfl) (by kernel_rfl) (by kernel_rfl) (by kernel_rfl)) ?_
  intro W base args ds gs before hval0 hW hcnd _
  have hval : ∀ (j : Nat) t v, Try.f8.params[j]? = some t → args[j]? = some v → Value.okWide Try.prog W .any base t v := hval0
  have hW' := hW
  obtain ⟨p, q, hA0, hV, rfl, hfz, hnd⟩ := hW
  have hA : DataW.TrodAll enc Try.prog W 0 (fun _ => true) true Try.f8.params.toList args.toList ds p := hA0
  rw [Try.params8] at hA hval
  obtain ⟨v0, vs0, d0, ds0, p0, q0, hargs, rfl, rfl, h0, r0⟩ := trodAll_cons hA
  obtain ⟨v1, vs1, d1, ds1, p1, q1, rfl, rfl, rfl, h1, r1⟩ := trodAll_cons r0
  obtain ⟨v2, vs2, d2, ds2, p2, q2, rfl, rfl, rfl, h2, r2⟩ := trodAll_cons r1
  obtain ⟨rfl, rfl, rfl⟩ := trodAll_nil r2
  obtain rfl : args = #[v0, v1, v2] := by cases args; simp_all
  obtain ⟨rfl, rfl⟩ := trodVars_none hV
  simp only [List.append_nil] at hW'
  have hlt : ∀ y ∈ p0 ++ (p1 ++ p2), y.block < W.heap.size := fun y hy => by simpa using hW'.lt y hy
  obtain ⟨_, ⟨l0, g0, e0⟩, k0⟩ := rd_one rdTys (okWide_slice_one Try.underlying40 (hval 0 40 v0 rfl rfl)) h0
  obtain ⟨_, ⟨l1, g1, e1⟩, k1⟩ := rd_one rdTys (okWide_slice_one Try.underlying40 (hval 1 40 v1 rfl rfl)) h1
  obtain ⟨_, ⟨n, g2, e2⟩, k2⟩ := rd_one (rd_int Try.underlying53 cells53) (okWide_int_one Try.underlying53 (hval 2 53 v2 rfl rfl)) h2
  simp only [List.cons.injEq, and_true] at e0 e1 e2
  subst e0 e1 e2
  refine ((hlaw l0 l1 n g0 g1 g2).calls (KW W) W [v0, v1, v2] (fun b o h => h) (.cons k0 (.cons k1 (.cons k2 .nil)))).mono ?_
  rintro e W' ⟨v, K', rfl, hev, hr⟩
  cases hr
  have hb := hev.below
  refine ⟨_, rfl, _, _, _, [], p0 ++ (p1 ++ (p2 ++ [])), [], hW', trodAll_mk1 (shut_bool Try.underlying4 _), ?_, rfl, hb.frame _, fun h => by cases h⟩
  exact trodAll_cons_mk (Below.trod laidOut (by kernel_rfl) (of_decide_eq_true (by kernel_rfl)) h0 hb (fun y hy => hlt y (by simp [hy])))
    (trodAll_cons_mk (Below.trod laidOut (by kernel_rfl) (of_decide_eq_true (by kernel_rfl)) h1 hb (fun y hy => hlt y (by simp [hy])))
    (trodAll_cons_mk (Below.trod laidOut (by kernel_rfl) (of_decide_eq_true (by kernel_rfl)) h2 hb (fun y hy => hlt y (by simp [hy]))) trodAll_mk0))

theorem statePops_over (hlaw : ∀ (a b : List Ty) (n : Int), (∀ t ∈ a, okTy t) → (∀ t ∈ b, okTy t) → (Lit.int .i8 n).wf = true → ACall Try.prog 8 [tys a, tys b, .base (.int .i8 n)] (pb true)) : Rows.StatePopsSaid :=
  OpenClaim.holds_of_wide 8 Try.f8 rfl rfl rfl rfl rfl rfl rfl ⟨rfl, rfl, rfl, rfl, rfl⟩ rfl rfl rfl rfl rfl (by kernel_rfl) Try.func8 (by kernel_rfl)
    (of_decide_eq_true (by kernel_rfl)) (by unfold Func.isWrapper; first | (rw [if_pos (by decide +kernel)]; kernel_rfl) | (rw [if_neg (by decide +kernel)]; exact ⟨rfl, rfl⟩))
    (fun os started H enc _ => statePops_lifted hlaw os started H enc)
end Go.Proofs.Ytkbdoobcgifaaaa
