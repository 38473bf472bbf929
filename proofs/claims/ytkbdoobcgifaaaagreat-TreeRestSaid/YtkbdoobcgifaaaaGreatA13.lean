/- A part of the walks by abstract values: no statement of its own. -/
import Derived.Test.YtkbdoobcgifaaaaGreatA11
namespace Go.Cg
open Go.Proofs
theorem prel_full {K : KK} {w : World} {sz : Nat} {es : List PV} {v : Value} (h : PRel K w (.slc sz es true) v) : PRel K w (.slc sz es false) v := by
  have := tells_full sz es true K w (fun _ => undef) [] v (.pv _ _ h)
  cases this with
  | pv _ _ h => exact h
theorem acall_full2 {P : Program} {f : FuncId} {p : PV} {sz : Nat} {es : List PV} {r : PV} (h : ACall P f [p, .slc sz es false] r) : ACall P f [p, .slc sz es true] r := by
  refine ⟨h.stands, fun K w vs hl hv => h.calls K w vs hl ?_⟩
  obtain ⟨v0, vs0, rfl, r0, hv0⟩ := hv.cons_inv
  obtain ⟨v1, vs1, rfl, r1, hv1⟩ := hv0.cons_inv
  obtain rfl := hv1.nil_inv
  exact .cons r0 (.cons (prel_full r1) .nil)
theorem same1 : ACall Tryz.prog 82 [tys [tB], .slc 4 [tyPV tB] true] (pb true) := acall_full2 (SameTypes_call [tB] [tB])
-- left out here: function law15.wakes
end Go.Cg
