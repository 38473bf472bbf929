/- A part of the walks by abstract values: no statement of its own. -/
import Derived.Test.YtkbdoobcgifaaaaGreatA24
import Derived.Test.YtkbdoobcgifaaaaGreatA10
namespace Go.Cg
open Go.Proofs

abbrev tdA : PV := .agg [.base (.string ⟨#[65]⟩), pi 0, pi (-1), .base (.slice none 0 0)]
abbrev imgA : PV := .agg [.slc 4 [tdA] true, .base (.slice none 0 0), .base (.slice none 0 0), pi (-1)]
abbrev tInt : Ty := ⟨2, 0, 0, false⟩
abbrev tLong : Ty := ⟨3, 0, 0, false⟩
abbrev tNull : Ty := ⟨8, 0, 0, false⟩
abbrev tClass : Ty := ⟨5, 0, 0, false⟩
-- left out here: function fit.Fits
-- left out here: function fit.Fits
-- left out here: function fit.Fits
-- left out here: function fit.Merge
-- left out here: function law14.wakes
def tyB (a b : Ty) : Bool := a.kind == b.kind && (a.index == b.index && (a.dims == b.dims && (a.ref == b.ref && true)))
theorem tyB_comm (a b : Ty) : tyB a b = tyB b a := by
  have h1 : tyB a b = decide (a = b) := tyEq_iff a b
  have h2 : tyB b a = decide (b = a) := tyEq_iff b a
  rw [h1, h2]
  by_cases h : a = b
  · simp [h]
  · rw [decide_eq_false h, decide_eq_false (fun e => h e.symm)]
-- left out here: function fit.Fits
-- left out here: function fit.Fits
-- left out here: function fit.Fits
-- left out here: function fit.Fits
-- left out here: function law14.FitTop
end Go.Cg
