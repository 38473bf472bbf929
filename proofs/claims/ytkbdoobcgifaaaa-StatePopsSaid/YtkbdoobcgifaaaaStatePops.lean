/- Law 'StatePops' of cattlegrid: whatever the three arguments, the law returns true and each argument reads as before. No conditions. -/
import Derived.Test.YtkbdoobcgifaaaaA12
import Derived.Test.YtkbdoobcgifaaaaA13
namespace Go.Proofs.Ytkbdoobcgifaaaa
open Go.Cg
theorem statePops_holds : Rows.StatePopsSaid :=
  statePops_over fun a b n _ _ h => StatePops_call wakes15_call a b n (by
    simp [Lit.wf, IntKind.has, IntKind.min, IntKind.max, IntKind.bits, IntKind.signed] at h; omega) (by
    simp [Lit.wf, IntKind.has, IntKind.min, IntKind.max, IntKind.bits, IntKind.signed] at h; omega)
end Go.Proofs.Ytkbdoobcgifaaaa
