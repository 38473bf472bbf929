/- Law 'StateUp' of cattlegrid: whatever the image and the two states, the law returns true and each argument reads as before. No conditions. -/
import Derived.Test.YtkbdoobcgifaaaaA31
import Derived.Test.YtkbdoobcgifaaaaBrUp
namespace Go.Proofs.Ytkbdoobcgifaaaa
open Go.Cg
theorem stateUp_holds : Rows.StateUpSaid :=
  stateUp_over fun g a b _ _ _ => StateUp_call g a b
#print axioms stateUp_holds
end Go.Proofs.Ytkbdoobcgifaaaa
