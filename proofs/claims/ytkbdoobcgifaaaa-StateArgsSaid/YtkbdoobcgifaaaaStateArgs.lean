/- Law 'StateArgs' of cattlegrid: whatever the image and the method, the law returns true and each argument reads as before. No conditions. -/
import Derived.Test.YtkbdoobcgifaaaaA26
import Derived.Test.YtkbdoobcgifaaaaBrArgs
namespace Go.Proofs.Ytkbdoobcgifaaaa
open Go.Cg
theorem stateArgs_holds : Rows.StateArgsSaid :=
  stateArgs_over fun g m _ _ => StateArgs_call g m
#print axioms stateArgs_holds
end Go.Proofs.Ytkbdoobcgifaaaa
