/- Law 'FitOrder' of cattlegrid: whatever the image and the three types, the law returns true and each argument reads as before. No conditions. -/
import Derived.Test.YtkbdoobcgifaaaaA32
import Derived.Test.YtkbdoobcgifaaaaBrA
namespace Go.Proofs.Ytkbdoobcgifaaaa
open Go.Cg
theorem fitOrder_holds : Rows.FitOrderSaid :=
  fitOrder_over fun g l _ _ => FitOrder_call g l.1 l.2.1 l.2.2
#print axioms fitOrder_holds
end Go.Proofs.Ytkbdoobcgifaaaa
