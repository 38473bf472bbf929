/- Law 'TreeOrder' of cattlegrid: whatever the image and the two numbers, the law returns true and each argument reads as before. No conditions. -/
import Derived.Test.YtkbdoobcgifaaaaGreatB7
import Derived.Test.YtkbdoobcgifaaaaGreatBrTO
namespace Go.Proofs.YtkbdoobcgifaaaaGreat
open Go.Cg
theorem treeOrder_holds : Rows.TreeOrderSaid :=
  treeOrder_over fun g a b _ ha hb => TreeOrder_call g a b (okU8_in ha).1 (okU8_in ha).2 (okU8_in hb).1 (okU8_in hb).2
#print axioms treeOrder_holds
end Go.Proofs.YtkbdoobcgifaaaaGreat
