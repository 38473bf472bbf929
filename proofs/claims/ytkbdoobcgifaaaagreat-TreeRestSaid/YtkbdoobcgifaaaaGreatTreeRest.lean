/- Law 'TreeRest' of cattlegrid: whatever the image and the number, the law returns true and each argument reads as before. No conditions. -/
import Derived.Test.YtkbdoobcgifaaaaGreatB9
import Derived.Test.YtkbdoobcgifaaaaGreatBrTR
namespace Go.Proofs.YtkbdoobcgifaaaaGreat
open Go.Cg
theorem treeRest_holds : Rows.TreeRestSaid :=
  treeRest_over fun g a _ ha => TreeRest_call g a (okU8_in ha).1 (okU8_in ha).2
#print axioms treeRest_holds
end Go.Proofs.YtkbdoobcgifaaaaGreat
