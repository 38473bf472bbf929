/- Law 'TreeEnds' of cattlegrid: whatever the image and the number, the law returns true and each argument reads as before. No conditions. -/
import Derived.Test.YtkbdoobcgifaaaaGreatB8
import Derived.Test.YtkbdoobcgifaaaaGreatBrTE
namespace Go.Proofs.YtkbdoobcgifaaaaGreat
open Go.Cg
theorem treeEnds_holds : Rows.TreeEndsSaid :=
  treeEnds_over fun g a _ ha => TreeEnds_call g a (okU8_in ha).1 (okU8_in ha).2
#print axioms treeEnds_holds
end Go.Proofs.YtkbdoobcgifaaaaGreat
