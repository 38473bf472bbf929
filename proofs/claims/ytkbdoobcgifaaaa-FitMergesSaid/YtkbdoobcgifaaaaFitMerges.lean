/- Law 'FitMerges' of cattlegrid: whatever the image and the three types, the law returns true and each argument reads as before. No conditions. -/
import Derived.Test.YtkbdoobcgifaaaaA33
import Derived.Test.YtkbdoobcgifaaaaBrM
namespace Go.Proofs.Ytkbdoobcgifaaaa
open Go.Cg
theorem fitMerges_holds : Rows.FitMergesSaid :=
  fitMerges_over fun g l _ _ => FitMerges_call g l.1 l.2.1 l.2.2
#print axioms fitMerges_holds
end Go.Proofs.Ytkbdoobcgifaaaa
