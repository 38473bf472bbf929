/- Law 'FitTop' of cattlegrid: whatever the image and the two types, the law returns true and each argument reads as before. No conditions. -/
import Derived.Test.YtkbdoobcgifaaaaA25
import Derived.Test.YtkbdoobcgifaaaaBrTop
namespace Go.Proofs.Ytkbdoobcgifaaaa
open Go.Cg
theorem fitTop_holds : Rows.FitTopSaid :=
  fitTop_over fun g a b _ _ _ => FitTop_call g a b
#print axioms fitTop_holds
end Go.Proofs.Ytkbdoobcgifaaaa
