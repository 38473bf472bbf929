/- A part of the walks by abstract values: no statement of its own. -/
import Derived.Test.YtkbdoobcgifaaaaGreatA8
namespace Go.Cg
open Go.Proofs

def catN (a b : List Ty) : Nat → Int
  | 0 => 0
  | 1 => a.length
  | _ => a.length + b.length
def catL (a b : List Ty) : Nat → List Ty
  | 0 => []
  | 1 => a
  | _ => a ++ b

-- left out here: function slices.Concat[[]cattlegrid/api.Type,cattlegrid/api.Type]
-- left out here: function state.Push
-- left out here: function state.Push
end Go.Cg
