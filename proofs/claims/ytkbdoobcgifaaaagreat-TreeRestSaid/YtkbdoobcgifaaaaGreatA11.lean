/- A part of the walks by abstract values: no statement of its own. -/
import Derived.Test.YtkbdoobcgifaaaaGreatA10
import Derived.Test.YtkbdoobcgifaaaaGreatG4
namespace Go.Cg
open Go.Proofs

-- left out here: function state.Merge
def smE : Nat → AV
  | 0 => .pv (.base (.slice none 0 0))
  | _ => .pv (tys [tB])
-- left out here: function state.Merge
end Go.Cg
