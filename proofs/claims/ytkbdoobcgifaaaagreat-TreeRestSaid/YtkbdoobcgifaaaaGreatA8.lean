/- A part of the walks by abstract values: no statement of its own. -/
import Derived.Test.YtkbdoobcgifaaaaGreatA4
import Derived.Test.YtkbdoobcgifaaaaGreatGrow
import Derived.Test.YtkbdoobcgifaaaaGreatG4
namespace Go.Cg
open Go.Proofs

-- left out here: function slices.Clone[[]cattlegrid/api.Type,cattlegrid/api.Type]
-- left out here: function law15.copied
-- left out here: function state.Pop
-- left out here: function state.Pop
end Go.Cg
