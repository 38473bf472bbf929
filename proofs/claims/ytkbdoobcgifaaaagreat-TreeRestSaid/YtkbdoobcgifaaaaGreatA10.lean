/- A part of the walks by abstract values: no statement of its own. -/
import Derived.Test.YtkbdoobcgifaaaaGreatA9
import Derived.Test.YtkbdoobcgifaaaaGreatG7
namespace Go.Cg
open Go.Proofs

abbrev tA : Ty := ⟨8, 0, 0, false⟩
abbrev tB : Ty := ⟨4, 0, 0, false⟩
abbrev img0 : PV := .agg [.base (.slice none 0 0), .base (.slice none 0 0), .base (.slice none 0 0), pi (-1)]

-- left out here: function fit.Fits
-- left out here: function fit.Fits
-- left out here: function fit.Merge
end Go.Cg
