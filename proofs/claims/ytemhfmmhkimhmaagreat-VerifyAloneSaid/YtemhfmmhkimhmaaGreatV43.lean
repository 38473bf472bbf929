/- A part of the walks by abstract values: no statement of its own. -/
import Derived.Test.YtemhfmmhkimhmaaGreatV30
import Derived.Test.YtemhfmmhkimhmaaGreatV29
import Derived.Test.YtemhfmmhkimhmaaGreatV9
import Derived.Test.YtemhfmmhkimhmaaGreatV24
import Derived.Test.YtemhfmmhkimhmaaGreatV25
import Derived.Test.YtemhfmmhkimhmaaGreatV42
set_option linter.unusedVariables false
set_option linter.unusedSimpArgs false
namespace Go.Cg
open Go.Proofs
section
variable {g:Img} {k i d:Int}
end
end Go.Cg
