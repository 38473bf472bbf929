/- A part of the walks by abstract values: no statement of its own. -/
import Derived.Test.YtdlokcmodgccnaaGreatF32
import Derived.Test.YtdlokcmodgccnaaGreatF15
import Derived.Test.YtdlokcmodgccnaaGreatF11
import Derived.Test.YtdlokcmodgccnaaGreatF24
import Derived.Test.YtdlokcmodgccnaaGreatF8
set_option linter.unusedVariables false
set_option linter.unusedSimpArgs false
namespace Go.Cg
open Go.Proofs
section
variable {g:Img} {k i d:Int}
end
end Go.Cg
