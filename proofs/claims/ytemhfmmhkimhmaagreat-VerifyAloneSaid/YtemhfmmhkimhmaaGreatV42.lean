/- A part of the walks by abstract values: no statement of its own. -/
import Derived.Test.YtemhfmmhkimhmaaGreatV38
import Derived.Test.YtemhfmmhkimhmaaGreatV28
import Derived.Test.YtemhfmmhkimhmaaGreatV40
import Derived.Test.YtemhfmmhkimhmaaGreatV19
set_option linter.unusedVariables false
set_option linter.unusedSimpArgs false
namespace Go.Cg
open Go.Proofs
set_option maxHeartbeats 1000000 in
theorem zlk (g:Img):ACall Tryz.prog 14 [zK g] (pb ((yX g).2==0)):=by
 refine zh zf Tryz.func14 rfl zws Tryz.ntmps14 zwy63 _ rfl (fun hw gB hgB=>?_)
 repeat' (first|(refine shC ?_;first|refine qC (zjD g) ?_)|refine sK ?_|refine sC (fun _=>?_) (fun _=>?_)|fail)
 exact retq rfl rfl
end Go.Cg
