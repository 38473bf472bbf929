/- A part of the walks by abstract values: no statement of its own. -/
import Derived.Test.YtemhfmmhkimhmaaGreatI33
import Derived.Test.YtemhfmmhkimhmaaGreatI12
import Derived.Test.YtemhfmmhkimhmaaGreatI10
import Derived.Test.YtemhfmmhkimhmaaGreatI13
import Derived.Test.YtemhfmmhkimhmaaGreatI18
set_option linter.unusedVariables false
set_option linter.unusedSimpArgs false
namespace Go.Cg
open Go.Proofs
theorem VI {α β:Type} {f:α->β} {l:List α} {k:Nat} (h:k < l.length):(l.take k).map f++[f l[k]]=(l.take (k + 1)).map f:=by
 rw [List.take_succ_eq_append_getElem h,List.map_append,List.map_cons,List.map_nil]
theorem bnd {n b c:Nat} (m:Nat) (h:n<=m) (h2:m * b<=c):n * b<=c:=Nat.le_trans (Nat.mul_le_mul_right _ h) h2
abbrev cpR (g:Img):AV:=.agg [.own 10,.own 11,.own 12,.pv (pi g.entry)]
end Go.Cg
