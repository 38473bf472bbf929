/- A part of the walks by abstract values: no statement of its own. -/
import Derived.Test.YtdngpcmllgnbjaaGreatN11
import Derived.Test.YtdngpcmllgnbjaaGreatN12
import Derived.Test.YtdngpcmllgnbjaaGreatN6
set_option linter.unusedVariables false
set_option linter.unusedSimpArgs false
namespace Go.Cg
open Go.Proofs
set_option maxHeartbeats 1000000 in
theorem zeT (l:List Ty) (hb:l.length≤1000):ACall Tryz.prog 138 [tys l] (tys l):=by
 refine zf zh Tryz.func138 rfl (by kernel_rfl) Tryz.ntmps138 (by simp) _ rfl (fun hw gB hgB=>?_)
 repeat' (first|refine Yw zh rfl rfl rfl rfl rfl rfl rfl (fun bb hbb=>?_)|refine zq rfl (QT zh rfl rfl rfl rfl rfl) rfl rfl ?_|(refine zI ?_;first|refine zq rfl (YA zh rfl rfl (.inl rfl) rfl rfl (by show _ * 32≤_;simp;omega) (by simp;omega)) rfl rfl ?_)|refine sA ?_|refine sC (fun _=>?_) (fun _=>?_)|fail)
 ·rename_i h
  have:l=[]:=by have:=hbb h;simpa using this
  subst this
  exact Zz (t:=2) (ps:=[tys []]) rfl (qo 4 false) rfl rfl
 ·exact retq rfl rfl
end Go.Cg
