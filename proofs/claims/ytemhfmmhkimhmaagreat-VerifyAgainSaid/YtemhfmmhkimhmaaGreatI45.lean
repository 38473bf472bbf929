/- A part of the walks by abstract values: no statement of its own. -/
import Derived.Test.YtemhfmmhkimhmaaGreatI27
import Derived.Test.YtemhfmmhkimhmaaGreatI28
import Derived.Test.YtemhfmmhkimhmaaGreatI40
import Derived.Test.YtemhfmmhkimhmaaGreatI43
set_option linter.unusedVariables false
set_option linter.unusedSimpArgs false
namespace Go.Cg
open Go.Proofs
def NzS {α:Type} (act:SM α):Prop:=∀ l e,act l=.error e->e≠0
theorem zv3 {α β:Type} {x:SM α} {f:α->SM β} (hx:NzS x) (hf:∀ a,NzS (f a)):NzS (x >>= f):=fun l e h=>by
 rw [zB] at h;cases hxl:x l with
 | error e'=>rw [hxl] at h;cases h;exact hx l e hxl
 | ok p=>rw [hxl] at h;exact hf p.1 p.2 e h
theorem zvO {α:Type} (a:α):NzS (pure a:SM α):=fun l e h=>by rw [zG] at h;cases h
theorem zvN (b:Bool) {k:Int} (hk:k≠0):NzS (zN b k):=fun l e h=>by unfold zN at h;split at h <;> cases h;exact hk
theorem zxc:NzS Qp:=fun l e h=>by unfold Qp at h;split at h <;> cases h;decide
theorem zvD (max:Int) (ts:List Ty):NzS (qg max ts):=fun l e h=>by unfold qg at h;split at h <;> cases h;decide
theorem ztp:NzS zcH:=fun l e h=>by cases h
theorem zsW {k:Int} (hk:k≠0):NzS (emptyS k):=fun l e h=>by unfold emptyS at h;split at h <;> cases h;exact hk
theorem zuH (g:Img) (ls:List Ty):NzS (ZM g ls):=fun l e h=>by
 unfold ZM at h;split at h
 ·cases h;decide
 ·split at h <;> cases h;decide
theorem zxj {α:Type} {p:Prop} [Decidable p] {x y:SM α} (hx:NzS x) (hy:NzS y):NzS (if p then x else y):=by split <;> assumption
theorem zxE (g:Img) (ar:List Ty) (m:Me) (x:Ins):NzS (doS g ar m x):=by
 unfold doS Zb qG ZR qJ yG Ze yJ yC yx ZP yN;dsimp only;unfold zbc YK QV ZO zdf ZC YV Zt Vk
 repeat' (first|with_reducible exact zxc|with_reducible exact zvD _ _|with_reducible exact zvO _|with_reducible exact ztp|with_reducible exact zvN _ zwy69|with_reducible exact zsW zwy69|with_reducible exact zuH _ _|with_reducible refine zv3 ?_ fun _=>?_|with_reducible refine zxj ?_ ?_)
theorem zqo {g:Img} {m a:Int} {l:List Ty} {e:Int} (h:stepS g m a l=.error e):e≠0:=zxE _ _ _ _ l e h
theorem zpj (g:Img) (hc:(yY g).2=0) {m a:Int} (hm:mOk g m) (h0:0<=a) (h1:a.toNat < (mAt g m).code.length) (l:List Ty) (hl:l.length<=100) :
  ACall Tryz.prog 50 [.ptr (zK g) 0,pi m,pi a,tys l] (zuF (stepS g m a l)):=by
 have hf:=(zay (zbg hc).1).formed;have hM:=(XA hf hm).small;have hb:=yg hf;exact zrG g (zcV hf) zwy62 m a l hl hm zwy62 h0 h1 (ztn hc hm h0 h1)
end Go.Cg
