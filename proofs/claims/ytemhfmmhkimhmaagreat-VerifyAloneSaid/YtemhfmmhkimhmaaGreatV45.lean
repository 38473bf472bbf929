/- A part of the walks by abstract values: no statement of its own. -/
import Derived.Test.YtemhfmmhkimhmaaGreatV44
import Derived.Test.YtemhfmmhkimhmaaGreatV43
set_option linter.unusedVariables false
set_option linter.unusedSimpArgs false
namespace Go.Cg
open Go.Proofs
def NzS {α:Type} (act:SM α):Prop:=∀ l e,act l=.error e->e≠0
theorem zvx {α β:Type} {x:SM α} {f:α->SM β} (hx:NzS x) (hf:∀ a,NzS (f a)):NzS (x >>= f):=fun l e h=>by
 rw [zA] at h;cases hxl:x l with
 | error e'=>rw [hxl] at h;cases h;exact hx l e hxl
 | ok p=>rw [hxl] at h;exact hf p.1 p.2 e h
theorem zvj {α:Type} (a:α):NzS (pure a:SM α):=fun l e h=>by rw [zG] at h;cases h
theorem zvg (b:Bool) {k:Int} (hk:k≠0):NzS (zO b k):=fun l e h=>by unfold zO at h;split at h <;> cases h;exact hk
theorem zwg:NzS Qj:=fun l e h=>by unfold Qj at h;split at h <;> cases h;decide
theorem zvq (max:Int) (ts:List Ty):NzS (qg max ts):=fun l e h=>by unfold qg at h;split at h <;> cases h;decide
theorem zte:NzS zcu:=fun l e h=>by cases h
theorem ztd {k:Int} (hk:k≠0):NzS (emptyS k):=fun l e h=>by unfold emptyS at h;split at h <;> cases h;exact hk
theorem zth (g:Img) (ls:List Ty):NzS (ZG g ls):=fun l e h=>by
 unfold ZG at h;split at h
 ·cases h;decide
 ·split at h <;> cases h;decide
theorem zwa {α:Type} {p:Prop} [Decidable p] {x y:SM α} (hx:NzS x) (hy:NzS y):NzS (if p then x else y):=by split <;> assumption
theorem zwD (g:Img) (ar:List Ty) (m:Me) (x:Ins):NzS (doS g ar m x):=by
 unfold doS Zb qF ZO qK yG Zc yK yD yA ZL yM;dsimp only;unfold zbc YG QN ZJ zdu Zy YW Zt Vg
 repeat' (first|with_reducible exact zwg|with_reducible exact zvq _ _|with_reducible exact zvj _|with_reducible exact zte|with_reducible exact zvg _ zwy69|with_reducible exact ztd zwy69|with_reducible exact zth _ _|with_reducible refine zvx ?_ fun _=>?_|with_reducible refine zwa ?_ ?_)
theorem zpX {g:Img} {m a:Int} {l:List Ty} {e:Int} (h:stepS g m a l=.error e):e≠0:=zwD _ _ _ _ l e h
theorem zow (g:Img) (hc:(yX g).2=0) {m a:Int} (hm:mOk g m) (h0:0<=a) (h1:a.toNat < (mAt g m).code.length) (l:List Ty) (hl:l.length<=100) :
  ACall Tryz.prog 50 [.ptr (zK g) 0,pi m,pi a,tys l] (ztf (stepS g m a l)):=by
 have hf:=(zaw (zbm hc).1).formed;have hM:=(XB hf hm).small;have hb:=yg hf;exact zrl g (zc5 hf) zwy62 m a l hl hm zwy62 h0 h1 (zty hc hm h0 h1)
end Go.Cg
