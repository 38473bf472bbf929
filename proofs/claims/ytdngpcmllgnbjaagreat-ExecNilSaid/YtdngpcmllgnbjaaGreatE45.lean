/- A part of the walks by abstract values: no statement of its own. -/
import Derived.Test.YtdngpcmllgnbjaaGreatE18
import Derived.Test.YtdngpcmllgnbjaaGreatE28
import Derived.Test.YtdngpcmllgnbjaaGreatE39
import Derived.Test.YtdngpcmllgnbjaaGreatE43
set_option linter.unusedVariables false
set_option linter.unusedSimpArgs false
namespace Go.Cg
open Go.Proofs
def NzS {α:Type} (act:SM α):Prop:=∀ l e,act l=.error e→e≠0
theorem ztD {α β:Type} {x:SM α} {f:α→SM β} (hx:NzS x) (hf:∀ a,NzS (f a)):NzS (x >>= f):=fun l e h=>by
 rw [Za] at h
 cases hxl:x l with
 | error e'=>rw [hxl] at h;cases h;exact hx l e hxl
 | ok p=>rw [hxl] at h;exact hf p.1 p.2 e h
theorem zur {α:Type} (a:α):NzS (pure a:SM α):=fun l e h=>by rw [Qb] at h;cases h
theorem zum (b:Bool) {k:Int} (hk:k≠0):NzS (qN b k):=fun l e h=>by unfold qN at h;split at h <;> cases h;exact hk
theorem zva:NzS Qv:=fun l e h=>by unfold Qv at h;split at h <;> cases h;decide
theorem ztT (max:Int) (ts:List Ty):NzS (qG max ts):=fun l e h=>by unfold qG at h;split at h <;> cases h;decide
theorem zsc:NzS zft:=fun l e h=>by cases h
theorem zr6 {k:Int} (hk:k≠0):NzS (emptyS k):=fun l e h=>by unfold emptyS at h;split at h <;> cases h;exact hk
theorem zrR (g:Img) (ls:List Ty):NzS (zam g ls):=fun l e h=>by
 unfold zam at h
 split at h
 ·cases h;decide
 ·split at h <;> cases h;decide
theorem zuP {α:Type} {p:Prop} [Decidable p] {x y:SM α} (hx:NzS x) (hy:NzS y):NzS (if p then x else y):=by split <;> assumption
theorem zvn (g:Img) (ar:List Ty) (m:Me) (x:Ins):NzS (doS g ar m x):=by
 unfold doS ztn zaN zow zox zkl zjW zk0 zhI ze3 QH Xe
 dsimp only
 unfold zpg QW zhd Zj zoW zd2 zeg zcH zkz
 repeat' (first|with_reducible exact zva|with_reducible exact ztT _ _|with_reducible exact zur _|with_reducible exact zsc|with_reducible exact zum _ (by decide)|with_reducible exact zr6 (by decide)|with_reducible exact zrR _ _|with_reducible refine ztD ?_ fun _=>?_|with_reducible refine zuP ?_ ?_)
theorem zpl {g:Img} {m a:Int} {l:List Ty} {e:Int} (h:stepS g m a l=.error e):e≠0:=zvn _ _ _ _ l e h
theorem zoB (g:Img) (hc:(yZ g).2=0) {m a:Int} (hm:mOk g m) (h0:0≤a) (h1:a.toNat < (mAt g m).code.length) (hL:zgo (yO (mAt g m) a)) (l:List Ty) (hl:l.length≤100) :
  ACall Tryz.prog 37 [.ptr (zx g) 0,pi m,pi a,tys l] (zsB (stepS g m a l)):=by
 have hf:=(YT (Vg hc).1).formed
 have hM:=(Xg hf hm).small
 have hb:=zI hf
 exact zq7 g (zeG hf) (by omega) m a l hl hm (by omega) h0 h1 hL
end Go.Cg
