/- A part of the walks by abstract values: no statement of its own. -/
import Derived.Test.YtemhfmmhkimhmaaGreatV29
import Derived.Test.YtemhfmmhkimhmaaGreatV27
import Derived.Test.YtemhfmmhkimhmaaGreatV33
import Derived.Test.YtemhfmmhkimhmaaGreatV32
import Derived.Test.YtemhfmmhkimhmaaGreatV28
import Derived.Test.YtemhfmmhkimhmaaGreatV31
import Derived.Test.YtemhfmmhkimhmaaGreatV30
set_option linter.unusedVariables false
set_option linter.unusedSimpArgs false
namespace Go.Cg
open Go.Proofs
set_option maxHeartbeats 20000000
structure XOk (g:Img) (x:Ins):Prop where
 lo:1<=x.op
 hi:x.op<=75
 v:2<=x.op->x.op<=7->0<=x.arg
 m:(x.op=43\/x.op=44\/x.op=45\/x.op=67)->0<=x.arg/\x.arg.toNat < g.methods.length/\(mAt g x.arg).params.length<=100/\0<=(mAt g x.arg).owner/\(mAt g x.arg).owner.toNat < g.types.length
 f:48<=x.op->x.op<=53->0<=x.arg/\x.arg.toNat < g.fields.length
 a:57<=x.op->x.op<=61->0<=x.t.dims/\x.t.dims<=100
 p:∀ i:Int,0<=i->i.toNat < g.methods.length->(mAt g i).params.length<=100
 d:x.op=68->x.t.kind=5->x.t.dims=0->Yb g x.t.index=3->methodsOf g x.t.index≠[]
def zpS {α:Type} (act:SM α):Prop:=∀ l p,act l=.ok p->p.2=[]
theorem zaL {α β:Type} {x:SM α} {f:α->SM β} (h:∀ a,zpS (f a)):zpS (x >>= f):=fun l p hp=>by
 rw [zA] at hp;split at hp
 ·cases hp
 ·exact h _ _ _ hp
theorem zcT:zpS zcu:=fun l p h=>by cases h;rfl
theorem zo4 (g:Img) (m:Me) (op:Int):zpS (ZL g m op):=by
 unfold ZL;split
 ·exact zaL fun _=>zaL fun _=>zcT
 ·split
  ·exact zaL fun _=>zaL fun _=>zcT
  ·split
   ·exact zaL fun _=>zaL fun _=>zcT
   ·exact zcT
theorem zdW {g:Img} {m:Me} {op:Int} {l:List Ty} {p:Unit × List Ty} (h:ZL g m op l=.ok p):p.2=[]:=zo4 g m op l p h
theorem zra (c:RC) (hF:Fm c.g) (hgm:c.g.methods.length<=1000) (hx:XOk c.g c.x) (l:List Ty) (hl:l.length<=100) (h:2<=c.x.op/\c.x.op<=7):XC 124 [] c (Zb c.g c.ar c.m c.x) uV l:=by
 obtain ⟨g,m,ar,op,arg,t0⟩:=c;have h:op=2\/op=3\/op=4\/op=5\/op=6\/op=7:=by simp only at h;omega
 rcases h with rfl|rfl|rfl|rfl|rfl|rfl
 ·exact zwy g hF m ar arg t0 l hl (hx.v zwy63 zwy63)
 ·exact zvS g hF m ar arg t0 l hl (hx.v zwy63 zwy63)
 ·exact zv7 g hF m ar arg t0 l hl (hx.v zwy63 zwy63)
 ·exact zv9 g hF m ar arg t0 l hl (hx.v zwy63 zwy63)
 ·exact zvO g hF m ar arg t0 l hl (hx.v zwy63 zwy63)
 ·exact zwd g hF m ar arg t0 l hl (hx.v zwy63 zwy63)
theorem zq8 (c:RC) (hF:Fm c.g) (hgm:c.g.methods.length<=1000) (hx:XOk c.g c.x) (l:List Ty) (hl:l.length<=100) (h:13<=c.x.op/\c.x.op<=33):XC 125 [] c (qF c.g c.m c.x.op) uV l:=by
 obtain ⟨g,m,ar,op,arg,t0⟩:=c;have h:(op=13\/op=14\/op=15\/op=16\/op=17\/op=18\/op=19\/op=20\/op=25\/op=26\/op=27)\/(op=21\/op=22)\/(op=23\/op=24)\/(op=28\/op=30)\/op=29\/op=31\/(op=32\/op=33):=by simp only at h;omega
 rcases h with h|h|h|h|rfl|rfl|h
 ·exact zuw g hF m ar arg t0 l hl op h
 ·exact zu5 g hF m ar arg t0 l hl op h
 ·exact zuJ g hF m ar arg t0 l hl op h
 ·exact zul g hF m ar arg t0 l hl op h
 ·exact zu8 g hF m ar arg t0 l hl
 ·exact zuR g hF m ar arg t0 l hl
 ·exact zvt g hF m ar arg t0 l hl op h
theorem zoA (c:RC) (hF:Fm c.g) (hgm:c.g.methods.length<=1000) (hx:XOk c.g c.x) (l:List Ty) (hl:l.length<=100) (h:34<=c.x.op/\c.x.op<=42):XC 126 [] c (ZO c.x.op) uV l:=by
 obtain ⟨g,m,ar,op,arg,t0⟩:=c;have h:(op=35\/op=36)\/(op=37\/op=42)\/(op=38\/op=39\/op=40\/op=41)\/op=34:=by simp only at h;omega
 rcases h with h|h|h|rfl
 ·exact zsj g hF m ar arg t0 l hl op h
 ·exact ztw g hF m ar arg t0 l hl op h
 ·exact zs7 g hF m ar arg t0 l hl op h
 ·exact zsM g hF m ar arg t0 l hl
theorem zoS (c:RC) (hF:Fm c.g) (hgm:c.g.methods.length<=1000) (hx:XOk c.g c.x) (l:List Ty) (hl:l.length<=100) (h:43<=c.x.op/\c.x.op<=45):XC 127 [] c (qK c.g c.m c.x) uV l:=by
 obtain ⟨g,m,ar,op,arg,t0⟩:=c;have h:op=43\/op=44\/op=45:=by simp only at h;omega
 rcases h with rfl|rfl|rfl
 ·exact zs6 g hF m ar arg t0 l hl (hx.m zwy63).1 (hx.m zwy63).2.1 (hx.m zwy63).2.2.1 (hx.m zwy63).2.2.2.1 (hx.m zwy63).2.2.2.2
 ·exact zse g hF m ar arg t0 l hl (hx.m zwy63).1 (hx.m zwy63).2.1 (hx.m zwy63).2.2.1 (hx.m zwy63).2.2.2.1 (hx.m zwy63).2.2.2.2
 ·exact ztu g hF m ar arg t0 l hl (hx.m zwy63).1 (hx.m zwy63).2.1 (hx.m zwy63).2.2.1 (hx.m zwy63).2.2.2.1 (hx.m zwy63).2.2.2.2
theorem zlX (c:RC) (hF:Fm c.g) (hgm:c.g.methods.length<=1000) (hx:XOk c.g c.x) (l:List Ty) (hl:l.length<=100) (h:48<=c.x.op/\c.x.op<=53):XC 128 [] c (yG c.g c.m c.x) uV l:=by
 obtain ⟨g,m,ar,op,arg,t0⟩:=c;have h:op=48\/op=49\/op=50\/op=51\/op=52\/op=53:=by simp only at h;omega
 rcases h with rfl|rfl|rfl|rfl|rfl|rfl
 ·exact zqM g hF m ar arg t0 l hl (hx.f zwy63 zwy63).1 (hx.f zwy63 zwy63).2
 ·exact zrt g hF m ar arg t0 l hl (hx.f zwy63 zwy63).1 (hx.f zwy63 zwy63).2
 ·exact zqu g hF m ar arg t0 l hl (hx.f zwy63 zwy63).1 (hx.f zwy63 zwy63).2
 ·exact zqs g hF m ar arg t0 l hl (hx.f zwy63 zwy63).1 (hx.f zwy63 zwy63).2
 ·exact zr1 g hF m ar arg t0 l hl (hx.f zwy63 zwy63).1 (hx.f zwy63 zwy63).2
 ·exact zrY g hF m ar arg t0 l hl (hx.f zwy63 zwy63).1 (hx.f zwy63 zwy63).2
theorem zlU (c:RC) (hF:Fm c.g) (hgm:c.g.methods.length<=1000) (hx:XOk c.g c.x) (l:List Ty) (hl:l.length<=100) (h:57<=c.x.op/\c.x.op<=61):XC 130 [] c (yK c.g c.m c.x) uV l:=by
 obtain ⟨g,m,ar,op,arg,t0⟩:=c;have h:op=57\/op=58\/op=59\/op=60\/op=61:=by simp only at h;omega
 rcases h with rfl|rfl|rfl|rfl|rfl
 ·exact zrN g hF m ar arg t0 l hl (hx.a zwy63 zwy63).1 (hx.a zwy63 zwy63).2
 ·exact zrJ g hF m ar arg t0 l hl
 ·exact zqV g hF m ar arg t0 l hl (hx.a zwy63 zwy63).1 (hx.a zwy63 zwy63).2
 ·exact zqL g hF m ar arg t0 l hl (hx.a zwy63 zwy63).1 (hx.a zwy63 zwy63).2
 ·exact zrV g hF m ar arg t0 l hl (hx.a zwy63 zwy63).1 (hx.a zwy63 zwy63).2
theorem zkK (c:RC) (hF:Fm c.g) (hgm:c.g.methods.length<=1000) (hx:XOk c.g c.x) (l:List Ty) (hl:l.length<=100) (h:62<=c.x.op/\c.x.op<=66):XC 131 [] c (yD c.g c.m c.x) uV l:=by
 obtain ⟨g,m,ar,op,arg,t0⟩:=c;have h:op=62\/op=63\/op=64\/(op=65\/op=66):=by simp only at h;omega
 rcases h with rfl|rfl|rfl|h
 ·exact zo2 g hF m ar arg t0 l hl
 ·exact zoL g hF m ar arg t0 l hl
 ·exact zoX g hF m ar arg t0 l hl
 ·exact zoY g hF m ar arg t0 l hl op h
theorem zjw (c:RC) (hF:Fm c.g) (hgm:c.g.methods.length<=1000) (hx:XOk c.g c.x) (l:List Ty) (hl:l.length<=100) (h:c.x.op=68):XC 132 [] c (yA c.g c.m c.x) uV l:=by
 obtain ⟨g,m,ar,op,arg,t0⟩:=c;have h:op=68:=by simp only at h;omega
 subst h
 ·exact zmT g hF m ar arg t0 l hl hgm hx.p (hx.d rfl)
theorem znd (c:RC) (hF:Fm c.g) (hgm:c.g.methods.length<=1000) (hx:XOk c.g c.x) (l:List Ty) (hl:l.length<=100) (h:c.x.op=1\/c.x.op=8\/c.x.op=9\/c.x.op=10\/c.x.op=11\/c.x.op=12\/c.x.op=47\/c.x.op=67\/c.x.op=74\/c.x.op=75):XC 134 [] c (yM c.g c.m c.x) uV l:=by
 obtain ⟨g,m,ar,op,arg,t0⟩:=c;have h:op=8\/(op=9\/op=74)\/op=10\/op=11\/op=12\/op=75\/(op=1\/op=47)\/op=67:=by simp only at h;omega
 rcases h with rfl|h|rfl|rfl|rfl|rfl|h|rfl
 ·exact ztq g hF m ar arg t0 l hl
 ·exact zsG g hF m ar arg t0 l hl op h
 ·exact zsa g hF m ar arg t0 l hl
 ·exact zrD g hF m ar arg t0 l hl
 ·exact zrH g hF m ar arg t0 l hl
 ·exact zqz g hF m ar arg t0 l hl
 ·exact zsF g hF m ar arg t0 l hl op h
 ·exact zr0 g hF m ar arg t0 l hl (hx.m zwy63).1 (hx.m zwy63).2.1
theorem zqR (c:RC) (hF:Fm c.g) (l:List Ty) (hl:l.length<=100) (h:c.x.op=46\/69<=c.x.op/\c.x.op<=73):XC 133 [] c (ZL c.g c.m c.x.op) uV l:=by
 obtain ⟨g,m,ar,op,arg,t0⟩:=c;have h:op=46\/op=69\/op=73\/(op=70\/op=71\/op=72):=by simp only at h;omega
 rcases h with rfl|rfl|rfl|h
 ·exact zhP (fun _ h=>zdW h) (zu1 g hF m ar arg t0 l hl)
 ·exact zhP (fun _ h=>zdW h) (zuB g hF m ar arg t0 l hl)
 ·exact zhP (fun _ h=>zdW h) (zvr g hF m ar arg t0 l hl)
 ·exact zhP (fun _ h=>zdW h) (zu6 g hF m ar arg t0 l hl op h)
theorem znS (c:RC) (hF:Fm c.g) (hgm:c.g.methods.length<=1000) (hx:XOk c.g c.x) (l:List Ty) (hl:l.length<=100) (h:54<=c.x.op/\c.x.op<=56):XC 129 [] c (Zc c.g c.m c.x) uV l:=by
 obtain ⟨g,m,ar,op,arg,t0⟩:=c;have h:op=54\/op=55\/op=56:=by simp only at h;omega
 rcases h with rfl|rfl|rfl
 ·exact zqF g hF m ar arg t0 l hl
 ·exact zrL g hF m ar arg t0 l hl
 ·exact zr7 g hF m ar arg t0 l hl
theorem zuI (c:RC) (hF:Fm c.g) (hgm:c.g.methods.length<=1000) (hx:XOk c.g c.x) (l:List Ty) (hl:l.length<=100) (h:2<=c.x.op/\c.x.op<=7):XC 88 [] c (doS c.g c.ar c.m c.x) uV l:=by
 intro u;refine zI zf Tryz.func88 rfl zws Tryz.ntmps88 zwy63 _ rfl (fun gB hw1=>?_);have cv:=zra c hF hgm hx l hl h;have hs:doS c.g c.ar c.m c.x l=(Zb c.g c.ar c.m c.x) l:=by
  unfold doS;first
   | (rw [if_pos zwy64])
 cases hS:(Zb c.g c.ar c.m c.x) l with
 | error e =>
  repeat' (first|refine zo 3 1 rfl rfl rfl ?_|refine zD ((yS u c l)) zi rfl rfl rfl tH (cv.bad hS u) ?_|refine sK ?_|refine sC (fun _=>?_) (fun _=>?_)|fail)
  exact zF (hs.trans hS)
 | ok p =>
  obtain ⟨⟨⟩,l1⟩:=p
  repeat' (first|(refine zu ?_;first|(refine ay 0 (cv.ok hS) ?_))|refine sK ?_|refine sC (fun _=>?_) (fun _=>?_)|fail)
  exact yc (hs.trans hS) (yE (.inl rfl) tH)
theorem zvm (c:RC) (hF:Fm c.g) (hgm:c.g.methods.length<=1000) (hx:XOk c.g c.x) (l:List Ty) (hl:l.length<=100) (h:13<=c.x.op/\c.x.op<=33):XC 88 [] c (doS c.g c.ar c.m c.x) uV l:=by
 intro u;refine zI zf Tryz.func88 rfl zws Tryz.ntmps88 zwy63 _ rfl (fun gB hw1=>?_);have cv:=zq8 c hF hgm hx l hl h;have hs:doS c.g c.ar c.m c.x l=(qF c.g c.m c.x.op) l:=by
  unfold doS;first
   | (rw [if_neg zwy64];rw [if_pos zwy64])
 cases hS:(qF c.g c.m c.x.op) l with
 | error e =>
  repeat' (first|refine zo 5 1 rfl rfl rfl ?_|refine zD ((yS u c l)) zi rfl rfl rfl tH (cv.bad hS u) ?_|refine sK ?_|refine sC (fun _=>?_) (fun _=>?_)|fail)
  exact zF (hs.trans hS)
 | ok p =>
  obtain ⟨⟨⟩,l1⟩:=p
  repeat' (first|(refine zu ?_;first|(refine ay 0 (cv.ok hS) ?_))|refine sK ?_|refine sC (fun _=>?_) (fun _=>?_)|fail)
  exact yc (hs.trans hS) (yE (.inl rfl) tH)
theorem ztZ (c:RC) (hF:Fm c.g) (hgm:c.g.methods.length<=1000) (hx:XOk c.g c.x) (l:List Ty) (hl:l.length<=100) (h:34<=c.x.op/\c.x.op<=42):XC 88 [] c (doS c.g c.ar c.m c.x) uV l:=by
 intro u;refine zI zf Tryz.func88 rfl zws Tryz.ntmps88 zwy63 _ rfl (fun gB hw1=>?_);have cv:=zoA c hF hgm hx l hl h;have hs:doS c.g c.ar c.m c.x l=(ZO c.x.op) l:=by
  unfold doS;first
   | (rw [if_neg zwy64];rw [if_neg zwy64];rw [if_pos zwy64])
 cases hS:(ZO c.x.op) l with
 | error e =>
  repeat' (first|refine zo 7 1 rfl rfl rfl ?_|refine zD ((yS u c l)) zi rfl rfl rfl tH (cv.bad hS u) ?_|refine sK ?_|refine sC (fun _=>?_) (fun _=>?_)|fail)
  exact zF (hs.trans hS)
 | ok p =>
  obtain ⟨⟨⟩,l1⟩:=p
  repeat' (first|(refine zu ?_;first|(refine ay 0 (cv.ok hS) ?_))|refine sK ?_|refine sC (fun _=>?_) (fun _=>?_)|fail)
  exact yc (hs.trans hS) (yE (.inl rfl) tH)
theorem zt1 (c:RC) (hF:Fm c.g) (hgm:c.g.methods.length<=1000) (hx:XOk c.g c.x) (l:List Ty) (hl:l.length<=100) (h:43<=c.x.op/\c.x.op<=45):XC 88 [] c (doS c.g c.ar c.m c.x) uV l:=by
 intro u;refine zI zf Tryz.func88 rfl zws Tryz.ntmps88 zwy63 _ rfl (fun gB hw1=>?_);have cv:=zoS c hF hgm hx l hl h;have hs:doS c.g c.ar c.m c.x l=(qK c.g c.m c.x) l:=by
  unfold doS;first
   | (rw [if_neg zwy64];rw [if_neg zwy64];rw [if_neg zwy64];rw [if_pos zwy64])
 cases hS:(qK c.g c.m c.x) l with
 | error e =>
  repeat' (first|refine zo 9 1 rfl rfl rfl ?_|refine zD ((yS u c l)) zi rfl rfl rfl tH (cv.bad hS u) ?_|refine sK ?_|refine sC (fun _=>?_) (fun _=>?_)|fail)
  exact zF (hs.trans hS)
 | ok p =>
  obtain ⟨⟨⟩,l1⟩:=p
  repeat' (first|(refine zu ?_;first|(refine ay 0 (cv.ok hS) ?_))|refine sK ?_|refine sC (fun _=>?_) (fun _=>?_)|fail)
  exact yc (hs.trans hS) (yE (.inl rfl) tH)
theorem zqH (c:RC) (hF:Fm c.g) (hgm:c.g.methods.length<=1000) (hx:XOk c.g c.x) (l:List Ty) (hl:l.length<=100) (h:48<=c.x.op/\c.x.op<=53):XC 88 [] c (doS c.g c.ar c.m c.x) uV l:=by
 intro u;refine zI zf Tryz.func88 rfl zws Tryz.ntmps88 zwy63 _ rfl (fun gB hw1=>?_);have cv:=zlX c hF hgm hx l hl h;have hs:doS c.g c.ar c.m c.x l=(yG c.g c.m c.x) l:=by
  unfold doS;first
   | (rw [if_neg zwy64];rw [if_neg zwy64];rw [if_neg zwy64];rw [if_neg zwy64];rw [if_pos zwy64])
 cases hS:(yG c.g c.m c.x) l with
 | error e =>
  repeat' (first|refine zo 11 1 rfl rfl rfl ?_|refine zD ((yS u c l)) zi rfl rfl rfl tH (cv.bad hS u) ?_|refine sK ?_|refine sC (fun _=>?_) (fun _=>?_)|fail)
  exact zF (hs.trans hS)
 | ok p =>
  obtain ⟨⟨⟩,l1⟩:=p
  repeat' (first|(refine zu ?_;first|(refine ay 0 (cv.ok hS) ?_))|refine sK ?_|refine sC (fun _=>?_) (fun _=>?_)|fail)
  exact yc (hs.trans hS) (yE (.inl rfl) tH)
theorem zro (c:RC) (hF:Fm c.g) (hgm:c.g.methods.length<=1000) (hx:XOk c.g c.x) (l:List Ty) (hl:l.length<=100) (h:54<=c.x.op/\c.x.op<=56):XC 88 [] c (doS c.g c.ar c.m c.x) uV l:=by
 intro u;refine zI zf Tryz.func88 rfl zws Tryz.ntmps88 zwy63 _ rfl (fun gB hw1=>?_);have cv:=znS c hF hgm hx l hl h;have hs:doS c.g c.ar c.m c.x l=(Zc c.g c.m c.x) l:=by
  unfold doS;first
   | (rw [if_neg zwy64];rw [if_neg zwy64];rw [if_neg zwy64];rw [if_neg zwy64];rw [if_neg zwy64];rw [if_pos zwy64])
 cases hS:(Zc c.g c.m c.x) l with
 | error e =>
  repeat' (first|refine zo 13 1 rfl rfl rfl ?_|refine zD ((yS u c l)) zi rfl rfl rfl tH (cv.bad hS u) ?_|refine sK ?_|refine sC (fun _=>?_) (fun _=>?_)|fail)
  exact zF (hs.trans hS)
 | ok p =>
  obtain ⟨⟨⟩,l1⟩:=p
  repeat' (first|(refine zu ?_;first|(refine ay 0 (cv.ok hS) ?_))|refine sK ?_|refine sC (fun _=>?_) (fun _=>?_)|fail)
  exact yc (hs.trans hS) (yE (.inl rfl) tH)
theorem zqA (c:RC) (hF:Fm c.g) (hgm:c.g.methods.length<=1000) (hx:XOk c.g c.x) (l:List Ty) (hl:l.length<=100) (h:57<=c.x.op/\c.x.op<=61):XC 88 [] c (doS c.g c.ar c.m c.x) uV l:=by
 intro u;refine zI zf Tryz.func88 rfl zws Tryz.ntmps88 zwy63 _ rfl (fun gB hw1=>?_);have cv:=zlU c hF hgm hx l hl h;have hs:doS c.g c.ar c.m c.x l=(yK c.g c.m c.x) l:=by
  unfold doS;first
   | (rw [if_neg zwy64];rw [if_neg zwy64];rw [if_neg zwy64];rw [if_neg zwy64];rw [if_neg zwy64];rw [if_neg zwy64];rw [if_pos zwy64])
 cases hS:(yK c.g c.m c.x) l with
 | error e =>
  repeat' (first|refine zo 15 1 rfl rfl rfl ?_|refine zD ((yS u c l)) zi rfl rfl rfl tH (cv.bad hS u) ?_|refine sK ?_|refine sC (fun _=>?_) (fun _=>?_)|fail)
  exact zF (hs.trans hS)
 | ok p =>
  obtain ⟨⟨⟩,l1⟩:=p
  repeat' (first|(refine zu ?_;first|(refine ay 0 (cv.ok hS) ?_))|refine sK ?_|refine sC (fun _=>?_) (fun _=>?_)|fail)
  exact yc (hs.trans hS) (yE (.inl rfl) tH)
theorem zoG (c:RC) (hF:Fm c.g) (hgm:c.g.methods.length<=1000) (hx:XOk c.g c.x) (l:List Ty) (hl:l.length<=100) (h:62<=c.x.op/\c.x.op<=66):XC 88 [] c (doS c.g c.ar c.m c.x) uV l:=by
 intro u;refine zI zf Tryz.func88 rfl zws Tryz.ntmps88 zwy63 _ rfl (fun gB hw1=>?_);have cv:=zkK c hF hgm hx l hl h;have hs:doS c.g c.ar c.m c.x l=(yD c.g c.m c.x) l:=by
  unfold doS;first
   | (rw [if_neg zwy64];rw [if_neg zwy64];rw [if_neg zwy64];rw [if_neg zwy64];rw [if_neg zwy64];rw [if_neg zwy64];rw [if_neg zwy64];rw [if_pos zwy64])
 cases hS:(yD c.g c.m c.x) l with
 | error e =>
  repeat' (first|refine zo 17 1 rfl rfl rfl ?_|refine zD ((yS u c l)) zi rfl rfl rfl tH (cv.bad hS u) ?_|refine sK ?_|refine sC (fun _=>?_) (fun _=>?_)|fail)
  exact zF (hs.trans hS)
 | ok p =>
  obtain ⟨⟨⟩,l1⟩:=p
  repeat' (first|(refine zu ?_;first|(refine ay 0 (cv.ok hS) ?_))|refine sK ?_|refine sC (fun _=>?_) (fun _=>?_)|fail)
  exact yc (hs.trans hS) (yE (.inl rfl) tH)
theorem znz (c:RC) (hF:Fm c.g) (hgm:c.g.methods.length<=1000) (hx:XOk c.g c.x) (l:List Ty) (hl:l.length<=100) (h:c.x.op=68):XC 88 [] c (doS c.g c.ar c.m c.x) uV l:=by
 intro u;refine zI zf Tryz.func88 rfl zws Tryz.ntmps88 zwy63 _ rfl (fun gB hw1=>?_);have cv:=zjw c hF hgm hx l hl h;have hs:doS c.g c.ar c.m c.x l=(yA c.g c.m c.x) l:=by
  unfold doS;first
   | (rw [if_neg zwy64];rw [if_neg zwy64];rw [if_neg zwy64];rw [if_neg zwy64];rw [if_neg zwy64];rw [if_neg zwy64];rw [if_neg zwy64];rw [if_neg zwy64];rw [if_pos zwy64])
 cases hS:(yA c.g c.m c.x) l with
 | error e =>
  repeat' (first|refine zo 19 1 rfl rfl rfl ?_|refine zD ((yS u c l)) zi rfl rfl rfl tH (cv.bad hS u) ?_|refine sK ?_|refine sC (fun _=>?_) (fun _=>?_)|fail)
  exact zF (hs.trans hS)
 | ok p =>
  obtain ⟨⟨⟩,l1⟩:=p
  repeat' (first|(refine zu ?_;first|(refine ay 0 (cv.ok hS) ?_))|refine sK ?_|refine sC (fun _=>?_) (fun _=>?_)|fail)
  exact yc (hs.trans hS) (yE (.inl rfl) tH)
theorem zuA (c:RC) (hF:Fm c.g) (hgm:c.g.methods.length<=1000) (hx:XOk c.g c.x) (l:List Ty) (hl:l.length<=100) (h:c.x.op=46\/69<=c.x.op/\c.x.op<=73):XC 88 [] c (doS c.g c.ar c.m c.x) uV l:=by
 intro u;refine zI zf Tryz.func88 rfl zws Tryz.ntmps88 zwy63 _ rfl (fun gB hw1=>?_);have cv:=zqR c hF l hl h;rcases h with h|h
 all_goals
  skip;have hs:doS c.g c.ar c.m c.x l=(ZL c.g c.m c.x.op) l:=by
   unfold doS;first
    | (rw [if_neg zwy64];rw [if_neg zwy64];rw [if_neg zwy64];rw [if_neg zwy64];rw [if_neg zwy64];rw [if_neg zwy64];rw [if_neg zwy64];rw [if_neg zwy64];rw [if_neg zwy64];rw [if_pos zwy64])
  cases hS:(ZL c.g c.m c.x.op) l with
  | error e =>
   repeat' (first|refine zo 21 1 rfl rfl rfl ?_|refine zD ((yS u c l)) zi rfl rfl rfl tH (cv.bad hS u) ?_|refine sK ?_|refine sC (fun _=>?_) (fun _=>?_)|fail)
   exact zF (hs.trans hS)
  | ok p =>
   obtain ⟨⟨⟩,l1⟩:=p
   repeat' (first|(refine zu ?_;first|(refine ay 0 (cv.ok hS) ?_))|refine sK ?_|refine sC (fun _=>?_) (fun _=>?_)|fail)
   exact yc (hs.trans hS) (yE (.inl rfl) tH)
theorem zrF (c:RC) (hF:Fm c.g) (hgm:c.g.methods.length<=1000) (hx:XOk c.g c.x) (l:List Ty) (hl:l.length<=100) (h:c.x.op=1\/c.x.op=8\/c.x.op=9\/c.x.op=10\/c.x.op=11\/c.x.op=12\/c.x.op=47\/c.x.op=67\/c.x.op=74\/c.x.op=75):XC 88 [] c (doS c.g c.ar c.m c.x) uV l:=by
 intro u;refine zI zf Tryz.func88 rfl zws Tryz.ntmps88 zwy63 _ rfl (fun gB hw1=>?_);have cv:=znd c hF hgm hx l hl h;have hs:doS c.g c.ar c.m c.x l=yM c.g c.m c.x l:=by
  unfold doS;rcases h with h|h|h|h|h|h|h|h|h|h
  all_goals (rw [if_neg zwy94];rw [if_neg zwy94];rw [if_neg zwy94];rw [if_neg zwy94];rw [if_neg zwy94];rw [if_neg zwy94];rw [if_neg zwy94];rw [if_neg zwy94];rw [if_neg zwy94];rw [if_neg zwy94])
 cases hS:(yM c.g c.m c.x) l with
 | error e =>
  rcases h with h|h|h|h|h|h|h|h|h|h
  all_goals
   repeat' (first|refine zo 1 1 rfl rfl rfl ?_|refine zD ((yS u c l)) zi rfl rfl rfl tH (cv.bad hS u) ?_|refine sK ?_|refine sC (fun _=>?_) (fun _=>?_)|fail)
   exact zF (hs.trans hS)
 | ok p =>
  obtain ⟨⟨⟩,l1⟩:=p;rcases h with h|h|h|h|h|h|h|h|h|h
  all_goals
   repeat' (first|(refine zu ?_;first|(refine ay 0 (cv.ok hS) ?_))|refine sK ?_|refine sC (fun _=>?_) (fun _=>?_)|fail)
   exact yc (hs.trans hS) (yE (.inl rfl) tH)
theorem zuj (c:RC) (hF:Fm c.g) (hgm:c.g.methods.length<=1000) (hx:XOk c.g c.x) (l:List Ty) (hl:l.length<=100):XC 88 [] c (doS c.g c.ar c.m c.x) uV l:=by
 have h1:=hx.lo;have h2:=hx.hi;by_cases h_vars:2<=c.x.op/\c.x.op<=7
 ·exact zuI c hF hgm hx l hl h_vars
 by_cases h_sums:13<=c.x.op/\c.x.op<=33
 ·exact zvm c hF hgm hx l hl h_sums
 by_cases h_jumps:34<=c.x.op/\c.x.op<=42
 ·exact ztZ c hF hgm hx l hl h_jumps
 by_cases h_calls:43<=c.x.op/\c.x.op<=45
 ·exact zt1 c hF hgm hx l hl h_calls
 by_cases h_fields:48<=c.x.op/\c.x.op<=53
 ·exact zqH c hF hgm hx l hl h_fields
 by_cases h_places:54<=c.x.op/\c.x.op<=56
 ·exact zro c hF hgm hx l hl h_places
 by_cases h_arrays:57<=c.x.op/\c.x.op<=61
 ·exact zqA c hF hgm hx l hl h_arrays
 by_cases h_objects:62<=c.x.op/\c.x.op<=66
 ·exact zoG c hF hgm hx l hl h_objects
 by_cases h_delegate:c.x.op=68
 ·exact znz c hF hgm hx l hl h_delegate
 by_cases h_ends:c.x.op=46\/69<=c.x.op/\c.x.op<=73
 ·exact zuA c hF hgm hx l hl h_ends
 exact zrF c hF hgm hx l hl zwy62
def ztf:Except Int (Unit × List Ty)->PV
 | .error e=>.tup [.base (.slice none 0 0),pi e]
 | .ok p=>.tup [tys p.2,pi 0]
theorem zwk52 {G:Prop} (h:G:=by repeat' (first|(have:=b0;refine zo 8 1 rfl rfl rfl ?_)|(have:=b0;refine zb2 (yS u ⟨g,m,Qr g m,x⟩ l) (rbH (.base (.slice none 0 0)) (pi 0) p1 p2) zi rfl rfl rfl zwy67 rfl (cd.bad hS u) ?_)|refine zta 0 1000 rfl rfl (fun u=>?_)|refine zg7 0 rfl (zkq _) ?_|refine ZQ zf 3 rfl rfl rfl rfl rfl rfl rfl ?_|refine zZ 22 20 rfl zws zws zws zws zws ?_|refine zq rfl (Xi zf rfl rfl (.inl rfl) rfl rfl zwy107 zwy64) rfl rfl ?_|refine zq rfl (WT zf rfl rfl rfl rfl rfl) rfl rfl ?_|(refine shC ?_;first|refine qC cA ?_)|(refine shX ?_;first|refine zy rfl (ah hm0 hem) rfl rfl ?_|refine zq rfl (ah hm0 hem) rfl rfl ?_|refine zy rfl (ah h0 hei) rfl rfl ?_|refine zq rfl (ah h0 hei) rfl rfl ?_)|(have:=b1;refine zu ?_;first|(refine ay 0 (cd.ok hS) ?_))|(refine XF ?_;first|refine zax 0 rfl rfl rfl rfl rfl rfl ?_)|refine sK ?_|refine sC (fun _=>?_) (fun _=>?_)|(have:=b0;exact ⟨_,_,_,[8,9],[.box 1 0,.box 2 0],[p1,p2],rbH (.base (.slice none 0 0)) (pi 0) p1 p2,rbH (.base (.slice none 0 0)) (pi e) p1 p2,[.base (.slice none 0 0),pi e],rfl,rfl,tH,⟨⟨2001,rfl⟩,⟨2002,rfl⟩,trivial⟩,⟨⟨2001,rfl⟩,⟨2002,rfl⟩,trivial⟩,zqT p1 p2 e,rfl,rfl,by decide,tS,rfl,rfl⟩)|(have:=b1;exact ⟨_,_,_,[8,9],[.box 1 0,.box 2 0],[p1,p2],rbH (tys l2) (pi 0) p1 p2,rbH (tys l2) (pi 0) p1 p2,[tys l2,pi 0],rfl,rfl,tH,⟨⟨2001,rfl⟩,⟨2002,rfl⟩,trivial⟩,⟨⟨2001,rfl⟩,⟨2002,rfl⟩,trivial⟩,zpd _ _ p1 p2,rfl,rfl,by decide,tS,rfl,rfl⟩)|fail)):G:=h
set_option maxHeartbeats 4000000 in
theorem zrl (g:Img) (hF:Fm g) (hgm:g.methods.length<=1000) (mi at_:Int) (l:List Ty) (hl:l.length<=100) (hm:mOk g mi) (hp:(mAt g mi).params.length<=100) (h0:0<=at_) (h1:at_.toNat < (mAt g mi).code.length) (hx:XOk g (qy (mAt g mi) at_)) :
  ACall Tryz.prog 50 [.ptr (zK g) 0,pi mi,pi at_,tys l] (ztf (stepS g mi at_ l)):=by
 have hem:(g.methods.map zY)[mi.toNat]?=some (zY (mAt g mi)):=by rw [mAt,zQ hm.2];exact zT hm.2
 have hei:((mAt g mi).code.map ql)[at_.toNat]?=some (ql (qy (mAt g mi) at_)):=by rw [qy,zQ h1];exact zT h1
 have hm0:=hm.1;have hmlt:mi < g.methods.length:=by have:=hm.2;omega
 have halt:at_ < (mAt g mi).code.length:=by omega
 have cA:=zca g (mAt g mi) zwy62;have hst:stepS g mi at_ l=doS g (Qr g (mAt g mi)) (mAt g mi) (qy (mAt g mi) at_) l:=rfl;rw [hst];have cd:=zuj ⟨g,mAt g mi,Qr g (mAt g mi),qy (mAt g mi) at_⟩ hF hgm hx l hl;generalize mAt g mi=m at *;generalize qy m at_=x at *;refine zku zf Tryz.func50 rfl zws Tryz.ntmps50 zwy63 _ rfl (fun hw=>?_);refine zbL (zbD fun gB=>?_)
 repeat' (first|refine ZQ zf 1 rfl rfl rfl rfl rfl rfl rfl ?_|refine ZQ zf 2 rfl rfl rfl rfl rfl rfl rfl ?_|refine sK ?_|refine sC (fun _=>?_) (fun _=>?_)|fail)
 refine zbL (zbD fun gB=>?_)
 repeat' (first|refine zy rfl (VH (b:=false) rfl Tryz.underlying50 rfl rfl) rfl rfl ?_|refine zq rfl (VH (b:=false) rfl Tryz.underlying50 rfl rfl) rfl rfl ?_|refine sK ?_|refine sC (fun _=>?_) (fun _=>?_)|fail)
 refine zbL (zbD fun gB=>?_)
 repeat' (first|(refine shX ?_;first|refine zy rfl (ah hm0 hem) rfl rfl ?_|refine zq rfl (ah hm0 hem) rfl rfl ?_)|refine sK ?_|refine sC (fun _=>?_) (fun _=>?_)|fail)
 refine zhN 1 2001 rfl rfl fun p1=>zhN 2 2002 rfl rfl fun p2=>?_
 refine zbL (zgw (k:=1) rfl rfl rfl rfl rfl fun gB=>?_)
 repeat' (first|refine sK ?_|refine sC (fun _=>?_) (fun _=>?_)|fail)
 refine ⟨_,_,[p1,p2],rfl,⟨⟨2001,rfl⟩,⟨2002,rfl⟩,trivial⟩,?_⟩;refine zbD fun gB=>?_
 cases hS:doS g (Qr g m) m x l with
 | error e =>
  have b0:=();exact zwk52
 | ok p =>
  obtain ⟨⟨⟩,l2⟩:=p;have b1:=();exact zwk52
end Go.Cg
