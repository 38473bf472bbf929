/- A part of the walks by abstract values: no statement of its own. -/
import Derived.Test.YtemhfmmhkimhmaaGreatI31
import Derived.Test.YtemhfmmhkimhmaaGreatI34
import Derived.Test.YtemhfmmhkimhmaaGreatI36
import Derived.Test.YtemhfmmhkimhmaaGreatI32
import Derived.Test.YtemhfmmhkimhmaaGreatI35
import Derived.Test.YtemhfmmhkimhmaaGreatI30
import Derived.Test.YtemhfmmhkimhmaaGreatI33
set_option linter.unusedVariables false
set_option linter.unusedSimpArgs false
namespace Go.Cg
open Go.Proofs
set_option maxHeartbeats 20000000
structure XOk (g:Img) (x:Ins):Prop where
 lo:1<=x.op
 hi:x.op<=75
 v:2<=x.op->x.op<=7->0<=x.arg
 m:(x.op=43\/x.op=44\/x.op=45\/x.op=67)->0<=x.arg/\x.arg.toNat < g.methods.length/\(mAt g x.arg).params.length<=100/\0<=(mAt g x.arg).owner/\(mAt g x.arg).owner.toNat < g.types.length
 f:48<=x.op->x.op<=53->0<=x.arg/\x.arg.toNat < g.fields.length
 a:57<=x.op->x.op<=61->0<=x.t.dims/\x.t.dims<=100
 p:∀ i:Int,0<=i->i.toNat < g.methods.length->(mAt g i).params.length<=100
 d:x.op=68->x.t.kind=5->x.t.dims=0->Ye g x.t.index=3->methodsOf g x.t.index≠[]
def zqi {α:Type} (act:SM α):Prop:=∀ l p,act l=.ok p->p.2=[]
theorem zaI {α β:Type} {x:SM α} {f:α->SM β} (h:∀ a,zqi (f a)):zqi (x >>= f):=fun l p hp=>by
 rw [zB] at hp;split at hp
 ·cases hp
 ·exact h _ _ _ hp
theorem zcK:zqi zcH:=fun l p h=>by cases h;rfl
theorem zpZ (g:Img) (m:Me) (op:Int):zqi (ZP g m op):=by
 unfold ZP;split
 ·exact zaI fun _=>zaI fun _=>zcK
 ·split
  ·exact zaI fun _=>zaI fun _=>zcK
  ·split
   ·exact zaI fun _=>zaI fun _=>zcK
   ·exact zcK
theorem zd2 {g:Img} {m:Me} {op:Int} {l:List Ty} {p:Unit × List Ty} (h:ZP g m op l=.ok p):p.2=[]:=zpZ g m op l p h
theorem zsg (c:RC) (hF:Fm c.g) (hgm:c.g.methods.length<=1000) (hx:XOk c.g c.x) (l:List Ty) (hl:l.length<=100) (h:2<=c.x.op/\c.x.op<=7):XC 124 [] c (Zb c.g c.ar c.m c.x) uV l:=by
 obtain ⟨g,m,ar,op,arg,t0⟩:=c;have h:op=2\/op=3\/op=4\/op=5\/op=6\/op=7:=by simp only at h;omega
 rcases h with rfl|rfl|rfl|rfl|rfl|rfl
 ·exact zxf g hF m ar arg t0 l hl (hx.v zwy63 zwy63)
 ·exact zw7 g hF m ar arg t0 l hl (hx.v zwy63 zwy63)
 ·exact zw0 g hF m ar arg t0 l hl (hx.v zwy63 zwy63)
 ·exact zw2 g hF m ar arg t0 l hl (hx.v zwy63 zwy63)
 ·exact zw9 g hF m ar arg t0 l hl (hx.v zwy63 zwy63)
 ·exact zwQ g hF m ar arg t0 l hl (hx.v zwy63 zwy63)
theorem zsm (c:RC) (hF:Fm c.g) (hgm:c.g.methods.length<=1000) (hx:XOk c.g c.x) (l:List Ty) (hl:l.length<=100) (h:13<=c.x.op/\c.x.op<=33):XC 125 [] c (qG c.g c.m c.x.op) uV l:=by
 obtain ⟨g,m,ar,op,arg,t0⟩:=c;have h:(op=13\/op=14\/op=15\/op=16\/op=17\/op=18\/op=19\/op=20\/op=25\/op=26\/op=27)\/(op=21\/op=22)\/(op=23\/op=24)\/(op=28\/op=30)\/op=29\/op=31\/(op=32\/op=33):=by simp only at h;omega
 rcases h with h|h|h|h|rfl|rfl|h
 ·exact zvR g hF m ar arg t0 l hl op h
 ·exact zvH g hF m ar arg t0 l hl op h
 ·exact zvK g hF m ar arg t0 l hl op h
 ·exact zvo g hF m ar arg t0 l hl op h
 ·exact zu3 g hF m ar arg t0 l hl
 ·exact zve g hF m ar arg t0 l hl
 ·exact zvt g hF m ar arg t0 l hl op h
theorem zpG (c:RC) (hF:Fm c.g) (hgm:c.g.methods.length<=1000) (hx:XOk c.g c.x) (l:List Ty) (hl:l.length<=100) (h:34<=c.x.op/\c.x.op<=42):XC 126 [] c (ZR c.x.op) uV l:=by
 obtain ⟨g,m,ar,op,arg,t0⟩:=c;have h:(op=35\/op=36)\/(op=37\/op=42)\/(op=38\/op=39\/op=40\/op=41)\/op=34:=by simp only at h;omega
 rcases h with h|h|h|rfl
 ·exact ztM g hF m ar arg t0 l hl op h
 ·exact ztE g hF m ar arg t0 l hl op h
 ·exact ztV g hF m ar arg t0 l hl op h
 ·exact zur g hF m ar arg t0 l hl
theorem zo7 (c:RC) (hF:Fm c.g) (hgm:c.g.methods.length<=1000) (hx:XOk c.g c.x) (l:List Ty) (hl:l.length<=100) (h:43<=c.x.op/\c.x.op<=45):XC 127 [] c (qJ c.g c.m c.x) uV l:=by
 obtain ⟨g,m,ar,op,arg,t0⟩:=c;have h:op=43\/op=44\/op=45:=by simp only at h;omega
 rcases h with rfl|rfl|rfl
 ·exact zua g hF m ar arg t0 l hl (hx.m zwy63).1 (hx.m zwy63).2.1 (hx.m zwy63).2.2.1 (hx.m zwy63).2.2.2.1 (hx.m zwy63).2.2.2.2
 ·exact zt4 g hF m ar arg t0 l hl (hx.m zwy63).1 (hx.m zwy63).2.1 (hx.m zwy63).2.2.1 (hx.m zwy63).2.2.2.1 (hx.m zwy63).2.2.2.2
 ·exact ztO g hF m ar arg t0 l hl (hx.m zwy63).1 (hx.m zwy63).2.1 (hx.m zwy63).2.2.1 (hx.m zwy63).2.2.2.1 (hx.m zwy63).2.2.2.2
theorem znl (c:RC) (hF:Fm c.g) (hgm:c.g.methods.length<=1000) (hx:XOk c.g c.x) (l:List Ty) (hl:l.length<=100) (h:48<=c.x.op/\c.x.op<=53):XC 128 [] c (yG c.g c.m c.x) uV l:=by
 obtain ⟨g,m,ar,op,arg,t0⟩:=c;have h:op=48\/op=49\/op=50\/op=51\/op=52\/op=53:=by simp only at h;omega
 rcases h with rfl|rfl|rfl|rfl|rfl|rfl
 ·exact zsu g hF m ar arg t0 l hl (hx.f zwy63 zwy63).1 (hx.f zwy63 zwy63).2
 ·exact zr4 g hF m ar arg t0 l hl (hx.f zwy63 zwy63).1 (hx.f zwy63 zwy63).2
 ·exact zra g hF m ar arg t0 l hl (hx.f zwy63 zwy63).1 (hx.f zwy63 zwy63).2
 ·exact zq8 g hF m ar arg t0 l hl (hx.f zwy63 zwy63).1 (hx.f zwy63 zwy63).2
 ·exact zrR g hF m ar arg t0 l hl (hx.f zwy63 zwy63).1 (hx.f zwy63 zwy63).2
 ·exact zr0 g hF m ar arg t0 l hl (hx.f zwy63 zwy63).1 (hx.f zwy63 zwy63).2
theorem znv (c:RC) (hF:Fm c.g) (hgm:c.g.methods.length<=1000) (hx:XOk c.g c.x) (l:List Ty) (hl:l.length<=100) (h:57<=c.x.op/\c.x.op<=61):XC 130 [] c (yJ c.g c.m c.x) uV l:=by
 obtain ⟨g,m,ar,op,arg,t0⟩:=c;have h:op=57\/op=58\/op=59\/op=60\/op=61:=by simp only at h;omega
 rcases h with rfl|rfl|rfl|rfl|rfl
 ·exact zsr g hF m ar arg t0 l hl (hx.a zwy63 zwy63).1 (hx.a zwy63 zwy63).2
 ·exact zsc g hF m ar arg t0 l hl
 ·exact zsi g hF m ar arg t0 l hl (hx.a zwy63 zwy63).1 (hx.a zwy63 zwy63).2
 ·exact zr9 g hF m ar arg t0 l hl (hx.a zwy63 zwy63).1 (hx.a zwy63 zwy63).2
 ·exact zso g hF m ar arg t0 l hl (hx.a zwy63 zwy63).1 (hx.a zwy63 zwy63).2
theorem zl6 (c:RC) (hF:Fm c.g) (hgm:c.g.methods.length<=1000) (hx:XOk c.g c.x) (l:List Ty) (hl:l.length<=100) (h:62<=c.x.op/\c.x.op<=66):XC 131 [] c (yC c.g c.m c.x) uV l:=by
 obtain ⟨g,m,ar,op,arg,t0⟩:=c;have h:op=62\/op=63\/op=64\/(op=65\/op=66):=by simp only at h;omega
 rcases h with rfl|rfl|rfl|h
 ·exact zpS g hF m ar arg t0 l hl
 ·exact zpM g hF m ar arg t0 l hl
 ·exact zpO g hF m ar arg t0 l hl
 ·exact zpk g hF m ar arg t0 l hl op h
theorem zjE (c:RC) (hF:Fm c.g) (hgm:c.g.methods.length<=1000) (hx:XOk c.g c.x) (l:List Ty) (hl:l.length<=100) (h:c.x.op=68):XC 132 [] c (yx c.g c.m c.x) uV l:=by
 obtain ⟨g,m,ar,op,arg,t0⟩:=c;have h:op=68:=by simp only at h;omega
 subst h
 ·exact zmL g hF m ar arg t0 l hl hgm hx.p (hx.d rfl)
theorem zno (c:RC) (hF:Fm c.g) (hgm:c.g.methods.length<=1000) (hx:XOk c.g c.x) (l:List Ty) (hl:l.length<=100) (h:c.x.op=1\/c.x.op=8\/c.x.op=9\/c.x.op=10\/c.x.op=11\/c.x.op=12\/c.x.op=47\/c.x.op=67\/c.x.op=74\/c.x.op=75):XC 134 [] c (yN c.g c.m c.x) uV l:=by
 obtain ⟨g,m,ar,op,arg,t0⟩:=c;have h:op=8\/(op=9\/op=74)\/op=10\/op=11\/op=12\/op=75\/(op=1\/op=47)\/op=67:=by simp only at h;omega
 rcases h with rfl|h|rfl|rfl|rfl|rfl|h|rfl
 ·exact zt1 g hF m ar arg t0 l hl
 ·exact zuv g hF m ar arg t0 l hl op h
 ·exact zq2 g hF m ar arg t0 l hl
 ·exact zsd g hF m ar arg t0 l hl
 ·exact zr2 g hF m ar arg t0 l hl
 ·exact zst g hF m ar arg t0 l hl
 ·exact zs5 g hF m ar arg t0 l hl op h
 ·exact zsw g hF m ar arg t0 l hl (hx.m zwy63).1 (hx.m zwy63).2.1
theorem zrD (c:RC) (hF:Fm c.g) (l:List Ty) (hl:l.length<=100) (h:c.x.op=46\/69<=c.x.op/\c.x.op<=73):XC 133 [] c (ZP c.g c.m c.x.op) uV l:=by
 obtain ⟨g,m,ar,op,arg,t0⟩:=c;have h:op=46\/op=69\/op=73\/(op=70\/op=71\/op=72):=by simp only at h;omega
 rcases h with rfl|rfl|rfl|h
 ·exact zhO (fun _ h=>zd2 h) (zvn g hF m ar arg t0 l hl)
 ·exact zhO (fun _ h=>zd2 h) (zvY g hF m ar arg t0 l hl)
 ·exact zhO (fun _ h=>zd2 h) (zvV g hF m ar arg t0 l hl)
 ·exact zhO (fun _ h=>zd2 h) (zwd g hF m ar arg t0 l hl op h)
theorem znE (c:RC) (hF:Fm c.g) (hgm:c.g.methods.length<=1000) (hx:XOk c.g c.x) (l:List Ty) (hl:l.length<=100) (h:54<=c.x.op/\c.x.op<=56):XC 129 [] c (Ze c.g c.m c.x) uV l:=by
 obtain ⟨g,m,ar,op,arg,t0⟩:=c;have h:op=54\/op=55\/op=56:=by simp only at h;omega
 rcases h with rfl|rfl|rfl
 ·exact zsf g hF m ar arg t0 l hl
 ·exact zq4 g hF m ar arg t0 l hl
 ·exact zq9 g hF m ar arg t0 l hl
theorem zvp (c:RC) (hF:Fm c.g) (hgm:c.g.methods.length<=1000) (hx:XOk c.g c.x) (l:List Ty) (hl:l.length<=100) (h:2<=c.x.op/\c.x.op<=7):XC 88 [] c (doS c.g c.ar c.m c.x) uV l:=by
 intro u;refine zI zf Tryz.func88 rfl zws Tryz.ntmps88 zwy63 _ rfl (fun gB hw1=>?_);have cv:=zsg c hF hgm hx l hl h;have hs:doS c.g c.ar c.m c.x l=(Zb c.g c.ar c.m c.x) l:=by
  unfold doS;first
   | (rw [if_pos zwy64])
 cases hS:(Zb c.g c.ar c.m c.x) l with
 | error e =>
  repeat' (first|refine zo 3 1 rfl rfl rfl ?_|refine zF ((yS u c l)) zi rfl rfl rfl tH (cv.bad hS u) ?_|refine sK ?_|refine sC (fun _=>?_) (fun _=>?_)|fail)
  exact zD (hs.trans hS)
 | ok p =>
  obtain ⟨⟨⟩,l1⟩:=p
  repeat' (first|(refine zu ?_;first|(refine ay 0 (cv.ok hS) ?_))|refine sK ?_|refine sC (fun _=>?_) (fun _=>?_)|fail)
  exact yc (hs.trans hS) (yD (.inl rfl) tH)
theorem zv6 (c:RC) (hF:Fm c.g) (hgm:c.g.methods.length<=1000) (hx:XOk c.g c.x) (l:List Ty) (hl:l.length<=100) (h:13<=c.x.op/\c.x.op<=33):XC 88 [] c (doS c.g c.ar c.m c.x) uV l:=by
 intro u;refine zI zf Tryz.func88 rfl zws Tryz.ntmps88 zwy63 _ rfl (fun gB hw1=>?_);have cv:=zsm c hF hgm hx l hl h;have hs:doS c.g c.ar c.m c.x l=(qG c.g c.m c.x.op) l:=by
  unfold doS;first
   | (rw [if_neg zwy64];rw [if_pos zwy64])
 cases hS:(qG c.g c.m c.x.op) l with
 | error e =>
  repeat' (first|refine zo 5 1 rfl rfl rfl ?_|refine zF ((yS u c l)) zi rfl rfl rfl tH (cv.bad hS u) ?_|refine sK ?_|refine sC (fun _=>?_) (fun _=>?_)|fail)
  exact zD (hs.trans hS)
 | ok p =>
  obtain ⟨⟨⟩,l1⟩:=p
  repeat' (first|(refine zu ?_;first|(refine ay 0 (cv.ok hS) ?_))|refine sK ?_|refine sC (fun _=>?_) (fun _=>?_)|fail)
  exact yc (hs.trans hS) (yD (.inl rfl) tH)
theorem zul (c:RC) (hF:Fm c.g) (hgm:c.g.methods.length<=1000) (hx:XOk c.g c.x) (l:List Ty) (hl:l.length<=100) (h:34<=c.x.op/\c.x.op<=42):XC 88 [] c (doS c.g c.ar c.m c.x) uV l:=by
 intro u;refine zI zf Tryz.func88 rfl zws Tryz.ntmps88 zwy63 _ rfl (fun gB hw1=>?_);have cv:=zpG c hF hgm hx l hl h;have hs:doS c.g c.ar c.m c.x l=(ZR c.x.op) l:=by
  unfold doS;first
   | (rw [if_neg zwy64];rw [if_neg zwy64];rw [if_pos zwy64])
 cases hS:(ZR c.x.op) l with
 | error e =>
  repeat' (first|refine zo 7 1 rfl rfl rfl ?_|refine zF ((yS u c l)) zi rfl rfl rfl tH (cv.bad hS u) ?_|refine sK ?_|refine sC (fun _=>?_) (fun _=>?_)|fail)
  exact zD (hs.trans hS)
 | ok p =>
  obtain ⟨⟨⟩,l1⟩:=p
  repeat' (first|(refine zu ?_;first|(refine ay 0 (cv.ok hS) ?_))|refine sK ?_|refine sC (fun _=>?_) (fun _=>?_)|fail)
  exact yc (hs.trans hS) (yD (.inl rfl) tH)
theorem zuG (c:RC) (hF:Fm c.g) (hgm:c.g.methods.length<=1000) (hx:XOk c.g c.x) (l:List Ty) (hl:l.length<=100) (h:43<=c.x.op/\c.x.op<=45):XC 88 [] c (doS c.g c.ar c.m c.x) uV l:=by
 intro u;refine zI zf Tryz.func88 rfl zws Tryz.ntmps88 zwy63 _ rfl (fun gB hw1=>?_);have cv:=zo7 c hF hgm hx l hl h;have hs:doS c.g c.ar c.m c.x l=(qJ c.g c.m c.x) l:=by
  unfold doS;first
   | (rw [if_neg zwy64];rw [if_neg zwy64];rw [if_neg zwy64];rw [if_pos zwy64])
 cases hS:(qJ c.g c.m c.x) l with
 | error e =>
  repeat' (first|refine zo 9 1 rfl rfl rfl ?_|refine zF ((yS u c l)) zi rfl rfl rfl tH (cv.bad hS u) ?_|refine sK ?_|refine sC (fun _=>?_) (fun _=>?_)|fail)
  exact zD (hs.trans hS)
 | ok p =>
  obtain ⟨⟨⟩,l1⟩:=p
  repeat' (first|(refine zu ?_;first|(refine ay 0 (cv.ok hS) ?_))|refine sK ?_|refine sC (fun _=>?_) (fun _=>?_)|fail)
  exact yc (hs.trans hS) (yD (.inl rfl) tH)
theorem zrX (c:RC) (hF:Fm c.g) (hgm:c.g.methods.length<=1000) (hx:XOk c.g c.x) (l:List Ty) (hl:l.length<=100) (h:48<=c.x.op/\c.x.op<=53):XC 88 [] c (doS c.g c.ar c.m c.x) uV l:=by
 intro u;refine zI zf Tryz.func88 rfl zws Tryz.ntmps88 zwy63 _ rfl (fun gB hw1=>?_);have cv:=znl c hF hgm hx l hl h;have hs:doS c.g c.ar c.m c.x l=(yG c.g c.m c.x) l:=by
  unfold doS;first
   | (rw [if_neg zwy64];rw [if_neg zwy64];rw [if_neg zwy64];rw [if_neg zwy64];rw [if_pos zwy64])
 cases hS:(yG c.g c.m c.x) l with
 | error e =>
  repeat' (first|refine zo 11 1 rfl rfl rfl ?_|refine zF ((yS u c l)) zi rfl rfl rfl tH (cv.bad hS u) ?_|refine sK ?_|refine sC (fun _=>?_) (fun _=>?_)|fail)
  exact zD (hs.trans hS)
 | ok p =>
  obtain ⟨⟨⟩,l1⟩:=p
  repeat' (first|(refine zu ?_;first|(refine ay 0 (cv.ok hS) ?_))|refine sK ?_|refine sC (fun _=>?_) (fun _=>?_)|fail)
  exact yc (hs.trans hS) (yD (.inl rfl) tH)
theorem zrZ (c:RC) (hF:Fm c.g) (hgm:c.g.methods.length<=1000) (hx:XOk c.g c.x) (l:List Ty) (hl:l.length<=100) (h:54<=c.x.op/\c.x.op<=56):XC 88 [] c (doS c.g c.ar c.m c.x) uV l:=by
 intro u;refine zI zf Tryz.func88 rfl zws Tryz.ntmps88 zwy63 _ rfl (fun gB hw1=>?_);have cv:=znE c hF hgm hx l hl h;have hs:doS c.g c.ar c.m c.x l=(Ze c.g c.m c.x) l:=by
  unfold doS;first
   | (rw [if_neg zwy64];rw [if_neg zwy64];rw [if_neg zwy64];rw [if_neg zwy64];rw [if_neg zwy64];rw [if_pos zwy64])
 cases hS:(Ze c.g c.m c.x) l with
 | error e =>
  repeat' (first|refine zo 13 1 rfl rfl rfl ?_|refine zF ((yS u c l)) zi rfl rfl rfl tH (cv.bad hS u) ?_|refine sK ?_|refine sC (fun _=>?_) (fun _=>?_)|fail)
  exact zD (hs.trans hS)
 | ok p =>
  obtain ⟨⟨⟩,l1⟩:=p
  repeat' (first|(refine zu ?_;first|(refine ay 0 (cv.ok hS) ?_))|refine sK ?_|refine sC (fun _=>?_) (fun _=>?_)|fail)
  exact yc (hs.trans hS) (yD (.inl rfl) tH)
theorem zrW (c:RC) (hF:Fm c.g) (hgm:c.g.methods.length<=1000) (hx:XOk c.g c.x) (l:List Ty) (hl:l.length<=100) (h:57<=c.x.op/\c.x.op<=61):XC 88 [] c (doS c.g c.ar c.m c.x) uV l:=by
 intro u;refine zI zf Tryz.func88 rfl zws Tryz.ntmps88 zwy63 _ rfl (fun gB hw1=>?_);have cv:=znv c hF hgm hx l hl h;have hs:doS c.g c.ar c.m c.x l=(yJ c.g c.m c.x) l:=by
  unfold doS;first
   | (rw [if_neg zwy64];rw [if_neg zwy64];rw [if_neg zwy64];rw [if_neg zwy64];rw [if_neg zwy64];rw [if_neg zwy64];rw [if_pos zwy64])
 cases hS:(yJ c.g c.m c.x) l with
 | error e =>
  repeat' (first|refine zo 15 1 rfl rfl rfl ?_|refine zF ((yS u c l)) zi rfl rfl rfl tH (cv.bad hS u) ?_|refine sK ?_|refine sC (fun _=>?_) (fun _=>?_)|fail)
  exact zD (hs.trans hS)
 | ok p =>
  obtain ⟨⟨⟩,l1⟩:=p
  repeat' (first|(refine zu ?_;first|(refine ay 0 (cv.ok hS) ?_))|refine sK ?_|refine sC (fun _=>?_) (fun _=>?_)|fail)
  exact yc (hs.trans hS) (yD (.inl rfl) tH)
theorem zpP (c:RC) (hF:Fm c.g) (hgm:c.g.methods.length<=1000) (hx:XOk c.g c.x) (l:List Ty) (hl:l.length<=100) (h:62<=c.x.op/\c.x.op<=66):XC 88 [] c (doS c.g c.ar c.m c.x) uV l:=by
 intro u;refine zI zf Tryz.func88 rfl zws Tryz.ntmps88 zwy63 _ rfl (fun gB hw1=>?_);have cv:=zl6 c hF hgm hx l hl h;have hs:doS c.g c.ar c.m c.x l=(yC c.g c.m c.x) l:=by
  unfold doS;first
   | (rw [if_neg zwy64];rw [if_neg zwy64];rw [if_neg zwy64];rw [if_neg zwy64];rw [if_neg zwy64];rw [if_neg zwy64];rw [if_neg zwy64];rw [if_pos zwy64])
 cases hS:(yC c.g c.m c.x) l with
 | error e =>
  repeat' (first|refine zo 17 1 rfl rfl rfl ?_|refine zF ((yS u c l)) zi rfl rfl rfl tH (cv.bad hS u) ?_|refine sK ?_|refine sC (fun _=>?_) (fun _=>?_)|fail)
  exact zD (hs.trans hS)
 | ok p =>
  obtain ⟨⟨⟩,l1⟩:=p
  repeat' (first|(refine zu ?_;first|(refine ay 0 (cv.ok hS) ?_))|refine sK ?_|refine sC (fun _=>?_) (fun _=>?_)|fail)
  exact yc (hs.trans hS) (yD (.inl rfl) tH)
theorem zn2 (c:RC) (hF:Fm c.g) (hgm:c.g.methods.length<=1000) (hx:XOk c.g c.x) (l:List Ty) (hl:l.length<=100) (h:c.x.op=68):XC 88 [] c (doS c.g c.ar c.m c.x) uV l:=by
 intro u;refine zI zf Tryz.func88 rfl zws Tryz.ntmps88 zwy63 _ rfl (fun gB hw1=>?_);have cv:=zjE c hF hgm hx l hl h;have hs:doS c.g c.ar c.m c.x l=(yx c.g c.m c.x) l:=by
  unfold doS;first
   | (rw [if_neg zwy64];rw [if_neg zwy64];rw [if_neg zwy64];rw [if_neg zwy64];rw [if_neg zwy64];rw [if_neg zwy64];rw [if_neg zwy64];rw [if_neg zwy64];rw [if_pos zwy64])
 cases hS:(yx c.g c.m c.x) l with
 | error e =>
  repeat' (first|refine zo 19 1 rfl rfl rfl ?_|refine zF ((yS u c l)) zi rfl rfl rfl tH (cv.bad hS u) ?_|refine sK ?_|refine sC (fun _=>?_) (fun _=>?_)|fail)
  exact zD (hs.trans hS)
 | ok p =>
  obtain ⟨⟨⟩,l1⟩:=p
  repeat' (first|(refine zu ?_;first|(refine ay 0 (cv.ok hS) ?_))|refine sK ?_|refine sC (fun _=>?_) (fun _=>?_)|fail)
  exact yc (hs.trans hS) (yD (.inl rfl) tH)
theorem zvx (c:RC) (hF:Fm c.g) (hgm:c.g.methods.length<=1000) (hx:XOk c.g c.x) (l:List Ty) (hl:l.length<=100) (h:c.x.op=46\/69<=c.x.op/\c.x.op<=73):XC 88 [] c (doS c.g c.ar c.m c.x) uV l:=by
 intro u;refine zI zf Tryz.func88 rfl zws Tryz.ntmps88 zwy63 _ rfl (fun gB hw1=>?_);have cv:=zrD c hF l hl h;rcases h with h|h
 all_goals
  skip;have hs:doS c.g c.ar c.m c.x l=(ZP c.g c.m c.x.op) l:=by
   unfold doS;first
    | (rw [if_neg zwy64];rw [if_neg zwy64];rw [if_neg zwy64];rw [if_neg zwy64];rw [if_neg zwy64];rw [if_neg zwy64];rw [if_neg zwy64];rw [if_neg zwy64];rw [if_neg zwy64];rw [if_pos zwy64])
  cases hS:(ZP c.g c.m c.x.op) l with
  | error e =>
   repeat' (first|refine zo 21 1 rfl rfl rfl ?_|refine zF ((yS u c l)) zi rfl rfl rfl tH (cv.bad hS u) ?_|refine sK ?_|refine sC (fun _=>?_) (fun _=>?_)|fail)
   exact zD (hs.trans hS)
  | ok p =>
   obtain ⟨⟨⟩,l1⟩:=p
   repeat' (first|(refine zu ?_;first|(refine ay 0 (cv.ok hS) ?_))|refine sK ?_|refine sC (fun _=>?_) (fun _=>?_)|fail)
   exact yc (hs.trans hS) (yD (.inl rfl) tH)
theorem zss (c:RC) (hF:Fm c.g) (hgm:c.g.methods.length<=1000) (hx:XOk c.g c.x) (l:List Ty) (hl:l.length<=100) (h:c.x.op=1\/c.x.op=8\/c.x.op=9\/c.x.op=10\/c.x.op=11\/c.x.op=12\/c.x.op=47\/c.x.op=67\/c.x.op=74\/c.x.op=75):XC 88 [] c (doS c.g c.ar c.m c.x) uV l:=by
 intro u;refine zI zf Tryz.func88 rfl zws Tryz.ntmps88 zwy63 _ rfl (fun gB hw1=>?_);have cv:=zno c hF hgm hx l hl h;have hs:doS c.g c.ar c.m c.x l=yN c.g c.m c.x l:=by
  unfold doS;rcases h with h|h|h|h|h|h|h|h|h|h
  all_goals (rw [if_neg zwy94];rw [if_neg zwy94];rw [if_neg zwy94];rw [if_neg zwy94];rw [if_neg zwy94];rw [if_neg zwy94];rw [if_neg zwy94];rw [if_neg zwy94];rw [if_neg zwy94];rw [if_neg zwy94])
 cases hS:(yN c.g c.m c.x) l with
 | error e =>
  rcases h with h|h|h|h|h|h|h|h|h|h
  all_goals
   repeat' (first|refine zo 1 1 rfl rfl rfl ?_|refine zF ((yS u c l)) zi rfl rfl rfl tH (cv.bad hS u) ?_|refine sK ?_|refine sC (fun _=>?_) (fun _=>?_)|fail)
   exact zD (hs.trans hS)
 | ok p =>
  obtain ⟨⟨⟩,l1⟩:=p;rcases h with h|h|h|h|h|h|h|h|h|h
  all_goals
   repeat' (first|(refine zu ?_;first|(refine ay 0 (cv.ok hS) ?_))|refine sK ?_|refine sC (fun _=>?_) (fun _=>?_)|fail)
   exact yc (hs.trans hS) (yD (.inl rfl) tH)
theorem zu1 (c:RC) (hF:Fm c.g) (hgm:c.g.methods.length<=1000) (hx:XOk c.g c.x) (l:List Ty) (hl:l.length<=100):XC 88 [] c (doS c.g c.ar c.m c.x) uV l:=by
 have h1:=hx.lo;have h2:=hx.hi;by_cases h_vars:2<=c.x.op/\c.x.op<=7
 ·exact zvp c hF hgm hx l hl h_vars
 by_cases h_sums:13<=c.x.op/\c.x.op<=33
 ·exact zv6 c hF hgm hx l hl h_sums
 by_cases h_jumps:34<=c.x.op/\c.x.op<=42
 ·exact zul c hF hgm hx l hl h_jumps
 by_cases h_calls:43<=c.x.op/\c.x.op<=45
 ·exact zuG c hF hgm hx l hl h_calls
 by_cases h_fields:48<=c.x.op/\c.x.op<=53
 ·exact zrX c hF hgm hx l hl h_fields
 by_cases h_places:54<=c.x.op/\c.x.op<=56
 ·exact zrZ c hF hgm hx l hl h_places
 by_cases h_arrays:57<=c.x.op/\c.x.op<=61
 ·exact zrW c hF hgm hx l hl h_arrays
 by_cases h_objects:62<=c.x.op/\c.x.op<=66
 ·exact zpP c hF hgm hx l hl h_objects
 by_cases h_delegate:c.x.op=68
 ·exact zn2 c hF hgm hx l hl h_delegate
 by_cases h_ends:c.x.op=46\/69<=c.x.op/\c.x.op<=73
 ·exact zvx c hF hgm hx l hl h_ends
 exact zss c hF hgm hx l hl zwy62
def zuF:Except Int (Unit × List Ty)->PV
 | .error e=>.tup [.base (.slice none 0 0),pi e]
 | .ok p=>.tup [tys p.2,pi 0]
theorem zwk53 {G:Prop} (h:G:=by repeat' (first|(have:=b0;refine zo 8 1 rfl rfl rfl ?_)|(have:=b0;refine zbY (yS u ⟨g,m,Qs g m,x⟩ l) (rbH (.base (.slice none 0 0)) (pi 0) p1 p2) zi rfl rfl rfl zwy67 rfl (cd.bad hS u) ?_)|refine zs7 0 1000 rfl rfl (fun u=>?_)|refine zgR 0 rfl (zj6 _) ?_|refine ZU zf 3 rfl rfl rfl rfl rfl rfl rfl ?_|refine zZ 22 20 rfl zws zws zws zws zws ?_|refine zq rfl (Qq zf rfl rfl (.inl rfl) rfl rfl zwy106 zwy64) rfl rfl ?_|refine zq rfl (WI zf rfl rfl rfl rfl rfl) rfl rfl ?_|(refine shC ?_;first|refine qC cA ?_)|(refine shX ?_;first|refine zy rfl (ah hm0 hem) rfl rfl ?_|refine zq rfl (ah hm0 hem) rfl rfl ?_|refine zy rfl (ah h0 hei) rfl rfl ?_|refine zq rfl (ah h0 hei) rfl rfl ?_)|(have:=b1;refine zu ?_;first|(refine ay 0 (cd.ok hS) ?_))|(refine Xy ?_;first|refine zau 0 rfl rfl rfl rfl rfl rfl ?_)|refine sK ?_|refine sC (fun _=>?_) (fun _=>?_)|(have:=b0;exact ⟨_,_,_,[8,9],[.box 1 0,.box 2 0],[p1,p2],rbH (.base (.slice none 0 0)) (pi 0) p1 p2,rbH (.base (.slice none 0 0)) (pi e) p1 p2,[.base (.slice none 0 0),pi e],rfl,rfl,tH,⟨⟨2001,rfl⟩,⟨2002,rfl⟩,trivial⟩,⟨⟨2001,rfl⟩,⟨2002,rfl⟩,trivial⟩,zrx p1 p2 e,rfl,rfl,by decide,tS,rfl,rfl⟩)|(have:=b1;exact ⟨_,_,_,[8,9],[.box 1 0,.box 2 0],[p1,p2],rbH (tys l2) (pi 0) p1 p2,rbH (tys l2) (pi 0) p1 p2,[tys l2,pi 0],rfl,rfl,tH,⟨⟨2001,rfl⟩,⟨2002,rfl⟩,trivial⟩,⟨⟨2001,rfl⟩,⟨2002,rfl⟩,trivial⟩,zpV _ _ p1 p2,rfl,rfl,by decide,tS,rfl,rfl⟩)|fail)):G:=h
set_option maxHeartbeats 4000000 in
theorem zrG (g:Img) (hF:Fm g) (hgm:g.methods.length<=1000) (mi at_:Int) (l:List Ty) (hl:l.length<=100) (hm:mOk g mi) (hp:(mAt g mi).params.length<=100) (h0:0<=at_) (h1:at_.toNat < (mAt g mi).code.length) (hx:XOk g (qj (mAt g mi) at_)) :
  ACall Tryz.prog 50 [.ptr (zK g) 0,pi mi,pi at_,tys l] (zuF (stepS g mi at_ l)):=by
 have hem:(g.methods.map zY)[mi.toNat]?=some (zY (mAt g mi)):=by rw [mAt,zQ hm.2];exact zS hm.2
 have hei:((mAt g mi).code.map yM)[at_.toNat]?=some (yM (qj (mAt g mi) at_)):=by rw [qj,zQ h1];exact zS h1
 have hm0:=hm.1;have hmlt:mi < g.methods.length:=by have:=hm.2;omega
 have halt:at_ < (mAt g mi).code.length:=by omega
 have cA:=zb9 g (mAt g mi) zwy62;have hst:stepS g mi at_ l=doS g (Qs g (mAt g mi)) (mAt g mi) (qj (mAt g mi) at_) l:=rfl;rw [hst];have cd:=zu1 ⟨g,mAt g mi,Qs g (mAt g mi),qj (mAt g mi) at_⟩ hF hgm hx l hl;generalize mAt g mi=m at *;generalize qj m at_=x at *;refine zj9 zf Tryz.func50 rfl zws Tryz.ntmps50 zwy63 _ rfl (fun hw=>?_);refine zbz (zbq fun gB=>?_)
 repeat' (first|refine ZU zf 1 rfl rfl rfl rfl rfl rfl rfl ?_|refine ZU zf 2 rfl rfl rfl rfl rfl rfl rfl ?_|refine sK ?_|refine sC (fun _=>?_) (fun _=>?_)|fail)
 refine zbz (zbq fun gB=>?_)
 repeat' (first|refine zy rfl (VG (b:=false) rfl Tryz.underlying50 rfl rfl) rfl rfl ?_|refine zq rfl (VG (b:=false) rfl Tryz.underlying50 rfl rfl) rfl rfl ?_|refine sK ?_|refine sC (fun _=>?_) (fun _=>?_)|fail)
 refine zbz (zbq fun gB=>?_)
 repeat' (first|(refine shX ?_;first|refine zy rfl (ah hm0 hem) rfl rfl ?_|refine zq rfl (ah hm0 hem) rfl rfl ?_)|refine sK ?_|refine sC (fun _=>?_) (fun _=>?_)|fail)
 refine zhN 1 2001 rfl rfl fun p1=>zhN 2 2002 rfl rfl fun p2=>?_
 refine zbz (zgA (k:=1) rfl rfl rfl rfl rfl fun gB=>?_)
 repeat' (first|refine sK ?_|refine sC (fun _=>?_) (fun _=>?_)|fail)
 refine ⟨_,_,[p1,p2],rfl,⟨⟨2001,rfl⟩,⟨2002,rfl⟩,trivial⟩,?_⟩;refine zbq fun gB=>?_
 cases hS:doS g (Qs g m) m x l with
 | error e =>
  have b0:=();exact zwk53
 | ok p =>
  obtain ⟨⟨⟩,l2⟩:=p;have b1:=();exact zwk53
end Go.Cg
