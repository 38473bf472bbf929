/- A part of the walks by abstract values: no statement of its own. -/
import Derived.Test.YtdlokcmodgccnaaGreatU29
import Derived.Test.YtdlokcmodgccnaaGreatU28
import Derived.Test.YtdlokcmodgccnaaGreatU33
import Derived.Test.YtdlokcmodgccnaaGreatU34
import Derived.Test.YtdlokcmodgccnaaGreatU32
import Derived.Test.YtdlokcmodgccnaaGreatU31
set_option linter.unusedVariables false
set_option linter.unusedSimpArgs false
namespace Go.Cg
open Go.Proofs
set_option maxHeartbeats 20000000
structure XOk (g:Img) (x:Ins):Prop where
 lo:1≤x.op
 hi:x.op≤75
 v:2≤x.op→x.op≤7→0≤x.arg
 m:(x.op=43∨x.op=44∨x.op=45∨x.op=67)→0≤x.arg∧x.arg.toNat < g.methods.length∧(mAt g x.arg).params.length≤100∧0≤(mAt g x.arg).owner∧(mAt g x.arg).owner.toNat < g.types.length
 f:48≤x.op→x.op≤53→0≤x.arg∧x.arg.toNat < g.fields.length
 a:57≤x.op→x.op≤61→0≤x.t.dims∧x.t.dims≤100
 p:∀ i:Int,0≤i→i.toNat < g.methods.length→(mAt g i).params.length≤100
 d:x.op=68→x.t.kind=5→x.t.dims=0→ZY g x.t.index=3→methodsOf g x.t.index≠[]
def znV {α:Type} (act:SM α):Prop:=∀ l p,act l=.ok p→p.2=[]
theorem Vq {α β:Type} {x:SM α} {f:α→SM β} (h:∀ a,znV (f a)):znV (x >>= f):=fun l p hp=>by
 rw [zu] at hp
 split at hp
 ·cases hp
 ·exact h _ _ _ hp
theorem zbd:znV zbn:=fun l p h=>by cases h;rfl
theorem zng (g:Img) (m:Me) (op:Int):znV (Zm g m op):=by
 unfold Zm
 split
 ·exact Vq fun _=>Vq fun _=>zbd
 ·split
  ·exact Vq fun _=>Vq fun _=>zbd
  ·split
   ·exact Vq fun _=>Vq fun _=>zbd
   ·exact zbd
theorem zcz {g:Img} {m:Me} {op:Int} {l:List Ty} {p:Unit × List Ty} (h:Zm g m op l=.ok p):p.2=[]:=zng g m op l p h
theorem zoM (c:RC) (hF:Fm c.g) (hgm:c.g.methods.length≤1000) (hx:XOk c.g c.x) (l:List Ty) (hl:l.length≤100) (h:2≤c.x.op∧c.x.op≤7):XC 152 [] c (qP c.g c.ar c.m c.x) uV l:=by
 obtain ⟨g,m,ar,op,arg,t0⟩:=c
 have h:op=2∨op=3∨op=4∨op=5∨op=6∨op=7:=by simp only at h;omega
 rcases h with rfl|rfl|rfl|rfl|rfl|rfl
 ·exact zsR g hF m ar arg t0 l hl (hx.v (by simp) (by simp))
 ·exact ztf g hF m ar arg t0 l hl (hx.v (by simp) (by simp))
 ·exact ztm g hF m ar arg t0 l hl (hx.v (by simp) (by simp))
 ·exact zsY g hF m ar arg t0 l hl (hx.v (by simp) (by simp))
 ·exact zs6 g hF m ar arg t0 l hl (hx.v (by simp) (by simp))
 ·exact ztc g hF m ar arg t0 l hl (hx.v (by simp) (by simp))
theorem zpu (c:RC) (hF:Fm c.g) (hgm:c.g.methods.length≤1000) (hx:XOk c.g c.x) (l:List Ty) (hl:l.length≤100) (h:13≤c.x.op∧c.x.op≤33):XC 153 [] c (qA c.g c.m c.x.op) uV l:=by
 obtain ⟨g,m,ar,op,arg,t0⟩:=c
 have h:(op=13∨op=14∨op=15∨op=16∨op=17∨op=18∨op=19∨op=20∨op=25∨op=26∨op=27)∨(op=21∨op=22)∨(op=23∨op=24)∨(op=28∨op=30)∨op=29∨op=31∨(op=32∨op=33):=by simp only at h;omega
 rcases h with h|h|h|h|rfl|rfl|h
 ·exact zsk g hF m ar arg t0 l hl op h
 ·exact zrU g hF m ar arg t0 l hl op h
 ·exact zrS g hF m ar arg t0 l hl op h
 ·exact zrE g hF m ar arg t0 l hl op h
 ·exact zrK g hF m ar arg t0 l hl
 ·exact zrv g hF m ar arg t0 l hl
 ·exact zr1 g hF m ar arg t0 l hl op h
theorem zmS (c:RC) (hF:Fm c.g) (hgm:c.g.methods.length≤1000) (hx:XOk c.g c.x) (l:List Ty) (hl:l.length≤100) (h:34≤c.x.op∧c.x.op≤42):XC 154 [] c (Zk c.x.op) uV l:=by
 obtain ⟨g,m,ar,op,arg,t0⟩:=c
 have h:(op=35∨op=36)∨(op=37∨op=42)∨(op=38∨op=39∨op=40∨op=41)∨op=34:=by simp only at h;omega
 rcases h with h|h|h|rfl
 ·exact zqo g hF m ar arg t0 l hl op h
 ·exact zqv g hF m ar arg t0 l hl op h
 ·exact zq5 g hF m ar arg t0 l hl op h
 ·exact zqF g hF m ar arg t0 l hl
theorem zmr (c:RC) (hF:Fm c.g) (hgm:c.g.methods.length≤1000) (hx:XOk c.g c.x) (l:List Ty) (hl:l.length≤100) (h:43≤c.x.op∧c.x.op≤45):XC 155 [] c (qI c.g c.m c.x) uV l:=by
 obtain ⟨g,m,ar,op,arg,t0⟩:=c
 have h:op=43∨op=44∨op=45:=by simp only at h;omega
 rcases h with rfl|rfl|rfl
 ·exact zp3 g hF m ar arg t0 l hl (hx.m (by simp)).1 (hx.m (by simp)).2.1 (hx.m (by simp)).2.2.1 (hx.m (by simp)).2.2.2.1 (hx.m (by simp)).2.2.2.2
 ·exact zqG g hF m ar arg t0 l hl (hx.m (by simp)).1 (hx.m (by simp)).2.1 (hx.m (by simp)).2.2.1 (hx.m (by simp)).2.2.2.1 (hx.m (by simp)).2.2.2.2
 ·exact zq4 g hF m ar arg t0 l hl (hx.m (by simp)).1 (hx.m (by simp)).2.1 (hx.m (by simp)).2.2.1 (hx.m (by simp)).2.2.2.1 (hx.m (by simp)).2.2.2.2
theorem zkg (c:RC) (hF:Fm c.g) (hgm:c.g.methods.length≤1000) (hx:XOk c.g c.x) (l:List Ty) (hl:l.length≤100) (h:48≤c.x.op∧c.x.op≤53):XC 156 [] c (yI c.g c.m c.x) uV l:=by
 obtain ⟨g,m,ar,op,arg,t0⟩:=c
 have h:op=48∨op=49∨op=50∨op=51∨op=52∨op=53:=by simp only at h;omega
 rcases h with rfl|rfl|rfl|rfl|rfl|rfl
 ·exact zn1 g hF m ar arg t0 l hl (hx.f (by simp) (by simp)).1 (hx.f (by simp) (by simp)).2
 ·exact zoX g hF m ar arg t0 l hl (hx.f (by simp) (by simp)).1 (hx.f (by simp) (by simp)).2
 ·exact zoB g hF m ar arg t0 l hl (hx.f (by simp) (by simp)).1 (hx.f (by simp) (by simp)).2
 ·exact zoo g hF m ar arg t0 l hl (hx.f (by simp) (by simp)).1 (hx.f (by simp) (by simp)).2
 ·exact zoF g hF m ar arg t0 l hl (hx.f (by simp) (by simp)).1 (hx.f (by simp) (by simp)).2
 ·exact zn8 g hF m ar arg t0 l hl (hx.f (by simp) (by simp)).1 (hx.f (by simp) (by simp)).2
theorem zky (c:RC) (hF:Fm c.g) (hgm:c.g.methods.length≤1000) (hx:XOk c.g c.x) (l:List Ty) (hl:l.length≤100) (h:57≤c.x.op∧c.x.op≤61):XC 158 [] c (yF c.g c.m c.x) uV l:=by
 obtain ⟨g,m,ar,op,arg,t0⟩:=c
 have h:op=57∨op=58∨op=59∨op=60∨op=61:=by simp only at h;omega
 rcases h with rfl|rfl|rfl|rfl|rfl
 ·exact zn3 g hF m ar arg t0 l hl (hx.a (by simp) (by simp)).1 (hx.a (by simp) (by simp)).2
 ·exact zpz g hF m ar arg t0 l hl
 ·exact zo0 g hF m ar arg t0 l hl (hx.a (by simp) (by simp)).1 (hx.a (by simp) (by simp)).2
 ·exact zot g hF m ar arg t0 l hl (hx.a (by simp) (by simp)).1 (hx.a (by simp) (by simp)).2
 ·exact zol g hF m ar arg t0 l hl (hx.a (by simp) (by simp)).1 (hx.a (by simp) (by simp)).2
theorem zjv (c:RC) (hF:Fm c.g) (hgm:c.g.methods.length≤1000) (hx:XOk c.g c.x) (l:List Ty) (hl:l.length≤100) (h:62≤c.x.op∧c.x.op≤66):XC 159 [] c (yA c.g c.m c.x) uV l:=by
 obtain ⟨g,m,ar,op,arg,t0⟩:=c
 have h:op=62∨op=63∨op=64∨(op=65∨op=66):=by simp only at h;omega
 rcases h with rfl|rfl|rfl|h
 ·exact zmb g hF m ar arg t0 l hl
 ·exact zmU g hF m ar arg t0 l hl
 ·exact zmP g hF m ar arg t0 l hl
 ·exact zmD g hF m ar arg t0 l hl op h
theorem zhV (c:RC) (hF:Fm c.g) (hgm:c.g.methods.length≤1000) (hx:XOk c.g c.x) (l:List Ty) (hl:l.length≤100) (h:c.x.op=68):XC 160 [] c (yu c.g c.m c.x) uV l:=by
 obtain ⟨g,m,ar,op,arg,t0⟩:=c
 have h:op=68:=by simp only at h;omega
 subst h
 ·exact zlx g hF m ar arg t0 l hl hgm hx.p (hx.d rfl)
theorem zkr (c:RC) (hF:Fm c.g) (hgm:c.g.methods.length≤1000) (hx:XOk c.g c.x) (l:List Ty) (hl:l.length≤100) (h:c.x.op=1∨c.x.op=8∨c.x.op=9∨c.x.op=10∨c.x.op=11∨c.x.op=12∨c.x.op=47∨c.x.op=67∨c.x.op=74∨c.x.op=75):XC 162 [] c (yL c.g c.m c.x) uV l:=by
 obtain ⟨g,m,ar,op,arg,t0⟩:=c
 have h:op=8∨(op=9∨op=74)∨op=10∨op=11∨op=12∨op=75∨(op=1∨op=47)∨op=67:=by simp only at h;omega
 rcases h with rfl|h|rfl|rfl|rfl|rfl|h|rfl
 ·exact zqJ g hF m ar arg t0 l hl
 ·exact zqX g hF m ar arg t0 l hl op h
 ·exact zo4 g hF m ar arg t0 l hl
 ·exact zoQ g hF m ar arg t0 l hl
 ·exact zoY g hF m ar arg t0 l hl
 ·exact zoA g hF m ar arg t0 l hl
 ·exact zrt g hF m ar arg t0 l hl op h
 ·exact zpx g hF m ar arg t0 l hl (hx.m (by simp)).1 (hx.m (by simp)).2.1
theorem zoD (c:RC) (hF:Fm c.g) (l:List Ty) (hl:l.length≤100) (h:c.x.op=46∨69≤c.x.op∧c.x.op≤73):XC 161 [] c (Zm c.g c.m c.x.op) uV l:=by
 obtain ⟨g,m,ar,op,arg,t0⟩:=c
 have h:op=46∨op=69∨op=73∨(op=70∨op=71∨op=72):=by simp only at h;omega
 rcases h with rfl|rfl|rfl|h
 ·exact zf9 (fun _ h=>zcz h) (zr0 g hF m ar arg t0 l hl)
 ·exact zf9 (fun _ h=>zcz h) (zry g hF m ar arg t0 l hl)
 ·exact zf9 (fun _ h=>zcz h) (zsi g hF m ar arg t0 l hl)
 ·exact zf9 (fun _ h=>zcz h) (zr5 g hF m ar arg t0 l hl op h)
theorem zlB (c:RC) (hF:Fm c.g) (hgm:c.g.methods.length≤1000) (hx:XOk c.g c.x) (l:List Ty) (hl:l.length≤100) (h:54≤c.x.op∧c.x.op≤56):XC 157 [] c (qY c.g c.m c.x) uV l:=by
 obtain ⟨g,m,ar,op,arg,t0⟩:=c
 have h:op=54∨op=55∨op=56:=by simp only at h;omega
 rcases h with rfl|rfl|rfl
 ·exact zn7 g hF m ar arg t0 l hl
 ·exact zoV g hF m ar arg t0 l hl
 ·exact zpf g hF m ar arg t0 l hl
theorem zsy (c:RC) (hF:Fm c.g) (hgm:c.g.methods.length≤1000) (hx:XOk c.g c.x) (l:List Ty) (hl:l.length≤100) (h:2≤c.x.op∧c.x.op≤7):XC 116 [] c (doS c.g c.ar c.m c.x) uV l:=by
 intro u;refine zH zf Tryz.func116 rfl (by kernel_rfl) Tryz.ntmps116 (by simp) _ rfl (fun gB hw1=>?_)
 have cv:=zoM c hF hgm hx l hl h
 have hs:doS c.g c.ar c.m c.x l=(qP c.g c.ar c.m c.x) l:=by
  unfold doS
  first
   | (rw [if_pos (by simp;omega)])
 cases hS:(qP c.g c.ar c.m c.x) l with
 | error e =>
  repeat' (first|refine zl 3 1 rfl rfl rfl ?_|refine zA ((yP u c l)) zh rfl rfl rfl tH (cv.bad hS u) ?_|refine sK ?_|refine sC (fun _=>?_) (fun _=>?_)|fail)
  exact zB (hs.trans hS)
 | ok p =>
  obtain ⟨⟨⟩,l1⟩:=p
  repeat' (first|(refine zn ?_;first|(refine zo 0 zh rfl rfl (cv.ok hS) rfl rfl rfl rfl rfl ?_))|refine sK ?_|refine sC (fun _=>?_) (fun _=>?_)|fail)
  exact zU (hs.trans hS) (yw (.inl rfl) tH)
theorem zrX (c:RC) (hF:Fm c.g) (hgm:c.g.methods.length≤1000) (hx:XOk c.g c.x) (l:List Ty) (hl:l.length≤100) (h:13≤c.x.op∧c.x.op≤33):XC 116 [] c (doS c.g c.ar c.m c.x) uV l:=by
 intro u;refine zH zf Tryz.func116 rfl (by kernel_rfl) Tryz.ntmps116 (by simp) _ rfl (fun gB hw1=>?_)
 have cv:=zpu c hF hgm hx l hl h
 have hs:doS c.g c.ar c.m c.x l=(qA c.g c.m c.x.op) l:=by
  unfold doS
  first
   | (rw [if_neg (by simp;omega)];rw [if_pos (by simp;omega)])
 cases hS:(qA c.g c.m c.x.op) l with
 | error e =>
  repeat' (first|refine zl 5 1 rfl rfl rfl ?_|refine zA ((yP u c l)) zh rfl rfl rfl tH (cv.bad hS u) ?_|refine sK ?_|refine sC (fun _=>?_) (fun _=>?_)|fail)
  exact zB (hs.trans hS)
 | ok p =>
  obtain ⟨⟨⟩,l1⟩:=p
  repeat' (first|(refine zn ?_;first|(refine zo 0 zh rfl rfl (cv.ok hS) rfl rfl rfl rfl rfl ?_))|refine sK ?_|refine sC (fun _=>?_) (fun _=>?_)|fail)
  exact zU (hs.trans hS) (yw (.inl rfl) tH)
theorem zqT (c:RC) (hF:Fm c.g) (hgm:c.g.methods.length≤1000) (hx:XOk c.g c.x) (l:List Ty) (hl:l.length≤100) (h:34≤c.x.op∧c.x.op≤42):XC 116 [] c (doS c.g c.ar c.m c.x) uV l:=by
 intro u;refine zH zf Tryz.func116 rfl (by kernel_rfl) Tryz.ntmps116 (by simp) _ rfl (fun gB hw1=>?_)
 have cv:=zmS c hF hgm hx l hl h
 have hs:doS c.g c.ar c.m c.x l=(Zk c.x.op) l:=by
  unfold doS
  first
   | (rw [if_neg (by simp;omega)];rw [if_neg (by simp;omega)];rw [if_pos (by simp;omega)])
 cases hS:(Zk c.x.op) l with
 | error e =>
  repeat' (first|refine zl 7 1 rfl rfl rfl ?_|refine zA ((yP u c l)) zh rfl rfl rfl tH (cv.bad hS u) ?_|refine sK ?_|refine sC (fun _=>?_) (fun _=>?_)|fail)
  exact zB (hs.trans hS)
 | ok p =>
  obtain ⟨⟨⟩,l1⟩:=p
  repeat' (first|(refine zn ?_;first|(refine zo 0 zh rfl rfl (cv.ok hS) rfl rfl rfl rfl rfl ?_))|refine sK ?_|refine sC (fun _=>?_) (fun _=>?_)|fail)
  exact zU (hs.trans hS) (yw (.inl rfl) tH)
theorem zra (c:RC) (hF:Fm c.g) (hgm:c.g.methods.length≤1000) (hx:XOk c.g c.x) (l:List Ty) (hl:l.length≤100) (h:43≤c.x.op∧c.x.op≤45):XC 116 [] c (doS c.g c.ar c.m c.x) uV l:=by
 intro u;refine zH zf Tryz.func116 rfl (by kernel_rfl) Tryz.ntmps116 (by simp) _ rfl (fun gB hw1=>?_)
 have cv:=zmr c hF hgm hx l hl h
 have hs:doS c.g c.ar c.m c.x l=(qI c.g c.m c.x) l:=by
  unfold doS
  first
   | (rw [if_neg (by simp;omega)];rw [if_neg (by simp;omega)];rw [if_neg (by simp;omega)];rw [if_pos (by simp;omega)])
 cases hS:(qI c.g c.m c.x) l with
 | error e =>
  repeat' (first|refine zl 9 1 rfl rfl rfl ?_|refine zA ((yP u c l)) zh rfl rfl rfl tH (cv.bad hS u) ?_|refine sK ?_|refine sC (fun _=>?_) (fun _=>?_)|fail)
  exact zB (hs.trans hS)
 | ok p =>
  obtain ⟨⟨⟩,l1⟩:=p
  repeat' (first|(refine zn ?_;first|(refine zo 0 zh rfl rfl (cv.ok hS) rfl rfl rfl rfl rfl ?_))|refine sK ?_|refine sC (fun _=>?_) (fun _=>?_)|fail)
  exact zU (hs.trans hS) (yw (.inl rfl) tH)
theorem zos (c:RC) (hF:Fm c.g) (hgm:c.g.methods.length≤1000) (hx:XOk c.g c.x) (l:List Ty) (hl:l.length≤100) (h:48≤c.x.op∧c.x.op≤53):XC 116 [] c (doS c.g c.ar c.m c.x) uV l:=by
 intro u;refine zH zf Tryz.func116 rfl (by kernel_rfl) Tryz.ntmps116 (by simp) _ rfl (fun gB hw1=>?_)
 have cv:=zkg c hF hgm hx l hl h
 have hs:doS c.g c.ar c.m c.x l=(yI c.g c.m c.x) l:=by
  unfold doS
  first
   | (rw [if_neg (by simp;omega)];rw [if_neg (by simp;omega)];rw [if_neg (by simp;omega)];rw [if_neg (by simp;omega)];rw [if_pos (by simp;omega)])
 cases hS:(yI c.g c.m c.x) l with
 | error e =>
  repeat' (first|refine zl 11 1 rfl rfl rfl ?_|refine zA ((yP u c l)) zh rfl rfl rfl tH (cv.bad hS u) ?_|refine sK ?_|refine sC (fun _=>?_) (fun _=>?_)|fail)
  exact zB (hs.trans hS)
 | ok p =>
  obtain ⟨⟨⟩,l1⟩:=p
  repeat' (first|(refine zn ?_;first|(refine zo 0 zh rfl rfl (cv.ok hS) rfl rfl rfl rfl rfl ?_))|refine sK ?_|refine sC (fun _=>?_) (fun _=>?_)|fail)
  exact zU (hs.trans hS) (yw (.inl rfl) tH)
theorem zoL (c:RC) (hF:Fm c.g) (hgm:c.g.methods.length≤1000) (hx:XOk c.g c.x) (l:List Ty) (hl:l.length≤100) (h:54≤c.x.op∧c.x.op≤56):XC 116 [] c (doS c.g c.ar c.m c.x) uV l:=by
 intro u;refine zH zf Tryz.func116 rfl (by kernel_rfl) Tryz.ntmps116 (by simp) _ rfl (fun gB hw1=>?_)
 have cv:=zlB c hF hgm hx l hl h
 have hs:doS c.g c.ar c.m c.x l=(qY c.g c.m c.x) l:=by
  unfold doS
  first
   | (rw [if_neg (by simp;omega)];rw [if_neg (by simp;omega)];rw [if_neg (by simp;omega)];rw [if_neg (by simp;omega)];rw [if_neg (by simp;omega)];rw [if_pos (by simp;omega)])
 cases hS:(qY c.g c.m c.x) l with
 | error e =>
  repeat' (first|refine zl 13 1 rfl rfl rfl ?_|refine zA ((yP u c l)) zh rfl rfl rfl tH (cv.bad hS u) ?_|refine sK ?_|refine sC (fun _=>?_) (fun _=>?_)|fail)
  exact zB (hs.trans hS)
 | ok p =>
  obtain ⟨⟨⟩,l1⟩:=p
  repeat' (first|(refine zn ?_;first|(refine zo 0 zh rfl rfl (cv.ok hS) rfl rfl rfl rfl rfl ?_))|refine sK ?_|refine sC (fun _=>?_) (fun _=>?_)|fail)
  exact zU (hs.trans hS) (yw (.inl rfl) tH)
theorem zpD (c:RC) (hF:Fm c.g) (hgm:c.g.methods.length≤1000) (hx:XOk c.g c.x) (l:List Ty) (hl:l.length≤100) (h:57≤c.x.op∧c.x.op≤61):XC 116 [] c (doS c.g c.ar c.m c.x) uV l:=by
 intro u;refine zH zf Tryz.func116 rfl (by kernel_rfl) Tryz.ntmps116 (by simp) _ rfl (fun gB hw1=>?_)
 have cv:=zky c hF hgm hx l hl h
 have hs:doS c.g c.ar c.m c.x l=(yF c.g c.m c.x) l:=by
  unfold doS
  first
   | (rw [if_neg (by simp;omega)];rw [if_neg (by simp;omega)];rw [if_neg (by simp;omega)];rw [if_neg (by simp;omega)];rw [if_neg (by simp;omega)];rw [if_neg (by simp;omega)];rw [if_pos (by simp;omega)])
 cases hS:(yF c.g c.m c.x) l with
 | error e =>
  repeat' (first|refine zl 15 1 rfl rfl rfl ?_|refine zA ((yP u c l)) zh rfl rfl rfl tH (cv.bad hS u) ?_|refine sK ?_|refine sC (fun _=>?_) (fun _=>?_)|fail)
  exact zB (hs.trans hS)
 | ok p =>
  obtain ⟨⟨⟩,l1⟩:=p
  repeat' (first|(refine zn ?_;first|(refine zo 0 zh rfl rfl (cv.ok hS) rfl rfl rfl rfl rfl ?_))|refine sK ?_|refine sC (fun _=>?_) (fun _=>?_)|fail)
  exact zU (hs.trans hS) (yw (.inl rfl) tH)
theorem zm6 (c:RC) (hF:Fm c.g) (hgm:c.g.methods.length≤1000) (hx:XOk c.g c.x) (l:List Ty) (hl:l.length≤100) (h:62≤c.x.op∧c.x.op≤66):XC 116 [] c (doS c.g c.ar c.m c.x) uV l:=by
 intro u;refine zH zf Tryz.func116 rfl (by kernel_rfl) Tryz.ntmps116 (by simp) _ rfl (fun gB hw1=>?_)
 have cv:=zjv c hF hgm hx l hl h
 have hs:doS c.g c.ar c.m c.x l=(yA c.g c.m c.x) l:=by
  unfold doS
  first
   | (rw [if_neg (by simp;omega)];rw [if_neg (by simp;omega)];rw [if_neg (by simp;omega)];rw [if_neg (by simp;omega)];rw [if_neg (by simp;omega)];rw [if_neg (by simp;omega)];rw [if_neg (by simp;omega)];rw [if_pos (by simp;omega)])
 cases hS:(yA c.g c.m c.x) l with
 | error e =>
  repeat' (first|refine zl 17 1 rfl rfl rfl ?_|refine zA ((yP u c l)) zh rfl rfl rfl tH (cv.bad hS u) ?_|refine sK ?_|refine sC (fun _=>?_) (fun _=>?_)|fail)
  exact zB (hs.trans hS)
 | ok p =>
  obtain ⟨⟨⟩,l1⟩:=p
  repeat' (first|(refine zn ?_;first|(refine zo 0 zh rfl rfl (cv.ok hS) rfl rfl rfl rfl rfl ?_))|refine sK ?_|refine sC (fun _=>?_) (fun _=>?_)|fail)
  exact zU (hs.trans hS) (yw (.inl rfl) tH)
theorem zkx (c:RC) (hF:Fm c.g) (hgm:c.g.methods.length≤1000) (hx:XOk c.g c.x) (l:List Ty) (hl:l.length≤100) (h:c.x.op=68):XC 116 [] c (doS c.g c.ar c.m c.x) uV l:=by
 intro u;refine zH zf Tryz.func116 rfl (by kernel_rfl) Tryz.ntmps116 (by simp) _ rfl (fun gB hw1=>?_)
 have cv:=zhV c hF hgm hx l hl h
 have hs:doS c.g c.ar c.m c.x l=(yu c.g c.m c.x) l:=by
  unfold doS
  first
   | (rw [if_neg (by simp;omega)];rw [if_neg (by simp;omega)];rw [if_neg (by simp;omega)];rw [if_neg (by simp;omega)];rw [if_neg (by simp;omega)];rw [if_neg (by simp;omega)];rw [if_neg (by simp;omega)];rw [if_neg (by simp;omega)];rw [if_pos (by simp;omega)])
 cases hS:(yu c.g c.m c.x) l with
 | error e =>
  repeat' (first|refine zl 19 1 rfl rfl rfl ?_|refine zA ((yP u c l)) zh rfl rfl rfl tH (cv.bad hS u) ?_|refine sK ?_|refine sC (fun _=>?_) (fun _=>?_)|fail)
  exact zB (hs.trans hS)
 | ok p =>
  obtain ⟨⟨⟩,l1⟩:=p
  repeat' (first|(refine zn ?_;first|(refine zo 0 zh rfl rfl (cv.ok hS) rfl rfl rfl rfl rfl ?_))|refine sK ?_|refine sC (fun _=>?_) (fun _=>?_)|fail)
  exact zU (hs.trans hS) (yw (.inl rfl) tH)
theorem zsg (c:RC) (hF:Fm c.g) (hgm:c.g.methods.length≤1000) (hx:XOk c.g c.x) (l:List Ty) (hl:l.length≤100) (h:c.x.op=46∨69≤c.x.op∧c.x.op≤73):XC 116 [] c (doS c.g c.ar c.m c.x) uV l:=by
 intro u;refine zH zf Tryz.func116 rfl (by kernel_rfl) Tryz.ntmps116 (by simp) _ rfl (fun gB hw1=>?_)
 have cv:=zoD c hF l hl h
 rcases h with h|h
 all_goals
  skip
  have hs:doS c.g c.ar c.m c.x l=(Zm c.g c.m c.x.op) l:=by
   unfold doS
   first
    | (rw [if_neg (by simp;omega)];rw [if_neg (by simp;omega)];rw [if_neg (by simp;omega)];rw [if_neg (by simp;omega)];rw [if_neg (by simp;omega)];rw [if_neg (by simp;omega)];rw [if_neg (by simp;omega)];rw [if_neg (by simp;omega)];rw [if_neg (by simp;omega)];rw [if_pos (by simp;omega)])
  cases hS:(Zm c.g c.m c.x.op) l with
  | error e =>
   repeat' (first|refine zl 21 1 rfl rfl rfl ?_|refine zA ((yP u c l)) zh rfl rfl rfl tH (cv.bad hS u) ?_|refine sK ?_|refine sC (fun _=>?_) (fun _=>?_)|fail)
   exact zB (hs.trans hS)
  | ok p =>
   obtain ⟨⟨⟩,l1⟩:=p
   repeat' (first|(refine zn ?_;first|(refine zo 0 zh rfl rfl (cv.ok hS) rfl rfl rfl rfl rfl ?_))|refine sK ?_|refine sC (fun _=>?_) (fun _=>?_)|fail)
   exact zU (hs.trans hS) (yw (.inl rfl) tH)
theorem zpo (c:RC) (hF:Fm c.g) (hgm:c.g.methods.length≤1000) (hx:XOk c.g c.x) (l:List Ty) (hl:l.length≤100) (h:c.x.op=1∨c.x.op=8∨c.x.op=9∨c.x.op=10∨c.x.op=11∨c.x.op=12∨c.x.op=47∨c.x.op=67∨c.x.op=74∨c.x.op=75):XC 116 [] c (doS c.g c.ar c.m c.x) uV l:=by
 intro u;refine zH zf Tryz.func116 rfl (by kernel_rfl) Tryz.ntmps116 (by simp) _ rfl (fun gB hw1=>?_)
 have cv:=zkr c hF hgm hx l hl h
 have hs:doS c.g c.ar c.m c.x l=yL c.g c.m c.x l:=by
  unfold doS
  rcases h with h|h|h|h|h|h|h|h|h|h
  all_goals (rw [if_neg (by simp [h])];rw [if_neg (by simp [h])];rw [if_neg (by simp [h])];rw [if_neg (by simp [h])];rw [if_neg (by simp [h])];rw [if_neg (by simp [h])];rw [if_neg (by simp [h])];rw [if_neg (by simp [h])];rw [if_neg (by simp [h])];rw [if_neg (by simp [h])])
 cases hS:(yL c.g c.m c.x) l with
 | error e =>
  rcases h with h|h|h|h|h|h|h|h|h|h
  all_goals
   repeat' (first|refine zl 1 1 rfl rfl rfl ?_|refine zA ((yP u c l)) zh rfl rfl rfl tH (cv.bad hS u) ?_|refine sK ?_|refine sC (fun _=>?_) (fun _=>?_)|fail)
   exact zB (hs.trans hS)
 | ok p =>
  obtain ⟨⟨⟩,l1⟩:=p
  rcases h with h|h|h|h|h|h|h|h|h|h
  all_goals
   repeat' (first|(refine zn ?_;first|(refine zo 0 zh rfl rfl (cv.ok hS) rfl rfl rfl rfl rfl ?_))|refine sK ?_|refine sC (fun _=>?_) (fun _=>?_)|fail)
   exact zU (hs.trans hS) (yw (.inl rfl) tH)
theorem zrQ (c:RC) (hF:Fm c.g) (hgm:c.g.methods.length≤1000) (hx:XOk c.g c.x) (l:List Ty) (hl:l.length≤100):XC 116 [] c (doS c.g c.ar c.m c.x) uV l:=by
 have h1:=hx.lo
 have h2:=hx.hi
 by_cases h_vars:2≤c.x.op∧c.x.op≤7
 ·exact zsy c hF hgm hx l hl h_vars
 by_cases h_sums:13≤c.x.op∧c.x.op≤33
 ·exact zrX c hF hgm hx l hl h_sums
 by_cases h_jumps:34≤c.x.op∧c.x.op≤42
 ·exact zqT c hF hgm hx l hl h_jumps
 by_cases h_calls:43≤c.x.op∧c.x.op≤45
 ·exact zra c hF hgm hx l hl h_calls
 by_cases h_fields:48≤c.x.op∧c.x.op≤53
 ·exact zos c hF hgm hx l hl h_fields
 by_cases h_places:54≤c.x.op∧c.x.op≤56
 ·exact zoL c hF hgm hx l hl h_places
 by_cases h_arrays:57≤c.x.op∧c.x.op≤61
 ·exact zpD c hF hgm hx l hl h_arrays
 by_cases h_objects:62≤c.x.op∧c.x.op≤66
 ·exact zm6 c hF hgm hx l hl h_objects
 by_cases h_delegate:c.x.op=68
 ·exact zkx c hF hgm hx l hl h_delegate
 by_cases h_ends:c.x.op=46∨69≤c.x.op∧c.x.op≤73
 ·exact zsg c hF hgm hx l hl h_ends
 exact zpo c hF hgm hx l hl (by omega)
end Go.Cg
