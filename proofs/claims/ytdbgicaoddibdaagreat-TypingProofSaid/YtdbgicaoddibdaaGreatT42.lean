/- A part of the walks by abstract values: no statement of its own. -/
import Derived.Test.YtdbgicaoddibdaaGreatT39
import Derived.Test.YtdbgicaoddibdaaGreatT35
import Derived.Test.YtdbgicaoddibdaaGreatT30
import Derived.Test.YtdbgicaoddibdaaGreatT29
import Derived.Test.YtdbgicaoddibdaaGreatT36
import Derived.Test.YtdbgicaoddibdaaGreatT38
import Derived.Test.YtdbgicaoddibdaaGreatT34
import Derived.Test.YtdbgicaoddibdaaGreatT31
import Derived.Test.YtdbgicaoddibdaaGreatT41
set_option linter.unusedVariables false
set_option linter.unusedSimpArgs false
namespace Go.Cg
open Go.Proofs
set_option maxHeartbeats 20000000
structure XOk (g:Img) (x:Ins):Prop where
 lo:1≤x.op
 hi:x.op≤75
 v:2≤x.op→x.op≤7→0≤x.arg
 m:(x.op=43∨x.op=44∨x.op=45∨x.op=67)→0≤x.arg∧x.arg.toNat < g.methods.length∧(mAt g x.arg).params.length≤100∧0≤(mAt g x.arg).owner∧(mAt g x.arg).owner.toNat < g.types.length
 f:48≤x.op→x.op≤53→0≤x.arg∧x.arg.toNat < g.fields.length
 a:57≤x.op→x.op≤61→0≤x.t.dims∧x.t.dims≤100
 p:∀ i:Int,0≤i→i.toNat < g.methods.length→(mAt g i).params.length≤100
 d:x.op=68→x.t.kind=5→x.t.dims=0→Yh g x.t.index=3→methodsOf g x.t.index≠[]
def zqC {α:Type} (act:SM α):Prop:=∀ l p,act l=.ok p→p.2=[]
theorem zal {α β:Type} {x:SM α} {f:α→SM β} (h:∀ a,zqC (f a)):zqC (x >>= f):=fun l p hp=>by
 rw [zB] at hp;split at hp
 ·cases hp
 ·exact h _ _ _ hp
theorem zb5:zqC zcb:=fun l p h=>by cases h;rfl
theorem zpx (g:Img) (m:Me) (op:Int):zqC (ZA g m op):=by
 unfold ZA;split
 ·exact zal fun _=>zal fun _=>zb5
 ·split
  ·exact zal fun _=>zal fun _=>zb5
  ·split
   ·exact zal fun _=>zal fun _=>zb5
   ·exact zb5
theorem zdm {g:Img} {m:Me} {op:Int} {l:List Ty} {p:Unit × List Ty} (h:ZA g m op l=.ok p):p.2=[]:=zpx g m op l p h
theorem zrH (c:RC) (hF:Fm c.g) (hgm:c.g.methods.length≤1000) (hx:XOk c.g c.x) (l:List Ty) (hl:l.length≤100) (h:2≤c.x.op∧c.x.op≤7):XC 76 [] c (qZ c.g c.ar c.m c.x) uV l:=by
 obtain ⟨g,m,ar,op,arg,t0⟩:=c;have h:op=2∨op=3∨op=4∨op=5∨op=6∨op=7:=by simp only at h;omega
 rcases h with rfl|rfl|rfl|rfl|rfl|rfl
 ·exact zwZ g hF m ar arg t0 l hl (hx.v zwy63 zwy63)
 ·exact zwu g hF m ar arg t0 l hl (hx.v zwy63 zwy63)
 ·exact zw0 g hF m ar arg t0 l hl (hx.v zwy63 zwy63)
 ·exact zwA g hF m ar arg t0 l hl (hx.v zwy63 zwy63)
 ·exact zwL g hF m ar arg t0 l hl (hx.v zwy63 zwy63)
 ·exact zw8 g hF m ar arg t0 l hl (hx.v zwy63 zwy63)
theorem zrI (c:RC) (hF:Fm c.g) (hgm:c.g.methods.length≤1000) (hx:XOk c.g c.x) (l:List Ty) (hl:l.length≤100) (h:13≤c.x.op∧c.x.op≤33):XC 77 [] c (qF c.g c.m c.x.op) uV l:=by
 obtain ⟨g,m,ar,op,arg,t0⟩:=c;have h:(op=13∨op=14∨op=15∨op=16∨op=17∨op=18∨op=19∨op=20∨op=25∨op=26∨op=27)∨(op=21∨op=22)∨(op=23∨op=24)∨(op=28∨op=30)∨op=29∨op=31∨(op=32∨op=33):=by simp only at h;omega
 rcases h with h|h|h|h|rfl|rfl|h
 ·exact zvh g hF m ar arg t0 l hl op h
 ·exact zvJ g hF m ar arg t0 l hl op h
 ·exact zu3 g hF m ar arg t0 l hl op h
 ·exact zve g hF m ar arg t0 l hl op h
 ·exact zvB g hF m ar arg t0 l hl
 ·exact zvr g hF m ar arg t0 l hl
 ·exact zvI g hF m ar arg t0 l hl op h
theorem zoX (c:RC) (hF:Fm c.g) (hgm:c.g.methods.length≤1000) (hx:XOk c.g c.x) (l:List Ty) (hl:l.length≤100) (h:34≤c.x.op∧c.x.op≤42):XC 78 [] c (Zy c.x.op) uV l:=by
 obtain ⟨g,m,ar,op,arg,t0⟩:=c;have h:(op=35∨op=36)∨(op=37∨op=42)∨(op=38∨op=39∨op=40∨op=41)∨op=34:=by simp only at h;omega
 rcases h with h|h|h|rfl
 ·exact zt4 g hF m ar arg t0 l hl op h
 ·exact zuN g hF m ar arg t0 l hl op h
 ·exact zue g hF m ar arg t0 l hl op h
 ·exact zte g hF m ar arg t0 l hl
theorem zpp (c:RC) (hF:Fm c.g) (hgm:c.g.methods.length≤1000) (hx:XOk c.g c.x) (l:List Ty) (hl:l.length≤100) (h:43≤c.x.op∧c.x.op≤45):XC 79 [] c (qK c.g c.m c.x) uV l:=by
 obtain ⟨g,m,ar,op,arg,t0⟩:=c;have h:op=43∨op=44∨op=45:=by simp only at h;omega
 rcases h with rfl|rfl|rfl
 ·exact zt7 g hF m ar arg t0 l hl (hx.m zwy63).1 (hx.m zwy63).2.1 (hx.m zwy63).2.2.1 (hx.m zwy63).2.2.2.1 (hx.m zwy63).2.2.2.2
 ·exact zua g hF m ar arg t0 l hl (hx.m zwy63).1 (hx.m zwy63).2.1 (hx.m zwy63).2.2.1 (hx.m zwy63).2.2.2.1 (hx.m zwy63).2.2.2.2
 ·exact ztq g hF m ar arg t0 l hl (hx.m zwy63).1 (hx.m zwy63).2.1 (hx.m zwy63).2.2.1 (hx.m zwy63).2.2.2.1 (hx.m zwy63).2.2.2.2
theorem zna (c:RC) (hF:Fm c.g) (hgm:c.g.methods.length≤1000) (hx:XOk c.g c.x) (l:List Ty) (hl:l.length≤100) (h:48≤c.x.op∧c.x.op≤53):XC 80 [] c (yH c.g c.m c.x) uV l:=by
 obtain ⟨g,m,ar,op,arg,t0⟩:=c;have h:op=48∨op=49∨op=50∨op=51∨op=52∨op=53:=by simp only at h;omega
 rcases h with rfl|rfl|rfl|rfl|rfl|rfl
 ·exact zra g hF m ar arg t0 l hl (hx.f zwy63 zwy63).1 (hx.f zwy63 zwy63).2
 ·exact zrR g hF m ar arg t0 l hl (hx.f zwy63 zwy63).1 (hx.f zwy63 zwy63).2
 ·exact zrW g hF m ar arg t0 l hl (hx.f zwy63 zwy63).1 (hx.f zwy63 zwy63).2
 ·exact zrb g hF m ar arg t0 l hl (hx.f zwy63 zwy63).1 (hx.f zwy63 zwy63).2
 ·exact zr0 g hF m ar arg t0 l hl (hx.f zwy63 zwy63).1 (hx.f zwy63 zwy63).2
 ·exact zrn g hF m ar arg t0 l hl (hx.f zwy63 zwy63).1 (hx.f zwy63 zwy63).2
theorem zny (c:RC) (hF:Fm c.g) (hgm:c.g.methods.length≤1000) (hx:XOk c.g c.x) (l:List Ty) (hl:l.length≤100) (h:57≤c.x.op∧c.x.op≤61):XC 82 [] c (yF c.g c.m c.x) uV l:=by
 obtain ⟨g,m,ar,op,arg,t0⟩:=c;have h:op=57∨op=58∨op=59∨op=60∨op=61:=by simp only at h;omega
 rcases h with rfl|rfl|rfl|rfl|rfl
 ·exact zsw g hF m ar arg t0 l hl (hx.a zwy63 zwy63).1 (hx.a zwy63 zwy63).2
 ·exact zq9 g hF m ar arg t0 l hl
 ·exact zry g hF m ar arg t0 l hl (hx.a zwy63 zwy63).1 (hx.a zwy63 zwy63).2
 ·exact zrv g hF m ar arg t0 l hl (hx.a zwy63 zwy63).1 (hx.a zwy63 zwy63).2
 ·exact zrj g hF m ar arg t0 l hl (hx.a zwy63 zwy63).1 (hx.a zwy63 zwy63).2
theorem zlj (c:RC) (hF:Fm c.g) (hgm:c.g.methods.length≤1000) (hx:XOk c.g c.x) (l:List Ty) (hl:l.length≤100) (h:62≤c.x.op∧c.x.op≤66):XC 83 [] c (yA c.g c.m c.x) uV l:=by
 obtain ⟨g,m,ar,op,arg,t0⟩:=c;have h:op=62∨op=63∨op=64∨(op=65∨op=66):=by simp only at h;omega
 rcases h with rfl|rfl|rfl|h
 ·exact zpH g hF m ar arg t0 l hl
 ·exact zoR g hF m ar arg t0 l hl
 ·exact zp2 g hF m ar arg t0 l hl
 ·exact zpg g hF m ar arg t0 l hl op h
theorem zj0 (c:RC) (hF:Fm c.g) (hgm:c.g.methods.length≤1000) (hx:XOk c.g c.x) (l:List Ty) (hl:l.length≤100) (h:c.x.op=68):XC 84 [] c (yu c.g c.m c.x) uV l:=by
 obtain ⟨g,m,ar,op,arg,t0⟩:=c;have h:op=68:=by simp only at h;omega
 subst h
 ·exact znY g hF m ar arg t0 l hl hgm hx.p (hx.d rfl)
theorem zos (c:RC) (hF:Fm c.g) (hgm:c.g.methods.length≤1000) (hx:XOk c.g c.x) (l:List Ty) (hl:l.length≤100) (h:c.x.op=1∨c.x.op=8∨c.x.op=9∨c.x.op=10∨c.x.op=11∨c.x.op=12∨c.x.op=47∨c.x.op=67∨c.x.op=74∨c.x.op=75):XC 86 [] c (yK c.g c.m c.x) uV l:=by
 obtain ⟨g,m,ar,op,arg,t0⟩:=c;have h:op=8∨(op=9∨op=74)∨op=10∨op=11∨op=12∨op=75∨(op=1∨op=47)∨op=67:=by simp only at h;omega
 rcases h with rfl|h|rfl|rfl|rfl|rfl|h|rfl
 ·exact ztk g hF m ar arg t0 l hl
 ·exact zuf g hF m ar arg t0 l hl op h
 ·exact zsk g hF m ar arg t0 l hl
 ·exact zsx g hF m ar arg t0 l hl
 ·exact zrk g hF m ar arg t0 l hl
 ·exact zsg g hF m ar arg t0 l hl
 ·exact zsL g hF m ar arg t0 l hl op h
 ·exact zqU g hF m ar arg t0 l hl (hx.m zwy63).1 (hx.m zwy63).2.1
theorem zsy (c:RC) (hF:Fm c.g) (l:List Ty) (hl:l.length≤100) (h:c.x.op=46∨69≤c.x.op∧c.x.op≤73):XC 85 [] c (ZA c.g c.m c.x.op) uV l:=by
 obtain ⟨g,m,ar,op,arg,t0⟩:=c;have h:op=46∨op=69∨op=73∨(op=70∨op=71∨op=72):=by simp only at h;omega
 rcases h with rfl|rfl|rfl|h
 ·exact zhE (fun _ h=>zdm h) (zv4 g hF m ar arg t0 l hl)
 ·exact zhE (fun _ h=>zdm h) (zva g hF m ar arg t0 l hl)
 ·exact zhE (fun _ h=>zdm h) (zvf g hF m ar arg t0 l hl)
 ·exact zhE (fun _ h=>zdm h) (zvK g hF m ar arg t0 l hl op h)
theorem znO (c:RC) (hF:Fm c.g) (hgm:c.g.methods.length≤1000) (hx:XOk c.g c.x) (l:List Ty) (hl:l.length≤100) (h:54≤c.x.op∧c.x.op≤56):XC 81 [] c (Zd c.g c.m c.x) uV l:=by
 obtain ⟨g,m,ar,op,arg,t0⟩:=c;have h:op=54∨op=55∨op=56:=by simp only at h;omega
 rcases h with rfl|rfl|rfl
 ·exact zr9 g hF m ar arg t0 l hl
 ·exact zre g hF m ar arg t0 l hl
 ·exact zrA g hF m ar arg t0 l hl
theorem zvb (c:RC) (hF:Fm c.g) (hgm:c.g.methods.length≤1000) (hx:XOk c.g c.x) (l:List Ty) (hl:l.length≤100) (h:2≤c.x.op∧c.x.op≤7):XC 43 [] c (doS c.g c.ar c.m c.x) uV l:=by
 intro u;refine zI zf Tryz.func43 rfl zws Tryz.ntmps43 zwy63 _ rfl (fun gB hw1=>?_);have cv:=zrH c hF hgm hx l hl h;have hs:doS c.g c.ar c.m c.x l=(qZ c.g c.ar c.m c.x) l:=by
  unfold doS;first
   | (rw [if_pos zwy64])
 cases hS:(qZ c.g c.ar c.m c.x) l with
 | error e =>
  repeat' (first|refine zl 3 1 rfl rfl rfl ?_|refine zD ((yN u c l)) zh rfl rfl rfl tH (cv.bad hS u) ?_|refine sK ?_|refine sC (fun _=>?_) (fun _=>?_)|fail)
  exact zF (hs.trans hS)
 | ok p =>
  obtain ⟨⟨⟩,l1⟩:=p
  repeat' (first|(refine zn ?_;first|(refine aA 0 (cv.ok hS) ?_))|refine sK ?_|refine sC (fun _=>?_) (fun _=>?_)|fail)
  exact zX (hs.trans hS) (yw (.inl rfl) tH)
theorem zvE (c:RC) (hF:Fm c.g) (hgm:c.g.methods.length≤1000) (hx:XOk c.g c.x) (l:List Ty) (hl:l.length≤100) (h:13≤c.x.op∧c.x.op≤33):XC 43 [] c (doS c.g c.ar c.m c.x) uV l:=by
 intro u;refine zI zf Tryz.func43 rfl zws Tryz.ntmps43 zwy63 _ rfl (fun gB hw1=>?_);have cv:=zrI c hF hgm hx l hl h;have hs:doS c.g c.ar c.m c.x l=(qF c.g c.m c.x.op) l:=by
  unfold doS;first
   | (rw [if_neg zwy64];rw [if_pos zwy64])
 cases hS:(qF c.g c.m c.x.op) l with
 | error e =>
  repeat' (first|refine zl 5 1 rfl rfl rfl ?_|refine zD ((yN u c l)) zh rfl rfl rfl tH (cv.bad hS u) ?_|refine sK ?_|refine sC (fun _=>?_) (fun _=>?_)|fail)
  exact zF (hs.trans hS)
 | ok p =>
  obtain ⟨⟨⟩,l1⟩:=p
  repeat' (first|(refine zn ?_;first|(refine aA 0 (cv.ok hS) ?_))|refine sK ?_|refine sC (fun _=>?_) (fun _=>?_)|fail)
  exact zX (hs.trans hS) (yw (.inl rfl) tH)
theorem zsX (c:RC) (hF:Fm c.g) (hgm:c.g.methods.length≤1000) (hx:XOk c.g c.x) (l:List Ty) (hl:l.length≤100) (h:34≤c.x.op∧c.x.op≤42):XC 43 [] c (doS c.g c.ar c.m c.x) uV l:=by
 intro u;refine zI zf Tryz.func43 rfl zws Tryz.ntmps43 zwy63 _ rfl (fun gB hw1=>?_);have cv:=zoX c hF hgm hx l hl h;have hs:doS c.g c.ar c.m c.x l=(Zy c.x.op) l:=by
  unfold doS;first
   | (rw [if_neg zwy64];rw [if_neg zwy64];rw [if_pos zwy64])
 cases hS:(Zy c.x.op) l with
 | error e =>
  repeat' (first|refine zl 7 1 rfl rfl rfl ?_|refine zD ((yN u c l)) zh rfl rfl rfl tH (cv.bad hS u) ?_|refine sK ?_|refine sC (fun _=>?_) (fun _=>?_)|fail)
  exact zF (hs.trans hS)
 | ok p =>
  obtain ⟨⟨⟩,l1⟩:=p
  repeat' (first|(refine zn ?_;first|(refine aA 0 (cv.ok hS) ?_))|refine sK ?_|refine sC (fun _=>?_) (fun _=>?_)|fail)
  exact zX (hs.trans hS) (yw (.inl rfl) tH)
theorem zsV (c:RC) (hF:Fm c.g) (hgm:c.g.methods.length≤1000) (hx:XOk c.g c.x) (l:List Ty) (hl:l.length≤100) (h:43≤c.x.op∧c.x.op≤45):XC 43 [] c (doS c.g c.ar c.m c.x) uV l:=by
 intro u;refine zI zf Tryz.func43 rfl zws Tryz.ntmps43 zwy63 _ rfl (fun gB hw1=>?_);have cv:=zpp c hF hgm hx l hl h;have hs:doS c.g c.ar c.m c.x l=(qK c.g c.m c.x) l:=by
  unfold doS;first
   | (rw [if_neg zwy64];rw [if_neg zwy64];rw [if_neg zwy64];rw [if_pos zwy64])
 cases hS:(qK c.g c.m c.x) l with
 | error e =>
  repeat' (first|refine zl 9 1 rfl rfl rfl ?_|refine zD ((yN u c l)) zh rfl rfl rfl tH (cv.bad hS u) ?_|refine sK ?_|refine sC (fun _=>?_) (fun _=>?_)|fail)
  exact zF (hs.trans hS)
 | ok p =>
  obtain ⟨⟨⟩,l1⟩:=p
  repeat' (first|(refine zn ?_;first|(refine aA 0 (cv.ok hS) ?_))|refine sK ?_|refine sC (fun _=>?_) (fun _=>?_)|fail)
  exact zX (hs.trans hS) (yw (.inl rfl) tH)
theorem zq5 (c:RC) (hF:Fm c.g) (hgm:c.g.methods.length≤1000) (hx:XOk c.g c.x) (l:List Ty) (hl:l.length≤100) (h:48≤c.x.op∧c.x.op≤53):XC 43 [] c (doS c.g c.ar c.m c.x) uV l:=by
 intro u;refine zI zf Tryz.func43 rfl zws Tryz.ntmps43 zwy63 _ rfl (fun gB hw1=>?_);have cv:=zna c hF hgm hx l hl h;have hs:doS c.g c.ar c.m c.x l=(yH c.g c.m c.x) l:=by
  unfold doS;first
   | (rw [if_neg zwy64];rw [if_neg zwy64];rw [if_neg zwy64];rw [if_neg zwy64];rw [if_pos zwy64])
 cases hS:(yH c.g c.m c.x) l with
 | error e =>
  repeat' (first|refine zl 11 1 rfl rfl rfl ?_|refine zD ((yN u c l)) zh rfl rfl rfl tH (cv.bad hS u) ?_|refine sK ?_|refine sC (fun _=>?_) (fun _=>?_)|fail)
  exact zF (hs.trans hS)
 | ok p =>
  obtain ⟨⟨⟩,l1⟩:=p
  repeat' (first|(refine zn ?_;first|(refine aA 0 (cv.ok hS) ?_))|refine sK ?_|refine sC (fun _=>?_) (fun _=>?_)|fail)
  exact zX (hs.trans hS) (yw (.inl rfl) tH)
theorem zqX (c:RC) (hF:Fm c.g) (hgm:c.g.methods.length≤1000) (hx:XOk c.g c.x) (l:List Ty) (hl:l.length≤100) (h:54≤c.x.op∧c.x.op≤56):XC 43 [] c (doS c.g c.ar c.m c.x) uV l:=by
 intro u;refine zI zf Tryz.func43 rfl zws Tryz.ntmps43 zwy63 _ rfl (fun gB hw1=>?_);have cv:=znO c hF hgm hx l hl h;have hs:doS c.g c.ar c.m c.x l=(Zd c.g c.m c.x) l:=by
  unfold doS;first
   | (rw [if_neg zwy64];rw [if_neg zwy64];rw [if_neg zwy64];rw [if_neg zwy64];rw [if_neg zwy64];rw [if_pos zwy64])
 cases hS:(Zd c.g c.m c.x) l with
 | error e =>
  repeat' (first|refine zl 13 1 rfl rfl rfl ?_|refine zD ((yN u c l)) zh rfl rfl rfl tH (cv.bad hS u) ?_|refine sK ?_|refine sC (fun _=>?_) (fun _=>?_)|fail)
  exact zF (hs.trans hS)
 | ok p =>
  obtain ⟨⟨⟩,l1⟩:=p
  repeat' (first|(refine zn ?_;first|(refine aA 0 (cv.ok hS) ?_))|refine sK ?_|refine sC (fun _=>?_) (fun _=>?_)|fail)
  exact zX (hs.trans hS) (yw (.inl rfl) tH)
theorem zq3 (c:RC) (hF:Fm c.g) (hgm:c.g.methods.length≤1000) (hx:XOk c.g c.x) (l:List Ty) (hl:l.length≤100) (h:57≤c.x.op∧c.x.op≤61):XC 43 [] c (doS c.g c.ar c.m c.x) uV l:=by
 intro u;refine zI zf Tryz.func43 rfl zws Tryz.ntmps43 zwy63 _ rfl (fun gB hw1=>?_);have cv:=zny c hF hgm hx l hl h;have hs:doS c.g c.ar c.m c.x l=(yF c.g c.m c.x) l:=by
  unfold doS;first
   | (rw [if_neg zwy64];rw [if_neg zwy64];rw [if_neg zwy64];rw [if_neg zwy64];rw [if_neg zwy64];rw [if_neg zwy64];rw [if_pos zwy64])
 cases hS:(yF c.g c.m c.x) l with
 | error e =>
  repeat' (first|refine zl 15 1 rfl rfl rfl ?_|refine zD ((yN u c l)) zh rfl rfl rfl tH (cv.bad hS u) ?_|refine sK ?_|refine sC (fun _=>?_) (fun _=>?_)|fail)
  exact zF (hs.trans hS)
 | ok p =>
  obtain ⟨⟨⟩,l1⟩:=p
  repeat' (first|(refine zn ?_;first|(refine aA 0 (cv.ok hS) ?_))|refine sK ?_|refine sC (fun _=>?_) (fun _=>?_)|fail)
  exact zX (hs.trans hS) (yw (.inl rfl) tH)
theorem zpt (c:RC) (hF:Fm c.g) (hgm:c.g.methods.length≤1000) (hx:XOk c.g c.x) (l:List Ty) (hl:l.length≤100) (h:62≤c.x.op∧c.x.op≤66):XC 43 [] c (doS c.g c.ar c.m c.x) uV l:=by
 intro u;refine zI zf Tryz.func43 rfl zws Tryz.ntmps43 zwy63 _ rfl (fun gB hw1=>?_);have cv:=zlj c hF hgm hx l hl h;have hs:doS c.g c.ar c.m c.x l=(yA c.g c.m c.x) l:=by
  unfold doS;first
   | (rw [if_neg zwy64];rw [if_neg zwy64];rw [if_neg zwy64];rw [if_neg zwy64];rw [if_neg zwy64];rw [if_neg zwy64];rw [if_neg zwy64];rw [if_pos zwy64])
 cases hS:(yA c.g c.m c.x) l with
 | error e =>
  repeat' (first|refine zl 17 1 rfl rfl rfl ?_|refine zD ((yN u c l)) zh rfl rfl rfl tH (cv.bad hS u) ?_|refine sK ?_|refine sC (fun _=>?_) (fun _=>?_)|fail)
  exact zF (hs.trans hS)
 | ok p =>
  obtain ⟨⟨⟩,l1⟩:=p
  repeat' (first|(refine zn ?_;first|(refine aA 0 (cv.ok hS) ?_))|refine sK ?_|refine sC (fun _=>?_) (fun _=>?_)|fail)
  exact zX (hs.trans hS) (yw (.inl rfl) tH)
theorem znA (c:RC) (hF:Fm c.g) (hgm:c.g.methods.length≤1000) (hx:XOk c.g c.x) (l:List Ty) (hl:l.length≤100) (h:c.x.op=68):XC 43 [] c (doS c.g c.ar c.m c.x) uV l:=by
 intro u;refine zI zf Tryz.func43 rfl zws Tryz.ntmps43 zwy63 _ rfl (fun gB hw1=>?_);have cv:=zj0 c hF hgm hx l hl h;have hs:doS c.g c.ar c.m c.x l=(yu c.g c.m c.x) l:=by
  unfold doS;first
   | (rw [if_neg zwy64];rw [if_neg zwy64];rw [if_neg zwy64];rw [if_neg zwy64];rw [if_neg zwy64];rw [if_neg zwy64];rw [if_neg zwy64];rw [if_neg zwy64];rw [if_pos zwy64])
 cases hS:(yu c.g c.m c.x) l with
 | error e =>
  repeat' (first|refine zl 19 1 rfl rfl rfl ?_|refine zD ((yN u c l)) zh rfl rfl rfl tH (cv.bad hS u) ?_|refine sK ?_|refine sC (fun _=>?_) (fun _=>?_)|fail)
  exact zF (hs.trans hS)
 | ok p =>
  obtain ⟨⟨⟩,l1⟩:=p
  repeat' (first|(refine zn ?_;first|(refine aA 0 (cv.ok hS) ?_))|refine sK ?_|refine sC (fun _=>?_) (fun _=>?_)|fail)
  exact zX (hs.trans hS) (yw (.inl rfl) tH)
theorem zvc (c:RC) (hF:Fm c.g) (hgm:c.g.methods.length≤1000) (hx:XOk c.g c.x) (l:List Ty) (hl:l.length≤100) (h:c.x.op=46∨69≤c.x.op∧c.x.op≤73):XC 43 [] c (doS c.g c.ar c.m c.x) uV l:=by
 intro u;refine zI zf Tryz.func43 rfl zws Tryz.ntmps43 zwy63 _ rfl (fun gB hw1=>?_);have cv:=zsy c hF l hl h;rcases h with h|h
 all_goals
  skip;have hs:doS c.g c.ar c.m c.x l=(ZA c.g c.m c.x.op) l:=by
   unfold doS;first
    | (rw [if_neg zwy64];rw [if_neg zwy64];rw [if_neg zwy64];rw [if_neg zwy64];rw [if_neg zwy64];rw [if_neg zwy64];rw [if_neg zwy64];rw [if_neg zwy64];rw [if_neg zwy64];rw [if_pos zwy64])
  cases hS:(ZA c.g c.m c.x.op) l with
  | error e =>
   repeat' (first|refine zl 21 1 rfl rfl rfl ?_|refine zD ((yN u c l)) zh rfl rfl rfl tH (cv.bad hS u) ?_|refine sK ?_|refine sC (fun _=>?_) (fun _=>?_)|fail)
   exact zF (hs.trans hS)
  | ok p =>
   obtain ⟨⟨⟩,l1⟩:=p
   repeat' (first|(refine zn ?_;first|(refine aA 0 (cv.ok hS) ?_))|refine sK ?_|refine sC (fun _=>?_) (fun _=>?_)|fail)
   exact zX (hs.trans hS) (yw (.inl rfl) tH)
theorem zsi (c:RC) (hF:Fm c.g) (hgm:c.g.methods.length≤1000) (hx:XOk c.g c.x) (l:List Ty) (hl:l.length≤100) (h:c.x.op=1∨c.x.op=8∨c.x.op=9∨c.x.op=10∨c.x.op=11∨c.x.op=12∨c.x.op=47∨c.x.op=67∨c.x.op=74∨c.x.op=75):XC 43 [] c (doS c.g c.ar c.m c.x) uV l:=by
 intro u;refine zI zf Tryz.func43 rfl zws Tryz.ntmps43 zwy63 _ rfl (fun gB hw1=>?_);have cv:=zos c hF hgm hx l hl h;have hs:doS c.g c.ar c.m c.x l=yK c.g c.m c.x l:=by
  unfold doS;rcases h with h|h|h|h|h|h|h|h|h|h
  all_goals (rw [if_neg zwy88];rw [if_neg zwy88];rw [if_neg zwy88];rw [if_neg zwy88];rw [if_neg zwy88];rw [if_neg zwy88];rw [if_neg zwy88];rw [if_neg zwy88];rw [if_neg zwy88];rw [if_neg zwy88])
 cases hS:(yK c.g c.m c.x) l with
 | error e =>
  rcases h with h|h|h|h|h|h|h|h|h|h
  all_goals
   repeat' (first|refine zl 1 1 rfl rfl rfl ?_|refine zD ((yN u c l)) zh rfl rfl rfl tH (cv.bad hS u) ?_|refine sK ?_|refine sC (fun _=>?_) (fun _=>?_)|fail)
   exact zF (hs.trans hS)
 | ok p =>
  obtain ⟨⟨⟩,l1⟩:=p;rcases h with h|h|h|h|h|h|h|h|h|h
  all_goals
   repeat' (first|(refine zn ?_;first|(refine aA 0 (cv.ok hS) ?_))|refine sK ?_|refine sC (fun _=>?_) (fun _=>?_)|fail)
   exact zX (hs.trans hS) (yw (.inl rfl) tH)
theorem zvw (c:RC) (hF:Fm c.g) (hgm:c.g.methods.length≤1000) (hx:XOk c.g c.x) (l:List Ty) (hl:l.length≤100):XC 43 [] c (doS c.g c.ar c.m c.x) uV l:=by
 have h1:=hx.lo;have h2:=hx.hi;by_cases h_vars:2≤c.x.op∧c.x.op≤7
 ·exact zvb c hF hgm hx l hl h_vars
 by_cases h_sums:13≤c.x.op∧c.x.op≤33
 ·exact zvE c hF hgm hx l hl h_sums
 by_cases h_jumps:34≤c.x.op∧c.x.op≤42
 ·exact zsX c hF hgm hx l hl h_jumps
 by_cases h_calls:43≤c.x.op∧c.x.op≤45
 ·exact zsV c hF hgm hx l hl h_calls
 by_cases h_fields:48≤c.x.op∧c.x.op≤53
 ·exact zq5 c hF hgm hx l hl h_fields
 by_cases h_places:54≤c.x.op∧c.x.op≤56
 ·exact zqX c hF hgm hx l hl h_places
 by_cases h_arrays:57≤c.x.op∧c.x.op≤61
 ·exact zq3 c hF hgm hx l hl h_arrays
 by_cases h_objects:62≤c.x.op∧c.x.op≤66
 ·exact zpt c hF hgm hx l hl h_objects
 by_cases h_delegate:c.x.op=68
 ·exact znA c hF hgm hx l hl h_delegate
 by_cases h_ends:c.x.op=46∨69≤c.x.op∧c.x.op≤73
 ·exact zvc c hF hgm hx l hl h_ends
 exact zsi c hF hgm hx l hl zwy62
def ztv:Except Int (Unit × List Ty)→PV
 | .error e=>.tup [.base (.slice none 0 0),pi e]
 | .ok p=>.tup [tys p.2,pi 0]
theorem zwk44 {G:Prop} (h:G:=by repeat' (first|(have:=b0;refine zl 8 1 rfl rfl rfl ?_)|(have:=b0;refine zbr (yN u ⟨g,m,Xp g m,x⟩ l) (rbH (.base (.slice none 0 0)) (pi 0) p1 p2) zh rfl rfl rfl zwy68 rfl (cd.bad hS u) ?_)|refine ztZ 0 1000 rfl rfl (fun u=>?_)|refine zgO 0 rfl (zj5 _) ?_|refine ZC zf 3 rfl rfl rfl rfl rfl rfl rfl ?_|refine zV 22 20 rfl zws zws zws zws zws ?_|refine zq rfl (Wu zf rfl rfl (.inl rfl) rfl rfl zwy105 zwy64) rfl rfl ?_|refine zq rfl (QH zf rfl rfl rfl rfl rfl) rfl rfl ?_|(refine shC ?_;first|refine qC cA ?_)|(refine shX ?_;first|refine zy rfl (ah hm0 hem) rfl rfl ?_|refine zq rfl (ah hm0 hem) rfl rfl ?_|refine zy rfl (ah h0 hei) rfl rfl ?_|refine zq rfl (ah h0 hei) rfl rfl ?_)|(have:=b1;refine zn ?_;first|(refine aA 0 (cd.ok hS) ?_))|(refine Qx ?_;first|refine WX 0 rfl rfl rfl rfl rfl rfl ?_)|refine sK ?_|refine sC (fun _=>?_) (fun _=>?_)|(have:=b0;exact ⟨_,_,_,[8,9],[.box 1 0,.box 2 0],[p1,p2],rbH (.base (.slice none 0 0)) (pi 0) p1 p2,rbH (.base (.slice none 0 0)) (pi e) p1 p2,[.base (.slice none 0 0),pi e],rfl,rfl,tH,⟨⟨2001,rfl⟩,⟨2002,rfl⟩,trivial⟩,⟨⟨2001,rfl⟩,⟨2002,rfl⟩,trivial⟩,zrD p1 p2 e,rfl,rfl,by decide,tS,rfl,rfl⟩)|(have:=b1;exact ⟨_,_,_,[8,9],[.box 1 0,.box 2 0],[p1,p2],rbH (tys l2) (pi 0) p1 p2,rbH (tys l2) (pi 0) p1 p2,[tys l2,pi 0],rfl,rfl,tH,⟨⟨2001,rfl⟩,⟨2002,rfl⟩,trivial⟩,⟨⟨2001,rfl⟩,⟨2002,rfl⟩,trivial⟩,zpn _ _ p1 p2,rfl,rfl,by decide,tS,rfl,rfl⟩)|fail)):G:=h
set_option maxHeartbeats 4000000 in
theorem zsj (g:Img) (hF:Fm g) (hgm:g.methods.length≤1000) (mi at_:Int) (l:List Ty) (hl:l.length≤100) (hm:mOk g mi) (hp:(mAt g mi).params.length≤100) (h0:0≤at_) (h1:at_.toNat < (mAt g mi).code.length) (hx:XOk g (qm (mAt g mi) at_)) :
  ACall Tryz.prog 20 [.ptr (zO g) 0,pi mi,pi at_,tys l] (ztv (stepS g mi at_ l)):=by
 have hem:(g.methods.map yh)[mi.toNat]?=some (yh (mAt g mi)):=by rw [mAt,zT hm.2];exact zY hm.2
 have hei:((mAt g mi).code.map qx)[at_.toNat]?=some (qx (qm (mAt g mi) at_)):=by rw [qm,zT h1];exact zY h1
 have hm0:=hm.1;have hmlt:mi < g.methods.length:=by have:=hm.2;omega
 have halt:at_ < (mAt g mi).code.length:=by omega
 have cA:=zbv g (mAt g mi) zwy62;have hst:stepS g mi at_ l=doS g (Xp g (mAt g mi)) (mAt g mi) (qm (mAt g mi) at_) l:=rfl;rw [hst];have cd:=zvw ⟨g,mAt g mi,Xp g (mAt g mi),qm (mAt g mi) at_⟩ hF hgm hx l hl;generalize mAt g mi=m at *;generalize qm m at_=x at *;refine zkJ zf Tryz.func20 rfl zws Tryz.ntmps20 zwy63 _ rfl (fun hw=>?_);refine za0 (za3 fun gB=>?_)
 repeat' (first|refine ZC zf 1 rfl rfl rfl rfl rfl rfl rfl ?_|refine ZC zf 2 rfl rfl rfl rfl rfl rfl rfl ?_|refine sK ?_|refine sC (fun _=>?_) (fun _=>?_)|fail)
 refine za0 (za3 fun gB=>?_)
 repeat' (first|refine zy rfl (Va (b:=false) rfl Tryz.underlying53 rfl rfl) rfl rfl ?_|refine zq rfl (Va (b:=false) rfl Tryz.underlying53 rfl rfl) rfl rfl ?_|refine sK ?_|refine sC (fun _=>?_) (fun _=>?_)|fail)
 refine za0 (za3 fun gB=>?_)
 repeat' (first|(refine shX ?_;first|refine zy rfl (ah hm0 hem) rfl rfl ?_|refine zq rfl (ah hm0 hem) rfl rfl ?_)|refine sK ?_|refine sC (fun _=>?_) (fun _=>?_)|fail)
 refine zhz 1 2001 rfl rfl fun p1=>zhz 2 2002 rfl rfl fun p2=>?_
 refine za0 (zgb (k:=1) rfl rfl rfl rfl rfl fun gB=>?_)
 repeat' (first|refine sK ?_|refine sC (fun _=>?_) (fun _=>?_)|fail)
 refine ⟨_,_,[p1,p2],rfl,⟨⟨2001,rfl⟩,⟨2002,rfl⟩,trivial⟩,?_⟩;refine za3 fun gB=>?_
 cases hS:doS g (Xp g m) m x l with
 | error e =>
  have b0:=();exact zwk44
 | ok p =>
  obtain ⟨⟨⟩,l2⟩:=p;have b1:=();exact zwk44
end Go.Cg
