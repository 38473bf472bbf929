/- A part of the walks by abstract values: no statement of its own. -/
import Derived.Test.YtdbgicaoddibdaaGreatT28
import Derived.Test.YtdbgicaoddibdaaGreatT15
set_option linter.unusedVariables false
set_option linter.unusedSimpArgs false
namespace Go.Cg
open Go.Proofs
set_option maxHeartbeats 20000000
theorem zwk42 {G:Prop} (h:G:=by repeat' (first|(have:=b0;refine zl 5 3 rfl rfl rfl ?_)|(have:=b0;refine zD ((yN u ⟨g,m,ar,⟨54,arg,t0⟩⟩ l1)) zh rfl rfl rfl tH (cq.bad hq u) ?_)|refine Yf 6 5 1 ((1,.cell (.pv (yJ t0)))::zhs u) ⟨g,m,ar,⟨54,arg,t0⟩⟩ l l1 (tV t) none rfl zws zws zws zws zws rfl zws rfl rfl tH rfl rfl (fun v hv=>by cases hv) ?_|refine ⟨⟨rfl,zaB cp hp rfl rfl rfl rfl rfl rfl⟩,?_⟩|refine zy rfl (aj (ps:=(yO t0))) rfl rfl ?_|refine zq rfl (aj (ps:=(yO t0))) rfl rfl ?_|intro _|(have:=b1;refine zD [] zh rfl rfl rfl tH (yc hn 10) ?_)|(have:=b2;refine QL ?_)|(refine shC ?_;first|refine qC cr ?_|(have:=b2;refine qC (zH hn 10) ?_))|(have:=b3;refine zn ?_;first|(refine aA 0 (cq.ok hq) ?_))|refine sK ?_|refine sC (fun _=>?_) (fun _=>?_)|exact zF hw|exact zX hw (yw (.inl rfl) tH)|fail)):G:=h
theorem zr9 (g:Img) (hF:Fm g) (m:Me) (ar:List Ty) (arg:Int) (t0:Ty) (l:List Ty) (hl:l.length≤100):XC 81 [] (⟨g,m,ar,⟨54,arg,t0⟩⟩:RC) (Zd g m ⟨54,arg,t0⟩) uV l:=by
 intro u;refine zI zf Tryz.func81 rfl zws Tryz.ntmps81 zwy63 _ rfl (fun gB hw1=>?_);have cr:=ZX t0;have cp:=yg ⟨g,m,ar,⟨54,arg,t0⟩⟩ l zwy62;rcases Yn l with hp|⟨t,l1,hp,_⟩
 ·have hw:(Zd g m ⟨54,arg,t0⟩) l=.error 9:=by simp [Zd,zB,hp]
  repeat' (first|refine Yf 6 5 1 ((1,.cell (.pv (yJ t0)))::zhs u) ⟨g,m,ar,⟨54,arg,t0⟩⟩ l l (tV t0) (some (flt 9)) rfl zws zws zws zws zws rfl zws rfl rfl tH rfl rfl (fun v hv=>by cases hv;exact zF hw) ?_|refine ⟨⟨rfl,zfN (u:=u) cp hp rfl rfl tH rfl⟩,?_⟩|refine zy rfl (aj (ps:=(yO t0))) rfl rfl ?_|refine zq rfl (aj (ps:=(yO t0))) rfl rfl ?_|(intro h;cases h)|(refine shC ?_;first|refine qC cr ?_)|refine sK ?_|refine sC (fun _=>?_) (fun _=>?_)|fail)
 ·have hl1:l1.length≤100:=by have:=Xx hp;omega
  cases hn:tyB t (rfT t0)
  ·have hw:(Zd g m ⟨54,arg,t0⟩) l=.error 10:=by simp [Zd,zB,hp,zL,hn]
   have b1:=();exact zwk42
  ·have cq:=zU ⟨g,m,ar,⟨54,arg,t0⟩⟩ [t0] l1 zwy62 zwy63;cases hq:(yX m.max [t0]) l1 with
   | error e =>
    have hw:(Zd g m ⟨54,arg,t0⟩) l=.error e:=by simp [Zd,zB,hp,zL,hn,hq]
    have b0:=();have b2:=();exact zwk42
   | ok p =>
    obtain ⟨⟨⟩,l2⟩:=p;have hw:(Zd g m ⟨54,arg,t0⟩) l=.ok ((),l2):=by simp [Zd,zB,hp,zL,hn,hq]
    have b2:=();have b3:=();exact zwk42
theorem zwk43 {G:Prop} (h:G:=by repeat' (first|refine Yf 6 5 1 ((1,.cell (.pv (yJ t0)))::zhs u) ⟨g,m,ar,⟨56,arg,t0⟩⟩ l l1 (tV t) none rfl zws zws zws zws zws rfl zws rfl rfl tH rfl rfl (fun v hv=>by cases hv) ?_|refine ⟨⟨rfl,zaB cp hp rfl rfl rfl rfl rfl rfl⟩,?_⟩|refine zy rfl (aj (ps:=(yO t0))) rfl rfl ?_|refine zq rfl (aj (ps:=(yO t0))) rfl rfl ?_|intro _|(have:=b0;refine zD [] zh rfl rfl rfl tH (yc hn 10) ?_)|(have:=b1;refine QL ?_)|(refine shC ?_;first|refine qC cr ?_|(have:=b1;refine qC (zH hn 10) ?_))|refine sK ?_|refine sC (fun _=>?_) (fun _=>?_)|exact zF hw|exact zX hw (yw (.inl rfl) tH)|fail)):G:=h
theorem zrA (g:Img) (hF:Fm g) (m:Me) (ar:List Ty) (arg:Int) (t0:Ty) (l:List Ty) (hl:l.length≤100):XC 81 [] (⟨g,m,ar,⟨56,arg,t0⟩⟩:RC) (Zd g m ⟨56,arg,t0⟩) uV l:=by
 intro u;refine zI zf Tryz.func81 rfl zws Tryz.ntmps81 zwy63 _ rfl (fun gB hw1=>?_);have cr:=ZX t0;have cp:=yg ⟨g,m,ar,⟨56,arg,t0⟩⟩ l zwy62;rcases Yn l with hp|⟨t,l1,hp,_⟩
 ·have hw:(Zd g m ⟨56,arg,t0⟩) l=.error 9:=by simp [Zd,zB,hp]
  repeat' (first|refine Yf 6 5 1 ((1,.cell (.pv (yJ t0)))::zhs u) ⟨g,m,ar,⟨56,arg,t0⟩⟩ l l (tV t0) (some (flt 9)) rfl zws zws zws zws zws rfl zws rfl rfl tH rfl rfl (fun v hv=>by cases hv;exact zF hw) ?_|refine ⟨⟨rfl,zfN (u:=u) cp hp rfl rfl tH rfl⟩,?_⟩|refine zy rfl (aj (ps:=(yO t0))) rfl rfl ?_|refine zq rfl (aj (ps:=(yO t0))) rfl rfl ?_|(intro h;cases h)|(refine shC ?_;first|refine qC cr ?_)|refine sK ?_|refine sC (fun _=>?_) (fun _=>?_)|fail)
 ·have hl1:l1.length≤100:=by have:=Xx hp;omega
  cases hn:tyB t (rfT t0)
  ·have hw:(Zd g m ⟨56,arg,t0⟩) l=.error 10:=by simp [Zd,zB,hp,zL,hn]
   have b0:=();exact zwk43
  ·have hw:(Zd g m ⟨56,arg,t0⟩) l=.ok ((),l1):=by simp [Zd,zB,zG,hp,zL,hn]
   have b1:=();exact zwk43
set_option maxHeartbeats 20000000
theorem zwk59 {G:Prop} (h:G:=by repeat' (first|(have:=b0;refine zl 3 1 rfl rfl rfl ?_)|(have:=b0;refine zD ((yN u c l)) zh rfl rfl rfl tH ((yg c _ zwy62).bad hS1 u) ?_)|(have:=b1;refine zl 4 6 rfl rfl rfl ?_)|(have:=b1;refine zD ([]) zh rfl rfl rfl tH (yc zwy93 10) ?_)|(refine shC ?_;first|(have:=b2;refine qC cn ?_)|(have:=b3;refine qC co ?_)|(have:=b4;refine zy rfl (zJ rfl rfl (zH zwy93 10)) rfl rfl ?_)|(have:=b4;refine zq rfl (zJ rfl rfl (zH zwy93 10)) rfl rfl ?_)|(have:=b5;refine zy rfl (zJ rfl rfl (zH zwy89 10)) rfl rfl ?_)|(have:=b5;refine zq rfl (zJ rfl rfl (zH zwy89 10)) rfl rfl ?_))|(have:=b2;refine zn ?_;first|(refine zu 0 zh rfl rfl ((yg c _ zwy62).ok hS1) rfl rfl rfl rfl rfl ?_))|refine sK ?_|refine sC (fun _=>?_) (fun _=>?_)|exact zF hw|exact zX hw (yw (.inl rfl) tH)|fail)):G:=h
theorem zt4 (g:Img) (hF:Fm g) (m:Me) (ar:List Ty) (arg:Int) (t0:Ty) (l:List Ty) (hl:l.length≤100) (op:Int) (ho:op=35∨op=36):XC 78 [] (⟨g,m,ar,⟨op,arg,t0⟩⟩:RC) (Zy op) uV l:=by
 let c:RC:=⟨g,m,ar,⟨op,arg,t0⟩⟩
 rcases ho with rfl|rfl
 all_goals
  intro u;refine zI zf Tryz.func78 rfl zws Tryz.ntmps78 zwy63 _ rfl (fun gB hw1=>?_);cases hS1:(YU) l with
  | error e =>
   have hw:(Zy c.x.op) l=.error e:=by simp [Zy,c,zB,zG,hS1]
   have b0:=();exact zwk59
  | ok p =>
   obtain ⟨t,l1⟩:=p;have hl1:l1.length≤100:=by have:=Xx hS1;omega
   have cn:=zby t;have co:=qQ t;cases hC3:(nuT t)
   ·rw [hC3] at cn;cases hC4:(object t)
    ·rw [hC4] at co;have hw:(Zy c.x.op) l=.error 10:=by simp [Zy,c,zB,zG,hS1,hC3,hC4,zL,emptyS]
     have b1:=();have b2:=();have b3:=();exact zwk59
    ·rw [hC4] at co;have hw:(Zy c.x.op) l=.ok ((),l1):=by simp [Zy,c,zB,zG,hS1,hC3,hC4,zL,emptyS]
     have b2:=();have b3:=();have b4:=();exact zwk59
   ·rw [hC3] at cn;have hw:(Zy c.x.op) l=.ok ((),l1):=by simp [Zy,c,zB,zG,hS1,hC3,zL,emptyS]
    have b2:=();have b5:=();exact zwk59
theorem zuN (g:Img) (hF:Fm g) (m:Me) (ar:List Ty) (arg:Int) (t0:Ty) (l:List Ty) (hl:l.length≤100) (op:Int) (ho:op=37∨op=42):XC 78 [] (⟨g,m,ar,⟨op,arg,t0⟩⟩:RC) (Zy op) uV l:=by
 let c:RC:=⟨g,m,ar,⟨op,arg,t0⟩⟩
 rcases ho with rfl|rfl
 all_goals
  intro u;refine zI zf Tryz.func78 rfl zws Tryz.ntmps78 zwy63 _ rfl (fun gB hw1=>?_);cases hS1:(Zi) l with
  | error e =>
   have hw:(Zy c.x.op) l=.error e:=by simp [Zy,c,zB,zG,hS1]
   repeat' (first|refine zl 7 1 rfl rfl rfl ?_|refine zD ((yN u c l)) zh rfl rfl rfl tH ((Vj c _ zwy62).bad hS1 u) ?_|refine sK ?_|refine sC (fun _=>?_) (fun _=>?_)|fail)
   exact zF hw
  | ok p =>
   obtain ⟨⟨⟩,l1⟩:=p;have hl1:l1.length≤100:=by have:=zes hS1;omega
   have hw:(Zy c.x.op) l=.ok ((),l1):=by simp [Zy,c,zB,zG,hS1]
   repeat' (first|(refine zn ?_;first|(refine zu 0 zh rfl rfl ((Vj c _ zwy62).ok hS1) rfl rfl rfl rfl rfl ?_))|refine sK ?_|refine sC (fun _=>?_) (fun _=>?_)|fail)
   exact zX hw (yw (.inl rfl) tH)
theorem zue (g:Img) (hF:Fm g) (m:Me) (ar:List Ty) (arg:Int) (t0:Ty) (l:List Ty) (hl:l.length≤100) (op:Int) (ho:op=38∨op=39∨op=40∨op=41):XC 78 [] (⟨g,m,ar,⟨op,arg,t0⟩⟩:RC) (Zy op) uV l:=by
 let c:RC:=⟨g,m,ar,⟨op,arg,t0⟩⟩
 rcases ho with rfl|rfl|rfl|rfl
 all_goals
  intro u;refine zI zf Tryz.func78 rfl zws Tryz.ntmps78 zwy63 _ rfl (fun gB hw1=>?_);cases hS1:(Zv) l with
  | error e =>
   have hw:(Zy c.x.op) l=.error e:=by simp [Zy,c,zB,zG,hS1]
   repeat' (first|refine zl 12 1 rfl rfl rfl ?_|refine zD ((yN u c l)) zh rfl rfl rfl tH ((YA c _ zwy62).bad hS1 u) ?_|refine sK ?_|refine sC (fun _=>?_) (fun _=>?_)|fail)
   exact zF hw
  | ok p =>
   obtain ⟨t,l1⟩:=p;have hl1:l1.length≤100:=by have:=za2 hS1;omega
   have hw:(Zy c.x.op) l=.ok ((),l1):=by simp [Zy,c,zB,zG,hS1]
   repeat' (first|(refine zn ?_;first|(refine zu 0 zh rfl rfl ((YA c _ zwy62).ok hS1) rfl rfl rfl rfl rfl ?_))|refine sK ?_|refine sC (fun _=>?_) (fun _=>?_)|fail)
   exact zX hw (yw (.inl rfl) tH)
theorem zte (g:Img) (hF:Fm g) (m:Me) (ar:List Ty) (arg:Int) (t0:Ty) (l:List Ty) (hl:l.length≤100):XC 78 [] (⟨g,m,ar,⟨34,arg,t0⟩⟩:RC) (Zy 34) uV l:=by
 intro u;refine zI zf Tryz.func78 rfl zws Tryz.ntmps78 zwy63 _ rfl (fun gB hw1=>?_);have hw:(Zy 34) l=.ok ((),l):=by simp [Zy,zB,zG]
 repeat' (first|refine sK ?_|refine sC (fun _=>?_) (fun _=>?_)|fail)
 exact zX hw (yw (.inl rfl) tH)
theorem zwk60 {G:Prop} (h:G:=by repeat' (first|(have:=b0;refine zl 2 13 rfl rfl rfl ?_)|(have:=b0;refine zD ([]) zh rfl rfl rfl tH (yc zwy66 8) ?_)|(have:=b1;refine zl 4 2 rfl rfl rfl ?_)|(have:=b1;refine zD ((yN u ⟨g,m,ar,⟨62,arg,t0⟩⟩ l)) zh rfl rfl rfl tH ((qw ⟨g,m,ar,⟨62,arg,t0⟩⟩ hF t0 _ zwy62).bad hS3 u) ?_)|(have:=b2;refine zl 5 3 rfl rfl rfl ?_)|(have:=b2;refine zD ((yN u ⟨g,m,ar,⟨62,arg,t0⟩⟩ l3)) zh rfl rfl rfl tH ((zU ⟨g,m,ar,⟨62,arg,t0⟩⟩ [kTy 4] _ zwy62 zwy63).bad hS4 u) ?_)|refine zy rfl (aj (ps:=(yO t0))) rfl rfl ?_|refine zq rfl (aj (ps:=(yO t0))) rfl rfl ?_|(refine shC ?_;first|refine qC cb ?_|(have:=b3;refine zy rfl (zJ rfl rfl (zH zwy66 8)) rfl rfl ?_)|(have:=b3;refine zq rfl (zJ rfl rfl (zH zwy66 8)) rfl rfl ?_)|refine qC (zQ 4) ?_)|(have:=b2;refine zn ?_;first|(refine zu 0 zh rfl rfl ((qw ⟨g,m,ar,⟨62,arg,t0⟩⟩ hF t0 _ zwy62).ok hS3) rfl rfl rfl rfl rfl ?_))|(have:=b4;refine zn ?_;first|(refine zu 0 zh rfl rfl ((qw ⟨g,m,ar,⟨62,arg,t0⟩⟩ hF t0 _ zwy62).ok hS3) rfl rfl rfl rfl rfl ?_)|(refine zu 0 zh rfl rfl ((zU ⟨g,m,ar,⟨62,arg,t0⟩⟩ [kTy 4] _ zwy62 zwy63).ok hS4) rfl rfl rfl rfl rfl ?_))|refine sK ?_|refine sC (fun _=>?_) (fun _=>?_)|exact zF hw|exact zX hw (yw (.inr rfl) tH)|fail)):G:=h
theorem zpH (g:Img) (hF:Fm g) (m:Me) (ar:List Ty) (arg:Int) (t0:Ty) (l:List Ty) (hl:l.length≤100):XC 83 [] (⟨g,m,ar,⟨62,arg,t0⟩⟩:RC) (yA g m ⟨62,arg,t0⟩) uV l:=by
 intro u;refine zI zf Tryz.func83 rfl zws Tryz.ntmps83 zwy63 _ rfl (fun gB hw1=>?_);have co:=qQ t0;have cb:=zch t0;have cr:=ZX t0;cases hC1:(zgq t0)
 ·rw [hC1] at cb;have hw:(yA g m ⟨62,arg,t0⟩) l=.error 8:=by simp [yA,zB,zG,hC1,zL,emptyS]
  have b0:=();exact zwk60
 ·rw [hC1] at cb;cases hS3:(YL g t0) l with
  | error e =>
   have hw:(yA g m ⟨62,arg,t0⟩) l=.error e:=by simp [yA,zB,zG,hC1,zL,emptyS,hS3]
   have b1:=();have b3:=();exact zwk60
  | ok p =>
   obtain ⟨⟨⟩,l3⟩:=p;have hl3:l3.length≤100:=by have:=Vx hS3;omega
   cases hS4:(yX m.max [kTy 4]) l3 with
   | error e =>
    have hw:(yA g m ⟨62,arg,t0⟩) l=.error e:=by simp [yA,zB,zG,hC1,zL,emptyS,hS3,hS4]
    have b2:=();have b3:=();exact zwk60
   | ok p =>
    obtain ⟨⟨⟩,l4⟩:=p;have hw:(yA g m ⟨62,arg,t0⟩) l=.ok ((),l4):=by simp [yA,zB,zG,hC1,zL,emptyS,hS3,hS4]
    have b3:=();have b4:=();exact zwk60
theorem zwk61 {G:Prop} (h:G:=by repeat' (first|(have:=b0;refine zl 2 13 rfl rfl rfl ?_)|(have:=b0;refine zD ([]) zh rfl rfl rfl tH (yc zwy66 8) ?_)|(have:=b1;refine zl 6 1 rfl rfl rfl ?_)|(have:=b1;refine zD ((yN u ⟨g,m,ar,⟨63,arg,t0⟩⟩ l)) zh rfl rfl rfl tH ((yg ⟨g,m,ar,⟨63,arg,t0⟩⟩ _ zwy62).bad hS3 u) ?_)|(have:=b2;refine zl 6 3 rfl rfl rfl ?_)|(have:=b2;refine zD ([]) zh rfl rfl rfl tH (yc zwy77 10) ?_)|(have:=b3;refine zl 9 3 rfl rfl rfl ?_)|(have:=b3;refine zD ((yN u ⟨g,m,ar,⟨63,arg,t0⟩⟩ l3)) zh rfl rfl rfl tH ((zU ⟨g,m,ar,⟨63,arg,t0⟩⟩ [rfT t0] _ zwy62 zwy63).bad hS7 u) ?_)|refine zy rfl (aj (ps:=(yO t0))) rfl rfl ?_|refine zq rfl (aj (ps:=(yO t0))) rfl rfl ?_|(refine shC ?_;first|refine qC cb ?_|(have:=b4;refine zy rfl (zJ rfl rfl (zH zwy66 8)) rfl rfl ?_)|(have:=b4;refine zq rfl (zJ rfl rfl (zH zwy66 8)) rfl rfl ?_)|(have:=b5;refine qC cx ?_)|(have:=b6;refine zy rfl (zJ rfl rfl (zH zwy77 10)) rfl rfl ?_)|(have:=b6;refine zq rfl (zJ rfl rfl (zH zwy77 10)) rfl rfl ?_)|refine qC cr ?_)|(have:=b7;refine zn ?_;first|(refine zu 0 zh rfl rfl ((yg ⟨g,m,ar,⟨63,arg,t0⟩⟩ _ zwy62).ok hS3) rfl rfl rfl rfl rfl ?_))|(have:=b8;refine zn ?_;first|(refine zu 0 zh rfl rfl ((yg ⟨g,m,ar,⟨63,arg,t0⟩⟩ _ zwy62).ok hS3) rfl rfl rfl rfl rfl ?_)|(refine zu 0 zh rfl rfl ((zU ⟨g,m,ar,⟨63,arg,t0⟩⟩ [rfT t0] _ zwy62 zwy63).ok hS7) rfl rfl rfl rfl rfl ?_))|refine sK ?_|refine sC (fun _=>?_) (fun _=>?_)|exact zF hw|exact zX hw (yw (.inl rfl) tH)|fail)):G:=h
theorem zoR (g:Img) (hF:Fm g) (m:Me) (ar:List Ty) (arg:Int) (t0:Ty) (l:List Ty) (hl:l.length≤100):XC 83 [] (⟨g,m,ar,⟨63,arg,t0⟩⟩:RC) (yA g m ⟨63,arg,t0⟩) uV l:=by
 intro u;refine zI zf Tryz.func83 rfl zws Tryz.ntmps83 zwy63 _ rfl (fun gB hw1=>?_);have co:=qQ t0;have cb:=zch t0;have cr:=ZX t0;cases hC1:(zgq t0)
 ·rw [hC1] at cb;have hw:(yA g m ⟨63,arg,t0⟩) l=.error 8:=by simp [yA,zB,zG,hC1,zL,emptyS]
  have b0:=();exact zwk61
 ·rw [hC1] at cb;cases hS3:(YU) l with
  | error e =>
   have hw:(yA g m ⟨63,arg,t0⟩) l=.error e:=by simp [yA,zB,zG,hC1,zL,emptyS,hS3]
   have b1:=();have b4:=();exact zwk61
  | ok p =>
   obtain ⟨t,l3⟩:=p;have hl3:l3.length≤100:=by have:=Xx hS3;omega
   have cx:=qQ t;cases hC5:(object t)
   ·rw [hC5] at cx;have hw:(yA g m ⟨63,arg,t0⟩) l=.error 10:=by simp [yA,zB,zG,hC1,zL,emptyS,hS3,hC5,zL,emptyS]
    have b2:=();have b4:=();have b5:=();have b7:=();exact zwk61
   ·rw [hC5] at cx;cases hS7:(yX m.max [rfT t0]) l3 with
    | error e =>
     have hw:(yA g m ⟨63,arg,t0⟩) l=.error e:=by simp [yA,zB,zG,hC1,zL,emptyS,hS3,hC5,zL,emptyS,hS7]
     have b3:=();have b4:=();have b5:=();have b6:=();have b7:=();exact zwk61
    | ok p =>
     obtain ⟨⟨⟩,l7⟩:=p;have hw:(yA g m ⟨63,arg,t0⟩) l=.ok ((),l7):=by simp [yA,zB,zG,hC1,zL,emptyS,hS3,hC5,zL,emptyS,hS7]
     have b4:=();have b5:=();have b6:=();have b8:=();exact zwk61
theorem zwk62 {G:Prop} (h:G:=by repeat' (first|(have:=b0;refine zl 2 13 rfl rfl rfl ?_)|(have:=b0;refine zD ([]) zh rfl rfl rfl tH (yc zwy66 8) ?_)|(have:=b1;refine zl 6 1 rfl rfl rfl ?_)|(have:=b1;refine zD ((yN u ⟨g,m,ar,⟨64,arg,t0⟩⟩ l)) zh rfl rfl rfl tH ((yg ⟨g,m,ar,⟨64,arg,t0⟩⟩ _ zwy62).bad hS3 u) ?_)|(have:=b2;refine zl 6 3 rfl rfl rfl ?_)|(have:=b2;refine zD ([]) zh rfl rfl rfl tH (yc zwy77 10) ?_)|(have:=b3;refine zl 9 3 rfl rfl rfl ?_)|(have:=b3;refine zD ((yN u ⟨g,m,ar,⟨64,arg,t0⟩⟩ l3)) zh rfl rfl rfl tH ((zU ⟨g,m,ar,⟨64,arg,t0⟩⟩ [t0] _ zwy62 zwy63).bad hS7 u) ?_)|refine zy rfl (aj (ps:=(yO t0))) rfl rfl ?_|refine zq rfl (aj (ps:=(yO t0))) rfl rfl ?_|(refine shC ?_;first|refine qC cb ?_|(have:=b4;refine zy rfl (zJ rfl rfl (zH zwy66 8)) rfl rfl ?_)|(have:=b4;refine zq rfl (zJ rfl rfl (zH zwy66 8)) rfl rfl ?_)|(have:=b5;refine qC cx ?_)|(have:=b6;refine zy rfl (zJ rfl rfl (zH zwy77 10)) rfl rfl ?_)|(have:=b6;refine zq rfl (zJ rfl rfl (zH zwy77 10)) rfl rfl ?_))|(have:=b7;refine zn ?_;first|(refine zu 0 zh rfl rfl ((yg ⟨g,m,ar,⟨64,arg,t0⟩⟩ _ zwy62).ok hS3) rfl rfl rfl rfl rfl ?_))|(have:=b8;refine zn ?_;first|(refine zu 0 zh rfl rfl ((yg ⟨g,m,ar,⟨64,arg,t0⟩⟩ _ zwy62).ok hS3) rfl rfl rfl rfl rfl ?_)|(refine zu 0 zh rfl rfl ((zU ⟨g,m,ar,⟨64,arg,t0⟩⟩ [t0] _ zwy62 zwy63).ok hS7) rfl rfl rfl rfl rfl ?_))|refine sK ?_|refine sC (fun _=>?_) (fun _=>?_)|exact zF hw|exact zX hw (yw (.inl rfl) tH)|fail)):G:=h
theorem zp2 (g:Img) (hF:Fm g) (m:Me) (ar:List Ty) (arg:Int) (t0:Ty) (l:List Ty) (hl:l.length≤100):XC 83 [] (⟨g,m,ar,⟨64,arg,t0⟩⟩:RC) (yA g m ⟨64,arg,t0⟩) uV l:=by
 intro u;refine zI zf Tryz.func83 rfl zws Tryz.ntmps83 zwy63 _ rfl (fun gB hw1=>?_);have co:=qQ t0;have cb:=zch t0;have cr:=ZX t0;cases hC1:(zgq t0)
 ·rw [hC1] at cb;have hw:(yA g m ⟨64,arg,t0⟩) l=.error 8:=by simp [yA,zB,zG,hC1,zL,emptyS]
  have b0:=();exact zwk62
 ·rw [hC1] at cb;cases hS3:(YU) l with
  | error e =>
   have hw:(yA g m ⟨64,arg,t0⟩) l=.error e:=by simp [yA,zB,zG,hC1,zL,emptyS,hS3]
   have b1:=();have b4:=();exact zwk62
  | ok p =>
   obtain ⟨t,l3⟩:=p;have hl3:l3.length≤100:=by have:=Xx hS3;omega
   have cx:=qQ t;cases hC5:(object t)
   ·rw [hC5] at cx;have hw:(yA g m ⟨64,arg,t0⟩) l=.error 10:=by simp [yA,zB,zG,hC1,zL,emptyS,hS3,hC5,zL,emptyS]
    have b2:=();have b4:=();have b5:=();have b7:=();exact zwk62
   ·rw [hC5] at cx;cases hS7:(yX m.max [t0]) l3 with
    | error e =>
     have hw:(yA g m ⟨64,arg,t0⟩) l=.error e:=by simp [yA,zB,zG,hC1,zL,emptyS,hS3,hC5,zL,emptyS,hS7]
     have b3:=();have b4:=();have b5:=();have b6:=();have b7:=();exact zwk62
    | ok p =>
     obtain ⟨⟨⟩,l7⟩:=p;have hw:(yA g m ⟨64,arg,t0⟩) l=.ok ((),l7):=by simp [yA,zB,zG,hC1,zL,emptyS,hS3,hC5,zL,emptyS,hS7]
     have b4:=();have b5:=();have b6:=();have b8:=();exact zwk62
theorem zwk63 {G:Prop} (h:G:=by repeat' (first|(have:=b0;refine zl 2 13 rfl rfl rfl ?_)|(have:=b0;refine zD ([]) zh rfl rfl rfl tH (yc zwy66 8) ?_)|(have:=b1;refine zl 6 1 rfl rfl rfl ?_)|(have:=b1;refine zD ((yN u c l)) zh rfl rfl rfl tH ((yg c _ zwy62).bad hS3 u) ?_)|(have:=b2;refine zl 6 3 rfl rfl rfl ?_)|(have:=b2;refine zD ([]) zh rfl rfl rfl tH (yc zwy77 10) ?_)|(have:=b3;refine zl 9 3 rfl rfl rfl ?_)|(have:=b3;refine zD ((yN u c l3)) zh rfl rfl rfl tH ((zU c [t0] _ zwy62 zwy63).bad hS7 u) ?_)|refine zy rfl (aj (ps:=(yO t0))) rfl rfl ?_|refine zq rfl (aj (ps:=(yO t0))) rfl rfl ?_|(refine shC ?_;first|refine qC co ?_|(have:=b4;refine zy rfl (zJ rfl rfl (zH zwy66 8)) rfl rfl ?_)|(have:=b4;refine zq rfl (zJ rfl rfl (zH zwy66 8)) rfl rfl ?_)|(have:=b5;refine qC cx ?_)|(have:=b6;refine zy rfl (zJ rfl rfl (zH zwy77 10)) rfl rfl ?_)|(have:=b6;refine zq rfl (zJ rfl rfl (zH zwy77 10)) rfl rfl ?_))|(have:=b7;refine zn ?_;first|(refine zu 0 zh rfl rfl ((yg c _ zwy62).ok hS3) rfl rfl rfl rfl rfl ?_))|(have:=b8;refine zn ?_;first|(refine zu 0 zh rfl rfl ((yg c _ zwy62).ok hS3) rfl rfl rfl rfl rfl ?_)|(refine zu 0 zh rfl rfl ((zU c [t0] _ zwy62 zwy63).ok hS7) rfl rfl rfl rfl rfl ?_))|refine sK ?_|refine sC (fun _=>?_) (fun _=>?_)|exact zF hw|exact zX hw (yw (.inl rfl) tH)|fail)):G:=h
theorem zpg (g:Img) (hF:Fm g) (m:Me) (ar:List Ty) (arg:Int) (t0:Ty) (l:List Ty) (hl:l.length≤100) (op:Int) (ho:op=65∨op=66):XC 83 [] (⟨g,m,ar,⟨op,arg,t0⟩⟩:RC) (yA g m ⟨op,arg,t0⟩) uV l:=by
 let c:RC:=⟨g,m,ar,⟨op,arg,t0⟩⟩
 rcases ho with rfl|rfl
 all_goals
  intro u;refine zI zf Tryz.func83 rfl zws Tryz.ntmps83 zwy63 _ rfl (fun gB hw1=>?_);have co:=qQ t0;have cb:=zch t0;have cr:=ZX t0;cases hC1:(object t0)
  ·rw [hC1] at co;have hw:(yA g m ⟨c.x.op,arg,t0⟩) l=.error 8:=by simp [yA,c,zB,zG,hC1,zL,emptyS]
   have b0:=();exact zwk63
  ·rw [hC1] at co;cases hS3:(YU) l with
   | error e =>
    have hw:(yA g m ⟨c.x.op,arg,t0⟩) l=.error e:=by simp [yA,c,zB,zG,hC1,zL,emptyS,hS3]
    have b1:=();have b4:=();exact zwk63
   | ok p =>
    obtain ⟨t,l3⟩:=p;have hl3:l3.length≤100:=by have:=Xx hS3;omega
    have cx:=qQ t;cases hC5:(object t)
    ·rw [hC5] at cx;have hw:(yA g m ⟨c.x.op,arg,t0⟩) l=.error 10:=by simp [yA,c,zB,zG,hC1,zL,emptyS,hS3,hC5,zL,emptyS]
     have b2:=();have b4:=();have b5:=();have b7:=();exact zwk63
    ·rw [hC5] at cx;cases hS7:(yX m.max [t0]) l3 with
     | error e =>
      have hw:(yA g m ⟨c.x.op,arg,t0⟩) l=.error e:=by simp [yA,c,zB,zG,hC1,zL,emptyS,hS3,hC5,zL,emptyS,hS7]
      have b3:=();have b4:=();have b5:=();have b6:=();have b7:=();exact zwk63
     | ok p =>
      obtain ⟨⟨⟩,l7⟩:=p;have hw:(yA g m ⟨c.x.op,arg,t0⟩) l=.ok ((),l7):=by simp [yA,c,zB,zG,hC1,zL,emptyS,hS3,hC5,zL,emptyS,hS7]
      have b4:=();have b5:=();have b6:=();have b8:=();exact zwk63
set_option maxHeartbeats 20000000
theorem zwk68 {G:Prop} (h:G:=by repeat' (first|(have:=b0;refine zl 6 2 rfl rfl rfl ?_)|(have:=b0;refine zD ((yN u ⟨g,m,ar,⟨48,arg,t0⟩⟩ l)) zh rfl rfl rfl tH ((YZ ⟨g,m,ar,⟨48,arg,t0⟩⟩ hF f true _ zwy62).bad hS3 u) ?_)|(have:=b1;refine zl 7 4 rfl rfl rfl ?_)|(have:=b1;refine zD ((yN u ⟨g,m,ar,⟨48,arg,t0⟩⟩ l3)) zh rfl rfl rfl tH ((zU ⟨g,m,ar,⟨48,arg,t0⟩⟩ [f.ty] _ zwy62 zwy63).bad hS4 u) ?_)|(have:=b2;refine zl 2 4 rfl rfl rfl ?_)|(have:=b2;refine zD ([]) zh rfl rfl rfl tH (yc zwy66 8) ?_)|refine zN 1 12 0 zf rfl zws zws zws rfl rfl rfl rfl rfl rfl rfl rfl rfl rfl rfl rfl rfl rfl (fun _=>rfl) rfl rfl rfl ?_|refine ⟨_,_,rfl,rfl,rfl,?_⟩|(refine shC ?_;first|(have:=b3;refine zy rfl (zJ rfl rfl (zH zwy66 8)) rfl rfl ?_)|(have:=b3;refine zq rfl (zJ rfl rfl (zH zwy66 8)) rfl rfl ?_))|(refine shX ?_;first|refine zy rfl (ah h0 hfe) rfl rfl ?_|refine zq rfl (ah h0 hfe) rfl rfl ?_)|(have:=b1;refine zn ?_;first|(refine zu 0 zh rfl rfl ((YZ ⟨g,m,ar,⟨48,arg,t0⟩⟩ hF f true _ zwy62).ok hS3) rfl rfl rfl rfl rfl ?_))|(have:=b4;refine zn ?_;first|(refine zu 0 zh rfl rfl ((YZ ⟨g,m,ar,⟨48,arg,t0⟩⟩ hF f true _ zwy62).ok hS3) rfl rfl rfl rfl rfl ?_)|(refine zu 0 zh rfl rfl ((zU ⟨g,m,ar,⟨48,arg,t0⟩⟩ [f.ty] _ zwy62 zwy63).ok hS4) rfl rfl rfl rfl rfl ?_))|refine sK ?_|refine sC (fun _=>?_) (fun _=>?_)|exact zF hw|exact zX hw (yw (.inl rfl) tH)|fail)):G:=h
theorem zra (g:Img) (hF:Fm g) (m:Me) (ar:List Ty) (arg:Int) (t0:Ty) (l:List Ty) (hl:l.length≤100) (h0:0≤arg) (h1:arg.toNat < g.fields.length):XC 80 [] (⟨g,m,ar,⟨48,arg,t0⟩⟩:RC) (yH g m ⟨48,arg,t0⟩) uV l:=by
 intro u;refine zI zf Tryz.func80 rfl zws Tryz.ntmps80 zwy63 _ rfl (fun gB hw1=>?_);have hfe:(g.fields.map Yo)[arg.toNat]?=some (Yo (fAt g arg)):=by rw [fAt,zT h1];exact zY h1
 obtain ⟨f,hf⟩:∃ f,fAt g arg=f:=⟨_,rfl⟩
 rw [hf] at hfe;have cr:=ZX f.ty;cases hC1:(f.static)
 ·skip;cases hS3:(Zq g f true) l with
  | error e =>
   have hw:(yH g m ⟨48,arg,t0⟩) l=.error e:=by simp [yH,hf,zB,zG,hC1,zL,emptyS,hS3]
   have b0:=();have b3:=();exact zwk68
  | ok p =>
   obtain ⟨⟨⟩,l3⟩:=p;have hl3:l3.length≤100:=by have:=zbO hS3;omega
   cases hS4:(yX m.max [f.ty]) l3 with
   | error e =>
    have hw:(yH g m ⟨48,arg,t0⟩) l=.error e:=by simp [yH,hf,zB,zG,hC1,zL,emptyS,hS3,hS4]
    have b1:=();have b3:=();exact zwk68
   | ok p =>
    obtain ⟨⟨⟩,l4⟩:=p;have hw:(yH g m ⟨48,arg,t0⟩) l=.ok ((),l4):=by simp [yH,hf,zB,zG,hC1,zL,emptyS,hS3,hS4]
    have b3:=();have b4:=();exact zwk68
 ·skip;have hw:(yH g m ⟨48,arg,t0⟩) l=.error 8:=by simp [yH,hf,zB,zG,hC1,zL,emptyS]
  have b2:=();exact zwk68
theorem zwk69 {G:Prop} (h:G:=by repeat' (first|(have:=b0;refine zl 9 3 rfl rfl rfl ?_)|(have:=b0;refine zD ((yN u ⟨g,m,ar,⟨49,arg,t0⟩⟩ l)) zh rfl rfl rfl tH ((qw ⟨g,m,ar,⟨49,arg,t0⟩⟩ hF (f.ty) _ zwy62).bad hS3 u) ?_)|(have:=b1;refine zl 10 2 rfl rfl rfl ?_)|(have:=b1;refine zD ((yN u ⟨g,m,ar,⟨49,arg,t0⟩⟩ l3)) zh rfl rfl rfl tH ((YZ ⟨g,m,ar,⟨49,arg,t0⟩⟩ hF f false _ zwy62).bad hS4 u) ?_)|(have:=b2;refine zl 2 4 rfl rfl rfl ?_)|(have:=b2;refine zD ([]) zh rfl rfl rfl tH (yc zwy66 8) ?_)|refine zN 1 12 0 zf rfl zws zws zws rfl rfl rfl rfl rfl rfl rfl rfl rfl rfl rfl rfl rfl rfl (fun _=>rfl) rfl rfl rfl ?_|refine ⟨_,_,rfl,rfl,rfl,?_⟩|(refine shC ?_;first|(have:=b3;refine zy rfl (zJ rfl rfl (zH zwy66 8)) rfl rfl ?_)|(have:=b3;refine zq rfl (zJ rfl rfl (zH zwy66 8)) rfl rfl ?_))|(refine shX ?_;first|refine zy rfl (ah h0 hfe) rfl rfl ?_|refine zq rfl (ah h0 hfe) rfl rfl ?_)|(have:=b1;refine zn ?_;first|(refine zu 0 zh rfl rfl ((qw ⟨g,m,ar,⟨49,arg,t0⟩⟩ hF (f.ty) _ zwy62).ok hS3) rfl rfl rfl rfl rfl ?_))|(have:=b4;refine zn ?_;first|(refine zu 0 zh rfl rfl ((qw ⟨g,m,ar,⟨49,arg,t0⟩⟩ hF (f.ty) _ zwy62).ok hS3) rfl rfl rfl rfl rfl ?_)|(refine zu 0 zh rfl rfl ((YZ ⟨g,m,ar,⟨49,arg,t0⟩⟩ hF f false _ zwy62).ok hS4) rfl rfl rfl rfl rfl ?_))|refine sK ?_|refine sC (fun _=>?_) (fun _=>?_)|exact zF hw|exact zX hw (yw (.inl rfl) tH)|fail)):G:=h
theorem zrR (g:Img) (hF:Fm g) (m:Me) (ar:List Ty) (arg:Int) (t0:Ty) (l:List Ty) (hl:l.length≤100) (h0:0≤arg) (h1:arg.toNat < g.fields.length):XC 80 [] (⟨g,m,ar,⟨49,arg,t0⟩⟩:RC) (yH g m ⟨49,arg,t0⟩) uV l:=by
 intro u;refine zI zf Tryz.func80 rfl zws Tryz.ntmps80 zwy63 _ rfl (fun gB hw1=>?_);have hfe:(g.fields.map Yo)[arg.toNat]?=some (Yo (fAt g arg)):=by rw [fAt,zT h1];exact zY h1
 obtain ⟨f,hf⟩:∃ f,fAt g arg=f:=⟨_,rfl⟩
 rw [hf] at hfe;have cr:=ZX f.ty;cases hC1:(f.static)
 ·skip;cases hS3:(YL g (f.ty)) l with
  | error e =>
   have hw:(yH g m ⟨49,arg,t0⟩) l=.error e:=by simp [yH,hf,zB,zG,hC1,zL,emptyS,hS3]
   have b0:=();have b3:=();exact zwk69
  | ok p =>
   obtain ⟨⟨⟩,l3⟩:=p;have hl3:l3.length≤100:=by have:=Vx hS3;omega
   cases hS4:(Zq g f false) l3 with
   | error e =>
    have hw:(yH g m ⟨49,arg,t0⟩) l=.error e:=by simp [yH,hf,zB,zG,hC1,zL,emptyS,hS3,hS4]
    have b1:=();have b3:=();exact zwk69
   | ok p =>
    obtain ⟨⟨⟩,l4⟩:=p;have hl4:l4.length≤100:=by have:=zbO hS4;omega
    have hw:(yH g m ⟨49,arg,t0⟩) l=.ok ((),l4):=by simp [yH,hf,zB,zG,hC1,zL,emptyS,hS3,hS4]
    have b3:=();have b4:=();exact zwk69
 ·skip;have hw:(yH g m ⟨49,arg,t0⟩) l=.error 8:=by simp [yH,hf,zB,zG,hC1,zL,emptyS]
  have b2:=();exact zwk69
theorem zwk70 {G:Prop} (h:G:=by repeat' (first|(have:=b0;refine zl 12 2 rfl rfl rfl ?_)|(have:=b0;refine zD ((yN u ⟨g,m,ar,⟨50,arg,t0⟩⟩ l)) zh rfl rfl rfl tH ((YZ ⟨g,m,ar,⟨50,arg,t0⟩⟩ hF f false _ zwy62).bad hS3 u) ?_)|(have:=b1;refine zl 13 5 rfl rfl rfl ?_)|(have:=b1;refine zD ((yN u ⟨g,m,ar,⟨50,arg,t0⟩⟩ l3)) zh rfl rfl rfl tH ((zU ⟨g,m,ar,⟨50,arg,t0⟩⟩ [rfT f.ty] _ zwy62 zwy63).bad hS4 u) ?_)|(have:=b2;refine zl 2 4 rfl rfl rfl ?_)|(have:=b2;refine zD ([]) zh rfl rfl rfl tH (yc zwy66 8) ?_)|refine zN 1 12 0 zf rfl zws zws zws rfl rfl rfl rfl rfl rfl rfl rfl rfl rfl rfl rfl rfl rfl (fun _=>rfl) rfl rfl rfl ?_|refine ⟨_,_,rfl,rfl,rfl,?_⟩|(refine shC ?_;first|(have:=b3;refine zy rfl (zJ rfl rfl (zH zwy66 8)) rfl rfl ?_)|(have:=b3;refine zq rfl (zJ rfl rfl (zH zwy66 8)) rfl rfl ?_)|refine qC cr ?_)|(refine shX ?_;first|refine zy rfl (ah h0 hfe) rfl rfl ?_|refine zq rfl (ah h0 hfe) rfl rfl ?_)|(have:=b1;refine zn ?_;first|(refine zu 0 zh rfl rfl ((YZ ⟨g,m,ar,⟨50,arg,t0⟩⟩ hF f false _ zwy62).ok hS3) rfl rfl rfl rfl rfl ?_))|(have:=b4;refine zn ?_;first|(refine zu 0 zh rfl rfl ((YZ ⟨g,m,ar,⟨50,arg,t0⟩⟩ hF f false _ zwy62).ok hS3) rfl rfl rfl rfl rfl ?_)|(refine zu 0 zh rfl rfl ((zU ⟨g,m,ar,⟨50,arg,t0⟩⟩ [rfT f.ty] _ zwy62 zwy63).ok hS4) rfl rfl rfl rfl rfl ?_))|refine sK ?_|refine sC (fun _=>?_) (fun _=>?_)|exact zF hw|exact zX hw (yw (.inl rfl) tH)|fail)):G:=h
theorem zrW (g:Img) (hF:Fm g) (m:Me) (ar:List Ty) (arg:Int) (t0:Ty) (l:List Ty) (hl:l.length≤100) (h0:0≤arg) (h1:arg.toNat < g.fields.length):XC 80 [] (⟨g,m,ar,⟨50,arg,t0⟩⟩:RC) (yH g m ⟨50,arg,t0⟩) uV l:=by
 intro u;refine zI zf Tryz.func80 rfl zws Tryz.ntmps80 zwy63 _ rfl (fun gB hw1=>?_);have hfe:(g.fields.map Yo)[arg.toNat]?=some (Yo (fAt g arg)):=by rw [fAt,zT h1];exact zY h1
 obtain ⟨f,hf⟩:∃ f,fAt g arg=f:=⟨_,rfl⟩
 rw [hf] at hfe;have cr:=ZX f.ty;cases hC1:(f.static)
 ·skip;cases hS3:(Zq g f false) l with
  | error e =>
   have hw:(yH g m ⟨50,arg,t0⟩) l=.error e:=by simp [yH,hf,zB,zG,hC1,zL,emptyS,hS3]
   have b0:=();have b3:=();exact zwk70
  | ok p =>
   obtain ⟨⟨⟩,l3⟩:=p;have hl3:l3.length≤100:=by have:=zbO hS3;omega
   cases hS4:(yX m.max [rfT f.ty]) l3 with
   | error e =>
    have hw:(yH g m ⟨50,arg,t0⟩) l=.error e:=by simp [yH,hf,zB,zG,hC1,zL,emptyS,hS3,hS4]
    have b1:=();have b3:=();exact zwk70
   | ok p =>
    obtain ⟨⟨⟩,l4⟩:=p;have hw:(yH g m ⟨50,arg,t0⟩) l=.ok ((),l4):=by simp [yH,hf,zB,zG,hC1,zL,emptyS,hS3,hS4]
    have b3:=();have b4:=();exact zwk70
 ·skip;have hw:(yH g m ⟨50,arg,t0⟩) l=.error 8:=by simp [yH,hf,zB,zG,hC1,zL,emptyS]
  have b2:=();exact zwk70
theorem zwk71 {G:Prop} (h:G:=by repeat' (first|(have:=b0;refine zl 2 4 rfl rfl rfl ?_)|(have:=b0;refine zD ([]) zh rfl rfl rfl tH (yc zwy66 8) ?_)|(have:=b1;refine zl 15 4 rfl rfl rfl ?_)|(have:=b1;refine zD ((yN u ⟨g,m,ar,⟨51,arg,t0⟩⟩ l)) zh rfl rfl rfl tH ((zU ⟨g,m,ar,⟨51,arg,t0⟩⟩ [f.ty] _ zwy62 zwy63).bad hS3 u) ?_)|refine zN 1 12 0 zf rfl zws zws zws rfl rfl rfl rfl rfl rfl rfl rfl rfl rfl rfl rfl rfl rfl (fun _=>rfl) rfl rfl rfl ?_|refine ⟨_,_,rfl,rfl,rfl,?_⟩|(refine shC ?_;first|(have:=b2;refine zy rfl (zJ rfl rfl (zH zwy66 8)) rfl rfl ?_)|(have:=b2;refine zq rfl (zJ rfl rfl (zH zwy66 8)) rfl rfl ?_))|(refine shX ?_;first|refine zy rfl (ah h0 hfe) rfl rfl ?_|refine zq rfl (ah h0 hfe) rfl rfl ?_)|(have:=b3;refine zn ?_;first|(refine zu 0 zh rfl rfl ((zU ⟨g,m,ar,⟨51,arg,t0⟩⟩ [f.ty] _ zwy62 zwy63).ok hS3) rfl rfl rfl rfl rfl ?_))|refine sK ?_|refine sC (fun _=>?_) (fun _=>?_)|exact zF hw|exact zX hw (yw (.inl rfl) tH)|fail)):G:=h
theorem zrb (g:Img) (hF:Fm g) (m:Me) (ar:List Ty) (arg:Int) (t0:Ty) (l:List Ty) (hl:l.length≤100) (h0:0≤arg) (h1:arg.toNat < g.fields.length):XC 80 [] (⟨g,m,ar,⟨51,arg,t0⟩⟩:RC) (yH g m ⟨51,arg,t0⟩) uV l:=by
 intro u;refine zI zf Tryz.func80 rfl zws Tryz.ntmps80 zwy63 _ rfl (fun gB hw1=>?_);have hfe:(g.fields.map Yo)[arg.toNat]?=some (Yo (fAt g arg)):=by rw [fAt,zT h1];exact zY h1
 obtain ⟨f,hf⟩:∃ f,fAt g arg=f:=⟨_,rfl⟩
 rw [hf] at hfe;have cr:=ZX f.ty;cases hC1:(f.static)
 ·skip;have hw:(yH g m ⟨51,arg,t0⟩) l=.error 8:=by simp [yH,hf,zB,zG,hC1,zL,emptyS]
  have b0:=();exact zwk71
 ·skip;cases hS3:(yX m.max [f.ty]) l with
  | error e =>
   have hw:(yH g m ⟨51,arg,t0⟩) l=.error e:=by simp [yH,hf,zB,zG,hC1,zL,emptyS,hS3]
   have b1:=();have b2:=();exact zwk71
  | ok p =>
   obtain ⟨⟨⟩,l3⟩:=p;have hw:(yH g m ⟨51,arg,t0⟩) l=.ok ((),l3):=by simp [yH,hf,zB,zG,hC1,zL,emptyS,hS3]
   have b2:=();have b3:=();exact zwk71
theorem zwk72 {G:Prop} (h:G:=by repeat' (first|(have:=b0;refine zl 2 4 rfl rfl rfl ?_)|(have:=b0;refine zD ([]) zh rfl rfl rfl tH (yc zwy66 8) ?_)|(have:=b1;refine zl 17 3 rfl rfl rfl ?_)|(have:=b1;refine zD ((yN u ⟨g,m,ar,⟨52,arg,t0⟩⟩ l)) zh rfl rfl rfl tH ((qw ⟨g,m,ar,⟨52,arg,t0⟩⟩ hF (f.ty) _ zwy62).bad hS3 u) ?_)|refine zN 1 12 0 zf rfl zws zws zws rfl rfl rfl rfl rfl rfl rfl rfl rfl rfl rfl rfl rfl rfl (fun _=>rfl) rfl rfl rfl ?_|refine ⟨_,_,rfl,rfl,rfl,?_⟩|(refine shC ?_;first|(have:=b2;refine zy rfl (zJ rfl rfl (zH zwy66 8)) rfl rfl ?_)|(have:=b2;refine zq rfl (zJ rfl rfl (zH zwy66 8)) rfl rfl ?_))|(refine shX ?_;first|refine zy rfl (ah h0 hfe) rfl rfl ?_|refine zq rfl (ah h0 hfe) rfl rfl ?_)|(have:=b3;refine zn ?_;first|(refine zu 0 zh rfl rfl ((qw ⟨g,m,ar,⟨52,arg,t0⟩⟩ hF (f.ty) _ zwy62).ok hS3) rfl rfl rfl rfl rfl ?_))|refine sK ?_|refine sC (fun _=>?_) (fun _=>?_)|exact zF hw|exact zX hw (yw (.inl rfl) tH)|fail)):G:=h
theorem zr0 (g:Img) (hF:Fm g) (m:Me) (ar:List Ty) (arg:Int) (t0:Ty) (l:List Ty) (hl:l.length≤100) (h0:0≤arg) (h1:arg.toNat < g.fields.length):XC 80 [] (⟨g,m,ar,⟨52,arg,t0⟩⟩:RC) (yH g m ⟨52,arg,t0⟩) uV l:=by
 intro u;refine zI zf Tryz.func80 rfl zws Tryz.ntmps80 zwy63 _ rfl (fun gB hw1=>?_);have hfe:(g.fields.map Yo)[arg.toNat]?=some (Yo (fAt g arg)):=by rw [fAt,zT h1];exact zY h1
 obtain ⟨f,hf⟩:∃ f,fAt g arg=f:=⟨_,rfl⟩
 rw [hf] at hfe;have cr:=ZX f.ty;cases hC1:(f.static)
 ·skip;have hw:(yH g m ⟨52,arg,t0⟩) l=.error 8:=by simp [yH,hf,zB,zG,hC1,zL,emptyS]
  have b0:=();exact zwk72
 ·skip;cases hS3:(YL g (f.ty)) l with
  | error e =>
   have hw:(yH g m ⟨52,arg,t0⟩) l=.error e:=by simp [yH,hf,zB,zG,hC1,zL,emptyS,hS3]
   have b1:=();have b2:=();exact zwk72
  | ok p =>
   obtain ⟨⟨⟩,l3⟩:=p;have hl3:l3.length≤100:=by have:=Vx hS3;omega
   have hw:(yH g m ⟨52,arg,t0⟩) l=.ok ((),l3):=by simp [yH,hf,zB,zG,hC1,zL,emptyS,hS3]
   have b2:=();have b3:=();exact zwk72
theorem zwk73 {G:Prop} (h:G:=by repeat' (first|(have:=b0;refine zl 2 4 rfl rfl rfl ?_)|(have:=b0;refine zD ([]) zh rfl rfl rfl tH (yc zwy66 8) ?_)|(have:=b1;refine zl 4 5 rfl rfl rfl ?_)|(have:=b1;refine zD ((yN u ⟨g,m,ar,⟨53,arg,t0⟩⟩ l)) zh rfl rfl rfl tH ((zU ⟨g,m,ar,⟨53,arg,t0⟩⟩ [rfT f.ty] _ zwy62 zwy63).bad hS3 u) ?_)|refine zN 1 12 0 zf rfl zws zws zws rfl rfl rfl rfl rfl rfl rfl rfl rfl rfl rfl rfl rfl rfl (fun _=>rfl) rfl rfl rfl ?_|refine ⟨_,_,rfl,rfl,rfl,?_⟩|(refine shC ?_;first|(have:=b2;refine zy rfl (zJ rfl rfl (zH zwy66 8)) rfl rfl ?_)|(have:=b2;refine zq rfl (zJ rfl rfl (zH zwy66 8)) rfl rfl ?_)|refine qC cr ?_)|(refine shX ?_;first|refine zy rfl (ah h0 hfe) rfl rfl ?_|refine zq rfl (ah h0 hfe) rfl rfl ?_)|(have:=b3;refine zn ?_;first|(refine zu 0 zh rfl rfl ((zU ⟨g,m,ar,⟨53,arg,t0⟩⟩ [rfT f.ty] _ zwy62 zwy63).ok hS3) rfl rfl rfl rfl rfl ?_))|refine sK ?_|refine sC (fun _=>?_) (fun _=>?_)|exact zF hw|exact zX hw (yw (.inl rfl) tH)|fail)):G:=h
theorem zrn (g:Img) (hF:Fm g) (m:Me) (ar:List Ty) (arg:Int) (t0:Ty) (l:List Ty) (hl:l.length≤100) (h0:0≤arg) (h1:arg.toNat < g.fields.length):XC 80 [] (⟨g,m,ar,⟨53,arg,t0⟩⟩:RC) (yH g m ⟨53,arg,t0⟩) uV l:=by
 intro u;refine zI zf Tryz.func80 rfl zws Tryz.ntmps80 zwy63 _ rfl (fun gB hw1=>?_);have hfe:(g.fields.map Yo)[arg.toNat]?=some (Yo (fAt g arg)):=by rw [fAt,zT h1];exact zY h1
 obtain ⟨f,hf⟩:∃ f,fAt g arg=f:=⟨_,rfl⟩
 rw [hf] at hfe;have cr:=ZX f.ty;cases hC1:(f.static)
 ·skip;have hw:(yH g m ⟨53,arg,t0⟩) l=.error 8:=by simp [yH,hf,zB,zG,hC1,zL,emptyS]
  have b0:=();exact zwk73
 ·skip;cases hS3:(yX m.max [rfT f.ty]) l with
  | error e =>
   have hw:(yH g m ⟨53,arg,t0⟩) l=.error e:=by simp [yH,hf,zB,zG,hC1,zL,emptyS,hS3]
   have b1:=();have b2:=();exact zwk73
  | ok p =>
   obtain ⟨⟨⟩,l3⟩:=p;have hw:(yH g m ⟨53,arg,t0⟩) l=.ok ((),l3):=by simp [yH,hf,zB,zG,hC1,zL,emptyS,hS3]
   have b2:=();have b3:=();exact zwk73
end Go.Cg
