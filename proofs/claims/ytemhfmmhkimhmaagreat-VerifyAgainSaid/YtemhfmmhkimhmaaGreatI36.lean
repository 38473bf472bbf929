/- A part of the walks by abstract values: no statement of its own. -/
import Derived.Test.YtemhfmmhkimhmaaGreatI30
import Derived.Test.YtemhfmmhkimhmaaGreatI15
set_option linter.unusedVariables false
set_option linter.unusedSimpArgs false
namespace Go.Cg
open Go.Proofs
set_option maxHeartbeats 20000000
theorem zwk68 {G:Prop} (h:G:=by repeat' (first|(have:=b0;refine zo 3 1 rfl rfl rfl ?_)|(have:=b0;refine zF ((yS u c l)) zi rfl rfl rfl tH ((yw c _ zwy62).bad hS1 u) ?_)|(have:=b1;refine zo 4 6 rfl rfl rfl ?_)|(have:=b1;refine zF ([]) zi rfl rfl rfl tH (yu zwy92 10) ?_)|(refine shC ?_;first|(have:=b2;refine qC cn ?_)|(have:=b3;refine qC co ?_)|(have:=b4;refine zy rfl (zJ rfl rfl (zH zwy92 10)) rfl rfl ?_)|(have:=b4;refine zq rfl (zJ rfl rfl (zH zwy92 10)) rfl rfl ?_)|(have:=b5;refine zy rfl (zJ rfl rfl (zH zwy88 10)) rfl rfl ?_)|(have:=b5;refine zq rfl (zJ rfl rfl (zH zwy88 10)) rfl rfl ?_))|(have:=b2;refine zu ?_;first|(refine zx 0 zi rfl rfl ((yw c _ zwy62).ok hS1) rfl rfl rfl rfl rfl ?_))|refine sK ?_|refine sC (fun _=>?_) (fun _=>?_)|exact zD hw|exact yc hw (yD (.inl rfl) tH)|fail)):G:=h
theorem ztM (g:Img) (hF:Fm g) (m:Me) (ar:List Ty) (arg:Int) (t0:Ty) (l:List Ty) (hl:l.length<=100) (op:Int) (ho:op=35\/op=36):XC 126 [] (⟨g,m,ar,⟨op,arg,t0⟩⟩:RC) (ZR op) uV l:=by
 let c:RC:=⟨g,m,ar,⟨op,arg,t0⟩⟩
 rcases ho with rfl|rfl
 all_goals
  intro u;refine zI zf Tryz.func126 rfl zws Tryz.ntmps126 zwy63 _ rfl (fun gB hw1=>?_);cases hS1:(Qp) l with
  | error e =>
   have hw:(ZR c.x.op) l=.error e:=by simp [ZR,c,zB,zG,hS1]
   have b0:=();exact zwk68
  | ok p =>
   obtain ⟨t,l1⟩:=p;have hl1:l1.length<=100:=by have:=Wh hS1;omega
   have cn:=zca t;have co:=qY t;cases hC3:(nuT t)
   ·rw [hC3] at cn;cases hC4:(object t)
    ·rw [hC4] at co;have hw:(ZR c.x.op) l=.error 10:=by simp [ZR,c,zB,zG,hS1,hC3,hC4,zN,emptyS]
     have b1:=();have b2:=();have b3:=();exact zwk68
    ·rw [hC4] at co;have hw:(ZR c.x.op) l=.ok ((),l1):=by simp [ZR,c,zB,zG,hS1,hC3,hC4,zN,emptyS]
     have b2:=();have b3:=();have b4:=();exact zwk68
   ·rw [hC3] at cn;have hw:(ZR c.x.op) l=.ok ((),l1):=by simp [ZR,c,zB,zG,hS1,hC3,zN,emptyS]
    have b2:=();have b5:=();exact zwk68
theorem ztE (g:Img) (hF:Fm g) (m:Me) (ar:List Ty) (arg:Int) (t0:Ty) (l:List Ty) (hl:l.length<=100) (op:Int) (ho:op=37\/op=42):XC 126 [] (⟨g,m,ar,⟨op,arg,t0⟩⟩:RC) (ZR op) uV l:=by
 let c:RC:=⟨g,m,ar,⟨op,arg,t0⟩⟩
 rcases ho with rfl|rfl
 all_goals
  intro u;refine zI zf Tryz.func126 rfl zws Tryz.ntmps126 zwy63 _ rfl (fun gB hw1=>?_);cases hS1:(ZC) l with
  | error e =>
   have hw:(ZR c.x.op) l=.error e:=by simp [ZR,c,zB,zG,hS1]
   repeat' (first|refine zo 7 1 rfl rfl rfl ?_|refine zF ((yS u c l)) zi rfl rfl rfl tH ((VP c _ zwy62).bad hS1 u) ?_|refine sK ?_|refine sC (fun _=>?_) (fun _=>?_)|fail)
   exact zD hw
  | ok p =>
   obtain ⟨⟨⟩,l1⟩:=p;have hl1:l1.length<=100:=by have:=zeB hS1;omega
   have hw:(ZR c.x.op) l=.ok ((),l1):=by simp [ZR,c,zB,zG,hS1]
   repeat' (first|(refine zu ?_;first|(refine zx 0 zi rfl rfl ((VP c _ zwy62).ok hS1) rfl rfl rfl rfl rfl ?_))|refine sK ?_|refine sC (fun _=>?_) (fun _=>?_)|fail)
   exact yc hw (yD (.inl rfl) tH)
theorem ztV (g:Img) (hF:Fm g) (m:Me) (ar:List Ty) (arg:Int) (t0:Ty) (l:List Ty) (hl:l.length<=100) (op:Int) (ho:op=38\/op=39\/op=40\/op=41):XC 126 [] (⟨g,m,ar,⟨op,arg,t0⟩⟩:RC) (ZR op) uV l:=by
 let c:RC:=⟨g,m,ar,⟨op,arg,t0⟩⟩
 rcases ho with rfl|rfl|rfl|rfl
 all_goals
  intro u;refine zI zf Tryz.func126 rfl zws Tryz.ntmps126 zwy63 _ rfl (fun gB hw1=>?_);cases hS1:(ZO) l with
  | error e =>
   have hw:(ZR c.x.op) l=.error e:=by simp [ZR,c,zB,zG,hS1]
   repeat' (first|refine zo 12 1 rfl rfl rfl ?_|refine zF ((yS u c l)) zi rfl rfl rfl tH ((YW c _ zwy62).bad hS1 u) ?_|refine sK ?_|refine sC (fun _=>?_) (fun _=>?_)|fail)
   exact zD hw
  | ok p =>
   obtain ⟨t,l1⟩:=p;have hl1:l1.length<=100:=by have:=zby hS1;omega
   have hw:(ZR c.x.op) l=.ok ((),l1):=by simp [ZR,c,zB,zG,hS1]
   repeat' (first|(refine zu ?_;first|(refine zx 0 zi rfl rfl ((YW c _ zwy62).ok hS1) rfl rfl rfl rfl rfl ?_))|refine sK ?_|refine sC (fun _=>?_) (fun _=>?_)|fail)
   exact yc hw (yD (.inl rfl) tH)
theorem zur (g:Img) (hF:Fm g) (m:Me) (ar:List Ty) (arg:Int) (t0:Ty) (l:List Ty) (hl:l.length<=100):XC 126 [] (⟨g,m,ar,⟨34,arg,t0⟩⟩:RC) (ZR 34) uV l:=by
 intro u;refine zI zf Tryz.func126 rfl zws Tryz.ntmps126 zwy63 _ rfl (fun gB hw1=>?_);have hw:(ZR 34) l=.ok ((),l):=by simp [ZR,zB,zG]
 repeat' (first|refine sK ?_|refine sC (fun _=>?_) (fun _=>?_)|fail)
 exact yc hw (yD (.inl rfl) tH)
theorem zwk69 {G:Prop} (h:G:=by repeat' (first|(have:=b0;refine zo 2 13 rfl rfl rfl ?_)|(have:=b0;refine zF ([]) zi rfl rfl rfl tH (yu zwy66 8) ?_)|(have:=b1;refine zo 4 2 rfl rfl rfl ?_)|(have:=b1;refine zF ((yS u ⟨g,m,ar,⟨62,arg,t0⟩⟩ l)) zi rfl rfl rfl tH ((qw ⟨g,m,ar,⟨62,arg,t0⟩⟩ hF t0 _ zwy62).bad hS3 u) ?_)|(have:=b2;refine zo 5 3 rfl rfl rfl ?_)|(have:=b2;refine zF ((yS u ⟨g,m,ar,⟨62,arg,t0⟩⟩ l3)) zi rfl rfl rfl tH ((zX ⟨g,m,ar,⟨62,arg,t0⟩⟩ [kTy 4] _ zwy62 zwy63).bad hS4 u) ?_)|refine zy rfl (aj (ps:=(yU t0))) rfl rfl ?_|refine zq rfl (aj (ps:=(yU t0))) rfl rfl ?_|(refine shC ?_;first|refine qC cb ?_|(have:=b3;refine zy rfl (zJ rfl rfl (zH zwy66 8)) rfl rfl ?_)|(have:=b3;refine zq rfl (zJ rfl rfl (zH zwy66 8)) rfl rfl ?_)|refine qC (zT 4) ?_)|(have:=b2;refine zu ?_;first|(refine zx 0 zi rfl rfl ((qw ⟨g,m,ar,⟨62,arg,t0⟩⟩ hF t0 _ zwy62).ok hS3) rfl rfl rfl rfl rfl ?_))|(have:=b4;refine zu ?_;first|(refine zx 0 zi rfl rfl ((qw ⟨g,m,ar,⟨62,arg,t0⟩⟩ hF t0 _ zwy62).ok hS3) rfl rfl rfl rfl rfl ?_)|(refine zx 0 zi rfl rfl ((zX ⟨g,m,ar,⟨62,arg,t0⟩⟩ [kTy 4] _ zwy62 zwy63).ok hS4) rfl rfl rfl rfl rfl ?_))|refine sK ?_|refine sC (fun _=>?_) (fun _=>?_)|exact zD hw|exact yc hw (yD (.inr rfl) tH)|fail)):G:=h
theorem zpS (g:Img) (hF:Fm g) (m:Me) (ar:List Ty) (arg:Int) (t0:Ty) (l:List Ty) (hl:l.length<=100):XC 131 [] (⟨g,m,ar,⟨62,arg,t0⟩⟩:RC) (yC g m ⟨62,arg,t0⟩) uV l:=by
 intro u;refine zI zf Tryz.func131 rfl zws Tryz.ntmps131 zwy63 _ rfl (fun gB hw1=>?_);have co:=qY t0;have cb:=zcR t0;have cr:=Yn t0;cases hC1:(zgr t0)
 ·rw [hC1] at cb;have hw:(yC g m ⟨62,arg,t0⟩) l=.error 8:=by simp [yC,zB,zG,hC1,zN,emptyS]
  have b0:=();exact zwk69
 ·rw [hC1] at cb;cases hS3:(YK g t0) l with
  | error e =>
   have hw:(yC g m ⟨62,arg,t0⟩) l=.error e:=by simp [yC,zB,zG,hC1,zN,emptyS,hS3]
   have b1:=();have b3:=();exact zwk69
  | ok p =>
   obtain ⟨⟨⟩,l3⟩:=p;have hl3:l3.length<=100:=by have:=VL hS3;omega
   cases hS4:(qg m.max [kTy 4]) l3 with
   | error e =>
    have hw:(yC g m ⟨62,arg,t0⟩) l=.error e:=by simp [yC,zB,zG,hC1,zN,emptyS,hS3,hS4]
    have b2:=();have b3:=();exact zwk69
   | ok p =>
    obtain ⟨⟨⟩,l4⟩:=p;have hw:(yC g m ⟨62,arg,t0⟩) l=.ok ((),l4):=by simp [yC,zB,zG,hC1,zN,emptyS,hS3,hS4]
    have b3:=();have b4:=();exact zwk69
theorem zwk70 {G:Prop} (h:G:=by repeat' (first|(have:=b0;refine zo 2 13 rfl rfl rfl ?_)|(have:=b0;refine zF ([]) zi rfl rfl rfl tH (yu zwy66 8) ?_)|(have:=b1;refine zo 6 1 rfl rfl rfl ?_)|(have:=b1;refine zF ((yS u ⟨g,m,ar,⟨63,arg,t0⟩⟩ l)) zi rfl rfl rfl tH ((yw ⟨g,m,ar,⟨63,arg,t0⟩⟩ _ zwy62).bad hS3 u) ?_)|(have:=b2;refine zo 6 3 rfl rfl rfl ?_)|(have:=b2;refine zF ([]) zi rfl rfl rfl tH (yu zwy78 10) ?_)|(have:=b3;refine zo 9 3 rfl rfl rfl ?_)|(have:=b3;refine zF ((yS u ⟨g,m,ar,⟨63,arg,t0⟩⟩ l3)) zi rfl rfl rfl tH ((zX ⟨g,m,ar,⟨63,arg,t0⟩⟩ [rfT t0] _ zwy62 zwy63).bad hS7 u) ?_)|refine zy rfl (aj (ps:=(yU t0))) rfl rfl ?_|refine zq rfl (aj (ps:=(yU t0))) rfl rfl ?_|(refine shC ?_;first|refine qC cb ?_|(have:=b4;refine zy rfl (zJ rfl rfl (zH zwy66 8)) rfl rfl ?_)|(have:=b4;refine zq rfl (zJ rfl rfl (zH zwy66 8)) rfl rfl ?_)|(have:=b5;refine qC cx ?_)|(have:=b6;refine zy rfl (zJ rfl rfl (zH zwy78 10)) rfl rfl ?_)|(have:=b6;refine zq rfl (zJ rfl rfl (zH zwy78 10)) rfl rfl ?_)|refine qC cr ?_)|(have:=b7;refine zu ?_;first|(refine zx 0 zi rfl rfl ((yw ⟨g,m,ar,⟨63,arg,t0⟩⟩ _ zwy62).ok hS3) rfl rfl rfl rfl rfl ?_))|(have:=b8;refine zu ?_;first|(refine zx 0 zi rfl rfl ((yw ⟨g,m,ar,⟨63,arg,t0⟩⟩ _ zwy62).ok hS3) rfl rfl rfl rfl rfl ?_)|(refine zx 0 zi rfl rfl ((zX ⟨g,m,ar,⟨63,arg,t0⟩⟩ [rfT t0] _ zwy62 zwy63).ok hS7) rfl rfl rfl rfl rfl ?_))|refine sK ?_|refine sC (fun _=>?_) (fun _=>?_)|exact zD hw|exact yc hw (yD (.inl rfl) tH)|fail)):G:=h
theorem zpM (g:Img) (hF:Fm g) (m:Me) (ar:List Ty) (arg:Int) (t0:Ty) (l:List Ty) (hl:l.length<=100):XC 131 [] (⟨g,m,ar,⟨63,arg,t0⟩⟩:RC) (yC g m ⟨63,arg,t0⟩) uV l:=by
 intro u;refine zI zf Tryz.func131 rfl zws Tryz.ntmps131 zwy63 _ rfl (fun gB hw1=>?_);have co:=qY t0;have cb:=zcR t0;have cr:=Yn t0;cases hC1:(zgr t0)
 ·rw [hC1] at cb;have hw:(yC g m ⟨63,arg,t0⟩) l=.error 8:=by simp [yC,zB,zG,hC1,zN,emptyS]
  have b0:=();exact zwk70
 ·rw [hC1] at cb;cases hS3:(Qp) l with
  | error e =>
   have hw:(yC g m ⟨63,arg,t0⟩) l=.error e:=by simp [yC,zB,zG,hC1,zN,emptyS,hS3]
   have b1:=();have b4:=();exact zwk70
  | ok p =>
   obtain ⟨t,l3⟩:=p;have hl3:l3.length<=100:=by have:=Wh hS3;omega
   have cx:=qY t;cases hC5:(object t)
   ·rw [hC5] at cx;have hw:(yC g m ⟨63,arg,t0⟩) l=.error 10:=by simp [yC,zB,zG,hC1,zN,emptyS,hS3,hC5,zN,emptyS]
    have b2:=();have b4:=();have b5:=();have b7:=();exact zwk70
   ·rw [hC5] at cx;cases hS7:(qg m.max [rfT t0]) l3 with
    | error e =>
     have hw:(yC g m ⟨63,arg,t0⟩) l=.error e:=by simp [yC,zB,zG,hC1,zN,emptyS,hS3,hC5,zN,emptyS,hS7]
     have b3:=();have b4:=();have b5:=();have b6:=();have b7:=();exact zwk70
    | ok p =>
     obtain ⟨⟨⟩,l7⟩:=p;have hw:(yC g m ⟨63,arg,t0⟩) l=.ok ((),l7):=by simp [yC,zB,zG,hC1,zN,emptyS,hS3,hC5,zN,emptyS,hS7]
     have b4:=();have b5:=();have b6:=();have b8:=();exact zwk70
theorem zwk71 {G:Prop} (h:G:=by repeat' (first|(have:=b0;refine zo 2 13 rfl rfl rfl ?_)|(have:=b0;refine zF ([]) zi rfl rfl rfl tH (yu zwy66 8) ?_)|(have:=b1;refine zo 6 1 rfl rfl rfl ?_)|(have:=b1;refine zF ((yS u ⟨g,m,ar,⟨64,arg,t0⟩⟩ l)) zi rfl rfl rfl tH ((yw ⟨g,m,ar,⟨64,arg,t0⟩⟩ _ zwy62).bad hS3 u) ?_)|(have:=b2;refine zo 6 3 rfl rfl rfl ?_)|(have:=b2;refine zF ([]) zi rfl rfl rfl tH (yu zwy78 10) ?_)|(have:=b3;refine zo 9 3 rfl rfl rfl ?_)|(have:=b3;refine zF ((yS u ⟨g,m,ar,⟨64,arg,t0⟩⟩ l3)) zi rfl rfl rfl tH ((zX ⟨g,m,ar,⟨64,arg,t0⟩⟩ [t0] _ zwy62 zwy63).bad hS7 u) ?_)|refine zy rfl (aj (ps:=(yU t0))) rfl rfl ?_|refine zq rfl (aj (ps:=(yU t0))) rfl rfl ?_|(refine shC ?_;first|refine qC cb ?_|(have:=b4;refine zy rfl (zJ rfl rfl (zH zwy66 8)) rfl rfl ?_)|(have:=b4;refine zq rfl (zJ rfl rfl (zH zwy66 8)) rfl rfl ?_)|(have:=b5;refine qC cx ?_)|(have:=b6;refine zy rfl (zJ rfl rfl (zH zwy78 10)) rfl rfl ?_)|(have:=b6;refine zq rfl (zJ rfl rfl (zH zwy78 10)) rfl rfl ?_))|(have:=b7;refine zu ?_;first|(refine zx 0 zi rfl rfl ((yw ⟨g,m,ar,⟨64,arg,t0⟩⟩ _ zwy62).ok hS3) rfl rfl rfl rfl rfl ?_))|(have:=b8;refine zu ?_;first|(refine zx 0 zi rfl rfl ((yw ⟨g,m,ar,⟨64,arg,t0⟩⟩ _ zwy62).ok hS3) rfl rfl rfl rfl rfl ?_)|(refine zx 0 zi rfl rfl ((zX ⟨g,m,ar,⟨64,arg,t0⟩⟩ [t0] _ zwy62 zwy63).ok hS7) rfl rfl rfl rfl rfl ?_))|refine sK ?_|refine sC (fun _=>?_) (fun _=>?_)|exact zD hw|exact yc hw (yD (.inl rfl) tH)|fail)):G:=h
theorem zpO (g:Img) (hF:Fm g) (m:Me) (ar:List Ty) (arg:Int) (t0:Ty) (l:List Ty) (hl:l.length<=100):XC 131 [] (⟨g,m,ar,⟨64,arg,t0⟩⟩:RC) (yC g m ⟨64,arg,t0⟩) uV l:=by
 intro u;refine zI zf Tryz.func131 rfl zws Tryz.ntmps131 zwy63 _ rfl (fun gB hw1=>?_);have co:=qY t0;have cb:=zcR t0;have cr:=Yn t0;cases hC1:(zgr t0)
 ·rw [hC1] at cb;have hw:(yC g m ⟨64,arg,t0⟩) l=.error 8:=by simp [yC,zB,zG,hC1,zN,emptyS]
  have b0:=();exact zwk71
 ·rw [hC1] at cb;cases hS3:(Qp) l with
  | error e =>
   have hw:(yC g m ⟨64,arg,t0⟩) l=.error e:=by simp [yC,zB,zG,hC1,zN,emptyS,hS3]
   have b1:=();have b4:=();exact zwk71
  | ok p =>
   obtain ⟨t,l3⟩:=p;have hl3:l3.length<=100:=by have:=Wh hS3;omega
   have cx:=qY t;cases hC5:(object t)
   ·rw [hC5] at cx;have hw:(yC g m ⟨64,arg,t0⟩) l=.error 10:=by simp [yC,zB,zG,hC1,zN,emptyS,hS3,hC5,zN,emptyS]
    have b2:=();have b4:=();have b5:=();have b7:=();exact zwk71
   ·rw [hC5] at cx;cases hS7:(qg m.max [t0]) l3 with
    | error e =>
     have hw:(yC g m ⟨64,arg,t0⟩) l=.error e:=by simp [yC,zB,zG,hC1,zN,emptyS,hS3,hC5,zN,emptyS,hS7]
     have b3:=();have b4:=();have b5:=();have b6:=();have b7:=();exact zwk71
    | ok p =>
     obtain ⟨⟨⟩,l7⟩:=p;have hw:(yC g m ⟨64,arg,t0⟩) l=.ok ((),l7):=by simp [yC,zB,zG,hC1,zN,emptyS,hS3,hC5,zN,emptyS,hS7]
     have b4:=();have b5:=();have b6:=();have b8:=();exact zwk71
theorem zwk72 {G:Prop} (h:G:=by repeat' (first|(have:=b0;refine zo 2 13 rfl rfl rfl ?_)|(have:=b0;refine zF ([]) zi rfl rfl rfl tH (yu zwy66 8) ?_)|(have:=b1;refine zo 6 1 rfl rfl rfl ?_)|(have:=b1;refine zF ((yS u c l)) zi rfl rfl rfl tH ((yw c _ zwy62).bad hS3 u) ?_)|(have:=b2;refine zo 6 3 rfl rfl rfl ?_)|(have:=b2;refine zF ([]) zi rfl rfl rfl tH (yu zwy78 10) ?_)|(have:=b3;refine zo 9 3 rfl rfl rfl ?_)|(have:=b3;refine zF ((yS u c l3)) zi rfl rfl rfl tH ((zX c [t0] _ zwy62 zwy63).bad hS7 u) ?_)|refine zy rfl (aj (ps:=(yU t0))) rfl rfl ?_|refine zq rfl (aj (ps:=(yU t0))) rfl rfl ?_|(refine shC ?_;first|refine qC co ?_|(have:=b4;refine zy rfl (zJ rfl rfl (zH zwy66 8)) rfl rfl ?_)|(have:=b4;refine zq rfl (zJ rfl rfl (zH zwy66 8)) rfl rfl ?_)|(have:=b5;refine qC cx ?_)|(have:=b6;refine zy rfl (zJ rfl rfl (zH zwy78 10)) rfl rfl ?_)|(have:=b6;refine zq rfl (zJ rfl rfl (zH zwy78 10)) rfl rfl ?_))|(have:=b7;refine zu ?_;first|(refine zx 0 zi rfl rfl ((yw c _ zwy62).ok hS3) rfl rfl rfl rfl rfl ?_))|(have:=b8;refine zu ?_;first|(refine zx 0 zi rfl rfl ((yw c _ zwy62).ok hS3) rfl rfl rfl rfl rfl ?_)|(refine zx 0 zi rfl rfl ((zX c [t0] _ zwy62 zwy63).ok hS7) rfl rfl rfl rfl rfl ?_))|refine sK ?_|refine sC (fun _=>?_) (fun _=>?_)|exact zD hw|exact yc hw (yD (.inl rfl) tH)|fail)):G:=h
theorem zpk (g:Img) (hF:Fm g) (m:Me) (ar:List Ty) (arg:Int) (t0:Ty) (l:List Ty) (hl:l.length<=100) (op:Int) (ho:op=65\/op=66):XC 131 [] (⟨g,m,ar,⟨op,arg,t0⟩⟩:RC) (yC g m ⟨op,arg,t0⟩) uV l:=by
 let c:RC:=⟨g,m,ar,⟨op,arg,t0⟩⟩
 rcases ho with rfl|rfl
 all_goals
  intro u;refine zI zf Tryz.func131 rfl zws Tryz.ntmps131 zwy63 _ rfl (fun gB hw1=>?_);have co:=qY t0;have cb:=zcR t0;have cr:=Yn t0;cases hC1:(object t0)
  ·rw [hC1] at co;have hw:(yC g m ⟨c.x.op,arg,t0⟩) l=.error 8:=by simp [yC,c,zB,zG,hC1,zN,emptyS]
   have b0:=();exact zwk72
  ·rw [hC1] at co;cases hS3:(Qp) l with
   | error e =>
    have hw:(yC g m ⟨c.x.op,arg,t0⟩) l=.error e:=by simp [yC,c,zB,zG,hC1,zN,emptyS,hS3]
    have b1:=();have b4:=();exact zwk72
   | ok p =>
    obtain ⟨t,l3⟩:=p;have hl3:l3.length<=100:=by have:=Wh hS3;omega
    have cx:=qY t;cases hC5:(object t)
    ·rw [hC5] at cx;have hw:(yC g m ⟨c.x.op,arg,t0⟩) l=.error 10:=by simp [yC,c,zB,zG,hC1,zN,emptyS,hS3,hC5,zN,emptyS]
     have b2:=();have b4:=();have b5:=();have b7:=();exact zwk72
    ·rw [hC5] at cx;cases hS7:(qg m.max [t0]) l3 with
     | error e =>
      have hw:(yC g m ⟨c.x.op,arg,t0⟩) l=.error e:=by simp [yC,c,zB,zG,hC1,zN,emptyS,hS3,hC5,zN,emptyS,hS7]
      have b3:=();have b4:=();have b5:=();have b6:=();have b7:=();exact zwk72
     | ok p =>
      obtain ⟨⟨⟩,l7⟩:=p;have hw:(yC g m ⟨c.x.op,arg,t0⟩) l=.ok ((),l7):=by simp [yC,c,zB,zG,hC1,zN,emptyS,hS3,hC5,zN,emptyS,hS7]
      have b4:=();have b5:=();have b6:=();have b8:=();exact zwk72
set_option maxHeartbeats 20000000
theorem zwk51 {G:Prop} (h:G:=by repeat' (first|(have:=b0;refine zo 5 3 rfl rfl rfl ?_)|(have:=b0;refine zF ((yS u ⟨g,m,ar,⟨54,arg,t0⟩⟩ l1)) zi rfl rfl rfl tH (cq.bad hq u) ?_)|refine Yy 6 5 1 ((1,.cell (.pv (yI t0)))::zhs u) ⟨g,m,ar,⟨54,arg,t0⟩⟩ l l1 (tV t) none rfl zws zws zws zws zws rfl zws rfl rfl tH rfl rfl (fun v hv=>by cases hv) ?_|refine ⟨⟨rfl,za1 cp hp rfl rfl rfl rfl rfl rfl⟩,?_⟩|refine zy rfl (aj (ps:=(yU t0))) rfl rfl ?_|refine zq rfl (aj (ps:=(yU t0))) rfl rfl ?_|intro _|(have:=b1;refine zF [] zi rfl rfl rfl tH (yu hn 10) ?_)|(have:=b2;refine WR ?_)|(refine shC ?_;first|refine qC cr ?_|(have:=b2;refine qC (zH hn 10) ?_))|(have:=b3;refine zu ?_;first|(refine ay 0 (cq.ok hq) ?_))|refine sK ?_|refine sC (fun _=>?_) (fun _=>?_)|exact zD hw|exact yc hw (yD (.inl rfl) tH)|fail)):G:=h
theorem zsf (g:Img) (hF:Fm g) (m:Me) (ar:List Ty) (arg:Int) (t0:Ty) (l:List Ty) (hl:l.length<=100):XC 129 [] (⟨g,m,ar,⟨54,arg,t0⟩⟩:RC) (Ze g m ⟨54,arg,t0⟩) uV l:=by
 intro u;refine zI zf Tryz.func129 rfl zws Tryz.ntmps129 zwy63 _ rfl (fun gB hw1=>?_);have cr:=Yn t0;have cp:=yw ⟨g,m,ar,⟨54,arg,t0⟩⟩ l zwy62;rcases YL l with hp|⟨t,l1,hp,_⟩
 ·have hw:(Ze g m ⟨54,arg,t0⟩) l=.error 9:=by simp [Ze,zB,hp]
  repeat' (first|refine Yy 6 5 1 ((1,.cell (.pv (yI t0)))::zhs u) ⟨g,m,ar,⟨54,arg,t0⟩⟩ l l (tV t0) (some (flt 9)) rfl zws zws zws zws zws rfl zws rfl rfl tH rfl rfl (fun v hv=>by cases hv;exact zD hw) ?_|refine ⟨⟨rfl,zgo (u:=u) cp hp rfl rfl tH rfl⟩,?_⟩|refine zy rfl (aj (ps:=(yU t0))) rfl rfl ?_|refine zq rfl (aj (ps:=(yU t0))) rfl rfl ?_|(intro h;cases h)|(refine shC ?_;first|refine qC cr ?_)|refine sK ?_|refine sC (fun _=>?_) (fun _=>?_)|fail)
 ·have hl1:l1.length<=100:=by have:=Wh hp;omega
  cases hn:tyB t (rfT t0)
  ·have hw:(Ze g m ⟨54,arg,t0⟩) l=.error 10:=by simp [Ze,zB,hp,zN,hn]
   have b1:=();exact zwk51
  ·have cq:=zX ⟨g,m,ar,⟨54,arg,t0⟩⟩ [t0] l1 zwy62 zwy63;cases hq:(qg m.max [t0]) l1 with
   | error e =>
    have hw:(Ze g m ⟨54,arg,t0⟩) l=.error e:=by simp [Ze,zB,hp,zN,hn,hq]
    have b0:=();have b2:=();exact zwk51
   | ok p =>
    obtain ⟨⟨⟩,l2⟩:=p;have hw:(Ze g m ⟨54,arg,t0⟩) l=.ok ((),l2):=by simp [Ze,zB,hp,zN,hn,hq]
    have b2:=();have b3:=();exact zwk51
theorem zwk52 {G:Prop} (h:G:=by repeat' (first|refine Yy 6 5 1 ((1,.cell (.pv (yI t0)))::zhs u) ⟨g,m,ar,⟨56,arg,t0⟩⟩ l l1 (tV t) none rfl zws zws zws zws zws rfl zws rfl rfl tH rfl rfl (fun v hv=>by cases hv) ?_|refine ⟨⟨rfl,za1 cp hp rfl rfl rfl rfl rfl rfl⟩,?_⟩|refine zy rfl (aj (ps:=(yU t0))) rfl rfl ?_|refine zq rfl (aj (ps:=(yU t0))) rfl rfl ?_|intro _|(have:=b0;refine zF [] zi rfl rfl rfl tH (yu hn 10) ?_)|(have:=b1;refine WR ?_)|(refine shC ?_;first|refine qC cr ?_|(have:=b1;refine qC (zH hn 10) ?_))|refine sK ?_|refine sC (fun _=>?_) (fun _=>?_)|exact zD hw|exact yc hw (yD (.inl rfl) tH)|fail)):G:=h
theorem zq9 (g:Img) (hF:Fm g) (m:Me) (ar:List Ty) (arg:Int) (t0:Ty) (l:List Ty) (hl:l.length<=100):XC 129 [] (⟨g,m,ar,⟨56,arg,t0⟩⟩:RC) (Ze g m ⟨56,arg,t0⟩) uV l:=by
 intro u;refine zI zf Tryz.func129 rfl zws Tryz.ntmps129 zwy63 _ rfl (fun gB hw1=>?_);have cr:=Yn t0;have cp:=yw ⟨g,m,ar,⟨56,arg,t0⟩⟩ l zwy62;rcases YL l with hp|⟨t,l1,hp,_⟩
 ·have hw:(Ze g m ⟨56,arg,t0⟩) l=.error 9:=by simp [Ze,zB,hp]
  repeat' (first|refine Yy 6 5 1 ((1,.cell (.pv (yI t0)))::zhs u) ⟨g,m,ar,⟨56,arg,t0⟩⟩ l l (tV t0) (some (flt 9)) rfl zws zws zws zws zws rfl zws rfl rfl tH rfl rfl (fun v hv=>by cases hv;exact zD hw) ?_|refine ⟨⟨rfl,zgo (u:=u) cp hp rfl rfl tH rfl⟩,?_⟩|refine zy rfl (aj (ps:=(yU t0))) rfl rfl ?_|refine zq rfl (aj (ps:=(yU t0))) rfl rfl ?_|(intro h;cases h)|(refine shC ?_;first|refine qC cr ?_)|refine sK ?_|refine sC (fun _=>?_) (fun _=>?_)|fail)
 ·have hl1:l1.length<=100:=by have:=Wh hp;omega
  cases hn:tyB t (rfT t0)
  ·have hw:(Ze g m ⟨56,arg,t0⟩) l=.error 10:=by simp [Ze,zB,hp,zN,hn]
   have b0:=();exact zwk52
  ·have hw:(Ze g m ⟨56,arg,t0⟩) l=.ok ((),l1):=by simp [Ze,zB,zG,hp,zN,hn]
   have b1:=();exact zwk52
end Go.Cg
