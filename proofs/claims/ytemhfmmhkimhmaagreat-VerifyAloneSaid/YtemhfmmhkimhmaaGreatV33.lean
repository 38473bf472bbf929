/- A part of the walks by abstract values: no statement of its own. -/
import Derived.Test.YtemhfmmhkimhmaaGreatV27
set_option linter.unusedVariables false
set_option linter.unusedSimpArgs false
namespace Go.Cg
open Go.Proofs
set_option maxHeartbeats 20000000
theorem zwk67 {G:Prop} (h:G:=by repeat' (first|(have:=b0;refine zo 3 1 rfl rfl rfl ?_)|(have:=b0;refine zD ((yS u c l)) zi rfl rfl rfl tH ((yx c _ zwy62).bad hS1 u) ?_)|(have:=b1;refine zo 4 6 rfl rfl rfl ?_)|(have:=b1;refine zD ([]) zi rfl rfl rfl tH (yu zwy93 10) ?_)|(refine shC ?_;first|(have:=b2;refine qC cn ?_)|(have:=b3;refine qC co ?_)|(have:=b4;refine zy rfl (zJ rfl rfl (zH zwy93 10)) rfl rfl ?_)|(have:=b4;refine zq rfl (zJ rfl rfl (zH zwy93 10)) rfl rfl ?_)|(have:=b5;refine zy rfl (zJ rfl rfl (zH zwy88 10)) rfl rfl ?_)|(have:=b5;refine zq rfl (zJ rfl rfl (zH zwy88 10)) rfl rfl ?_))|(have:=b2;refine zu ?_;first|(refine zx 0 zi rfl rfl ((yx c _ zwy62).ok hS1) rfl rfl rfl rfl rfl ?_))|refine sK ?_|refine sC (fun _=>?_) (fun _=>?_)|exact zF hw|exact yc hw (yE (.inl rfl) tH)|fail)):G:=h
theorem zsj (g:Img) (hF:Fm g) (m:Me) (ar:List Ty) (arg:Int) (t0:Ty) (l:List Ty) (hl:l.length<=100) (op:Int) (ho:op=35\/op=36):XC 126 [] (⟨g,m,ar,⟨op,arg,t0⟩⟩:RC) (ZO op) uV l:=by
 let c:RC:=⟨g,m,ar,⟨op,arg,t0⟩⟩
 rcases ho with rfl|rfl
 all_goals
  intro u;refine zI zf Tryz.func126 rfl zws Tryz.ntmps126 zwy63 _ rfl (fun gB hw1=>?_);cases hS1:(Qj) l with
  | error e =>
   have hw:(ZO c.x.op) l=.error e:=by simp [ZO,c,zA,zG,hS1]
   have b0:=();exact zwk67
  | ok p =>
   obtain ⟨t,l1⟩:=p;have hl1:l1.length<=100:=by have:=XZ hS1;omega
   have cn:=zcc t;have co:=qY t;cases hC3:(nuT t)
   ·rw [hC3] at cn;cases hC4:(object t)
    ·rw [hC4] at co;have hw:(ZO c.x.op) l=.error 10:=by simp [ZO,c,zA,zG,hS1,hC3,hC4,zO,emptyS]
     have b1:=();have b2:=();have b3:=();exact zwk67
    ·rw [hC4] at co;have hw:(ZO c.x.op) l=.ok ((),l1):=by simp [ZO,c,zA,zG,hS1,hC3,hC4,zO,emptyS]
     have b2:=();have b3:=();have b4:=();exact zwk67
   ·rw [hC3] at cn;have hw:(ZO c.x.op) l=.ok ((),l1):=by simp [ZO,c,zA,zG,hS1,hC3,zO,emptyS]
    have b2:=();have b5:=();exact zwk67
theorem ztw (g:Img) (hF:Fm g) (m:Me) (ar:List Ty) (arg:Int) (t0:Ty) (l:List Ty) (hl:l.length<=100) (op:Int) (ho:op=37\/op=42):XC 126 [] (⟨g,m,ar,⟨op,arg,t0⟩⟩:RC) (ZO op) uV l:=by
 let c:RC:=⟨g,m,ar,⟨op,arg,t0⟩⟩
 rcases ho with rfl|rfl
 all_goals
  intro u;refine zI zf Tryz.func126 rfl zws Tryz.ntmps126 zwy63 _ rfl (fun gB hw1=>?_);cases hS1:(Zy) l with
  | error e =>
   have hw:(ZO c.x.op) l=.error e:=by simp [ZO,c,zA,zG,hS1]
   repeat' (first|refine zo 7 1 rfl rfl rfl ?_|refine zD ((yS u c l)) zi rfl rfl rfl tH ((VZ c _ zwy62).bad hS1 u) ?_|refine sK ?_|refine sC (fun _=>?_) (fun _=>?_)|fail)
   exact zF hw
  | ok p =>
   obtain ⟨⟨⟩,l1⟩:=p;have hl1:l1.length<=100:=by have:=zep hS1;omega
   have hw:(ZO c.x.op) l=.ok ((),l1):=by simp [ZO,c,zA,zG,hS1]
   repeat' (first|(refine zu ?_;first|(refine zx 0 zi rfl rfl ((VZ c _ zwy62).ok hS1) rfl rfl rfl rfl rfl ?_))|refine sK ?_|refine sC (fun _=>?_) (fun _=>?_)|fail)
   exact yc hw (yE (.inl rfl) tH)
theorem zs7 (g:Img) (hF:Fm g) (m:Me) (ar:List Ty) (arg:Int) (t0:Ty) (l:List Ty) (hl:l.length<=100) (op:Int) (ho:op=38\/op=39\/op=40\/op=41):XC 126 [] (⟨g,m,ar,⟨op,arg,t0⟩⟩:RC) (ZO op) uV l:=by
 let c:RC:=⟨g,m,ar,⟨op,arg,t0⟩⟩
 rcases ho with rfl|rfl|rfl|rfl
 all_goals
  intro u;refine zI zf Tryz.func126 rfl zws Tryz.ntmps126 zwy63 _ rfl (fun gB hw1=>?_);cases hS1:(ZJ) l with
  | error e =>
   have hw:(ZO c.x.op) l=.error e:=by simp [ZO,c,zA,zG,hS1]
   repeat' (first|refine zo 12 1 rfl rfl rfl ?_|refine zD ((yS u c l)) zi rfl rfl rfl tH ((YS c _ zwy62).bad hS1 u) ?_|refine sK ?_|refine sC (fun _=>?_) (fun _=>?_)|fail)
   exact zF hw
  | ok p =>
   obtain ⟨t,l1⟩:=p;have hl1:l1.length<=100:=by have:=zby hS1;omega
   have hw:(ZO c.x.op) l=.ok ((),l1):=by simp [ZO,c,zA,zG,hS1]
   repeat' (first|(refine zu ?_;first|(refine zx 0 zi rfl rfl ((YS c _ zwy62).ok hS1) rfl rfl rfl rfl rfl ?_))|refine sK ?_|refine sC (fun _=>?_) (fun _=>?_)|fail)
   exact yc hw (yE (.inl rfl) tH)
theorem zsM (g:Img) (hF:Fm g) (m:Me) (ar:List Ty) (arg:Int) (t0:Ty) (l:List Ty) (hl:l.length<=100):XC 126 [] (⟨g,m,ar,⟨34,arg,t0⟩⟩:RC) (ZO 34) uV l:=by
 intro u;refine zI zf Tryz.func126 rfl zws Tryz.ntmps126 zwy63 _ rfl (fun gB hw1=>?_);have hw:(ZO 34) l=.ok ((),l):=by simp [ZO,zA,zG]
 repeat' (first|refine sK ?_|refine sC (fun _=>?_) (fun _=>?_)|fail)
 exact yc hw (yE (.inl rfl) tH)
theorem zwk68 {G:Prop} (h:G:=by repeat' (first|(have:=b0;refine zo 2 13 rfl rfl rfl ?_)|(have:=b0;refine zD ([]) zi rfl rfl rfl tH (yu zwy66 8) ?_)|(have:=b1;refine zo 4 2 rfl rfl rfl ?_)|(have:=b1;refine zD ((yS u ⟨g,m,ar,⟨62,arg,t0⟩⟩ l)) zi rfl rfl rfl tH ((qx ⟨g,m,ar,⟨62,arg,t0⟩⟩ hF t0 _ zwy62).bad hS3 u) ?_)|(have:=b2;refine zo 5 3 rfl rfl rfl ?_)|(have:=b2;refine zD ((yS u ⟨g,m,ar,⟨62,arg,t0⟩⟩ l3)) zi rfl rfl rfl tH ((zX ⟨g,m,ar,⟨62,arg,t0⟩⟩ [kTy 4] _ zwy62 zwy63).bad hS4 u) ?_)|refine zy rfl (aj (ps:=(yU t0))) rfl rfl ?_|refine zq rfl (aj (ps:=(yU t0))) rfl rfl ?_|(refine shC ?_;first|refine qC cb ?_|(have:=b3;refine zy rfl (zJ rfl rfl (zH zwy66 8)) rfl rfl ?_)|(have:=b3;refine zq rfl (zJ rfl rfl (zH zwy66 8)) rfl rfl ?_)|refine qC (zU 4) ?_)|(have:=b2;refine zu ?_;first|(refine zx 0 zi rfl rfl ((qx ⟨g,m,ar,⟨62,arg,t0⟩⟩ hF t0 _ zwy62).ok hS3) rfl rfl rfl rfl rfl ?_))|(have:=b4;refine zu ?_;first|(refine zx 0 zi rfl rfl ((qx ⟨g,m,ar,⟨62,arg,t0⟩⟩ hF t0 _ zwy62).ok hS3) rfl rfl rfl rfl rfl ?_)|(refine zx 0 zi rfl rfl ((zX ⟨g,m,ar,⟨62,arg,t0⟩⟩ [kTy 4] _ zwy62 zwy63).ok hS4) rfl rfl rfl rfl rfl ?_))|refine sK ?_|refine sC (fun _=>?_) (fun _=>?_)|exact zF hw|exact yc hw (yE (.inr rfl) tH)|fail)):G:=h
theorem zo2 (g:Img) (hF:Fm g) (m:Me) (ar:List Ty) (arg:Int) (t0:Ty) (l:List Ty) (hl:l.length<=100):XC 131 [] (⟨g,m,ar,⟨62,arg,t0⟩⟩:RC) (yD g m ⟨62,arg,t0⟩) uV l:=by
 intro u;refine zI zf Tryz.func131 rfl zws Tryz.ntmps131 zwy63 _ rfl (fun gB hw1=>?_);have co:=qY t0;have cb:=zcN t0;have cr:=Yl t0;cases hC1:(zgu t0)
 ·rw [hC1] at cb;have hw:(yD g m ⟨62,arg,t0⟩) l=.error 8:=by simp [yD,zA,zG,hC1,zO,emptyS]
  have b0:=();exact zwk68
 ·rw [hC1] at cb;cases hS3:(YG g t0) l with
  | error e =>
   have hw:(yD g m ⟨62,arg,t0⟩) l=.error e:=by simp [yD,zA,zG,hC1,zO,emptyS,hS3]
   have b1:=();have b3:=();exact zwk68
  | ok p =>
   obtain ⟨⟨⟩,l3⟩:=p;have hl3:l3.length<=100:=by have:=VX hS3;omega
   cases hS4:(qg m.max [kTy 4]) l3 with
   | error e =>
    have hw:(yD g m ⟨62,arg,t0⟩) l=.error e:=by simp [yD,zA,zG,hC1,zO,emptyS,hS3,hS4]
    have b2:=();have b3:=();exact zwk68
   | ok p =>
    obtain ⟨⟨⟩,l4⟩:=p;have hw:(yD g m ⟨62,arg,t0⟩) l=.ok ((),l4):=by simp [yD,zA,zG,hC1,zO,emptyS,hS3,hS4]
    have b3:=();have b4:=();exact zwk68
theorem zwk69 {G:Prop} (h:G:=by repeat' (first|(have:=b0;refine zo 2 13 rfl rfl rfl ?_)|(have:=b0;refine zD ([]) zi rfl rfl rfl tH (yu zwy66 8) ?_)|(have:=b1;refine zo 6 1 rfl rfl rfl ?_)|(have:=b1;refine zD ((yS u ⟨g,m,ar,⟨63,arg,t0⟩⟩ l)) zi rfl rfl rfl tH ((yx ⟨g,m,ar,⟨63,arg,t0⟩⟩ _ zwy62).bad hS3 u) ?_)|(have:=b2;refine zo 6 3 rfl rfl rfl ?_)|(have:=b2;refine zD ([]) zi rfl rfl rfl tH (yu zwy78 10) ?_)|(have:=b3;refine zo 9 3 rfl rfl rfl ?_)|(have:=b3;refine zD ((yS u ⟨g,m,ar,⟨63,arg,t0⟩⟩ l3)) zi rfl rfl rfl tH ((zX ⟨g,m,ar,⟨63,arg,t0⟩⟩ [rfT t0] _ zwy62 zwy63).bad hS7 u) ?_)|refine zy rfl (aj (ps:=(yU t0))) rfl rfl ?_|refine zq rfl (aj (ps:=(yU t0))) rfl rfl ?_|(refine shC ?_;first|refine qC cb ?_|(have:=b4;refine zy rfl (zJ rfl rfl (zH zwy66 8)) rfl rfl ?_)|(have:=b4;refine zq rfl (zJ rfl rfl (zH zwy66 8)) rfl rfl ?_)|(have:=b5;refine qC cx ?_)|(have:=b6;refine zy rfl (zJ rfl rfl (zH zwy78 10)) rfl rfl ?_)|(have:=b6;refine zq rfl (zJ rfl rfl (zH zwy78 10)) rfl rfl ?_)|refine qC cr ?_)|(have:=b7;refine zu ?_;first|(refine zx 0 zi rfl rfl ((yx ⟨g,m,ar,⟨63,arg,t0⟩⟩ _ zwy62).ok hS3) rfl rfl rfl rfl rfl ?_))|(have:=b8;refine zu ?_;first|(refine zx 0 zi rfl rfl ((yx ⟨g,m,ar,⟨63,arg,t0⟩⟩ _ zwy62).ok hS3) rfl rfl rfl rfl rfl ?_)|(refine zx 0 zi rfl rfl ((zX ⟨g,m,ar,⟨63,arg,t0⟩⟩ [rfT t0] _ zwy62 zwy63).ok hS7) rfl rfl rfl rfl rfl ?_))|refine sK ?_|refine sC (fun _=>?_) (fun _=>?_)|exact zF hw|exact yc hw (yE (.inl rfl) tH)|fail)):G:=h
theorem zoL (g:Img) (hF:Fm g) (m:Me) (ar:List Ty) (arg:Int) (t0:Ty) (l:List Ty) (hl:l.length<=100):XC 131 [] (⟨g,m,ar,⟨63,arg,t0⟩⟩:RC) (yD g m ⟨63,arg,t0⟩) uV l:=by
 intro u;refine zI zf Tryz.func131 rfl zws Tryz.ntmps131 zwy63 _ rfl (fun gB hw1=>?_);have co:=qY t0;have cb:=zcN t0;have cr:=Yl t0;cases hC1:(zgu t0)
 ·rw [hC1] at cb;have hw:(yD g m ⟨63,arg,t0⟩) l=.error 8:=by simp [yD,zA,zG,hC1,zO,emptyS]
  have b0:=();exact zwk69
 ·rw [hC1] at cb;cases hS3:(Qj) l with
  | error e =>
   have hw:(yD g m ⟨63,arg,t0⟩) l=.error e:=by simp [yD,zA,zG,hC1,zO,emptyS,hS3]
   have b1:=();have b4:=();exact zwk69
  | ok p =>
   obtain ⟨t,l3⟩:=p;have hl3:l3.length<=100:=by have:=XZ hS3;omega
   have cx:=qY t;cases hC5:(object t)
   ·rw [hC5] at cx;have hw:(yD g m ⟨63,arg,t0⟩) l=.error 10:=by simp [yD,zA,zG,hC1,zO,emptyS,hS3,hC5,zO,emptyS]
    have b2:=();have b4:=();have b5:=();have b7:=();exact zwk69
   ·rw [hC5] at cx;cases hS7:(qg m.max [rfT t0]) l3 with
    | error e =>
     have hw:(yD g m ⟨63,arg,t0⟩) l=.error e:=by simp [yD,zA,zG,hC1,zO,emptyS,hS3,hC5,zO,emptyS,hS7]
     have b3:=();have b4:=();have b5:=();have b6:=();have b7:=();exact zwk69
    | ok p =>
     obtain ⟨⟨⟩,l7⟩:=p;have hw:(yD g m ⟨63,arg,t0⟩) l=.ok ((),l7):=by simp [yD,zA,zG,hC1,zO,emptyS,hS3,hC5,zO,emptyS,hS7]
     have b4:=();have b5:=();have b6:=();have b8:=();exact zwk69
theorem zwk70 {G:Prop} (h:G:=by repeat' (first|(have:=b0;refine zo 2 13 rfl rfl rfl ?_)|(have:=b0;refine zD ([]) zi rfl rfl rfl tH (yu zwy66 8) ?_)|(have:=b1;refine zo 6 1 rfl rfl rfl ?_)|(have:=b1;refine zD ((yS u ⟨g,m,ar,⟨64,arg,t0⟩⟩ l)) zi rfl rfl rfl tH ((yx ⟨g,m,ar,⟨64,arg,t0⟩⟩ _ zwy62).bad hS3 u) ?_)|(have:=b2;refine zo 6 3 rfl rfl rfl ?_)|(have:=b2;refine zD ([]) zi rfl rfl rfl tH (yu zwy78 10) ?_)|(have:=b3;refine zo 9 3 rfl rfl rfl ?_)|(have:=b3;refine zD ((yS u ⟨g,m,ar,⟨64,arg,t0⟩⟩ l3)) zi rfl rfl rfl tH ((zX ⟨g,m,ar,⟨64,arg,t0⟩⟩ [t0] _ zwy62 zwy63).bad hS7 u) ?_)|refine zy rfl (aj (ps:=(yU t0))) rfl rfl ?_|refine zq rfl (aj (ps:=(yU t0))) rfl rfl ?_|(refine shC ?_;first|refine qC cb ?_|(have:=b4;refine zy rfl (zJ rfl rfl (zH zwy66 8)) rfl rfl ?_)|(have:=b4;refine zq rfl (zJ rfl rfl (zH zwy66 8)) rfl rfl ?_)|(have:=b5;refine qC cx ?_)|(have:=b6;refine zy rfl (zJ rfl rfl (zH zwy78 10)) rfl rfl ?_)|(have:=b6;refine zq rfl (zJ rfl rfl (zH zwy78 10)) rfl rfl ?_))|(have:=b7;refine zu ?_;first|(refine zx 0 zi rfl rfl ((yx ⟨g,m,ar,⟨64,arg,t0⟩⟩ _ zwy62).ok hS3) rfl rfl rfl rfl rfl ?_))|(have:=b8;refine zu ?_;first|(refine zx 0 zi rfl rfl ((yx ⟨g,m,ar,⟨64,arg,t0⟩⟩ _ zwy62).ok hS3) rfl rfl rfl rfl rfl ?_)|(refine zx 0 zi rfl rfl ((zX ⟨g,m,ar,⟨64,arg,t0⟩⟩ [t0] _ zwy62 zwy63).ok hS7) rfl rfl rfl rfl rfl ?_))|refine sK ?_|refine sC (fun _=>?_) (fun _=>?_)|exact zF hw|exact yc hw (yE (.inl rfl) tH)|fail)):G:=h
theorem zoX (g:Img) (hF:Fm g) (m:Me) (ar:List Ty) (arg:Int) (t0:Ty) (l:List Ty) (hl:l.length<=100):XC 131 [] (⟨g,m,ar,⟨64,arg,t0⟩⟩:RC) (yD g m ⟨64,arg,t0⟩) uV l:=by
 intro u;refine zI zf Tryz.func131 rfl zws Tryz.ntmps131 zwy63 _ rfl (fun gB hw1=>?_);have co:=qY t0;have cb:=zcN t0;have cr:=Yl t0;cases hC1:(zgu t0)
 ·rw [hC1] at cb;have hw:(yD g m ⟨64,arg,t0⟩) l=.error 8:=by simp [yD,zA,zG,hC1,zO,emptyS]
  have b0:=();exact zwk70
 ·rw [hC1] at cb;cases hS3:(Qj) l with
  | error e =>
   have hw:(yD g m ⟨64,arg,t0⟩) l=.error e:=by simp [yD,zA,zG,hC1,zO,emptyS,hS3]
   have b1:=();have b4:=();exact zwk70
  | ok p =>
   obtain ⟨t,l3⟩:=p;have hl3:l3.length<=100:=by have:=XZ hS3;omega
   have cx:=qY t;cases hC5:(object t)
   ·rw [hC5] at cx;have hw:(yD g m ⟨64,arg,t0⟩) l=.error 10:=by simp [yD,zA,zG,hC1,zO,emptyS,hS3,hC5,zO,emptyS]
    have b2:=();have b4:=();have b5:=();have b7:=();exact zwk70
   ·rw [hC5] at cx;cases hS7:(qg m.max [t0]) l3 with
    | error e =>
     have hw:(yD g m ⟨64,arg,t0⟩) l=.error e:=by simp [yD,zA,zG,hC1,zO,emptyS,hS3,hC5,zO,emptyS,hS7]
     have b3:=();have b4:=();have b5:=();have b6:=();have b7:=();exact zwk70
    | ok p =>
     obtain ⟨⟨⟩,l7⟩:=p;have hw:(yD g m ⟨64,arg,t0⟩) l=.ok ((),l7):=by simp [yD,zA,zG,hC1,zO,emptyS,hS3,hC5,zO,emptyS,hS7]
     have b4:=();have b5:=();have b6:=();have b8:=();exact zwk70
theorem zwk71 {G:Prop} (h:G:=by repeat' (first|(have:=b0;refine zo 2 13 rfl rfl rfl ?_)|(have:=b0;refine zD ([]) zi rfl rfl rfl tH (yu zwy66 8) ?_)|(have:=b1;refine zo 6 1 rfl rfl rfl ?_)|(have:=b1;refine zD ((yS u c l)) zi rfl rfl rfl tH ((yx c _ zwy62).bad hS3 u) ?_)|(have:=b2;refine zo 6 3 rfl rfl rfl ?_)|(have:=b2;refine zD ([]) zi rfl rfl rfl tH (yu zwy78 10) ?_)|(have:=b3;refine zo 9 3 rfl rfl rfl ?_)|(have:=b3;refine zD ((yS u c l3)) zi rfl rfl rfl tH ((zX c [t0] _ zwy62 zwy63).bad hS7 u) ?_)|refine zy rfl (aj (ps:=(yU t0))) rfl rfl ?_|refine zq rfl (aj (ps:=(yU t0))) rfl rfl ?_|(refine shC ?_;first|refine qC co ?_|(have:=b4;refine zy rfl (zJ rfl rfl (zH zwy66 8)) rfl rfl ?_)|(have:=b4;refine zq rfl (zJ rfl rfl (zH zwy66 8)) rfl rfl ?_)|(have:=b5;refine qC cx ?_)|(have:=b6;refine zy rfl (zJ rfl rfl (zH zwy78 10)) rfl rfl ?_)|(have:=b6;refine zq rfl (zJ rfl rfl (zH zwy78 10)) rfl rfl ?_))|(have:=b7;refine zu ?_;first|(refine zx 0 zi rfl rfl ((yx c _ zwy62).ok hS3) rfl rfl rfl rfl rfl ?_))|(have:=b8;refine zu ?_;first|(refine zx 0 zi rfl rfl ((yx c _ zwy62).ok hS3) rfl rfl rfl rfl rfl ?_)|(refine zx 0 zi rfl rfl ((zX c [t0] _ zwy62 zwy63).ok hS7) rfl rfl rfl rfl rfl ?_))|refine sK ?_|refine sC (fun _=>?_) (fun _=>?_)|exact zF hw|exact yc hw (yE (.inl rfl) tH)|fail)):G:=h
theorem zoY (g:Img) (hF:Fm g) (m:Me) (ar:List Ty) (arg:Int) (t0:Ty) (l:List Ty) (hl:l.length<=100) (op:Int) (ho:op=65\/op=66):XC 131 [] (⟨g,m,ar,⟨op,arg,t0⟩⟩:RC) (yD g m ⟨op,arg,t0⟩) uV l:=by
 let c:RC:=⟨g,m,ar,⟨op,arg,t0⟩⟩
 rcases ho with rfl|rfl
 all_goals
  intro u;refine zI zf Tryz.func131 rfl zws Tryz.ntmps131 zwy63 _ rfl (fun gB hw1=>?_);have co:=qY t0;have cb:=zcN t0;have cr:=Yl t0;cases hC1:(object t0)
  ·rw [hC1] at co;have hw:(yD g m ⟨c.x.op,arg,t0⟩) l=.error 8:=by simp [yD,c,zA,zG,hC1,zO,emptyS]
   have b0:=();exact zwk71
  ·rw [hC1] at co;cases hS3:(Qj) l with
   | error e =>
    have hw:(yD g m ⟨c.x.op,arg,t0⟩) l=.error e:=by simp [yD,c,zA,zG,hC1,zO,emptyS,hS3]
    have b1:=();have b4:=();exact zwk71
   | ok p =>
    obtain ⟨t,l3⟩:=p;have hl3:l3.length<=100:=by have:=XZ hS3;omega
    have cx:=qY t;cases hC5:(object t)
    ·rw [hC5] at cx;have hw:(yD g m ⟨c.x.op,arg,t0⟩) l=.error 10:=by simp [yD,c,zA,zG,hC1,zO,emptyS,hS3,hC5,zO,emptyS]
     have b2:=();have b4:=();have b5:=();have b7:=();exact zwk71
    ·rw [hC5] at cx;cases hS7:(qg m.max [t0]) l3 with
     | error e =>
      have hw:(yD g m ⟨c.x.op,arg,t0⟩) l=.error e:=by simp [yD,c,zA,zG,hC1,zO,emptyS,hS3,hC5,zO,emptyS,hS7]
      have b3:=();have b4:=();have b5:=();have b6:=();have b7:=();exact zwk71
     | ok p =>
      obtain ⟨⟨⟩,l7⟩:=p;have hw:(yD g m ⟨c.x.op,arg,t0⟩) l=.ok ((),l7):=by simp [yD,c,zA,zG,hC1,zO,emptyS,hS3,hC5,zO,emptyS,hS7]
      have b4:=();have b5:=();have b6:=();have b8:=();exact zwk71
end Go.Cg
