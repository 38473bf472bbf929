/- A part of the walks by abstract values: no statement of its own. -/
import Derived.Test.YtdbgicaoddibdaaGreatT28
set_option linter.unusedVariables false
set_option linter.unusedSimpArgs false
namespace Go.Cg
open Go.Proofs
set_option maxHeartbeats 20000000
theorem zwk35 {G:Prop} (h:G:=by repeat' (first|(have:=b0;refine yV 6 5 rfl zws zws zws zws zws ?_)|(have:=b0;refine zD ((yN u ⟨g,m,ar,⟨55,arg,t0⟩⟩ l)) zh rfl rfl rfl tH ((Ye ⟨g,m,ar,⟨55,arg,t0⟩⟩ hF [rfT t0,t0] _ zwy62).bad hS1 u) ?_)|(have:=b1;refine zV 6 5 rfl zws zws zws zws zws ?_)|refine zy rfl (aj (ps:=(yO t0))) rfl rfl ?_|refine zq rfl (aj (ps:=(yO t0))) rfl rfl ?_|(refine shC ?_;first|refine qC cr ?_)|(have:=b1;refine zn ?_;first|(refine zu 0 zh rfl rfl ((Ye ⟨g,m,ar,⟨55,arg,t0⟩⟩ hF [rfT t0,t0] _ zwy62).ok hS1) rfl rfl rfl rfl rfl ?_))|refine sK ?_|refine sC (fun _=>?_) (fun _=>?_)|exact zF hw|exact zX hw (yw (.inr rfl) tH)|fail)):G:=h
theorem zre (g:Img) (hF:Fm g) (m:Me) (ar:List Ty) (arg:Int) (t0:Ty) (l:List Ty) (hl:l.length≤100):XC 81 [] (⟨g,m,ar,⟨55,arg,t0⟩⟩:RC) (Zd g m ⟨55,arg,t0⟩) uV l:=by
 intro u;refine zI zf Tryz.func81 rfl zws Tryz.ntmps81 zwy63 _ rfl (fun gB hw1=>?_);have cr:=ZX t0;cases hS1:(ZN g [rfT t0,t0]) l with
 | error e =>
  have hw:(Zd g m ⟨55,arg,t0⟩) l=.error e:=by simp [Zd,zB,zG,hS1]
  have b0:=();exact zwk35
 | ok p =>
  obtain ⟨⟨⟩,l1⟩:=p;have hl1:l1.length≤100:=by have:=WC hS1;omega
  have hw:(Zd g m ⟨55,arg,t0⟩) l=.ok ((),l1):=by simp [Zd,zB,zG,hS1]
  have b1:=();exact zwk35
theorem zwk36 {G:Prop} (h:G:=by repeat' (first|(have:=b0;refine zl 4 1 rfl rfl rfl ?_)|(have:=b0;refine zD ((yN u ⟨g,m,ar,⟨57,arg,t0⟩⟩ l)) zh rfl rfl rfl tH ((Zj ⟨g,m,ar,⟨57,arg,t0⟩⟩ _ h0 h1).bad hS1 u) ?_)|(have:=b1;refine zl 11 2 rfl rfl rfl ?_)|(have:=b1;refine zD ((yN u ⟨g,m,ar,⟨57,arg,t0⟩⟩ l1)) zh rfl rfl rfl tH ((qw ⟨g,m,ar,⟨57,arg,t0⟩⟩ hF (kTy 2) _ zwy62).bad hS2 u) ?_)|(have:=b2;refine zl 12 3 rfl rfl rfl ?_)|(have:=b2;refine zD ((yN u ⟨g,m,ar,⟨57,arg,t0⟩⟩ l2)) zh rfl rfl rfl tH ((zU ⟨g,m,ar,⟨57,arg,t0⟩⟩ [a] _ zwy62 zwy63).bad hS3 u) ?_)|refine zy rfl (aj (ps:=(yO t0))) rfl rfl ?_|refine zq rfl (aj (ps:=(yO t0))) rfl rfl ?_|(refine shC ?_;first|refine qC (zQ 2) ?_)|(have:=b1;refine zn ?_;first|(refine zu 0 zh rfl rfl ((Zj ⟨g,m,ar,⟨57,arg,t0⟩⟩ _ h0 h1).ok hS1) rfl rfl rfl rfl rfl ?_))|(have:=b2;refine zn ?_;first|(refine zu 0 zh rfl rfl ((Zj ⟨g,m,ar,⟨57,arg,t0⟩⟩ _ h0 h1).ok hS1) rfl rfl rfl rfl rfl ?_)|(refine zu 0 zh rfl rfl ((qw ⟨g,m,ar,⟨57,arg,t0⟩⟩ hF (kTy 2) _ zwy62).ok hS2) rfl rfl rfl rfl rfl ?_))|(have:=b3;refine zn ?_;first|(refine zu 0 zh rfl rfl ((Zj ⟨g,m,ar,⟨57,arg,t0⟩⟩ _ h0 h1).ok hS1) rfl rfl rfl rfl rfl ?_)|(refine zu 0 zh rfl rfl ((qw ⟨g,m,ar,⟨57,arg,t0⟩⟩ hF (kTy 2) _ zwy62).ok hS2) rfl rfl rfl rfl rfl ?_)|(refine zu 0 zh rfl rfl ((zU ⟨g,m,ar,⟨57,arg,t0⟩⟩ [a] _ zwy62 zwy63).ok hS3) rfl rfl rfl rfl rfl ?_))|refine sK ?_|refine sC (fun _=>?_) (fun _=>?_)|exact zF hw|exact zX hw (yw (.inl rfl) tH)|fail)):G:=h
theorem zsw (g:Img) (hF:Fm g) (m:Me) (ar:List Ty) (arg:Int) (t0:Ty) (l:List Ty) (hl:l.length≤100) (h0:0≤t0.dims) (h1:t0.dims≤100):XC 82 [] (⟨g,m,ar,⟨57,arg,t0⟩⟩:RC) (yF g m ⟨57,arg,t0⟩) uV l:=by
 intro u;refine zI zf Tryz.func82 rfl zws Tryz.ntmps82 zwy63 _ rfl (fun gB hw1=>?_);cases hS1:(WE ⟨57,arg,t0⟩) l with
 | error e =>
  have hw:(yF g m ⟨57,arg,t0⟩) l=.error e:=by simp [yF,zB,zG,hS1]
  have b0:=();exact zwk36
 | ok p =>
  obtain ⟨a,l1⟩:=p;have hl1:l1.length≤100:=by have:=zbt hS1;omega
  cases hS2:(YL g (kTy 2)) l1 with
  | error e =>
   have hw:(yF g m ⟨57,arg,t0⟩) l=.error e:=by simp [yF,zB,zG,hS1,hS2]
   have b1:=();exact zwk36
  | ok p =>
   obtain ⟨⟨⟩,l2⟩:=p;have hl2:l2.length≤100:=by have:=Vx hS2;omega
   cases hS3:(yX m.max [a]) l2 with
   | error e =>
    have hw:(yF g m ⟨57,arg,t0⟩) l=.error e:=by simp [yF,zB,zG,hS1,hS2,hS3]
    have b2:=();exact zwk36
   | ok p =>
    obtain ⟨⟨⟩,l3⟩:=p;have hw:(yF g m ⟨57,arg,t0⟩) l=.ok ((),l3):=by simp [yF,zB,zG,hS1,hS2,hS3]
    have b3:=();exact zwk36
theorem zwk37 {G:Prop} (h:G:=by repeat' (first|(have:=b0;refine zl 1 1 rfl rfl rfl ?_)|(have:=b0;refine zD ((yN u ⟨g,m,ar,⟨58,arg,t0⟩⟩ l)) zh rfl rfl rfl tH ((yg ⟨g,m,ar,⟨58,arg,t0⟩⟩ _ zwy62).bad hS1 u) ?_)|(have:=b1;refine zl 2 12 rfl rfl rfl ?_)|(have:=b2;refine zD ([]) zh rfl rfl rfl tH (yc zwy89 10) ?_)|(have:=b3;refine zD ([]) zh rfl rfl rfl tH (yc zwy118 10) ?_)|(have:=b4;refine zl 3 3 rfl rfl rfl ?_)|(have:=b5;refine zD ((yN u ⟨g,m,ar,⟨58,arg,t0⟩⟩ l1)) zh rfl rfl rfl tH ((zU ⟨g,m,ar,⟨58,arg,t0⟩⟩ [kTy 2] _ zwy62 zwy63).bad hS7 u) ?_)|(have:=b6;refine zD ((yN u ⟨g,m,ar,⟨58,arg,t0⟩⟩ l1)) zh rfl rfl rfl tH ((zU ⟨g,m,ar,⟨58,arg,t0⟩⟩ [kTy 2] _ zwy62 zwy63).bad hS6 u) ?_)|(refine shC ?_;first|(have:=b7;refine qC cx ?_)|(have:=b8;refine zy rfl (zJ rfl rfl (zH zwy118 10)) rfl rfl ?_)|(have:=b8;refine zq rfl (zJ rfl rfl (zH zwy118 10)) rfl rfl ?_)|(have:=b9;refine zy rfl (zJ rfl rfl (zH zwy93 10)) rfl rfl ?_)|(have:=b9;refine zq rfl (zJ rfl rfl (zH zwy93 10)) rfl rfl ?_)|refine qC (zQ 2) ?_)|(have:=b10;refine zn ?_;first|(refine zu 0 zh rfl rfl ((yg ⟨g,m,ar,⟨58,arg,t0⟩⟩ _ zwy62).ok hS1) rfl rfl rfl rfl rfl ?_))|(have:=b11;refine zn ?_;first|(refine zu 0 zh rfl rfl ((yg ⟨g,m,ar,⟨58,arg,t0⟩⟩ _ zwy62).ok hS1) rfl rfl rfl rfl rfl ?_)|(refine zu 0 zh rfl rfl ((zU ⟨g,m,ar,⟨58,arg,t0⟩⟩ [kTy 2] _ zwy62 zwy63).ok hS7) rfl rfl rfl rfl rfl ?_))|(have:=b12;refine zn ?_;first|(refine zu 0 zh rfl rfl ((yg ⟨g,m,ar,⟨58,arg,t0⟩⟩ _ zwy62).ok hS1) rfl rfl rfl rfl rfl ?_)|(refine zu 0 zh rfl rfl ((zU ⟨g,m,ar,⟨58,arg,t0⟩⟩ [kTy 2] _ zwy62 zwy63).ok hS6) rfl rfl rfl rfl rfl ?_))|refine sK ?_|refine sC (fun _=>?_) (fun _=>?_)|exact zF hw|exact zX hw (yw (.inr rfl) tH)|fail)):G:=h
theorem zq9 (g:Img) (hF:Fm g) (m:Me) (ar:List Ty) (arg:Int) (t0:Ty) (l:List Ty) (hl:l.length≤100):XC 82 [] (⟨g,m,ar,⟨58,arg,t0⟩⟩:RC) (yF g m ⟨58,arg,t0⟩) uV l:=by
 intro u;refine zI zf Tryz.func82 rfl zws Tryz.ntmps82 zwy63 _ rfl (fun gB hw1=>?_);cases hS1:(YU) l with
 | error e =>
  have hw:(yF g m ⟨58,arg,t0⟩) l=.error e:=by simp [yF,zB,zG,hS1]
  have b0:=();exact zwk37
 | ok p =>
  obtain ⟨t,l1⟩:=p;have hl1:l1.length≤100:=by have:=Xx hS1;omega
  have cx:=qQ t;cases hC3:(object t)
  ·rw [hC3] at cx;have hw:(yF g m ⟨58,arg,t0⟩) l=.error 10:=by simp [yF,zB,zG,hS1,hC3,zL,emptyS]
   have b1:=();have b2:=();have b7:=();have b10:=();exact zwk37
  ·rw [hC3] at cx;cases hC4:(decide (0 < t.dims))
   ·skip;cases hC5:(t.kind==8)
    ·skip;have hw:(yF g m ⟨58,arg,t0⟩) l=.error 10:=by simp [yF,zB,zG,hS1,hC3,hC4,hC5,zL,emptyS]
     have b1:=();have b3:=();have b7:=();have b10:=();exact zwk37
    ·skip;cases hS7:(yX m.max [kTy 2]) l1 with
     | error e =>
      have hw:(yF g m ⟨58,arg,t0⟩) l=.error e:=by simp [yF,zB,zG,hS1,hC3,hC4,hC5,zL,emptyS,hS7]
      have b4:=();have b5:=();have b7:=();have b8:=();have b10:=();exact zwk37
     | ok p =>
      obtain ⟨⟨⟩,l7⟩:=p;have hw:(yF g m ⟨58,arg,t0⟩) l=.ok ((),l7):=by simp [yF,zB,zG,hS1,hC3,hC4,hC5,zL,emptyS,hS7]
      have b7:=();have b8:=();have b11:=();exact zwk37
   ·skip;cases hS6:(yX m.max [kTy 2]) l1 with
    | error e =>
     have hw:(yF g m ⟨58,arg,t0⟩) l=.error e:=by simp [yF,zB,zG,hS1,hC3,hC4,zL,emptyS,hS6]
     have b4:=();have b6:=();have b7:=();have b9:=();have b10:=();exact zwk37
    | ok p =>
     obtain ⟨⟨⟩,l6⟩:=p;have hw:(yF g m ⟨58,arg,t0⟩) l=.ok ((),l6):=by simp [yF,zB,zG,hS1,hC3,hC4,zL,emptyS,hS6]
     have b7:=();have b9:=();have b12:=();exact zwk37
theorem zwk38 {G:Prop} (h:G:=by repeat' (first|(have:=b0;refine zl 4 1 rfl rfl rfl ?_)|(have:=b0;refine zD ((yN u ⟨g,m,ar,⟨59,arg,t0⟩⟩ l)) zh rfl rfl rfl tH ((Zj ⟨g,m,ar,⟨59,arg,t0⟩⟩ _ h0 h1).bad hS1 u) ?_)|(have:=b1;refine yV 5 4 rfl zws zws zws zws zws ?_)|(have:=b1;refine zD ((yN u ⟨g,m,ar,⟨59,arg,t0⟩⟩ l1)) zh rfl rfl rfl tH ((Ye ⟨g,m,ar,⟨59,arg,t0⟩⟩ hF [a,kTy 2] _ zwy62).bad hS2 u) ?_)|(have:=b2;refine zl 8 7 rfl rfl rfl ?_)|(have:=b2;refine zD ((yN u ⟨g,m,ar,⟨59,arg,t0⟩⟩ l2)) zh rfl rfl rfl tH ((zU ⟨g,m,ar,⟨59,arg,t0⟩⟩ [t0] _ zwy62 zwy63).bad hS3 u) ?_)|(have:=b3;refine zV 5 4 rfl zws zws zws zws zws ?_)|refine zy rfl (aj (ps:=(yO t0))) rfl rfl ?_|refine zq rfl (aj (ps:=(yO t0))) rfl rfl ?_|(refine shC ?_;first|refine qC (zQ 2) ?_)|(have:=b1;refine zn ?_;first|(refine zu 0 zh rfl rfl ((Zj ⟨g,m,ar,⟨59,arg,t0⟩⟩ _ h0 h1).ok hS1) rfl rfl rfl rfl rfl ?_))|(have:=b2;refine zn ?_;first|(refine zu 0 zh rfl rfl ((Zj ⟨g,m,ar,⟨59,arg,t0⟩⟩ _ h0 h1).ok hS1) rfl rfl rfl rfl rfl ?_)|(refine zu 0 zh rfl rfl ((Ye ⟨g,m,ar,⟨59,arg,t0⟩⟩ hF [a,kTy 2] _ zwy62).ok hS2) rfl rfl rfl rfl rfl ?_))|(have:=b4;refine zn ?_;first|(refine zu 0 zh rfl rfl ((Zj ⟨g,m,ar,⟨59,arg,t0⟩⟩ _ h0 h1).ok hS1) rfl rfl rfl rfl rfl ?_)|(refine zu 0 zh rfl rfl ((Ye ⟨g,m,ar,⟨59,arg,t0⟩⟩ hF [a,kTy 2] _ zwy62).ok hS2) rfl rfl rfl rfl rfl ?_)|(refine zu 0 zh rfl rfl ((zU ⟨g,m,ar,⟨59,arg,t0⟩⟩ [t0] _ zwy62 zwy63).ok hS3) rfl rfl rfl rfl rfl ?_))|refine sK ?_|refine sC (fun _=>?_) (fun _=>?_)|exact zF hw|exact zX hw (yw (.inl rfl) tH)|fail)):G:=h
theorem zry (g:Img) (hF:Fm g) (m:Me) (ar:List Ty) (arg:Int) (t0:Ty) (l:List Ty) (hl:l.length≤100) (h0:0≤t0.dims) (h1:t0.dims≤100):XC 82 [] (⟨g,m,ar,⟨59,arg,t0⟩⟩:RC) (yF g m ⟨59,arg,t0⟩) uV l:=by
 intro u;refine zI zf Tryz.func82 rfl zws Tryz.ntmps82 zwy63 _ rfl (fun gB hw1=>?_);cases hS1:(WE ⟨59,arg,t0⟩) l with
 | error e =>
  have hw:(yF g m ⟨59,arg,t0⟩) l=.error e:=by simp [yF,zB,zG,hS1]
  have b0:=();exact zwk38
 | ok p =>
  obtain ⟨a,l1⟩:=p;have hl1:l1.length≤100:=by have:=zbt hS1;omega
  cases hS2:(ZN g [a,kTy 2]) l1 with
  | error e =>
   have hw:(yF g m ⟨59,arg,t0⟩) l=.error e:=by simp [yF,zB,zG,hS1,hS2]
   have b1:=();exact zwk38
  | ok p =>
   obtain ⟨⟨⟩,l2⟩:=p;have hl2:l2.length≤100:=by have:=WC hS2;omega
   cases hS3:(yX m.max [t0]) l2 with
   | error e =>
    have hw:(yF g m ⟨59,arg,t0⟩) l=.error e:=by simp [yF,zB,zG,hS1,hS2,hS3]
    have b2:=();have b3:=();exact zwk38
   | ok p =>
    obtain ⟨⟨⟩,l3⟩:=p;have hw:(yF g m ⟨59,arg,t0⟩) l=.ok ((),l3):=by simp [yF,zB,zG,hS1,hS2,hS3]
    have b3:=();have b4:=();exact zwk38
theorem zwk39 {G:Prop} (h:G:=by repeat' (first|(have:=b0;refine zl 4 1 rfl rfl rfl ?_)|(have:=b0;refine zD ((yN u ⟨g,m,ar,⟨60,arg,t0⟩⟩ l)) zh rfl rfl rfl tH ((Zj ⟨g,m,ar,⟨60,arg,t0⟩⟩ _ h0 h1).bad hS1 u) ?_)|(have:=b1;refine yV 10 9 rfl zws zws zws zws zws ?_)|(have:=b1;refine zD ((yN u ⟨g,m,ar,⟨60,arg,t0⟩⟩ l1)) zh rfl rfl rfl tH ((Ye ⟨g,m,ar,⟨60,arg,t0⟩⟩ hF [a,kTy 2,t0] _ zwy62).bad hS2 u) ?_)|(have:=b2;refine zV 10 9 rfl zws zws zws zws zws ?_)|refine zy rfl (aj (ps:=(yO t0))) rfl rfl ?_|refine zq rfl (aj (ps:=(yO t0))) rfl rfl ?_|(refine shC ?_;first|refine qC (zQ 2) ?_)|(have:=b1;refine zn ?_;first|(refine zu 0 zh rfl rfl ((Zj ⟨g,m,ar,⟨60,arg,t0⟩⟩ _ h0 h1).ok hS1) rfl rfl rfl rfl rfl ?_))|(have:=b2;refine zn ?_;first|(refine zu 0 zh rfl rfl ((Zj ⟨g,m,ar,⟨60,arg,t0⟩⟩ _ h0 h1).ok hS1) rfl rfl rfl rfl rfl ?_)|(refine zu 0 zh rfl rfl ((Ye ⟨g,m,ar,⟨60,arg,t0⟩⟩ hF [a,kTy 2,t0] _ zwy62).ok hS2) rfl rfl rfl rfl rfl ?_))|refine sK ?_|refine sC (fun _=>?_) (fun _=>?_)|exact zF hw|exact zX hw (yw (.inl rfl) tH)|fail)):G:=h
theorem zrv (g:Img) (hF:Fm g) (m:Me) (ar:List Ty) (arg:Int) (t0:Ty) (l:List Ty) (hl:l.length≤100) (h0:0≤t0.dims) (h1:t0.dims≤100):XC 82 [] (⟨g,m,ar,⟨60,arg,t0⟩⟩:RC) (yF g m ⟨60,arg,t0⟩) uV l:=by
 intro u;refine zI zf Tryz.func82 rfl zws Tryz.ntmps82 zwy63 _ rfl (fun gB hw1=>?_);cases hS1:(WE ⟨60,arg,t0⟩) l with
 | error e =>
  have hw:(yF g m ⟨60,arg,t0⟩) l=.error e:=by simp [yF,zB,zG,hS1]
  have b0:=();exact zwk39
 | ok p =>
  obtain ⟨a,l1⟩:=p;have hl1:l1.length≤100:=by have:=zbt hS1;omega
  cases hS2:(ZN g [a,kTy 2,t0]) l1 with
  | error e =>
   have hw:(yF g m ⟨60,arg,t0⟩) l=.error e:=by simp [yF,zB,zG,hS1,hS2]
   have b1:=();exact zwk39
  | ok p =>
   obtain ⟨⟨⟩,l2⟩:=p;have hl2:l2.length≤100:=by have:=WC hS2;omega
   have hw:(yF g m ⟨60,arg,t0⟩) l=.ok ((),l2):=by simp [yF,zB,zG,hS1,hS2]
   have b2:=();exact zwk39
theorem zwk40 {G:Prop} (h:G:=by repeat' (first|(have:=b0;refine zl 4 1 rfl rfl rfl ?_)|(have:=b0;refine zD ((yN u ⟨g,m,ar,⟨61,arg,t0⟩⟩ l)) zh rfl rfl rfl tH ((Zj ⟨g,m,ar,⟨61,arg,t0⟩⟩ _ h0 h1).bad hS1 u) ?_)|(have:=b1;refine yV 5 4 rfl zws zws zws zws zws ?_)|(have:=b1;refine zD ((yN u ⟨g,m,ar,⟨61,arg,t0⟩⟩ l1)) zh rfl rfl rfl tH ((Ye ⟨g,m,ar,⟨61,arg,t0⟩⟩ hF [a,kTy 2] _ zwy62).bad hS2 u) ?_)|(have:=b2;refine zl 9 8 rfl rfl rfl ?_)|(have:=b2;refine zD ((yN u ⟨g,m,ar,⟨61,arg,t0⟩⟩ l2)) zh rfl rfl rfl tH ((zU ⟨g,m,ar,⟨61,arg,t0⟩⟩ [rfT t0] _ zwy62 zwy63).bad hS3 u) ?_)|(have:=b3;refine zV 5 4 rfl zws zws zws zws zws ?_)|refine zy rfl (aj (ps:=(yO t0))) rfl rfl ?_|refine zq rfl (aj (ps:=(yO t0))) rfl rfl ?_|(refine shC ?_;first|refine qC (zQ 2) ?_|refine qC cr ?_)|(have:=b1;refine zn ?_;first|(refine zu 0 zh rfl rfl ((Zj ⟨g,m,ar,⟨61,arg,t0⟩⟩ _ h0 h1).ok hS1) rfl rfl rfl rfl rfl ?_))|(have:=b2;refine zn ?_;first|(refine zu 0 zh rfl rfl ((Zj ⟨g,m,ar,⟨61,arg,t0⟩⟩ _ h0 h1).ok hS1) rfl rfl rfl rfl rfl ?_)|(refine zu 0 zh rfl rfl ((Ye ⟨g,m,ar,⟨61,arg,t0⟩⟩ hF [a,kTy 2] _ zwy62).ok hS2) rfl rfl rfl rfl rfl ?_))|(have:=b4;refine zn ?_;first|(refine zu 0 zh rfl rfl ((Zj ⟨g,m,ar,⟨61,arg,t0⟩⟩ _ h0 h1).ok hS1) rfl rfl rfl rfl rfl ?_)|(refine zu 0 zh rfl rfl ((Ye ⟨g,m,ar,⟨61,arg,t0⟩⟩ hF [a,kTy 2] _ zwy62).ok hS2) rfl rfl rfl rfl rfl ?_)|(refine zu 0 zh rfl rfl ((zU ⟨g,m,ar,⟨61,arg,t0⟩⟩ [rfT t0] _ zwy62 zwy63).ok hS3) rfl rfl rfl rfl rfl ?_))|refine sK ?_|refine sC (fun _=>?_) (fun _=>?_)|exact zF hw|exact zX hw (yw (.inl rfl) tH)|fail)):G:=h
theorem zrj (g:Img) (hF:Fm g) (m:Me) (ar:List Ty) (arg:Int) (t0:Ty) (l:List Ty) (hl:l.length≤100) (h0:0≤t0.dims) (h1:t0.dims≤100):XC 82 [] (⟨g,m,ar,⟨61,arg,t0⟩⟩:RC) (yF g m ⟨61,arg,t0⟩) uV l:=by
 intro u;refine zI zf Tryz.func82 rfl zws Tryz.ntmps82 zwy63 _ rfl (fun gB hw1=>?_);have cr:=ZX t0;cases hS1:(WE ⟨61,arg,t0⟩) l with
 | error e =>
  have hw:(yF g m ⟨61,arg,t0⟩) l=.error e:=by simp [yF,zB,zG,hS1]
  have b0:=();exact zwk40
 | ok p =>
  obtain ⟨a,l1⟩:=p;have hl1:l1.length≤100:=by have:=zbt hS1;omega
  cases hS2:(ZN g [a,kTy 2]) l1 with
  | error e =>
   have hw:(yF g m ⟨61,arg,t0⟩) l=.error e:=by simp [yF,zB,zG,hS1,hS2]
   have b1:=();exact zwk40
  | ok p =>
   obtain ⟨⟨⟩,l2⟩:=p;have hl2:l2.length≤100:=by have:=WC hS2;omega
   cases hS3:(yX m.max [rfT t0]) l2 with
   | error e =>
    have hw:(yF g m ⟨61,arg,t0⟩) l=.error e:=by simp [yF,zB,zG,hS1,hS2,hS3]
    have b2:=();have b3:=();exact zwk40
   | ok p =>
    obtain ⟨⟨⟩,l3⟩:=p;have hw:(yF g m ⟨61,arg,t0⟩) l=.ok ((),l3):=by simp [yF,zB,zG,hS1,hS2,hS3]
    have b3:=();have b4:=();exact zwk40
end Go.Cg
