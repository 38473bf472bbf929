/- A part of the walks by abstract values: no statement of its own. -/
import Derived.Test.YtemhfmmhkimhmaaGreatI30
set_option linter.unusedVariables false
set_option linter.unusedSimpArgs false
namespace Go.Cg
open Go.Proofs
set_option maxHeartbeats 20000000
theorem zwk77 {G:Prop} (h:G:=by repeat' (first|(have:=b0;refine zo 6 2 rfl rfl rfl ?_)|(have:=b0;refine zF ((yS u ⟨g,m,ar,⟨48,arg,t0⟩⟩ l)) zi rfl rfl rfl tH ((Qy ⟨g,m,ar,⟨48,arg,t0⟩⟩ hF f true _ zwy62).bad hS3 u) ?_)|(have:=b1;refine zo 7 4 rfl rfl rfl ?_)|(have:=b1;refine zF ((yS u ⟨g,m,ar,⟨48,arg,t0⟩⟩ l3)) zi rfl rfl rfl tH ((zX ⟨g,m,ar,⟨48,arg,t0⟩⟩ [f.ty] _ zwy62 zwy63).bad hS4 u) ?_)|(have:=b2;refine zo 2 4 rfl rfl rfl ?_)|(have:=b2;refine zF ([]) zi rfl rfl rfl tH (yu zwy66 8) ?_)|refine zM 1 12 0 zf rfl zws zws zws rfl rfl rfl rfl rfl rfl rfl rfl rfl rfl rfl rfl rfl rfl (fun _=>rfl) rfl rfl rfl ?_|refine ⟨_,_,rfl,rfl,rfl,?_⟩|(refine shC ?_;first|(have:=b3;refine zy rfl (zJ rfl rfl (zH zwy66 8)) rfl rfl ?_)|(have:=b3;refine zq rfl (zJ rfl rfl (zH zwy66 8)) rfl rfl ?_))|(refine shX ?_;first|refine zy rfl (ah h0 hfe) rfl rfl ?_|refine zq rfl (ah h0 hfe) rfl rfl ?_)|(have:=b1;refine zu ?_;first|(refine zx 0 zi rfl rfl ((Qy ⟨g,m,ar,⟨48,arg,t0⟩⟩ hF f true _ zwy62).ok hS3) rfl rfl rfl rfl rfl ?_))|(have:=b4;refine zu ?_;first|(refine zx 0 zi rfl rfl ((Qy ⟨g,m,ar,⟨48,arg,t0⟩⟩ hF f true _ zwy62).ok hS3) rfl rfl rfl rfl rfl ?_)|(refine zx 0 zi rfl rfl ((zX ⟨g,m,ar,⟨48,arg,t0⟩⟩ [f.ty] _ zwy62 zwy63).ok hS4) rfl rfl rfl rfl rfl ?_))|refine sK ?_|refine sC (fun _=>?_) (fun _=>?_)|exact zD hw|exact yc hw (yD (.inl rfl) tH)|fail)):G:=h
theorem zsu (g:Img) (hF:Fm g) (m:Me) (ar:List Ty) (arg:Int) (t0:Ty) (l:List Ty) (hl:l.length<=100) (h0:0<=arg) (h1:arg.toNat < g.fields.length):XC 128 [] (⟨g,m,ar,⟨48,arg,t0⟩⟩:RC) (yG g m ⟨48,arg,t0⟩) uV l:=by
 intro u;refine zI zf Tryz.func128 rfl zws Tryz.ntmps128 zwy63 _ rfl (fun gB hw1=>?_);have hfe:(g.fields.map ZI)[arg.toNat]?=some (ZI (fAt g arg)):=by rw [fAt,zQ h1];exact zS h1
 obtain ⟨f,hf⟩:∃ f,fAt g arg=f:=⟨_,rfl⟩
 rw [hf] at hfe;have cr:=Yn f.ty;cases hC1:(f.static)
 ·skip;cases hS3:(Zt g f true) l with
  | error e =>
   have hw:(yG g m ⟨48,arg,t0⟩) l=.error e:=by simp [yG,hf,zB,zG,hC1,zN,emptyS,hS3]
   have b0:=();have b3:=();exact zwk77
  | ok p =>
   obtain ⟨⟨⟩,l3⟩:=p;have hl3:l3.length<=100:=by have:=zcM hS3;omega
   cases hS4:(qg m.max [f.ty]) l3 with
   | error e =>
    have hw:(yG g m ⟨48,arg,t0⟩) l=.error e:=by simp [yG,hf,zB,zG,hC1,zN,emptyS,hS3,hS4]
    have b1:=();have b3:=();exact zwk77
   | ok p =>
    obtain ⟨⟨⟩,l4⟩:=p;have hw:(yG g m ⟨48,arg,t0⟩) l=.ok ((),l4):=by simp [yG,hf,zB,zG,hC1,zN,emptyS,hS3,hS4]
    have b3:=();have b4:=();exact zwk77
 ·skip;have hw:(yG g m ⟨48,arg,t0⟩) l=.error 8:=by simp [yG,hf,zB,zG,hC1,zN,emptyS]
  have b2:=();exact zwk77
theorem zwk78 {G:Prop} (h:G:=by repeat' (first|(have:=b0;refine zo 9 3 rfl rfl rfl ?_)|(have:=b0;refine zF ((yS u ⟨g,m,ar,⟨49,arg,t0⟩⟩ l)) zi rfl rfl rfl tH ((qw ⟨g,m,ar,⟨49,arg,t0⟩⟩ hF (f.ty) _ zwy62).bad hS3 u) ?_)|(have:=b1;refine zo 10 2 rfl rfl rfl ?_)|(have:=b1;refine zF ((yS u ⟨g,m,ar,⟨49,arg,t0⟩⟩ l3)) zi rfl rfl rfl tH ((Qy ⟨g,m,ar,⟨49,arg,t0⟩⟩ hF f false _ zwy62).bad hS4 u) ?_)|(have:=b2;refine zo 2 4 rfl rfl rfl ?_)|(have:=b2;refine zF ([]) zi rfl rfl rfl tH (yu zwy66 8) ?_)|refine zM 1 12 0 zf rfl zws zws zws rfl rfl rfl rfl rfl rfl rfl rfl rfl rfl rfl rfl rfl rfl (fun _=>rfl) rfl rfl rfl ?_|refine ⟨_,_,rfl,rfl,rfl,?_⟩|(refine shC ?_;first|(have:=b3;refine zy rfl (zJ rfl rfl (zH zwy66 8)) rfl rfl ?_)|(have:=b3;refine zq rfl (zJ rfl rfl (zH zwy66 8)) rfl rfl ?_))|(refine shX ?_;first|refine zy rfl (ah h0 hfe) rfl rfl ?_|refine zq rfl (ah h0 hfe) rfl rfl ?_)|(have:=b1;refine zu ?_;first|(refine zx 0 zi rfl rfl ((qw ⟨g,m,ar,⟨49,arg,t0⟩⟩ hF (f.ty) _ zwy62).ok hS3) rfl rfl rfl rfl rfl ?_))|(have:=b4;refine zu ?_;first|(refine zx 0 zi rfl rfl ((qw ⟨g,m,ar,⟨49,arg,t0⟩⟩ hF (f.ty) _ zwy62).ok hS3) rfl rfl rfl rfl rfl ?_)|(refine zx 0 zi rfl rfl ((Qy ⟨g,m,ar,⟨49,arg,t0⟩⟩ hF f false _ zwy62).ok hS4) rfl rfl rfl rfl rfl ?_))|refine sK ?_|refine sC (fun _=>?_) (fun _=>?_)|exact zD hw|exact yc hw (yD (.inl rfl) tH)|fail)):G:=h
theorem zr4 (g:Img) (hF:Fm g) (m:Me) (ar:List Ty) (arg:Int) (t0:Ty) (l:List Ty) (hl:l.length<=100) (h0:0<=arg) (h1:arg.toNat < g.fields.length):XC 128 [] (⟨g,m,ar,⟨49,arg,t0⟩⟩:RC) (yG g m ⟨49,arg,t0⟩) uV l:=by
 intro u;refine zI zf Tryz.func128 rfl zws Tryz.ntmps128 zwy63 _ rfl (fun gB hw1=>?_);have hfe:(g.fields.map ZI)[arg.toNat]?=some (ZI (fAt g arg)):=by rw [fAt,zQ h1];exact zS h1
 obtain ⟨f,hf⟩:∃ f,fAt g arg=f:=⟨_,rfl⟩
 rw [hf] at hfe;have cr:=Yn f.ty;cases hC1:(f.static)
 ·skip;cases hS3:(YK g (f.ty)) l with
  | error e =>
   have hw:(yG g m ⟨49,arg,t0⟩) l=.error e:=by simp [yG,hf,zB,zG,hC1,zN,emptyS,hS3]
   have b0:=();have b3:=();exact zwk78
  | ok p =>
   obtain ⟨⟨⟩,l3⟩:=p;have hl3:l3.length<=100:=by have:=VL hS3;omega
   cases hS4:(Zt g f false) l3 with
   | error e =>
    have hw:(yG g m ⟨49,arg,t0⟩) l=.error e:=by simp [yG,hf,zB,zG,hC1,zN,emptyS,hS3,hS4]
    have b1:=();have b3:=();exact zwk78
   | ok p =>
    obtain ⟨⟨⟩,l4⟩:=p;have hl4:l4.length<=100:=by have:=zcM hS4;omega
    have hw:(yG g m ⟨49,arg,t0⟩) l=.ok ((),l4):=by simp [yG,hf,zB,zG,hC1,zN,emptyS,hS3,hS4]
    have b3:=();have b4:=();exact zwk78
 ·skip;have hw:(yG g m ⟨49,arg,t0⟩) l=.error 8:=by simp [yG,hf,zB,zG,hC1,zN,emptyS]
  have b2:=();exact zwk78
theorem zwk79 {G:Prop} (h:G:=by repeat' (first|(have:=b0;refine zo 12 2 rfl rfl rfl ?_)|(have:=b0;refine zF ((yS u ⟨g,m,ar,⟨50,arg,t0⟩⟩ l)) zi rfl rfl rfl tH ((Qy ⟨g,m,ar,⟨50,arg,t0⟩⟩ hF f false _ zwy62).bad hS3 u) ?_)|(have:=b1;refine zo 13 5 rfl rfl rfl ?_)|(have:=b1;refine zF ((yS u ⟨g,m,ar,⟨50,arg,t0⟩⟩ l3)) zi rfl rfl rfl tH ((zX ⟨g,m,ar,⟨50,arg,t0⟩⟩ [rfT f.ty] _ zwy62 zwy63).bad hS4 u) ?_)|(have:=b2;refine zo 2 4 rfl rfl rfl ?_)|(have:=b2;refine zF ([]) zi rfl rfl rfl tH (yu zwy66 8) ?_)|refine zM 1 12 0 zf rfl zws zws zws rfl rfl rfl rfl rfl rfl rfl rfl rfl rfl rfl rfl rfl rfl (fun _=>rfl) rfl rfl rfl ?_|refine ⟨_,_,rfl,rfl,rfl,?_⟩|(refine shC ?_;first|(have:=b3;refine zy rfl (zJ rfl rfl (zH zwy66 8)) rfl rfl ?_)|(have:=b3;refine zq rfl (zJ rfl rfl (zH zwy66 8)) rfl rfl ?_)|refine qC cr ?_)|(refine shX ?_;first|refine zy rfl (ah h0 hfe) rfl rfl ?_|refine zq rfl (ah h0 hfe) rfl rfl ?_)|(have:=b1;refine zu ?_;first|(refine zx 0 zi rfl rfl ((Qy ⟨g,m,ar,⟨50,arg,t0⟩⟩ hF f false _ zwy62).ok hS3) rfl rfl rfl rfl rfl ?_))|(have:=b4;refine zu ?_;first|(refine zx 0 zi rfl rfl ((Qy ⟨g,m,ar,⟨50,arg,t0⟩⟩ hF f false _ zwy62).ok hS3) rfl rfl rfl rfl rfl ?_)|(refine zx 0 zi rfl rfl ((zX ⟨g,m,ar,⟨50,arg,t0⟩⟩ [rfT f.ty] _ zwy62 zwy63).ok hS4) rfl rfl rfl rfl rfl ?_))|refine sK ?_|refine sC (fun _=>?_) (fun _=>?_)|exact zD hw|exact yc hw (yD (.inl rfl) tH)|fail)):G:=h
theorem zra (g:Img) (hF:Fm g) (m:Me) (ar:List Ty) (arg:Int) (t0:Ty) (l:List Ty) (hl:l.length<=100) (h0:0<=arg) (h1:arg.toNat < g.fields.length):XC 128 [] (⟨g,m,ar,⟨50,arg,t0⟩⟩:RC) (yG g m ⟨50,arg,t0⟩) uV l:=by
 intro u;refine zI zf Tryz.func128 rfl zws Tryz.ntmps128 zwy63 _ rfl (fun gB hw1=>?_);have hfe:(g.fields.map ZI)[arg.toNat]?=some (ZI (fAt g arg)):=by rw [fAt,zQ h1];exact zS h1
 obtain ⟨f,hf⟩:∃ f,fAt g arg=f:=⟨_,rfl⟩
 rw [hf] at hfe;have cr:=Yn f.ty;cases hC1:(f.static)
 ·skip;cases hS3:(Zt g f false) l with
  | error e =>
   have hw:(yG g m ⟨50,arg,t0⟩) l=.error e:=by simp [yG,hf,zB,zG,hC1,zN,emptyS,hS3]
   have b0:=();have b3:=();exact zwk79
  | ok p =>
   obtain ⟨⟨⟩,l3⟩:=p;have hl3:l3.length<=100:=by have:=zcM hS3;omega
   cases hS4:(qg m.max [rfT f.ty]) l3 with
   | error e =>
    have hw:(yG g m ⟨50,arg,t0⟩) l=.error e:=by simp [yG,hf,zB,zG,hC1,zN,emptyS,hS3,hS4]
    have b1:=();have b3:=();exact zwk79
   | ok p =>
    obtain ⟨⟨⟩,l4⟩:=p;have hw:(yG g m ⟨50,arg,t0⟩) l=.ok ((),l4):=by simp [yG,hf,zB,zG,hC1,zN,emptyS,hS3,hS4]
    have b3:=();have b4:=();exact zwk79
 ·skip;have hw:(yG g m ⟨50,arg,t0⟩) l=.error 8:=by simp [yG,hf,zB,zG,hC1,zN,emptyS]
  have b2:=();exact zwk79
theorem zwk80 {G:Prop} (h:G:=by repeat' (first|(have:=b0;refine zo 2 4 rfl rfl rfl ?_)|(have:=b0;refine zF ([]) zi rfl rfl rfl tH (yu zwy66 8) ?_)|(have:=b1;refine zo 15 4 rfl rfl rfl ?_)|(have:=b1;refine zF ((yS u ⟨g,m,ar,⟨51,arg,t0⟩⟩ l)) zi rfl rfl rfl tH ((zX ⟨g,m,ar,⟨51,arg,t0⟩⟩ [f.ty] _ zwy62 zwy63).bad hS3 u) ?_)|refine zM 1 12 0 zf rfl zws zws zws rfl rfl rfl rfl rfl rfl rfl rfl rfl rfl rfl rfl rfl rfl (fun _=>rfl) rfl rfl rfl ?_|refine ⟨_,_,rfl,rfl,rfl,?_⟩|(refine shC ?_;first|(have:=b2;refine zy rfl (zJ rfl rfl (zH zwy66 8)) rfl rfl ?_)|(have:=b2;refine zq rfl (zJ rfl rfl (zH zwy66 8)) rfl rfl ?_))|(refine shX ?_;first|refine zy rfl (ah h0 hfe) rfl rfl ?_|refine zq rfl (ah h0 hfe) rfl rfl ?_)|(have:=b3;refine zu ?_;first|(refine zx 0 zi rfl rfl ((zX ⟨g,m,ar,⟨51,arg,t0⟩⟩ [f.ty] _ zwy62 zwy63).ok hS3) rfl rfl rfl rfl rfl ?_))|refine sK ?_|refine sC (fun _=>?_) (fun _=>?_)|exact zD hw|exact yc hw (yD (.inl rfl) tH)|fail)):G:=h
theorem zq8 (g:Img) (hF:Fm g) (m:Me) (ar:List Ty) (arg:Int) (t0:Ty) (l:List Ty) (hl:l.length<=100) (h0:0<=arg) (h1:arg.toNat < g.fields.length):XC 128 [] (⟨g,m,ar,⟨51,arg,t0⟩⟩:RC) (yG g m ⟨51,arg,t0⟩) uV l:=by
 intro u;refine zI zf Tryz.func128 rfl zws Tryz.ntmps128 zwy63 _ rfl (fun gB hw1=>?_);have hfe:(g.fields.map ZI)[arg.toNat]?=some (ZI (fAt g arg)):=by rw [fAt,zQ h1];exact zS h1
 obtain ⟨f,hf⟩:∃ f,fAt g arg=f:=⟨_,rfl⟩
 rw [hf] at hfe;have cr:=Yn f.ty;cases hC1:(f.static)
 ·skip;have hw:(yG g m ⟨51,arg,t0⟩) l=.error 8:=by simp [yG,hf,zB,zG,hC1,zN,emptyS]
  have b0:=();exact zwk80
 ·skip;cases hS3:(qg m.max [f.ty]) l with
  | error e =>
   have hw:(yG g m ⟨51,arg,t0⟩) l=.error e:=by simp [yG,hf,zB,zG,hC1,zN,emptyS,hS3]
   have b1:=();have b2:=();exact zwk80
  | ok p =>
   obtain ⟨⟨⟩,l3⟩:=p;have hw:(yG g m ⟨51,arg,t0⟩) l=.ok ((),l3):=by simp [yG,hf,zB,zG,hC1,zN,emptyS,hS3]
   have b2:=();have b3:=();exact zwk80
theorem zwk81 {G:Prop} (h:G:=by repeat' (first|(have:=b0;refine zo 2 4 rfl rfl rfl ?_)|(have:=b0;refine zF ([]) zi rfl rfl rfl tH (yu zwy66 8) ?_)|(have:=b1;refine zo 17 3 rfl rfl rfl ?_)|(have:=b1;refine zF ((yS u ⟨g,m,ar,⟨52,arg,t0⟩⟩ l)) zi rfl rfl rfl tH ((qw ⟨g,m,ar,⟨52,arg,t0⟩⟩ hF (f.ty) _ zwy62).bad hS3 u) ?_)|refine zM 1 12 0 zf rfl zws zws zws rfl rfl rfl rfl rfl rfl rfl rfl rfl rfl rfl rfl rfl rfl (fun _=>rfl) rfl rfl rfl ?_|refine ⟨_,_,rfl,rfl,rfl,?_⟩|(refine shC ?_;first|(have:=b2;refine zy rfl (zJ rfl rfl (zH zwy66 8)) rfl rfl ?_)|(have:=b2;refine zq rfl (zJ rfl rfl (zH zwy66 8)) rfl rfl ?_))|(refine shX ?_;first|refine zy rfl (ah h0 hfe) rfl rfl ?_|refine zq rfl (ah h0 hfe) rfl rfl ?_)|(have:=b3;refine zu ?_;first|(refine zx 0 zi rfl rfl ((qw ⟨g,m,ar,⟨52,arg,t0⟩⟩ hF (f.ty) _ zwy62).ok hS3) rfl rfl rfl rfl rfl ?_))|refine sK ?_|refine sC (fun _=>?_) (fun _=>?_)|exact zD hw|exact yc hw (yD (.inl rfl) tH)|fail)):G:=h
theorem zrR (g:Img) (hF:Fm g) (m:Me) (ar:List Ty) (arg:Int) (t0:Ty) (l:List Ty) (hl:l.length<=100) (h0:0<=arg) (h1:arg.toNat < g.fields.length):XC 128 [] (⟨g,m,ar,⟨52,arg,t0⟩⟩:RC) (yG g m ⟨52,arg,t0⟩) uV l:=by
 intro u;refine zI zf Tryz.func128 rfl zws Tryz.ntmps128 zwy63 _ rfl (fun gB hw1=>?_);have hfe:(g.fields.map ZI)[arg.toNat]?=some (ZI (fAt g arg)):=by rw [fAt,zQ h1];exact zS h1
 obtain ⟨f,hf⟩:∃ f,fAt g arg=f:=⟨_,rfl⟩
 rw [hf] at hfe;have cr:=Yn f.ty;cases hC1:(f.static)
 ·skip;have hw:(yG g m ⟨52,arg,t0⟩) l=.error 8:=by simp [yG,hf,zB,zG,hC1,zN,emptyS]
  have b0:=();exact zwk81
 ·skip;cases hS3:(YK g (f.ty)) l with
  | error e =>
   have hw:(yG g m ⟨52,arg,t0⟩) l=.error e:=by simp [yG,hf,zB,zG,hC1,zN,emptyS,hS3]
   have b1:=();have b2:=();exact zwk81
  | ok p =>
   obtain ⟨⟨⟩,l3⟩:=p;have hl3:l3.length<=100:=by have:=VL hS3;omega
   have hw:(yG g m ⟨52,arg,t0⟩) l=.ok ((),l3):=by simp [yG,hf,zB,zG,hC1,zN,emptyS,hS3]
   have b2:=();have b3:=();exact zwk81
theorem zwk82 {G:Prop} (h:G:=by repeat' (first|(have:=b0;refine zo 2 4 rfl rfl rfl ?_)|(have:=b0;refine zF ([]) zi rfl rfl rfl tH (yu zwy66 8) ?_)|(have:=b1;refine zo 4 5 rfl rfl rfl ?_)|(have:=b1;refine zF ((yS u ⟨g,m,ar,⟨53,arg,t0⟩⟩ l)) zi rfl rfl rfl tH ((zX ⟨g,m,ar,⟨53,arg,t0⟩⟩ [rfT f.ty] _ zwy62 zwy63).bad hS3 u) ?_)|refine zM 1 12 0 zf rfl zws zws zws rfl rfl rfl rfl rfl rfl rfl rfl rfl rfl rfl rfl rfl rfl (fun _=>rfl) rfl rfl rfl ?_|refine ⟨_,_,rfl,rfl,rfl,?_⟩|(refine shC ?_;first|(have:=b2;refine zy rfl (zJ rfl rfl (zH zwy66 8)) rfl rfl ?_)|(have:=b2;refine zq rfl (zJ rfl rfl (zH zwy66 8)) rfl rfl ?_)|refine qC cr ?_)|(refine shX ?_;first|refine zy rfl (ah h0 hfe) rfl rfl ?_|refine zq rfl (ah h0 hfe) rfl rfl ?_)|(have:=b3;refine zu ?_;first|(refine zx 0 zi rfl rfl ((zX ⟨g,m,ar,⟨53,arg,t0⟩⟩ [rfT f.ty] _ zwy62 zwy63).ok hS3) rfl rfl rfl rfl rfl ?_))|refine sK ?_|refine sC (fun _=>?_) (fun _=>?_)|exact zD hw|exact yc hw (yD (.inl rfl) tH)|fail)):G:=h
theorem zr0 (g:Img) (hF:Fm g) (m:Me) (ar:List Ty) (arg:Int) (t0:Ty) (l:List Ty) (hl:l.length<=100) (h0:0<=arg) (h1:arg.toNat < g.fields.length):XC 128 [] (⟨g,m,ar,⟨53,arg,t0⟩⟩:RC) (yG g m ⟨53,arg,t0⟩) uV l:=by
 intro u;refine zI zf Tryz.func128 rfl zws Tryz.ntmps128 zwy63 _ rfl (fun gB hw1=>?_);have hfe:(g.fields.map ZI)[arg.toNat]?=some (ZI (fAt g arg)):=by rw [fAt,zQ h1];exact zS h1
 obtain ⟨f,hf⟩:∃ f,fAt g arg=f:=⟨_,rfl⟩
 rw [hf] at hfe;have cr:=Yn f.ty;cases hC1:(f.static)
 ·skip;have hw:(yG g m ⟨53,arg,t0⟩) l=.error 8:=by simp [yG,hf,zB,zG,hC1,zN,emptyS]
  have b0:=();exact zwk82
 ·skip;cases hS3:(qg m.max [rfT f.ty]) l with
  | error e =>
   have hw:(yG g m ⟨53,arg,t0⟩) l=.error e:=by simp [yG,hf,zB,zG,hC1,zN,emptyS,hS3]
   have b1:=();have b2:=();exact zwk82
  | ok p =>
   obtain ⟨⟨⟩,l3⟩:=p;have hw:(yG g m ⟨53,arg,t0⟩) l=.ok ((),l3):=by simp [yG,hf,zB,zG,hC1,zN,emptyS,hS3]
   have b2:=();have b3:=();exact zwk82
end Go.Cg
