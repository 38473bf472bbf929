/- A part of the walks by abstract values: no statement of its own. -/
import Derived.Test.YtoeplllgofpddaaGreatU13
import Derived.Test.YtoeplllgofpddaaGreatU12
set_option linter.unusedVariables false
set_option linter.unusedSimpArgs false
namespace Go.Cg
open Go.Proofs
set_option maxHeartbeats 20000000
theorem zpH (g:Img) (hF:Fm g) (m:Me) (ar:List Ty) (arg:Int) (t0:Ty) (l:List Ty) (hl:l.length≤100) (h0:0≤arg) (h1:arg.toNat < g.fields.length):XC 86 [] (⟨g,m,ar,⟨48,arg,t0⟩⟩:RC) (yE g m ⟨48,arg,t0⟩) uV l:=by
 intro u;refine zF zf Tryz.func86 rfl (by kernel_rfl) Tryz.ntmps86 (by simp) _ rfl (fun gB hw1=>?_)
 have hfe:(g.fields.map ZK)[arg.toNat]?=some (ZK (fAt g arg)):=by rw [fAt,zL h1];exact yu h1
 obtain ⟨f,hf⟩:∃ f,fAt g arg=f:=⟨_,rfl⟩
 rw [hf] at hfe
 have cr:=ZR f.ty
 cases hC1:(f.static)
 ·skip
  cases hS3:(Zb g f true) l with
  | error e =>
   have hw:(yE g m ⟨48,arg,t0⟩) l=.error e:=by simp [yE,hf,zx,zA,hC1,zI,emptyS,hS3]
   repeat' (first|refine zq 6 2 rfl rfl rfl ?_|refine zD ((yN u ⟨g,m,ar,⟨48,arg,t0⟩⟩ l)) zi rfl rfl rfl tH ((YP ⟨g,m,ar,⟨48,arg,t0⟩⟩ hF f true _ (by omega)).bad hS3 u) ?_|refine zO 1 12 13 1 11 zf (by kernel_rfl) (by kernel_rfl) rfl rfl rfl rfl rfl rfl rfl rfl rfl rfl rfl rfl rfl rfl rfl rfl rfl rfl rfl rfl rfl rfl ?_|refine yh rfl rfl ?_|refine ⟨_,_,rfl,rfl,?_⟩|(refine shC ?_;first|refine zB rfl (zG rfl rfl (zC (by first|rfl|assumption|simp [hC1]) 8)) rfl rfl ?_|refine AD.step _ _ _ _ _ rfl (zG rfl rfl (zC (by first|rfl|assumption|simp [hC1]) 8)) rfl rfl ?_)|(refine shX ?_;first|refine zB rfl (zl zf rfl rfl rfl rfl rfl rfl h0 hfe) rfl rfl ?_|refine AD.step _ _ _ _ _ rfl (zl zf rfl rfl rfl rfl rfl rfl h0 hfe) rfl rfl ?_)|refine sK ?_|refine sC (fun _=>?_) (fun _=>?_)|fail)
   exact zy hw
  | ok p =>
   obtain ⟨⟨⟩,l3⟩:=p
   have hl3:l3.length≤100:=by have:=zbO hS3;omega
   cases hS4:(yR m.max [f.ty]) l3 with
   | error e =>
    have hw:(yE g m ⟨48,arg,t0⟩) l=.error e:=by simp [yE,hf,zx,zA,hC1,zI,emptyS,hS3,hS4]
    repeat' (first|refine zq 7 4 rfl rfl rfl ?_|refine zD ((yN u ⟨g,m,ar,⟨48,arg,t0⟩⟩ l3)) zi rfl rfl rfl tH ((zS ⟨g,m,ar,⟨48,arg,t0⟩⟩ [f.ty] _ (by omega) (by simp)).bad hS4 u) ?_|refine zO 1 12 13 1 11 zf (by kernel_rfl) (by kernel_rfl) rfl rfl rfl rfl rfl rfl rfl rfl rfl rfl rfl rfl rfl rfl rfl rfl rfl rfl rfl rfl rfl rfl ?_|refine yh rfl rfl ?_|refine ⟨_,_,rfl,rfl,?_⟩|(refine shC ?_;first|refine zB rfl (zG rfl rfl (zC (by first|rfl|assumption|simp [hC1]) 8)) rfl rfl ?_|refine AD.step _ _ _ _ _ rfl (zG rfl rfl (zC (by first|rfl|assumption|simp [hC1]) 8)) rfl rfl ?_)|(refine shX ?_;first|refine zB rfl (zl zf rfl rfl rfl rfl rfl rfl h0 hfe) rfl rfl ?_|refine AD.step _ _ _ _ _ rfl (zl zf rfl rfl rfl rfl rfl rfl h0 hfe) rfl rfl ?_)|(refine zu ?_;first|(refine zo 0 zi rfl rfl ((YP ⟨g,m,ar,⟨48,arg,t0⟩⟩ hF f true _ (by omega)).ok hS3) rfl rfl rfl rfl rfl ?_))|refine sK ?_|refine sC (fun _=>?_) (fun _=>?_)|fail)
    exact zy hw
   | ok p =>
    obtain ⟨⟨⟩,l4⟩:=p
    have hw:(yE g m ⟨48,arg,t0⟩) l=.ok ((),l4):=by simp [yE,hf,zx,zA,hC1,zI,emptyS,hS3,hS4]
    repeat' (first|refine zO 1 12 13 1 11 zf (by kernel_rfl) (by kernel_rfl) rfl rfl rfl rfl rfl rfl rfl rfl rfl rfl rfl rfl rfl rfl rfl rfl rfl rfl rfl rfl rfl rfl ?_|refine yh rfl rfl ?_|refine ⟨_,_,rfl,rfl,?_⟩|(refine shC ?_;first|refine zB rfl (zG rfl rfl (zC (by first|rfl|assumption|simp [hC1]) 8)) rfl rfl ?_|refine AD.step _ _ _ _ _ rfl (zG rfl rfl (zC (by first|rfl|assumption|simp [hC1]) 8)) rfl rfl ?_)|(refine shX ?_;first|refine zB rfl (zl zf rfl rfl rfl rfl rfl rfl h0 hfe) rfl rfl ?_|refine AD.step _ _ _ _ _ rfl (zl zf rfl rfl rfl rfl rfl rfl h0 hfe) rfl rfl ?_)|(refine zu ?_;first|(refine zo 0 zi rfl rfl ((YP ⟨g,m,ar,⟨48,arg,t0⟩⟩ hF f true _ (by omega)).ok hS3) rfl rfl rfl rfl rfl ?_)|(refine zo 0 zi rfl rfl ((zS ⟨g,m,ar,⟨48,arg,t0⟩⟩ [f.ty] _ (by omega) (by simp)).ok hS4) rfl rfl rfl rfl rfl ?_))|refine sK ?_|refine sC (fun _=>?_) (fun _=>?_)|fail)
    exact zV hw (yC (.inl rfl) tH)
 ·skip
  have hw:(yE g m ⟨48,arg,t0⟩) l=.error 8:=by simp [yE,hf,zx,zA,hC1,zI,emptyS]
  repeat' (first|refine zq 2 4 rfl rfl rfl ?_|refine zD ([]) zi rfl rfl rfl tH (zZ (by first|rfl|assumption|simp [hC1]) 8) ?_|refine zO 1 12 13 1 11 zf (by kernel_rfl) (by kernel_rfl) rfl rfl rfl rfl rfl rfl rfl rfl rfl rfl rfl rfl rfl rfl rfl rfl rfl rfl rfl rfl rfl rfl ?_|refine yh rfl rfl ?_|refine ⟨_,_,rfl,rfl,?_⟩|(refine shX ?_;first|refine zB rfl (zl zf rfl rfl rfl rfl rfl rfl h0 hfe) rfl rfl ?_|refine AD.step _ _ _ _ _ rfl (zl zf rfl rfl rfl rfl rfl rfl h0 hfe) rfl rfl ?_)|refine sK ?_|refine sC (fun _=>?_) (fun _=>?_)|fail)
  exact zy hw
theorem zpP (g:Img) (hF:Fm g) (m:Me) (ar:List Ty) (arg:Int) (t0:Ty) (l:List Ty) (hl:l.length≤100) (h0:0≤arg) (h1:arg.toNat < g.fields.length):XC 86 [] (⟨g,m,ar,⟨49,arg,t0⟩⟩:RC) (yE g m ⟨49,arg,t0⟩) uV l:=by
 intro u;refine zF zf Tryz.func86 rfl (by kernel_rfl) Tryz.ntmps86 (by simp) _ rfl (fun gB hw1=>?_)
 have hfe:(g.fields.map ZK)[arg.toNat]?=some (ZK (fAt g arg)):=by rw [fAt,zL h1];exact yu h1
 obtain ⟨f,hf⟩:∃ f,fAt g arg=f:=⟨_,rfl⟩
 rw [hf] at hfe
 have cr:=ZR f.ty
 cases hC1:(f.static)
 ·skip
  cases hS3:(Yo g (f.ty)) l with
  | error e =>
   have hw:(yE g m ⟨49,arg,t0⟩) l=.error e:=by simp [yE,hf,zx,zA,hC1,zI,emptyS,hS3]
   repeat' (first|refine zq 9 3 rfl rfl rfl ?_|refine zD ((yN u ⟨g,m,ar,⟨49,arg,t0⟩⟩ l)) zi rfl rfl rfl tH ((qj ⟨g,m,ar,⟨49,arg,t0⟩⟩ hF (f.ty) _ (by omega)).bad hS3 u) ?_|refine zO 1 12 13 1 11 zf (by kernel_rfl) (by kernel_rfl) rfl rfl rfl rfl rfl rfl rfl rfl rfl rfl rfl rfl rfl rfl rfl rfl rfl rfl rfl rfl rfl rfl ?_|refine yh rfl rfl ?_|refine ⟨_,_,rfl,rfl,?_⟩|(refine shC ?_;first|refine zB rfl (zG rfl rfl (zC (by first|rfl|assumption|simp [hC1]) 8)) rfl rfl ?_|refine AD.step _ _ _ _ _ rfl (zG rfl rfl (zC (by first|rfl|assumption|simp [hC1]) 8)) rfl rfl ?_)|(refine shX ?_;first|refine zB rfl (zl zf rfl rfl rfl rfl rfl rfl h0 hfe) rfl rfl ?_|refine AD.step _ _ _ _ _ rfl (zl zf rfl rfl rfl rfl rfl rfl h0 hfe) rfl rfl ?_)|refine sK ?_|refine sC (fun _=>?_) (fun _=>?_)|fail)
   exact zy hw
  | ok p =>
   obtain ⟨⟨⟩,l3⟩:=p
   have hl3:l3.length≤100:=by have:=WO hS3;omega
   cases hS4:(Zb g f false) l3 with
   | error e =>
    have hw:(yE g m ⟨49,arg,t0⟩) l=.error e:=by simp [yE,hf,zx,zA,hC1,zI,emptyS,hS3,hS4]
    repeat' (first|refine zq 10 2 rfl rfl rfl ?_|refine zD ((yN u ⟨g,m,ar,⟨49,arg,t0⟩⟩ l3)) zi rfl rfl rfl tH ((YP ⟨g,m,ar,⟨49,arg,t0⟩⟩ hF f false _ (by omega)).bad hS4 u) ?_|refine zO 1 12 13 1 11 zf (by kernel_rfl) (by kernel_rfl) rfl rfl rfl rfl rfl rfl rfl rfl rfl rfl rfl rfl rfl rfl rfl rfl rfl rfl rfl rfl rfl rfl ?_|refine yh rfl rfl ?_|refine ⟨_,_,rfl,rfl,?_⟩|(refine shC ?_;first|refine zB rfl (zG rfl rfl (zC (by first|rfl|assumption|simp [hC1]) 8)) rfl rfl ?_|refine AD.step _ _ _ _ _ rfl (zG rfl rfl (zC (by first|rfl|assumption|simp [hC1]) 8)) rfl rfl ?_)|(refine shX ?_;first|refine zB rfl (zl zf rfl rfl rfl rfl rfl rfl h0 hfe) rfl rfl ?_|refine AD.step _ _ _ _ _ rfl (zl zf rfl rfl rfl rfl rfl rfl h0 hfe) rfl rfl ?_)|(refine zu ?_;first|(refine zo 0 zi rfl rfl ((qj ⟨g,m,ar,⟨49,arg,t0⟩⟩ hF (f.ty) _ (by omega)).ok hS3) rfl rfl rfl rfl rfl ?_))|refine sK ?_|refine sC (fun _=>?_) (fun _=>?_)|fail)
    exact zy hw
   | ok p =>
    obtain ⟨⟨⟩,l4⟩:=p
    have hl4:l4.length≤100:=by have:=zbO hS4;omega
    have hw:(yE g m ⟨49,arg,t0⟩) l=.ok ((),l4):=by simp [yE,hf,zx,zA,hC1,zI,emptyS,hS3,hS4]
    repeat' (first|refine zO 1 12 13 1 11 zf (by kernel_rfl) (by kernel_rfl) rfl rfl rfl rfl rfl rfl rfl rfl rfl rfl rfl rfl rfl rfl rfl rfl rfl rfl rfl rfl rfl rfl ?_|refine yh rfl rfl ?_|refine ⟨_,_,rfl,rfl,?_⟩|(refine shC ?_;first|refine zB rfl (zG rfl rfl (zC (by first|rfl|assumption|simp [hC1]) 8)) rfl rfl ?_|refine AD.step _ _ _ _ _ rfl (zG rfl rfl (zC (by first|rfl|assumption|simp [hC1]) 8)) rfl rfl ?_)|(refine shX ?_;first|refine zB rfl (zl zf rfl rfl rfl rfl rfl rfl h0 hfe) rfl rfl ?_|refine AD.step _ _ _ _ _ rfl (zl zf rfl rfl rfl rfl rfl rfl h0 hfe) rfl rfl ?_)|(refine zu ?_;first|(refine zo 0 zi rfl rfl ((qj ⟨g,m,ar,⟨49,arg,t0⟩⟩ hF (f.ty) _ (by omega)).ok hS3) rfl rfl rfl rfl rfl ?_)|(refine zo 0 zi rfl rfl ((YP ⟨g,m,ar,⟨49,arg,t0⟩⟩ hF f false _ (by omega)).ok hS4) rfl rfl rfl rfl rfl ?_))|refine sK ?_|refine sC (fun _=>?_) (fun _=>?_)|fail)
    exact zV hw (yC (.inl rfl) tH)
 ·skip
  have hw:(yE g m ⟨49,arg,t0⟩) l=.error 8:=by simp [yE,hf,zx,zA,hC1,zI,emptyS]
  repeat' (first|refine zq 2 4 rfl rfl rfl ?_|refine zD ([]) zi rfl rfl rfl tH (zZ (by first|rfl|assumption|simp [hC1]) 8) ?_|refine zO 1 12 13 1 11 zf (by kernel_rfl) (by kernel_rfl) rfl rfl rfl rfl rfl rfl rfl rfl rfl rfl rfl rfl rfl rfl rfl rfl rfl rfl rfl rfl rfl rfl ?_|refine yh rfl rfl ?_|refine ⟨_,_,rfl,rfl,?_⟩|(refine shX ?_;first|refine zB rfl (zl zf rfl rfl rfl rfl rfl rfl h0 hfe) rfl rfl ?_|refine AD.step _ _ _ _ _ rfl (zl zf rfl rfl rfl rfl rfl rfl h0 hfe) rfl rfl ?_)|refine sK ?_|refine sC (fun _=>?_) (fun _=>?_)|fail)
  exact zy hw
theorem zp1 (g:Img) (hF:Fm g) (m:Me) (ar:List Ty) (arg:Int) (t0:Ty) (l:List Ty) (hl:l.length≤100) (h0:0≤arg) (h1:arg.toNat < g.fields.length):XC 86 [] (⟨g,m,ar,⟨50,arg,t0⟩⟩:RC) (yE g m ⟨50,arg,t0⟩) uV l:=by
 intro u;refine zF zf Tryz.func86 rfl (by kernel_rfl) Tryz.ntmps86 (by simp) _ rfl (fun gB hw1=>?_)
 have hfe:(g.fields.map ZK)[arg.toNat]?=some (ZK (fAt g arg)):=by rw [fAt,zL h1];exact yu h1
 obtain ⟨f,hf⟩:∃ f,fAt g arg=f:=⟨_,rfl⟩
 rw [hf] at hfe
 have cr:=ZR f.ty
 cases hC1:(f.static)
 ·skip
  cases hS3:(Zb g f false) l with
  | error e =>
   have hw:(yE g m ⟨50,arg,t0⟩) l=.error e:=by simp [yE,hf,zx,zA,hC1,zI,emptyS,hS3]
   repeat' (first|refine zq 12 2 rfl rfl rfl ?_|refine zD ((yN u ⟨g,m,ar,⟨50,arg,t0⟩⟩ l)) zi rfl rfl rfl tH ((YP ⟨g,m,ar,⟨50,arg,t0⟩⟩ hF f false _ (by omega)).bad hS3 u) ?_|refine zO 1 12 13 1 11 zf (by kernel_rfl) (by kernel_rfl) rfl rfl rfl rfl rfl rfl rfl rfl rfl rfl rfl rfl rfl rfl rfl rfl rfl rfl rfl rfl rfl rfl ?_|refine yh rfl rfl ?_|refine ⟨_,_,rfl,rfl,?_⟩|(refine shC ?_;first|refine zB rfl (zG rfl rfl (zC (by first|rfl|assumption|simp [hC1]) 8)) rfl rfl ?_|refine AD.step _ _ _ _ _ rfl (zG rfl rfl (zC (by first|rfl|assumption|simp [hC1]) 8)) rfl rfl ?_|refine qC cr ?_)|(refine shX ?_;first|refine zB rfl (zl zf rfl rfl rfl rfl rfl rfl h0 hfe) rfl rfl ?_|refine AD.step _ _ _ _ _ rfl (zl zf rfl rfl rfl rfl rfl rfl h0 hfe) rfl rfl ?_)|refine sK ?_|refine sC (fun _=>?_) (fun _=>?_)|fail)
   exact zy hw
  | ok p =>
   obtain ⟨⟨⟩,l3⟩:=p
   have hl3:l3.length≤100:=by have:=zbO hS3;omega
   cases hS4:(yR m.max [rfT f.ty]) l3 with
   | error e =>
    have hw:(yE g m ⟨50,arg,t0⟩) l=.error e:=by simp [yE,hf,zx,zA,hC1,zI,emptyS,hS3,hS4]
    repeat' (first|refine zq 13 5 rfl rfl rfl ?_|refine zD ((yN u ⟨g,m,ar,⟨50,arg,t0⟩⟩ l3)) zi rfl rfl rfl tH ((zS ⟨g,m,ar,⟨50,arg,t0⟩⟩ [rfT f.ty] _ (by omega) (by simp)).bad hS4 u) ?_|refine zO 1 12 13 1 11 zf (by kernel_rfl) (by kernel_rfl) rfl rfl rfl rfl rfl rfl rfl rfl rfl rfl rfl rfl rfl rfl rfl rfl rfl rfl rfl rfl rfl rfl ?_|refine yh rfl rfl ?_|refine ⟨_,_,rfl,rfl,?_⟩|(refine shC ?_;first|refine zB rfl (zG rfl rfl (zC (by first|rfl|assumption|simp [hC1]) 8)) rfl rfl ?_|refine AD.step _ _ _ _ _ rfl (zG rfl rfl (zC (by first|rfl|assumption|simp [hC1]) 8)) rfl rfl ?_|refine qC cr ?_)|(refine shX ?_;first|refine zB rfl (zl zf rfl rfl rfl rfl rfl rfl h0 hfe) rfl rfl ?_|refine AD.step _ _ _ _ _ rfl (zl zf rfl rfl rfl rfl rfl rfl h0 hfe) rfl rfl ?_)|(refine zu ?_;first|(refine zo 0 zi rfl rfl ((YP ⟨g,m,ar,⟨50,arg,t0⟩⟩ hF f false _ (by omega)).ok hS3) rfl rfl rfl rfl rfl ?_))|refine sK ?_|refine sC (fun _=>?_) (fun _=>?_)|fail)
    exact zy hw
   | ok p =>
    obtain ⟨⟨⟩,l4⟩:=p
    have hw:(yE g m ⟨50,arg,t0⟩) l=.ok ((),l4):=by simp [yE,hf,zx,zA,hC1,zI,emptyS,hS3,hS4]
    repeat' (first|refine zO 1 12 13 1 11 zf (by kernel_rfl) (by kernel_rfl) rfl rfl rfl rfl rfl rfl rfl rfl rfl rfl rfl rfl rfl rfl rfl rfl rfl rfl rfl rfl rfl rfl ?_|refine yh rfl rfl ?_|refine ⟨_,_,rfl,rfl,?_⟩|(refine shC ?_;first|refine zB rfl (zG rfl rfl (zC (by first|rfl|assumption|simp [hC1]) 8)) rfl rfl ?_|refine AD.step _ _ _ _ _ rfl (zG rfl rfl (zC (by first|rfl|assumption|simp [hC1]) 8)) rfl rfl ?_|refine qC cr ?_)|(refine shX ?_;first|refine zB rfl (zl zf rfl rfl rfl rfl rfl rfl h0 hfe) rfl rfl ?_|refine AD.step _ _ _ _ _ rfl (zl zf rfl rfl rfl rfl rfl rfl h0 hfe) rfl rfl ?_)|(refine zu ?_;first|(refine zo 0 zi rfl rfl ((YP ⟨g,m,ar,⟨50,arg,t0⟩⟩ hF f false _ (by omega)).ok hS3) rfl rfl rfl rfl rfl ?_)|(refine zo 0 zi rfl rfl ((zS ⟨g,m,ar,⟨50,arg,t0⟩⟩ [rfT f.ty] _ (by omega) (by simp)).ok hS4) rfl rfl rfl rfl rfl ?_))|refine sK ?_|refine sC (fun _=>?_) (fun _=>?_)|fail)
    exact zV hw (yC (.inl rfl) tH)
 ·skip
  have hw:(yE g m ⟨50,arg,t0⟩) l=.error 8:=by simp [yE,hf,zx,zA,hC1,zI,emptyS]
  repeat' (first|refine zq 2 4 rfl rfl rfl ?_|refine zD ([]) zi rfl rfl rfl tH (zZ (by first|rfl|assumption|simp [hC1]) 8) ?_|refine zO 1 12 13 1 11 zf (by kernel_rfl) (by kernel_rfl) rfl rfl rfl rfl rfl rfl rfl rfl rfl rfl rfl rfl rfl rfl rfl rfl rfl rfl rfl rfl rfl rfl ?_|refine yh rfl rfl ?_|refine ⟨_,_,rfl,rfl,?_⟩|(refine shC ?_;first|refine qC cr ?_)|(refine shX ?_;first|refine zB rfl (zl zf rfl rfl rfl rfl rfl rfl h0 hfe) rfl rfl ?_|refine AD.step _ _ _ _ _ rfl (zl zf rfl rfl rfl rfl rfl rfl h0 hfe) rfl rfl ?_)|refine sK ?_|refine sC (fun _=>?_) (fun _=>?_)|fail)
  exact zy hw
theorem zpT (g:Img) (hF:Fm g) (m:Me) (ar:List Ty) (arg:Int) (t0:Ty) (l:List Ty) (hl:l.length≤100) (h0:0≤arg) (h1:arg.toNat < g.fields.length):XC 86 [] (⟨g,m,ar,⟨51,arg,t0⟩⟩:RC) (yE g m ⟨51,arg,t0⟩) uV l:=by
 intro u;refine zF zf Tryz.func86 rfl (by kernel_rfl) Tryz.ntmps86 (by simp) _ rfl (fun gB hw1=>?_)
 have hfe:(g.fields.map ZK)[arg.toNat]?=some (ZK (fAt g arg)):=by rw [fAt,zL h1];exact yu h1
 obtain ⟨f,hf⟩:∃ f,fAt g arg=f:=⟨_,rfl⟩
 rw [hf] at hfe
 have cr:=ZR f.ty
 cases hC1:(f.static)
 ·skip
  have hw:(yE g m ⟨51,arg,t0⟩) l=.error 8:=by simp [yE,hf,zx,zA,hC1,zI,emptyS]
  repeat' (first|refine zq 2 4 rfl rfl rfl ?_|refine zD ([]) zi rfl rfl rfl tH (zZ (by first|rfl|assumption|simp [hC1]) 8) ?_|refine zO 1 12 13 1 11 zf (by kernel_rfl) (by kernel_rfl) rfl rfl rfl rfl rfl rfl rfl rfl rfl rfl rfl rfl rfl rfl rfl rfl rfl rfl rfl rfl rfl rfl ?_|refine yh rfl rfl ?_|refine ⟨_,_,rfl,rfl,?_⟩|(refine shX ?_;first|refine zB rfl (zl zf rfl rfl rfl rfl rfl rfl h0 hfe) rfl rfl ?_|refine AD.step _ _ _ _ _ rfl (zl zf rfl rfl rfl rfl rfl rfl h0 hfe) rfl rfl ?_)|refine sK ?_|refine sC (fun _=>?_) (fun _=>?_)|fail)
  exact zy hw
 ·skip
  cases hS3:(yR m.max [f.ty]) l with
  | error e =>
   have hw:(yE g m ⟨51,arg,t0⟩) l=.error e:=by simp [yE,hf,zx,zA,hC1,zI,emptyS,hS3]
   repeat' (first|refine zq 15 4 rfl rfl rfl ?_|refine zD ((yN u ⟨g,m,ar,⟨51,arg,t0⟩⟩ l)) zi rfl rfl rfl tH ((zS ⟨g,m,ar,⟨51,arg,t0⟩⟩ [f.ty] _ (by omega) (by simp)).bad hS3 u) ?_|refine zO 1 12 13 1 11 zf (by kernel_rfl) (by kernel_rfl) rfl rfl rfl rfl rfl rfl rfl rfl rfl rfl rfl rfl rfl rfl rfl rfl rfl rfl rfl rfl rfl rfl ?_|refine yh rfl rfl ?_|refine ⟨_,_,rfl,rfl,?_⟩|(refine shC ?_;first|refine zB rfl (zG rfl rfl (zC (by first|rfl|assumption|simp [hC1]) 8)) rfl rfl ?_|refine AD.step _ _ _ _ _ rfl (zG rfl rfl (zC (by first|rfl|assumption|simp [hC1]) 8)) rfl rfl ?_)|(refine shX ?_;first|refine zB rfl (zl zf rfl rfl rfl rfl rfl rfl h0 hfe) rfl rfl ?_|refine AD.step _ _ _ _ _ rfl (zl zf rfl rfl rfl rfl rfl rfl h0 hfe) rfl rfl ?_)|refine sK ?_|refine sC (fun _=>?_) (fun _=>?_)|fail)
   exact zy hw
  | ok p =>
   obtain ⟨⟨⟩,l3⟩:=p
   have hw:(yE g m ⟨51,arg,t0⟩) l=.ok ((),l3):=by simp [yE,hf,zx,zA,hC1,zI,emptyS,hS3]
   repeat' (first|refine zO 1 12 13 1 11 zf (by kernel_rfl) (by kernel_rfl) rfl rfl rfl rfl rfl rfl rfl rfl rfl rfl rfl rfl rfl rfl rfl rfl rfl rfl rfl rfl rfl rfl ?_|refine yh rfl rfl ?_|refine ⟨_,_,rfl,rfl,?_⟩|(refine shC ?_;first|refine zB rfl (zG rfl rfl (zC (by first|rfl|assumption|simp [hC1]) 8)) rfl rfl ?_|refine AD.step _ _ _ _ _ rfl (zG rfl rfl (zC (by first|rfl|assumption|simp [hC1]) 8)) rfl rfl ?_)|(refine shX ?_;first|refine zB rfl (zl zf rfl rfl rfl rfl rfl rfl h0 hfe) rfl rfl ?_|refine AD.step _ _ _ _ _ rfl (zl zf rfl rfl rfl rfl rfl rfl h0 hfe) rfl rfl ?_)|(refine zu ?_;first|(refine zo 0 zi rfl rfl ((zS ⟨g,m,ar,⟨51,arg,t0⟩⟩ [f.ty] _ (by omega) (by simp)).ok hS3) rfl rfl rfl rfl rfl ?_))|refine sK ?_|refine sC (fun _=>?_) (fun _=>?_)|fail)
   exact zV hw (yC (.inl rfl) tH)
theorem zpL (g:Img) (hF:Fm g) (m:Me) (ar:List Ty) (arg:Int) (t0:Ty) (l:List Ty) (hl:l.length≤100) (h0:0≤arg) (h1:arg.toNat < g.fields.length):XC 86 [] (⟨g,m,ar,⟨52,arg,t0⟩⟩:RC) (yE g m ⟨52,arg,t0⟩) uV l:=by
 intro u;refine zF zf Tryz.func86 rfl (by kernel_rfl) Tryz.ntmps86 (by simp) _ rfl (fun gB hw1=>?_)
 have hfe:(g.fields.map ZK)[arg.toNat]?=some (ZK (fAt g arg)):=by rw [fAt,zL h1];exact yu h1
 obtain ⟨f,hf⟩:∃ f,fAt g arg=f:=⟨_,rfl⟩
 rw [hf] at hfe
 have cr:=ZR f.ty
 cases hC1:(f.static)
 ·skip
  have hw:(yE g m ⟨52,arg,t0⟩) l=.error 8:=by simp [yE,hf,zx,zA,hC1,zI,emptyS]
  repeat' (first|refine zq 2 4 rfl rfl rfl ?_|refine zD ([]) zi rfl rfl rfl tH (zZ (by first|rfl|assumption|simp [hC1]) 8) ?_|refine zO 1 12 13 1 11 zf (by kernel_rfl) (by kernel_rfl) rfl rfl rfl rfl rfl rfl rfl rfl rfl rfl rfl rfl rfl rfl rfl rfl rfl rfl rfl rfl rfl rfl ?_|refine yh rfl rfl ?_|refine ⟨_,_,rfl,rfl,?_⟩|(refine shX ?_;first|refine zB rfl (zl zf rfl rfl rfl rfl rfl rfl h0 hfe) rfl rfl ?_|refine AD.step _ _ _ _ _ rfl (zl zf rfl rfl rfl rfl rfl rfl h0 hfe) rfl rfl ?_)|refine sK ?_|refine sC (fun _=>?_) (fun _=>?_)|fail)
  exact zy hw
 ·skip
  cases hS3:(Yo g (f.ty)) l with
  | error e =>
   have hw:(yE g m ⟨52,arg,t0⟩) l=.error e:=by simp [yE,hf,zx,zA,hC1,zI,emptyS,hS3]
   repeat' (first|refine zq 17 3 rfl rfl rfl ?_|refine zD ((yN u ⟨g,m,ar,⟨52,arg,t0⟩⟩ l)) zi rfl rfl rfl tH ((qj ⟨g,m,ar,⟨52,arg,t0⟩⟩ hF (f.ty) _ (by omega)).bad hS3 u) ?_|refine zO 1 12 13 1 11 zf (by kernel_rfl) (by kernel_rfl) rfl rfl rfl rfl rfl rfl rfl rfl rfl rfl rfl rfl rfl rfl rfl rfl rfl rfl rfl rfl rfl rfl ?_|refine yh rfl rfl ?_|refine ⟨_,_,rfl,rfl,?_⟩|(refine shC ?_;first|refine zB rfl (zG rfl rfl (zC (by first|rfl|assumption|simp [hC1]) 8)) rfl rfl ?_|refine AD.step _ _ _ _ _ rfl (zG rfl rfl (zC (by first|rfl|assumption|simp [hC1]) 8)) rfl rfl ?_)|(refine shX ?_;first|refine zB rfl (zl zf rfl rfl rfl rfl rfl rfl h0 hfe) rfl rfl ?_|refine AD.step _ _ _ _ _ rfl (zl zf rfl rfl rfl rfl rfl rfl h0 hfe) rfl rfl ?_)|refine sK ?_|refine sC (fun _=>?_) (fun _=>?_)|fail)
   exact zy hw
  | ok p =>
   obtain ⟨⟨⟩,l3⟩:=p
   have hl3:l3.length≤100:=by have:=WO hS3;omega
   have hw:(yE g m ⟨52,arg,t0⟩) l=.ok ((),l3):=by simp [yE,hf,zx,zA,hC1,zI,emptyS,hS3]
   repeat' (first|refine zO 1 12 13 1 11 zf (by kernel_rfl) (by kernel_rfl) rfl rfl rfl rfl rfl rfl rfl rfl rfl rfl rfl rfl rfl rfl rfl rfl rfl rfl rfl rfl rfl rfl ?_|refine yh rfl rfl ?_|refine ⟨_,_,rfl,rfl,?_⟩|(refine shC ?_;first|refine zB rfl (zG rfl rfl (zC (by first|rfl|assumption|simp [hC1]) 8)) rfl rfl ?_|refine AD.step _ _ _ _ _ rfl (zG rfl rfl (zC (by first|rfl|assumption|simp [hC1]) 8)) rfl rfl ?_)|(refine shX ?_;first|refine zB rfl (zl zf rfl rfl rfl rfl rfl rfl h0 hfe) rfl rfl ?_|refine AD.step _ _ _ _ _ rfl (zl zf rfl rfl rfl rfl rfl rfl h0 hfe) rfl rfl ?_)|(refine zu ?_;first|(refine zo 0 zi rfl rfl ((qj ⟨g,m,ar,⟨52,arg,t0⟩⟩ hF (f.ty) _ (by omega)).ok hS3) rfl rfl rfl rfl rfl ?_))|refine sK ?_|refine sC (fun _=>?_) (fun _=>?_)|fail)
   exact zV hw (yC (.inl rfl) tH)
theorem zpw (g:Img) (hF:Fm g) (m:Me) (ar:List Ty) (arg:Int) (t0:Ty) (l:List Ty) (hl:l.length≤100) (h0:0≤arg) (h1:arg.toNat < g.fields.length):XC 86 [] (⟨g,m,ar,⟨53,arg,t0⟩⟩:RC) (yE g m ⟨53,arg,t0⟩) uV l:=by
 intro u;refine zF zf Tryz.func86 rfl (by kernel_rfl) Tryz.ntmps86 (by simp) _ rfl (fun gB hw1=>?_)
 have hfe:(g.fields.map ZK)[arg.toNat]?=some (ZK (fAt g arg)):=by rw [fAt,zL h1];exact yu h1
 obtain ⟨f,hf⟩:∃ f,fAt g arg=f:=⟨_,rfl⟩
 rw [hf] at hfe
 have cr:=ZR f.ty
 cases hC1:(f.static)
 ·skip
  have hw:(yE g m ⟨53,arg,t0⟩) l=.error 8:=by simp [yE,hf,zx,zA,hC1,zI,emptyS]
  repeat' (first|refine zq 2 4 rfl rfl rfl ?_|refine zD ([]) zi rfl rfl rfl tH (zZ (by first|rfl|assumption|simp [hC1]) 8) ?_|refine zO 1 12 13 1 11 zf (by kernel_rfl) (by kernel_rfl) rfl rfl rfl rfl rfl rfl rfl rfl rfl rfl rfl rfl rfl rfl rfl rfl rfl rfl rfl rfl rfl rfl ?_|refine yh rfl rfl ?_|refine ⟨_,_,rfl,rfl,?_⟩|(refine shC ?_;first|refine qC cr ?_)|(refine shX ?_;first|refine zB rfl (zl zf rfl rfl rfl rfl rfl rfl h0 hfe) rfl rfl ?_|refine AD.step _ _ _ _ _ rfl (zl zf rfl rfl rfl rfl rfl rfl h0 hfe) rfl rfl ?_)|refine sK ?_|refine sC (fun _=>?_) (fun _=>?_)|fail)
  exact zy hw
 ·skip
  cases hS3:(yR m.max [rfT f.ty]) l with
  | error e =>
   have hw:(yE g m ⟨53,arg,t0⟩) l=.error e:=by simp [yE,hf,zx,zA,hC1,zI,emptyS,hS3]
   repeat' (first|refine zq 4 5 rfl rfl rfl ?_|refine zD ((yN u ⟨g,m,ar,⟨53,arg,t0⟩⟩ l)) zi rfl rfl rfl tH ((zS ⟨g,m,ar,⟨53,arg,t0⟩⟩ [rfT f.ty] _ (by omega) (by simp)).bad hS3 u) ?_|refine zO 1 12 13 1 11 zf (by kernel_rfl) (by kernel_rfl) rfl rfl rfl rfl rfl rfl rfl rfl rfl rfl rfl rfl rfl rfl rfl rfl rfl rfl rfl rfl rfl rfl ?_|refine yh rfl rfl ?_|refine ⟨_,_,rfl,rfl,?_⟩|(refine shC ?_;first|refine zB rfl (zG rfl rfl (zC (by first|rfl|assumption|simp [hC1]) 8)) rfl rfl ?_|refine AD.step _ _ _ _ _ rfl (zG rfl rfl (zC (by first|rfl|assumption|simp [hC1]) 8)) rfl rfl ?_|refine qC cr ?_)|(refine shX ?_;first|refine zB rfl (zl zf rfl rfl rfl rfl rfl rfl h0 hfe) rfl rfl ?_|refine AD.step _ _ _ _ _ rfl (zl zf rfl rfl rfl rfl rfl rfl h0 hfe) rfl rfl ?_)|refine sK ?_|refine sC (fun _=>?_) (fun _=>?_)|fail)
   exact zy hw
  | ok p =>
   obtain ⟨⟨⟩,l3⟩:=p
   have hw:(yE g m ⟨53,arg,t0⟩) l=.ok ((),l3):=by simp [yE,hf,zx,zA,hC1,zI,emptyS,hS3]
   repeat' (first|refine zO 1 12 13 1 11 zf (by kernel_rfl) (by kernel_rfl) rfl rfl rfl rfl rfl rfl rfl rfl rfl rfl rfl rfl rfl rfl rfl rfl rfl rfl rfl rfl rfl rfl ?_|refine yh rfl rfl ?_|refine ⟨_,_,rfl,rfl,?_⟩|(refine shC ?_;first|refine zB rfl (zG rfl rfl (zC (by first|rfl|assumption|simp [hC1]) 8)) rfl rfl ?_|refine AD.step _ _ _ _ _ rfl (zG rfl rfl (zC (by first|rfl|assumption|simp [hC1]) 8)) rfl rfl ?_|refine qC cr ?_)|(refine shX ?_;first|refine zB rfl (zl zf rfl rfl rfl rfl rfl rfl h0 hfe) rfl rfl ?_|refine AD.step _ _ _ _ _ rfl (zl zf rfl rfl rfl rfl rfl rfl h0 hfe) rfl rfl ?_)|(refine zu ?_;first|(refine zo 0 zi rfl rfl ((zS ⟨g,m,ar,⟨53,arg,t0⟩⟩ [rfT f.ty] _ (by omega) (by simp)).ok hS3) rfl rfl rfl rfl rfl ?_))|refine sK ?_|refine sC (fun _=>?_) (fun _=>?_)|fail)
   exact zV hw (yC (.inl rfl) tH)
end Go.Cg
namespace Go.Cg
theorem qy {P:Program} {n:Nat} {g:Base} {H:HEnv} {env:Env} {ops:List Oper} {QQ:QC} {id:Nat} (id' L k:Nat) (_:id=id') (hL:ops.length=L) (hok:WE ops k=true) (hm:P.follows .mixedOrders=true) (hB:ZW (zQ k ops 0) ((zQ k ops 0).take k)=true) (hT:XK (zQ k ops 0) k=true) (hk:Nat.ble k (zQ k ops 0).length=true)
  (h:AD P n g H (zQ k ops 0) (fun env'=>AOX P n g (zQ k ops 0).toArray ((zQ k ops 0).drop k) env' H QQ) ((zQ k ops 0).take k) env) (hnd:Zj ops=true:=by kernel_rfl):AW P n g (.region id ops.toArray true) env H QQ:=Zo L k hL hok hm hB hT hk h hnd
end Go.Cg
namespace Go.Cg
open Go.Proofs
set_option maxHeartbeats 20000000
theorem zqL (g:Img) (hF:Fm g) (m:Me) (ar:List Ty) (arg:Int) (t0:Ty) (l:List Ty) (hl:l.length≤100) (h0:0≤arg) (h1:arg.toNat < g.methods.length) (hp:(mAt g arg).params.length≤100) (hof:0≤(mAt g arg).owner) (hot:(mAt g arg).owner.toNat < g.types.length):XC 85 [] (⟨g,m,ar,⟨43,arg,t0⟩⟩:RC) (qw g m ⟨43,arg,t0⟩) uV l:=by
 intro u;refine zF zf Tryz.func85 rfl (by kernel_rfl) Tryz.ntmps85 (by simp) _ rfl (fun gB hw1=>?_)
 have cm:XC 136 [] (⟨g,m,ar,⟨43,arg,t0⟩⟩:RC) (pure (mAt g arg):SM Me) (fun d=>.pv (yL d)) l:=zaD _ l h0 h1
 have em:(pure (mAt g arg):SM Me) l=.ok (mAt g arg,l):=rfl
 obtain ⟨d,hd⟩:∃ d,mAt g arg=d:=⟨_,rfl⟩
 rw [hd] at cm em hp hot hof
 have ca:=YL d 4
 have cb:=YL d 16
 have cc:=YL d 1
 have ck:=Qz g d.owner
 have cA:=zc6 g d (by omega)
 cases hC1:(qK d.flags 4)
 ·rw [hC1] at ca
  cases hS3:(Zh g (XD g d)) l with
  | error e =>
   have hw:(qw g m ⟨43,arg,t0⟩) l=.error e:=by simp [qw,hd,zx,zA,hC1,zI,emptyS,hS3]
   repeat' (first|refine qy 10 8 7 rfl rfl (by kernel_rfl) (by kernel_rfl) (by kernel_rfl) (by kernel_rfl) (by kernel_rfl) ?_|refine zD ((yN u ⟨g,m,ar,⟨43,arg,t0⟩⟩ l)) zi rfl rfl rfl tH ((YE ⟨g,m,ar,⟨43,arg,t0⟩⟩ hF (XD g d) _ (by omega)).bad hS3 u) ?_|refine zB rfl (zn (ps:=(yA g)) zf rfl rfl rfl rfl rfl) rfl rfl ?_|refine AD.step _ _ _ _ _ rfl (zn (ps:=(yA g)) zf rfl rfl rfl rfl rfl) rfl rfl ?_|(refine shC ?_;first|refine qC ca ?_|refine zB rfl (zG rfl rfl (zC (by first|rfl|assumption|simp [hC1]) 8)) rfl rfl ?_|refine AD.step _ _ _ _ _ rfl (zG rfl rfl (zC (by first|rfl|assumption|simp [hC1]) 8)) rfl rfl ?_|refine qC ck ?_|refine qC cA ?_)|(refine zu ?_;first|(refine zo 0 zi rfl rfl (cm.ok em) rfl rfl rfl rfl rfl ?_))|refine sK ?_|refine sC (fun _=>?_) (fun _=>?_)|fail)
   exact zy hw
  | ok p =>
   obtain ⟨⟨⟩,l3⟩:=p
   have hl3:l3.length≤100:=by have:=Wu hS3;omega
   cases hS4:(ZY m.max d) l3 with
   | error e =>
    have hw:(qw g m ⟨43,arg,t0⟩) l=.error e:=by simp [qw,hd,zx,zA,hC1,zI,emptyS,hS3,hS4]
    repeat' (first|refine zq 11 2 rfl rfl rfl ?_|refine zD ((yN u ⟨g,m,ar,⟨43,arg,t0⟩⟩ l3)) zi rfl rfl rfl tH ((zaM ⟨g,m,ar,⟨43,arg,t0⟩⟩ d _ (by omega)).bad hS4 u) ?_|refine zX 8 7 rfl (by kernel_rfl) (by kernel_rfl) (by kernel_rfl) (by kernel_rfl) (by kernel_rfl) ?_|refine zB rfl (zn (ps:=(yA g)) zf rfl rfl rfl rfl rfl) rfl rfl ?_|refine AD.step _ _ _ _ _ rfl (zn (ps:=(yA g)) zf rfl rfl rfl rfl rfl) rfl rfl ?_|(refine shC ?_;first|refine qC ca ?_|refine zB rfl (zG rfl rfl (zC (by first|rfl|assumption|simp [hC1]) 8)) rfl rfl ?_|refine AD.step _ _ _ _ _ rfl (zG rfl rfl (zC (by first|rfl|assumption|simp [hC1]) 8)) rfl rfl ?_|refine qC ck ?_|refine qC cA ?_)|(refine zu ?_;first|(refine zo 0 zi rfl rfl ((YE ⟨g,m,ar,⟨43,arg,t0⟩⟩ hF (XD g d) _ (by omega)).ok hS3) rfl rfl rfl rfl rfl ?_)|(refine zo 0 zi rfl rfl (cm.ok em) rfl rfl rfl rfl rfl ?_))|refine sK ?_|refine sC (fun _=>?_) (fun _=>?_)|fail)
    exact zy hw
   | ok p =>
    obtain ⟨⟨⟩,l4⟩:=p
    have hw:(qw g m ⟨43,arg,t0⟩) l=.ok ((),l4):=by simp [qw,hd,zx,zA,hC1,zI,emptyS,hS3,hS4]
    repeat' (first|refine zX 8 7 rfl (by kernel_rfl) (by kernel_rfl) (by kernel_rfl) (by kernel_rfl) (by kernel_rfl) ?_|refine zB rfl (zn (ps:=(yA g)) zf rfl rfl rfl rfl rfl) rfl rfl ?_|refine AD.step _ _ _ _ _ rfl (zn (ps:=(yA g)) zf rfl rfl rfl rfl rfl) rfl rfl ?_|(refine shC ?_;first|refine qC ca ?_|refine zB rfl (zG rfl rfl (zC (by first|rfl|assumption|simp [hC1]) 8)) rfl rfl ?_|refine AD.step _ _ _ _ _ rfl (zG rfl rfl (zC (by first|rfl|assumption|simp [hC1]) 8)) rfl rfl ?_|refine qC ck ?_|refine qC cA ?_)|(refine zu ?_;first|(refine zo 0 zi rfl rfl ((YE ⟨g,m,ar,⟨43,arg,t0⟩⟩ hF (XD g d) _ (by omega)).ok hS3) rfl rfl rfl rfl rfl ?_)|(refine zo 0 zi rfl rfl ((zaM ⟨g,m,ar,⟨43,arg,t0⟩⟩ d _ (by omega)).ok hS4) rfl rfl rfl rfl rfl ?_)|(refine zo 0 zi rfl rfl (cm.ok em) rfl rfl rfl rfl rfl ?_))|refine sK ?_|refine sC (fun _=>?_) (fun _=>?_)|fail)
    exact zV hw (yC (.inl rfl) tH)
 ·rw [hC1] at ca
  have hw:(qw g m ⟨43,arg,t0⟩) l=.error 8:=by simp [qw,hd,zx,zA,hC1,zI,emptyS]
  repeat' (first|refine zq 7 3 rfl rfl rfl ?_|refine zD ([]) zi rfl rfl rfl tH (zZ (by first|rfl|assumption|simp [hC1]) 8) ?_|refine zB rfl (zn (ps:=(yA g)) zf rfl rfl rfl rfl rfl) rfl rfl ?_|refine AD.step _ _ _ _ _ rfl (zn (ps:=(yA g)) zf rfl rfl rfl rfl rfl) rfl rfl ?_|(refine shC ?_;first|refine qC ca ?_|refine qC ck ?_|refine qC cA ?_)|(refine zu ?_;first|(refine zo 0 zi rfl rfl (cm.ok em) rfl rfl rfl rfl rfl ?_))|refine sK ?_|refine sC (fun _=>?_) (fun _=>?_)|fail)
  exact zy hw
theorem zqQ (g:Img) (hF:Fm g) (m:Me) (ar:List Ty) (arg:Int) (t0:Ty) (l:List Ty) (hl:l.length≤100) (h0:0≤arg) (h1:arg.toNat < g.methods.length) (hp:(mAt g arg).params.length≤100) (hof:0≤(mAt g arg).owner) (hot:(mAt g arg).owner.toNat < g.types.length):XC 85 [] (⟨g,m,ar,⟨44,arg,t0⟩⟩:RC) (qw g m ⟨44,arg,t0⟩) uV l:=by
 intro u;refine zF zf Tryz.func85 rfl (by kernel_rfl) Tryz.ntmps85 (by simp) _ rfl (fun gB hw1=>?_)
 have cm:XC 136 [] (⟨g,m,ar,⟨44,arg,t0⟩⟩:RC) (pure (mAt g arg):SM Me) (fun d=>.pv (yL d)) l:=zaD _ l h0 h1
 have em:(pure (mAt g arg):SM Me) l=.ok (mAt g arg,l):=rfl
 obtain ⟨d,hd⟩:∃ d,mAt g arg=d:=⟨_,rfl⟩
 rw [hd] at cm em hp hot hof
 have ca:=YL d 4
 have cb:=YL d 16
 have cc:=YL d 1
 have ck:=Qz g d.owner
 have cA:=zc6 g d (by omega)
 cases hC1:(qK d.flags 1)
 ·rw [hC1] at cc
  cases hC2:(qK d.flags 16)
  ·rw [hC2] at cb
   cases hC3:(Yt g d.owner != 1)
   ·skip
    have hw:(qw g m ⟨44,arg,t0⟩) l=.error 8:=by simp [qw,hd,zx,zA,hC1,hC2,hC3,zI,emptyS]
    repeat' (first|refine zq 9 12 rfl rfl rfl ?_|refine zD ([]) zi rfl rfl rfl tH (zZ (by first|rfl|assumption|simp [hC1,hC2,hC3]) 8) ?_|refine zB rfl (zn (ps:=(yA g)) zf rfl rfl rfl rfl rfl) rfl rfl ?_|refine AD.step _ _ _ _ _ rfl (zn (ps:=(yA g)) zf rfl rfl rfl rfl rfl) rfl rfl ?_|(refine shC ?_;first|refine qC cc ?_|refine qC cb ?_|refine qC ck ?_|refine qC cA ?_)|(refine zu ?_;first|(refine zo 0 zi rfl rfl (cm.ok em) rfl rfl rfl rfl rfl ?_))|refine sK ?_|refine sC (fun _=>?_) (fun _=>?_)|fail)
    exact zy hw
   ·skip
    cases hS5:(Zh g (XD g d)) l with
    | error e =>
     have hw:(qw g m ⟨44,arg,t0⟩) l=.error e:=by simp [qw,hd,zx,zA,hC1,hC2,hC3,zI,emptyS,hS5]
     repeat' (first|refine qy 10 8 7 rfl rfl (by kernel_rfl) (by kernel_rfl) (by kernel_rfl) (by kernel_rfl) (by kernel_rfl) ?_|refine zD ((yN u ⟨g,m,ar,⟨44,arg,t0⟩⟩ l)) zi rfl rfl rfl tH ((YE ⟨g,m,ar,⟨44,arg,t0⟩⟩ hF (XD g d) _ (by omega)).bad hS5 u) ?_|refine zB rfl (zn (ps:=(yA g)) zf rfl rfl rfl rfl rfl) rfl rfl ?_|refine AD.step _ _ _ _ _ rfl (zn (ps:=(yA g)) zf rfl rfl rfl rfl rfl) rfl rfl ?_|(refine shC ?_;first|refine qC cc ?_|refine qC cb ?_|refine zB rfl (zG rfl rfl (zC (by first|rfl|assumption|simp [hC1,hC2,hC3]) 8)) rfl rfl ?_|refine AD.step _ _ _ _ _ rfl (zG rfl rfl (zC (by first|rfl|assumption|simp [hC1,hC2,hC3]) 8)) rfl rfl ?_|refine qC ck ?_|refine qC cA ?_)|(refine zu ?_;first|(refine zo 0 zi rfl rfl (cm.ok em) rfl rfl rfl rfl rfl ?_))|refine sK ?_|refine sC (fun _=>?_) (fun _=>?_)|fail)
     exact zy hw
    | ok p =>
     obtain ⟨⟨⟩,l5⟩:=p
     have hl5:l5.length≤100:=by have:=Wu hS5;omega
     cases hS6:(ZY m.max d) l5 with
     | error e =>
      have hw:(qw g m ⟨44,arg,t0⟩) l=.error e:=by simp [qw,hd,zx,zA,hC1,hC2,hC3,zI,emptyS,hS5,hS6]
      repeat' (first|refine zq 11 2 rfl rfl rfl ?_|refine zD ((yN u ⟨g,m,ar,⟨44,arg,t0⟩⟩ l5)) zi rfl rfl rfl tH ((zaM ⟨g,m,ar,⟨44,arg,t0⟩⟩ d _ (by omega)).bad hS6 u) ?_|refine zX 8 7 rfl (by kernel_rfl) (by kernel_rfl) (by kernel_rfl) (by kernel_rfl) (by kernel_rfl) ?_|refine zB rfl (zn (ps:=(yA g)) zf rfl rfl rfl rfl rfl) rfl rfl ?_|refine AD.step _ _ _ _ _ rfl (zn (ps:=(yA g)) zf rfl rfl rfl rfl rfl) rfl rfl ?_|(refine shC ?_;first|refine qC cc ?_|refine qC cb ?_|refine zB rfl (zG rfl rfl (zC (by first|rfl|assumption|simp [hC1,hC2,hC3]) 8)) rfl rfl ?_|refine AD.step _ _ _ _ _ rfl (zG rfl rfl (zC (by first|rfl|assumption|simp [hC1,hC2,hC3]) 8)) rfl rfl ?_|refine qC ck ?_|refine qC cA ?_)|(refine zu ?_;first|(refine zo 0 zi rfl rfl ((YE ⟨g,m,ar,⟨44,arg,t0⟩⟩ hF (XD g d) _ (by omega)).ok hS5) rfl rfl rfl rfl rfl ?_)|(refine zo 0 zi rfl rfl (cm.ok em) rfl rfl rfl rfl rfl ?_))|refine sK ?_|refine sC (fun _=>?_) (fun _=>?_)|fail)
      exact zy hw
     | ok p =>
      obtain ⟨⟨⟩,l6⟩:=p
      have hw:(qw g m ⟨44,arg,t0⟩) l=.ok ((),l6):=by simp [qw,hd,zx,zA,hC1,hC2,hC3,zI,emptyS,hS5,hS6]
      repeat' (first|refine zX 8 7 rfl (by kernel_rfl) (by kernel_rfl) (by kernel_rfl) (by kernel_rfl) (by kernel_rfl) ?_|refine zB rfl (zn (ps:=(yA g)) zf rfl rfl rfl rfl rfl) rfl rfl ?_|refine AD.step _ _ _ _ _ rfl (zn (ps:=(yA g)) zf rfl rfl rfl rfl rfl) rfl rfl ?_|(refine shC ?_;first|refine qC cc ?_|refine qC cb ?_|refine zB rfl (zG rfl rfl (zC (by first|rfl|assumption|simp [hC1,hC2,hC3]) 8)) rfl rfl ?_|refine AD.step _ _ _ _ _ rfl (zG rfl rfl (zC (by first|rfl|assumption|simp [hC1,hC2,hC3]) 8)) rfl rfl ?_|refine qC ck ?_|refine qC cA ?_)|(refine zu ?_;first|(refine zo 0 zi rfl rfl ((YE ⟨g,m,ar,⟨44,arg,t0⟩⟩ hF (XD g d) _ (by omega)).ok hS5) rfl rfl rfl rfl rfl ?_)|(refine zo 0 zi rfl rfl ((zaM ⟨g,m,ar,⟨44,arg,t0⟩⟩ d _ (by omega)).ok hS6) rfl rfl rfl rfl rfl ?_)|(refine zo 0 zi rfl rfl (cm.ok em) rfl rfl rfl rfl rfl ?_))|refine sK ?_|refine sC (fun _=>?_) (fun _=>?_)|fail)
      exact zV hw (yC (.inl rfl) tH)
  ·rw [hC2] at cb
   have hw:(qw g m ⟨44,arg,t0⟩) l=.error 8:=by simp [qw,hd,zx,zA,hC1,hC2,zI,emptyS]
   repeat' (first|refine zq 9 12 rfl rfl rfl ?_|refine zD ([]) zi rfl rfl rfl tH (zZ (by first|rfl|assumption|simp [hC1,hC2]) 8) ?_|refine zB rfl (zn (ps:=(yA g)) zf rfl rfl rfl rfl rfl) rfl rfl ?_|refine AD.step _ _ _ _ _ rfl (zn (ps:=(yA g)) zf rfl rfl rfl rfl rfl) rfl rfl ?_|(refine shC ?_;first|refine qC cc ?_|refine qC cb ?_|refine qC ck ?_|refine qC cA ?_)|(refine zu ?_;first|(refine zo 0 zi rfl rfl (cm.ok em) rfl rfl rfl rfl rfl ?_))|refine sK ?_|refine sC (fun _=>?_) (fun _=>?_)|fail)
   exact zy hw
 ·rw [hC1] at cc
  have hw:(qw g m ⟨44,arg,t0⟩) l=.error 8:=by simp [qw,hd,zx,zA,hC1,zI,emptyS]
  repeat' (first|refine zq 9 12 rfl rfl rfl ?_|refine zD ([]) zi rfl rfl rfl tH (zZ (by first|rfl|assumption|simp [hC1]) 8) ?_|refine zB rfl (zn (ps:=(yA g)) zf rfl rfl rfl rfl rfl) rfl rfl ?_|refine AD.step _ _ _ _ _ rfl (zn (ps:=(yA g)) zf rfl rfl rfl rfl rfl) rfl rfl ?_|(refine shC ?_;first|refine qC cc ?_|refine qC ck ?_|refine qC cA ?_)|(refine zu ?_;first|(refine zo 0 zi rfl rfl (cm.ok em) rfl rfl rfl rfl rfl ?_))|refine sK ?_|refine sC (fun _=>?_) (fun _=>?_)|fail)
  exact zy hw
theorem zq2 (g:Img) (hF:Fm g) (m:Me) (ar:List Ty) (arg:Int) (t0:Ty) (l:List Ty) (hl:l.length≤100) (h0:0≤arg) (h1:arg.toNat < g.methods.length) (hp:(mAt g arg).params.length≤100) (hof:0≤(mAt g arg).owner) (hot:(mAt g arg).owner.toNat < g.types.length):XC 85 [] (⟨g,m,ar,⟨45,arg,t0⟩⟩:RC) (qw g m ⟨45,arg,t0⟩) uV l:=by
 intro u;refine zF zf Tryz.func85 rfl (by kernel_rfl) Tryz.ntmps85 (by simp) _ rfl (fun gB hw1=>?_)
 have cm:XC 136 [] (⟨g,m,ar,⟨45,arg,t0⟩⟩:RC) (pure (mAt g arg):SM Me) (fun d=>.pv (yL d)) l:=zaD _ l h0 h1
 have em:(pure (mAt g arg):SM Me) l=.ok (mAt g arg,l):=rfl
 obtain ⟨d,hd⟩:∃ d,mAt g arg=d:=⟨_,rfl⟩
 rw [hd] at cm em hp hot hof
 have ca:=YL d 4
 have cb:=YL d 16
 have cc:=YL d 1
 have ck:=Qz g d.owner
 have cA:=zc6 g d (by omega)
 cases hC1:(qK d.flags 16)
 ·rw [hC1] at cb
  have hw:(qw g m ⟨45,arg,t0⟩) l=.error 8:=by simp [qw,hd,zx,zA,hC1,zI,emptyS]
  repeat' (first|refine Zo 17 16 rfl (by kernel_rfl) (by kernel_rfl) (by kernel_rfl) (by kernel_rfl) (by kernel_rfl) ?_|refine zD ([]) zi rfl rfl rfl tH (zZ (by first|rfl|assumption|simp [hC1]) 8) ?_|refine zB rfl (zn (ps:=(yA g)) zf rfl rfl rfl rfl rfl) rfl rfl ?_|refine AD.step _ _ _ _ _ rfl (zn (ps:=(yA g)) zf rfl rfl rfl rfl rfl) rfl rfl ?_|(refine shC ?_;first|refine qC cb ?_|refine qC ck ?_|refine qC cA ?_)|(refine zu ?_;first|(refine zo 0 zi rfl rfl (cm.ok em) rfl rfl rfl rfl rfl ?_))|refine sK ?_|refine sC (fun _=>?_) (fun _=>?_)|fail)
  exact zy hw
 ·rw [hC1] at cb
  have hte:(g.types.map ZA)[d.owner.toNat]?=some (ZA (tAt g d.owner)):=by rw [tAt,zL hot];exact yu hot
  cases hC4:(qK (tAt g d.owner).flags 4)
  ·skip
   have hC':(IntKind.i64.wrap ((BitVec.ofInt IntKind.i64.bits (tAt g d.owner).flags &&& BitVec.ofInt IntKind.i64.bits 4).toNat:Int)==0)=!false:=by rw [←hC4,qK,bne,Bool.not_not]
   cases hS7:(Zh g d.params) l with
   | error e =>
    have hw:(qw g m ⟨45,arg,t0⟩) l=.error e:=by simp [qw,hd,zx,zA,hC1,hC4,zI,emptyS,hS7]
    repeat' (first|refine zq 4 3 rfl rfl rfl ?_|refine zD ((yN u ⟨g,m,ar,⟨45,arg,t0⟩⟩ l)) zi rfl rfl rfl tH ((YE ⟨g,m,ar,⟨45,arg,t0⟩⟩ hF d.params _ (by omega)).bad hS7 u) ?_|refine zX 17 16 rfl (by kernel_rfl) (by kernel_rfl) (by kernel_rfl) (by kernel_rfl) (by kernel_rfl) ?_|refine zB rfl (zn (ps:=(yA g)) zf rfl rfl rfl rfl rfl) rfl rfl ?_|refine AD.step _ _ _ _ _ rfl (zn (ps:=(yA g)) zf rfl rfl rfl rfl rfl) rfl rfl ?_|(refine shC ?_;first|refine qC cb ?_|refine zB rfl (zG rfl rfl (zC (by first|rfl|assumption|simp [hC1,hC4]) 8)) rfl rfl ?_|refine AD.step _ _ _ _ _ rfl (zG rfl rfl (zC (by first|rfl|assumption|simp [hC1,hC4]) 8)) rfl rfl ?_|refine qC ck ?_|refine qC cA ?_)|(refine shX ?_;first|refine zB rfl (zl zf rfl rfl rfl rfl rfl rfl hof hte) rfl rfl ?_|refine AD.step _ _ _ _ _ rfl (zl zf rfl rfl rfl rfl rfl rfl hof hte) rfl rfl ?_)|(refine zu ?_;first|(refine zo 0 zi rfl rfl (cm.ok em) rfl rfl rfl rfl rfl ?_))|refine sK ?_|refine sC (fun _=>?_) (fun _=>?_)|fail)
    exact zy hw
   | ok p =>
    obtain ⟨⟨⟩,l7⟩:=p
    have hl7:l7.length≤100:=by have:=Wu hS7;omega
    cases hS8:(yR m.max [⟨5,d.owner,0,false⟩]) l7 with
    | error e =>
     have hw:(qw g m ⟨45,arg,t0⟩) l=.error e:=by simp [qw,hd,zx,zA,hC1,hC4,zI,emptyS,hS7,hS8]
     repeat' (first|refine zq 5 5 rfl rfl rfl ?_|refine zD ((yN u ⟨g,m,ar,⟨45,arg,t0⟩⟩ l7)) zi rfl rfl rfl tH ((zS ⟨g,m,ar,⟨45,arg,t0⟩⟩ [⟨5,d.owner,0,false⟩] _ (by omega) (by simp)).bad hS8 u) ?_|refine zX 17 16 rfl (by kernel_rfl) (by kernel_rfl) (by kernel_rfl) (by kernel_rfl) (by kernel_rfl) ?_|refine zB rfl (zn (ps:=(yA g)) zf rfl rfl rfl rfl rfl) rfl rfl ?_|refine AD.step _ _ _ _ _ rfl (zn (ps:=(yA g)) zf rfl rfl rfl rfl rfl) rfl rfl ?_|(refine shC ?_;first|refine qC cb ?_|refine zB rfl (zG rfl rfl (zC (by first|rfl|assumption|simp [hC1,hC4]) 8)) rfl rfl ?_|refine AD.step _ _ _ _ _ rfl (zG rfl rfl (zC (by first|rfl|assumption|simp [hC1,hC4]) 8)) rfl rfl ?_|refine qC ck ?_|refine qC cA ?_)|(refine shX ?_;first|refine zB rfl (zl zf rfl rfl rfl rfl rfl rfl hof hte) rfl rfl ?_|refine AD.step _ _ _ _ _ rfl (zl zf rfl rfl rfl rfl rfl rfl hof hte) rfl rfl ?_)|(refine zu ?_;first|(refine zo 0 zi rfl rfl ((YE ⟨g,m,ar,⟨45,arg,t0⟩⟩ hF d.params _ (by omega)).ok hS7) rfl rfl rfl rfl rfl ?_)|(refine zo 0 zi rfl rfl (cm.ok em) rfl rfl rfl rfl rfl ?_))|refine sK ?_|refine sC (fun _=>?_) (fun _=>?_)|fail)
     exact zy hw
    | ok p =>
     obtain ⟨⟨⟩,l8⟩:=p
     have hw:(qw g m ⟨45,arg,t0⟩) l=.ok ((),l8):=by simp [qw,hd,zx,zA,hC1,hC4,zI,emptyS,hS7,hS8]
     repeat' (first|refine zX 17 16 rfl (by kernel_rfl) (by kernel_rfl) (by kernel_rfl) (by kernel_rfl) (by kernel_rfl) ?_|refine zB rfl (zn (ps:=(yA g)) zf rfl rfl rfl rfl rfl) rfl rfl ?_|refine AD.step _ _ _ _ _ rfl (zn (ps:=(yA g)) zf rfl rfl rfl rfl rfl) rfl rfl ?_|(refine shC ?_;first|refine qC cb ?_|refine zB rfl (zG rfl rfl (zC (by first|rfl|assumption|simp [hC1,hC4]) 8)) rfl rfl ?_|refine AD.step _ _ _ _ _ rfl (zG rfl rfl (zC (by first|rfl|assumption|simp [hC1,hC4]) 8)) rfl rfl ?_|refine qC ck ?_|refine qC cA ?_)|(refine shX ?_;first|refine zB rfl (zl zf rfl rfl rfl rfl rfl rfl hof hte) rfl rfl ?_|refine AD.step _ _ _ _ _ rfl (zl zf rfl rfl rfl rfl rfl rfl hof hte) rfl rfl ?_)|(refine zu ?_;first|(refine zo 0 zi rfl rfl ((YE ⟨g,m,ar,⟨45,arg,t0⟩⟩ hF d.params _ (by omega)).ok hS7) rfl rfl rfl rfl rfl ?_)|(refine zo 0 zi rfl rfl ((zS ⟨g,m,ar,⟨45,arg,t0⟩⟩ [⟨5,d.owner,0,false⟩] _ (by omega) (by simp)).ok hS8) rfl rfl rfl rfl rfl ?_)|(refine zo 0 zi rfl rfl (cm.ok em) rfl rfl rfl rfl rfl ?_))|refine sK ?_|refine sC (fun _=>?_) (fun _=>?_)|fail)
     exact zV hw (yC (.inr rfl) tH)
  ·skip
   have hC':(IntKind.i64.wrap ((BitVec.ofInt IntKind.i64.bits (tAt g d.owner).flags &&& BitVec.ofInt IntKind.i64.bits 4).toNat:Int)==0)=!true:=by rw [←hC4,qK,bne,Bool.not_not]
   have hw:(qw g m ⟨45,arg,t0⟩) l=.error 8:=by simp [qw,hd,zx,zA,hC1,hC4,zI,emptyS]
   repeat' (first|refine Zo 17 16 rfl (by kernel_rfl) (by kernel_rfl) (by kernel_rfl) (by kernel_rfl) (by kernel_rfl) ?_|refine zD ([]) zi rfl rfl rfl tH (zZ (by first|rfl|assumption|simp [hC1,hC4]) 8) ?_|refine zB rfl (zn (ps:=(yA g)) zf rfl rfl rfl rfl rfl) rfl rfl ?_|refine AD.step _ _ _ _ _ rfl (zn (ps:=(yA g)) zf rfl rfl rfl rfl rfl) rfl rfl ?_|(refine shC ?_;first|refine qC cb ?_|refine qC ck ?_|refine qC cA ?_)|(refine shX ?_;first|refine zB rfl (zl zf rfl rfl rfl rfl rfl rfl hof hte) rfl rfl ?_|refine AD.step _ _ _ _ _ rfl (zl zf rfl rfl rfl rfl rfl rfl hof hte) rfl rfl ?_)|(refine zu ?_;first|(refine zo 0 zi rfl rfl (cm.ok em) rfl rfl rfl rfl rfl ?_))|refine sK ?_|refine sC (fun _=>?_) (fun _=>?_)|fail)
   exact zy hw
set_option maxHeartbeats 20000000
theorem zpf (g:Img) (hF:Fm g) (m:Me) (ar:List Ty) (arg:Int) (t0:Ty) (l:List Ty) (hl:l.length≤100):XC 87 [] (⟨g,m,ar,⟨55,arg,t0⟩⟩:RC) (qI g m ⟨55,arg,t0⟩) uV l:=by
 intro u;refine zF zf Tryz.func87 rfl (by kernel_rfl) Tryz.ntmps87 (by simp) _ rfl (fun gB hw1=>?_)
 have cr:=ZR t0
 cases hS1:(Zh g [rfT t0,t0]) l with
 | error e =>
  have hw:(qI g m ⟨55,arg,t0⟩) l=.error e:=by simp [qI,zx,zA,hS1]
  repeat' (first|refine Zo 6 5 rfl (by kernel_rfl) (by kernel_rfl) (by kernel_rfl) (by kernel_rfl) (by kernel_rfl) ?_|refine zD ((yN u ⟨g,m,ar,⟨55,arg,t0⟩⟩ l)) zi rfl rfl rfl tH ((Yb ⟨g,m,ar,⟨55,arg,t0⟩⟩ hF [rfT t0,t0] _ (by omega)).bad hS1 u) ?_|refine zB rfl (zn (ps:=(yO t0)) zf rfl rfl rfl rfl rfl) rfl rfl ?_|refine AD.step _ _ _ _ _ rfl (zn (ps:=(yO t0)) zf rfl rfl rfl rfl rfl) rfl rfl ?_|(refine shC ?_;first|refine qC cr ?_)|refine sK ?_|refine sC (fun _=>?_) (fun _=>?_)|fail)
  exact zy hw
 | ok p =>
  obtain ⟨⟨⟩,l1⟩:=p
  have hl1:l1.length≤100:=by have:=Wu hS1;omega
  have hw:(qI g m ⟨55,arg,t0⟩) l=.ok ((),l1):=by simp [qI,zx,zA,hS1]
  repeat' (first|refine zX 6 5 rfl (by kernel_rfl) (by kernel_rfl) (by kernel_rfl) (by kernel_rfl) (by kernel_rfl) ?_|refine zB rfl (zn (ps:=(yO t0)) zf rfl rfl rfl rfl rfl) rfl rfl ?_|refine AD.step _ _ _ _ _ rfl (zn (ps:=(yO t0)) zf rfl rfl rfl rfl rfl) rfl rfl ?_|(refine shC ?_;first|refine qC cr ?_)|(refine zu ?_;first|(refine zo 0 zi rfl rfl ((Yb ⟨g,m,ar,⟨55,arg,t0⟩⟩ hF [rfT t0,t0] _ (by omega)).ok hS1) rfl rfl rfl rfl rfl ?_))|refine sK ?_|refine sC (fun _=>?_) (fun _=>?_)|fail)
  exact zV hw (yC (.inr rfl) tH)
theorem zo1 (g:Img) (hF:Fm g) (m:Me) (ar:List Ty) (arg:Int) (t0:Ty) (l:List Ty) (hl:l.length≤100) (h0:0≤t0.dims) (h1:t0.dims≤100):XC 88 [] (⟨g,m,ar,⟨57,arg,t0⟩⟩:RC) (yB g m ⟨57,arg,t0⟩) uV l:=by
 intro u;refine zF zf Tryz.func88 rfl (by kernel_rfl) Tryz.ntmps88 (by simp) _ rfl (fun gB hw1=>?_)
 cases hS1:(QO ⟨57,arg,t0⟩) l with
 | error e =>
  have hw:(yB g m ⟨57,arg,t0⟩) l=.error e:=by simp [yB,zx,zA,hS1]
  repeat' (first|refine zq 4 1 rfl rfl rfl ?_|refine zD ((yN u ⟨g,m,ar,⟨57,arg,t0⟩⟩ l)) zi rfl rfl rfl tH ((Zi ⟨g,m,ar,⟨57,arg,t0⟩⟩ _ h0 h1).bad hS1 u) ?_|refine zB rfl (zn (ps:=(yO t0)) zf rfl rfl rfl rfl rfl) rfl rfl ?_|refine AD.step _ _ _ _ _ rfl (zn (ps:=(yO t0)) zf rfl rfl rfl rfl rfl) rfl rfl ?_|(refine shC ?_;first|refine qC (zM 2) ?_)|refine sK ?_|refine sC (fun _=>?_) (fun _=>?_)|fail)
  exact zy hw
 | ok p =>
  obtain ⟨a,l1⟩:=p
  have hl1:l1.length≤100:=by have:=zbi hS1;omega
  cases hS2:(Yo g (kTy 2)) l1 with
  | error e =>
   have hw:(yB g m ⟨57,arg,t0⟩) l=.error e:=by simp [yB,zx,zA,hS1,hS2]
   repeat' (first|refine zq 11 2 rfl rfl rfl ?_|refine zD ((yN u ⟨g,m,ar,⟨57,arg,t0⟩⟩ l1)) zi rfl rfl rfl tH ((qj ⟨g,m,ar,⟨57,arg,t0⟩⟩ hF (kTy 2) _ (by omega)).bad hS2 u) ?_|refine zB rfl (zn (ps:=(yO t0)) zf rfl rfl rfl rfl rfl) rfl rfl ?_|refine AD.step _ _ _ _ _ rfl (zn (ps:=(yO t0)) zf rfl rfl rfl rfl rfl) rfl rfl ?_|(refine shC ?_;first|refine qC (zM 2) ?_)|(refine zu ?_;first|(refine zo 0 zi rfl rfl ((Zi ⟨g,m,ar,⟨57,arg,t0⟩⟩ _ h0 h1).ok hS1) rfl rfl rfl rfl rfl ?_))|refine sK ?_|refine sC (fun _=>?_) (fun _=>?_)|fail)
   exact zy hw
  | ok p =>
   obtain ⟨⟨⟩,l2⟩:=p
   have hl2:l2.length≤100:=by have:=WO hS2;omega
   cases hS3:(yR m.max [a]) l2 with
   | error e =>
    have hw:(yB g m ⟨57,arg,t0⟩) l=.error e:=by simp [yB,zx,zA,hS1,hS2,hS3]
    repeat' (first|refine zq 12 3 rfl rfl rfl ?_|refine zD ((yN u ⟨g,m,ar,⟨57,arg,t0⟩⟩ l2)) zi rfl rfl rfl tH ((zS ⟨g,m,ar,⟨57,arg,t0⟩⟩ [a] _ (by omega) (by simp)).bad hS3 u) ?_|refine zB rfl (zn (ps:=(yO t0)) zf rfl rfl rfl rfl rfl) rfl rfl ?_|refine AD.step _ _ _ _ _ rfl (zn (ps:=(yO t0)) zf rfl rfl rfl rfl rfl) rfl rfl ?_|(refine shC ?_;first|refine qC (zM 2) ?_)|(refine zu ?_;first|(refine zo 0 zi rfl rfl ((Zi ⟨g,m,ar,⟨57,arg,t0⟩⟩ _ h0 h1).ok hS1) rfl rfl rfl rfl rfl ?_)|(refine zo 0 zi rfl rfl ((qj ⟨g,m,ar,⟨57,arg,t0⟩⟩ hF (kTy 2) _ (by omega)).ok hS2) rfl rfl rfl rfl rfl ?_))|refine sK ?_|refine sC (fun _=>?_) (fun _=>?_)|fail)
    exact zy hw
   | ok p =>
    obtain ⟨⟨⟩,l3⟩:=p
    have hw:(yB g m ⟨57,arg,t0⟩) l=.ok ((),l3):=by simp [yB,zx,zA,hS1,hS2,hS3]
    repeat' (first|refine zB rfl (zn (ps:=(yO t0)) zf rfl rfl rfl rfl rfl) rfl rfl ?_|refine AD.step _ _ _ _ _ rfl (zn (ps:=(yO t0)) zf rfl rfl rfl rfl rfl) rfl rfl ?_|(refine shC ?_;first|refine qC (zM 2) ?_)|(refine zu ?_;first|(refine zo 0 zi rfl rfl ((Zi ⟨g,m,ar,⟨57,arg,t0⟩⟩ _ h0 h1).ok hS1) rfl rfl rfl rfl rfl ?_)|(refine zo 0 zi rfl rfl ((qj ⟨g,m,ar,⟨57,arg,t0⟩⟩ hF (kTy 2) _ (by omega)).ok hS2) rfl rfl rfl rfl rfl ?_)|(refine zo 0 zi rfl rfl ((zS ⟨g,m,ar,⟨57,arg,t0⟩⟩ [a] _ (by omega) (by simp)).ok hS3) rfl rfl rfl rfl rfl ?_))|refine sK ?_|refine sC (fun _=>?_) (fun _=>?_)|fail)
    exact zV hw (yC (.inl rfl) tH)
theorem zpz (g:Img) (hF:Fm g) (m:Me) (ar:List Ty) (arg:Int) (t0:Ty) (l:List Ty) (hl:l.length≤100):XC 88 [] (⟨g,m,ar,⟨58,arg,t0⟩⟩:RC) (yB g m ⟨58,arg,t0⟩) uV l:=by
 intro u;refine zF zf Tryz.func88 rfl (by kernel_rfl) Tryz.ntmps88 (by simp) _ rfl (fun gB hw1=>?_)
 cases hS1:(Yk) l with
 | error e =>
  have hw:(yB g m ⟨58,arg,t0⟩) l=.error e:=by simp [yB,zx,zA,hS1]
  repeat' (first|refine zq 1 1 rfl rfl rfl ?_|refine zD ((yN u ⟨g,m,ar,⟨58,arg,t0⟩⟩ l)) zi rfl rfl rfl tH ((yj ⟨g,m,ar,⟨58,arg,t0⟩⟩ _ (by omega)).bad hS1 u) ?_|(refine shC ?_;first|refine qC (zM 2) ?_)|refine sK ?_|refine sC (fun _=>?_) (fun _=>?_)|fail)
  exact zy hw
 | ok p =>
  obtain ⟨t,l1⟩:=p
  have hl1:l1.length≤100:=by have:=Xb hS1;omega
  have cx:=Za t
  cases hC3:(object t)
  ·rw [hC3] at cx
   have hw:(yB g m ⟨58,arg,t0⟩) l=.error 10:=by simp [yB,zx,zA,hS1,hC3,zI,emptyS]
   repeat' (first|refine zq 2 12 rfl rfl rfl ?_|refine zD ([]) zi rfl rfl rfl tH (zZ (by first|rfl|assumption|simp [hC3]) 10) ?_|(refine shC ?_;first|refine qC cx ?_|refine qC (zM 2) ?_)|(refine zu ?_;first|(refine zo 0 zi rfl rfl ((yj ⟨g,m,ar,⟨58,arg,t0⟩⟩ _ (by omega)).ok hS1) rfl rfl rfl rfl rfl ?_))|refine sK ?_|refine sC (fun _=>?_) (fun _=>?_)|fail)
   exact zy hw
  ·rw [hC3] at cx
   cases hC4:(decide (0 < t.dims))
   ·skip
    cases hC5:(t.kind==8)
    ·skip
     have hw:(yB g m ⟨58,arg,t0⟩) l=.error 10:=by simp [yB,zx,zA,hS1,hC3,hC4,hC5,zI,emptyS]
     repeat' (first|refine zq 2 12 rfl rfl rfl ?_|refine zD ([]) zi rfl rfl rfl tH (zZ (by first|rfl|assumption|simp [hC3,hC4,hC5]) 10) ?_|(refine shC ?_;first|refine qC cx ?_|refine qC (zM 2) ?_)|(refine zu ?_;first|(refine zo 0 zi rfl rfl ((yj ⟨g,m,ar,⟨58,arg,t0⟩⟩ _ (by omega)).ok hS1) rfl rfl rfl rfl rfl ?_))|refine sK ?_|refine sC (fun _=>?_) (fun _=>?_)|fail)
     exact zy hw
    ·skip
     cases hS7:(yR m.max [kTy 2]) l1 with
     | error e =>
      have hw:(yB g m ⟨58,arg,t0⟩) l=.error e:=by simp [yB,zx,zA,hS1,hC3,hC4,hC5,zI,emptyS,hS7]
      repeat' (first|refine zq 3 3 rfl rfl rfl ?_|refine zD ((yN u ⟨g,m,ar,⟨58,arg,t0⟩⟩ l1)) zi rfl rfl rfl tH ((zS ⟨g,m,ar,⟨58,arg,t0⟩⟩ [kTy 2] _ (by omega) (by simp)).bad hS7 u) ?_|(refine shC ?_;first|refine qC cx ?_|refine zB rfl (zG rfl rfl (zC (by first|rfl|assumption|simp [hC3,hC4,hC5]) 10)) rfl rfl ?_|refine AD.step _ _ _ _ _ rfl (zG rfl rfl (zC (by first|rfl|assumption|simp [hC3,hC4,hC5]) 10)) rfl rfl ?_|refine qC (zM 2) ?_)|(refine zu ?_;first|(refine zo 0 zi rfl rfl ((yj ⟨g,m,ar,⟨58,arg,t0⟩⟩ _ (by omega)).ok hS1) rfl rfl rfl rfl rfl ?_))|refine sK ?_|refine sC (fun _=>?_) (fun _=>?_)|fail)
      exact zy hw
     | ok p =>
      obtain ⟨⟨⟩,l7⟩:=p
      have hw:(yB g m ⟨58,arg,t0⟩) l=.ok ((),l7):=by simp [yB,zx,zA,hS1,hC3,hC4,hC5,zI,emptyS,hS7]
      repeat' (first|(refine shC ?_;first|refine qC cx ?_|refine zB rfl (zG rfl rfl (zC (by first|rfl|assumption|simp [hC3,hC4,hC5]) 10)) rfl rfl ?_|refine AD.step _ _ _ _ _ rfl (zG rfl rfl (zC (by first|rfl|assumption|simp [hC3,hC4,hC5]) 10)) rfl rfl ?_|refine qC (zM 2) ?_)|(refine zu ?_;first|(refine zo 0 zi rfl rfl ((yj ⟨g,m,ar,⟨58,arg,t0⟩⟩ _ (by omega)).ok hS1) rfl rfl rfl rfl rfl ?_)|(refine zo 0 zi rfl rfl ((zS ⟨g,m,ar,⟨58,arg,t0⟩⟩ [kTy 2] _ (by omega) (by simp)).ok hS7) rfl rfl rfl rfl rfl ?_))|refine sK ?_|refine sC (fun _=>?_) (fun _=>?_)|fail)
      exact zV hw (yC (.inr rfl) tH)
   ·skip
    cases hS6:(yR m.max [kTy 2]) l1 with
    | error e =>
     have hw:(yB g m ⟨58,arg,t0⟩) l=.error e:=by simp [yB,zx,zA,hS1,hC3,hC4,zI,emptyS,hS6]
     repeat' (first|refine zq 3 3 rfl rfl rfl ?_|refine zD ((yN u ⟨g,m,ar,⟨58,arg,t0⟩⟩ l1)) zi rfl rfl rfl tH ((zS ⟨g,m,ar,⟨58,arg,t0⟩⟩ [kTy 2] _ (by omega) (by simp)).bad hS6 u) ?_|(refine shC ?_;first|refine qC cx ?_|refine zB rfl (zG rfl rfl (zC (by first|rfl|assumption|simp [hC3,hC4]) 10)) rfl rfl ?_|refine AD.step _ _ _ _ _ rfl (zG rfl rfl (zC (by first|rfl|assumption|simp [hC3,hC4]) 10)) rfl rfl ?_|refine qC (zM 2) ?_)|(refine zu ?_;first|(refine zo 0 zi rfl rfl ((yj ⟨g,m,ar,⟨58,arg,t0⟩⟩ _ (by omega)).ok hS1) rfl rfl rfl rfl rfl ?_))|refine sK ?_|refine sC (fun _=>?_) (fun _=>?_)|fail)
     exact zy hw
    | ok p =>
     obtain ⟨⟨⟩,l6⟩:=p
     have hw:(yB g m ⟨58,arg,t0⟩) l=.ok ((),l6):=by simp [yB,zx,zA,hS1,hC3,hC4,zI,emptyS,hS6]
     repeat' (first|(refine shC ?_;first|refine qC cx ?_|refine zB rfl (zG rfl rfl (zC (by first|rfl|assumption|simp [hC3,hC4]) 10)) rfl rfl ?_|refine AD.step _ _ _ _ _ rfl (zG rfl rfl (zC (by first|rfl|assumption|simp [hC3,hC4]) 10)) rfl rfl ?_|refine qC (zM 2) ?_)|(refine zu ?_;first|(refine zo 0 zi rfl rfl ((yj ⟨g,m,ar,⟨58,arg,t0⟩⟩ _ (by omega)).ok hS1) rfl rfl rfl rfl rfl ?_)|(refine zo 0 zi rfl rfl ((zS ⟨g,m,ar,⟨58,arg,t0⟩⟩ [kTy 2] _ (by omega) (by simp)).ok hS6) rfl rfl rfl rfl rfl ?_))|refine sK ?_|refine sC (fun _=>?_) (fun _=>?_)|fail)
     exact zV hw (yC (.inr rfl) tH)
theorem zpM (g:Img) (hF:Fm g) (m:Me) (ar:List Ty) (arg:Int) (t0:Ty) (l:List Ty) (hl:l.length≤100) (h0:0≤t0.dims) (h1:t0.dims≤100):XC 88 [] (⟨g,m,ar,⟨59,arg,t0⟩⟩:RC) (yB g m ⟨59,arg,t0⟩) uV l:=by
 intro u;refine zF zf Tryz.func88 rfl (by kernel_rfl) Tryz.ntmps88 (by simp) _ rfl (fun gB hw1=>?_)
 cases hS1:(QO ⟨59,arg,t0⟩) l with
 | error e =>
  have hw:(yB g m ⟨59,arg,t0⟩) l=.error e:=by simp [yB,zx,zA,hS1]
  repeat' (first|refine zq 4 1 rfl rfl rfl ?_|refine zD ((yN u ⟨g,m,ar,⟨59,arg,t0⟩⟩ l)) zi rfl rfl rfl tH ((Zi ⟨g,m,ar,⟨59,arg,t0⟩⟩ _ h0 h1).bad hS1 u) ?_|refine zB rfl (zn (ps:=(yO t0)) zf rfl rfl rfl rfl rfl) rfl rfl ?_|refine AD.step _ _ _ _ _ rfl (zn (ps:=(yO t0)) zf rfl rfl rfl rfl rfl) rfl rfl ?_|(refine shC ?_;first|refine qC (zM 2) ?_)|refine sK ?_|refine sC (fun _=>?_) (fun _=>?_)|fail)
  exact zy hw
 | ok p =>
  obtain ⟨a,l1⟩:=p
  have hl1:l1.length≤100:=by have:=zbi hS1;omega
  cases hS2:(Zh g [a,kTy 2]) l1 with
  | error e =>
   have hw:(yB g m ⟨59,arg,t0⟩) l=.error e:=by simp [yB,zx,zA,hS1,hS2]
   repeat' (first|refine Zo 5 4 rfl (by kernel_rfl) (by kernel_rfl) (by kernel_rfl) (by kernel_rfl) (by kernel_rfl) ?_|refine zD ((yN u ⟨g,m,ar,⟨59,arg,t0⟩⟩ l1)) zi rfl rfl rfl tH ((Yb ⟨g,m,ar,⟨59,arg,t0⟩⟩ hF [a,kTy 2] _ (by omega)).bad hS2 u) ?_|refine zB rfl (zn (ps:=(yO t0)) zf rfl rfl rfl rfl rfl) rfl rfl ?_|refine AD.step _ _ _ _ _ rfl (zn (ps:=(yO t0)) zf rfl rfl rfl rfl rfl) rfl rfl ?_|(refine shC ?_;first|refine qC (zM 2) ?_)|(refine zu ?_;first|(refine zo 0 zi rfl rfl ((Zi ⟨g,m,ar,⟨59,arg,t0⟩⟩ _ h0 h1).ok hS1) rfl rfl rfl rfl rfl ?_))|refine sK ?_|refine sC (fun _=>?_) (fun _=>?_)|fail)
   exact zy hw
  | ok p =>
   obtain ⟨⟨⟩,l2⟩:=p
   have hl2:l2.length≤100:=by have:=Wu hS2;omega
   cases hS3:(yR m.max [t0]) l2 with
   | error e =>
    have hw:(yB g m ⟨59,arg,t0⟩) l=.error e:=by simp [yB,zx,zA,hS1,hS2,hS3]
    repeat' (first|refine zq 8 7 rfl rfl rfl ?_|refine zD ((yN u ⟨g,m,ar,⟨59,arg,t0⟩⟩ l2)) zi rfl rfl rfl tH ((zS ⟨g,m,ar,⟨59,arg,t0⟩⟩ [t0] _ (by omega) (by simp)).bad hS3 u) ?_|refine zX 5 4 rfl (by kernel_rfl) (by kernel_rfl) (by kernel_rfl) (by kernel_rfl) (by kernel_rfl) ?_|refine zB rfl (zn (ps:=(yO t0)) zf rfl rfl rfl rfl rfl) rfl rfl ?_|refine AD.step _ _ _ _ _ rfl (zn (ps:=(yO t0)) zf rfl rfl rfl rfl rfl) rfl rfl ?_|(refine shC ?_;first|refine qC (zM 2) ?_)|(refine zu ?_;first|(refine zo 0 zi rfl rfl ((Zi ⟨g,m,ar,⟨59,arg,t0⟩⟩ _ h0 h1).ok hS1) rfl rfl rfl rfl rfl ?_)|(refine zo 0 zi rfl rfl ((Yb ⟨g,m,ar,⟨59,arg,t0⟩⟩ hF [a,kTy 2] _ (by omega)).ok hS2) rfl rfl rfl rfl rfl ?_))|refine sK ?_|refine sC (fun _=>?_) (fun _=>?_)|fail)
    exact zy hw
   | ok p =>
    obtain ⟨⟨⟩,l3⟩:=p
    have hw:(yB g m ⟨59,arg,t0⟩) l=.ok ((),l3):=by simp [yB,zx,zA,hS1,hS2,hS3]
    repeat' (first|refine zX 5 4 rfl (by kernel_rfl) (by kernel_rfl) (by kernel_rfl) (by kernel_rfl) (by kernel_rfl) ?_|refine zB rfl (zn (ps:=(yO t0)) zf rfl rfl rfl rfl rfl) rfl rfl ?_|refine AD.step _ _ _ _ _ rfl (zn (ps:=(yO t0)) zf rfl rfl rfl rfl rfl) rfl rfl ?_|(refine shC ?_;first|refine qC (zM 2) ?_)|(refine zu ?_;first|(refine zo 0 zi rfl rfl ((Zi ⟨g,m,ar,⟨59,arg,t0⟩⟩ _ h0 h1).ok hS1) rfl rfl rfl rfl rfl ?_)|(refine zo 0 zi rfl rfl ((Yb ⟨g,m,ar,⟨59,arg,t0⟩⟩ hF [a,kTy 2] _ (by omega)).ok hS2) rfl rfl rfl rfl rfl ?_)|(refine zo 0 zi rfl rfl ((zS ⟨g,m,ar,⟨59,arg,t0⟩⟩ [t0] _ (by omega) (by simp)).ok hS3) rfl rfl rfl rfl rfl ?_))|refine sK ?_|refine sC (fun _=>?_) (fun _=>?_)|fail)
    exact zV hw (yC (.inl rfl) tH)
theorem zo6 (g:Img) (hF:Fm g) (m:Me) (ar:List Ty) (arg:Int) (t0:Ty) (l:List Ty) (hl:l.length≤100) (h0:0≤t0.dims) (h1:t0.dims≤100):XC 88 [] (⟨g,m,ar,⟨60,arg,t0⟩⟩:RC) (yB g m ⟨60,arg,t0⟩) uV l:=by
 intro u;refine zF zf Tryz.func88 rfl (by kernel_rfl) Tryz.ntmps88 (by simp) _ rfl (fun gB hw1=>?_)
 cases hS1:(QO ⟨60,arg,t0⟩) l with
 | error e =>
  have hw:(yB g m ⟨60,arg,t0⟩) l=.error e:=by simp [yB,zx,zA,hS1]
  repeat' (first|refine zq 4 1 rfl rfl rfl ?_|refine zD ((yN u ⟨g,m,ar,⟨60,arg,t0⟩⟩ l)) zi rfl rfl rfl tH ((Zi ⟨g,m,ar,⟨60,arg,t0⟩⟩ _ h0 h1).bad hS1 u) ?_|refine zB rfl (zn (ps:=(yO t0)) zf rfl rfl rfl rfl rfl) rfl rfl ?_|refine AD.step _ _ _ _ _ rfl (zn (ps:=(yO t0)) zf rfl rfl rfl rfl rfl) rfl rfl ?_|(refine shC ?_;first|refine qC (zM 2) ?_)|refine sK ?_|refine sC (fun _=>?_) (fun _=>?_)|fail)
  exact zy hw
 | ok p =>
  obtain ⟨a,l1⟩:=p
  have hl1:l1.length≤100:=by have:=zbi hS1;omega
  cases hS2:(Zh g [a,kTy 2,t0]) l1 with
  | error e =>
   have hw:(yB g m ⟨60,arg,t0⟩) l=.error e:=by simp [yB,zx,zA,hS1,hS2]
   repeat' (first|refine Zo 10 9 rfl (by kernel_rfl) (by kernel_rfl) (by kernel_rfl) (by kernel_rfl) (by kernel_rfl) ?_|refine zD ((yN u ⟨g,m,ar,⟨60,arg,t0⟩⟩ l1)) zi rfl rfl rfl tH ((Yb ⟨g,m,ar,⟨60,arg,t0⟩⟩ hF [a,kTy 2,t0] _ (by omega)).bad hS2 u) ?_|refine zB rfl (zn (ps:=(yO t0)) zf rfl rfl rfl rfl rfl) rfl rfl ?_|refine AD.step _ _ _ _ _ rfl (zn (ps:=(yO t0)) zf rfl rfl rfl rfl rfl) rfl rfl ?_|(refine shC ?_;first|refine qC (zM 2) ?_)|(refine zu ?_;first|(refine zo 0 zi rfl rfl ((Zi ⟨g,m,ar,⟨60,arg,t0⟩⟩ _ h0 h1).ok hS1) rfl rfl rfl rfl rfl ?_))|refine sK ?_|refine sC (fun _=>?_) (fun _=>?_)|fail)
   exact zy hw
  | ok p =>
   obtain ⟨⟨⟩,l2⟩:=p
   have hl2:l2.length≤100:=by have:=Wu hS2;omega
   have hw:(yB g m ⟨60,arg,t0⟩) l=.ok ((),l2):=by simp [yB,zx,zA,hS1,hS2]
   repeat' (first|refine zX 10 9 rfl (by kernel_rfl) (by kernel_rfl) (by kernel_rfl) (by kernel_rfl) (by kernel_rfl) ?_|refine zB rfl (zn (ps:=(yO t0)) zf rfl rfl rfl rfl rfl) rfl rfl ?_|refine AD.step _ _ _ _ _ rfl (zn (ps:=(yO t0)) zf rfl rfl rfl rfl rfl) rfl rfl ?_|(refine shC ?_;first|refine qC (zM 2) ?_)|(refine zu ?_;first|(refine zo 0 zi rfl rfl ((Zi ⟨g,m,ar,⟨60,arg,t0⟩⟩ _ h0 h1).ok hS1) rfl rfl rfl rfl rfl ?_)|(refine zo 0 zi rfl rfl ((Yb ⟨g,m,ar,⟨60,arg,t0⟩⟩ hF [a,kTy 2,t0] _ (by omega)).ok hS2) rfl rfl rfl rfl rfl ?_))|refine sK ?_|refine sC (fun _=>?_) (fun _=>?_)|fail)
   exact zV hw (yC (.inl rfl) tH)
theorem zph (g:Img) (hF:Fm g) (m:Me) (ar:List Ty) (arg:Int) (t0:Ty) (l:List Ty) (hl:l.length≤100) (h0:0≤t0.dims) (h1:t0.dims≤100):XC 88 [] (⟨g,m,ar,⟨61,arg,t0⟩⟩:RC) (yB g m ⟨61,arg,t0⟩) uV l:=by
 intro u;refine zF zf Tryz.func88 rfl (by kernel_rfl) Tryz.ntmps88 (by simp) _ rfl (fun gB hw1=>?_)
 have cr:=ZR t0
 cases hS1:(QO ⟨61,arg,t0⟩) l with
 | error e =>
  have hw:(yB g m ⟨61,arg,t0⟩) l=.error e:=by simp [yB,zx,zA,hS1]
  repeat' (first|refine zq 4 1 rfl rfl rfl ?_|refine zD ((yN u ⟨g,m,ar,⟨61,arg,t0⟩⟩ l)) zi rfl rfl rfl tH ((Zi ⟨g,m,ar,⟨61,arg,t0⟩⟩ _ h0 h1).bad hS1 u) ?_|refine zB rfl (zn (ps:=(yO t0)) zf rfl rfl rfl rfl rfl) rfl rfl ?_|refine AD.step _ _ _ _ _ rfl (zn (ps:=(yO t0)) zf rfl rfl rfl rfl rfl) rfl rfl ?_|(refine shC ?_;first|refine qC (zM 2) ?_|refine qC cr ?_)|refine sK ?_|refine sC (fun _=>?_) (fun _=>?_)|fail)
  exact zy hw
 | ok p =>
  obtain ⟨a,l1⟩:=p
  have hl1:l1.length≤100:=by have:=zbi hS1;omega
  cases hS2:(Zh g [a,kTy 2]) l1 with
  | error e =>
   have hw:(yB g m ⟨61,arg,t0⟩) l=.error e:=by simp [yB,zx,zA,hS1,hS2]
   repeat' (first|refine Zo 5 4 rfl (by kernel_rfl) (by kernel_rfl) (by kernel_rfl) (by kernel_rfl) (by kernel_rfl) ?_|refine zD ((yN u ⟨g,m,ar,⟨61,arg,t0⟩⟩ l1)) zi rfl rfl rfl tH ((Yb ⟨g,m,ar,⟨61,arg,t0⟩⟩ hF [a,kTy 2] _ (by omega)).bad hS2 u) ?_|refine zB rfl (zn (ps:=(yO t0)) zf rfl rfl rfl rfl rfl) rfl rfl ?_|refine AD.step _ _ _ _ _ rfl (zn (ps:=(yO t0)) zf rfl rfl rfl rfl rfl) rfl rfl ?_|(refine shC ?_;first|refine qC (zM 2) ?_|refine qC cr ?_)|(refine zu ?_;first|(refine zo 0 zi rfl rfl ((Zi ⟨g,m,ar,⟨61,arg,t0⟩⟩ _ h0 h1).ok hS1) rfl rfl rfl rfl rfl ?_))|refine sK ?_|refine sC (fun _=>?_) (fun _=>?_)|fail)
   exact zy hw
  | ok p =>
   obtain ⟨⟨⟩,l2⟩:=p
   have hl2:l2.length≤100:=by have:=Wu hS2;omega
   cases hS3:(yR m.max [rfT t0]) l2 with
   | error e =>
    have hw:(yB g m ⟨61,arg,t0⟩) l=.error e:=by simp [yB,zx,zA,hS1,hS2,hS3]
    repeat' (first|refine zq 9 8 rfl rfl rfl ?_|refine zD ((yN u ⟨g,m,ar,⟨61,arg,t0⟩⟩ l2)) zi rfl rfl rfl tH ((zS ⟨g,m,ar,⟨61,arg,t0⟩⟩ [rfT t0] _ (by omega) (by simp)).bad hS3 u) ?_|refine zX 5 4 rfl (by kernel_rfl) (by kernel_rfl) (by kernel_rfl) (by kernel_rfl) (by kernel_rfl) ?_|refine zB rfl (zn (ps:=(yO t0)) zf rfl rfl rfl rfl rfl) rfl rfl ?_|refine AD.step _ _ _ _ _ rfl (zn (ps:=(yO t0)) zf rfl rfl rfl rfl rfl) rfl rfl ?_|(refine shC ?_;first|refine qC (zM 2) ?_|refine qC cr ?_)|(refine zu ?_;first|(refine zo 0 zi rfl rfl ((Zi ⟨g,m,ar,⟨61,arg,t0⟩⟩ _ h0 h1).ok hS1) rfl rfl rfl rfl rfl ?_)|(refine zo 0 zi rfl rfl ((Yb ⟨g,m,ar,⟨61,arg,t0⟩⟩ hF [a,kTy 2] _ (by omega)).ok hS2) rfl rfl rfl rfl rfl ?_))|refine sK ?_|refine sC (fun _=>?_) (fun _=>?_)|fail)
    exact zy hw
   | ok p =>
    obtain ⟨⟨⟩,l3⟩:=p
    have hw:(yB g m ⟨61,arg,t0⟩) l=.ok ((),l3):=by simp [yB,zx,zA,hS1,hS2,hS3]
    repeat' (first|refine zX 5 4 rfl (by kernel_rfl) (by kernel_rfl) (by kernel_rfl) (by kernel_rfl) (by kernel_rfl) ?_|refine zB rfl (zn (ps:=(yO t0)) zf rfl rfl rfl rfl rfl) rfl rfl ?_|refine AD.step _ _ _ _ _ rfl (zn (ps:=(yO t0)) zf rfl rfl rfl rfl rfl) rfl rfl ?_|(refine shC ?_;first|refine qC (zM 2) ?_|refine qC cr ?_)|(refine zu ?_;first|(refine zo 0 zi rfl rfl ((Zi ⟨g,m,ar,⟨61,arg,t0⟩⟩ _ h0 h1).ok hS1) rfl rfl rfl rfl rfl ?_)|(refine zo 0 zi rfl rfl ((Yb ⟨g,m,ar,⟨61,arg,t0⟩⟩ hF [a,kTy 2] _ (by omega)).ok hS2) rfl rfl rfl rfl rfl ?_)|(refine zo 0 zi rfl rfl ((zS ⟨g,m,ar,⟨61,arg,t0⟩⟩ [rfT t0] _ (by omega) (by simp)).ok hS3) rfl rfl rfl rfl rfl ?_))|refine sK ?_|refine sC (fun _=>?_) (fun _=>?_)|fail)
    exact zV hw (yC (.inl rfl) tH)
end Go.Cg
