/- A part of the walks by abstract values: no statement of its own. -/
import Derived.Test.YtdlokcmodgccnaaGreatU28
set_option linter.unusedVariables false
set_option linter.unusedSimpArgs false
namespace Go.Cg
open Go.Proofs
set_option maxHeartbeats 20000000
theorem zn1 (g:Img) (hF:Fm g) (m:Me) (ar:List Ty) (arg:Int) (t0:Ty) (l:List Ty) (hl:l.length≤100) (h0:0≤arg) (h1:arg.toNat < g.fields.length):XC 156 [] (⟨g,m,ar,⟨48,arg,t0⟩⟩:RC) (yI g m ⟨48,arg,t0⟩) uV l:=by
 intro u;refine zH zf Tryz.func156 rfl (by kernel_rfl) Tryz.ntmps156 (by simp) _ rfl (fun gB hw1=>?_)
 have hfe:(g.fields.map Yb)[arg.toNat]?=some (Yb (fAt g arg)):=by rw [fAt,zQ h1];exact yj h1
 obtain ⟨f,hf⟩:∃ f,fAt g arg=f:=⟨_,rfl⟩
 rw [hf] at hfe
 have cr:=ZF f.ty
 cases hC1:(f.static)
 ·skip
  cases hS3:(Zh g f true) l with
  | error e =>
   have hw:(yI g m ⟨48,arg,t0⟩) l=.error e:=by simp [yI,hf,zu,zC,hC1,zJ,emptyS,hS3]
   repeat' (first|refine zl 6 2 rfl rfl rfl ?_|refine zA ((yP u ⟨g,m,ar,⟨48,arg,t0⟩⟩ l)) zh rfl rfl rfl tH ((YJ ⟨g,m,ar,⟨48,arg,t0⟩⟩ hF f true _ (by omega)).bad hS3 u) ?_|refine zN 1 12 13 1 11 zf (by kernel_rfl) (by kernel_rfl) rfl rfl rfl rfl rfl rfl rfl rfl rfl rfl rfl rfl rfl rfl rfl rfl rfl rfl rfl rfl rfl rfl ?_|refine yg rfl rfl ?_|refine ⟨_,_,rfl,rfl,?_⟩|(refine shC ?_;first|refine zx rfl (zI rfl rfl (zF (by first|rfl|assumption|simp [hC1]) 8)) rfl rfl ?_|refine AD.step _ _ _ _ _ rfl (zI rfl rfl (zF (by first|rfl|assumption|simp [hC1]) 8)) rfl rfl ?_)|(refine shX ?_;first|refine zx rfl (zq zf rfl rfl rfl rfl rfl rfl h0 hfe) rfl rfl ?_|refine AD.step _ _ _ _ _ rfl (zq zf rfl rfl rfl rfl rfl rfl h0 hfe) rfl rfl ?_)|refine sK ?_|refine sC (fun _=>?_) (fun _=>?_)|fail)
   exact zB hw
  | ok p =>
   obtain ⟨⟨⟩,l3⟩:=p
   have hl3:l3.length≤100:=by have:=zbr hS3;omega
   cases hS4:(yV m.max [f.ty]) l3 with
   | error e =>
    have hw:(yI g m ⟨48,arg,t0⟩) l=.error e:=by simp [yI,hf,zu,zC,hC1,zJ,emptyS,hS3,hS4]
    repeat' (first|refine zl 7 4 rfl rfl rfl ?_|refine zA ((yP u ⟨g,m,ar,⟨48,arg,t0⟩⟩ l3)) zh rfl rfl rfl tH ((zO ⟨g,m,ar,⟨48,arg,t0⟩⟩ [f.ty] _ (by omega) (by simp)).bad hS4 u) ?_|refine zN 1 12 13 1 11 zf (by kernel_rfl) (by kernel_rfl) rfl rfl rfl rfl rfl rfl rfl rfl rfl rfl rfl rfl rfl rfl rfl rfl rfl rfl rfl rfl rfl rfl ?_|refine yg rfl rfl ?_|refine ⟨_,_,rfl,rfl,?_⟩|(refine shC ?_;first|refine zx rfl (zI rfl rfl (zF (by first|rfl|assumption|simp [hC1]) 8)) rfl rfl ?_|refine AD.step _ _ _ _ _ rfl (zI rfl rfl (zF (by first|rfl|assumption|simp [hC1]) 8)) rfl rfl ?_)|(refine shX ?_;first|refine zx rfl (zq zf rfl rfl rfl rfl rfl rfl h0 hfe) rfl rfl ?_|refine AD.step _ _ _ _ _ rfl (zq zf rfl rfl rfl rfl rfl rfl h0 hfe) rfl rfl ?_)|(refine zn ?_;first|(refine zo 0 zh rfl rfl ((YJ ⟨g,m,ar,⟨48,arg,t0⟩⟩ hF f true _ (by omega)).ok hS3) rfl rfl rfl rfl rfl ?_))|refine sK ?_|refine sC (fun _=>?_) (fun _=>?_)|fail)
    exact zB hw
   | ok p =>
    obtain ⟨⟨⟩,l4⟩:=p
    have hw:(yI g m ⟨48,arg,t0⟩) l=.ok ((),l4):=by simp [yI,hf,zu,zC,hC1,zJ,emptyS,hS3,hS4]
    repeat' (first|refine zN 1 12 13 1 11 zf (by kernel_rfl) (by kernel_rfl) rfl rfl rfl rfl rfl rfl rfl rfl rfl rfl rfl rfl rfl rfl rfl rfl rfl rfl rfl rfl rfl rfl ?_|refine yg rfl rfl ?_|refine ⟨_,_,rfl,rfl,?_⟩|(refine shC ?_;first|refine zx rfl (zI rfl rfl (zF (by first|rfl|assumption|simp [hC1]) 8)) rfl rfl ?_|refine AD.step _ _ _ _ _ rfl (zI rfl rfl (zF (by first|rfl|assumption|simp [hC1]) 8)) rfl rfl ?_)|(refine shX ?_;first|refine zx rfl (zq zf rfl rfl rfl rfl rfl rfl h0 hfe) rfl rfl ?_|refine AD.step _ _ _ _ _ rfl (zq zf rfl rfl rfl rfl rfl rfl h0 hfe) rfl rfl ?_)|(refine zn ?_;first|(refine zo 0 zh rfl rfl ((YJ ⟨g,m,ar,⟨48,arg,t0⟩⟩ hF f true _ (by omega)).ok hS3) rfl rfl rfl rfl rfl ?_)|(refine zo 0 zh rfl rfl ((zO ⟨g,m,ar,⟨48,arg,t0⟩⟩ [f.ty] _ (by omega) (by simp)).ok hS4) rfl rfl rfl rfl rfl ?_))|refine sK ?_|refine sC (fun _=>?_) (fun _=>?_)|fail)
    exact zU hw (yw (.inl rfl) tH)
 ·skip
  have hw:(yI g m ⟨48,arg,t0⟩) l=.error 8:=by simp [yI,hf,zu,zC,hC1,zJ,emptyS]
  repeat' (first|refine zl 2 4 rfl rfl rfl ?_|refine zA ([]) zh rfl rfl rfl tH (yc (by first|rfl|assumption|simp [hC1]) 8) ?_|refine zN 1 12 13 1 11 zf (by kernel_rfl) (by kernel_rfl) rfl rfl rfl rfl rfl rfl rfl rfl rfl rfl rfl rfl rfl rfl rfl rfl rfl rfl rfl rfl rfl rfl ?_|refine yg rfl rfl ?_|refine ⟨_,_,rfl,rfl,?_⟩|(refine shX ?_;first|refine zx rfl (zq zf rfl rfl rfl rfl rfl rfl h0 hfe) rfl rfl ?_|refine AD.step _ _ _ _ _ rfl (zq zf rfl rfl rfl rfl rfl rfl h0 hfe) rfl rfl ?_)|refine sK ?_|refine sC (fun _=>?_) (fun _=>?_)|fail)
  exact zB hw
theorem zoX (g:Img) (hF:Fm g) (m:Me) (ar:List Ty) (arg:Int) (t0:Ty) (l:List Ty) (hl:l.length≤100) (h0:0≤arg) (h1:arg.toNat < g.fields.length):XC 156 [] (⟨g,m,ar,⟨49,arg,t0⟩⟩:RC) (yI g m ⟨49,arg,t0⟩) uV l:=by
 intro u;refine zH zf Tryz.func156 rfl (by kernel_rfl) Tryz.ntmps156 (by simp) _ rfl (fun gB hw1=>?_)
 have hfe:(g.fields.map Yb)[arg.toNat]?=some (Yb (fAt g arg)):=by rw [fAt,zQ h1];exact yj h1
 obtain ⟨f,hf⟩:∃ f,fAt g arg=f:=⟨_,rfl⟩
 rw [hf] at hfe
 have cr:=ZF f.ty
 cases hC1:(f.static)
 ·skip
  cases hS3:(Yy g (f.ty)) l with
  | error e =>
   have hw:(yI g m ⟨49,arg,t0⟩) l=.error e:=by simp [yI,hf,zu,zC,hC1,zJ,emptyS,hS3]
   repeat' (first|refine zl 9 3 rfl rfl rfl ?_|refine zA ((yP u ⟨g,m,ar,⟨49,arg,t0⟩⟩ l)) zh rfl rfl rfl tH ((qg ⟨g,m,ar,⟨49,arg,t0⟩⟩ hF (f.ty) _ (by omega)).bad hS3 u) ?_|refine zN 1 12 13 1 11 zf (by kernel_rfl) (by kernel_rfl) rfl rfl rfl rfl rfl rfl rfl rfl rfl rfl rfl rfl rfl rfl rfl rfl rfl rfl rfl rfl rfl rfl ?_|refine yg rfl rfl ?_|refine ⟨_,_,rfl,rfl,?_⟩|(refine shC ?_;first|refine zx rfl (zI rfl rfl (zF (by first|rfl|assumption|simp [hC1]) 8)) rfl rfl ?_|refine AD.step _ _ _ _ _ rfl (zI rfl rfl (zF (by first|rfl|assumption|simp [hC1]) 8)) rfl rfl ?_)|(refine shX ?_;first|refine zx rfl (zq zf rfl rfl rfl rfl rfl rfl h0 hfe) rfl rfl ?_|refine AD.step _ _ _ _ _ rfl (zq zf rfl rfl rfl rfl rfl rfl h0 hfe) rfl rfl ?_)|refine sK ?_|refine sC (fun _=>?_) (fun _=>?_)|fail)
   exact zB hw
  | ok p =>
   obtain ⟨⟨⟩,l3⟩:=p
   have hl3:l3.length≤100:=by have:=XZ hS3;omega
   cases hS4:(Zh g f false) l3 with
   | error e =>
    have hw:(yI g m ⟨49,arg,t0⟩) l=.error e:=by simp [yI,hf,zu,zC,hC1,zJ,emptyS,hS3,hS4]
    repeat' (first|refine zl 10 2 rfl rfl rfl ?_|refine zA ((yP u ⟨g,m,ar,⟨49,arg,t0⟩⟩ l3)) zh rfl rfl rfl tH ((YJ ⟨g,m,ar,⟨49,arg,t0⟩⟩ hF f false _ (by omega)).bad hS4 u) ?_|refine zN 1 12 13 1 11 zf (by kernel_rfl) (by kernel_rfl) rfl rfl rfl rfl rfl rfl rfl rfl rfl rfl rfl rfl rfl rfl rfl rfl rfl rfl rfl rfl rfl rfl ?_|refine yg rfl rfl ?_|refine ⟨_,_,rfl,rfl,?_⟩|(refine shC ?_;first|refine zx rfl (zI rfl rfl (zF (by first|rfl|assumption|simp [hC1]) 8)) rfl rfl ?_|refine AD.step _ _ _ _ _ rfl (zI rfl rfl (zF (by first|rfl|assumption|simp [hC1]) 8)) rfl rfl ?_)|(refine shX ?_;first|refine zx rfl (zq zf rfl rfl rfl rfl rfl rfl h0 hfe) rfl rfl ?_|refine AD.step _ _ _ _ _ rfl (zq zf rfl rfl rfl rfl rfl rfl h0 hfe) rfl rfl ?_)|(refine zn ?_;first|(refine zo 0 zh rfl rfl ((qg ⟨g,m,ar,⟨49,arg,t0⟩⟩ hF (f.ty) _ (by omega)).ok hS3) rfl rfl rfl rfl rfl ?_))|refine sK ?_|refine sC (fun _=>?_) (fun _=>?_)|fail)
    exact zB hw
   | ok p =>
    obtain ⟨⟨⟩,l4⟩:=p
    have hl4:l4.length≤100:=by have:=zbr hS4;omega
    have hw:(yI g m ⟨49,arg,t0⟩) l=.ok ((),l4):=by simp [yI,hf,zu,zC,hC1,zJ,emptyS,hS3,hS4]
    repeat' (first|refine zN 1 12 13 1 11 zf (by kernel_rfl) (by kernel_rfl) rfl rfl rfl rfl rfl rfl rfl rfl rfl rfl rfl rfl rfl rfl rfl rfl rfl rfl rfl rfl rfl rfl ?_|refine yg rfl rfl ?_|refine ⟨_,_,rfl,rfl,?_⟩|(refine shC ?_;first|refine zx rfl (zI rfl rfl (zF (by first|rfl|assumption|simp [hC1]) 8)) rfl rfl ?_|refine AD.step _ _ _ _ _ rfl (zI rfl rfl (zF (by first|rfl|assumption|simp [hC1]) 8)) rfl rfl ?_)|(refine shX ?_;first|refine zx rfl (zq zf rfl rfl rfl rfl rfl rfl h0 hfe) rfl rfl ?_|refine AD.step _ _ _ _ _ rfl (zq zf rfl rfl rfl rfl rfl rfl h0 hfe) rfl rfl ?_)|(refine zn ?_;first|(refine zo 0 zh rfl rfl ((qg ⟨g,m,ar,⟨49,arg,t0⟩⟩ hF (f.ty) _ (by omega)).ok hS3) rfl rfl rfl rfl rfl ?_)|(refine zo 0 zh rfl rfl ((YJ ⟨g,m,ar,⟨49,arg,t0⟩⟩ hF f false _ (by omega)).ok hS4) rfl rfl rfl rfl rfl ?_))|refine sK ?_|refine sC (fun _=>?_) (fun _=>?_)|fail)
    exact zU hw (yw (.inl rfl) tH)
 ·skip
  have hw:(yI g m ⟨49,arg,t0⟩) l=.error 8:=by simp [yI,hf,zu,zC,hC1,zJ,emptyS]
  repeat' (first|refine zl 2 4 rfl rfl rfl ?_|refine zA ([]) zh rfl rfl rfl tH (yc (by first|rfl|assumption|simp [hC1]) 8) ?_|refine zN 1 12 13 1 11 zf (by kernel_rfl) (by kernel_rfl) rfl rfl rfl rfl rfl rfl rfl rfl rfl rfl rfl rfl rfl rfl rfl rfl rfl rfl rfl rfl rfl rfl ?_|refine yg rfl rfl ?_|refine ⟨_,_,rfl,rfl,?_⟩|(refine shX ?_;first|refine zx rfl (zq zf rfl rfl rfl rfl rfl rfl h0 hfe) rfl rfl ?_|refine AD.step _ _ _ _ _ rfl (zq zf rfl rfl rfl rfl rfl rfl h0 hfe) rfl rfl ?_)|refine sK ?_|refine sC (fun _=>?_) (fun _=>?_)|fail)
  exact zB hw
theorem zoB (g:Img) (hF:Fm g) (m:Me) (ar:List Ty) (arg:Int) (t0:Ty) (l:List Ty) (hl:l.length≤100) (h0:0≤arg) (h1:arg.toNat < g.fields.length):XC 156 [] (⟨g,m,ar,⟨50,arg,t0⟩⟩:RC) (yI g m ⟨50,arg,t0⟩) uV l:=by
 intro u;refine zH zf Tryz.func156 rfl (by kernel_rfl) Tryz.ntmps156 (by simp) _ rfl (fun gB hw1=>?_)
 have hfe:(g.fields.map Yb)[arg.toNat]?=some (Yb (fAt g arg)):=by rw [fAt,zQ h1];exact yj h1
 obtain ⟨f,hf⟩:∃ f,fAt g arg=f:=⟨_,rfl⟩
 rw [hf] at hfe
 have cr:=ZF f.ty
 cases hC1:(f.static)
 ·skip
  cases hS3:(Zh g f false) l with
  | error e =>
   have hw:(yI g m ⟨50,arg,t0⟩) l=.error e:=by simp [yI,hf,zu,zC,hC1,zJ,emptyS,hS3]
   repeat' (first|refine zl 12 2 rfl rfl rfl ?_|refine zA ((yP u ⟨g,m,ar,⟨50,arg,t0⟩⟩ l)) zh rfl rfl rfl tH ((YJ ⟨g,m,ar,⟨50,arg,t0⟩⟩ hF f false _ (by omega)).bad hS3 u) ?_|refine zN 1 12 13 1 11 zf (by kernel_rfl) (by kernel_rfl) rfl rfl rfl rfl rfl rfl rfl rfl rfl rfl rfl rfl rfl rfl rfl rfl rfl rfl rfl rfl rfl rfl ?_|refine yg rfl rfl ?_|refine ⟨_,_,rfl,rfl,?_⟩|(refine shC ?_;first|refine zx rfl (zI rfl rfl (zF (by first|rfl|assumption|simp [hC1]) 8)) rfl rfl ?_|refine AD.step _ _ _ _ _ rfl (zI rfl rfl (zF (by first|rfl|assumption|simp [hC1]) 8)) rfl rfl ?_|refine qC cr ?_)|(refine shX ?_;first|refine zx rfl (zq zf rfl rfl rfl rfl rfl rfl h0 hfe) rfl rfl ?_|refine AD.step _ _ _ _ _ rfl (zq zf rfl rfl rfl rfl rfl rfl h0 hfe) rfl rfl ?_)|refine sK ?_|refine sC (fun _=>?_) (fun _=>?_)|fail)
   exact zB hw
  | ok p =>
   obtain ⟨⟨⟩,l3⟩:=p
   have hl3:l3.length≤100:=by have:=zbr hS3;omega
   cases hS4:(yV m.max [rfT f.ty]) l3 with
   | error e =>
    have hw:(yI g m ⟨50,arg,t0⟩) l=.error e:=by simp [yI,hf,zu,zC,hC1,zJ,emptyS,hS3,hS4]
    repeat' (first|refine zl 13 5 rfl rfl rfl ?_|refine zA ((yP u ⟨g,m,ar,⟨50,arg,t0⟩⟩ l3)) zh rfl rfl rfl tH ((zO ⟨g,m,ar,⟨50,arg,t0⟩⟩ [rfT f.ty] _ (by omega) (by simp)).bad hS4 u) ?_|refine zN 1 12 13 1 11 zf (by kernel_rfl) (by kernel_rfl) rfl rfl rfl rfl rfl rfl rfl rfl rfl rfl rfl rfl rfl rfl rfl rfl rfl rfl rfl rfl rfl rfl ?_|refine yg rfl rfl ?_|refine ⟨_,_,rfl,rfl,?_⟩|(refine shC ?_;first|refine zx rfl (zI rfl rfl (zF (by first|rfl|assumption|simp [hC1]) 8)) rfl rfl ?_|refine AD.step _ _ _ _ _ rfl (zI rfl rfl (zF (by first|rfl|assumption|simp [hC1]) 8)) rfl rfl ?_|refine qC cr ?_)|(refine shX ?_;first|refine zx rfl (zq zf rfl rfl rfl rfl rfl rfl h0 hfe) rfl rfl ?_|refine AD.step _ _ _ _ _ rfl (zq zf rfl rfl rfl rfl rfl rfl h0 hfe) rfl rfl ?_)|(refine zn ?_;first|(refine zo 0 zh rfl rfl ((YJ ⟨g,m,ar,⟨50,arg,t0⟩⟩ hF f false _ (by omega)).ok hS3) rfl rfl rfl rfl rfl ?_))|refine sK ?_|refine sC (fun _=>?_) (fun _=>?_)|fail)
    exact zB hw
   | ok p =>
    obtain ⟨⟨⟩,l4⟩:=p
    have hw:(yI g m ⟨50,arg,t0⟩) l=.ok ((),l4):=by simp [yI,hf,zu,zC,hC1,zJ,emptyS,hS3,hS4]
    repeat' (first|refine zN 1 12 13 1 11 zf (by kernel_rfl) (by kernel_rfl) rfl rfl rfl rfl rfl rfl rfl rfl rfl rfl rfl rfl rfl rfl rfl rfl rfl rfl rfl rfl rfl rfl ?_|refine yg rfl rfl ?_|refine ⟨_,_,rfl,rfl,?_⟩|(refine shC ?_;first|refine zx rfl (zI rfl rfl (zF (by first|rfl|assumption|simp [hC1]) 8)) rfl rfl ?_|refine AD.step _ _ _ _ _ rfl (zI rfl rfl (zF (by first|rfl|assumption|simp [hC1]) 8)) rfl rfl ?_|refine qC cr ?_)|(refine shX ?_;first|refine zx rfl (zq zf rfl rfl rfl rfl rfl rfl h0 hfe) rfl rfl ?_|refine AD.step _ _ _ _ _ rfl (zq zf rfl rfl rfl rfl rfl rfl h0 hfe) rfl rfl ?_)|(refine zn ?_;first|(refine zo 0 zh rfl rfl ((YJ ⟨g,m,ar,⟨50,arg,t0⟩⟩ hF f false _ (by omega)).ok hS3) rfl rfl rfl rfl rfl ?_)|(refine zo 0 zh rfl rfl ((zO ⟨g,m,ar,⟨50,arg,t0⟩⟩ [rfT f.ty] _ (by omega) (by simp)).ok hS4) rfl rfl rfl rfl rfl ?_))|refine sK ?_|refine sC (fun _=>?_) (fun _=>?_)|fail)
    exact zU hw (yw (.inl rfl) tH)
 ·skip
  have hw:(yI g m ⟨50,arg,t0⟩) l=.error 8:=by simp [yI,hf,zu,zC,hC1,zJ,emptyS]
  repeat' (first|refine zl 2 4 rfl rfl rfl ?_|refine zA ([]) zh rfl rfl rfl tH (yc (by first|rfl|assumption|simp [hC1]) 8) ?_|refine zN 1 12 13 1 11 zf (by kernel_rfl) (by kernel_rfl) rfl rfl rfl rfl rfl rfl rfl rfl rfl rfl rfl rfl rfl rfl rfl rfl rfl rfl rfl rfl rfl rfl ?_|refine yg rfl rfl ?_|refine ⟨_,_,rfl,rfl,?_⟩|(refine shC ?_;first|refine qC cr ?_)|(refine shX ?_;first|refine zx rfl (zq zf rfl rfl rfl rfl rfl rfl h0 hfe) rfl rfl ?_|refine AD.step _ _ _ _ _ rfl (zq zf rfl rfl rfl rfl rfl rfl h0 hfe) rfl rfl ?_)|refine sK ?_|refine sC (fun _=>?_) (fun _=>?_)|fail)
  exact zB hw
theorem zoo (g:Img) (hF:Fm g) (m:Me) (ar:List Ty) (arg:Int) (t0:Ty) (l:List Ty) (hl:l.length≤100) (h0:0≤arg) (h1:arg.toNat < g.fields.length):XC 156 [] (⟨g,m,ar,⟨51,arg,t0⟩⟩:RC) (yI g m ⟨51,arg,t0⟩) uV l:=by
 intro u;refine zH zf Tryz.func156 rfl (by kernel_rfl) Tryz.ntmps156 (by simp) _ rfl (fun gB hw1=>?_)
 have hfe:(g.fields.map Yb)[arg.toNat]?=some (Yb (fAt g arg)):=by rw [fAt,zQ h1];exact yj h1
 obtain ⟨f,hf⟩:∃ f,fAt g arg=f:=⟨_,rfl⟩
 rw [hf] at hfe
 have cr:=ZF f.ty
 cases hC1:(f.static)
 ·skip
  have hw:(yI g m ⟨51,arg,t0⟩) l=.error 8:=by simp [yI,hf,zu,zC,hC1,zJ,emptyS]
  repeat' (first|refine zl 2 4 rfl rfl rfl ?_|refine zA ([]) zh rfl rfl rfl tH (yc (by first|rfl|assumption|simp [hC1]) 8) ?_|refine zN 1 12 13 1 11 zf (by kernel_rfl) (by kernel_rfl) rfl rfl rfl rfl rfl rfl rfl rfl rfl rfl rfl rfl rfl rfl rfl rfl rfl rfl rfl rfl rfl rfl ?_|refine yg rfl rfl ?_|refine ⟨_,_,rfl,rfl,?_⟩|(refine shX ?_;first|refine zx rfl (zq zf rfl rfl rfl rfl rfl rfl h0 hfe) rfl rfl ?_|refine AD.step _ _ _ _ _ rfl (zq zf rfl rfl rfl rfl rfl rfl h0 hfe) rfl rfl ?_)|refine sK ?_|refine sC (fun _=>?_) (fun _=>?_)|fail)
  exact zB hw
 ·skip
  cases hS3:(yV m.max [f.ty]) l with
  | error e =>
   have hw:(yI g m ⟨51,arg,t0⟩) l=.error e:=by simp [yI,hf,zu,zC,hC1,zJ,emptyS,hS3]
   repeat' (first|refine zl 15 4 rfl rfl rfl ?_|refine zA ((yP u ⟨g,m,ar,⟨51,arg,t0⟩⟩ l)) zh rfl rfl rfl tH ((zO ⟨g,m,ar,⟨51,arg,t0⟩⟩ [f.ty] _ (by omega) (by simp)).bad hS3 u) ?_|refine zN 1 12 13 1 11 zf (by kernel_rfl) (by kernel_rfl) rfl rfl rfl rfl rfl rfl rfl rfl rfl rfl rfl rfl rfl rfl rfl rfl rfl rfl rfl rfl rfl rfl ?_|refine yg rfl rfl ?_|refine ⟨_,_,rfl,rfl,?_⟩|(refine shC ?_;first|refine zx rfl (zI rfl rfl (zF (by first|rfl|assumption|simp [hC1]) 8)) rfl rfl ?_|refine AD.step _ _ _ _ _ rfl (zI rfl rfl (zF (by first|rfl|assumption|simp [hC1]) 8)) rfl rfl ?_)|(refine shX ?_;first|refine zx rfl (zq zf rfl rfl rfl rfl rfl rfl h0 hfe) rfl rfl ?_|refine AD.step _ _ _ _ _ rfl (zq zf rfl rfl rfl rfl rfl rfl h0 hfe) rfl rfl ?_)|refine sK ?_|refine sC (fun _=>?_) (fun _=>?_)|fail)
   exact zB hw
  | ok p =>
   obtain ⟨⟨⟩,l3⟩:=p
   have hw:(yI g m ⟨51,arg,t0⟩) l=.ok ((),l3):=by simp [yI,hf,zu,zC,hC1,zJ,emptyS,hS3]
   repeat' (first|refine zN 1 12 13 1 11 zf (by kernel_rfl) (by kernel_rfl) rfl rfl rfl rfl rfl rfl rfl rfl rfl rfl rfl rfl rfl rfl rfl rfl rfl rfl rfl rfl rfl rfl ?_|refine yg rfl rfl ?_|refine ⟨_,_,rfl,rfl,?_⟩|(refine shC ?_;first|refine zx rfl (zI rfl rfl (zF (by first|rfl|assumption|simp [hC1]) 8)) rfl rfl ?_|refine AD.step _ _ _ _ _ rfl (zI rfl rfl (zF (by first|rfl|assumption|simp [hC1]) 8)) rfl rfl ?_)|(refine shX ?_;first|refine zx rfl (zq zf rfl rfl rfl rfl rfl rfl h0 hfe) rfl rfl ?_|refine AD.step _ _ _ _ _ rfl (zq zf rfl rfl rfl rfl rfl rfl h0 hfe) rfl rfl ?_)|(refine zn ?_;first|(refine zo 0 zh rfl rfl ((zO ⟨g,m,ar,⟨51,arg,t0⟩⟩ [f.ty] _ (by omega) (by simp)).ok hS3) rfl rfl rfl rfl rfl ?_))|refine sK ?_|refine sC (fun _=>?_) (fun _=>?_)|fail)
   exact zU hw (yw (.inl rfl) tH)
theorem zoF (g:Img) (hF:Fm g) (m:Me) (ar:List Ty) (arg:Int) (t0:Ty) (l:List Ty) (hl:l.length≤100) (h0:0≤arg) (h1:arg.toNat < g.fields.length):XC 156 [] (⟨g,m,ar,⟨52,arg,t0⟩⟩:RC) (yI g m ⟨52,arg,t0⟩) uV l:=by
 intro u;refine zH zf Tryz.func156 rfl (by kernel_rfl) Tryz.ntmps156 (by simp) _ rfl (fun gB hw1=>?_)
 have hfe:(g.fields.map Yb)[arg.toNat]?=some (Yb (fAt g arg)):=by rw [fAt,zQ h1];exact yj h1
 obtain ⟨f,hf⟩:∃ f,fAt g arg=f:=⟨_,rfl⟩
 rw [hf] at hfe
 have cr:=ZF f.ty
 cases hC1:(f.static)
 ·skip
  have hw:(yI g m ⟨52,arg,t0⟩) l=.error 8:=by simp [yI,hf,zu,zC,hC1,zJ,emptyS]
  repeat' (first|refine zl 2 4 rfl rfl rfl ?_|refine zA ([]) zh rfl rfl rfl tH (yc (by first|rfl|assumption|simp [hC1]) 8) ?_|refine zN 1 12 13 1 11 zf (by kernel_rfl) (by kernel_rfl) rfl rfl rfl rfl rfl rfl rfl rfl rfl rfl rfl rfl rfl rfl rfl rfl rfl rfl rfl rfl rfl rfl ?_|refine yg rfl rfl ?_|refine ⟨_,_,rfl,rfl,?_⟩|(refine shX ?_;first|refine zx rfl (zq zf rfl rfl rfl rfl rfl rfl h0 hfe) rfl rfl ?_|refine AD.step _ _ _ _ _ rfl (zq zf rfl rfl rfl rfl rfl rfl h0 hfe) rfl rfl ?_)|refine sK ?_|refine sC (fun _=>?_) (fun _=>?_)|fail)
  exact zB hw
 ·skip
  cases hS3:(Yy g (f.ty)) l with
  | error e =>
   have hw:(yI g m ⟨52,arg,t0⟩) l=.error e:=by simp [yI,hf,zu,zC,hC1,zJ,emptyS,hS3]
   repeat' (first|refine zl 17 3 rfl rfl rfl ?_|refine zA ((yP u ⟨g,m,ar,⟨52,arg,t0⟩⟩ l)) zh rfl rfl rfl tH ((qg ⟨g,m,ar,⟨52,arg,t0⟩⟩ hF (f.ty) _ (by omega)).bad hS3 u) ?_|refine zN 1 12 13 1 11 zf (by kernel_rfl) (by kernel_rfl) rfl rfl rfl rfl rfl rfl rfl rfl rfl rfl rfl rfl rfl rfl rfl rfl rfl rfl rfl rfl rfl rfl ?_|refine yg rfl rfl ?_|refine ⟨_,_,rfl,rfl,?_⟩|(refine shC ?_;first|refine zx rfl (zI rfl rfl (zF (by first|rfl|assumption|simp [hC1]) 8)) rfl rfl ?_|refine AD.step _ _ _ _ _ rfl (zI rfl rfl (zF (by first|rfl|assumption|simp [hC1]) 8)) rfl rfl ?_)|(refine shX ?_;first|refine zx rfl (zq zf rfl rfl rfl rfl rfl rfl h0 hfe) rfl rfl ?_|refine AD.step _ _ _ _ _ rfl (zq zf rfl rfl rfl rfl rfl rfl h0 hfe) rfl rfl ?_)|refine sK ?_|refine sC (fun _=>?_) (fun _=>?_)|fail)
   exact zB hw
  | ok p =>
   obtain ⟨⟨⟩,l3⟩:=p
   have hl3:l3.length≤100:=by have:=XZ hS3;omega
   have hw:(yI g m ⟨52,arg,t0⟩) l=.ok ((),l3):=by simp [yI,hf,zu,zC,hC1,zJ,emptyS,hS3]
   repeat' (first|refine zN 1 12 13 1 11 zf (by kernel_rfl) (by kernel_rfl) rfl rfl rfl rfl rfl rfl rfl rfl rfl rfl rfl rfl rfl rfl rfl rfl rfl rfl rfl rfl rfl rfl ?_|refine yg rfl rfl ?_|refine ⟨_,_,rfl,rfl,?_⟩|(refine shC ?_;first|refine zx rfl (zI rfl rfl (zF (by first|rfl|assumption|simp [hC1]) 8)) rfl rfl ?_|refine AD.step _ _ _ _ _ rfl (zI rfl rfl (zF (by first|rfl|assumption|simp [hC1]) 8)) rfl rfl ?_)|(refine shX ?_;first|refine zx rfl (zq zf rfl rfl rfl rfl rfl rfl h0 hfe) rfl rfl ?_|refine AD.step _ _ _ _ _ rfl (zq zf rfl rfl rfl rfl rfl rfl h0 hfe) rfl rfl ?_)|(refine zn ?_;first|(refine zo 0 zh rfl rfl ((qg ⟨g,m,ar,⟨52,arg,t0⟩⟩ hF (f.ty) _ (by omega)).ok hS3) rfl rfl rfl rfl rfl ?_))|refine sK ?_|refine sC (fun _=>?_) (fun _=>?_)|fail)
   exact zU hw (yw (.inl rfl) tH)
theorem zn8 (g:Img) (hF:Fm g) (m:Me) (ar:List Ty) (arg:Int) (t0:Ty) (l:List Ty) (hl:l.length≤100) (h0:0≤arg) (h1:arg.toNat < g.fields.length):XC 156 [] (⟨g,m,ar,⟨53,arg,t0⟩⟩:RC) (yI g m ⟨53,arg,t0⟩) uV l:=by
 intro u;refine zH zf Tryz.func156 rfl (by kernel_rfl) Tryz.ntmps156 (by simp) _ rfl (fun gB hw1=>?_)
 have hfe:(g.fields.map Yb)[arg.toNat]?=some (Yb (fAt g arg)):=by rw [fAt,zQ h1];exact yj h1
 obtain ⟨f,hf⟩:∃ f,fAt g arg=f:=⟨_,rfl⟩
 rw [hf] at hfe
 have cr:=ZF f.ty
 cases hC1:(f.static)
 ·skip
  have hw:(yI g m ⟨53,arg,t0⟩) l=.error 8:=by simp [yI,hf,zu,zC,hC1,zJ,emptyS]
  repeat' (first|refine zl 2 4 rfl rfl rfl ?_|refine zA ([]) zh rfl rfl rfl tH (yc (by first|rfl|assumption|simp [hC1]) 8) ?_|refine zN 1 12 13 1 11 zf (by kernel_rfl) (by kernel_rfl) rfl rfl rfl rfl rfl rfl rfl rfl rfl rfl rfl rfl rfl rfl rfl rfl rfl rfl rfl rfl rfl rfl ?_|refine yg rfl rfl ?_|refine ⟨_,_,rfl,rfl,?_⟩|(refine shC ?_;first|refine qC cr ?_)|(refine shX ?_;first|refine zx rfl (zq zf rfl rfl rfl rfl rfl rfl h0 hfe) rfl rfl ?_|refine AD.step _ _ _ _ _ rfl (zq zf rfl rfl rfl rfl rfl rfl h0 hfe) rfl rfl ?_)|refine sK ?_|refine sC (fun _=>?_) (fun _=>?_)|fail)
  exact zB hw
 ·skip
  cases hS3:(yV m.max [rfT f.ty]) l with
  | error e =>
   have hw:(yI g m ⟨53,arg,t0⟩) l=.error e:=by simp [yI,hf,zu,zC,hC1,zJ,emptyS,hS3]
   repeat' (first|refine zl 4 5 rfl rfl rfl ?_|refine zA ((yP u ⟨g,m,ar,⟨53,arg,t0⟩⟩ l)) zh rfl rfl rfl tH ((zO ⟨g,m,ar,⟨53,arg,t0⟩⟩ [rfT f.ty] _ (by omega) (by simp)).bad hS3 u) ?_|refine zN 1 12 13 1 11 zf (by kernel_rfl) (by kernel_rfl) rfl rfl rfl rfl rfl rfl rfl rfl rfl rfl rfl rfl rfl rfl rfl rfl rfl rfl rfl rfl rfl rfl ?_|refine yg rfl rfl ?_|refine ⟨_,_,rfl,rfl,?_⟩|(refine shC ?_;first|refine zx rfl (zI rfl rfl (zF (by first|rfl|assumption|simp [hC1]) 8)) rfl rfl ?_|refine AD.step _ _ _ _ _ rfl (zI rfl rfl (zF (by first|rfl|assumption|simp [hC1]) 8)) rfl rfl ?_|refine qC cr ?_)|(refine shX ?_;first|refine zx rfl (zq zf rfl rfl rfl rfl rfl rfl h0 hfe) rfl rfl ?_|refine AD.step _ _ _ _ _ rfl (zq zf rfl rfl rfl rfl rfl rfl h0 hfe) rfl rfl ?_)|refine sK ?_|refine sC (fun _=>?_) (fun _=>?_)|fail)
   exact zB hw
  | ok p =>
   obtain ⟨⟨⟩,l3⟩:=p
   have hw:(yI g m ⟨53,arg,t0⟩) l=.ok ((),l3):=by simp [yI,hf,zu,zC,hC1,zJ,emptyS,hS3]
   repeat' (first|refine zN 1 12 13 1 11 zf (by kernel_rfl) (by kernel_rfl) rfl rfl rfl rfl rfl rfl rfl rfl rfl rfl rfl rfl rfl rfl rfl rfl rfl rfl rfl rfl rfl rfl ?_|refine yg rfl rfl ?_|refine ⟨_,_,rfl,rfl,?_⟩|(refine shC ?_;first|refine zx rfl (zI rfl rfl (zF (by first|rfl|assumption|simp [hC1]) 8)) rfl rfl ?_|refine AD.step _ _ _ _ _ rfl (zI rfl rfl (zF (by first|rfl|assumption|simp [hC1]) 8)) rfl rfl ?_|refine qC cr ?_)|(refine shX ?_;first|refine zx rfl (zq zf rfl rfl rfl rfl rfl rfl h0 hfe) rfl rfl ?_|refine AD.step _ _ _ _ _ rfl (zq zf rfl rfl rfl rfl rfl rfl h0 hfe) rfl rfl ?_)|(refine zn ?_;first|(refine zo 0 zh rfl rfl ((zO ⟨g,m,ar,⟨53,arg,t0⟩⟩ [rfT f.ty] _ (by omega) (by simp)).ok hS3) rfl rfl rfl rfl rfl ?_))|refine sK ?_|refine sC (fun _=>?_) (fun _=>?_)|fail)
   exact zU hw (yw (.inl rfl) tH)
end Go.Cg
