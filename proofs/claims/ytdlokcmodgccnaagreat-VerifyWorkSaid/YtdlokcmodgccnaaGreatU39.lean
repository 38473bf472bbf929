/- A part of the walks by abstract values: no statement of its own. -/
import Derived.Test.YtdlokcmodgccnaaGreatU36
import Derived.Test.YtdlokcmodgccnaaGreatU33
import Derived.Test.YtdlokcmodgccnaaGreatU37
set_option linter.unusedVariables false
set_option linter.unusedSimpArgs false
namespace Go.Cg
open Go.Proofs
def zpK:Except Int (Unit × List Ty)→PV
 | .error e=>.tup [.base (.slice none 0 0),pi e]
 | .ok p=>.tup [tys p.2,pi 0]
set_option maxHeartbeats 4000000 in
theorem zoa (g:Img) (hF:Fm g) (hgm:g.methods.length≤1000) (mi at_:Int) (l:List Ty) (hl:l.length≤100) (hm:mOk g mi) (hp:(mAt g mi).params.length≤100) (h0:0≤at_) (h1:at_.toNat < (mAt g mi).code.length) (hx:XOk g (ql (mAt g mi) at_)) :
  ACall Tryz.prog 77 [.ptr (zT g) 0,pi mi,pi at_,tys l] (zpK (stepS g mi at_ l)):=by
 have hem:(g.methods.map yB)[mi.toNat]?=some (yB (mAt g mi)):=by rw [mAt,zQ hm.2];exact yj hm.2
 have hei:((mAt g mi).code.map qj)[at_.toNat]?=some (qj (ql (mAt g mi) at_)):=by rw [ql,zQ h1];exact yj h1
 have hm0:=hm.1
 have hmlt:mi < g.methods.length:=by have:=hm.2;omega
 have halt:at_ < (mAt g mi).code.length:=by omega
 have cA:=zaT g (mAt g mi) (by omega)
 have hst:stepS g mi at_ l=doS g (QB g (mAt g mi)) (mAt g mi) (ql (mAt g mi) at_) l:=rfl
 rw [hst]
 have cd:=zrQ ⟨g,mAt g mi,QB g (mAt g mi),ql (mAt g mi) at_⟩ hF hgm hx l hl
 generalize mAt g mi=m at *
 generalize ql m at_=x at *
 refine zie zf Tryz.func77 rfl (by kernel_rfl) Tryz.ntmps77 (by simp) _ rfl (fun hw=>?_)
 refine VZ (zan fun gB=>?_)
 repeat' (first|refine Zo zf 1 rfl rfl rfl rfl rfl rfl rfl ?_|refine Zo zf 2 rfl rfl rfl rfl rfl rfl rfl ?_|refine sK ?_|refine sC (fun _=>?_) (fun _=>?_)|fail)
 refine VZ (zan fun gB=>?_)
 repeat' (first|refine zx rfl (XW (b:=false) rfl Tryz.underlying64 rfl rfl) rfl rfl ?_|refine AD.step _ _ _ _ _ rfl (XW (b:=false) rfl Tryz.underlying64 rfl rfl) rfl rfl ?_|refine sK ?_|refine sC (fun _=>?_) (fun _=>?_)|fail)
 refine VZ (zan fun gB=>?_)
 repeat' (first|(refine shX ?_;first|refine zx rfl (zq zf rfl rfl rfl rfl rfl rfl hm0 hem) rfl rfl ?_|refine AD.step _ _ _ _ _ rfl (zq zf rfl rfl rfl rfl rfl rfl hm0 hem) rfl rfl ?_)|refine sK ?_|refine sC (fun _=>?_) (fun _=>?_)|fail)
 refine zf6 1 2001 rfl rfl fun p1=>zf6 2 2002 rfl rfl fun p2=>?_
 refine VZ (zeQ (k:=1) rfl rfl rfl rfl rfl fun gB=>?_)
 repeat' (first|refine sK ?_|refine sC (fun _=>?_) (fun _=>?_)|fail)
 refine ⟨_,_,[p1,p2],rfl,⟨⟨2001,rfl⟩,⟨2002,rfl⟩,trivial⟩,?_⟩
 refine zan fun gB=>?_
 cases hS:doS g (QB g m) m x l with
 | error e =>
  repeat' (first|refine zl 8 1 rfl rfl rfl ?_|refine zaH (yP u ⟨g,m,QB g m,x⟩ l) (rbH (.base (.slice none 0 0)) (pi 0) p1 p2) zh rfl rfl rfl (by repeat (first|exact zG|refine zD rfl ?_)) rfl (cd.bad hS u) ?_|refine zro 0 1000 rfl rfl (fun u=>?_)|refine zfD 0 rfl (zik _) ?_|refine Zo zf 3 rfl rfl rfl rfl rfl rfl rfl ?_|refine zV 22 20 rfl (by kernel_rfl) (by kernel_rfl) (by kernel_rfl) (by kernel_rfl) (by kernel_rfl) ?_|refine AD.step _ _ _ _ _ rfl (Xu zf rfl rfl (.inl rfl) rfl rfl (by show _ * 32≤_;simp;omega) (by simp;omega)) rfl rfl ?_|refine AD.step _ _ _ _ _ rfl (XA zf rfl rfl rfl rfl rfl) rfl rfl ?_|(refine shC ?_;first|refine qC cA ?_)|(refine shX ?_;first|refine zx rfl (zq zf rfl rfl rfl rfl rfl rfl hm0 hem) rfl rfl ?_|refine AD.step _ _ _ _ _ rfl (zq zf rfl rfl rfl rfl rfl rfl hm0 hem) rfl rfl ?_|refine zx rfl (zq zf rfl rfl rfl rfl rfl rfl h0 hei) rfl rfl ?_|refine AD.step _ _ _ _ _ rfl (zq zf rfl rfl rfl rfl rfl rfl h0 hei) rfl rfl ?_)|(refine Qp ?_;first|refine Vk 0 rfl rfl rfl rfl rfl rfl ?_)|refine sK ?_|refine sC (fun _=>?_) (fun _=>?_)|fail)
  exact ⟨_,_,_,[8,9],[.box 1 0,.box 2 0],[p1,p2],rbH (.base (.slice none 0 0)) (pi 0) p1 p2,rbH (.base (.slice none 0 0)) (pi e) p1 p2,[.base (.slice none 0 0),pi e],rfl,rfl,tH,⟨⟨2001,rfl⟩,⟨2002,rfl⟩,trivial⟩,⟨⟨2001,rfl⟩,⟨2002,rfl⟩,trivial⟩,zod p1 p2 e,rfl,rfl,by decide,tS,rfl,rfl⟩
 | ok p =>
  obtain ⟨⟨⟩,l2⟩:=p
  repeat' (first|refine zro 0 1000 rfl rfl (fun u=>?_)|refine zfD 0 rfl (zik _) ?_|refine Zo zf 3 rfl rfl rfl rfl rfl rfl rfl ?_|refine zV 22 20 rfl (by kernel_rfl) (by kernel_rfl) (by kernel_rfl) (by kernel_rfl) (by kernel_rfl) ?_|refine AD.step _ _ _ _ _ rfl (Xu zf rfl rfl (.inl rfl) rfl rfl (by show _ * 32≤_;simp;omega) (by simp;omega)) rfl rfl ?_|refine AD.step _ _ _ _ _ rfl (XA zf rfl rfl rfl rfl rfl) rfl rfl ?_|(refine shC ?_;first|refine qC cA ?_)|(refine shX ?_;first|refine zx rfl (zq zf rfl rfl rfl rfl rfl rfl hm0 hem) rfl rfl ?_|refine AD.step _ _ _ _ _ rfl (zq zf rfl rfl rfl rfl rfl rfl hm0 hem) rfl rfl ?_|refine zx rfl (zq zf rfl rfl rfl rfl rfl rfl h0 hei) rfl rfl ?_|refine AD.step _ _ _ _ _ rfl (zq zf rfl rfl rfl rfl rfl rfl h0 hei) rfl rfl ?_)|(refine zn ?_;first|(refine zo 0 zh rfl rfl (cd.ok hS) rfl rfl rfl rfl rfl ?_))|(refine Qp ?_;first|refine Vk 0 rfl rfl rfl rfl rfl rfl ?_)|refine sK ?_|refine sC (fun _=>?_) (fun _=>?_)|fail)
  exact ⟨_,_,_,[8,9],[.box 1 0,.box 2 0],[p1,p2],rbH (tys l2) (pi 0) p1 p2,rbH (tys l2) (pi 0) p1 p2,[tys l2,pi 0],rfl,rfl,tH,⟨⟨2001,rfl⟩,⟨2002,rfl⟩,trivial⟩,⟨⟨2001,rfl⟩,⟨2002,rfl⟩,trivial⟩,zmY _ _ p1 p2,rfl,rfl,by decide,tS,rfl,rfl⟩
end Go.Cg
