/- A part of the walks by abstract values: no statement of its own. -/
import Derived.Test.YtdngpcmllgnbjaaGreatE30
import Derived.Test.YtdngpcmllgnbjaaGreatE35
set_option linter.unusedVariables false
set_option linter.unusedSimpArgs false
namespace Go.Cg
open Go.Proofs
def zsB:Except Int (Unit × List Ty)→PV
 | .error e=>.tup [.base (.slice none 0 0),pi e]
 | .ok p=>.tup [tys p.2,pi 0]
set_option maxHeartbeats 4000000 in
theorem zq7 (g:Img) (hF:Fm g) (hgm:g.methods.length≤1000) (mi at_:Int) (l:List Ty) (hl:l.length≤100) (hm:mOk g mi) (hp:(mAt g mi).params.length≤100) (h0:0≤at_) (h1:at_.toNat < (mAt g mi).code.length) (hL:zgo (yO (mAt g mi) at_)) :
  ACall Tryz.prog 37 [.ptr (zx g) 0,pi mi,pi at_,tys l] (zsB (stepS g mi at_ l)):=by
 have hem:(g.methods.map zG)[mi.toNat]?=some (zG (mAt g mi)):=by rw [mAt,zM hm.2];exact yc hm.2
 have hei:((mAt g mi).code.map yR)[at_.toNat]?=some (yR (yO (mAt g mi) at_)):=by rw [yO,zM h1];exact yc h1
 have hm0:=hm.1
 have hmlt:mi < g.methods.length:=by have:=hm.2;omega
 have halt:at_ < (mAt g mi).code.length:=by omega
 have cA:=zco g (mAt g mi) (by omega)
 have hst:stepS g mi at_ l=doS g (zax g (mAt g mi)) (mAt g mi) (yO (mAt g mi) at_) l:=rfl
 rw [hst]
 have cd:=zui ⟨g,mAt g mi,zax g (mAt g mi),yO (mAt g mi) at_⟩ hF hL l hl
 generalize mAt g mi=m at *
 generalize yO m at_=x at *
 refine zi7 zh Tryz.func37 rfl (by kernel_rfl) Tryz.ntmps37 (by simp) _ rfl (fun hw=>?_)
 refine VL (VI fun gB=>?_)
 repeat' (first|refine qx zh 1 rfl rfl rfl rfl rfl rfl rfl ?_|refine qx zh 2 rfl rfl rfl rfl rfl rfl rfl ?_|refine sK ?_|refine sC (fun _=>?_) (fun _=>?_)|fail)
 refine VL (VI fun gB=>?_)
 repeat' (first|refine zo rfl (yI (b:=false) rfl Tryz.underlying71 rfl rfl) rfl rfl ?_|refine AD.step _ _ _ _ _ rfl (yI (b:=false) rfl Tryz.underlying71 rfl rfl) rfl rfl ?_|refine sK ?_|refine sC (fun _=>?_) (fun _=>?_)|fail)
 refine VL (VI fun gB=>?_)
 repeat' (first|(refine shX ?_;first|refine zo rfl (zl zh rfl rfl rfl rfl rfl rfl hm0 hem) rfl rfl ?_|refine AD.step _ _ _ _ _ rfl (zl zh rfl rfl rfl rfl rfl rfl hm0 hem) rfl rfl ?_)|refine sK ?_|refine sC (fun _=>?_) (fun _=>?_)|fail)
 refine zgr 1 2001 rfl rfl fun p1=>zgr 2 2002 rfl rfl fun p2=>?_
 refine VL (zeP (k:=1) rfl rfl rfl rfl rfl fun gB=>?_)
 repeat' (first|refine sK ?_|refine sC (fun _=>?_) (fun _=>?_)|fail)
 refine ⟨_,_,[p1,p2],rfl,⟨⟨2001,rfl⟩,⟨2002,rfl⟩,trivial⟩,?_⟩
 refine VI fun gB=>?_
 cases hS:doS g (zax g m) m x l with
 | error e =>
  repeat' (first|refine zD 8 1 rfl rfl rfl ?_|refine zaE (Vj u ⟨g,m,zax g m,x⟩ l) (rbH (.base (.slice none 0 0)) (pi 0) p1 p2) zq rfl rfl rfl (by repeat (first|exact zk|refine zi rfl ?_)) rfl (cd.bad hS u) ?_|refine zon 0 1000 rfl rfl (fun u=>?_)|refine zbI 0 rfl (zi1 _) ?_|refine qx zh 3 rfl rfl rfl rfl rfl rfl rfl ?_|refine yG 22 20 rfl (by kernel_rfl) (by kernel_rfl) (by kernel_rfl) (by kernel_rfl) (by kernel_rfl) ?_|refine AD.step _ _ _ _ _ rfl (ZR zh rfl rfl (.inl rfl) rfl rfl (by show _ * 32≤_;simp;omega) (by simp;omega)) rfl rfl ?_|refine AD.step _ _ _ _ _ rfl (Qh zh rfl rfl rfl rfl rfl) rfl rfl ?_|(refine shC ?_;first|refine qC cA ?_)|(refine shX ?_;first|refine zo rfl (zl zh rfl rfl rfl rfl rfl rfl hm0 hem) rfl rfl ?_|refine AD.step _ _ _ _ _ rfl (zl zh rfl rfl rfl rfl rfl rfl hm0 hem) rfl rfl ?_|refine zo rfl (zl zh rfl rfl rfl rfl rfl rfl h0 hei) rfl rfl ?_|refine AD.step _ _ _ _ _ rfl (zl zh rfl rfl rfl rfl rfl rfl h0 hei) rfl rfl ?_)|(refine Zb ?_;first|refine Yt 0 rfl rfl rfl rfl rfl rfl ?_)|refine sK ?_|refine sC (fun _=>?_) (fun _=>?_)|fail)
  exact ⟨_,_,_,[8,9],[.box 1 0,.box 2 0],[p1,p2],rbH (.base (.slice none 0 0)) (pi 0) p1 p2,rbH (.base (.slice none 0 0)) (pi e) p1 p2,[.base (.slice none 0 0),pi e],rfl,rfl,tH,⟨⟨2001,rfl⟩,⟨2002,rfl⟩,trivial⟩,⟨⟨2001,rfl⟩,⟨2002,rfl⟩,trivial⟩,zql p1 p2 e,rfl,rfl,by decide,tS,rfl,rfl⟩
 | ok p =>
  obtain ⟨⟨⟩,l2⟩:=p
  repeat' (first|refine zon 0 1000 rfl rfl (fun u=>?_)|refine zbI 0 rfl (zi1 _) ?_|refine qx zh 3 rfl rfl rfl rfl rfl rfl rfl ?_|refine yG 22 20 rfl (by kernel_rfl) (by kernel_rfl) (by kernel_rfl) (by kernel_rfl) (by kernel_rfl) ?_|refine AD.step _ _ _ _ _ rfl (ZR zh rfl rfl (.inl rfl) rfl rfl (by show _ * 32≤_;simp;omega) (by simp;omega)) rfl rfl ?_|refine AD.step _ _ _ _ _ rfl (Qh zh rfl rfl rfl rfl rfl) rfl rfl ?_|(refine shC ?_;first|refine qC cA ?_)|(refine shX ?_;first|refine zo rfl (zl zh rfl rfl rfl rfl rfl rfl hm0 hem) rfl rfl ?_|refine AD.step _ _ _ _ _ rfl (zl zh rfl rfl rfl rfl rfl rfl hm0 hem) rfl rfl ?_|refine zo rfl (zl zh rfl rfl rfl rfl rfl rfl h0 hei) rfl rfl ?_|refine AD.step _ _ _ _ _ rfl (zl zh rfl rfl rfl rfl rfl rfl h0 hei) rfl rfl ?_)|(refine zy ?_;first|(refine qF 0 zq rfl rfl (cd.ok hS) rfl rfl rfl rfl rfl ?_))|(refine Zb ?_;first|refine Yt 0 rfl rfl rfl rfl rfl rfl ?_)|refine sK ?_|refine sC (fun _=>?_) (fun _=>?_)|fail)
  exact ⟨_,_,_,[8,9],[.box 1 0,.box 2 0],[p1,p2],rbH (tys l2) (pi 0) p1 p2,rbH (tys l2) (pi 0) p1 p2,[tys l2,pi 0],rfl,rfl,tH,⟨⟨2001,rfl⟩,⟨2002,rfl⟩,trivial⟩,⟨⟨2001,rfl⟩,⟨2002,rfl⟩,trivial⟩,znP _ _ p1 p2,rfl,rfl,by decide,tS,rfl,rfl⟩
end Go.Cg
