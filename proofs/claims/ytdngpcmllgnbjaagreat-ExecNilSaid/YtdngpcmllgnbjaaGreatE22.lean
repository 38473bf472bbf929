/- A part of the walks by abstract values: no statement of its own. -/
import Derived.Test.YtdngpcmllgnbjaaGreatE18
import Derived.Test.YtdngpcmllgnbjaaGreatE8
import Derived.Test.YtdngpcmllgnbjaaGreatE6
set_option linter.unusedVariables false
set_option linter.unusedSimpArgs false
namespace Go.Cg
open Go.Proofs
set_option maxHeartbeats 20000000
def u8s (l:List Int):PV:=.slc 1 (l.map fun n=>.base (.int .u8 n)) false
theorem zpU (n:Int) (h0:0≤n) (h1:n≤128):ACall Tryz.prog 483 [pi n] (pi (if n < 128 then 1 else 2)):=by
 refine zf zh Tryz.func483 rfl (by kernel_rfl) Tryz.ntmps483 (by simp) _ rfl (fun hw gB hgB=>?_)
 by_cases h:n < 128
 ·repeat' (first|refine sK ?_|refine sC (fun _=>?_) (fun _=>?_)|fail)
  exact retq rfl (by simp [zn,h])
 ·repeat' (first|refine sK ?_|refine sC (fun _=>?_) (fun _=>?_)|fail)
  exact retq rfl (by simp [zn,h])
theorem zp6 (r:Int) (h0:1≤r) (h1:r≤32):ACall Tryz.prog 471 [pi 0,pi r] (.tup [pi (4 * r),pi 0]):=by
 refine zf zh Tryz.func471 rfl (by kernel_rfl) Tryz.ntmps471 (by simp) _ rfl (fun hw gB hgB=>?_)
 have hfin:∀ n:Fin 33,IntKind.i64.wrap ((BitVec.ofInt IntKind.i64.bits (IntKind.i64.wrap ((n.val:Int) * 2 ^ (min (Int.toNat 2) IntKind.i64.bits))) ||| BitVec.ofInt IntKind.i64.bits 0).toNat:Int)=4 * (n.val:Int):=by decide +kernel
 have hr:=hfin ⟨r.toNat,by omega⟩
 simp only [Int.toNat_of_nonneg (show 0≤r by omega)] at hr
 repeat' (first|refine zo rfl (zuH rfl rfl rfl (by decide)) rfl rfl ?_|refine sK ?_|refine sC (fun _=>?_) (fun _=>?_)|fail)
 exact retq rfl (by simp only [zn,hr])
theorem zfL (l:List Int) (hne:l≠[]) (hb:l.length≤100000):ACallR Tryz.prog 484 [u8s l] 5 1 (l.map fun n=>.base (.int .u8 n)):=by
 refine zaY (t:=2) Tryz.func484 rfl (by kernel_rfl) Tryz.ntmps484 (by simp) rfl (fun hw gB hgB=>?_)
 repeat' (first|refine Qk zh rfl rfl rfl rfl rfl rfl rfl (fun bb hbb=>?_)|refine zo rfl (Qh zh rfl rfl rfl rfl rfl) rfl rfl ?_|(refine zL ?_;first|refine XF 0 zh rfl rfl rfl (.inl rfl) rfl (by have:=List.length_pos_iff.2 hne;simpa using this) rfl (by show _ * 1≤_;simp;omega) (by simp;omega) rfl rfl rfl ?_)|refine sA ?_|refine sC (fun _=>?_) (fun _=>?_)|fail)
 ·rename_i hx
  exact (hne (by simpa using hbb hx)).elim
 ·exact ⟨.inr rfl,0,rfl,rfl⟩
def byteOf (X i:Int):Int:=IntKind.u8.wrap (X.fdiv (2 ^ (min (IntKind.i64.wrap (8 * i)).toNat IntKind.u32.bits)))
def bytesOf (X:Int) (k:Nat):List Int:=(List.range k).map fun m=>byteOf X ((k:Int) - 1 - (m:Nat))
abbrev u8c (n:Int):PV:=.base (.int .u8 n)
theorem zdQ {X:Int} {k m:Nat} (h:m < k):(bytesOf X k).take (m + 1)=(bytesOf X k).take m++[byteOf X ((k:Int) - 1 - (m:Nat))]:=by
 have hl:m < (bytesOf X k).length:=by simpa [bytesOf] using h
 rw [List.take_succ_eq_append_getElem hl]
 simp [bytesOf]
theorem zfV {X:Int} {k:Nat}:(bytesOf X k).take k=bytesOf X k:=List.take_of_length_le (by simp [bytesOf])
theorem zji (l:List Int) (hne:l≠[]) (hb:l.length≤1000) (n:Int) (h0:0≤n) (h1:n≤128):∃ bs:List Int,ACall Tryz.prog 472 [u8s l,pi n] (.tup [u8s (l++bs),pi 0]):=by
 have c1:=zpU n h0 (by omega)
 by_cases hn:n < 128
 ·rw [if_pos hn] at c1
  obtain ⟨X,hX⟩:∃ X,IntKind.u32.wrap ((BitVec.ofInt IntKind.u32.bits (IntKind.u32.wrap n) ||| BitVec.ofInt IntKind.u32.bits 0).toNat:Int)=X:=⟨_,rfl⟩
  refine ⟨bytesOf X 1,?_⟩
  refine zf zh Tryz.func472 rfl (by kernel_rfl) Tryz.ntmps472 (by simp) _ rfl (fun hw gB hgB=>?_)
  repeat' (first|refine zo rfl (zfF [(2,.int .u32 32768),(4,.int .u32 3221225472)] zh rfl rfl rfl rfl rfl rfl rfl) rfl rfl ?_|refine zo rfl (zm1 1 zh rfl rfl rfl rfl rfl rfl rfl rfl) rfl rfl ?_|refine zb7 0 rfl rfl rfl (zfL l hne (by omega)) (by decide) rfl rfl rfl ?_|(refine shC ?_;first|refine qC c1 ?_)|refine sK ?_|refine sC (fun _=>?_) (fun _=>?_)|fail)
  refine zB (fun m:Nat=>[(7,.pv (.base (.int .u32 X))),(8,.own 0),(9,.pv (pi (((1:Nat):Int) - 1 - (m:Nat))))]) (fun m=>[(0,.row 5 1 ((l++(bytesOf X 1).take m).map u8c))]) (fun m=>m≤1) (fun m=>1 - m) 0 (by omega) (by repeat (first|exact yu|refine zY rfl ?_|(refine qK rfl ?_ ?_;· first|exact hX|rfl))) ⟨qw rfl (by simp) zk,rfl⟩ ?_
  rintro m hm
  by_cases hlt:m < 1
  ·have hs0:0≤IntKind.i64.wrap (8 * (((1:Nat):Int) - 1 - (m:Nat))):=by rw [wrap_in (by omega) (by omega)];omega
   repeat' (first|refine zo rfl (zuw rfl rfl rfl hs0) rfl rfl ?_|(refine zL ?_;first|refine zX zh rfl rfl rfl rfl rfl rfl rfl (by show _ * 1≤_;simp [bytesOf];omega) (by simp [bytesOf];omega) rfl rfl ?_)|refine sK ?_|refine sC (fun _=>?_) (fun _=>?_)|fail)
   exact ⟨m + 1,hlt,tD,by repeat (first|exact yu|refine zY rfl ?_|(refine qK rfl ?_ ?_;· (rw [wrap_in (by omega) (by omega)];omega))),⟨qw rfl (by rw [zdQ hlt];simp [byteOf]) zk,rfl⟩⟩
  ·have:m=1:=by omega
   subst this
   repeat' (first|refine sK ?_|refine sC (fun _=>?_) (fun _=>?_)|fail)
   exact retq rfl (by rw [zfV];rfl)
 ·rw [if_neg hn] at c1
  obtain rfl:n=128:=by omega
  obtain ⟨X,hX⟩:∃ X,IntKind.u32.wrap ((BitVec.ofInt IntKind.u32.bits (IntKind.u32.wrap 128) ||| BitVec.ofInt IntKind.u32.bits 32768).toNat:Int)=X:=⟨_,rfl⟩
  refine ⟨bytesOf X 2,?_⟩
  refine zf zh Tryz.func472 rfl (by kernel_rfl) Tryz.ntmps472 (by simp) _ rfl (fun hw gB hgB=>?_)
  repeat' (first|refine zo rfl (zfF [(2,.int .u32 32768),(4,.int .u32 3221225472)] zh rfl rfl rfl rfl rfl rfl rfl) rfl rfl ?_|refine zo rfl (zm1 2 zh rfl rfl rfl rfl rfl rfl rfl rfl) rfl rfl ?_|refine zb7 0 rfl rfl rfl (zfL l hne (by omega)) (by decide) rfl rfl rfl ?_|(refine shC ?_;first|refine qC c1 ?_)|refine sK ?_|refine sC (fun _=>?_) (fun _=>?_)|fail)
  refine zB (fun m:Nat=>[(7,.pv (.base (.int .u32 X))),(8,.own 0),(9,.pv (pi (((2:Nat):Int) - 1 - (m:Nat))))]) (fun m=>[(0,.row 5 1 ((l++(bytesOf X 2).take m).map u8c))]) (fun m=>m≤2) (fun m=>2 - m) 0 (by omega) (by repeat (first|exact yu|refine zY rfl ?_|(refine qK rfl ?_ ?_;· first|exact hX|rfl))) ⟨qw rfl (by simp) zk,rfl⟩ ?_
  rintro m hm
  by_cases hlt:m < 2
  ·have hs0:0≤IntKind.i64.wrap (8 * (((2:Nat):Int) - 1 - (m:Nat))):=by rw [wrap_in (by omega) (by omega)];omega
   have hge:decide (0≤((2:Nat):Int) - 1 - (m:Nat))=true:=by simp;omega
   repeat' (first|refine zo rfl (zuw rfl rfl rfl hs0) rfl rfl ?_|(refine zL ?_;first|refine zX zh rfl rfl rfl rfl rfl rfl rfl (by show _ * 1≤_;simp [bytesOf];omega) (by simp [bytesOf];omega) rfl rfl ?_)|refine sK ?_|refine sC (fun _=>?_) (fun _=>?_)|fail)
   exact ⟨m + 1,hlt,tD,by repeat (first|exact yu|refine zY rfl ?_|(refine qK rfl ?_ ?_;· (rw [wrap_in (by omega) (by omega)];omega))),⟨qw rfl (by rw [zdQ hlt];simp [byteOf]) zk,rfl⟩⟩
  ·have:m=2:=by omega
   subst this
   repeat' (first|refine sK ?_|refine sC (fun _=>?_) (fun _=>?_)|fail)
   exact retq rfl (by rw [zfV];rfl)
end Go.Cg
