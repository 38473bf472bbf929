/- A part of the walks by abstract values: no statement of its own. -/
import Derived.Test.YtemhfmmhkimhmaaGreatI11
import Derived.Test.YtemhfmmhkimhmaaGreatI9
import Derived.Test.YtemhfmmhkimhmaaGreatI8
import Derived.Test.YtemhfmmhkimhmaaGreatI18
set_option linter.unusedVariables false
set_option linter.unusedSimpArgs false
namespace Go.Cg
open Go.Proofs
set_option maxHeartbeats 20000000
theorem zcw (l:List Ty) (hb:l.length<=1000):ACall Tryz.prog 44 [tys l] (tys l):=by
 refine zh zf Tryz.func44 rfl zws Tryz.ntmps44 zwy63 _ rfl (fun hw gB hgB=>?_)
 repeat' (first|refine WB zf rfl rfl rfl rfl rfl rfl rfl (fun bb hbb=>?_)|refine zy rfl (WI zf rfl rfl rfl rfl rfl) rfl rfl ?_|(refine yj ?_;first|refine zy rfl (Qq zf rfl rfl (.inl rfl) rfl rfl zwy106 zwy64) rfl rfl ?_)|refine sA ?_|refine sC (fun _=>?_) (fun _=>?_)|fail)
 ·rename_i h;have:l=[]:=by have:=hbb h;simpa using this
  subst this;exact zbV (t:=2) (ps:=[tys []]) rfl (QY 4 false) rfl rfl
 ·exact retq rfl rfl
theorem zwk3 {G:Prop} (h:G:=by repeat' (first|refine sK ?_|refine sC (fun _=>?_) (fun _=>?_)|exact retq rfl rfl|fail)):G:=h
theorem zbs (l:List Ty) (k:Int) (h:k < 0\/(l.length:Int) < k):ACall Tryz.prog 215 [tys l,pi k] (.tup [.base (.slice none 0 0),.base (.slice none 0 0),pi 9]):=by
 refine zh zf Tryz.func215 rfl zws Tryz.ntmps215 zwy63 _ rfl (fun hw gB hgB=>?_);have hl:=zcL hw.1;rcases h with h|h
 ·exact zwk3
 ·by_cases h2:k < 0
  ·exact zwk3
  ·exact zwk3
theorem zmU (l:List Ty) (k:Int) (hb:l.length<=1000) (h:0<=k) (h2:k<=l.length):ACall Tryz.prog 215 [tys l,pi k] (.tup [tys (l.take (l.length - k.toNat)),tys (l.drop (l.length - k.toNat)),pi 0]):=by
 refine zh zf Tryz.func215 rfl zws Tryz.ntmps215 zwy63 _ rfl (fun hw gB hgB=>?_);have hl:=zcL hw.1;have hm:IntKind.i64.wrap (((l.map yI).length:Int) - k)=((l.length - k.toNat:Nat):Int):=by
  rw [List.length_map,wrap_in zwy62 zwy62];omega
 repeat' (first|refine zq rfl (ZG (xs:=l) (f:=yI) 0 (l.length - k.toNat) zf rfl rfl rfl rfl rfl rfl (congrArg some hm) zwy62 zwy62) rfl rfl ?_|refine zq rfl (ZG (xs:=l) (f:=yI) (l.length - k.toNat) l.length zf rfl rfl rfl rfl rfl (congrArg some hm) (by simp [Xb]) zwy62 zwy62) rfl rfl ?_|(refine shC ?_;first|refine zy rfl (zJ rfl rfl (zcw _ zwy64)) rfl rfl ?_|refine zq rfl (zJ rfl rfl (zcw _ zwy64)) rfl rfl ?_)|refine sK ?_|refine sC (fun _=>?_) (fun _=>?_)|fail)
 exact retq rfl (by simp [zn])
set_option maxHeartbeats 20000000
def zel (a b:List Ty):Nat->Int
 | 0=>0
 | 1=>a.length
 | _=>a.length + b.length
def zpf (a b:List Ty):Nat->List Ty
 | 0=>[]
 | 1=>a
 | _=>a++b
theorem zwk4 {G:Prop} (h:G:=by repeat' (first|(have:=b0;refine zy rfl (zef zf rfl (by first|omega|(simp [zel] <;> omega)) (by first|omega|(simp [zel] <;> omega))) rfl rfl ?_)|(refine shX ?_;first|(have:=b0;refine zy rfl (zk zf rfl rfl rfl rfl rfl rfl zwy69 rfl) rfl rfl ?_)|(have:=b0;refine zq rfl (zk zf rfl rfl rfl rfl rfl rfl zwy69 rfl) rfl rfl ?_))|(have:=b1;refine yj ?_;first|refine yV zf rfl rfl rfl rfl rfl rfl rfl (by show _ * 32<=_;simp [zpf];omega) (by simp [zpf];omega) rfl rfl ?_)|refine sK ?_|refine sC (fun _=>?_) (fun _=>?_)|(have:=b2;exact ⟨1,by omega,tD,by repeat (first|exact yO|refine yA rfl ?_|(refine qW rfl ?_ ?_;· (first|(simp [zel];done)|(simp [zel];omega)|omega))),tH⟩)|(have:=b3;exact ⟨2,by omega,tD,by repeat (first|exact yO|refine yA rfl ?_|(refine qW rfl ?_ ?_;· (first|(simp [zel];done)|(simp [zel];omega)|omega))),tH⟩)|(have:=b4;exact ⟨1,by omega,tD,by repeat (first|exact yO|refine yA rfl ?_|(refine qW rfl ?_ ?_;· omega)),⟨aB zC,rfl⟩⟩)|(have:=b5;exact ⟨2,by omega,tD,by repeat (first|exact yO|refine yA rfl ?_|(refine qW rfl ?_ ?_;· omega)),⟨zA (by show some (HE.row 32 4 (_++_))=_;simp [zpf]) zC,rfl⟩⟩)|(have:=b6;exact retq rfl (by simp [zn,zpf,tys]))|fail)):G:=h
theorem zgY (a b:List Ty) (ha:a.length<=200) (hb:b.length<=200):ACall Tryz.prog 66 [.slc 1 [tys a,tys b] true] (tys (a++b)):=by
 refine zh zf Tryz.func66 rfl zws Tryz.ntmps66 zwy63 _ rfl (fun hw gB hgB=>?_)
 repeat' (first|refine sK ?_|refine sC (fun _=>?_) (fun _=>?_)|fail)
 refine zL (fun k:Nat=>[(0,.pv (.slc 1 [tys a,tys b] true)),(9,.pv (.slc 1 [tys a,tys b] true)),(10,.pv (pi 2)),(11,.pv (pi k)),(3,.pv (pi (zel a b k)))]) (fun _=>[]) (fun k=>k<=2) (fun k=>2 - k) 0 zwy62 (tS) tH ?_;intro k hk;have hk3:k=0\/k=1\/k=2:=by omega
 rcases hk3 with rfl|rfl|rfl
 ·have b0:=();have b2:=();exact zwk4
 ·have b0:=();have b3:=();exact zwk4
 ·repeat' (first|(refine zu ?_;first|refine zdj 0 rfl rfl rfl (zko _ (by simp [zel];omega) (by simp [zel];omega)) zwy69 rfl rfl rfl ?_)|refine sK ?_|refine sC (fun _=>?_) (fun _=>?_)|fail)
  refine zL (fun k:Nat=>[(6,.own 0),(25,.pv (.slc 1 [tys a,tys b] true)),(26,.pv (pi 2)),(27,.pv (pi k))]) (fun k=>[(0,.row 32 4 ((zpf a b k).map yI))]) (fun k=>k<=2) (fun k=>2 - k) 0 zwy62 (tS) tH ?_;intro k hk;have hk3:k=0\/k=1\/k=2:=by omega
  rcases hk3 with rfl|rfl|rfl
  ·have b0:=();have b1:=();have b4:=();exact zwk4
  ·have b0:=();have b1:=();have b5:=();exact zwk4
  ·have b6:=();exact zwk4
theorem zr8 (a b:List Ty) (m:Int) (ha:a.length<=200) (hb:b.length<=200) (h:(a.length + b.length:Int)<=m):ACall Tryz.prog 214 [tys a,pi m,tys b] (.tup [tys (a++b),pi 0]):=by
 refine zh zf Tryz.func214 rfl zws Tryz.ntmps214 zwy63 _ rfl (fun hw gB hgB=>?_);have hl:¬ (m < (((a++b).map yI).length:Int)):=by simp;omega
 repeat' (first|(refine shC ?_;first|refine qC (zgY a b ha hb) ?_)|refine sK ?_|refine sC (fun _=>?_) (fun _=>?_)|fail)
 all_goals exact retq rfl (by simp [zn])
theorem zlX (a b:List Ty) (m:Int) (ha:a.length<=200) (hb:b.length<=200) (h:m < (a.length + b.length:Int)):ACall Tryz.prog 214 [tys a,pi m,tys b] (.tup [.base (.slice none 0 0),pi 9]):=by
 refine zh zf Tryz.func214 rfl zws Tryz.ntmps214 zwy63 _ rfl (fun hw gB hgB=>?_);have hl:m < (((a++b).map yI).length:Int):=by simp;omega
 repeat' (first|(refine shC ?_;first|refine qC (zgY a b ha hb) ?_)|refine sK ?_|refine sC (fun _=>?_) (fun _=>?_)|fail)
 all_goals exact retq rfl (by simp [zn])
end Go.Cg
