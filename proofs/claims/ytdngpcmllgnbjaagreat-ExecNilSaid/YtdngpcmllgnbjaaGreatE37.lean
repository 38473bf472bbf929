/- A part of the walks by abstract values: no statement of its own. -/
import Derived.Test.YtdngpcmllgnbjaaGreatE35
import Derived.Test.YtdngpcmllgnbjaaGreatE9
set_option linter.unusedVariables false
set_option linter.unusedSimpArgs false
namespace Go.Cg
open Go.Proofs
set_option maxHeartbeats 20000000
theorem zqh (g:Img) (hf:zV g=true) (t:Ty):ACall Tryz.prog 252 [zx g,yK t] (pb (ziy g t)):=by
 have ck:=qZ g hf t.index
 refine zf zh Tryz.func252 rfl (by kernel_rfl) Tryz.ntmps252 (by simp) _ rfl (fun hw gB hgB=>?_)
 rw [ziy]
 generalize zF g t.index=k at ck ⊢
 repeat' (first|(refine shC ?_;first|refine qC ck ?_)|refine sA ?_|refine sC (fun _=>?_) (fun _=>?_)|fail)
 all_goals (refine retq rfl ?_;simp_all [zn])
theorem zm6 (g:Img) (hf:zV g=true) (t:Ty):ACall Tryz.prog 251 ([]++[yK t]++[.ptr (zx g) 0]) (pb (!ziy g t)):=by
 show ACall Tryz.prog 251 [yK t,.ptr (zx g) 0] (pb (!ziy g t))
 refine zf zh Tryz.func251 rfl (by kernel_rfl) Tryz.ntmps251 (by simp) _ rfl (fun hw gB hgB=>?_)
 repeat' (first|(refine shC ?_;first|refine qC (zqh g hf t) ?_)|refine sA ?_|refine sC (fun _=>?_) (fun _=>?_)|fail)
 exact retq rfl rfl
def Qm (a b c:List Ty):Nat→Int
 | 0=>0
 | 1=>a.length
 | 2=>a.length + b.length
 | _=>a.length + b.length + c.length
def zdX (a b c:List Ty):Nat→List Ty
 | 0=>[]
 | 1=>a
 | 2=>a++b
 | _=>a++b++c
theorem zkM (a b c:List Ty) (ha:a.length≤100) (hb:b.length≤100) (hc:c.length≤100):ACallR Tryz.prog 250 [.slc 1 [tys a,tys b,tys c] true] 44 4 ((a++b++c).map yK):=by
 refine zaY Tryz.func250 rfl (by kernel_rfl) Tryz.ntmps250 (by simp) rfl (fun hw gB hgB=>?_)
 repeat' (first|refine sK ?_|refine sC (fun _=>?_) (fun _=>?_)|fail)
 refine zB (fun k:Nat=>[(0,.pv (.slc 1 [tys a,tys b,tys c] true)),(9,.pv (.slc 1 [tys a,tys b,tys c] true)),(10,.pv (pi 3)),(11,.pv (pi k)),(3,.pv (pi (Qm a b c k)))]) (fun _=>[]) (fun k=>k≤3) (fun k=>3 - k) 0 (by omega) (tS) tH ?_
 intro k hk
 have hk3:k=0∨k=1∨k=2∨k=3:=by omega
 rcases hk3 with rfl|rfl|rfl|rfl
 ·repeat' (first|refine zo rfl (zcU zh rfl (by first|omega|(simp [Qm] <;> omega)) (by first|omega|(simp [Qm] <;> omega))) rfl rfl ?_|(refine shX ?_;first|refine zo rfl (zl zh rfl rfl rfl rfl rfl rfl (by decide) rfl) rfl rfl ?_|refine AD.step _ _ _ _ _ rfl (zl zh rfl rfl rfl rfl rfl rfl (by decide) rfl) rfl rfl ?_)|refine sK ?_|refine sC (fun _=>?_) (fun _=>?_)|fail)
  exact ⟨1,by omega,tD,by repeat (first|exact yu|refine zY rfl ?_|(refine qK rfl ?_ ?_;· (first|(simp [Qm];done)|(simp [Qm];omega)|omega))),tH⟩
 ·repeat' (first|refine zo rfl (zcU zh rfl (by first|omega|(simp [Qm] <;> omega)) (by first|omega|(simp [Qm] <;> omega))) rfl rfl ?_|(refine shX ?_;first|refine zo rfl (zl zh rfl rfl rfl rfl rfl rfl (by decide) rfl) rfl rfl ?_|refine AD.step _ _ _ _ _ rfl (zl zh rfl rfl rfl rfl rfl rfl (by decide) rfl) rfl rfl ?_)|refine sK ?_|refine sC (fun _=>?_) (fun _=>?_)|fail)
  exact ⟨2,by omega,tD,by repeat (first|exact yu|refine zY rfl ?_|(refine qK rfl ?_ ?_;· (first|(simp [Qm];done)|(simp [Qm];omega)|omega))),tH⟩
 ·repeat' (first|refine zo rfl (zcU zh rfl (by first|omega|(simp [Qm] <;> omega)) (by first|omega|(simp [Qm] <;> omega))) rfl rfl ?_|(refine shX ?_;first|refine zo rfl (zl zh rfl rfl rfl rfl rfl rfl (by decide) rfl) rfl rfl ?_|refine AD.step _ _ _ _ _ rfl (zl zh rfl rfl rfl rfl rfl rfl (by decide) rfl) rfl rfl ?_)|refine sK ?_|refine sC (fun _=>?_) (fun _=>?_)|fail)
  exact ⟨3,by omega,tD,by repeat (first|exact yu|refine zY rfl ?_|(refine qK rfl ?_ ?_;· (first|(simp [Qm];done)|(simp [Qm];omega)|omega))),tH⟩
 ·repeat' (first|(refine zy ?_;first|refine zb7 0 rfl rfl rfl (zjs _ (by simp [Qm];omega) (by simp [Qm];omega)) (by decide) rfl rfl rfl ?_)|refine sK ?_|refine sC (fun _=>?_) (fun _=>?_)|fail)
  refine zB (fun k:Nat=>[(6,.own 0),(25,.pv (.slc 1 [tys a,tys b,tys c] true)),(26,.pv (pi 3)),(27,.pv (pi k))]) (fun k=>[(0,.row 44 4 ((zdX a b c k).map yK))]) (fun k=>k≤3) (fun k=>3 - k) 0 (by omega) (tS) tH ?_
  intro k hk
  have hk3:k=0∨k=1∨k=2∨k=3:=by omega
  rcases hk3 with rfl|rfl|rfl|rfl
  ·repeat' (first|refine zo rfl (zcU zh rfl (by first|omega|(simp [Qm] <;> omega)) (by first|omega|(simp [Qm] <;> omega))) rfl rfl ?_|(refine shX ?_;first|refine zo rfl (zl zh rfl rfl rfl rfl rfl rfl (by decide) rfl) rfl rfl ?_|refine AD.step _ _ _ _ _ rfl (zl zh rfl rfl rfl rfl rfl rfl (by decide) rfl) rfl rfl ?_)|(refine zL ?_;first|refine zX zh rfl rfl rfl rfl rfl rfl rfl (by show _ * 32≤_;simp [zdX];omega) (by simp [zdX];omega) rfl rfl ?_)|refine sK ?_|refine sC (fun _=>?_) (fun _=>?_)|fail)
   exact ⟨1,by omega,tD,by repeat (first|exact yu|refine zY rfl ?_|(refine qK rfl ?_ ?_;· omega)),⟨zi rfl zk,rfl⟩⟩
  ·repeat' (first|refine zo rfl (zcU zh rfl (by first|omega|(simp [Qm] <;> omega)) (by first|omega|(simp [Qm] <;> omega))) rfl rfl ?_|(refine shX ?_;first|refine zo rfl (zl zh rfl rfl rfl rfl rfl rfl (by decide) rfl) rfl rfl ?_|refine AD.step _ _ _ _ _ rfl (zl zh rfl rfl rfl rfl rfl rfl (by decide) rfl) rfl rfl ?_)|(refine zL ?_;first|refine zX zh rfl rfl rfl rfl rfl rfl rfl (by show _ * 32≤_;simp [zdX];omega) (by simp [zdX];omega) rfl rfl ?_)|refine sK ?_|refine sC (fun _=>?_) (fun _=>?_)|fail)
   exact ⟨2,by omega,tD,by repeat (first|exact yu|refine zY rfl ?_|(refine qK rfl ?_ ?_;· omega)),⟨zi (by show some (HE.row 44 4 (_++_))=_;simp [zdX]) zk,rfl⟩⟩
  ·repeat' (first|refine zo rfl (zcU zh rfl (by first|omega|(simp [Qm] <;> omega)) (by first|omega|(simp [Qm] <;> omega))) rfl rfl ?_|(refine shX ?_;first|refine zo rfl (zl zh rfl rfl rfl rfl rfl rfl (by decide) rfl) rfl rfl ?_|refine AD.step _ _ _ _ _ rfl (zl zh rfl rfl rfl rfl rfl rfl (by decide) rfl) rfl rfl ?_)|(refine zL ?_;first|refine zX zh rfl rfl rfl rfl rfl rfl rfl (by show _ * 32≤_;simp [zdX];omega) (by simp [zdX];omega) rfl rfl ?_)|refine sK ?_|refine sC (fun _=>?_) (fun _=>?_)|fail)
   exact ⟨3,by omega,tD,by repeat (first|exact yu|refine zY rfl ?_|(refine qK rfl ?_ ?_;· omega)),⟨zi (by show some (HE.row 44 4 (_++_))=_;simp [zdX]) zk,rfl⟩⟩
  ·repeat' (first|refine sK ?_|refine sC (fun _=>?_) (fun _=>?_)|fail)
   exact ⟨.inr rfl,0,rfl,rfl⟩
theorem zjg {α β:Type} {l:List α} {p:α→Bool} {f:α→β} {k:Nat} (h:k < l.length):(((l.take (k + 1)).filter p).map f)=((l.take k).filter p).map f++(if p l[k] then [f l[k]] else []):=by
 rw [List.take_succ_eq_append_getElem h,List.filter_append,List.map_append]
 cases hp:p l[k] <;> simp [hp]
end Go.Cg
