/- A part of the walks by abstract values: no statement of its own. -/
import Derived.Test.YtdngpcmllgnbjaaGreatE23
set_option linter.unusedVariables false
set_option linter.unusedSimpArgs false
namespace Go.Cg
open Go.Proofs
set_option maxHeartbeats 20000000
theorem zj5 (x:Pt) (at_:Int):ACall Tryz.prog 368 [.agg [pi x.f,pi x.t],pi at_] (pb (zdd at_ x)):=by
 refine zf zh Tryz.func368 rfl (by kernel_rfl) Tryz.ntmps368 (by simp) _ rfl (fun hw gB hgB=>?_)
 repeat' (first|refine sA ?_|refine sC (fun _=>?_) (fun _=>?_)|fail)
 all_goals (refine retq rfl ?_;simp_all [zn,zdd];try omega)
theorem Vb (l:List Cl) (at_:Int) (hl:l.length≤6) (hs:∀ x∈zcJ at_ l,SmP x):ACall Tryz.prog 318 [cls l,pi at_] (pts (yU l at_)):=by
 have hlen:(zcJ at_ l).length < 20:=by have:=zcz at_ l l.length;rw [zcJ];omega
 have hso:∀ us,ACallM _ _ _ _ _ _ _:=fun us=>znv (zcJ at_ l) hlen hs us
 have hco:∀ us,ACallM _ _ _ _ _ _ _:=fun us=>zks (Xb (zcJ at_ l)) (by rw [zeI];exact hlen) us
 refine zf zh Tryz.func318 rfl (by kernel_rfl) Tryz.ntmps318 (by simp) _ rfl (fun hw gB hgB=>?_)
 repeat' (first|refine zfE (t:=5) 0 362 4 (by decide) rfl rfl ?_|refine sA ?_|refine sC (fun _=>?_) (fun _=>?_)|fail)
 refine zB (fun k:Nat=>[(1,.pv (pi at_)),(5,.own 0),(10,.pv (cls l)),(11,.pv (pi l.length)),(12,.pv (pi k))]) (fun k=>mrP (zbs at_ l k)) (fun k=>k≤l.length) (fun k=>l.length - k) 0 (by omega) (tS) ⟨qE rfl rfl zk,rfl⟩ ?_
 rintro k hk
 by_cases hlt:k < l.length
 ·have he:(l.map ZJ)[k]?=some (ZJ (l.getD k default)):=zcj hlt
  have cp:=VJ k (l.getD k default)
  have hal:=zcz at_ l k
  have hpl:=zhm k (l.getD k default)
  have hnext:zbs at_ l (k + 1)=zbs at_ l k++(zU k (l.getD k default)).filter (zdd at_):=rfl
  obtain ⟨p,hp⟩:∃ p,p=zU k (l.getD k default):=⟨_,rfl⟩
  rw [←hp] at cp hpl hnext
  repeat' (first|(refine shC ?_;first|refine qC cp ?_)|(refine shX ?_;first|refine qX he ?_)|refine sK ?_|refine sC (fun _=>?_) (fun _=>?_)|fail)
  refine zB (fun j:Nat=>[(1,.pv (pi at_)),(5,.own 0),(10,.pv (cls l)),(11,.pv (pi l.length)),(12,.pv (pi k)),(19,.pv (pts p)),(20,.pv (pi p.length)),(21,.pv (pi j))]) (fun j=>mrP (zbs at_ l k++(p.take j).filter (zdd at_))) (fun j=>j≤p.length) (fun j=>p.length - j) 0 (by omega) (tS) ⟨qE rfl (by simp) zk,rfl⟩ ?_
  rintro j hj
  by_cases hlj:j < p.length
  ·have hej:=yc (f:=yg) hlj
   obtain ⟨x,hx⟩:∃ x,x=p[j]:=⟨_,rfl⟩
   have hst:(p.take (j + 1)).filter (zdd at_)=(p.take j).filter (zdd at_)++if zdd at_ x then [x] else []:=by
    rw [List.take_succ_eq_append_getElem hlj,List.filter_append,←hx]
    cases h:zdd at_ x <;> simp [List.filter,h]
   rw [←hx] at hej
   have ch:=zj5 x at_
   have hfl:=List.length_filter_le (zdd at_) (p.take j)
   have htl:(p.take j).length≤3:=by simp;omega
   cases hh:zdd at_ x
   ·rw [hh] at ch hst
    repeat' (first|(refine shC ?_;first|refine qC ch ?_)|(refine shX ?_;first|refine qX hej ?_)|(refine zL ?_;first|refine Xv zh rfl rfl rfl rfl rfl rfl rfl (by show _ * 32≤_;simp;omega) (by simp;omega) rfl rfl ?_)|refine sK ?_|refine sC (fun _=>?_) (fun _=>?_)|fail)
    exact ⟨j + 1,hlj,tD,tS,⟨qE rfl (by rw [hst];simp) zk,rfl⟩⟩
   ·rw [hh] at ch hst
    repeat' (first|(refine shC ?_;first|refine qC ch ?_)|(refine shX ?_;first|refine qX hej ?_)|(refine zL ?_;first|refine Xv zh rfl rfl rfl rfl rfl rfl rfl (by show _ * 32≤_;simp;omega) (by simp;omega) rfl rfl ?_)|refine sK ?_|refine sC (fun _=>?_) (fun _=>?_)|fail)
    exact ⟨j + 1,hlj,tD,tS,⟨qE rfl (by rw [hst];simp) zk,rfl⟩⟩
  ·repeat' (first|refine sK ?_|refine sC (fun _=>?_) (fun _=>?_)|fail)
   exact ⟨k + 1,hlt,tD,tS,⟨qE rfl (by rw [hnext,List.take_of_length_le (by omega)]) zk,rfl⟩⟩
 ·have hk2:k=l.length:=by omega
  subst hk2
  repeat' (first|(refine zy ?_;first|(refine yx (mrP (zcJ at_ l)) (mrP (Xb (zcJ at_ l))) [] [(5,.own 0)] [0] zq rfl rfl rfl ?_ tS rfl rfl rfl hso ?_;· (repeat (first|exact zk|refine zi rfl ?_)))|(refine yx (mrP (Xb (zcJ at_ l))) ([(0,.dead)]) [] [] [0] zq rfl rfl rfl ?_ tS rfl rfl rfl hco ?_;· (repeat (first|exact zk|refine zi rfl ?_))))|refine sK ?_|refine sC (fun _=>?_) (fun _=>?_)|fail)
  exact retq rfl rfl
end Go.Cg
