/- A part of the walks by abstract values: no statement of its own. -/
import Derived.Test.YtdngpcmllgnbjaaGreatE29
set_option linter.unusedVariables false
set_option linter.unusedSimpArgs false
namespace Go.Cg
open Go.Proofs
set_option maxHeartbeats 1000000 in
theorem zmU (g:Img) (hx:∀ m∈g.methods,∀ x∈m.code,zd0 x):ACall Tryz.prog 359 [zx g] (.tup [pi (Wq g).1,pi (Wq g).2]):=by
 refine zf zh Tryz.func359 rfl (by kernel_rfl) Tryz.ntmps359 (by simp) _ rfl (fun hw gB hgB=>?_)
 have c0:=zkE g hx
 cases hf:zV g
 ·rw [hf] at c0
  repeat' (first|(refine shC ?_;first|refine qC c0 ?_)|refine sK ?_|refine sC (fun _=>?_) (fun _=>?_)|fail)
  exact retq rfl (by simp [zn,Wq,hf])
 ·rw [hf] at c0
  obtain ⟨b1,b2,b3,b4⟩:=zI hf
  have hg:g.types.length≤1000:=by omega
  have hgf:g.fields.length≤1000:=by omega
  have hgm:g.methods.length≤1000:=by omega
  repeat' (first|(refine shC ?_;first|refine qC c0 ?_)|refine sK ?_|refine sC (fun _=>?_) (fun _=>?_)|fail)
  refine zB (fun k:Nat=>[(1,.pv (.ptr (zx g) 0)),(10,.pv (pi g.types.length)),(11,.pv (pi k))]) (fun _=>[]) (fun k=>k≤g.types.length∧∀ j,j < k→Ze g j=0) (fun k=>g.types.length - k) 0 ⟨by omega,fun j h=>by omega⟩ (tS) tH ?_
  rintro k ⟨hk,hno⟩
  by_cases hlt:k < g.types.length
  ·have he:=yc (f:=qU) hlt
   have htd:=zdl hlt
   have hat:=ziG hf hlt
   have hfin:=fun h=>zma hf hlt hno h
   have hnx:Ze g k=0→∀ j,j < k + 1→Ze g j=0:=fun h j hj=>by
    by_cases e:j=k
    ·subst e;exact h
    ·exact hno j (by omega)
   clear hno
   have d1:=ziD g.types[k]
   have d2:=zij g k _ htd hg
   have d3:=zmK g k _ htd hf
   have d4:=zlC g k _ htd hg hgf hgm
   have d5:=zlU g k _ htd hf
   generalize ZO g.types[k]=e1 at d1 hat
   generalize zin g k g.types[k]=e2 at d2 hat
   generalize zfm g k g.types[k]=e3 at d3 hat
   generalize zfo g k g.types[k]=e4 at d4 hat
   generalize zfj g k=e5 at d5 hat
   have fin:∀ c:Int,c≠0→Ze g k=c→PV.tup [pi (k:Int),pi c]=.tup [pi (Wq g).1,pi (Wq g).2]:=fun c hc h=>by rw [hfin (by rw [h];exact hc),h]
   repeat' (first|(refine shC ?_;first|refine qC d1 ?_|refine qC d2 ?_|refine qC d3 ?_|refine qC d4 ?_|refine qC d5 ?_)|(refine shX ?_;first|refine qX he ?_)|refine sK ?_|refine sC (fun _=>?_) (fun _=>?_)|fail)
   all_goals first
    | exact retq rfl (fin 7 (by decide) (by rw [hat];simp_all;done))
    | exact retq rfl (fin 18 (by decide) (by rw [hat];simp_all;done))
    | exact retq rfl (fin 20 (by decide) (by rw [hat];simp_all;done))
    | exact ⟨k + 1,⟨hlt,hnx (by rw [hat];simp_all;done)⟩,tD,tS,tH⟩
  ·repeat' (first|refine sK ?_|refine sC (fun _=>?_) (fun _=>?_)|fail)
   obtain rfl:k=g.types.length:=by omega
   exact retq rfl (by simp [zn,zsk hf hno])
end Go.Cg
