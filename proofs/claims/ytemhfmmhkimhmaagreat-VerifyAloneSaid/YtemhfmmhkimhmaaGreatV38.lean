/- A part of the walks by abstract values: no statement of its own. -/
import Derived.Test.YtemhfmmhkimhmaaGreatV30
import Derived.Test.YtemhfmmhkimhmaaGreatV12
import Derived.Test.YtemhfmmhkimhmaaGreatV8
import Derived.Test.YtemhfmmhkimhmaaGreatV15
import Derived.Test.YtemhfmmhkimhmaaGreatV18
set_option linter.unusedVariables false
set_option linter.unusedSimpArgs false
namespace Go.Cg
open Go.Proofs
theorem zd7 {α β:Type} {f:α->β} {l:List α} {k:Nat} (h:k < l.length):(l.take k).map f++[f l[k]]=(l.take (k + 1)).map f:=by
 rw [List.take_succ_eq_append_getElem h,List.map_append,List.map_cons,List.map_nil]
theorem bnd {n b c:Nat} (m:Nat) (h:n<=m) (h2:m * b<=c):n * b<=c:=Nat.le_trans (Nat.mul_le_mul_right _ h) h2
abbrev cpR (g:Img):AV:=.agg [.own 10,.own 11,.own 12,.pv (pi g.entry)]
abbrev cpH (g:Img):HEnv:=[(10,.row 55 4 (g.types.map Zx)),(11,.row 82 7 (g.fields.map ZI)),(12,.mrow 36 12 (g.methods.map zY))]
set_option maxHeartbeats 4000000 in
theorem zfb (g:Img) (hl:WY g=false):ACallM Tryz.prog 9 [.pv (zK g)] [] (cpR g) (cpH g):=by
 refine zjo zf Tryz.func9 rfl zws Tryz.ntmps9 zwy63 rfl (fun gB hw1=>?_);simp only [WY,Bool.or_eq_false_iff,Bool.not_eq_false',decide_eq_true_eq] at hl;obtain ⟨⟨⟨⟨hl1,hl2⟩,hl3⟩,hl4⟩,hl5⟩:=hl;have ht:∀ t∈g.types,t.faces.length<=20:=fun t h=>by
  have:=List.any_eq_false.1 hl4 t h;simp only [zdj,Bool.or_eq_true,Bool.not_eq_true',decide_eq_false_iff_not,not_or,Decidable.not_not] at this;omega
 have hm:∀ m∈g.methods,m.params.length<=30/\m.locals.length<=30/\m.code.length<=200/\m.clauses.length<=20:=fun m h=>by
  have:=List.any_eq_false.1 hl5 m h;simp only [zc6,Bool.or_eq_true,Bool.not_eq_true',decide_eq_false_iff_not,not_or,Decidable.not_not] at this;omega
 repeat' (first|refine sK ?_|refine sC (fun _=>?_) (fun _=>?_)|fail)
 refine zb6 1 10 0 55 4 zwy69 rfl rfl rfl rfl ?_;refine zb6 1 11 1 82 7 zwy69 rfl rfl rfl rfl ?_;refine zbu 1 12 2 36 12 zwy69 rfl rfl rfl rfl ?_;refine zL (fun k:Nat=>[(1,.pv (.ptr (zK g) 0)),(2,.box 0 0),(3,.box 1 0),(4,.pv (pi k))])
  (fun k=>[(0,.cell (.pv (.agg [.base (.slice none 0 0),.base (.slice none 0 0),.base (.slice none 0 0),pi 0]))),(1,.cell (.agg [.own 10,.own 11,.own 12,.pv (pi g.entry)])),(10,.row 55 4 ((g.types.take k).map Zx)),(11,.row 82 7 []),(12,.mrow 36 12 [])])
  (fun k=>k<=g.types.length) (fun k=>g.types.length - k) 0 zwy63 (tS) tH ?_
 rintro k hk;by_cases hlt:k < g.types.length
 ·have he:=zT (f:=Zx) hlt;have hf:=ht _ (List.getElem_mem hlt);have hkl:((g.types.take k).map Zx).length=k:=by rw [List.length_map,List.length_take];omega
  repeat' (first|(refine shX ?_;first|refine qX he ?_)|(refine yw ?_;first|refine zy rfl (Xi zf rfl rfl (.inr ⟨rfl,rfl⟩) rfl rfl zwy73 zwy64) rfl rfl ?_|refine yV zf rfl rfl rfl rfl rfl rfl rfl (by show _ * 56<=_;rw [hkl];simp;omega) (by rw [hkl];simp;omega) rfl rfl ?_)|refine sK ?_|refine sC (fun _=>?_) (fun _=>?_)|fail)
  all_goals exact ⟨k + 1,hlt,tD,tS,⟨zC rfl (zC rfl (qG rfl (zd7 hlt) (zC rfl (aB zB)))),rfl⟩⟩
 ·obtain rfl:k=g.types.length:=by omega
  rw [List.take_length]
  repeat' (first|(refine yw ?_;first|refine yV zf rfl rfl rfl rfl rfl rfl rfl (by show _ * 64<=_;simp;omega) zwy64 rfl rfl ?_)|refine sK ?_|refine sC (fun _=>?_) (fun _=>?_)|fail)
  refine zL (fun k:Nat=>[(1,.pv (.ptr (zK g) 0)),(2,.box 0 0),(3,.box 1 0),(7,.pv (pi k))])
   (fun k=>[(0,.cell (.pv (.agg [.base (.slice none 0 0),.base (.slice none 0 0),.base (.slice none 0 0),pi 0]))),(1,.cell (.agg [.own 10,.own 11,.own 12,.pv (pi g.entry)])),(10,.row 55 4 (g.types.map Zx)),(11,.row 82 7 (g.fields.map ZI)),(12,.mrow 36 12 ((g.methods.take k).map zY))])
   (fun k=>k<=g.methods.length) (fun k=>g.methods.length - k) 0 zwy63 (tS) ⟨zC rfl (zC rfl (zC rfl (qG rfl zwy63 (aB zB)))),rfl⟩ ?_
  clear hk hlt;rintro k hk;by_cases hlt:k < g.methods.length
  ·have he:=zT (f:=zY) hlt;obtain ⟨hf1,hf2,hf3,hf4⟩:=hm _ (List.getElem_mem hlt);have hkl:((g.methods.take k).map zY).length=k:=by rw [List.length_map,List.length_take];omega
   repeat' (first|(refine shX ?_;first|refine qX he ?_)|(refine yw ?_;first|refine zy rfl (Xi zf rfl rfl (.inr ⟨rfl,rfl⟩) rfl rfl (bnd 200 zwy64 zwy69) zwy64) rfl rfl ?_|refine Qy zf rfl rfl rfl rfl rfl rfl rfl (by show _ * 168<=_;rw [hkl];simp;omega) (by rw [hkl];simp;omega) rfl rfl ?_)|refine sK ?_|refine sC (fun _=>?_) (fun _=>?_)|fail)
   all_goals exact ⟨k + 1,hlt,tD,tS,⟨zC rfl (zC rfl (zC rfl (zC rfl (Zq rfl (zd7 hlt) zB)))),rfl⟩⟩
  ·obtain rfl:k=g.methods.length:=by omega
   rw [List.take_length]
   repeat' (first|refine sK ?_|refine sC (fun _=>?_) (fun _=>?_)|fail)
   exact ⟨.inr rfl,0,0,_,rfl,rfl,rfl,⟨by repeat (first|exact zB|refine aB ?_),rfl⟩⟩
end Go.Cg
