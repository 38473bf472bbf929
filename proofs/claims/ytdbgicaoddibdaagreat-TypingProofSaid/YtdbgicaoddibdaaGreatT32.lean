/- A part of the walks by abstract values: no statement of its own. -/
import Derived.Test.YtdbgicaoddibdaaGreatT29
import Derived.Test.YtdbgicaoddibdaaGreatT31
set_option linter.unusedVariables false
set_option linter.unusedSimpArgs false
namespace Go.Cg
open Go.Proofs
set_option maxHeartbeats 20000000
abbrev lbH (e:PV) (p1:Value):HEnv:=[(1,.cell (.pv e)),(2001,.pin (.box 1 0) p1)]
theorem zfz (p1:Value) (e:Int):DCall Tryz.prog 102 (lbH (pi 0) p1) [.box 1 0] (.panicking [{ v:=zhq e,recovered:=false }]) (.panicking [{ v:=zhq e,recovered:=true }]) (lbH (pi e) p1):=by
 refine XQ Tryz.func102 rfl zws rfl (fun g K ρ w vs hds hf hv c₀ cs hu=>?_);obtain ⟨v1,rfl⟩:=List.length_eq_one_iff.1 hv.1;have r1:=hv.2 0 _ v1 rfl rfl;refine wpS_seq ?_;refine wpS_region ?_;have h1:=zaO (P:=Tryz.prog) (xt:=20) (v:=.int .i64 e) (w:=w) Tryz.underlying135;simp [wpOpsS,go_sem,recoverD,hu,Tryz.ntmps102,Exit.thenS,zhq,h1];refine zfW (n:=10) (g:=g) (env:=[(0,.box 1 0),(1,.pv (pi e)),(2,.pv (pb true))]) (H:=lbH (pi 0) p1) (QQ:=zr5 (lbH (pi e) p1)) ?_
  ⟨by simp,by rw [hds],K,ρ,hf,Yg (v:=v1) zwy63 r1 (Yg (v:=.int .i64 e) zwy63 (.pv _ _ (.base _ rfl)) (Yg (v:=.bool true) zwy63 (.pv _ _ (.base _ rfl)) zbL))⟩
  (fun ex a' w' env' H' hi hq=>⟨hq.1,hi.defers.trans hds,rfl,zgc hi hq.2⟩)
 repeat' (first|refine sK ?_|refine sC (fun _=>?_) (fun _=>?_)|fail)
 exact ⟨.inl rfl,tH⟩
theorem zkg (e:PV) (p1:Value):DCall Tryz.prog 102 (lbH e p1) [.box 1 0] .returning .returning (lbH e p1):=by
 refine XQ Tryz.func102 rfl zws rfl (fun g K ρ w vs hds hf hv c₀ cs hu=>?_);obtain ⟨v1,rfl⟩:=List.length_eq_one_iff.1 hv.1;refine wpS_seq ?_;refine wpS_region ?_;have hz:=zjh (P:=Tryz.prog) (w:=w) (z:=.int .i64 0) zf (ty:=135) rfl;have h1:=VA (P:=Tryz.prog) (xt:=20) (w:=w) Tryz.underlying135 hz;simp [wpOpsS,go_sem,recoverD,hu,Tryz.ntmps102,Exit.thenS,h1];refine zfW (n:=10) (g:=g) (env:=[(2,.pv (pb false))]) (H:=lbH e p1) (QQ:=zr5 (lbH e p1)) ?_
  ⟨by simp,by rw [hds],K,ρ,hf,Yg (v:=.bool false) zwy63 (.pv _ _ (.base _ rfl)) zbL⟩
  (fun ex a' w' env' H' hi hq=>⟨hq.1,hi.defers.trans hds,by cases c₀;simp_all,zgc hi hq.2⟩)
 repeat' (first|refine sK ?_|refine sC (fun _=>?_) (fun _=>?_)|fail)
 exact ⟨.inl rfl,tH⟩
end Go.Cg
