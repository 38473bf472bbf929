/- A part of the walks by abstract values: no statement of its own. -/
import Derived.Test.YtdbgicaoddibdaaGreatT18
import Derived.Test.YtdbgicaoddibdaaGreatT28
set_option linter.unusedVariables false
set_option linter.unusedSimpArgs false
namespace Go.Cg
open Go.RowKit
theorem Yg {K:KK} {w:World} {ρ:Nat→Value} {H:HEnv} {env:Env} {tmps:Array Value} {t:Nat} {av:AV} {v:Value} (h1:tmps[t]?=some v) (h2:ARel K w ρ H av v) (h:EnvR K w ρ H env tmps):EnvR K w ρ H ((t,av)::env) tmps:=fun t' av' hg=>by
 rw [Env.get_cons] at hg;split at hg
 ·rename_i e;subst e;simp only [Option.some.injEq] at hg;subst hg;exact ⟨v,h1,h2⟩
 ·exact h t' av' hg
theorem zbL {K:KK} {w:World} {ρ:Nat→Value} {H:HEnv} {tmps:Array Value}:EnvR K w ρ H [] tmps:=fun t av h=>by simp [Env.get_nil] at h
def zr5 (H2:HEnv):QC:=fun ex _ H=>(ex=.normal∨ex=.ret)∧Yj H H2 []
theorem zgc {n:Nat} {g:Base} {env:Env} {H H2:HEnv} {a:Act} {w:World} (hi:Inv n g env H a w) (hf:Yj H H2 []):∃ K ρ,FS g K ρ H2 w:=by
 obtain ⟨_,_,K,ρ,h,_⟩:=hi;exact ⟨K,ρ,h.narrow hf⟩
theorem znt {α:Type} {l:List α} (h:l.length=2):∃ a b,l=[a,b]:=by
 match l,h with
 | [a,b],_=>exact ⟨a,b,rfl⟩
end Go.Cg
namespace Go.Cg
open Go.Proofs
set_option maxHeartbeats 20000000
theorem zaO {P:Program} {t xt:TypeId} {k0:IntKind} {v:Value} {w:World} (hu:P.underlying t=some (.int k0)):(Instr.typeAssert (.iface t v) xt t true).run P w=.ok (.tuple #[v,.bool true]) w:=by
 simp [Instr.typeAssert,run_underlying hu]
theorem VA {P:Program} {t xt:TypeId} {k0:IntKind} {z:Value} {w:World} (hu:P.underlying t=some (.int k0)) (hz:(zeroValue t).run P w=.ok z w):(Instr.typeAssert .nilIface xt t true).run P w=.ok (.tuple #[z,.bool false]) w:=by
 simp [Instr.typeAssert,run_underlying hu,hz]
abbrev rbH (o e:PV) (p1 p2:Value):HEnv:=[(1,.cell (.pv o)),(2,.cell (.pv e)),(2001,.pin (.box 1 0) p1),(2002,.pin (.box 2 0) p2)]
theorem zrD (p1 p2:Value) (e:Int):DCall Tryz.prog 41 (rbH (.base (.slice none 0 0)) (pi 0) p1 p2) [.box 1 0,.box 2 0] (.panicking [{ v:=flt e,recovered:=false }]) (.panicking [{ v:=flt e,recovered:=true }]) (rbH (.base (.slice none 0 0)) (pi e) p1 p2):=by
 refine XQ Tryz.func41 rfl zws rfl (fun g K ρ w vs hds hf hv c₀ cs hu=>?_);obtain ⟨v1,v2,rfl⟩:=znt hv.1;have r1:=hv.2 0 _ v1 rfl rfl;have r2:=hv.2 1 _ v2 rfl rfl;refine wpS_seq ?_;refine wpS_region ?_;have h1:=zaO (P:=Tryz.prog) (xt:=20) (v:=.int .i64 e) (w:=w) Tryz.underlying105;simp [wpOpsS,go_sem,recoverD,hu,Tryz.ntmps41,Exit.thenS,flt,h1];refine zfW (n:=11) (g:=g) (env:=[(0,.box 1 0),(1,.box 2 0),(2,.pv (pi e)),(3,.pv (pb true))]) (H:=rbH (.base (.slice none 0 0)) (pi 0) p1 p2) (QQ:=zr5 (rbH (.base (.slice none 0 0)) (pi e) p1 p2)) ?_
  ⟨by simp,by rw [hds],K,ρ,hf,Yg (v:=v1) zwy63 r1 (Yg (v:=v2) zwy63 r2 (Yg (v:=.int .i64 e) zwy63 (.pv _ _ (.base _ rfl)) (Yg (v:=.bool true) zwy63 (.pv _ _ (.base _ rfl)) zbL)))⟩
  (fun ex a' w' env' H' hi hq=>⟨hq.1,hi.defers.trans hds,rfl,zgc hi hq.2⟩)
 repeat' (first|refine sK ?_|refine sC (fun _=>?_) (fun _=>?_)|fail)
 exact ⟨.inl rfl,tH⟩
theorem zpn (o e:PV) (p1 p2:Value):DCall Tryz.prog 41 (rbH o e p1 p2) [.box 1 0,.box 2 0] .returning .returning (rbH o e p1 p2):=by
 refine XQ Tryz.func41 rfl zws rfl (fun g K ρ w vs hds hf hv c₀ cs hu=>?_);obtain ⟨v1,v2,rfl⟩:=znt hv.1;refine wpS_seq ?_;refine wpS_region ?_;have hz:=zjh (P:=Tryz.prog) (w:=w) (z:=.int .i64 0) zf (ty:=105) rfl;have h1:=VA (P:=Tryz.prog) (xt:=20) (w:=w) Tryz.underlying105 hz;simp [wpOpsS,go_sem,recoverD,hu,Tryz.ntmps41,Exit.thenS,h1];refine zfW (n:=11) (g:=g) (env:=[(3,.pv (pb false))]) (H:=rbH o e p1 p2) (QQ:=zr5 (rbH o e p1 p2)) ?_
  ⟨by simp,by rw [hds],K,ρ,hf,Yg (v:=.bool false) zwy63 (.pv _ _ (.base _ rfl)) zbL⟩
  (fun ex a' w' env' H' hi hq=>⟨hq.1,hi.defers.trans hds,by cases c₀;simp_all,zgc hi hq.2⟩)
 repeat' (first|refine sK ?_|refine sC (fun _=>?_) (fun _=>?_)|fail)
 exact ⟨.inl rfl,tH⟩
end Go.Cg
