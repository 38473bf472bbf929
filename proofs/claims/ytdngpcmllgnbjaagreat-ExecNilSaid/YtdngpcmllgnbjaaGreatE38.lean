/- A part of the walks by abstract values: no statement of its own. -/
import Derived.Test.YtdngpcmllgnbjaaGreatE35
import Derived.Test.YtdngpcmllgnbjaaGreatE9
set_option linter.unusedVariables false
set_option linter.unusedSimpArgs false
namespace Go.Cg
open Go.Proofs
theorem zsN {g:Img} {m:Me} (h:MeOk g m):(g.types.map qU)[m.owner.toNat]?=some (qU (g.types.getD m.owner.toNat default)):=by
 rw [zM h.o1];exact Yj h.o1
theorem zle {g:Img} (hf:zV g=true) {t:Int} (h0:0≤t) (h1:t.toNat < g.types.length):0≤(g.types.getD t.toNat default).flags∧(g.types.getD t.toNat default).flags≤31:=by
 have:typeAt g t=some (g.types.getD t.toNat default):=by
  rw [typeAt,if_pos h0,zM h1];exact List.getElem?_eq_getElem h1
 have:=WV hf this
 exact ⟨this.1,this.2.1⟩
set_option maxHeartbeats 4000000 in
theorem zlr (g:Img) (hf:zV g=true) (m:Me) (h:MeOk g m):ACall Tryz.prog 129 [zx g,zG m] (pb (zk4 g m)):=by
 obtain ⟨h1,h2,h4,h8,h16⟩:=zuV h
 have ck:=qZ g hf m.owner
 have hk:=h.kind
 have hgm:g.methods.length≤64:=(zI hf).2.2.1
 have cm:=YD g m.owner (by omega)
 have hml:=Qo g m.owner
 have hto:=zsN h
 have hfl:=zle hf h.o0 h.o1
 have hfe:qy (g.types.getD m.owner.toNat default).flags 4=yP (g.types.getD m.owner.toNat default).flags 4:=(zaJ hfl.1 hfl.2).2.2.1
 have hms:(((((methodsOf g m.owner).map pi).length:Nat):Int)==1)=((methodsOf g m.owner).length==1):=by
  rw [List.length_map,Bool.eq_iff_iff];simp only [beq_iff_eq];omega
 refine zf zh Tryz.func129 rfl (by kernel_rfl) Tryz.ntmps129 (by simp) _ rfl (fun hw gB hgB=>?_)
 rw [zk4]
 generalize yP m.flags 4=b4 at h4 ⊢
 rw [←hfe,qy]
 rcases hk with hk|hk|hk|hk <;> rw [hk] at ck ⊢ <;> clear hk
 all_goals repeat' (first|(refine shC ?_;first|refine qC ck ?_|refine qC h4 ?_|refine qC cm ?_)|(refine shX ?_;first|refine zo rfl (zl zh rfl rfl rfl rfl rfl rfl h.o0 hto) rfl rfl ?_|refine AD.step _ _ _ _ _ rfl (zl zh rfl rfl rfl rfl rfl rfl h.o0 hto) rfl rfl ?_)|refine sA ?_|refine sC (fun _=>?_) (fun _=>?_)|fail)
 all_goals (refine retq rfl ?_;first|(simp_all [zn,zmd];done)|(simp_all [zn,zmd];omega))
end Go.Cg
