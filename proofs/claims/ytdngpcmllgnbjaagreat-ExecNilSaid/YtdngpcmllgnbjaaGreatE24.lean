/- A part of the walks by abstract values: no statement of its own. -/
import Derived.Test.YtdngpcmllgnbjaaGreatE18
set_option linter.unusedVariables false
set_option linter.unusedSimpArgs false
namespace Go.Cg
open Go.Proofs
set_option maxHeartbeats 20000000
theorem Qq (td:TD) (b:Int):ACall Tryz.prog 415 [pi b,.ptr (qU td) 0] (pb (qy td.flags b)):=by
 refine zf zh Tryz.func415 rfl (by kernel_rfl) Tryz.ntmps415 (by simp) _ rfl (fun hw gB hgB=>?_)
 repeat' (first|refine sA ?_|refine sC (fun _=>?_) (fun _=>?_)|fail)
 exact retq rfl rfl
def ZO (td:TD):Bool :=
 if zgh td.flags==2 then qy td.flags 4&&!qy td.flags 1&&!qy td.flags 8&&!qy td.flags 16&&td.ext == -1
 else if zgh td.flags==1 then qy td.flags 8&&!qy td.flags 4&&!qy td.flags 16&&td.ext == -1
 else if zgh td.flags==3 then qy td.flags 8&&!qy td.flags 4&&td.ext == -1&&((td.faces.length:Int)==0)
 else true
theorem ziD (td:TD):ACall Tryz.prog 399 [qU td] (pb (ZO td)):=by
 refine zf zh Tryz.func399 rfl (by kernel_rfl) Tryz.ntmps399 (by simp) _ rfl (fun hw gB hgB=>?_)
 repeat' (first|(refine shC ?_;first|refine qC (zfh td) ?_|refine qV (Qq td 1) ?_|refine qV (Qq td 4) ?_|refine qV (Qq td 8) ?_|refine qV (Qq td 16) ?_)|refine sA ?_|refine sC (fun _=>?_) (fun _=>?_)|fail)
 all_goals first|(refine retq rfl ?_;first|(simp only [zn,ZO,BL,List.length_map] at *;simp only [*,BL,List.length_map];done)|(simp_all [zn,ZO];done)|(simp_all [zn,ZO];omega)|(simp_all [zn,ZO];intros;omega))|(refine zb0 rfl ?_;first|(simp only [zn,ZO,BL,List.length_map] at *;simp only [*,BL,List.length_map];done)|(simp_all [zn,ZO];done)|(simp_all [zn,ZO];omega)|(simp_all [zn,ZO];intros;omega))|skip
def zin (g:Img) (t:Int) (td:TD):Bool:=td.ext == -1||(YH g td.ext==0&&!qy (zbd g td.ext) 8&&zai g t == -1)
theorem zij (g:Img) (t:Int) (td:TD) (htd:typeAt g t=some td) (hg:g.types.length≤1000):ACall Tryz.prog 400 [zx g,pi t] (pb (zin g t td)):=by
 refine zf zh Tryz.func400 rfl (by kernel_rfl) Tryz.ntmps400 (by simp) _ rfl (fun hw gB hgB=>?_)
 obtain ⟨h0,he⟩:=Yu htd
 have hui:=zcg g t
 have hul:=ZF _ _ hui.1 hui.2
 obtain ⟨ur,hur⟩:=zgE htd
 have hpos:0 < (up g t).length:=by rw [hur];simp
 have hlast:(up g t)[(up g t).length - 1]?=some ((up g t).getLastD 0):=by
  rw [hur];simp [List.getLastD_eq_getLast?,List.getLast?_eq_getElem?]
 have hlt:(up g t).length - 1 < (up g t).length:=by omega
 obtain ⟨tl,htl⟩:=WI (g:=g) (t:=(up g t).getLastD 0) (hui.2 _ (List.mem_of_getElem? hlast))
 obtain ⟨hl0,hel⟩:=Yu htl
 have hw1:IntKind.i64.wrap (((up g t).map pi).length - 1:Int)=(((up g t).length - 1:Nat):Int):=by rw [List.length_map,wrap_in (by omega) (by omega)];omega
 have heU:((up g t).map pi)[(IntKind.i64.wrap (((up g t).map pi).length - 1:Int)).toNat]?=some (pi ((up g t).getLastD 0)):=by rw [hw1];simp [hlast]
 have htop:zai g t=tl.ext:=by rw [zai,htl]
 by_cases h1:td.ext = -1
 ·have h1b:(td.ext == -1)=true:=by simp [h1]
  repeat' (first|(refine shX ?_;first|refine zo rfl (zl zh rfl rfl rfl rfl rfl rfl h0 he) rfl rfl ?_|refine AD.step _ _ _ _ _ rfl (zl zh rfl rfl rfl rfl rfl rfl h0 he) rfl rfl ?_)|refine sK ?_|refine sC (fun _=>?_) (fun _=>?_)|fail)
  exact retq rfl (by simp [zn,zin,h1])
 ·have h1b:(td.ext == -1)=false:=by simp [h1]
  have c1:=za2 g td.ext
  by_cases hk:YH g td.ext=0
  ·rw [hk] at c1
   obtain ⟨te,hte⟩:∃ te,typeAt g td.ext=some te:=by
    rw [YH] at hk
    cases h:typeAt g td.ext with
    | none=>rw [h] at hk;simp at hk
    | some te=>exact ⟨te,rfl⟩
   obtain ⟨he0,hee⟩:=Yu hte
   have hfa:zbd g td.ext=te.flags:=by rw [zbd,hte]
   have hres:zin g t td=(!qy te.flags 8&&tl.ext == -1):=by rw [zin,h1b,hk,hfa,htop];rfl
   repeat' (first|(refine shC ?_;first|refine qC c1 ?_|refine qC (ZT g t hg) ?_)|(refine shX ?_;first|refine zo rfl (zl zh rfl rfl rfl rfl rfl rfl h0 he) rfl rfl ?_|refine AD.step _ _ _ _ _ rfl (zl zh rfl rfl rfl rfl rfl rfl h0 he) rfl rfl ?_|refine zo rfl (zl zh rfl rfl rfl rfl rfl rfl he0 hee) rfl rfl ?_|refine AD.step _ _ _ _ _ rfl (zl zh rfl rfl rfl rfl rfl rfl he0 hee) rfl rfl ?_|refine zo rfl (zl zh rfl rfl rfl rfl rfl rfl (by rw [hw1];omega) heU) rfl rfl ?_|refine AD.step _ _ _ _ _ rfl (zl zh rfl rfl rfl rfl rfl rfl (by rw [hw1];omega) heU) rfl rfl ?_|refine zo rfl (zl zh rfl rfl rfl rfl rfl rfl hl0 hel) rfl rfl ?_|refine AD.step _ _ _ _ _ rfl (zl zh rfl rfl rfl rfl rfl rfl hl0 hel) rfl rfl ?_)|refine sA ?_|refine sC (fun _=>?_) (fun _=>?_)|fail)
   all_goals (refine retq rfl ?_;rw [hres];simp_all [zn,qy])
  ·have hkb:(YH g td.ext==0)=false:=by simp [hk]
   repeat' (first|(refine shC ?_;first|refine qC c1 ?_|refine qC (ZT g t hg) ?_)|(refine shX ?_;first|refine zo rfl (zl zh rfl rfl rfl rfl rfl rfl h0 he) rfl rfl ?_|refine AD.step _ _ _ _ _ rfl (zl zh rfl rfl rfl rfl rfl rfl h0 he) rfl rfl ?_)|refine sK ?_|refine sC (fun _=>?_) (fun _=>?_)|fail)
   all_goals (refine retq rfl ?_;simp [zn,zin,h1b,hkb])
def zvV (n:UInt8) (e:Int):TD:=⟨⟨#[n]⟩,0,e,[]⟩
abbrev wTD (n:UInt8) (e:Int):PV:=.agg [.base (.string ⟨#[n]⟩),pi 0,pi e,.base (.slice none 0 0)]
theorem zqQ (n:UInt8) (e:Int):PTL (wTD n e).cells (qU (zvV n e)).cells :=
 zQ (.refl _) (zQ (.refl _) (zQ (.refl _) (zQ (Qc 1 false) Xz)))
end Go.Cg
