/- A part of the walks by abstract values: no statement of its own. -/
import Derived.Test.YtdlokcmodgccnaaGreatU19
set_option linter.unusedVariables false
set_option linter.unusedSimpArgs false
namespace Go.Cg
open Go.Proofs
set_option maxHeartbeats 20000000
theorem QM (td:TD) (b:Int):ACall Tryz.prog 241 [pi b,.ptr (Zl td) 0] (pb (qJ td.flags b)):=by
 refine zi zf Tryz.func241 rfl (by kernel_rfl) Tryz.ntmps241 (by simp) _ rfl (fun hw gB hgB=>?_)
 repeat' (first|refine sA ?_|refine sC (fun _=>?_) (fun _=>?_)|fail)
 exact retq rfl rfl
def Yi (td:TD):Bool :=
 if zfz td.flags==2 then qJ td.flags 4&&!qJ td.flags 1&&!qJ td.flags 8&&!qJ td.flags 16&&td.ext == -1
 else if zfz td.flags==1 then qJ td.flags 8&&!qJ td.flags 4&&!qJ td.flags 16&&td.ext == -1
 else if zfz td.flags==3 then qJ td.flags 8&&!qJ td.flags 4&&td.ext == -1&&((td.faces.length:Int)==0)
 else true
theorem zh2 (td:TD):ACall Tryz.prog 217 [Zl td] (pb (Yi td)):=by
 refine zi zf Tryz.func217 rfl (by kernel_rfl) Tryz.ntmps217 (by simp) _ rfl (fun hw gB hgB=>?_)
 repeat' (first|(refine shC ?_;first|refine qC (zeK td) ?_|refine qV (QM td 1) ?_|refine qV (QM td 4) ?_|refine qV (QM td 8) ?_|refine qV (QM td 16) ?_)|refine sA ?_|refine sC (fun _=>?_) (fun _=>?_)|fail)
 all_goals first|(refine retq rfl ?_;first|(simp only [zy,Yi,BL,List.length_map] at *;simp only [*,BL,List.length_map];done)|(simp_all [zy,Yi];done)|(simp_all [zy,Yi];omega)|(simp_all [zy,Yi];intros;omega))|(refine VX rfl ?_;first|(simp only [zy,Yi,BL,List.length_map] at *;simp only [*,BL,List.length_map];done)|(simp_all [zy,Yi];done)|(simp_all [zy,Yi];omega)|(simp_all [zy,Yi];intros;omega))|skip
def zhO (g:Img) (t:Int) (td:TD):Bool:=td.ext == -1||(ZY g td.ext==0&&!qJ (zbf g td.ext) 8&&zaE g t == -1)
theorem zhW (g:Img) (t:Int) (td:TD) (htd:typeAt g t=some td) (hg:g.types.length≤1000):ACall Tryz.prog 218 [zT g,pi t] (pb (zhO g t td)):=by
 refine zi zf Tryz.func218 rfl (by kernel_rfl) Tryz.ntmps218 (by simp) _ rfl (fun hw gB hgB=>?_)
 obtain ⟨h0,he⟩:=YT htd
 have hui:=zb9 g t
 have hul:=Ya _ _ hui.1 hui.2
 obtain ⟨ur,hur⟩:=zf8 htd
 have hpos:0 < (up g t).length:=by rw [hur];simp
 have hlast:(up g t)[(up g t).length - 1]?=some ((up g t).getLastD 0):=by
  rw [hur];simp [List.getLastD_eq_getLast?,List.getLast?_eq_getElem?]
 have hlt:(up g t).length - 1 < (up g t).length:=by omega
 obtain ⟨tl,htl⟩:=Vb (g:=g) (t:=(up g t).getLastD 0) (hui.2 _ (List.mem_of_getElem? hlast))
 obtain ⟨hl0,hel⟩:=YT htl
 have hw1:IntKind.i64.wrap (((up g t).map pi).length - 1:Int)=(((up g t).length - 1:Nat):Int):=by rw [List.length_map,wrap_in (by omega) (by omega)];omega
 have heU:((up g t).map pi)[(IntKind.i64.wrap (((up g t).map pi).length - 1:Int)).toNat]?=some (pi ((up g t).getLastD 0)):=by rw [hw1];simp [hlast]
 have htop:zaE g t=tl.ext:=by rw [zaE,htl]
 by_cases h1:td.ext = -1
 ·have h1b:(td.ext == -1)=true:=by simp [h1]
  repeat' (first|(refine shX ?_;first|refine zx rfl (zq zf rfl rfl rfl rfl rfl rfl h0 he) rfl rfl ?_|refine AD.step _ _ _ _ _ rfl (zq zf rfl rfl rfl rfl rfl rfl h0 he) rfl rfl ?_)|refine sK ?_|refine sC (fun _=>?_) (fun _=>?_)|fail)
  exact retq rfl (by simp [zy,zhO,h1])
 ·have h1b:(td.ext == -1)=false:=by simp [h1]
  have c1:=YR g td.ext
  by_cases hk:ZY g td.ext=0
  ·rw [hk] at c1
   obtain ⟨te,hte⟩:∃ te,typeAt g td.ext=some te:=by
    rw [ZY] at hk
    cases h:typeAt g td.ext with
    | none=>rw [h] at hk;simp at hk
    | some te=>exact ⟨te,rfl⟩
   obtain ⟨he0,hee⟩:=YT hte
   have hfa:zbf g td.ext=te.flags:=by rw [zbf,hte]
   have hres:zhO g t td=(!qJ te.flags 8&&tl.ext == -1):=by rw [zhO,h1b,hk,hfa,htop];rfl
   repeat' (first|(refine shC ?_;first|refine qC c1 ?_|refine qC (Yp g t hg) ?_)|(refine shX ?_;first|refine zx rfl (zq zf rfl rfl rfl rfl rfl rfl h0 he) rfl rfl ?_|refine AD.step _ _ _ _ _ rfl (zq zf rfl rfl rfl rfl rfl rfl h0 he) rfl rfl ?_|refine zx rfl (zq zf rfl rfl rfl rfl rfl rfl he0 hee) rfl rfl ?_|refine AD.step _ _ _ _ _ rfl (zq zf rfl rfl rfl rfl rfl rfl he0 hee) rfl rfl ?_|refine zx rfl (zq zf rfl rfl rfl rfl rfl rfl (by rw [hw1];omega) heU) rfl rfl ?_|refine AD.step _ _ _ _ _ rfl (zq zf rfl rfl rfl rfl rfl rfl (by rw [hw1];omega) heU) rfl rfl ?_|refine zx rfl (zq zf rfl rfl rfl rfl rfl rfl hl0 hel) rfl rfl ?_|refine AD.step _ _ _ _ _ rfl (zq zf rfl rfl rfl rfl rfl rfl hl0 hel) rfl rfl ?_)|refine sA ?_|refine sC (fun _=>?_) (fun _=>?_)|fail)
   all_goals (refine retq rfl ?_;rw [hres];simp_all [zy,qJ])
  ·have hkb:(ZY g td.ext==0)=false:=by simp [hk]
   repeat' (first|(refine shC ?_;first|refine qC c1 ?_|refine qC (Yp g t hg) ?_)|(refine shX ?_;first|refine zx rfl (zq zf rfl rfl rfl rfl rfl rfl h0 he) rfl rfl ?_|refine AD.step _ _ _ _ _ rfl (zq zf rfl rfl rfl rfl rfl rfl h0 he) rfl rfl ?_)|refine sK ?_|refine sC (fun _=>?_) (fun _=>?_)|fail)
   all_goals (refine retq rfl ?_;simp [zy,zhO,h1b,hkb])
def ztW (n:UInt8) (e:Int):TD:=⟨⟨#[n]⟩,0,e,[]⟩
abbrev wTD (n:UInt8) (e:Int):PV:=.agg [.base (.string ⟨#[n]⟩),pi 0,pi e,.base (.slice none 0 0)]
theorem zo6 (n:UInt8) (e:Int):PTL (wTD n e).cells (Zl (ztW n e)).cells :=
 qy (.refl _) (qy (.refl _) (qy (.refl _) (qy (zaC 1 false) zbb)))
end Go.Cg
