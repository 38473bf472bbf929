/- A part of the walks by abstract values: no statement of its own. -/
import Derived.Test.YtemhfmmhkimhmaaGreatI23
set_option linter.unusedVariables false
set_option linter.unusedSimpArgs false
namespace Go.Cg
open Go.Proofs
set_option maxHeartbeats 20000000
theorem XY (td:TD) (b:Int):ACall Tryz.prog 225 [pi b,.ptr (Zw td) 0] (pb (qQ td.flags b)):=by
 refine zh zf Tryz.func225 rfl zws Tryz.ntmps225 zwy63 _ rfl (fun hw gB hgB=>?_)
 repeat' (first|refine sA ?_|refine sC (fun _=>?_) (fun _=>?_)|fail)
 exact retq rfl rfl
def YR (td:TD):Bool :=
 if zgQ td.flags==2 then qQ td.flags 4&&!qQ td.flags 1&&!qQ td.flags 8&&!qQ td.flags 16&&td.ext == -1
 else if zgQ td.flags==1 then qQ td.flags 8&&!qQ td.flags 4&&!qQ td.flags 16&&td.ext == -1
 else if zgQ td.flags==3 then qQ td.flags 8&&!qQ td.flags 4&&td.ext == -1&&((td.faces.length:Int)==0)
 else true
theorem zjR (td:TD):ACall Tryz.prog 199 [Zw td] (pb (YR td)):=by
 refine zh zf Tryz.func199 rfl zws Tryz.ntmps199 zwy63 _ rfl (fun hw gB hgB=>?_)
 repeat' (first|(refine shC ?_;first|refine qC (zfS td) ?_|refine qV (XY td 1) ?_|refine qV (XY td 4) ?_|refine qV (XY td 8) ?_|refine qV (XY td 16) ?_)|refine sA ?_|refine sC (fun _=>?_) (fun _=>?_)|fail)
 all_goals first|(refine ak ?_;first|(simp only [zn,YR,BL,List.length_map] at *;simp only [*,BL,List.length_map];done)|(simp_all [zn,YR];done)|(simp_all [zn,YR];omega)|(simp_all [zn,YR];intros;omega))|(refine Yi rfl ?_;first|(simp only [zn,YR,BL,List.length_map] at *;simp only [*,BL,List.length_map];done)|(simp_all [zn,YR];done)|(simp_all [zn,YR];omega)|(simp_all [zn,YR];intros;omega))|skip
def zjL (g:Img) (t:Int) (td:TD):Bool:=td.ext == -1||(Ye g td.ext==0&&!qQ (Xc g td.ext) 8&&Vt g t == -1)
theorem zjT (g:Img) (t:Int) (td:TD) (htd:typeAt g t=some td) (hg:g.types.length<=1000):ACall Tryz.prog 200 [zK g,pi t] (pb (zjL g t td)):=by
 refine zh zf Tryz.func200 rfl zws Tryz.ntmps200 zwy63 _ rfl (fun hw gB hgB=>?_);obtain ⟨h0,he⟩:=qN htd;have hui:=WS g t;have hul:=ZF _ _ hui.1 hui.2;obtain ⟨ur,hur⟩:=zfb htd;have hpos:0 < (up g t).length:=by rw [hur];simp
 have hlast:(up g t)[(up g t).length - 1]?=some ((up g t).getLastD 0):=by
  rw [hur];simp [List.getLastD_eq_getLast?,List.getLast?_eq_getElem?]
 have hlt:(up g t).length - 1 < (up g t).length:=by omega
 obtain ⟨tl,htl⟩:=Yv (g:=g) (t:=(up g t).getLastD 0) (hui.2 _ (List.mem_of_getElem? hlast));obtain ⟨hl0,hel⟩:=qN htl;have hw1:IntKind.i64.wrap (((up g t).map pi).length - 1:Int)=(((up g t).length - 1:Nat):Int):=by rw [List.length_map,wrap_in zwy62 zwy62];omega
 have heU:((up g t).map pi)[(IntKind.i64.wrap (((up g t).map pi).length - 1:Int)).toNat]?=some (pi ((up g t).getLastD 0)):=by rw [hw1];simp [hlast]
 have htop:Vt g t=tl.ext:=by rw [Vt,htl]
 by_cases h1:td.ext = -1
 ·have h1b:(td.ext == -1)=true:=by simp [h1]
  repeat' (first|(refine shX ?_;first|refine zy rfl (ah h0 he) rfl rfl ?_|refine zq rfl (ah h0 he) rfl rfl ?_)|refine sK ?_|refine sC (fun _=>?_) (fun _=>?_)|fail)
  exact retq rfl (by simp [zn,zjL,h1])
 ·have h1b:(td.ext == -1)=false:=by simp [h1]
  have c1:=QH g td.ext;by_cases hk:Ye g td.ext=0
  ·rw [hk] at c1;obtain ⟨te,hte⟩:∃ te,typeAt g td.ext=some te:=by
    rw [Ye] at hk;cases h:typeAt g td.ext with
    | none=>rw [h] at hk;simp at hk
    | some te=>exact ⟨te,rfl⟩
   obtain ⟨he0,hee⟩:=qN hte;have hfa:Xc g td.ext=te.flags:=by rw [Xc,hte]
   have hres:zjL g t td=(!qQ te.flags 8&&tl.ext == -1):=by rw [zjL,h1b,hk,hfa,htop];rfl
   repeat' (first|(refine shC ?_;first|refine qC c1 ?_|refine qC (YZ g t hg) ?_)|(refine shX ?_;first|refine zy rfl (ah h0 he) rfl rfl ?_|refine zq rfl (ah h0 he) rfl rfl ?_|refine zy rfl (ah he0 hee) rfl rfl ?_|refine zq rfl (ah he0 hee) rfl rfl ?_|refine zy rfl (zk zf rfl rfl rfl rfl rfl rfl zwy95 heU) rfl rfl ?_|refine zq rfl (zk zf rfl rfl rfl rfl rfl rfl zwy95 heU) rfl rfl ?_|refine zy rfl (ah hl0 hel) rfl rfl ?_|refine zq rfl (ah hl0 hel) rfl rfl ?_)|refine sA ?_|refine sC (fun _=>?_) (fun _=>?_)|fail)
   all_goals (refine ak ?_;rw [hres];simp_all [zn,qQ])
  ·have hkb:(Ye g td.ext==0)=false:=by simp [hk]
   repeat' (first|(refine shC ?_;first|refine qC c1 ?_|refine qC (YZ g t hg) ?_)|(refine shX ?_;first|refine zy rfl (ah h0 he) rfl rfl ?_|refine zq rfl (ah h0 he) rfl rfl ?_)|refine sK ?_|refine sC (fun _=>?_) (fun _=>?_)|fail)
   all_goals (refine ak ?_;simp [zn,zjL,h1b,hkb])
def zxS (n:UInt8) (e:Int):TD:=⟨⟨#[n]⟩,0,e,[]⟩
abbrev wTD (n:UInt8) (e:Int):PV:=.agg [.base (.string ⟨#[n]⟩),pi 0,pi e,.base (.slice none 0 0)]
theorem zrP (n:UInt8) (e:Int):PTL (wTD n e).cells (Zw (zxS n e)).cells :=
 qF (.refl _) (qF (.refl _) (qF (.refl _) (qF (zbS 1 false) zcx)))
end Go.Cg
