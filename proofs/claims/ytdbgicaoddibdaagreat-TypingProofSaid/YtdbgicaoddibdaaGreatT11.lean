/- A part of the walks by abstract values: no statement of its own. -/
import Derived.Test.YtdbgicaoddibdaaGreatT6
set_option linter.unusedVariables false
set_option linter.unusedSimpArgs false
namespace Go.Cg
open Go.Proofs
set_option maxHeartbeats 20000000
def qJ (f k:Int):Bool:=(IntKind.i64.wrap (f.tdiv k)).tmod 2==1
def VG (f:Int):Int:=if qJ f 2 then 2 else if qJ f 1 then 1 else if qJ f 16 then 3 else 0
def typeAt (g:Img) (t:Int):Option TD:=if 0≤t then g.types[t.toNat]? else none
theorem XO (g:Img) (t:Int):there g t=true↔∃ td,typeAt g t=some td:=by
 simp only [there,typeAt,Bool.and_eq_true,decide_eq_true_eq];constructor
 ·rintro ⟨h1,h2⟩;rw [if_pos h1];exact ⟨_,List.getElem?_eq_getElem zwy62⟩
 ·rintro ⟨td,h⟩;split at h
  ·rename_i h0;have:=(List.getElem?_eq_some_iff.1 h).1;omega
  ·cases h
theorem Qc {g:Img} {t:Int} {td:TD} (h:typeAt g t=some td):0≤t∧(g.types.map ZB)[t.toNat]?=some (ZB td):=by
 unfold typeAt at h;split at h
 ·rename_i h0;exact ⟨h0,by simp [h]⟩
 ·cases h
def yt (g:Img) (t:Int):Int:=match typeAt g t with|some td=>VG td.flags|none => -1
def qL (f k:Int):Bool:=IntKind.i64.wrap ((BitVec.ofInt IntKind.i64.bits f &&& BitVec.ofInt IntKind.i64.bits k).toNat:Int) != 0
def zgP (f:Int):Int:=if qL f 2 then 2 else if qL f 1 then 1 else if qL f 16 then 3 else 0
def Yh (g:Img) (t:Int):Int:=match typeAt g t with|some td=>zgP td.flags|none => -1
theorem zgf (td:TD):ACall Tryz.prog 91 [ZB td] (pi (zgP td.flags)):=by
 refine zi zf Tryz.func91 rfl zws Tryz.ntmps91 zwy63 _ rfl (fun hw gB hgB=>?_)
 repeat' (first|refine sA ?_|refine sC (fun _=>?_) (fun _=>?_)|fail)
 all_goals (refine ay ?_)
 all_goals (simp_all [zgP,qL,zC])
theorem Qb (g:Img) (t:Int):ACall Tryz.prog 50 [zO g,pi t] (pi (Yh g t)):=by
 refine zi zf Tryz.func50 rfl zws Tryz.ntmps50 zwy63 _ rfl (fun hw gB hgB=>?_);by_cases h:there g t=true
 ·have c1:ACall Tryz.prog 90 [zO g,pi t] (pb true):=by rw [←h];exact Qd g t
  obtain ⟨td,htd⟩:=(XO g t).1 h;obtain ⟨h0,he⟩:=Qc htd
  repeat' (first|(refine shC ?_;first|refine qC c1 ?_|refine qC (zgf td) ?_)|(refine shX ?_;first|refine zy rfl (ah h0 he) rfl rfl ?_|refine zq rfl (ah h0 he) rfl rfl ?_)|refine sA ?_|refine sC (fun _=>?_) (fun _=>?_)|fail)
  exact retq rfl (by simp [zC,Yh,htd])
 ·have c1:ACall Tryz.prog 90 [zO g,pi t] (pb false):=by rw [←Bool.eq_false_iff.2 h];exact Qd g t
  have hn:typeAt g t=none:=by
   cases e:typeAt g t with
   | none=>rfl
   | some td=>exact (h ((XO g t).2 ⟨td,e⟩)).elim
  repeat' (first|(refine shC ?_;first|refine qC c1 ?_)|refine sA ?_|refine sC (fun _=>?_) (fun _=>?_)|fail)
  exact retq rfl (by simp [zC,Yh,hn])
def zbT (g:Img) (t:Ty):Bool:=plain t 5&&Yh g t.index==0
theorem ziC (g:Img) (t:Ty):ACall Tryz.prog 181 [zO g,yJ t] (pb (zbT g t)):=by
 refine zi zf Tryz.func181 rfl zws Tryz.ntmps181 zwy63 _ rfl (fun hw gB hgB=>?_)
 repeat' (first|(refine shC ?_;first|refine qC (QT _ _) ?_|refine qC (Qb _ _) ?_)|refine sA ?_|refine sC (fun _=>?_) (fun _=>?_)|fail)
 all_goals (first|refine ay ?_|refine zbf rfl ?_)
 all_goals (first|(simp_all [zC,zbT];done)|(simp_all [zC,zbT];omega))
end Go.Cg
