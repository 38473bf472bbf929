/- A part of the walks by abstract values: no statement of its own. -/
import Derived.Test.YtdlokcmodgccnaaGreatU19
import Derived.Test.YtdlokcmodgccnaaGreatU12
set_option linter.unusedVariables false
set_option linter.unusedSimpArgs false
namespace Go.Cg
open Go.Proofs
set_option maxHeartbeats 20000000
def eqF (p:Ty→Ty→Bool) (a b:List Ty):Bool:=decide (a.length=b.length)&&(List.range a.length).all fun i=>p (a.getD i default) (b.getD i default)
theorem zhG (a b:List Ty) (p:Ty→Ty→Bool) (f:FuncId) (first cap:List PV) (hp:∀ x y,ACall Tryz.prog f (first++[yM x,yM y]++cap) (pb (p x y))) :
  ACall Tryz.prog 165 [tys a,tys b,.fn (.func f) first cap] (pb (eqF p a b)):=by
 refine zi zf Tryz.func165 rfl (by kernel_rfl) Tryz.ntmps165 (by simp) _ rfl (fun hw gB hgB=>?_)
 have hla:=zbv hw.1
 have hlb:=zbv hw.2.1
 by_cases hlen:a.length=b.length
 ·repeat' (first|refine sK ?_|refine sC (fun _=>?_) (fun _=>?_)|fail)
  refine zW (fun k:Nat=>[(1,.pv (tys b)),(2,.pv (.fn (.func f) first cap)),(15,.pv (tys a)),(16,.pv (pi a.length)),(17,.pv (pi k))]) (fun _=>[]) (fun k=>k≤a.length∧eqF p a b=((List.range a.length).drop k).all fun i=>p (a.getD i default) (b.getD i default)) (fun k=>a.length - k) 0 ⟨by simp,by simp [eqF,hlen]⟩ (tS) tH ?_
  rintro k ⟨hk,hr⟩
  by_cases hlt:k < a.length
  ·have hltb:k < b.length:=by omega
   have he:=zak hlt
   have heb:=zak hltb
   rw [Qm hlt,zQ hlt,zQ hltb] at hr
   repeat' (first|(refine shC ?_;first|refine qV ((hp _ _)) ?_)|(refine shX ?_;first|refine qX he ?_|refine qX heb ?_)|refine sK ?_|refine sC (fun _=>?_) (fun _=>?_)|fail)
   all_goals first|(refine retq rfl ?_;first|(simp only [zy,BL,List.length_map] at *;simp only [*,BL,List.length_map];done)|(simp_all [zy];done)|(simp_all [zy];omega)|(simp_all [zy];intros;omega))|(refine ⟨k + 1,⟨by omega,?_⟩,tD,tS,tH⟩;first|(simp only [BL,List.length_map] at *;simp only [*,BL,List.length_map];done)|(simp_all [];done)|(simp_all [];omega)|(simp_all [];intros;omega))|(trace "LEND";trace_state)
  ·rw [drop_end (by simp;omega)] at hr
   repeat' (first|refine sK ?_|refine sC (fun _=>?_) (fun _=>?_)|fail)
   all_goals first|(refine retq rfl ?_;first|(simp only [zy,BL,List.length_map] at *;simp only [*,BL,List.length_map];done)|(simp_all [zy];done)|(simp_all [zy];omega)|(simp_all [zy];intros;omega))|(refine VX rfl ?_;first|(simp only [zy,BL,List.length_map] at *;simp only [*,BL,List.length_map];done)|(simp_all [zy];done)|(simp_all [zy];omega)|(simp_all [zy];intros;omega))|skip
 ·repeat' (first|refine sK ?_|refine sC (fun _=>?_) (fun _=>?_)|fail)
  exact retq rfl (by simp [zy,eqF,hlen])
theorem zlN (g:Img) (hF:Fm g) (x y:Ty):ACall Tryz.prog 166 [yM x,yM y,.ptr (zT g) 0] (pb (zah g x y)):=by
 refine zi zf Tryz.func166 rfl (by kernel_rfl) Tryz.ntmps166 (by simp) _ rfl (fun hw gB hgB=>?_)
 repeat' (first|(refine shC ?_;first|refine qC (QY g x y hF) ?_)|refine sA ?_|refine sC (fun _=>?_) (fun _=>?_)|fail)
 exact retq rfl rfl
def zeV (g:Img) (a b:List Ty):Bool:=eqF (zah g) a b
theorem zgk (g:Img) (a b:List Ty) (hF:Fm g):ACall Tryz.prog 118 [zT g,tys a,tys b] (pb (zeV g a b)):=by
 refine zi zf Tryz.func118 rfl (by kernel_rfl) Tryz.ntmps118 (by simp) _ rfl (fun hw gB hgB=>?_)
 have c1:=zhG a b (zah g) 166 [] [.ptr (zT g) 0] (zlN g hF)
 repeat' (first|(refine shC ?_;first|refine qC c1 ?_)|refine sA ?_|refine sC (fun _=>?_) (fun _=>?_)|fail)
 exact retq rfl rfl
def zgR (g:Img):List Ty→List Ty→List Ty→List Ty × Int
 | x::a,y::b,out=>if (Qx g x y).2 != 0 then ([],(Qx g x y).2) else zgR g a b (out++[(Qx g x y).1])
 | [],_,out=>(out,0)
 | _,[],out=>(out,0)
def YB (g:Img) (a b:List Ty):List Ty × Int:=if a.length≠b.length then ([],9) else zgR g a b []
theorem zje (g:Img) (a b:List Ty) (hF:Fm g) (hal:a.length≤1000):ACall Tryz.prog 119 [zT g,tys a,tys b] (.tup [tys (YB g a b).1,pi (YB g a b).2]):=by
 refine zi zf Tryz.func119 rfl (by kernel_rfl) Tryz.ntmps119 (by simp) _ rfl (fun hw gB hgB=>?_)
 have hlb:=zbv hw.2.2.1
 by_cases hlen:a.length=b.length
 ·rw [show YB g a b=zgR g a b [] by simp [YB,hlen]]
  repeat' (first|refine Yr (t:=8) 0 42 4 (by decide) rfl rfl ?_|refine sK ?_|refine sC (fun _=>?_) (fun _=>?_)|fail)
  refine zW (fun x:Nat × List Ty=>[(1,.pv (tys a)),(2,.pv (tys b)),(3,.pv (.ptr (zT g) 0)),(8,.own 0),(18,.pv (pi a.length)),(19,.pv (pi x.1))]) (fun x=>[(0,.row 42 4 (x.2.map yM))])
   (fun x=>x.1≤a.length∧x.2.length=x.1∧zgR g (a.drop x.1) (b.drop x.1) x.2=zgR g a b []) (fun x=>a.length - x.1) (0,[]) ⟨by simp,by simp,rfl⟩ (tS) ⟨zD rfl zG,rfl⟩ ?_
  rintro ⟨k,out⟩ ⟨hk,hol,hr⟩
  simp only at hk hol hr
  by_cases hlt:k < a.length
  ·have hltb:k < b.length:=by omega
   have he:=zak hlt
   have heb:=zak hltb
   rw [drop_cons hlt,drop_cons hltb,zgR] at hr
   have c1:=zke g a[k] b[k] hF
   generalize Qx g a[k] b[k]=m at c1 hr
   obtain ⟨mt,me⟩:=m
   simp only at c1 hr
   by_cases hme:me=0
   ·subst hme
    simp only [bne_self_eq_false,Bool.false_eq_true,if_false] at hr
    repeat' (first|refine zN 1 13 14 0 11 zf (by kernel_rfl) (by kernel_rfl) rfl rfl rfl rfl rfl rfl rfl rfl rfl rfl rfl rfl rfl rfl rfl rfl rfl rfl rfl rfl rfl rfl ?_|refine yg rfl rfl ?_|refine ⟨_,_,rfl,rfl,?_⟩|(refine shC ?_;first|refine qC c1 ?_)|(refine shX ?_;first|refine qX he ?_|refine qX heb ?_)|(refine yK ?_;first|refine qG zf rfl rfl rfl rfl rfl rfl rfl (by show _ * 32≤_;simp;omega) (by simp;omega) rfl rfl ?_)|refine sK ?_|refine sC (fun _=>?_) (fun _=>?_)|fail)
    refine ⟨(k + 1,out++[mt]),⟨hlt,by simp [hol],hr⟩,tD,tS,⟨ZW rfl (by simp) zG,rfl⟩⟩
   ·have hne:(me != 0)=true:=by simp [hme]
    rw [hne] at hr
    repeat' (first|refine zN 1 13 14 0 11 zf (by kernel_rfl) (by kernel_rfl) rfl rfl rfl rfl rfl rfl rfl rfl rfl rfl rfl rfl rfl rfl rfl rfl rfl rfl rfl rfl rfl rfl ?_|refine yg rfl rfl ?_|refine ⟨_,_,rfl,rfl,?_⟩|(refine shC ?_;first|refine qC c1 ?_)|(refine shX ?_;first|refine qX he ?_|refine qX heb ?_)|refine sK ?_|refine sC (fun _=>?_) (fun _=>?_)|fail)
    rw [←hr]
    exact zaz (t:=6) (ps:=[tys [],pi me]) rfl (Qb 4 false) rfl rfl
  ·rw [drop_end (by omega),zgR] at hr
   repeat' (first|refine sK ?_|refine sC (fun _=>?_) (fun _=>?_)|fail)
   rw [←hr]
   exact retq rfl rfl
 ·repeat' (first|refine sK ?_|refine sC (fun _=>?_) (fun _=>?_)|fail)
  rw [show YB g a b=([],9) by simp [YB,hlen]]
  exact zaz (t:=6) (ps:=[tys [],pi 9]) rfl (Qb 4 false) rfl rfl
end Go.Cg
