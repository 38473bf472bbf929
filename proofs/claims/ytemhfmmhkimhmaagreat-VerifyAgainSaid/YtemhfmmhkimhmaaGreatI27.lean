/- A part of the walks by abstract values: no statement of its own. -/
import Derived.Test.YtemhfmmhkimhmaaGreatI23
import Derived.Test.YtemhfmmhkimhmaaGreatI19
set_option linter.unusedVariables false
set_option linter.unusedSimpArgs false
namespace Go.Cg
open Go.Proofs
set_option maxHeartbeats 20000000
def eqF (p:Ty->Ty->Bool) (a b:List Ty):Bool:=decide (a.length=b.length)&&(List.range a.length).all fun i=>p (a.getD i default) (b.getD i default)
theorem zib (a b:List Ty) (p:Ty->Ty->Bool) (f:FuncId) (first cap:List PV) (hp:∀ x y,ACall Tryz.prog f (first++[yI x,yI y]++cap) (pb (p x y))) :
  ACall Tryz.prog 137 [tys a,tys b,.fn (.func f) first cap] (pb (eqF p a b)):=by
 refine zh zf Tryz.func137 rfl zws Tryz.ntmps137 zwy63 _ rfl (fun hw gB hgB=>?_);have hla:=zcL hw.1;have hlb:=zcL hw.2.1;by_cases hlen:a.length=b.length
 ·repeat' (first|refine sK ?_|refine sC (fun _=>?_) (fun _=>?_)|fail)
  refine zL (fun k:Nat=>[(1,.pv (tys b)),(2,.pv (.fn (.func f) first cap)),(15,.pv (tys a)),(16,.pv (pi a.length)),(17,.pv (pi k))]) (fun _=>[]) (fun k=>k<=a.length/\eqF p a b=((List.range a.length).drop k).all fun i=>p (a.getD i default) (b.getD i default)) (fun k=>a.length - k) 0 ⟨by simp,by simp [eqF,hlen]⟩ (tS) tH ?_;rintro k ⟨hk,hr⟩;by_cases hlt:k < a.length
  ·have hltb:k < b.length:=by omega
   have he:=zbr hlt;have heb:=zbr hltb;rw [qM hlt,zQ hlt,zQ hltb] at hr
   repeat' (first|(refine shC ?_;first|refine qV ((hp _ _)) ?_)|(refine shX ?_;first|refine qX he ?_|refine qX heb ?_)|refine sK ?_|refine sC (fun _=>?_) (fun _=>?_)|fail)
   all_goals first|(refine ak ?_;first|(simp only [zn,BL,List.length_map] at *;simp only [*,BL,List.length_map];done)|(simp_all [zn];done)|(simp_all [zn];omega)|(simp_all [zn];intros;omega))|(refine ⟨k + 1,⟨by omega,?_⟩,tD,tS,tH⟩;first|(simp only [BL,List.length_map] at *;simp only [*,BL,List.length_map];done)|(simp_all [];done)|(simp_all [];omega)|(simp_all [];intros;omega))|(trace "LEND";trace_state)
  ·rw [drop_end zwy64] at hr
   repeat' (first|refine sK ?_|refine sC (fun _=>?_) (fun _=>?_)|fail)
   all_goals first|(refine ak ?_;first|(simp only [zn,BL,List.length_map] at *;simp only [*,BL,List.length_map];done)|(simp_all [zn];done)|(simp_all [zn];omega)|(simp_all [zn];intros;omega))|(refine Yi rfl ?_;first|(simp only [zn,BL,List.length_map] at *;simp only [*,BL,List.length_map];done)|(simp_all [zn];done)|(simp_all [zn];omega)|(simp_all [zn];intros;omega))|skip
 ·repeat' (first|refine sK ?_|refine sC (fun _=>?_) (fun _=>?_)|fail)
  exact retq rfl (by simp [zn,eqF,hlen])
theorem znV (g:Img) (hF:Fm g) (x y:Ty):ACall Tryz.prog 138 [yI x,yI y,.ptr (zK g) 0] (pb (zab g x y)):=by
 refine zh zf Tryz.func138 rfl zws Tryz.ntmps138 zwy63 _ rfl (fun hw gB hgB=>?_)
 repeat' (first|(refine shC ?_;first|refine qC (Ws g x y hF) ?_)|refine sA ?_|refine sC (fun _=>?_) (fun _=>?_)|fail)
 exact retq rfl rfl
def zcu (g:Img) (a b:List Ty):Bool:=eqF (zab g) a b
theorem ziE (g:Img) (a b:List Ty) (hF:Fm g):ACall Tryz.prog 90 [zK g,tys a,tys b] (pb (zcu g a b)):=by
 refine zh zf Tryz.func90 rfl zws Tryz.ntmps90 zwy63 _ rfl (fun hw gB hgB=>?_);have c1:=zib a b (zab g) 138 [] [.ptr (zK g) 0] (znV g hF)
 repeat' (first|(refine shC ?_;first|refine qC c1 ?_)|refine sA ?_|refine sC (fun _=>?_) (fun _=>?_)|fail)
 exact retq rfl rfl
def zeq (g:Img):List Ty->List Ty->List Ty->List Ty × Int
 | x::a,y::b,out=>if (QK g x y).2 != 0 then ([],(QK g x y).2) else zeq g a b (out++[(QK g x y).1])
 | [],_,out=>(out,0)
 | _,[],out=>(out,0)
def Yt (g:Img) (a b:List Ty):List Ty × Int:=if a.length≠b.length then ([],9) else zeq g a b []
theorem zlK (g:Img) (a b:List Ty) (hF:Fm g) (hal:a.length<=1000):ACall Tryz.prog 91 [zK g,tys a,tys b] (.tup [tys (Yt g a b).1,pi (Yt g a b).2]):=by
 refine zh zf Tryz.func91 rfl zws Tryz.ntmps91 zwy63 _ rfl (fun hw gB hgB=>?_);have hlb:=zcL hw.2.2.1;by_cases hlen:a.length=b.length
 ·rw [show Yt g a b=zeq g a b [] by simp [Yt,hlen]]
  repeat' (first|refine Za (t:=8) 0 32 4 zwy69 rfl rfl ?_|refine sK ?_|refine sC (fun _=>?_) (fun _=>?_)|fail)
  refine zL (fun x:Nat × List Ty=>[(1,.pv (tys a)),(2,.pv (tys b)),(3,.pv (.ptr (zK g) 0)),(8,.own 0),(18,.pv (pi a.length)),(19,.pv (pi x.1))]) (fun x=>[(0,.row 32 4 (x.2.map yI))])
   (fun x=>x.1<=a.length/\x.2.length=x.1/\zeq g (a.drop x.1) (b.drop x.1) x.2=zeq g a b []) (fun x=>a.length - x.1) (0,[]) ⟨by simp,by simp,rfl⟩ (tS) ⟨aB zC,rfl⟩ ?_
  rintro ⟨k,out⟩ ⟨hk,hol,hr⟩;simp only at hk hol hr;by_cases hlt:k < a.length
  ·have hltb:k < b.length:=by omega
   have he:=zbr hlt;have heb:=zbr hltb;rw [drop_cons hlt,drop_cons hltb,zeq] at hr;have c1:=zne g a[k] b[k] hF;generalize QK g a[k] b[k]=m at c1 hr;obtain ⟨mt,me⟩:=m;simp only at c1 hr;by_cases hme:me=0
   ·subst hme;simp only [bne_self_eq_false,Bool.false_eq_true,if_false] at hr
    repeat' (first|refine zM 1 13 0 zf rfl zws zws zws rfl rfl rfl rfl rfl rfl rfl rfl rfl rfl rfl rfl rfl rfl (fun _=>rfl) rfl rfl rfl ?_|refine ⟨_,_,rfl,rfl,rfl,?_⟩|(refine shC ?_;first|refine qC c1 ?_)|(refine shX ?_;first|refine qX he ?_|refine qX heb ?_)|(refine yj ?_;first|refine yV zf rfl rfl rfl rfl rfl rfl rfl zwy106 zwy64 rfl rfl ?_)|refine sK ?_|refine sC (fun _=>?_) (fun _=>?_)|fail)
    refine ⟨(k + 1,out++[mt]),⟨hlt,by simp [hol],hr⟩,tD,tS,⟨qH rfl zwy63 zC,rfl⟩⟩
   ·have hne:(me != 0)=true:=by simp [hme]
    rw [hne] at hr
    repeat' (first|refine zM 1 13 0 zf rfl zws zws zws rfl rfl rfl rfl rfl rfl rfl rfl rfl rfl rfl rfl rfl rfl (fun _=>rfl) rfl rfl rfl ?_|refine ⟨_,_,rfl,rfl,rfl,?_⟩|(refine shC ?_;first|refine qC c1 ?_)|(refine shX ?_;first|refine qX he ?_|refine qX heb ?_)|refine sK ?_|refine sC (fun _=>?_) (fun _=>?_)|fail)
    rw [<-hr];exact zbV (t:=6) (ps:=[tys [],pi me]) rfl (QY 4 false) rfl rfl
  ·rw [drop_end zwy62,zeq] at hr
   repeat' (first|refine sK ?_|refine sC (fun _=>?_) (fun _=>?_)|fail)
   rw [<-hr];exact retq rfl rfl
 ·repeat' (first|refine sK ?_|refine sC (fun _=>?_) (fun _=>?_)|fail)
  rw [show Yt g a b=([],9) by simp [Yt,hlen]];exact zbV (t:=6) (ps:=[tys [],pi 9]) rfl (QY 4 false) rfl rfl
end Go.Cg
