/- A part of the walks by abstract values: no statement of its own. -/
import Derived.Test.YtdlokcmodgccnaaGreatF21
import Derived.Test.YtdlokcmodgccnaaGreatF14
import Derived.Test.YtdlokcmodgccnaaGreatF15
import Derived.Test.YtdlokcmodgccnaaGreatF16
import Derived.Test.YtdlokcmodgccnaaGreatF10
set_option linter.unusedVariables false
set_option linter.unusedSimpArgs false
namespace Go.Cg
open Go.Proofs
theorem zcJ {a b:Cl} (ha:OkC a) {q:Int} {x:Pt} (hy:bounds b q=(x.f,x.t)) (h2:x.f < x.t):Wy a x=Zt a b q:=by
 have w1:within a 1 b q=Qq ⟨0,1,a.tf,a.tt⟩ x:=zfz (by simp [bounds]) hy ha.t
 have w2:within a 2 b q=Qq ⟨0,2,a.hf,a.ht⟩ x:=zfz (by simp [bounds]) hy ha.h
 by_cases hk:a.kind=2
 ·have w3:within a 3 b q=Qq ⟨0,3,a.filter,a.hf⟩ x:=zfz (by simp [bounds,hk]) hy (ha.f hk).2
  simp [Wy,zK,Zt,w1,w2,w3,hk,hy,h2,Bool.and_assoc]
 ·have w3:=zlY (b:=b) (q:=q) hk
  simp [Wy,zK,Zt,w1,w2,w3,hk,hy,h2]
theorem zfE (a:Cl) (x:Pt):zeb a x=(a.hf==x.f||a.kind==2&&a.filter==x.f):=by
 by_cases hk:a.kind=2 <;> simp [zeb,zK,hk]
theorem zr1 {a b:Cl} (h:b.kind≠2):Zt a b 3=false:=by simp [Zt,bounds,h]
theorem zhu {a b:Cl} (ha:OkC a) (hb:OkC b):zgF a b=!(badM a b 1 1||badM a b 1 2||badM a b 1 3||badM a b 2 1||badM a b 2 2||badM a b 2 3||badM a b 3 1||badM a b 3 2||badM a b 3 3):=by
 have m11:meet a 1 b 1=ZX ⟨0,1,a.tf,a.tt⟩ ⟨1,1,b.tf,b.tt⟩:=Vh (by simp [bounds]) (by simp [bounds]) ha.t hb.t
 have m12:meet a 1 b 2=ZX ⟨0,1,a.tf,a.tt⟩ ⟨1,2,b.hf,b.ht⟩:=Vh (by simp [bounds]) (by simp [bounds]) ha.t hb.h
 have m21:meet a 2 b 1=ZX ⟨0,2,a.hf,a.ht⟩ ⟨1,1,b.tf,b.tt⟩:=Vh (by simp [bounds]) (by simp [bounds]) ha.h hb.t
 have m22:meet a 2 b 2=ZX ⟨0,2,a.hf,a.ht⟩ ⟨1,2,b.hf,b.ht⟩:=Vh (by simp [bounds]) (by simp [bounds]) ha.h hb.h
 have ra:(zK 0 a)=[⟨0,1,a.tf,a.tt⟩,⟨0,2,a.hf,a.ht⟩]++(if a.kind==2 then [⟨0,3,a.filter,a.hf⟩] else []):=rfl
 have rb:(zK 1 b)=[⟨1,1,b.tf,b.tt⟩,⟨1,2,b.hf,b.ht⟩]++(if b.kind==2 then [⟨1,3,b.filter,b.hf⟩] else []):=rfl
 have n3:b.kind≠2→∀ p,meet a p b 3=false:=fun h p=>zoP (.inr (by simp [bounds,h]))
 have n3':a.kind≠2→∀ q,meet a 3 b q=false:=fun h q=>zoP (.inl (by simp [bounds,h]))
 have m13:b.kind=2→meet a 1 b 3=ZX ⟨0,1,a.tf,a.tt⟩ ⟨1,3,b.filter,b.hf⟩:=fun h=>Vh (by simp [bounds]) (by simp [bounds,h]) ha.t (hb.f h).2
 have m23:b.kind=2→meet a 2 b 3=ZX ⟨0,2,a.hf,a.ht⟩ ⟨1,3,b.filter,b.hf⟩:=fun h=>Vh (by simp [bounds]) (by simp [bounds,h]) ha.h (hb.f h).2
 have m31:a.kind=2→meet a 3 b 1=ZX ⟨0,3,a.filter,a.hf⟩ ⟨1,1,b.tf,b.tt⟩:=fun h=>Vh (by simp [bounds,h]) (by simp [bounds]) (ha.f h).2 hb.t
 have m32:a.kind=2→meet a 3 b 2=ZX ⟨0,3,a.filter,a.hf⟩ ⟨1,2,b.hf,b.ht⟩:=fun h=>Vh (by simp [bounds,h]) (by simp [bounds]) (ha.f h).2 hb.h
 have m33:a.kind=2→b.kind=2→meet a 3 b 3=ZX ⟨0,3,a.filter,a.hf⟩ ⟨1,3,b.filter,b.hf⟩:=fun h h'=>Vh (by simp [bounds,h]) (by simp [bounds,h']) (ha.f h).2 (hb.f h').2
 unfold zgF badM
 cases hs1:a.tf==b.tf <;> cases hs2:a.tt==b.tt <;> by_cases hka:a.kind=2 <;> by_cases hkb:b.kind=2 <;>
  simp [zck,ra,rb,hka,hkb,zrj,m11,m12,m21,m22,n3,n3',m13,m23,m31,m32,m33,Bool.and_assoc,Bool.or_assoc]
theorem zpX {a b:Cl} (ha:OkC a) (hb:OkC b):zhv a b=Qb a b:=by
 have e1:=zcJ (a:=a) (b:=b) ha (q:=1) (x:=⟨1,1,b.tf,b.tt⟩) (by simp [bounds]) hb.t
 have e2:=zcJ (a:=a) (b:=b) ha (q:=2) (x:=⟨1,2,b.hf,b.ht⟩) (by simp [bounds]) hb.h
 have b1:(bounds b 1)=(b.tf,b.tt):=by simp [bounds]
 have b2:(bounds b 2)=(b.hf,b.ht):=by simp [bounds]
 by_cases hk:b.kind=2
 ·have e3:=zcJ (a:=a) (b:=b) ha (q:=3) (x:=⟨1,3,b.filter,b.hf⟩) (by simp [bounds,hk]) (hb.f hk).2
  have b3:(bounds b 3)=(b.filter,b.hf):=by simp [bounds,hk]
  rw [zhv,show zK 1 b=[⟨1,1,b.tf,b.tt⟩,⟨1,2,b.hf,b.ht⟩,⟨1,3,b.filter,b.hf⟩] by simp [zK,hk]]
  simp only [zdI,e1,e2,e3,zfE,Qb,zlj,b1,b2,b3,zhu ha hb]
 ·rw [zhv,show zK 1 b=[⟨1,1,b.tf,b.tt⟩,⟨1,2,b.hf,b.ht⟩] by simp [zK,hk]]
  have c3:=zr1 (a:=a) hk
  simp only [zdI,e1,e2,zfE,Qb,zlj,b1,b2,c3,zhu ha hb]
  simp
theorem zeX {n:Int} {l:List Cl} {k:Nat} (h:Yx n l k=0):ZW n (l.getD k default)=0:=by
 unfold Yx at h
 split at h
 ·exact h
 ·rename_i h1;simpa using h1
set_option maxHeartbeats 1000000 in
theorem zkl (n:Int) (l:List Cl):ACall Tryz.prog 296 [pi n,cls l] (.tup [pi (ZE n l).1,pi (ZE n l).2]):=by
 refine zf zh Tryz.func296 rfl (by kernel_rfl) Tryz.ntmps296 (by simp) _ rfl (fun hw gB hgB=>?_)
 have hl:=zkq hw.2.1
 by_cases h6:6 < l.length
 ·repeat' (first|refine sK ?_|refine sC (fun _=>?_) (fun _=>?_)|fail)
  exact retq rfl (by simp [zi,ZE,h6])
 ·repeat' (first|refine sK ?_|refine sC (fun _=>?_) (fun _=>?_)|fail)
  refine zo (fun k:Nat=>[(0,.pv (pi n)),(1,.pv (cls l)),(14,.pv (cls l)),(15,.pv (pi l.length)),(16,.pv (pi k))]) (fun _=>[]) (fun k=>k≤l.length∧∀ j,j < k→Yx n l j=0) (fun k=>l.length - k) 0 ⟨by omega,fun j h=>by omega⟩ (tS) tH ?_
  rintro k ⟨hk,hno⟩
  by_cases hlt:k < l.length
  ·have he:=zaq hlt
   have ca:=zlL n (l.getD k default)
   rw [zol] at ca
   cases ha:(ZW n (l.getD k default) != 0)
   ·have hokk:OkC (l.getD k default):=zen (n:=n) (by simpa using ha)
    repeat' (first|refine zu rfl (Zc (xs:=l) (f:=yI) 0 k zh rfl rfl rfl rfl rfl rfl rfl (by omega) (by omega)) rfl rfl ?_|(refine shC ?_;first|refine qC ca ?_)|(refine shX ?_;first|refine qX he ?_)|refine sK ?_|refine sC (fun _=>?_) (fun _=>?_)|fail)
    refine zo (fun m:Nat=>[(0,.pv (pi n)),(1,.pv (cls l)),(6,.pv (pi k)),(7,.box 0 0),(14,.pv (cls l)),(15,.pv (pi l.length)),(16,.pv (pi k)),(30,.pv (cls (l.take k))),(31,.pv (pi k)),(32,.pv (pi m))]) (fun _=>[(0,.cell (.pv (yI (l.getD k default))))]) (fun m=>m≤k∧Qn l k m=false) (fun m=>k - m) 0 ⟨by omega,rfl⟩ (by repeat (first|exact zT|refine zM rfl ?_|(refine qg rfl ?_ ?_;· (simp;omega)))) tH ?_
    rintro m ⟨hm,hpb⟩
    by_cases hltm:m < k
    ·have hem:((l.take k).map yI)[((m:Nat):Int).toNat]?=some (yI (l.getD m default)):=by
      simp [List.getElem?_take,hltm,show m < l.length by omega]
     have hps:=zeI l k m
     have hokm:OkC (l.getD m default):=zen (n:=n) (zeX (hno m hltm))
     have cf:=znx (l.getD m default) (l.getD k default)
     rw [zpX hokm hokk] at cf
     cases hf:Qb (l.getD m default) (l.getD k default)
     ·have hat:Yx n l k=12:=by
       have:Qn l k k=true:=by
        simp only [Qn,List.any_eq_true,List.mem_range]
        exact ⟨m,hltm,by rw [hf];rfl⟩
       unfold Yx;rw [ha];simp [this]
      have hfin:=zbN h6 hlt hno (by rw [hat];decide)
      clear hps
      rw [hf] at cf
      repeat' (first|(refine shC ?_;first|refine qC cf ?_)|(refine shX ?_;first|refine qX hem ?_)|refine sK ?_|refine sC (fun _=>?_) (fun _=>?_)|fail)
      exact retq rfl (by simp [zi,hfin,hat])
     ·have hpm:Qn l k (m + 1)=false:=by rw [hps,hpb,hf];rfl
      clear hps
      rw [hf] at cf
      repeat' (first|(refine shC ?_;first|refine qC cf ?_)|(refine shX ?_;first|refine qX hem ?_)|refine sK ?_|refine sC (fun _=>?_) (fun _=>?_)|fail)
      exact ⟨m + 1,⟨by omega,hpm⟩,tD,tS,tH⟩
    ·repeat' (first|refine sK ?_|refine sC (fun _=>?_) (fun _=>?_)|fail)
     have:m=k:=by omega
     subst this
     have hat:Yx n l m=0:=by unfold Yx;rw [ha];simp [hpb]
     exact ⟨m + 1,⟨by omega,fun j hj=>by
      by_cases e:j=m
      ·subst e;exact hat
      ·exact hno j (by omega)⟩,tD,tS,tH⟩
   ·have hat:Yx n l k=ZW n (l.getD k default):=by unfold Yx;rw [ha];simp
    have hfin:=zbN h6 hlt hno (by rw [hat];simpa using ha)
    repeat' (first|(refine shC ?_;first|refine qC ca ?_)|(refine shX ?_;first|refine qX he ?_)|refine sK ?_|refine sC (fun _=>?_) (fun _=>?_)|fail)
    exact retq rfl (by simp [zi,hfin,hat])
  ·repeat' (first|refine sK ?_|refine sC (fun _=>?_) (fun _=>?_)|fail)
   have:k=l.length:=by omega
   subst this
   exact retq rfl (by simp [zi,zhs h6 hno])
set_option maxHeartbeats 20000000
theorem zqh (t:Ty) (h:Ze t 1=true):∃ bs:List Int,ACall Tryz.prog 301 [zjQ [6],yK t] (u8s bs):=by
 obtain ⟨k,i,d,r⟩:=t
 have hr:r=false:=by
  cases r with
  | false=>rfl
  | true=>simp [Ze] at h
 subst hr
 have hp:Zj ⟨k,i,d,false⟩=true∧k≠1:=by
  simp only [Ze] at h
  cases hp:Zj ⟨k,i,d,false⟩ with
  | false=>rw [hp] at h;simp at h
  | true=>rw [hp] at h;simp at h;exact ⟨rfl,h⟩
 obtain ⟨hp,hk1⟩:=hp
 simp only [Zj] at hp
 split at hp
 ·simp at hp
 ·rename_i hb
  simp at hb
  have hd:d=0∨d=1∨d=2∨d=3:=by omega
  by_cases h2:k=2
  ·exact ⟨_,zfb k 8 i d (.inl ⟨h2,rfl⟩) hd⟩
  ·by_cases h3:k=3
   ·exact ⟨_,zfb k 10 i d (.inr (.inl ⟨h3,rfl⟩)) hd⟩
   ·by_cases h4:k=4
    ·exact ⟨_,zfb k 28 i d (.inr (.inr ⟨h4,rfl⟩)) hd⟩
    ·by_cases h5:k=5
     ·exact ziT k 18 i d (.inl ⟨h5,rfl⟩) (by omega) (by simp [h5] at hp;omega) hd
     ·by_cases h6:k=6
      ·exact ziT k 17 i d (.inr ⟨h6,rfl⟩) (by omega) (by simp [h6] at hp;omega) hd
      ·by_cases h7:k=7
       ·subst h7
        exact zpO i d (by omega) (by simp at hp;omega) hd
       ·simp [hk1,h2,h3,h4,h5,h6,h7] at hp
theorem ze6 (t:Ty) (h:Ze t 1=false):ACall Tryz.prog 286 [yK t] (.tup [.base (.slice none 0 0),pi 17]):=by
 refine zf zh Tryz.func286 rfl (by kernel_rfl) Tryz.ntmps286 (by simp) _ rfl (fun hw gB hgB=>?_)
 have c1:=zgm t
 rw [h] at c1
 repeat' (first|(refine shC ?_;first|refine qC c1 ?_)|refine sA ?_|refine sC (fun _=>?_) (fun _=>?_)|fail)
 exact retq rfl rfl
theorem ziQ (t:Ty) (h:Ze t 1=true):∃ bs:List Int,ACall Tryz.prog 286 [yK t] (.tup [u8s bs,pi 0]):=by
 obtain ⟨bs,cp⟩:=zqh t h
 refine ⟨bs,?_⟩
 refine zf zh Tryz.func286 rfl (by kernel_rfl) Tryz.ntmps286 (by simp) _ rfl (fun hw gB hgB=>?_)
 have c1:=zgm t
 rw [h] at c1
 repeat' (first|(refine shC ?_;first|refine qC c1 ?_|refine qC cp ?_)|refine sA ?_|refine sC (fun _=>?_) (fun _=>?_)|fail)
 exact retq rfl rfl
theorem zcj (t:Ty) (n:Int):ACall Tryz.prog 271 [yK t,pi n] (pb (Qm t 1 n)):=by
 refine zf zh Tryz.func271 rfl (by kernel_rfl) Tryz.ntmps271 (by simp) _ rfl (fun hw gB hgB=>?_)
 cases h:Ze t 1
 ·repeat' (first|(refine shC ?_;first|refine qC (ze6 t h) ?_|refine qC (zaV t n) ?_)|refine sA ?_|refine sC (fun _=>?_) (fun _=>?_)|fail)
  all_goals (refine retq rfl ?_;simp_all [zi,Qm];done)
 ·obtain ⟨bs,cp⟩:=ziQ t h
  repeat' (first|(refine shC ?_;first|refine qC cp ?_|refine qC (zaV t n) ?_)|refine sA ?_|refine sC (fun _=>?_) (fun _=>?_)|fail)
  all_goals (refine retq rfl ?_;simp_all [zi,Qm];done)
theorem zjO (c:Cl) (g:Img):ACall Tryz.prog 295 [yI c,pi (g.types.length:Nat)] (pb (qQ g c)):=by
 refine zf zh Tryz.func295 rfl (by kernel_rfl) Tryz.ntmps295 (by simp) _ rfl (fun hw gB hgB=>?_)
 by_cases hk:c.kind=1
 ·have hb:(c.kind != 1)=false:=by simp [hk]
  repeat' (first|(refine shC ?_;first|refine qC (zcj _ _) ?_)|refine sK ?_|refine sC (fun _=>?_) (fun _=>?_)|fail)
  exact retq rfl (by simp [zi,qQ,hk])
 ·have hb:(c.kind != 1)=true:=by simp [hk]
  repeat' (first|(refine shC ?_;first|refine qC (zcj _ _) ?_)|refine sK ?_|refine sC (fun _=>?_) (fun _=>?_)|fail)
  have h1:(c.kind==1)=false:=by simp [hk]
  exact retq rfl (by simp only [zi,qQ,h1,hb,zah];simp)
set_option maxHeartbeats 20000000
def zlp (l:List Ty) (p:Ty→Bool):Int:=if l.any p then ((l.findIdx p:Nat):Int) else -1
theorem zeM (l:List Ty) (p:Ty→Bool) (f:FuncId) (first cap:List PV) (hp:∀ x∈l,ACall Tryz.prog f (first++[yK x]++cap) (pb (p x))):ACall Tryz.prog 126 [.slc 4 (l.map yK) false,.fn (.func f) first cap] (pi (zlp l p)):=by
 refine zf zh Tryz.func126 rfl (by kernel_rfl) Tryz.ntmps126 (by simp) _ rfl (fun hw gB hgB=>?_)
 have hl:l.length≤9223372036854775807:=by have:=hw.1;simp [PV.lenOk,lensOk,maxLen] at this;exact this.1
 repeat' (first|refine sA ?_|refine sC (fun _=>?_) (fun _=>?_)|fail)
 refine zo (fun k:Nat=>[(0,.pv (.slc 4 (l.map yK) false)),(1,.pv (.fn (.func f) first cap)),(7,.pv (pi l.length)),(8,.pv (pi k))]) (fun _=>[]) (fun k=>k≤l.length∧∀ j (h:j < k) (h2:j < l.length),p l[j]=false) (fun k=>l.length - k) 0 ⟨by omega,fun j h=>by omega⟩ (tS) tH ?_
 rintro k ⟨hk,hno⟩
 by_cases hlt:k < l.length
 ·have he:=zA (f:=yK) hlt
  have c1:=hp _ (List.getElem_mem hlt)
  cases hpx:p l[k]
  ·rw [hpx] at c1
   repeat' (first|(refine shC ?_;first|refine qV (c1) ?_)|(refine shX ?_;first|refine qX he ?_)|refine sK ?_|refine sC (fun _=>?_) (fun _=>?_)|fail)
   exact ⟨k + 1,⟨hlt,fun j hj h2=>by
    by_cases e:j=k
    ·subst e;exact hpx
    ·exact hno j (by omega) h2⟩,tD,tS,tH⟩
  ·rw [hpx] at c1
   have hi:l.findIdx p=k:=by
    rw [List.findIdx_eq hlt]
    exact ⟨hpx,fun j hj=>hno j hj (by omega)⟩
   have ha:l.any p=true:=List.any_eq_true.2 ⟨_,List.getElem_mem hlt,hpx⟩
   repeat' (first|(refine shC ?_;first|refine qV (c1) ?_)|(refine shX ?_;first|refine qX he ?_)|refine sK ?_|refine sC (fun _=>?_) (fun _=>?_)|fail)
   exact retq rfl (by simp [zi,zlp,ha,hi])
 ·have ha:l.any p=false:=by
   rw [List.any_eq_false]
   intro x hx
   obtain ⟨j,hj,rfl⟩:=List.getElem_of_mem hx
   simp [hno j (by omega) hj]
  repeat' (first|refine sK ?_|refine sC (fun _=>?_) (fun _=>?_)|fail)
  exact retq rfl (by simp [zi,zlp,ha])
theorem Yl (l:List Ty) (p:Ty→Bool) (f:FuncId) (first cap:List PV) (hp:∀ x∈l,ACall Tryz.prog f (first++[yK x]++cap) (pb (p x))):ACall Tryz.prog 85 [.slc 4 (l.map yK) false,.fn (.func f) first cap] (pb (l.any p)):=by
 refine zf zh Tryz.func85 rfl (by kernel_rfl) Tryz.ntmps85 (by simp) _ rfl (fun hw gB hgB=>?_)
 have c1:=zeM l p f first cap hp
 repeat' (first|(refine shC ?_;first|refine qC c1 ?_)|refine sA ?_|refine sC (fun _=>?_) (fun _=>?_)|fail)
 refine retq rfl ?_
 have:decide (0≤zlp l p)=l.any p:=by
  unfold zlp
  cases h:l.any p <;> simp
 simp [zi,this]
def zhI (l:List Ins) (p:Ins→Bool):Int:=if l.any p then ((l.findIdx p:Nat):Int) else -1
theorem zeD (l:List Ins) (p:Ins→Bool) (f:FuncId) (first cap:List PV) (hp:∀ x∈l,ACall Tryz.prog f (first++[zY x]++cap) (pb (p x))):ACall Tryz.prog 302 [.slc 6 (l.map zY) false,.fn (.func f) first cap] (pi (zhI l p)):=by
 refine zf zh Tryz.func302 rfl (by kernel_rfl) Tryz.ntmps302 (by simp) _ rfl (fun hw gB hgB=>?_)
 have hl:l.length≤9223372036854775807:=by have:=hw.1;simp [PV.lenOk,lensOk,maxLen] at this;exact this.1
 repeat' (first|refine sA ?_|refine sC (fun _=>?_) (fun _=>?_)|fail)
 refine zo (fun k:Nat=>[(0,.pv (.slc 6 (l.map zY) false)),(1,.pv (.fn (.func f) first cap)),(7,.pv (pi l.length)),(8,.pv (pi k))]) (fun _=>[]) (fun k=>k≤l.length∧∀ j (h:j < k) (h2:j < l.length),p l[j]=false) (fun k=>l.length - k) 0 ⟨by omega,fun j h=>by omega⟩ (tS) tH ?_
 rintro k ⟨hk,hno⟩
 by_cases hlt:k < l.length
 ·have he:=zA (f:=zY) hlt
  have c1:=hp _ (List.getElem_mem hlt)
  cases hpx:p l[k]
  ·rw [hpx] at c1
   repeat' (first|(refine shC ?_;first|refine qV (c1) ?_)|(refine shX ?_;first|refine qX he ?_)|refine sK ?_|refine sC (fun _=>?_) (fun _=>?_)|fail)
   exact ⟨k + 1,⟨hlt,fun j hj h2=>by
    by_cases e:j=k
    ·subst e;exact hpx
    ·exact hno j (by omega) h2⟩,tD,tS,tH⟩
  ·rw [hpx] at c1
   have hi:l.findIdx p=k:=by
    rw [List.findIdx_eq hlt]
    exact ⟨hpx,fun j hj=>hno j hj (by omega)⟩
   have ha:l.any p=true:=List.any_eq_true.2 ⟨_,List.getElem_mem hlt,hpx⟩
   repeat' (first|(refine shC ?_;first|refine qV (c1) ?_)|(refine shX ?_;first|refine qX he ?_)|refine sK ?_|refine sC (fun _=>?_) (fun _=>?_)|fail)
   exact retq rfl (by simp [zi,zhI,ha,hi])
 ·have ha:l.any p=false:=by
   rw [List.any_eq_false]
   intro x hx
   obtain ⟨j,hj,rfl⟩:=List.getElem_of_mem hx
   simp [hno j (by omega) hj]
  repeat' (first|refine sK ?_|refine sC (fun _=>?_) (fun _=>?_)|fail)
  exact retq rfl (by simp [zi,zhI,ha])
theorem zcF (l:List Ins) (p:Ins→Bool) (f:FuncId) (first cap:List PV) (hp:∀ x∈l,ACall Tryz.prog f (first++[zY x]++cap) (pb (p x))):ACall Tryz.prog 291 [.slc 6 (l.map zY) false,.fn (.func f) first cap] (pb (l.any p)):=by
 refine zf zh Tryz.func291 rfl (by kernel_rfl) Tryz.ntmps291 (by simp) _ rfl (fun hw gB hgB=>?_)
 have c1:=zeD l p f first cap hp
 repeat' (first|(refine shC ?_;first|refine qC c1 ?_)|refine sA ?_|refine sC (fun _=>?_) (fun _=>?_)|fail)
 refine retq rfl ?_
 have:decide (0≤zhI l p)=l.any p:=by
  unfold zhI
  cases h:l.any p <;> simp
 simp [zi,this]
def zm0 (l:List Cl) (p:Cl→Bool):Int:=if l.any p then ((l.findIdx p:Nat):Int) else -1
theorem zfr (l:List Cl) (p:Cl→Bool) (f:FuncId) (first cap:List PV) (hp:∀ x∈l,ACall Tryz.prog f (first++[yI x]++cap) (pb (p x))):ACall Tryz.prog 210 [.slc 10 (l.map yI) false,.fn (.func f) first cap] (pi (zm0 l p)):=by
 refine zf zh Tryz.func210 rfl (by kernel_rfl) Tryz.ntmps210 (by simp) _ rfl (fun hw gB hgB=>?_)
 have hl:l.length≤9223372036854775807:=by have:=hw.1;simp [PV.lenOk,lensOk,maxLen] at this;exact this.1
 repeat' (first|refine sA ?_|refine sC (fun _=>?_) (fun _=>?_)|fail)
 refine zo (fun k:Nat=>[(0,.pv (.slc 10 (l.map yI) false)),(1,.pv (.fn (.func f) first cap)),(7,.pv (pi l.length)),(8,.pv (pi k))]) (fun _=>[]) (fun k=>k≤l.length∧∀ j (h:j < k) (h2:j < l.length),p l[j]=false) (fun k=>l.length - k) 0 ⟨by omega,fun j h=>by omega⟩ (tS) tH ?_
 rintro k ⟨hk,hno⟩
 by_cases hlt:k < l.length
 ·have he:=zA (f:=yI) hlt
  have c1:=hp _ (List.getElem_mem hlt)
  cases hpx:p l[k]
  ·rw [hpx] at c1
   repeat' (first|(refine shC ?_;first|refine qV (c1) ?_)|(refine shX ?_;first|refine qX he ?_)|refine sK ?_|refine sC (fun _=>?_) (fun _=>?_)|fail)
   exact ⟨k + 1,⟨hlt,fun j hj h2=>by
    by_cases e:j=k
    ·subst e;exact hpx
    ·exact hno j (by omega) h2⟩,tD,tS,tH⟩
  ·rw [hpx] at c1
   have hi:l.findIdx p=k:=by
    rw [List.findIdx_eq hlt]
    exact ⟨hpx,fun j hj=>hno j hj (by omega)⟩
   have ha:l.any p=true:=List.any_eq_true.2 ⟨_,List.getElem_mem hlt,hpx⟩
   repeat' (first|(refine shC ?_;first|refine qV (c1) ?_)|(refine shX ?_;first|refine qX he ?_)|refine sK ?_|refine sC (fun _=>?_) (fun _=>?_)|fail)
   exact retq rfl (by simp [zi,zm0,ha,hi])
 ·have ha:l.any p=false:=by
   rw [List.any_eq_false]
   intro x hx
   obtain ⟨j,hj,rfl⟩:=List.getElem_of_mem hx
   simp [hno j (by omega) hj]
  repeat' (first|refine sK ?_|refine sC (fun _=>?_) (fun _=>?_)|fail)
  exact retq rfl (by simp [zi,zm0,ha])
theorem zc7 (l:List Cl) (p:Cl→Bool) (f:FuncId) (first cap:List PV) (hp:∀ x∈l,ACall Tryz.prog f (first++[yI x]++cap) (pb (p x))):ACall Tryz.prog 163 [.slc 10 (l.map yI) false,.fn (.func f) first cap] (pb (l.any p)):=by
 refine zf zh Tryz.func163 rfl (by kernel_rfl) Tryz.ntmps163 (by simp) _ rfl (fun hw gB hgB=>?_)
 have c1:=zfr l p f first cap hp
 repeat' (first|(refine shC ?_;first|refine qC c1 ?_)|refine sA ?_|refine sC (fun _=>?_) (fun _=>?_)|fail)
 refine retq rfl ?_
 have:decide (0≤zm0 l p)=l.any p:=by
  unfold zm0
  cases h:l.any p <;> simp
 simp [zi,this]
theorem zdX (t:Ty) (n:Int):ACall Tryz.prog 288 [yK t,.ptr (pi n) 0] (pb (!Qm t 2 n)):=by
 refine zf zh Tryz.func288 rfl (by kernel_rfl) Tryz.ntmps288 (by simp) _ rfl (fun hw gB hgB=>?_)
 repeat' (first|(refine shC ?_;first|refine qC (zlE t n) ?_)|refine sA ?_|refine sC (fun _=>?_) (fun _=>?_)|fail)
 exact retq rfl rfl
theorem zj6 (x:Ins) (g:Img) (m:Me) (hx:zdQ x):ACall Tryz.prog 292 [zY x,.ptr (zq g) 0,.ptr (zG m) 0] (pb (!codeOk g m x)):=by
 refine zf zh Tryz.func292 rfl (by kernel_rfl) Tryz.ntmps292 (by simp) _ rfl (fun hw gB hgB=>?_)
 have c1:=znI x g m hx
 rw [show m.code.length=(m.code.map zY).length by simp] at c1
 repeat' (first|(refine shC ?_;first|refine qC c1 ?_)|refine sA ?_|refine sC (fun _=>?_) (fun _=>?_)|fail)
 exact retq rfl rfl
theorem zkD (c:Cl) (g:Img):ACall Tryz.prog 294 [yI c,.ptr (pi (g.types.length:Nat)) 0] (pb (!qQ g c)):=by
 refine zf zh Tryz.func294 rfl (by kernel_rfl) Tryz.ntmps294 (by simp) _ rfl (fun hw gB hgB=>?_)
 repeat' (first|(refine shC ?_;first|refine qC (zjO c g) ?_)|refine sA ?_|refine sC (fun _=>?_) (fun _=>?_)|fail)
 exact retq rfl rfl
set_option maxHeartbeats 4000000 in
theorem zkO (m:Me) (g:Img) (hx:∀ x∈m.code,zdQ x):ACall Tryz.prog 272 [zG m,zq g] (pb (yV g m)):=by
 refine zf zh Tryz.func272 rfl (by kernel_rfl) Tryz.ntmps272 (by simp) _ rfl (fun hw gB hgB=>?_)
 have cP:=Yl m.params (fun t=>!Qm t 2 ((g.types.map Zb).length:Nat)) 288 [] [.ptr (pi ((g.types.map Zb).length:Nat)) 0] (fun t _=>zdX t _)
 have cL:=Yl m.locals (fun t=>!Qm t 2 ((g.types.map Zb).length:Nat)) 288 [] [.ptr (pi ((g.types.map Zb).length:Nat)) 0] (fun t _=>zdX t _)
 have cC:=zcF m.code (fun x=>!codeOk g m x) 292 [] [.ptr (zq g) 0,.ptr (zG m) 0] (fun x h=>zj6 x g m (hx x h))
 have cK:=zc7 m.clauses (fun c=>!qQ g c) 294 [] [.ptr (pi ((g.types.map Zb).length:Nat)) 0] (fun c _=>by have:=zkD c g;rwa [show g.types.length=(g.types.map Zb).length by simp] at this)
 have cR:=zkl ((m.code.map zY).length:Nat) m.clauses
 rw [←List.not_all_eq_any_not] at cP cL cC cK
 have hfm:yV g m=(Va m.name&&decide (0≤m.flags)&&decide (m.flags≤31)&&decide (0≤m.max)&&decide (m.max≤12)&&decide ((((m.params.map yK).length:Nat):Int)≤6)&&decide ((((m.locals.map yK).length:Nat):Int)≤12)&&Qm m.ret 3 ((g.types.map Zb).length:Nat)
   && (m.params.all fun t=>Qm t 2 ((g.types.map Zb).length:Nat))&&(m.locals.all fun t=>Qm t 2 ((g.types.map Zb).length:Nat))&&(decide ((((m.code.map zY).length:Nat):Int)≤160)&&m.code.all (codeOk g m)&&m.clauses.all (qQ g)&&((ZE ((m.code.map zY).length:Nat) m.clauses).2==0))):=by
  simp only [yV,Zf,Wq,List.length_map]
 generalize (m.params.all fun t=>Qm t 2 ((g.types.map Zb).length:Nat))=bP at cP hfm
 generalize (m.locals.all fun t=>Qm t 2 ((g.types.map Zb).length:Nat))=bL at cL hfm
 generalize m.code.all (codeOk g m)=bC at cC hfm
 generalize m.clauses.all (qQ g)=bK at cK hfm
 repeat' (first|refine zbc (t:=5) rfl rfl rfl ?_|(refine shC ?_;first|refine qC (zdm _) ?_|refine qC (zkr m.ret _) ?_|refine qC cP ?_|refine qC cL ?_|refine qC cC ?_|refine qC cK ?_|refine qC cR ?_)|refine sA ?_|refine sC (fun _=>?_) (fun _=>?_)|fail)
 all_goals (refine retq rfl ?_;rw [hfm];first|(simp_all [zi];done)|(simp_all [zi];omega))
def YZ (at_:Int) (x:Pt):Bool:=decide (x.f≤at_)&&decide (at_ < x.t)
def Xy (at_:Int) (l:List Cl):Nat→List Pt
 | 0=>[]
 | k + 1=>Xy at_ l k++(zK k (l.getD k default)).filter (YZ at_)
def Qo (at_:Int) (l:List Cl):List Pt:=Xy at_ l l.length
def zks (a b:Pt):Int:=if (a.t - a.f) - (b.t - b.f)=0 then a.c - b.c else (a.t - a.f) - (b.t - b.f)
def VP (x:Pt):List Pt→List Pt→List Pt
 | [],s=>x::s
 | y::r,s=>if zks x y < 0 then VP x r (y::s) else (y::r).reverse++x::s
def zdj (l:List Pt) (x:Pt):List Pt:=VP x l.reverse []
def Xa (l:List Pt):List Pt:=l.foldl zdj []
def zfL (a b:Pt):Bool:=a.f==b.f&&(a.t==b.t&&true)
def ZY (p:Pt):List Pt→List Pt
 | []=>[]
 | y::l=>if zfL y p then ZY y l else y::ZY y l
def qH:List Pt→List Pt
 | []=>[]
 | x::l=>x::ZY x l
def yh (l:List Cl) (at_:Int):List Pt:=qH (Xa (Qo at_ l))
theorem ze1 (x:Pt):∀ (r s:List Pt),(VP x r s).length=r.length + s.length + 1
 | [],s=>by simp [VP]
 | y::r,s=>by
  rw [VP]
  split
  ·rw [ze1 x r (y::s)];simp;omega
  ·simp;omega
theorem zm1 (l:List Pt) (x:Pt):(zdj l x).length=l.length + 1:=by rw [zdj,ze1];simp
theorem zfx (l:List Pt):(Xa l).length=l.length:=by
 have:∀ (l a:List Pt),(l.foldl zdj a).length=a.length + l.length:=by
  intro l
  induction l with
  | nil=>intro a;simp
  | cons x l ih=>intro a;rw [List.foldl_cons,ih,zm1];simp;omega
 rw [Xa,this];simp
theorem zh4 (k:Int) (c:Cl):(zK k c).length≤3:=by unfold zK;split <;> simp
theorem Vt (at_:Int) (l:List Cl):∀ k,(Xy at_ l k).length≤3 * k
 | 0=>by simp [Xy]
 | k + 1=>by
  rw [Xy,List.length_append]
  have h1:=Vt at_ l k
  have h2:=List.length_filter_le (YZ at_) (zK k (l.getD k default))
  have h3:=zh4 k (l.getD k default)
  omega
theorem znD (p:Pt) (l:List Pt):(ZY p l).length≤l.length:=by
 induction l generalizing p with
 | nil=>simp [ZY]
 | cons y l ih =>
  rw [ZY]
  split
  ·have:=ih y;simp;omega
  ·have:=ih y;simp;omega
theorem zps (l:List Pt):(qH l).length≤l.length:=by
 cases l with
 | nil=>simp [qH]
 | cons x l=>have:=znD x l;simp [qH];omega
theorem zn4 (l:List Cl) (at_:Int):(yh l at_).length≤3 * l.length:=by
 have h1:=zps (Xa (Qo at_ l))
 rw [zfx] at h1
 exact Nat.le_trans h1 (Vt at_ l l.length)
theorem zfy (x:Pt):∀ (r s:List Pt) (y:Pt),y∈VP x r s↔y=x∨y∈r∨y∈s
 | [],s,y=>by simp [VP]
 | z::r,s,y=>by
  rw [VP]
  split
  ·rw [zfy x r (z::s) y];grind
  ·grind
theorem zjb (l:List Pt) (y:Pt):y∈Xa l↔y∈l:=by
 have:∀ (l a:List Pt),y∈l.foldl zdj a↔y∈a∨y∈l:=by
  intro l
  induction l with
  | nil=>intro a;simp
  | cons x l ih =>
   intro a
   rw [List.foldl_cons,ih,zdj,zfy]
   grind
 rw [Xa,this];simp
theorem znT {p y:Pt} {l:List Pt} (h:y∈ZY p l):y∈l:=by
 induction l generalizing p with
 | nil=>simp [ZY] at h
 | cons z l ih =>
  rw [ZY] at h
  split at h
  ·exact List.mem_cons_of_mem _ (ih h)
  ·rcases List.mem_cons.1 h with h|h
   ·simp [h]
   ·exact List.mem_cons_of_mem _ (ih h)
theorem zqH {y:Pt} {l:List Pt} (h:y∈qH l):y∈l:=by
 cases l with
 | nil=>simp [qH] at h
 | cons x l =>
  rcases List.mem_cons.1 h with h|h
  ·simp [h]
  ·exact List.mem_cons_of_mem _ (znT h)
theorem XZ {at_:Int} {l:List Cl} {y:Pt}:∀ {k:Nat},y∈Xy at_ l k→∃ j,j < k∧y∈zK j (l.getD j default)∧YZ at_ y=true
 | 0,h=>by simp [Xy] at h
 | k + 1,h=>by
  rw [Xy,List.mem_append,List.mem_filter] at h
  rcases h with h|h
  ·obtain ⟨j,h1,h2⟩:=XZ h;exact ⟨j,by omega,h2⟩
  ·exact ⟨k,by omega,h⟩
theorem zdH {l:List Cl} {at_:Int} {y:Pt} (h:y∈yh l at_):∃ j,j < l.length∧y∈zK j (l.getD j default)∧YZ at_ y=true :=
 XZ ((zjb _ _).1 (zqH h))
theorem zb8 {k:Int} {c:Cl} {y:Pt} (h:y∈zK k c):y.c=k:=by
 unfold zK at h
 split at h <;> simp at h
 ·rcases h with rfl|rfl|rfl <;> rfl
 ·rcases h with rfl|rfl <;> rfl
set_option maxHeartbeats 20000000
def zeA (g:Img) (k:Nat):Int:=if k=0 then 0 else (g.fields.getD (k - 1) default).owner
def zeu (g:Img):Bool:=(List.range g.fields.length).all (zec g)&&decide (((g.fields.map Yc).length:Nat)≤(64:Int))
theorem zn9 {g:Img} {k:Nat} (h:k < g.fields.length):zeA g (k + 1)=g.fields[k].owner:=by
 rw [zeA,if_neg (by omega),Nat.add_sub_cancel,zx h]
theorem znE {g:Img} {k:Nat} (h:k < g.fields.length) (hl:0≤zeA g k):zec g k=(Va g.fields[k].name&&!decide (g.fields[k].owner < zeA g k)&&!decide ((((g.types.map Zb).length:Nat):Int)≤g.fields[k].owner)&&Qm g.fields[k].ty 1 ((g.types.map Zb).length:Nat)):=by
 rw [zec]
 simp only [zx h,List.length_map]
 generalize Va g.fields[k].name=bf
 generalize Qm g.fields[k].ty 1 g.types.length=bm
 unfold zeA at hl ⊢
 by_cases hk:k=0
 ·subst hk
  rw [Bool.eq_iff_iff];simp
 ·have e:(k==0)=false:=by simp [hk]
  rw [if_neg hk] at hl ⊢
  rw [e,Bool.eq_iff_iff]
  simp only [List.getD_eq_getElem?_getD] at hl ⊢
  simp
  intro _
  constructor
  ·rintro ⟨⟨⟨a,b⟩,c⟩,d⟩;exact ⟨⟨a,d⟩,c⟩
  ·rintro ⟨⟨a,d⟩,c⟩;exact ⟨⟨⟨a,by omega⟩,c⟩,d⟩
theorem zkc (g:Img):ACall Tryz.prog 239 [zq g] (pb (zeu g)):=by
 refine zf zh Tryz.func239 rfl (by kernel_rfl) Tryz.ntmps239 (by simp) _ rfl (fun hw gB hgB=>?_)
 have hlen:=(zjS hw.1).2.1
 repeat' (first|refine sA ?_|refine sC (fun _=>?_) (fun _=>?_)|fail)
 refine zo (fun k:Nat=>[(1,.pv (.ptr (zq g) 0)),(3,.pv (pi (zeA g k))),(7,.pv (.slc 7 (g.fields.map Yc) false)),(8,.pv (pi g.fields.length)),(9,.pv (pi k))]) (fun _=>[]) (fun k=>k≤g.fields.length∧0≤zeA g k∧zeu g=(((List.range g.fields.length).drop k).all (zec g)&&decide (((g.fields.map Yc).length:Nat)≤(64:Int)))) (fun k=>g.fields.length - k) 0 ⟨by omega,by simp [zeA],rfl⟩ (tS) tH ?_
 rintro k ⟨hk,hl0,hr⟩
 by_cases hlt:k < g.fields.length
 ·have he:=zA (f:=Yc) hlt
  have hls:=zn9 hlt
  rw [yZ hlt,znE hlt hl0] at hr
  generalize g.fields[k]=f at he hr hls
  generalize hL:zeA g k=L at hr hl0
  repeat' (first|(refine shC ?_;first|refine qC (zdm _) ?_|refine qC (zcj _ _) ?_)|(refine shX ?_;first|refine qX he ?_)|refine sK ?_|refine sC (fun _=>?_) (fun _=>?_)|fail)
  all_goals first
   | (refine retq rfl ?_;rw [hr];simp_all [zi];done)
   | (refine ⟨k + 1,⟨hlt,by rw [hls];simp_all;omega,by rw [hr,Bool.eq_iff_iff];simp_all⟩,tD,by repeat (first|exact zT|refine zM rfl ?_|(refine qg rfl ?_ ?_;· (first|exact hls.symm|(rw [wrap_in (by omega) (by omega)] <;> omega)))),tH⟩)
 ·rw [drop_end (by simp;omega)] at hr
  repeat' (first|refine sK ?_|refine sC (fun _=>?_) (fun _=>?_)|fail)
  exact retq rfl (by rw [hr];simp [zi])
def zd3 (g:Img) (k:Nat):Int:=if k=0 then 0 else (g.methods.getD (k - 1) default).owner
def zcD (g:Img):Bool:=(List.range g.methods.length).all (zb2 g)&&decide (((g.methods.map zG).length:Nat)≤(64:Int))
theorem znW {g:Img} {k:Nat} (h:k < g.methods.length):zd3 g (k + 1)=g.methods[k].owner:=by
 rw [zd3,if_neg (by omega),Nat.add_sub_cancel,zx h]
theorem zoj {g:Img} {k:Nat} (h:k < g.methods.length) (hl:0≤zd3 g k):zb2 g k=(!decide (g.methods[k].owner < zd3 g k)&&!decide ((((g.types.map Zb).length:Nat):Int)≤g.methods[k].owner)&&yV g g.methods[k]):=by
 rw [zb2]
 simp only [zx h,List.length_map]
 generalize yV g g.methods[k]=bm
 unfold zd3 at hl ⊢
 by_cases hk:k=0
 ·subst hk
  rw [Bool.eq_iff_iff];simp
 ·have e:(k==0)=false:=by simp [hk]
  rw [if_neg hk] at hl ⊢
  rw [e,Bool.eq_iff_iff]
  simp only [List.getD_eq_getElem?_getD] at hl ⊢
  simp
  intro _
  constructor
  ·rintro ⟨⟨a,b⟩,d⟩;exact ⟨d,b⟩
  ·rintro ⟨d,c⟩;exact ⟨⟨by omega,c⟩,d⟩
theorem ziE (g:Img) (hx:∀ m∈g.methods,∀ x∈m.code,zdQ x):ACall Tryz.prog 240 [zq g] (pb (zcD g)):=by
 refine zf zh Tryz.func240 rfl (by kernel_rfl) Tryz.ntmps240 (by simp) _ rfl (fun hw gB hgB=>?_)
 have hlen:=(zjS hw.1).2.2
 repeat' (first|refine sA ?_|refine sC (fun _=>?_) (fun _=>?_)|fail)
 refine zo (fun k:Nat=>[(1,.pv (.ptr (zq g) 0)),(3,.pv (pi (zd3 g k))),(7,.pv (.slc 12 (g.methods.map zG) false)),(8,.pv (pi g.methods.length)),(9,.pv (pi k))]) (fun _=>[]) (fun k=>k≤g.methods.length∧0≤zd3 g k∧zcD g=(((List.range g.methods.length).drop k).all (zb2 g)&&decide (((g.methods.map zG).length:Nat)≤(64:Int)))) (fun k=>g.methods.length - k) 0 ⟨by omega,by simp [zd3],rfl⟩ (tS) tH ?_
 rintro k ⟨hk,hl0,hr⟩
 by_cases hlt:k < g.methods.length
 ·have he:=zA (f:=zG) hlt
  have hls:=znW hlt
  have cm:=zkO g.methods[k] g (hx _ (List.getElem_mem hlt))
  rw [yZ hlt,zoj hlt hl0] at hr
  generalize g.methods[k]=f at he hr hls cm
  generalize hL:zd3 g k=L at hr hl0
  repeat' (first|(refine shC ?_;first|refine qC cm ?_)|(refine shX ?_;first|refine qX he ?_)|refine sK ?_|refine sC (fun _=>?_) (fun _=>?_)|fail)
  all_goals first
   | (refine retq rfl ?_;rw [hr];simp_all [zi];done)
   | (refine ⟨k + 1,⟨hlt,by rw [hls];simp_all;omega,by rw [hr,Bool.eq_iff_iff];simp_all⟩,tD,by repeat (first|exact zT|refine zM rfl ?_|(refine qg rfl ?_ ?_;· (first|exact hls.symm|(rw [wrap_in (by omega) (by omega)] <;> omega)))),tH⟩)
 ·rw [drop_end (by simp;omega)] at hr
  repeat' (first|refine sK ?_|refine sC (fun _=>?_) (fun _=>?_)|fail)
  exact retq rfl (by rw [hr];simp [zi])
theorem zj2 (g:Img) (hx:∀ m∈g.methods,∀ x∈m.code,zdQ x):ACall Tryz.prog 216 [zq g] (pb (zJ g)):=by
 refine zf zh Tryz.func216 rfl (by kernel_rfl) Tryz.ntmps216 (by simp) _ rfl (fun hw gB hgB=>?_)
 have c1:=znM g
 have c2:=zkc g
 have c3:=ziE g hx
 have hfm:zJ g=(WZ g&&zeu g&&zcD g&&decide (-1≤g.entry)&&decide (g.entry < ((g.methods.map zG).length:Nat))):=by
  rw [zJ,WZ,zeu,zcD,Bool.eq_iff_iff]
  simp only [List.length_map,Bool.and_eq_true]
  constructor <;> (intro h;simp only [h,and_self])
 generalize WZ g=b1 at c1 hfm
 generalize zeu g=b2 at c2 hfm
 generalize zcD g=b3 at c3 hfm
 repeat' (first|(refine shC ?_;first|refine qC c1 ?_|refine qC c2 ?_|refine qC c3 ?_)|refine sA ?_|refine sC (fun _=>?_) (fun _=>?_)|fail)
 all_goals (refine retq rfl ?_;rw [hfm];first|(simp_all [zi];done)|(simp_all [zi];omega))
set_option maxHeartbeats 20000000
structure SmP (x:Pt):Prop where
 f:0≤x.f∧x.f≤1000000
 t:0≤x.t∧x.t≤1000000
 c:0≤x.c∧x.c≤1000000
theorem zmN (a b:Pt) (ha:SmP a) (hb:SmP b):ACall Tryz.prog 142 [zZ a,zZ b] (pi (zks a b)):=by
 have ha1:=ha.f
 have ha2:=ha.t
 have ha3:=ha.c
 have hb1:=hb.f
 have hb2:=hb.t
 have hb3:=hb.c
 have e1:IntKind.i64.wrap (a.t - a.f)=a.t - a.f:=wrap_in (by omega) (by omega)
 have e2:IntKind.i64.wrap (b.t - b.f)=b.t - b.f:=wrap_in (by omega) (by omega)
 have e3:IntKind.i64.wrap ((a.t - a.f) - (b.t - b.f))=(a.t - a.f) - (b.t - b.f):=wrap_in (by omega) (by omega)
 have e4:IntKind.i64.wrap (a.c - b.c)=a.c - b.c:=wrap_in (by omega) (by omega)
 by_cases h:(a.t - a.f) - (b.t - b.f)=0
 ·have hc:(!(IntKind.i64.wrap (IntKind.i64.wrap (a.t - a.f) - IntKind.i64.wrap (b.t - b.f))==0))=false:=by rw [e1,e2,e3,h];rfl
  refine zf zh Tryz.func142 rfl (by kernel_rfl) Tryz.ntmps142 (by simp) _ rfl (fun hw gB hgB=>?_)
  repeat' (first|refine sA ?_|refine sC (fun _=>?_) (fun _=>?_)|fail)
  all_goals (refine retq rfl ?_;simp [zi,zks,h,e4])
 ·have hc:(!(IntKind.i64.wrap (IntKind.i64.wrap (a.t - a.f) - IntKind.i64.wrap (b.t - b.f))==0))=true:=by rw [e1,e2,e3];simpa using h
  refine zf zh Tryz.func142 rfl (by kernel_rfl) Tryz.ntmps142 (by simp) _ rfl (fun hw gB hgB=>?_)
  repeat' (first|refine sA ?_|refine sC (fun _=>?_) (fun _=>?_)|fail)
  all_goals (refine retq rfl ?_;simp [zi,zks,h,e1,e2,e3])
abbrev za9 (us:Nat→Value) (l:List Pt):HEnv:=[(0,.mrow 139 4 (l.map zZ)),(1000,.pin (.own 0) (us 0))]
def ztk (us:Nat→Value) (A:List PV) (k:Nat) (p q:PV):Nat→HEnv
 | 0=>[(0,.mrow 139 4 A),(1000,.pin (.own 0) (us 0))]
 | 1=>(0,.mrow 139 4 (A.set (k + 1) p))::[(0,.mrow 139 4 A),(1000,.pin (.own 0) (us 0))]
 | _=>(0,.mrow 139 4 ((A.set (k + 1) p).set k q))::(0,.mrow 139 4 (A.set (k + 1) p))::[(0,.mrow 139 4 A),(1000,.pin (.own 0) (us 0))]
abbrev zq1 (us:Nat→Value):HEnv:=[(0,.dead),(1000,.pin (.own 0) (us 0))]
theorem zpH (us:Nat→Value) (A:List PV) (k:Nat) (x y:PV):∀ p,p < 3→yR (ztk us A k x y p) (zq1 us)=true∧yR (zq1 us) (ztk us A k x y p)=true:=by
 intro p h
 have hp:p=0∨p=1∨p=2:=by omega
 rcases hp with rfl|rfl|rfl <;> exact ⟨rfl,rfl⟩
theorem zqk (us:Nat→Value) (A:List PV) (k:Nat) (x y:PV) {gB:Base}:∀ p,p≤2→∀ K ρ w,FS gB K ρ (ztk us A k x y p) w→FS gB K ρ (zq1 us) w:=by
 intro p h K ρ w hf
 have hp:p=0∨p=1∨p=2:=by omega
 rcases hp with rfl|rfl|rfl <;> exact (hf.kill 0).narrow (e:=[]) tH
theorem zrR (a b:Pt) (r t:List Pt):(((r.reverse++a::b::t).map zZ).set (r.length + 1) (zZ a)).set r.length (zZ b)=(r.reverse++b::a::t).map zZ:=by
 apply List.ext_getElem?
 intro i
 simp only [List.getElem?_set,List.length_set,List.length_map,List.length_append,List.length_reverse,List.length_cons,List.map_append,List.map_cons,List.getElem?_append,List.length_map]
 by_cases h1:r.length=i
 ·subst h1;simp
 ·by_cases h2:r.length + 1=i
  ·subst h2;simp
  ·simp only [h1,h2,if_false]
   by_cases h3:i < r.length
   ·simp [h3]
   ·simp only [h3,if_false]
    obtain ⟨m,rfl⟩:∃ m,i=r.length + (m + 2):=⟨i - r.length - 2,by omega⟩
    simp
theorem zjX (l:List Pt) (hl:l.length≤1000) (hs:∀ x∈l,SmP x) (us:Nat→Value) :
  ACallM Tryz.prog 229 [.own 0,.pv (pi 0),.pv (pi l.length),.pv (.fn (.func 142) [] [])] (za9 us l) (.pv (.tup [])) (za9 us (Xa l)):=by
 refine qA zh Tryz.func229 rfl (by kernel_rfl) Tryz.ntmps229 (by simp) _ rfl (fun gB hw1=>?_)
 repeat' (first|refine sA ?_|refine sC (fun _=>?_) (fun _=>?_)|fail)
 refine zo (fun i:Nat=>[(0,.own 0),(1,.pv (pi 0)),(2,.pv (pi l.length)),(3,.pv (.fn (.func 142) [] [])),(8,.pv (pi i))])
  (fun i=>za9 us (Xa (l.take i)++l.drop i)) (fun i=>1≤i∧i≤l.length + 1) (fun i=>l.length + 1 - i) 1 (by omega) (tS) ⟨qO rfl (by cases l <;> rfl) (by repeat (first|exact zl|refine zn rfl ?_)),rfl⟩ ?_
 rintro i ⟨hi1,hi2⟩
 by_cases hlt:i < l.length
 ·obtain ⟨x,hx⟩:∃ x,x=l[i]:=⟨_,rfl⟩
  obtain ⟨s,hsd⟩:∃ s,s=Xa (l.take i):=⟨_,rfl⟩
  have hxs:SmP x:=by rw [hx];exact hs _ (List.getElem_mem hlt)
  have hss:∀ y∈s,SmP y:=fun y hy=>by rw [hsd,zjb] at hy;exact hs y (List.mem_of_mem_take hy)
  have hsl:s.length=i:=by rw [hsd,zfx];simp;omega
  have hnext:Xa (l.take (i + 1))=zdj s x:=by
   rw [List.take_succ_eq_append_getElem hlt,Xa,List.foldl_append,hsd,hx];rfl
  have hdrop:l.drop i=x::l.drop (i + 1):=by rw [hx];exact List.drop_eq_getElem_cons hlt
  rw [←hsd,hdrop]
  repeat' (first|refine sK ?_|refine sC (fun _=>?_) (fun _=>?_)|fail)
  refine zo (fun st:List Pt × List Pt=>[(0,.own 0),(1,.pv (pi 0)),(2,.pv (pi l.length)),(3,.pv (.fn (.func 142) [] [])),(8,.pv (pi i)),(9,.pv (pi st.1.length))])
   (fun st=>za9 us (st.1.reverse++x::(st.2++l.drop (i + 1)))) (fun st=>VP x st.1 st.2=zdj s x∧∀ y∈st.1,SmP y) (fun st=>st.1.length) (s.reverse,[]) ⟨rfl,fun y hy=>hss y (by simpa using hy)⟩
   (by repeat (first|exact zT|refine zM rfl ?_|(refine qg rfl ?_ ?_;· (show (i:Int)=((s.reverse.length:Nat):Int);simp [hsl])))) ⟨qO rfl (by simp) (by repeat (first|exact zl|refine zn rfl ?_)),rfl⟩ ?_
  rintro ⟨r,t⟩ ⟨hgo,hr⟩
  cases r with
  | nil =>
   repeat' (first|refine sK ?_|refine sC (fun _=>?_) (fun _=>?_)|fail)
   exact ⟨i + 1,by omega,tD,tS,⟨qO rfl (by rw [hnext,←hgo];simp [VP]) (by repeat (first|exact zl|refine zn rfl ?_)),rfl⟩⟩
  | cons y r =>
   obtain ⟨D,hD⟩:∃ D,D=t++l.drop (i + 1):=⟨_,rfl⟩
   have hgo':VP x (y::r) t=zdj s x:=hgo
   rw [VP] at hgo'
   have hsy:SmP y:=hr y (by simp)
   have hrl:r.length < 1000:=by
    have h1:=congrArg List.length hgo'
    rw [zm1,hsl] at h1
    split at h1
    ·rw [ze1] at h1;simp at h1;omega
    ·simp at h1;omega
   have cb:=zmN x y hxs hsy
   have e0:(y::r).reverse++x::(t++l.drop (i + 1))=r.reverse++y::x::D:=by rw [hD];simp
   have g0:((r.reverse++y::x::D).map zZ)[r.length]?=some (zZ y):=by simp
   have g1:((r.reverse++y::x::D).map zZ)[r.length + 1]?=some (zZ x):=by
    rw [List.getElem?_map,List.getElem?_append_right (by simp)];simp
   have h0:r.length < ((r.reverse++y::x::D).map zZ).length:=by simp
   have h1:r.length + 1 < ((r.reverse++y::x::D).map zZ).length:=by simp
   have sw:=zrR y x r D
   show AW _ _ _ _ [(0,.own 0),(1,.pv (pi 0)),(2,.pv (pi l.length)),(3,.pv (.fn (.func 142) [] [])),(8,.pv (pi i)),(9,.pv (pi (r.length + 1:Nat)))] (za9 us ((y::r).reverse++x::(t++l.drop (i + 1)))) _
   rw [e0]
   obtain ⟨k,hk⟩:∃ k,k=r.length:=⟨_,rfl⟩
   obtain ⟨A,hA⟩:∃ A,A=(r.reverse++y::x::D).map zZ:=⟨_,rfl⟩
   rw [←hk] at g0 g1 h0 h1 sw hrl ⊢
   show AW _ _ _ _ _ [(0,.mrow 139 4 ((r.reverse++y::x::D).map zZ)),(1000,.pin (.own 0) (us 0))] _
   rw [←hA] at g0 g1 h0 h1 sw ⊢
   have hp:decide ((0:Int) < ((k + 1:Nat):Int))=true:=decide_eq_true (by omega)
   have hix:IntKind.i64.wrap (((k + 1:Nat):Int) - 1)=(k:Nat):=by rw [wrap_in (by omega) (by omega)];omega
   by_cases hb:zks x y < 0
   ·have hbd:decide (zks x y < 0)=true:=decide_eq_true hb
    rw [if_pos hb] at hgo'
    have h0':k < (A.set (k + 1) (zZ y)).length:=by rw [List.length_set];exact h0
    have g0':(A.set (k + 1) (zZ y))[k]?=some (zZ y):=by rw [List.getElem?_set_ne (by omega)];exact g0
    repeat' (first|refine Qr 18 18 [15,17] [[37,38,42,43,44,45,46,47,48,49,50,51],[52]] (ztk us A k (zZ y) (zZ x)) (fun _=>zq1 us) (zq1 us) none rfl (by kernel_rfl) (by kernel_rfl) (by kernel_rfl) (by kernel_rfl) (by kernel_rfl) (by kernel_rfl) (by kernel_rfl) (fun p hp=>zpH us A k _ _ p (by simp at hp;omega)) rfl (fun p hp=>zqk us A k _ _ p hp) rfl (fun _ _ _ _=>rfl) (fun _ _=>rfl) tH rfl (fun v hv=>by cases hv) ?_|refine zbz 0 2 [13,15] rfl rfl (by kernel_rfl) ?_|refine VK 3 [10,12] rfl rfl ?_|refine zbz 0 10 [0,2] rfl rfl (by kernel_rfl) ?_|refine Qd [1] (.pv (.tup [])) rfl rfl rfl ?_|refine zbz 1 1 [0] rfl rfl (by kernel_rfl) ?_|refine Qd [] (.pv (.tup [])) rfl rfl rfl ?_|refine Qc ?_|refine ⟨⟨rfl,ZG (k:=k + 1) (j:=0) zh rfl rfl rfl rfl g1 rfl rfl rfl rfl,.inl rfl⟩,?_⟩|refine ⟨⟨rfl,ZG (k:=k) (j:=0) zh rfl rfl rfl rfl g0' rfl rfl rfl rfl,.inl rfl⟩,?_⟩|intro _|refine zaS ?_|refine zu rfl (yj (k:=k) (j:=0) zh rfl rfl rfl rfl g0 rfl) rfl rfl ?_|refine AD.step _ _ _ _ _ rfl (yj (k:=k) (j:=0) zh rfl rfl rfl rfl g0 rfl) rfl rfl ?_|refine zu rfl (yj (k:=k + 1) (j:=0) zh rfl rfl rfl rfl g1 rfl) rfl rfl ?_|refine AD.step _ _ _ _ _ rfl (yj (k:=k + 1) (j:=0) zh rfl rfl rfl rfl g1 rfl) rfl rfl ?_|(refine shC ?_;first|refine qV (cb) ?_)|(refine shX ?_;first|refine zu rfl (zQ (k:=k) zh rfl rfl rfl rfl rfl rfl rfl hix h0) rfl rfl ?_|refine AD.step _ _ _ _ _ rfl (zQ (k:=k) zh rfl rfl rfl rfl rfl rfl rfl hix h0) rfl rfl ?_|refine zu rfl (zQ (k:=k + 1) zh rfl rfl rfl rfl rfl rfl rfl rfl h1) rfl rfl ?_|refine AD.step _ _ _ _ _ rfl (zQ (k:=k + 1) zh rfl rfl rfl rfl rfl rfl rfl rfl h1) rfl rfl ?_|refine zu rfl (zQ (k:=k) zh rfl rfl rfl rfl rfl rfl rfl hix h0') rfl rfl ?_|refine AD.step _ _ _ _ _ rfl (zQ (k:=k) zh rfl rfl rfl rfl rfl rfl rfl hix h0') rfl rfl ?_)|refine sK ?_|refine sC (fun _=>?_) (fun _=>?_)|fail)
    exact ⟨(r,y::t),⟨hgo',fun z hz=>hr z (List.mem_cons_of_mem _ hz)⟩,Nat.lt_succ_self r.length,by repeat (first|exact zT|refine zM rfl ?_|(refine qg rfl ?_ ?_;· (show IntKind.i64.wrap _=((r.length:Nat):Int);rw [hix,hk]))),⟨qO rfl (by rw [sw,hD];simp) (by repeat (first|exact zl|refine zn rfl ?_)),rfl⟩⟩
   ·have hbd:decide (zks x y < 0)=false:=decide_eq_false hb
    rw [if_neg hb] at hgo'
    repeat' (first|refine zu rfl (yj (k:=k) (j:=0) zh rfl rfl rfl rfl g0 rfl) rfl rfl ?_|refine AD.step _ _ _ _ _ rfl (yj (k:=k) (j:=0) zh rfl rfl rfl rfl g0 rfl) rfl rfl ?_|refine zu rfl (yj (k:=k + 1) (j:=0) zh rfl rfl rfl rfl g1 rfl) rfl rfl ?_|refine AD.step _ _ _ _ _ rfl (yj (k:=k + 1) (j:=0) zh rfl rfl rfl rfl g1 rfl) rfl rfl ?_|(refine shC ?_;first|refine qV (cb) ?_)|(refine shX ?_;first|refine zu rfl (zQ (k:=k) zh rfl rfl rfl rfl rfl rfl rfl hix h0) rfl rfl ?_|refine AD.step _ _ _ _ _ rfl (zQ (k:=k) zh rfl rfl rfl rfl rfl rfl rfl hix h0) rfl rfl ?_|refine zu rfl (zQ (k:=k + 1) zh rfl rfl rfl rfl rfl rfl rfl rfl h1) rfl rfl ?_|refine AD.step _ _ _ _ _ rfl (zQ (k:=k + 1) zh rfl rfl rfl rfl rfl rfl rfl rfl h1) rfl rfl ?_)|refine sK ?_|refine sC (fun _=>?_) (fun _=>?_)|fail)
    exact ⟨i + 1,by omega,tD,tS,⟨qO rfl (by rw [hnext,←hgo',hA,hD];simp) (by repeat (first|exact zl|refine zn rfl ?_)),rfl⟩⟩
 ·repeat' (first|refine sK ?_|refine sC (fun _=>?_) (fun _=>?_)|fail)
  exact ⟨.inl rfl,.inl ⟨[],rfl,rfl,⟨qO rfl (by rw [List.take_of_length_le (by omega),List.drop_eq_nil_of_le (by omega),List.append_nil]) (by repeat (first|exact zl|refine zn rfl ?_)),rfl⟩⟩⟩
set_option maxHeartbeats 20000000
abbrev mrP (l:List Pt):HEnv:=[(0,.mrow 139 4 (l.map zZ))]
theorem zmh (l:List Pt) (hl:l.length < 20) (hs:∀ x∈l,SmP x) (us:Nat→Value) :
  ACallM Tryz.prog 186 [.own 0,.pv (pi l.length),.pv (.fn (.func 142) [] [])] (za9 us l) (.pv (.tup [])) (za9 us (Xa l)):=by
 refine qA zh Tryz.func186 rfl (by kernel_rfl) Tryz.ntmps186 (by simp) _ rfl (fun gB hw1=>?_)
 have hc:∀ us,ACallM _ _ _ _ _ _ _:=fun us=>zjX l (by omega) hs us
 have hd:decide ((20:Int)≤((l.length:Nat):Int))=false:=decide_eq_false (by omega)
 have hd2:decide ((20:Int) < ((l.length:Nat):Int))=false:=decide_eq_false (by omega)
 repeat' (first|refine sA ?_|refine sC (fun _=>?_) (fun _=>?_)|fail)
 refine zo (fun _:Unit=>[(0,.own 0),(1,.pv (pi l.length)),(2,.pv (.fn (.func 142) [] [])),(6,.pv (pi 20)),(7,.pv (pi 0)),(8,.pv (pi 20))]) (fun _=>za9 us l) (fun _=>True) (fun _=>0) () trivial (tS) tH ?_
 rintro _ _
 repeat' (first|(refine zL ?_;first|(refine yA (mrP l) (mrP (Xa l)) [(1000,.pin (.own 0) (us 0))] [(1,.pv (pi l.length)),(6,.pv (pi 20))] [0] zy rfl rfl rfl ?_ tS rfl rfl rfl hc ?_;· (repeat (first|exact zl|refine zn rfl ?_))))|refine sA ?_|refine sC (fun _=>?_) (fun _=>?_)|fail)
 refine zo (fun _:Unit=>[(1,.pv (pi l.length)),(6,.pv (pi 20))]) (fun _=>za9 us (Xa l)) (fun _=>True) (fun _=>0) () trivial (tS) tH ?_
 rintro _ _
 repeat' (first|refine sA ?_|refine sC (fun _=>?_) (fun _=>?_)|fail)
 exact ⟨.inl rfl,.inl ⟨[],rfl,rfl,tH⟩⟩
theorem zon (l:List Pt) (hl:l.length < 20) (hs:∀ x∈l,SmP x) (us:Nat→Value) :
  ACallM Tryz.prog 141 [.own 0,.pv (.fn (.func 142) [] [])] (za9 us l) (.pv (.tup [])) (za9 us (Xa l)):=by
 refine qA zh Tryz.func141 rfl (by kernel_rfl) Tryz.ntmps141 (by simp) _ rfl (fun gB hw1=>?_)
 have hc:∀ us,ACallM _ _ _ _ _ _ _:=fun us=>zmh l hl hs us
 rw [←List.length_map (f:=zZ)] at hc
 repeat' (first|(refine zI ?_;first|refine zbJ zh rfl rfl rfl rfl rfl rfl rfl ?_)|(refine zL ?_;first|(refine yA (mrP l) (mrP (Xa l)) [(1000,.pin (.own 0) (us 0))] [] [0] zy rfl rfl rfl ?_ tS rfl rfl rfl hc ?_;· (repeat (first|exact zl|refine zn rfl ?_))))|refine sA ?_|refine sC (fun _=>?_) (fun _=>?_)|fail)
 exact ⟨.inl rfl,.inl ⟨[],rfl,rfl,tH⟩⟩
end Go.Cg
namespace Go.Cg
def szP (x:Pt):Int:=x.t - x.f
def qY (s:Int) (b:Option Pt) (x:Pt):Option Pt :=
 if decide (s < szP x)&&(match b with|none=>true|some y=>decide (szP x < szP y)) then some x else b
def zuY (s:Int) (A:List Pt):Option Pt:=A.foldl (qY s) none
def insS (x:Pt):List Pt→List Pt
 | []=>[x]
 | y::l=>if szP x < szP y then x::y::l else y::(if szP x=szP y then l else insS x l)
def YH (A:List Pt):List Pt:=A.foldl (fun C x=>insS x C) []
theorem zlm (s:Int) (x:Pt):∀ C:List Pt,(insS x C).find? (fun y=>decide (s < szP y))=qY s (C.find? fun y=>decide (s < szP y)) x
 | []=>by
  by_cases h:s < szP x <;> simp [insS,qY,h]
 | y::l=>by
  have ih:=zlm s x l
  rw [insS]
  by_cases h1:szP x < szP y
  ·rw [if_pos h1]
   by_cases h2:s < szP x
   ·have h3:s < szP y:=by omega
    simp [qY,h1,h2,h3]
   ·simp [qY,h2]
  ·rw [if_neg h1]
   by_cases h3:s < szP y
   ·simp [qY,h1,h3]
   ·by_cases h4:szP x=szP y
    ·rw [if_pos h4];simp [qY,h4,h3]
    ·rw [if_neg h4,List.find?_cons_of_neg (by simpa using h3),List.find?_cons_of_neg (by simpa using h3)]
     exact ih
theorem zqw (s:Int) (A:List Pt):zuY s A=(YH A).find? fun y=>decide (s < szP y):=by
 have:∀ (A C:List Pt) (b:Option Pt),b=C.find? (fun y=>decide (s < szP y))→A.foldl (qY s) b=(A.foldl (fun C x=>insS x C) C).find? fun y=>decide (s < szP y):=by
  intro A
  induction A with
  | nil=>intro C b h;exact h
  | cons x A ih=>intro C b h;exact ih _ _ (by rw [zlm,h])
 exact this A [] none rfl
theorem zhg {x y:Pt}:∀ {C:List Pt},y∈insS x C→y=x∨y∈C
 | [],h=>by simp [insS] at h;exact .inl h
 | z::l,h=>by
  rw [insS] at h
  split at h
  ·simp at h ⊢;exact h
  ·rcases List.mem_cons.1 h with h|h
   ·simp [h]
   ·split at h
    ·simp [h]
    ·rcases zhg h with h|h <;> simp [h]
theorem zh0 {x:Pt}:∀ {C:List Pt},C.Pairwise (fun a b=>szP a < szP b)→(insS x C).Pairwise (fun a b=>szP a < szP b)
 | [],_=>by simp [insS]
 | y::l,h=>by
  rw [List.pairwise_cons] at h
  rw [insS]
  split
  ·rename_i h1
   rw [List.pairwise_cons]
   refine ⟨fun z hz=>?_,by rw [List.pairwise_cons];exact h⟩
   rcases List.mem_cons.1 hz with rfl|hz
   ·exact h1
   ·have:=h.1 z hz;omega
  ·rename_i h1
   split
   ·rw [List.pairwise_cons];exact h
   ·rw [List.pairwise_cons]
    refine ⟨fun z hz=>?_,zh0 h.2⟩
    rcases zhg hz with rfl|hz
    ·omega
    ·exact h.1 z hz
theorem ziC (A:List Pt):(YH A).Pairwise (fun a b=>szP a < szP b):=by
 have:∀ (A C:List Pt),C.Pairwise (fun a b=>szP a < szP b)→(A.foldl (fun C x=>insS x C) C).Pairwise (fun a b=>szP a < szP b):=by
  intro A
  induction A with
  | nil=>intro C h;exact h
  | cons x A ih=>intro C h;exact ih _ (zh0 h)
 exact this A [] .nil
theorem zhN {A:List Pt} {y:Pt} (h:y∈YH A):y∈A:=by
 have:∀ (A C:List Pt),y∈A.foldl (fun C x=>insS x C) C→y∈C∨y∈A:=by
  intro A
  induction A with
  | nil=>intro C h;exact .inl h
  | cons x A ih =>
   intro C h
   rcases ih _ h with h|h
   ·rcases zhg h with h|h <;> simp [h]
   ·simp [h]
 simpa using this A [] h
theorem zoY (x:Pt):∀ C:List Pt,(insS x C).length≤C.length + 1
 | []=>by simp [insS]
 | y::l=>by
  rw [insS]
  split
  ·simp
  ·split
   ·simp
   ·have:=zoY x l;simp;omega
theorem zhf (A:List Pt):(YH A).length≤A.length:=by
 have:∀ (A C:List Pt),(A.foldl (fun C x=>insS x C) C).length≤C.length + A.length:=by
  intro A
  induction A with
  | nil=>intro C;simp
  | cons x A ih=>intro C;have h1:=ih (insS x C);have h2:=zoY x C;simp only [List.foldl_cons,List.length_cons];omega
 have h:=this A []
 rw [YH];simpa using h
theorem zgi {s:Int} {x:Pt}:∀ {C D:List Pt},C.Pairwise (fun a b=>szP a < szP b)→C.filter (fun y=>decide (s < szP y))=x::D→C.filter (fun y=>decide (szP x < szP y))=D
 | [],D,_,h=>by simp at h
 | y::l,D,hs,h=>by
  rw [List.pairwise_cons] at hs
  by_cases h1:s < szP y
  ·rw [List.filter_cons_of_pos (by simpa using h1)] at h
   simp only [List.cons.injEq] at h
   obtain ⟨rfl,rfl⟩:=h
   rw [List.filter_cons_of_neg (by simp)]
   refine List.filter_congr fun z hz=>?_
   have:=hs.1 z hz
   rw [decide_eq_true this,decide_eq_true (show s < szP z by omega)]
  ·rw [List.filter_cons_of_neg (by simpa using h1)] at h
   have hx:x∈l:=(List.mem_filter.1 (show x∈l.filter (fun y=>decide (s < szP y)) by rw [h];simp)).1
   have:=hs.1 x hx
   rw [List.filter_cons_of_neg (by simp;omega)]
   exact zgi hs.2 h
def zq0 (A:List Pt):Prop:=∀ x∈A,∀ y∈A,szP x=szP y→x.f=y.f∧x.t=y.t
theorem zgN {A:List Pt} (hU:zq0 A) {x y:Pt} (hx:x∈A) (hy:y∈A):zfL x y=decide (szP x=szP y):=by
 rw [Bool.eq_iff_iff]
 simp only [zfL,Bool.and_eq_true,beq_iff_eq,and_true,decide_eq_true_eq]
 constructor
 ·rintro ⟨h1,h2⟩;simp [szP,h1,h2]
 ·exact hU x hx y hy
theorem ztZ {x y:Pt} (h:y.c≤x.c):zks x y < 0↔szP x < szP y:=by
 unfold zks szP
 split <;> omega
theorem zlS {x:Pt}:∀ (r s:List Pt),r.Pairwise (fun a b=>szP b≤szP a)→(∀ y∈r,y.c≤x.c) →
  VP x r s=r.reverse.filter (fun y=>decide (szP y≤szP x))++x::(r.reverse.filter (fun y=>decide (szP x < szP y))++s)
 | [],s,_,_=>by simp [VP]
 | y::r,s,hs,hc=>by
  rw [List.pairwise_cons] at hs
  rw [VP]
  have hb:=ztZ (hc y (by simp))
  by_cases h1:szP x < szP y
  ·rw [if_pos (hb.2 h1),zlS r (y::s) hs.2 (fun z hz=>hc z (by simp [hz]))]
   simp [List.filter_append,h1,show ¬ szP y≤szP x by omega]
  ·rw [if_neg (fun h=>h1 (hb.1 h))]
   have e1:(y::r).reverse.filter (fun y=>decide (szP y≤szP x))=(y::r).reverse:=List.filter_eq_self.2 fun z hz=>by
    rcases List.mem_cons.1 (List.mem_reverse.1 hz) with rfl|hz
    ·simp;omega
    ·have:=hs.1 z hz;simp;omega
   have e2:(y::r).reverse.filter (fun y=>decide (szP x < szP y))=[]:=List.filter_eq_nil_iff.2 fun z hz=>by
    rcases List.mem_cons.1 (List.mem_reverse.1 hz) with rfl|hz
    ·simp;omega
    ·have:=hs.1 z hz;simp;omega
   rw [e1,e2];rfl
theorem zmU {A:List Pt} (hU:zq0 A) {x:Pt} (hx:x∈A):∀ (P:List Pt) (p:Pt) (Q:List Pt),p∈A→(∀ y∈P,y∈A)→(∀ y∈Q,y∈A)→(p::P).Pairwise (fun a b=>szP a≤szP b)→(∀ y∈p::P,szP y≤szP x)→(∀ y∈Q,szP x < szP y) →
  p::ZY p (P++x::Q)=insS x (p::ZY p (P++Q))
 | [],p,Q,hp,_,hQ,_,hle,hgt=>by
  have h0:=hle p (by simp)
  have key:∀ z,z∈A→szP z≤szP x→ZY z Q=qH Q:=fun z hz hzx=>by
   cases Q with
   | nil=>rfl
   | cons q Q' =>
    have:=hgt q (by simp)
    rw [ZY,zgN hU (hQ q (by simp)) hz,decide_eq_false (by omega)];rfl
  rw [List.nil_append,List.nil_append,ZY,zgN hU hx hp,insS.eq_def x (p::_)]
  simp only
  rw [if_neg (show ¬ szP x < szP p by omega),key x hx (Int.le_refl _),key p hp h0]
  by_cases h1:szP x=szP p
  ·rw [decide_eq_true h1,if_pos h1,if_pos rfl]
  ·rw [decide_eq_false h1,if_neg h1,if_neg (by simp)]
   cases Q with
   | nil=>rfl
   | cons q Q'=>rw [qH,insS,if_pos (hgt q (by simp))]
 | y::P,p,Q,hp,hP,hQ,hs,hle,hgt=>by
  have hy:=hP y (by simp)
  rw [List.pairwise_cons] at hs
  have ih:=zmU hU hx P y Q hy (fun z hz=>hP z (by simp [hz])) hQ hs.2 (fun z hz=>hle z (List.mem_cons_of_mem _ hz)) hgt
  have hyx:=hle y (by simp)
  have hpy:=hs.1 y (by simp)
  rw [List.cons_append,List.cons_append,ZY,ZY,zgN hU hy hp]
  by_cases h1:szP y=szP p
  ·rw [decide_eq_true h1,if_pos rfl,if_pos rfl,insS,if_neg (by omega)]
   rw [insS,if_neg (by omega),h1] at ih
   rw [List.cons.injEq] at ih
   rw [ih.2]
  ·rw [decide_eq_false h1,if_neg (by simp),if_neg (by simp),ih]
   rw [insS.eq_def x (p::_)]
   simp only
   rw [if_neg (show ¬ szP x < szP p by omega),if_neg (show ¬ szP x=szP p by omega)]
theorem zpS {A:List Pt} (hU:zq0 A) {x:Pt} (hx:x∈A) {S:List Pt} (hS:∀ y∈S,y∈A) (hs:S.Pairwise (fun a b=>szP a≤szP b)) (hc:∀ y∈S,y.c≤x.c) :
  (zdj S x).Pairwise (fun a b=>szP a≤szP b)∧qH (zdj S x)=insS x (qH S):=by
 have e:=zlS (x:=x) S.reverse [] (by rw [List.pairwise_reverse];exact hs) (fun y hy=>hc y (List.mem_reverse.1 hy))
 rw [List.reverse_reverse,List.append_nil] at e
 have hsp:S=S.filter (fun y=>decide (szP y≤szP x))++S.filter (fun y=>decide (szP x < szP y)):=by
  clear e hS hc
  induction S with
  | nil=>rfl
  | cons z S ih =>
   rw [List.pairwise_cons] at hs
   by_cases h1:szP z≤szP x
   ·rw [List.filter_cons_of_pos (by simpa using h1),List.filter_cons_of_neg (by simp;omega),List.cons_append,←ih hs.2]
   ·have e1:(z::S).filter (fun y=>decide (szP y≤szP x))=[]:=List.filter_eq_nil_iff.2 fun w hw=>by
     rcases List.mem_cons.1 hw with rfl|hw
     ·simpa using h1
     ·have:=hs.1 w hw;simp;omega
    have e2:(z::S).filter (fun y=>decide (szP x < szP y))=z::S:=List.filter_eq_self.2 fun w hw=>by
     rcases List.mem_cons.1 hw with rfl|hw
     ·simp;omega
     ·have:=hs.1 w hw;simp;omega
    rw [e1,e2];rfl
 have hP:∀ y∈S.filter (fun y=>decide (szP y≤szP x)),y∈A∧szP y≤szP x:=fun y hy=>by have:=List.mem_filter.1 hy;exact ⟨hS y this.1,by simpa using this.2⟩
 have hQ:∀ y∈S.filter (fun y=>decide (szP x < szP y)),y∈A∧szP x < szP y:=fun y hy=>by have:=List.mem_filter.1 hy;exact ⟨hS y this.1,by simpa using this.2⟩
 have hsP:=hs.filter (fun y=>decide (szP y≤szP x))
 have hsQ:=hs.filter (fun y=>decide (szP x < szP y))
 have ec:qH S=qH (S.filter (fun y=>decide (szP y≤szP x))++S.filter (fun y=>decide (szP x < szP y))):=by rw [←hsp]
 rw [zdj,e,ec]
 generalize S.filter (fun y=>decide (szP y≤szP x))=P at *
 generalize S.filter (fun y=>decide (szP x < szP y))=Q at *
 constructor
 ·rw [List.pairwise_append]
  refine ⟨hsP,?_,fun a ha b hb=>?_⟩
  ·rw [List.pairwise_cons];exact ⟨fun z hz=>by have:=(hQ z hz).2;omega,hsQ⟩
  ·have h1:=(hP a ha).2
   rcases List.mem_cons.1 hb with rfl|hb
   ·exact h1
   ·have:=(hQ b hb).2;omega
 ·cases P with
  | nil =>
   cases Q with
   | nil=>rfl
   | cons q Q' =>
    have h1:=hQ q (by simp)
    simp only [List.nil_append,qH]
    rw [ZY,zgN hU h1.1 hx,decide_eq_false (by omega),insS,if_pos h1.2];rfl
  | cons p P =>
   simp only [List.cons_append,qH]
   exact zmU hU hx P p Q (hP p (by simp)).1 (fun y hy=>(hP y (by simp [hy])).1) (fun y hy=>(hQ y hy).1) hsP (fun y hy=>(hP y hy).2) (fun y hy=>(hQ y hy).2)
theorem zej {A:List Pt} (hU:zq0 A) (hc:A.Pairwise (fun a b=>a.c≤b.c)):qH (Xa A)=YH A:=by
 have:∀ (B S C:List Pt),(∀ y∈B,y∈A)→(∀ y∈S,y∈A)→S.Pairwise (fun a b=>szP a≤szP b)→qH S=C→B.Pairwise (fun a b=>a.c≤b.c)→(∀ y∈S,∀ x∈B,y.c≤x.c)→qH (B.foldl zdj S)=B.foldl (fun C x=>insS x C) C:=by
  intro B
  induction B with
  | nil=>intro S C _ _ _ h _ _;exact h
  | cons x B ih =>
   intro S C hB hS hs h hcB hcS
   rw [List.pairwise_cons] at hcB
   obtain ⟨k1,k2⟩:=zpS hU (hB x (by simp)) hS hs (fun y hy=>hcS y hy x (by simp))
   have hm:∀ y,y∈zdj S x→y=x∨y∈S:=fun y hy=>by
    rw [zdj,zfy] at hy;simpa using hy
   refine ih _ _ (fun y hy=>hB y (by simp [hy])) (fun y hy=>?_) k1 (by rw [k2,h]) hcB.2 (fun y hy z hz=>?_)
   ·rcases hm y hy with rfl|hy
    ·exact hB _ (by simp)
    ·exact hS y hy
   ·rcases hm y hy with rfl|hy
    ·exact hcB.1 z hz
    ·exact hcS y hy z (by simp [hz])
 exact this A [] [] (fun _ h=>h) (by simp) .nil rfl hc (by simp)
end Go.Cg
