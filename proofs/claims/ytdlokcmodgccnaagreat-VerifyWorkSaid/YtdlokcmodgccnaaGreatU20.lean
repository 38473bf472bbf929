/- A part of the walks by abstract values: no statement of its own. -/
import Derived.Test.YtdlokcmodgccnaaGreatU19
import Derived.Test.YtdlokcmodgccnaaGreatU8
import Derived.Test.YtdlokcmodgccnaaGreatU9
set_option linter.unusedVariables false
set_option linter.unusedSimpArgs false
namespace Go.Cg
open Go.Proofs
set_option maxHeartbeats 20000000
abbrev zi8 (l:List Int):PV:=.slc 1 (l.map fun n=>.base (.int .u8 n)) true
theorem zer (k b i d:Int) (hk:k=2∧b=8∨k=3∧b=10∨k=4∧b=28) (hd:d=0∨d=1∨d=2∨d=3):ACall Tryz.prog 301 [zi8 [6],yM ⟨k,i,d,false⟩] (u8s (6::(List.replicate d.toNat 29++[b]))):=by
 have c1:=zcd 29 d (by omega) (by omega)
 rcases hd with rfl|rfl|rfl|rfl
 all_goals rcases hk with ⟨rfl,rfl⟩|⟨rfl,rfl⟩|⟨rfl,rfl⟩
 all_goals
  refine zi zf Tryz.func301 rfl (by kernel_rfl) Tryz.ntmps301 (by simp) _ rfl (fun hw gB hgB=>?_)
  repeat' (first|(refine shC ?_;first|refine qC c1 ?_)|(refine yK ?_;first|refine zx rfl (ze4 zf rfl rfl rfl rfl rfl) rfl rfl ?_|refine qG zf rfl rfl rfl rfl rfl rfl rfl (by show _ * 1≤_;simp [List.replicate]) (by simp [List.replicate]) rfl rfl ?_|refine XQ 0 zf rfl rfl rfl (.inl rfl) rfl (by simp [List.replicate]) rfl (by show _ * 1≤_;simp [List.replicate]) (by simp [List.replicate]) rfl rfl rfl ?_)|refine sA ?_|refine sC (fun _=>?_) (fun _=>?_)|fail)
  exact retq rfl rfl
theorem zpl (i d:Int) (hi0:0≤i) (hi1:i≤7) (hd:d=0∨d=1∨d=2∨d=3):∃ bs:List Int,ACall Tryz.prog 301 [zi8 [6],yM ⟨7,i,d,false⟩] (u8s bs):=by
 have c1:=zcd 29 d (by omega) (by omega)
 obtain ⟨bs,cp⟩:=ziI (6::(List.replicate d.toNat 29++[19])) (by simp) (by simp;omega) i hi0 (by omega)
 refine ⟨6::(List.replicate d.toNat 29++[19])++bs,?_⟩
 have hneg:decide (i < 0)=false:=by simp;omega
 rcases hd with rfl|rfl|rfl|rfl
 all_goals
  refine zi zf Tryz.func301 rfl (by kernel_rfl) Tryz.ntmps301 (by simp) _ rfl (fun hw gB hgB=>?_)
  repeat' (first|(refine shC ?_;first|refine qC c1 ?_|refine qC cp ?_)|(refine yK ?_;first|refine zx rfl (ze4 zf rfl rfl rfl rfl rfl) rfl rfl ?_|refine qG zf rfl rfl rfl rfl rfl rfl rfl (by show _ * 1≤_;simp [List.replicate]) (by simp [List.replicate]) rfl rfl ?_|refine XQ 0 zf rfl rfl rfl (.inl rfl) rfl (by simp [List.replicate]) rfl (by show _ * 1≤_;simp [List.replicate]) (by simp [List.replicate]) rfl rfl rfl ?_)|refine sK ?_|refine sC (fun _=>?_) (fun _=>?_)|fail)
  exact retq rfl rfl
theorem ziJ (k b i d:Int) (hk:k=5∧b=18∨k=6∧b=17) (hi0:0≤i) (hi1:i≤31) (hd:d=0∨d=1∨d=2∨d=3):∃ bs:List Int,ACall Tryz.prog 301 [zi8 [6],yM ⟨k,i,d,false⟩] (u8s bs):=by
 have c1:=zcd 29 d (by omega) (by omega)
 obtain ⟨bs,cp⟩:=ziI (6::(List.replicate d.toNat 29++[b])) (by simp) (by simp;omega) (4 * (i + 1)) (by omega) (by omega)
 have hw:IntKind.i64.wrap (i + 1)=i + 1:=wrap_in (by omega) (by omega)
 have cc:=zpA (i + 1) (by omega) (by omega)
 rw [←hw] at cc
 have hneg:decide (4 * IntKind.i64.wrap (i + 1) < 0)=false:=by rw [hw];simp;omega
 rw [show 4 * (i + 1)=4 * IntKind.i64.wrap (i + 1) by rw [hw]] at cp
 refine ⟨6::(List.replicate d.toNat 29++[b])++bs,?_⟩
 rcases hd with rfl|rfl|rfl|rfl
 all_goals rcases hk with ⟨rfl,rfl⟩|⟨rfl,rfl⟩
 all_goals
  refine zi zf Tryz.func301 rfl (by kernel_rfl) Tryz.ntmps301 (by simp) _ rfl (fun hw gB hgB=>?_)
  repeat' (first|(refine shC ?_;first|refine qC c1 ?_|refine qC cp ?_|refine qC cc ?_)|(refine yK ?_;first|refine zx rfl (ze4 zf rfl rfl rfl rfl rfl) rfl rfl ?_|refine qG zf rfl rfl rfl rfl rfl rfl rfl (by show _ * 1≤_;simp [List.replicate]) (by simp [List.replicate]) rfl rfl ?_|refine XQ 0 zf rfl rfl rfl (.inl rfl) rfl (by simp [List.replicate]) rfl (by show _ * 1≤_;simp [List.replicate]) (by simp [List.replicate]) rfl rfl rfl ?_)|refine sK ?_|refine sC (fun _=>?_) (fun _=>?_)|fail)
  exact retq rfl rfl
set_option maxHeartbeats 20000000
theorem zoT (t:Ty) (h:ZK t 1=true):∃ bs:List Int,ACall Tryz.prog 301 [zi8 [6],yM t] (u8s bs):=by
 obtain ⟨k,i,d,r⟩:=t
 have hr:r=false:=by
  cases r with
  | false=>rfl
  | true=>simp [ZK] at h
 subst hr
 have hp:ZI ⟨k,i,d,false⟩=true∧k≠1:=by
  simp only [ZK] at h
  cases hp:ZI ⟨k,i,d,false⟩ with
  | false=>rw [hp] at h;simp at h
  | true=>rw [hp] at h;simp at h;exact ⟨rfl,h⟩
 obtain ⟨hp,hk1⟩:=hp
 simp only [ZI] at hp
 split at hp
 ·simp at hp
 ·rename_i hb
  simp at hb
  have hd:d=0∨d=1∨d=2∨d=3:=by omega
  by_cases h2:k=2
  ·exact ⟨_,zer k 8 i d (.inl ⟨h2,rfl⟩) hd⟩
  ·by_cases h3:k=3
   ·exact ⟨_,zer k 10 i d (.inr (.inl ⟨h3,rfl⟩)) hd⟩
   ·by_cases h4:k=4
    ·exact ⟨_,zer k 28 i d (.inr (.inr ⟨h4,rfl⟩)) hd⟩
    ·by_cases h5:k=5
     ·exact ziJ k 18 i d (.inl ⟨h5,rfl⟩) (by omega) (by simp [h5] at hp;omega) hd
     ·by_cases h6:k=6
      ·exact ziJ k 17 i d (.inr ⟨h6,rfl⟩) (by omega) (by simp [h6] at hp;omega) hd
      ·by_cases h7:k=7
       ·subst h7
        exact zpl i d (by omega) (by simp at hp;omega) hd
       ·simp [hk1,h2,h3,h4,h5,h6,h7] at hp
theorem ze0 (t:Ty) (h:ZK t 1=false):ACall Tryz.prog 286 [yM t] (.tup [.base (.slice none 0 0),pi 17]):=by
 refine zi zf Tryz.func286 rfl (by kernel_rfl) Tryz.ntmps286 (by simp) _ rfl (fun hw gB hgB=>?_)
 have c1:=zfH t
 rw [h] at c1
 repeat' (first|(refine shC ?_;first|refine qC c1 ?_)|refine sA ?_|refine sC (fun _=>?_) (fun _=>?_)|fail)
 exact retq rfl rfl
theorem zh3 (t:Ty) (h:ZK t 1=true):∃ bs:List Int,ACall Tryz.prog 286 [yM t] (.tup [u8s bs,pi 0]):=by
 obtain ⟨bs,cp⟩:=zoT t h
 refine ⟨bs,?_⟩
 refine zi zf Tryz.func286 rfl (by kernel_rfl) Tryz.ntmps286 (by simp) _ rfl (fun hw gB hgB=>?_)
 have c1:=zfH t
 rw [h] at c1
 repeat' (first|(refine shC ?_;first|refine qC c1 ?_|refine qC cp ?_)|refine sA ?_|refine sC (fun _=>?_) (fun _=>?_)|fail)
 exact retq rfl rfl
theorem zce (t:Ty) (n:Int):ACall Tryz.prog 271 [yM t,pi n] (pb (WB t 1 n)):=by
 refine zi zf Tryz.func271 rfl (by kernel_rfl) Tryz.ntmps271 (by simp) _ rfl (fun hw gB hgB=>?_)
 cases h:ZK t 1
 ·repeat' (first|(refine shC ?_;first|refine qC (ze0 t h) ?_|refine qC (zaX t n) ?_)|refine sA ?_|refine sC (fun _=>?_) (fun _=>?_)|fail)
  all_goals (refine retq rfl ?_;simp_all [zy,WB];done)
 ·obtain ⟨bs,cp⟩:=zh3 t h
  repeat' (first|(refine shC ?_;first|refine qC cp ?_|refine qC (zaX t n) ?_)|refine sA ?_|refine sC (fun _=>?_) (fun _=>?_)|fail)
  all_goals (refine retq rfl ?_;simp_all [zy,WB];done)
theorem ziL (c:Cl) (g:Img):ACall Tryz.prog 295 [ZX c,pi (g.types.length:Nat)] (pb (Xl g c)):=by
 refine zi zf Tryz.func295 rfl (by kernel_rfl) Tryz.ntmps295 (by simp) _ rfl (fun hw gB hgB=>?_)
 by_cases hk:c.kind=1
 ·have hb:(c.kind != 1)=false:=by simp [hk]
  repeat' (first|(refine shC ?_;first|refine qC (zce _ _) ?_)|refine sK ?_|refine sC (fun _=>?_) (fun _=>?_)|fail)
  exact retq rfl (by simp [zy,Xl,hk])
 ·have hb:(c.kind != 1)=true:=by simp [hk]
  repeat' (first|(refine shC ?_;first|refine qC (zce _ _) ?_)|refine sK ?_|refine sC (fun _=>?_) (fun _=>?_)|fail)
  have h1:(c.kind==1)=false:=by simp [hk]
  exact retq rfl (by simp only [zy,Xl,h1,hb,zdI];simp)
set_option maxHeartbeats 20000000
def zlH (l:List Ty) (p:Ty→Bool):Int:=if l.any p then ((l.findIdx p:Nat):Int) else -1
theorem ze6 (l:List Ty) (p:Ty→Bool) (f:FuncId) (first cap:List PV) (hp:∀ x∈l,ACall Tryz.prog f (first++[yM x]++cap) (pb (p x))):ACall Tryz.prog 126 [.slc 4 (l.map yM) false,.fn (.func f) first cap] (pi (zlH l p)):=by
 refine zi zf Tryz.func126 rfl (by kernel_rfl) Tryz.ntmps126 (by simp) _ rfl (fun hw gB hgB=>?_)
 have hl:l.length≤9223372036854775807:=by have:=hw.1;simp [PV.lenOk,lensOk,maxLen] at this;exact this.1
 repeat' (first|refine sA ?_|refine sC (fun _=>?_) (fun _=>?_)|fail)
 refine zW (fun k:Nat=>[(0,.pv (.slc 4 (l.map yM) false)),(1,.pv (.fn (.func f) first cap)),(7,.pv (pi l.length)),(8,.pv (pi k))]) (fun _=>[]) (fun k=>k≤l.length∧∀ j (h:j < k) (h2:j < l.length),p l[j]=false) (fun k=>l.length - k) 0 ⟨by omega,fun j h=>by omega⟩ (tS) tH ?_
 rintro k ⟨hk,hno⟩
 by_cases hlt:k < l.length
 ·have he:=yj (f:=yM) hlt
  have c1:=hp _ (List.getElem_mem hlt)
  cases hpx:p l[k]
  ·rw [hpx] at c1
   repeat' (first|(refine shC ?_;first|refine qV (c1) ?_)|(refine shX ?_;first|refine qX he ?_)|refine sK ?_|refine sC (fun _=>?_) (fun _=>?_)|fail)
   exact ⟨k + 1,⟨hlt,fun j hj h2=>by
    by_cases e:j=k
    ·subst e;exact hpx
    ·exact hno j (by omega) h2⟩,tD,tS,tH⟩
  ·rw [hpx] at c1
   have hi:l.findIdx p=k:=by
    rw [List.findIdx_eq hlt]
    exact ⟨hpx,fun j hj=>hno j hj (by omega)⟩
   have ha:l.any p=true:=List.any_eq_true.2 ⟨_,List.getElem_mem hlt,hpx⟩
   repeat' (first|(refine shC ?_;first|refine qV (c1) ?_)|(refine shX ?_;first|refine qX he ?_)|refine sK ?_|refine sC (fun _=>?_) (fun _=>?_)|fail)
   exact retq rfl (by simp [zy,zlH,ha,hi])
 ·have ha:l.any p=false:=by
   rw [List.any_eq_false]
   intro x hx
   obtain ⟨j,hj,rfl⟩:=List.getElem_of_mem hx
   simp [hno j (by omega) hj]
  repeat' (first|refine sK ?_|refine sC (fun _=>?_) (fun _=>?_)|fail)
  exact retq rfl (by simp [zy,zlH,ha])
theorem YA (l:List Ty) (p:Ty→Bool) (f:FuncId) (first cap:List PV) (hp:∀ x∈l,ACall Tryz.prog f (first++[yM x]++cap) (pb (p x))):ACall Tryz.prog 85 [.slc 4 (l.map yM) false,.fn (.func f) first cap] (pb (l.any p)):=by
 refine zi zf Tryz.func85 rfl (by kernel_rfl) Tryz.ntmps85 (by simp) _ rfl (fun hw gB hgB=>?_)
 have c1:=ze6 l p f first cap hp
 repeat' (first|(refine shC ?_;first|refine qC c1 ?_)|refine sA ?_|refine sC (fun _=>?_) (fun _=>?_)|fail)
 refine retq rfl ?_
 have:decide (0≤zlH l p)=l.any p:=by
  unfold zlH
  cases h:l.any p <;> simp
 simp [zy,this]
def zhA (l:List Ins) (p:Ins→Bool):Int:=if l.any p then ((l.findIdx p:Nat):Int) else -1
theorem zdJ (l:List Ins) (p:Ins→Bool) (f:FuncId) (first cap:List PV) (hp:∀ x∈l,ACall Tryz.prog f (first++[qj x]++cap) (pb (p x))):ACall Tryz.prog 302 [.slc 6 (l.map qj) false,.fn (.func f) first cap] (pi (zhA l p)):=by
 refine zi zf Tryz.func302 rfl (by kernel_rfl) Tryz.ntmps302 (by simp) _ rfl (fun hw gB hgB=>?_)
 have hl:l.length≤9223372036854775807:=by have:=hw.1;simp [PV.lenOk,lensOk,maxLen] at this;exact this.1
 repeat' (first|refine sA ?_|refine sC (fun _=>?_) (fun _=>?_)|fail)
 refine zW (fun k:Nat=>[(0,.pv (.slc 6 (l.map qj) false)),(1,.pv (.fn (.func f) first cap)),(7,.pv (pi l.length)),(8,.pv (pi k))]) (fun _=>[]) (fun k=>k≤l.length∧∀ j (h:j < k) (h2:j < l.length),p l[j]=false) (fun k=>l.length - k) 0 ⟨by omega,fun j h=>by omega⟩ (tS) tH ?_
 rintro k ⟨hk,hno⟩
 by_cases hlt:k < l.length
 ·have he:=yj (f:=qj) hlt
  have c1:=hp _ (List.getElem_mem hlt)
  cases hpx:p l[k]
  ·rw [hpx] at c1
   repeat' (first|(refine shC ?_;first|refine qV (c1) ?_)|(refine shX ?_;first|refine qX he ?_)|refine sK ?_|refine sC (fun _=>?_) (fun _=>?_)|fail)
   exact ⟨k + 1,⟨hlt,fun j hj h2=>by
    by_cases e:j=k
    ·subst e;exact hpx
    ·exact hno j (by omega) h2⟩,tD,tS,tH⟩
  ·rw [hpx] at c1
   have hi:l.findIdx p=k:=by
    rw [List.findIdx_eq hlt]
    exact ⟨hpx,fun j hj=>hno j hj (by omega)⟩
   have ha:l.any p=true:=List.any_eq_true.2 ⟨_,List.getElem_mem hlt,hpx⟩
   repeat' (first|(refine shC ?_;first|refine qV (c1) ?_)|(refine shX ?_;first|refine qX he ?_)|refine sK ?_|refine sC (fun _=>?_) (fun _=>?_)|fail)
   exact retq rfl (by simp [zy,zhA,ha,hi])
 ·have ha:l.any p=false:=by
   rw [List.any_eq_false]
   intro x hx
   obtain ⟨j,hj,rfl⟩:=List.getElem_of_mem hx
   simp [hno j (by omega) hj]
  repeat' (first|refine sK ?_|refine sC (fun _=>?_) (fun _=>?_)|fail)
  exact retq rfl (by simp [zy,zhA,ha])
theorem zb7 (l:List Ins) (p:Ins→Bool) (f:FuncId) (first cap:List PV) (hp:∀ x∈l,ACall Tryz.prog f (first++[qj x]++cap) (pb (p x))):ACall Tryz.prog 291 [.slc 6 (l.map qj) false,.fn (.func f) first cap] (pb (l.any p)):=by
 refine zi zf Tryz.func291 rfl (by kernel_rfl) Tryz.ntmps291 (by simp) _ rfl (fun hw gB hgB=>?_)
 have c1:=zdJ l p f first cap hp
 repeat' (first|(refine shC ?_;first|refine qC c1 ?_)|refine sA ?_|refine sC (fun _=>?_) (fun _=>?_)|fail)
 refine retq rfl ?_
 have:decide (0≤zhA l p)=l.any p:=by
  unfold zhA
  cases h:l.any p <;> simp
 simp [zy,this]
def zle (l:List Cl) (p:Cl→Bool):Int:=if l.any p then ((l.findIdx p:Nat):Int) else -1
theorem zes (l:List Cl) (p:Cl→Bool) (f:FuncId) (first cap:List PV) (hp:∀ x∈l,ACall Tryz.prog f (first++[ZX x]++cap) (pb (p x))):ACall Tryz.prog 210 [.slc 10 (l.map ZX) false,.fn (.func f) first cap] (pi (zle l p)):=by
 refine zi zf Tryz.func210 rfl (by kernel_rfl) Tryz.ntmps210 (by simp) _ rfl (fun hw gB hgB=>?_)
 have hl:l.length≤9223372036854775807:=by have:=hw.1;simp [PV.lenOk,lensOk,maxLen] at this;exact this.1
 repeat' (first|refine sA ?_|refine sC (fun _=>?_) (fun _=>?_)|fail)
 refine zW (fun k:Nat=>[(0,.pv (.slc 10 (l.map ZX) false)),(1,.pv (.fn (.func f) first cap)),(7,.pv (pi l.length)),(8,.pv (pi k))]) (fun _=>[]) (fun k=>k≤l.length∧∀ j (h:j < k) (h2:j < l.length),p l[j]=false) (fun k=>l.length - k) 0 ⟨by omega,fun j h=>by omega⟩ (tS) tH ?_
 rintro k ⟨hk,hno⟩
 by_cases hlt:k < l.length
 ·have he:=yj (f:=ZX) hlt
  have c1:=hp _ (List.getElem_mem hlt)
  cases hpx:p l[k]
  ·rw [hpx] at c1
   repeat' (first|(refine shC ?_;first|refine qV (c1) ?_)|(refine shX ?_;first|refine qX he ?_)|refine sK ?_|refine sC (fun _=>?_) (fun _=>?_)|fail)
   exact ⟨k + 1,⟨hlt,fun j hj h2=>by
    by_cases e:j=k
    ·subst e;exact hpx
    ·exact hno j (by omega) h2⟩,tD,tS,tH⟩
  ·rw [hpx] at c1
   have hi:l.findIdx p=k:=by
    rw [List.findIdx_eq hlt]
    exact ⟨hpx,fun j hj=>hno j hj (by omega)⟩
   have ha:l.any p=true:=List.any_eq_true.2 ⟨_,List.getElem_mem hlt,hpx⟩
   repeat' (first|(refine shC ?_;first|refine qV (c1) ?_)|(refine shX ?_;first|refine qX he ?_)|refine sK ?_|refine sC (fun _=>?_) (fun _=>?_)|fail)
   exact retq rfl (by simp [zy,zle,ha,hi])
 ·have ha:l.any p=false:=by
   rw [List.any_eq_false]
   intro x hx
   obtain ⟨j,hj,rfl⟩:=List.getElem_of_mem hx
   simp [hno j (by omega) hj]
  repeat' (first|refine sK ?_|refine sC (fun _=>?_) (fun _=>?_)|fail)
  exact retq rfl (by simp [zy,zle,ha])
theorem zcI (l:List Cl) (p:Cl→Bool) (f:FuncId) (first cap:List PV) (hp:∀ x∈l,ACall Tryz.prog f (first++[ZX x]++cap) (pb (p x))):ACall Tryz.prog 163 [.slc 10 (l.map ZX) false,.fn (.func f) first cap] (pb (l.any p)):=by
 refine zi zf Tryz.func163 rfl (by kernel_rfl) Tryz.ntmps163 (by simp) _ rfl (fun hw gB hgB=>?_)
 have c1:=zes l p f first cap hp
 repeat' (first|(refine shC ?_;first|refine qC c1 ?_)|refine sA ?_|refine sC (fun _=>?_) (fun _=>?_)|fail)
 refine retq rfl ?_
 have:decide (0≤zle l p)=l.any p:=by
  unfold zle
  cases h:l.any p <;> simp
 simp [zy,this]
theorem zdO (t:Ty) (n:Int):ACall Tryz.prog 288 [yM t,.ptr (pi n) 0] (pb (!WB t 2 n)):=by
 refine zi zf Tryz.func288 rfl (by kernel_rfl) Tryz.ntmps288 (by simp) _ rfl (fun hw gB hgB=>?_)
 repeat' (first|(refine shC ?_;first|refine qC (zks t n) ?_)|refine sA ?_|refine sC (fun _=>?_) (fun _=>?_)|fail)
 exact retq rfl rfl
theorem zjs (x:Ins) (g:Img) (m:Me) (hx:zdX x):ACall Tryz.prog 292 [qj x,.ptr (zT g) 0,.ptr (yB m) 0] (pb (!codeOk g m x)):=by
 refine zi zf Tryz.func292 rfl (by kernel_rfl) Tryz.ntmps292 (by simp) _ rfl (fun hw gB hgB=>?_)
 have c1:=zmw x g m hx
 rw [show m.code.length=(m.code.map qj).length by simp] at c1
 repeat' (first|(refine shC ?_;first|refine qC c1 ?_)|refine sA ?_|refine sC (fun _=>?_) (fun _=>?_)|fail)
 exact retq rfl rfl
theorem zjh (c:Cl) (g:Img):ACall Tryz.prog 294 [ZX c,.ptr (pi (g.types.length:Nat)) 0] (pb (!Xl g c)):=by
 refine zi zf Tryz.func294 rfl (by kernel_rfl) Tryz.ntmps294 (by simp) _ rfl (fun hw gB hgB=>?_)
 repeat' (first|(refine shC ?_;first|refine qC (ziL c g) ?_)|refine sA ?_|refine sC (fun _=>?_) (fun _=>?_)|fail)
 exact retq rfl rfl
set_option maxHeartbeats 4000000 in
theorem zjW (m:Me) (g:Img) (hx:∀ x∈m.code,zdX x):ACall Tryz.prog 272 [yB m,zT g] (pb (ZA g m)):=by
 refine zi zf Tryz.func272 rfl (by kernel_rfl) Tryz.ntmps272 (by simp) _ rfl (fun hw gB hgB=>?_)
 have cP:=YA m.params (fun t=>!WB t 2 ((g.types.map Zl).length:Nat)) 288 [] [.ptr (pi ((g.types.map Zl).length:Nat)) 0] (fun t _=>zdO t _)
 have cL:=YA m.locals (fun t=>!WB t 2 ((g.types.map Zl).length:Nat)) 288 [] [.ptr (pi ((g.types.map Zl).length:Nat)) 0] (fun t _=>zdO t _)
 have cC:=zb7 m.code (fun x=>!codeOk g m x) 292 [] [.ptr (zT g) 0,.ptr (yB m) 0] (fun x h=>zjs x g m (hx x h))
 have cK:=zcI m.clauses (fun c=>!Xl g c) 294 [] [.ptr (pi ((g.types.map Zl).length:Nat)) 0] (fun c _=>by have:=zjh c g;rwa [show g.types.length=(g.types.map Zl).length by simp] at this)
 have cR:=ziN ((m.code.map qj).length:Nat) m.clauses
 rw [←List.not_all_eq_any_not] at cP cL cC cK
 have hfm:ZA g m=(zaZ m.name&&decide (0≤m.flags)&&decide (m.flags≤31)&&decide (0≤m.max)&&decide (m.max≤12)&&decide ((((m.params.map yM).length:Nat):Int)≤6)&&decide ((((m.locals.map yM).length:Nat):Int)≤12)&&WB m.ret 3 ((g.types.map Zl).length:Nat)
   && (m.params.all fun t=>WB t 2 ((g.types.map Zl).length:Nat))&&(m.locals.all fun t=>WB t 2 ((g.types.map Zl).length:Nat))&&(decide ((((m.code.map qj).length:Nat):Int)≤160)&&m.code.all (codeOk g m)&&m.clauses.all (Xl g)&&((YM ((m.code.map qj).length:Nat) m.clauses).2==0))):=by
  simp only [ZA,Vg,zdy,List.length_map]
 generalize (m.params.all fun t=>WB t 2 ((g.types.map Zl).length:Nat))=bP at cP hfm
 generalize (m.locals.all fun t=>WB t 2 ((g.types.map Zl).length:Nat))=bL at cL hfm
 generalize m.code.all (codeOk g m)=bC at cC hfm
 generalize m.clauses.all (Xl g)=bK at cK hfm
 repeat' (first|refine zaK (t:=5) rfl rfl rfl ?_|(refine shC ?_;first|refine qC (zc6 _) ?_|refine qC (zji m.ret _) ?_|refine qC cP ?_|refine qC cL ?_|refine qC cC ?_|refine qC cK ?_|refine qC cR ?_)|refine sA ?_|refine sC (fun _=>?_) (fun _=>?_)|fail)
 all_goals (refine retq rfl ?_;rw [hfm];first|(simp_all [zy];done)|(simp_all [zy];omega))
set_option maxHeartbeats 20000000
def zdE (g:Img) (k:Nat):Int:=if k=0 then 0 else (g.fields.getD (k - 1) default).owner
def zec (g:Img):Bool:=(List.range g.fields.length).all (zhr g)&&decide (((g.fields.map Yb).length:Nat)≤(64:Int))
theorem zmq {g:Img} {k:Nat} (h:k < g.fields.length):zdE g (k + 1)=g.fields[k].owner:=by
 rw [zdE,if_neg (by omega),Nat.add_sub_cancel,zQ h]
theorem zmJ {g:Img} {k:Nat} (h:k < g.fields.length) (hl:0≤zdE g k):zhr g k=(zaZ g.fields[k].name&&!decide (g.fields[k].owner < zdE g k)&&!decide ((((g.types.map Zl).length:Nat):Int)≤g.fields[k].owner)&&WB g.fields[k].ty 1 ((g.types.map Zl).length:Nat)):=by
 rw [zhr]
 simp only [zQ h,List.length_map]
 generalize zaZ g.fields[k].name=bf
 generalize WB g.fields[k].ty 1 g.types.length=bm
 unfold zdE at hl ⊢
 by_cases hk:k=0
 ·subst hk
  rw [Bool.eq_iff_iff];simp
 ·have e:(k==0)=false:=by simp [hk]
  rw [if_neg hk] at hl ⊢
  rw [e,Bool.eq_iff_iff]
  simp only [List.getD_eq_getElem?_getD] at hl ⊢
  simp
  intro _
  constructor
  ·rintro ⟨⟨⟨a,b⟩,c⟩,d⟩;exact ⟨⟨a,d⟩,c⟩
  ·rintro ⟨⟨a,d⟩,c⟩;exact ⟨⟨⟨a,by omega⟩,c⟩,d⟩
theorem zjK (g:Img):ACall Tryz.prog 239 [zT g] (pb (zec g)):=by
 refine zi zf Tryz.func239 rfl (by kernel_rfl) Tryz.ntmps239 (by simp) _ rfl (fun hw gB hgB=>?_)
 have hlen:=(znm hw.1).2.1
 repeat' (first|refine sA ?_|refine sC (fun _=>?_) (fun _=>?_)|fail)
 refine zW (fun k:Nat=>[(1,.pv (.ptr (zT g) 0)),(3,.pv (pi (zdE g k))),(7,.pv (.slc 7 (g.fields.map Yb) false)),(8,.pv (pi g.fields.length)),(9,.pv (pi k))]) (fun _=>[]) (fun k=>k≤g.fields.length∧0≤zdE g k∧zec g=(((List.range g.fields.length).drop k).all (zhr g)&&decide (((g.fields.map Yb).length:Nat)≤(64:Int)))) (fun k=>g.fields.length - k) 0 ⟨by omega,by simp [zdE],rfl⟩ (tS) tH ?_
 rintro k ⟨hk,hl0,hr⟩
 by_cases hlt:k < g.fields.length
 ·have he:=yj (f:=Yb) hlt
  have hls:=zmq hlt
  rw [Qm hlt,zmJ hlt hl0] at hr
  generalize g.fields[k]=f at he hr hls
  generalize hL:zdE g k=L at hr hl0
  repeat' (first|(refine shC ?_;first|refine qC (zc6 _) ?_|refine qC (zce _ _) ?_)|(refine shX ?_;first|refine qX he ?_)|refine sK ?_|refine sC (fun _=>?_) (fun _=>?_)|fail)
  all_goals first
   | (refine retq rfl ?_;rw [hr];simp_all [zy];done)
   | (refine ⟨k + 1,⟨hlt,by rw [hls];simp_all;omega,by rw [hr,Bool.eq_iff_iff];simp_all⟩,tD,by repeat (first|exact yZ|refine yS rfl ?_|(refine Zn rfl ?_ ?_;· (first|exact hls.symm|(rw [wrap_in (by omega) (by omega)] <;> omega)))),tH⟩)
 ·rw [drop_end (by simp;omega)] at hr
  repeat' (first|refine sK ?_|refine sC (fun _=>?_) (fun _=>?_)|fail)
  exact retq rfl (by rw [hr];simp [zy])
def zed (g:Img) (k:Nat):Int:=if k=0 then 0 else (g.methods.getD (k - 1) default).owner
def zb6 (g:Img):Bool:=(List.range g.methods.length).all (zgh g)&&decide (((g.methods.map yB).length:Nat)≤(64:Int))
theorem zl6 {g:Img} {k:Nat} (h:k < g.methods.length):zed g (k + 1)=g.methods[k].owner:=by
 rw [zed,if_neg (by omega),Nat.add_sub_cancel,zQ h]
theorem zmT {g:Img} {k:Nat} (h:k < g.methods.length) (hl:0≤zed g k):zgh g k=(!decide (g.methods[k].owner < zed g k)&&!decide ((((g.types.map Zl).length:Nat):Int)≤g.methods[k].owner)&&ZA g g.methods[k]):=by
 rw [zgh]
 simp only [zQ h,List.length_map]
 generalize ZA g g.methods[k]=bm
 unfold zed at hl ⊢
 by_cases hk:k=0
 ·subst hk
  rw [Bool.eq_iff_iff];simp
 ·have e:(k==0)=false:=by simp [hk]
  rw [if_neg hk] at hl ⊢
  rw [e,Bool.eq_iff_iff]
  simp only [List.getD_eq_getElem?_getD] at hl ⊢
  simp
  intro _
  constructor
  ·rintro ⟨⟨a,b⟩,d⟩;exact ⟨d,b⟩
  ·rintro ⟨d,c⟩;exact ⟨⟨by omega,c⟩,d⟩
theorem zhX (g:Img) (hx:∀ m∈g.methods,∀ x∈m.code,zdX x):ACall Tryz.prog 240 [zT g] (pb (zb6 g)):=by
 refine zi zf Tryz.func240 rfl (by kernel_rfl) Tryz.ntmps240 (by simp) _ rfl (fun hw gB hgB=>?_)
 have hlen:=(znm hw.1).2.2
 repeat' (first|refine sA ?_|refine sC (fun _=>?_) (fun _=>?_)|fail)
 refine zW (fun k:Nat=>[(1,.pv (.ptr (zT g) 0)),(3,.pv (pi (zed g k))),(7,.pv (.slc 12 (g.methods.map yB) false)),(8,.pv (pi g.methods.length)),(9,.pv (pi k))]) (fun _=>[]) (fun k=>k≤g.methods.length∧0≤zed g k∧zb6 g=(((List.range g.methods.length).drop k).all (zgh g)&&decide (((g.methods.map yB).length:Nat)≤(64:Int)))) (fun k=>g.methods.length - k) 0 ⟨by omega,by simp [zed],rfl⟩ (tS) tH ?_
 rintro k ⟨hk,hl0,hr⟩
 by_cases hlt:k < g.methods.length
 ·have he:=yj (f:=yB) hlt
  have hls:=zl6 hlt
  have cm:=zjW g.methods[k] g (hx _ (List.getElem_mem hlt))
  rw [Qm hlt,zmT hlt hl0] at hr
  generalize g.methods[k]=f at he hr hls cm
  generalize hL:zed g k=L at hr hl0
  repeat' (first|(refine shC ?_;first|refine qC cm ?_)|(refine shX ?_;first|refine qX he ?_)|refine sK ?_|refine sC (fun _=>?_) (fun _=>?_)|fail)
  all_goals first
   | (refine retq rfl ?_;rw [hr];simp_all [zy];done)
   | (refine ⟨k + 1,⟨hlt,by rw [hls];simp_all;omega,by rw [hr,Bool.eq_iff_iff];simp_all⟩,tD,by repeat (first|exact yZ|refine yS rfl ?_|(refine Zn rfl ?_ ?_;· (first|exact hls.symm|(rw [wrap_in (by omega) (by omega)] <;> omega)))),tH⟩)
 ·rw [drop_end (by simp;omega)] at hr
  repeat' (first|refine sK ?_|refine sC (fun _=>?_) (fun _=>?_)|fail)
  exact retq rfl (by rw [hr];simp [zy])
theorem ziY (g:Img) (hx:∀ m∈g.methods,∀ x∈m.code,zdX x):ACall Tryz.prog 216 [zT g] (pb (yJ g)):=by
 refine zi zf Tryz.func216 rfl (by kernel_rfl) Tryz.ntmps216 (by simp) _ rfl (fun hw gB hgB=>?_)
 have c1:=zmN g
 have c2:=zjK g
 have c3:=zhX g hx
 have hfm:yJ g=(WO g&&zec g&&zb6 g&&decide (-1≤g.entry)&&decide (g.entry < ((g.methods.map yB).length:Nat))):=by
  rw [yJ,WO,zec,zb6,Bool.eq_iff_iff]
  simp only [List.length_map,Bool.and_eq_true]
  constructor <;> (intro h;simp only [h,and_self])
 generalize WO g=b1 at c1 hfm
 generalize zec g=b2 at c2 hfm
 generalize zb6 g=b3 at c3 hfm
 repeat' (first|(refine shC ?_;first|refine qC c1 ?_|refine qC c2 ?_|refine qC c3 ?_)|refine sA ?_|refine sC (fun _=>?_) (fun _=>?_)|fail)
 all_goals (refine retq rfl ?_;rw [hfm];first|(simp_all [zy];done)|(simp_all [zy];omega))
end Go.Cg
