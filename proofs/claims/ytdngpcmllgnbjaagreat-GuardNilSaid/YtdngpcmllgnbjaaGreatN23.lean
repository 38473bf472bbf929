/- A part of the walks by abstract values: no statement of its own. -/
import Derived.Test.YtdngpcmllgnbjaaGreatN20
import Derived.Test.YtdngpcmllgnbjaaGreatN10
import Derived.Test.YtdngpcmllgnbjaaGreatN6
import Derived.Test.YtdngpcmllgnbjaaGreatN19
set_option linter.unusedVariables false
set_option linter.unusedSimpArgs false
namespace Go.Cg
open Go.Proofs
set_option maxHeartbeats 20000000
abbrev zhA (l:List Int):PV:=.slc 1 (l.map fun n=>.base (.int .u8 n)) true
theorem zcO (k b i d:Int) (hk:k=2∧b=8∨k=3∧b=10∨k=4∧b=28) (hd:d=0∨d=1∨d=2∨d=3):ACall Tryz.prog 464 [zhA [6],yA ⟨k,i,d,false⟩] (u8s (6::(List.replicate d.toNat 29++[b]))):=by
 have c1:=zat 29 d (by omega) (by omega)
 rcases hd with rfl|rfl|rfl|rfl
 all_goals rcases hk with ⟨rfl,rfl⟩|⟨rfl,rfl⟩|⟨rfl,rfl⟩
 all_goals
  refine zf zh Tryz.func464 rfl (by kernel_rfl) Tryz.ntmps464 (by simp) _ rfl (fun hw gB hgB=>?_)
  repeat' (first|(refine shC ?_;first|refine qC c1 ?_)|(refine zI ?_;first|refine zq rfl (zaZ zh rfl rfl rfl rfl rfl) rfl rfl ?_|refine yg zh rfl rfl rfl rfl rfl rfl rfl (by show _ * 1≤_;simp [List.replicate]) (by simp [List.replicate]) rfl rfl ?_|refine Qw 0 zh rfl rfl rfl (.inl rfl) rfl (by simp [List.replicate]) rfl (by show _ * 1≤_;simp [List.replicate]) (by simp [List.replicate]) rfl rfl rfl ?_)|refine sA ?_|refine sC (fun _=>?_) (fun _=>?_)|fail)
  exact retq rfl rfl
theorem zma (i d:Int) (hi0:0≤i) (hi1:i≤7) (hd:d=0∨d=1∨d=2∨d=3):∃ bs:List Int,ACall Tryz.prog 464 [zhA [6],yA ⟨7,i,d,false⟩] (u8s bs):=by
 have c1:=zat 29 d (by omega) (by omega)
 obtain ⟨bs,cp⟩:=zgO (6::(List.replicate d.toNat 29++[19])) (by simp) (by simp;omega) i hi0 (by omega)
 refine ⟨6::(List.replicate d.toNat 29++[19])++bs,?_⟩
 have hneg:decide (i < 0)=false:=by simp;omega
 rcases hd with rfl|rfl|rfl|rfl
 all_goals
  refine zf zh Tryz.func464 rfl (by kernel_rfl) Tryz.ntmps464 (by simp) _ rfl (fun hw gB hgB=>?_)
  repeat' (first|(refine shC ?_;first|refine qC c1 ?_|refine qC cp ?_)|(refine zI ?_;first|refine zq rfl (zaZ zh rfl rfl rfl rfl rfl) rfl rfl ?_|refine yg zh rfl rfl rfl rfl rfl rfl rfl (by show _ * 1≤_;simp [List.replicate]) (by simp [List.replicate]) rfl rfl ?_|refine Qw 0 zh rfl rfl rfl (.inl rfl) rfl (by simp [List.replicate]) rfl (by show _ * 1≤_;simp [List.replicate]) (by simp [List.replicate]) rfl rfl rfl ?_)|refine sK ?_|refine sC (fun _=>?_) (fun _=>?_)|fail)
  exact retq rfl rfl
theorem zgR (k b i d:Int) (hk:k=5∧b=18∨k=6∧b=17) (hi0:0≤i) (hi1:i≤31) (hd:d=0∨d=1∨d=2∨d=3):∃ bs:List Int,ACall Tryz.prog 464 [zhA [6],yA ⟨k,i,d,false⟩] (u8s bs):=by
 have c1:=zat 29 d (by omega) (by omega)
 obtain ⟨bs,cp⟩:=zgO (6::(List.replicate d.toNat 29++[b])) (by simp) (by simp;omega) (4 * (i + 1)) (by omega) (by omega)
 have hw:IntKind.i64.wrap (i + 1)=i + 1:=wrap_in (by omega) (by omega)
 have cc:=zmQ (i + 1) (by omega) (by omega)
 rw [←hw] at cc
 have hneg:decide (4 * IntKind.i64.wrap (i + 1) < 0)=false:=by rw [hw];simp;omega
 rw [show 4 * (i + 1)=4 * IntKind.i64.wrap (i + 1) by rw [hw]] at cp
 refine ⟨6::(List.replicate d.toNat 29++[b])++bs,?_⟩
 rcases hd with rfl|rfl|rfl|rfl
 all_goals rcases hk with ⟨rfl,rfl⟩|⟨rfl,rfl⟩
 all_goals
  refine zf zh Tryz.func464 rfl (by kernel_rfl) Tryz.ntmps464 (by simp) _ rfl (fun hw gB hgB=>?_)
  repeat' (first|(refine shC ?_;first|refine qC c1 ?_|refine qC cp ?_|refine qC cc ?_)|(refine zI ?_;first|refine zq rfl (zaZ zh rfl rfl rfl rfl rfl) rfl rfl ?_|refine yg zh rfl rfl rfl rfl rfl rfl rfl (by show _ * 1≤_;simp [List.replicate]) (by simp [List.replicate]) rfl rfl ?_|refine Qw 0 zh rfl rfl rfl (.inl rfl) rfl (by simp [List.replicate]) rfl (by show _ * 1≤_;simp [List.replicate]) (by simp [List.replicate]) rfl rfl rfl ?_)|refine sK ?_|refine sC (fun _=>?_) (fun _=>?_)|fail)
  exact retq rfl rfl
set_option maxHeartbeats 20000000
theorem zl5 (t:Ty) (h:Zo t 1=true):∃ bs:List Int,ACall Tryz.prog 464 [zhA [6],yA t] (u8s bs):=by
 obtain ⟨k,i,d,r⟩:=t
 have hr:r=false:=by
  cases r with
  | false=>rfl
  | true=>simp [Zo] at h
 subst hr
 have hp:Zf ⟨k,i,d,false⟩=true∧k≠1:=by
  simp only [Zo] at h
  cases hp:Zf ⟨k,i,d,false⟩ with
  | false=>rw [hp] at h;simp at h
  | true=>rw [hp] at h;simp at h;exact ⟨rfl,h⟩
 obtain ⟨hp,hk1⟩:=hp
 simp only [Zf] at hp
 split at hp
 ·simp at hp
 ·rename_i hb
  simp at hb
  have hd:d=0∨d=1∨d=2∨d=3:=by omega
  by_cases h2:k=2
  ·exact ⟨_,zcO k 8 i d (.inl ⟨h2,rfl⟩) hd⟩
  ·by_cases h3:k=3
   ·exact ⟨_,zcO k 10 i d (.inr (.inl ⟨h3,rfl⟩)) hd⟩
   ·by_cases h4:k=4
    ·exact ⟨_,zcO k 28 i d (.inr (.inr ⟨h4,rfl⟩)) hd⟩
    ·by_cases h5:k=5
     ·exact zgR k 18 i d (.inl ⟨h5,rfl⟩) (by omega) (by simp [h5] at hp;omega) hd
     ·by_cases h6:k=6
      ·exact zgR k 17 i d (.inr ⟨h6,rfl⟩) (by omega) (by simp [h6] at hp;omega) hd
      ·by_cases h7:k=7
       ·subst h7
        exact zma i d (by omega) (by simp at hp;omega) hd
       ·simp [hk1,h2,h3,h4,h5,h6,h7] at hp
theorem zcL (t:Ty) (h:Zo t 1=false):ACall Tryz.prog 450 [yA t] (.tup [.base (.slice none 0 0),pi 17]):=by
 refine zf zh Tryz.func450 rfl (by kernel_rfl) Tryz.ntmps450 (by simp) _ rfl (fun hw gB hgB=>?_)
 have c1:=zdJ t
 rw [h] at c1
 repeat' (first|(refine shC ?_;first|refine qC c1 ?_)|refine sA ?_|refine sC (fun _=>?_) (fun _=>?_)|fail)
 exact retq rfl rfl
theorem zge (t:Ty) (h:Zo t 1=true):∃ bs:List Int,ACall Tryz.prog 450 [yA t] (.tup [u8s bs,pi 0]):=by
 obtain ⟨bs,cp⟩:=zl5 t h
 refine ⟨bs,?_⟩
 refine zf zh Tryz.func450 rfl (by kernel_rfl) Tryz.ntmps450 (by simp) _ rfl (fun hw gB hgB=>?_)
 have c1:=zdJ t
 rw [h] at c1
 repeat' (first|(refine shC ?_;first|refine qC c1 ?_|refine qC cp ?_)|refine sA ?_|refine sC (fun _=>?_) (fun _=>?_)|fail)
 exact retq rfl rfl
theorem zaU (t:Ty) (n:Int):ACall Tryz.prog 439 [yA t,pi n] (pb (QD t 1 n)):=by
 refine zf zh Tryz.func439 rfl (by kernel_rfl) Tryz.ntmps439 (by simp) _ rfl (fun hw gB hgB=>?_)
 cases h:Zo t 1
 ·repeat' (first|(refine shC ?_;first|refine qC (zcL t h) ?_|refine qC (Vm t n) ?_)|refine sA ?_|refine sC (fun _=>?_) (fun _=>?_)|fail)
  all_goals (refine retq rfl ?_;simp_all [zl,QD];done)
 ·obtain ⟨bs,cp⟩:=zge t h
  repeat' (first|(refine shC ?_;first|refine qC cp ?_|refine qC (Vm t n) ?_)|refine sA ?_|refine sC (fun _=>?_) (fun _=>?_)|fail)
  all_goals (refine retq rfl ?_;simp_all [zl,QD];done)
theorem zg5 (c:Cl) (g:Img):ACall Tryz.prog 459 [Yr c,pi (g.types.length:Nat)] (pb (YX g c)):=by
 refine zf zh Tryz.func459 rfl (by kernel_rfl) Tryz.ntmps459 (by simp) _ rfl (fun hw gB hgB=>?_)
 by_cases hk:c.kind=1
 ·have hb:(c.kind != 1)=false:=by simp [hk]
  repeat' (first|(refine shC ?_;first|refine qC (zaU _ _) ?_)|refine sK ?_|refine sC (fun _=>?_) (fun _=>?_)|fail)
  exact retq rfl (by simp [zl,YX,hk])
 ·have hb:(c.kind != 1)=true:=by simp [hk]
  repeat' (first|(refine shC ?_;first|refine qC (zaU _ _) ?_)|refine sK ?_|refine sC (fun _=>?_) (fun _=>?_)|fail)
  have h1:(c.kind==1)=false:=by simp [hk]
  exact retq rfl (by simp only [zl,YX,h1,hb,zcs];simp)
set_option maxHeartbeats 20000000
def zjw (l:List Ty) (p:Ty→Bool):Int:=if l.any p then ((l.findIdx p:Nat):Int) else -1
theorem zc4 (l:List Ty) (p:Ty→Bool) (f:FuncId) (first cap:List PV) (hp:∀ x∈l,ACall Tryz.prog f (first++[yA x]++cap) (pb (p x))):ACall Tryz.prog 125 [.slc 4 (l.map yA) false,.fn (.func f) first cap] (pi (zjw l p)):=by
 refine zf zh Tryz.func125 rfl (by kernel_rfl) Tryz.ntmps125 (by simp) _ rfl (fun hw gB hgB=>?_)
 have hl:l.length≤9223372036854775807:=by have:=hw.1;simp [PV.lenOk,lensOk,maxLen] at this;exact this.1
 repeat' (first|refine sA ?_|refine sC (fun _=>?_) (fun _=>?_)|fail)
 refine zA (fun k:Nat=>[(0,.pv (.slc 4 (l.map yA) false)),(1,.pv (.fn (.func f) first cap)),(7,.pv (pi l.length)),(8,.pv (pi k))]) (fun _=>[]) (fun k=>k≤l.length∧∀ j (h:j < k) (h2:j < l.length),p l[j]=false) (fun k=>l.length - k) 0 ⟨by omega,fun j h=>by omega⟩ (tS) tH ?_
 rintro k ⟨hk,hno⟩
 by_cases hlt:k < l.length
 ·have he:=yI (f:=yA) hlt
  have c1:=hp _ (List.getElem_mem hlt)
  cases hpx:p l[k]
  ·rw [hpx] at c1
   repeat' (first|(refine shC ?_;first|refine qV (c1) ?_)|(refine shX ?_;first|refine qX he ?_)|refine sK ?_|refine sC (fun _=>?_) (fun _=>?_)|fail)
   exact ⟨k + 1,⟨hlt,fun j hj h2=>by
    by_cases e:j=k
    ·subst e;exact hpx
    ·exact hno j (by omega) h2⟩,tD,tS,tH⟩
  ·rw [hpx] at c1
   have hi:l.findIdx p=k:=by
    rw [List.findIdx_eq hlt]
    exact ⟨hpx,fun j hj=>hno j hj (by omega)⟩
   have ha:l.any p=true:=List.any_eq_true.2 ⟨_,List.getElem_mem hlt,hpx⟩
   repeat' (first|(refine shC ?_;first|refine qV (c1) ?_)|(refine shX ?_;first|refine qX he ?_)|refine sK ?_|refine sC (fun _=>?_) (fun _=>?_)|fail)
   exact retq rfl (by simp [zl,zjw,ha,hi])
 ·have ha:l.any p=false:=by
   rw [List.any_eq_false]
   intro x hx
   obtain ⟨j,hj,rfl⟩:=List.getElem_of_mem hx
   simp [hno j (by omega) hj]
  repeat' (first|refine sK ?_|refine sC (fun _=>?_) (fun _=>?_)|fail)
  exact retq rfl (by simp [zl,zjw,ha])
theorem Yq (l:List Ty) (p:Ty→Bool) (f:FuncId) (first cap:List PV) (hp:∀ x∈l,ACall Tryz.prog f (first++[yA x]++cap) (pb (p x))):ACall Tryz.prog 62 [.slc 4 (l.map yA) false,.fn (.func f) first cap] (pb (l.any p)):=by
 refine zf zh Tryz.func62 rfl (by kernel_rfl) Tryz.ntmps62 (by simp) _ rfl (fun hw gB hgB=>?_)
 have c1:=zc4 l p f first cap hp
 repeat' (first|(refine shC ?_;first|refine qC c1 ?_)|refine sA ?_|refine sC (fun _=>?_) (fun _=>?_)|fail)
 refine retq rfl ?_
 have:decide (0≤zjw l p)=l.any p:=by
  unfold zjw
  cases h:l.any p <;> simp
 simp [zl,this]
def zeS (l:List Ins) (p:Ins→Bool):Int:=if l.any p then ((l.findIdx p:Nat):Int) else -1
theorem zb0 (l:List Ins) (p:Ins→Bool) (f:FuncId) (first cap:List PV) (hp:∀ x∈l,ACall Tryz.prog f (first++[yT x]++cap) (pb (p x))):ACall Tryz.prog 465 [.slc 6 (l.map yT) false,.fn (.func f) first cap] (pi (zeS l p)):=by
 refine zf zh Tryz.func465 rfl (by kernel_rfl) Tryz.ntmps465 (by simp) _ rfl (fun hw gB hgB=>?_)
 have hl:l.length≤9223372036854775807:=by have:=hw.1;simp [PV.lenOk,lensOk,maxLen] at this;exact this.1
 repeat' (first|refine sA ?_|refine sC (fun _=>?_) (fun _=>?_)|fail)
 refine zA (fun k:Nat=>[(0,.pv (.slc 6 (l.map yT) false)),(1,.pv (.fn (.func f) first cap)),(7,.pv (pi l.length)),(8,.pv (pi k))]) (fun _=>[]) (fun k=>k≤l.length∧∀ j (h:j < k) (h2:j < l.length),p l[j]=false) (fun k=>l.length - k) 0 ⟨by omega,fun j h=>by omega⟩ (tS) tH ?_
 rintro k ⟨hk,hno⟩
 by_cases hlt:k < l.length
 ·have he:=yI (f:=yT) hlt
  have c1:=hp _ (List.getElem_mem hlt)
  cases hpx:p l[k]
  ·rw [hpx] at c1
   repeat' (first|(refine shC ?_;first|refine qV (c1) ?_)|(refine shX ?_;first|refine qX he ?_)|refine sK ?_|refine sC (fun _=>?_) (fun _=>?_)|fail)
   exact ⟨k + 1,⟨hlt,fun j hj h2=>by
    by_cases e:j=k
    ·subst e;exact hpx
    ·exact hno j (by omega) h2⟩,tD,tS,tH⟩
  ·rw [hpx] at c1
   have hi:l.findIdx p=k:=by
    rw [List.findIdx_eq hlt]
    exact ⟨hpx,fun j hj=>hno j hj (by omega)⟩
   have ha:l.any p=true:=List.any_eq_true.2 ⟨_,List.getElem_mem hlt,hpx⟩
   repeat' (first|(refine shC ?_;first|refine qV (c1) ?_)|(refine shX ?_;first|refine qX he ?_)|refine sK ?_|refine sC (fun _=>?_) (fun _=>?_)|fail)
   exact retq rfl (by simp [zl,zeS,ha,hi])
 ·have ha:l.any p=false:=by
   rw [List.any_eq_false]
   intro x hx
   obtain ⟨j,hj,rfl⟩:=List.getElem_of_mem hx
   simp [hno j (by omega) hj]
  repeat' (first|refine sK ?_|refine sC (fun _=>?_) (fun _=>?_)|fail)
  exact retq rfl (by simp [zl,zeS,ha])
theorem zaA (l:List Ins) (p:Ins→Bool) (f:FuncId) (first cap:List PV) (hp:∀ x∈l,ACall Tryz.prog f (first++[yT x]++cap) (pb (p x))):ACall Tryz.prog 455 [.slc 6 (l.map yT) false,.fn (.func f) first cap] (pb (l.any p)):=by
 refine zf zh Tryz.func455 rfl (by kernel_rfl) Tryz.ntmps455 (by simp) _ rfl (fun hw gB hgB=>?_)
 have c1:=zb0 l p f first cap hp
 repeat' (first|(refine shC ?_;first|refine qC c1 ?_)|refine sA ?_|refine sC (fun _=>?_) (fun _=>?_)|fail)
 refine retq rfl ?_
 have:decide (0≤zeS l p)=l.any p:=by
  unfold zeS
  cases h:l.any p <;> simp
 simp [zl,this]
def zjt (l:List Cl) (p:Cl→Bool):Int:=if l.any p then ((l.findIdx p:Nat):Int) else -1
theorem zdk (l:List Cl) (p:Cl→Bool) (f:FuncId) (first cap:List PV) (hp:∀ x∈l,ACall Tryz.prog f (first++[Yr x]++cap) (pb (p x))):ACall Tryz.prog 164 [.slc 10 (l.map Yr) false,.fn (.func f) first cap] (pi (zjt l p)):=by
 refine zf zh Tryz.func164 rfl (by kernel_rfl) Tryz.ntmps164 (by simp) _ rfl (fun hw gB hgB=>?_)
 have hl:l.length≤9223372036854775807:=by have:=hw.1;simp [PV.lenOk,lensOk,maxLen] at this;exact this.1
 repeat' (first|refine sA ?_|refine sC (fun _=>?_) (fun _=>?_)|fail)
 refine zA (fun k:Nat=>[(0,.pv (.slc 10 (l.map Yr) false)),(1,.pv (.fn (.func f) first cap)),(7,.pv (pi l.length)),(8,.pv (pi k))]) (fun _=>[]) (fun k=>k≤l.length∧∀ j (h:j < k) (h2:j < l.length),p l[j]=false) (fun k=>l.length - k) 0 ⟨by omega,fun j h=>by omega⟩ (tS) tH ?_
 rintro k ⟨hk,hno⟩
 by_cases hlt:k < l.length
 ·have he:=yI (f:=Yr) hlt
  have c1:=hp _ (List.getElem_mem hlt)
  cases hpx:p l[k]
  ·rw [hpx] at c1
   repeat' (first|(refine shC ?_;first|refine qV (c1) ?_)|(refine shX ?_;first|refine qX he ?_)|refine sK ?_|refine sC (fun _=>?_) (fun _=>?_)|fail)
   exact ⟨k + 1,⟨hlt,fun j hj h2=>by
    by_cases e:j=k
    ·subst e;exact hpx
    ·exact hno j (by omega) h2⟩,tD,tS,tH⟩
  ·rw [hpx] at c1
   have hi:l.findIdx p=k:=by
    rw [List.findIdx_eq hlt]
    exact ⟨hpx,fun j hj=>hno j hj (by omega)⟩
   have ha:l.any p=true:=List.any_eq_true.2 ⟨_,List.getElem_mem hlt,hpx⟩
   repeat' (first|(refine shC ?_;first|refine qV (c1) ?_)|(refine shX ?_;first|refine qX he ?_)|refine sK ?_|refine sC (fun _=>?_) (fun _=>?_)|fail)
   exact retq rfl (by simp [zl,zjt,ha,hi])
 ·have ha:l.any p=false:=by
   rw [List.any_eq_false]
   intro x hx
   obtain ⟨j,hj,rfl⟩:=List.getElem_of_mem hx
   simp [hno j (by omega) hj]
  repeat' (first|refine sK ?_|refine sC (fun _=>?_) (fun _=>?_)|fail)
  exact retq rfl (by simp [zl,zjt,ha])
theorem zbk (l:List Cl) (p:Cl→Bool) (f:FuncId) (first cap:List PV) (hp:∀ x∈l,ACall Tryz.prog f (first++[Yr x]++cap) (pb (p x))):ACall Tryz.prog 82 [.slc 10 (l.map Yr) false,.fn (.func f) first cap] (pb (l.any p)):=by
 refine zf zh Tryz.func82 rfl (by kernel_rfl) Tryz.ntmps82 (by simp) _ rfl (fun hw gB hgB=>?_)
 have c1:=zdk l p f first cap hp
 repeat' (first|(refine shC ?_;first|refine qC c1 ?_)|refine sA ?_|refine sC (fun _=>?_) (fun _=>?_)|fail)
 refine retq rfl ?_
 have:decide (0≤zjt l p)=l.any p:=by
  unfold zjt
  cases h:l.any p <;> simp
 simp [zl,this]
theorem zcg (t:Ty) (n:Int):ACall Tryz.prog 452 [yA t,.ptr (pi n) 0] (pb (!QD t 2 n)):=by
 refine zf zh Tryz.func452 rfl (by kernel_rfl) Tryz.ntmps452 (by simp) _ rfl (fun hw gB hgB=>?_)
 repeat' (first|(refine shC ?_;first|refine qC (zjZ t n) ?_)|refine sA ?_|refine sC (fun _=>?_) (fun _=>?_)|fail)
 exact retq rfl rfl
theorem zhf (x:Ins) (g:Img) (m:Me) (hx:zco x):ACall Tryz.prog 456 [yT x,.ptr (zu g) 0,.ptr (zM m) 0] (pb (!codeOk g m x)):=by
 refine zf zh Tryz.func456 rfl (by kernel_rfl) Tryz.ntmps456 (by simp) _ rfl (fun hw gB hgB=>?_)
 have c1:=zks x g m hx
 rw [show m.code.length=(m.code.map yT).length by simp] at c1
 repeat' (first|(refine shC ?_;first|refine qC c1 ?_)|refine sA ?_|refine sC (fun _=>?_) (fun _=>?_)|fail)
 exact retq rfl rfl
theorem zhE (c:Cl) (g:Img):ACall Tryz.prog 458 [Yr c,.ptr (pi (g.types.length:Nat)) 0] (pb (!YX g c)):=by
 refine zf zh Tryz.func458 rfl (by kernel_rfl) Tryz.ntmps458 (by simp) _ rfl (fun hw gB hgB=>?_)
 repeat' (first|(refine shC ?_;first|refine qC (zg5 c g) ?_)|refine sA ?_|refine sC (fun _=>?_) (fun _=>?_)|fail)
 exact retq rfl rfl
set_option maxHeartbeats 4000000 in
theorem zhk (m:Me) (g:Img) (hx:∀ x∈m.code,zco x):ACall Tryz.prog 440 [zM m,zu g] (pb (ZY g m)):=by
 refine zf zh Tryz.func440 rfl (by kernel_rfl) Tryz.ntmps440 (by simp) _ rfl (fun hw gB hgB=>?_)
 have cP:=Yq m.params (fun t=>!QD t 2 ((g.types.map qx).length:Nat)) 452 [] [.ptr (pi ((g.types.map qx).length:Nat)) 0] (fun t _=>zcg t _)
 have cL:=Yq m.locals (fun t=>!QD t 2 ((g.types.map qx).length:Nat)) 452 [] [.ptr (pi ((g.types.map qx).length:Nat)) 0] (fun t _=>zcg t _)
 have cC:=zaA m.code (fun x=>!codeOk g m x) 456 [] [.ptr (zu g) 0,.ptr (zM m) 0] (fun x h=>zhf x g m (hx x h))
 have cK:=zbk m.clauses (fun c=>!YX g c) 458 [] [.ptr (pi ((g.types.map qx).length:Nat)) 0] (fun c _=>by have:=zhE c g;rwa [show g.types.length=(g.types.map qx).length by simp] at this)
 have cR:=zhd ((m.code.map yT).length:Nat) m.clauses
 rw [←List.not_all_eq_any_not] at cP cL cC cK
 have hfm:ZY g m=(Vp m.name&&decide (0≤m.flags)&&decide (m.flags≤31)&&decide (0≤m.max)&&decide (m.max≤12)&&decide ((((m.params.map yA).length:Nat):Int)≤6)&&decide ((((m.locals.map yA).length:Nat):Int)≤12)&&QD m.ret 3 ((g.types.map qx).length:Nat)
   && (m.params.all fun t=>QD t 2 ((g.types.map qx).length:Nat))&&(m.locals.all fun t=>QD t 2 ((g.types.map qx).length:Nat))&&(decide ((((m.code.map yT).length:Nat):Int)≤160)&&m.code.all (codeOk g m)&&m.clauses.all (YX g)&&((Qx ((m.code.map yT).length:Nat) m.clauses).2==0))):=by
  simp only [ZY,zck,zh5,List.length_map]
 generalize (m.params.all fun t=>QD t 2 ((g.types.map qx).length:Nat))=bP at cP hfm
 generalize (m.locals.all fun t=>QD t 2 ((g.types.map qx).length:Nat))=bL at cL hfm
 generalize m.code.all (codeOk g m)=bC at cC hfm
 generalize m.clauses.all (YX g)=bK at cK hfm
 repeat' (first|refine Vx (t:=5) rfl rfl rfl ?_|(refine shC ?_;first|refine qC (zbR _) ?_|refine qC (zh8 m.ret _) ?_|refine qC cP ?_|refine qC cL ?_|refine qC cC ?_|refine qC cK ?_|refine qC cR ?_)|refine sA ?_|refine sC (fun _=>?_) (fun _=>?_)|fail)
 all_goals (refine retq rfl ?_;rw [hfm];first|(simp_all [zl];done)|(simp_all [zl];omega))
set_option maxHeartbeats 20000000
def zcA (g:Img) (k:Nat):Int:=if k=0 then 0 else (g.fields.getD (k - 1) default).owner
def zcc (g:Img):Bool:=(List.range g.fields.length).all (zex g)&&decide (((g.fields.map Zc).length:Nat)≤(64:Int))
theorem zk8 {g:Img} {k:Nat} (h:k < g.fields.length):zcA g (k + 1)=g.fields[k].owner:=by
 rw [zcA,if_neg (by omega),Nat.add_sub_cancel,zV h]
theorem zkj {g:Img} {k:Nat} (h:k < g.fields.length) (hl:0≤zcA g k):zex g k=(Vp g.fields[k].name&&!decide (g.fields[k].owner < zcA g k)&&!decide ((((g.types.map qx).length:Nat):Int)≤g.fields[k].owner)&&QD g.fields[k].ty 1 ((g.types.map qx).length:Nat)):=by
 rw [zex]
 simp only [zV h,List.length_map]
 generalize Vp g.fields[k].name=bf
 generalize QD g.fields[k].ty 1 g.types.length=bm
 unfold zcA at hl ⊢
 by_cases hk:k=0
 ·subst hk
  rw [Bool.eq_iff_iff];simp
 ·have e:(k==0)=false:=by simp [hk]
  rw [if_neg hk] at hl ⊢
  rw [e,Bool.eq_iff_iff]
  simp only [List.getD_eq_getElem?_getD] at hl ⊢
  simp
  intro _
  constructor
  ·rintro ⟨⟨⟨a,b⟩,c⟩,d⟩;exact ⟨⟨a,d⟩,c⟩
  ·rintro ⟨⟨a,d⟩,c⟩;exact ⟨⟨⟨a,by omega⟩,c⟩,d⟩
theorem zhq (g:Img):ACall Tryz.prog 413 [zu g] (pb (zcc g)):=by
 refine zf zh Tryz.func413 rfl (by kernel_rfl) Tryz.ntmps413 (by simp) _ rfl (fun hw gB hgB=>?_)
 have hlen:=(zlu hw.1).2.1
 repeat' (first|refine sA ?_|refine sC (fun _=>?_) (fun _=>?_)|fail)
 refine zA (fun k:Nat=>[(1,.pv (.ptr (zu g) 0)),(3,.pv (pi (zcA g k))),(7,.pv (.slc 7 (g.fields.map Zc) false)),(8,.pv (pi g.fields.length)),(9,.pv (pi k))]) (fun _=>[]) (fun k=>k≤g.fields.length∧0≤zcA g k∧zcc g=(((List.range g.fields.length).drop k).all (zex g)&&decide (((g.fields.map Zc).length:Nat)≤(64:Int)))) (fun k=>g.fields.length - k) 0 ⟨by omega,by simp [zcA],rfl⟩ (tS) tH ?_
 rintro k ⟨hk,hl0,hr⟩
 by_cases hlt:k < g.fields.length
 ·have he:=yI (f:=Zc) hlt
  have hls:=zk8 hlt
  rw [Qd hlt,zkj hlt hl0] at hr
  generalize g.fields[k]=f at he hr hls
  generalize hL:zcA g k=L at hr hl0
  repeat' (first|(refine shC ?_;first|refine qC (zbR _) ?_|refine qC (zaU _ _) ?_)|(refine shX ?_;first|refine qX he ?_)|refine sK ?_|refine sC (fun _=>?_) (fun _=>?_)|fail)
  all_goals first
   | (refine retq rfl ?_;rw [hr];simp_all [zl];done)
   | (refine ⟨k + 1,⟨hlt,by rw [hls];simp_all;omega,by rw [hr,Bool.eq_iff_iff];simp_all⟩,tD,by repeat (first|exact yj|refine zY rfl ?_|(refine qL rfl ?_ ?_;· (first|exact hls.symm|(rw [wrap_in (by omega) (by omega)] <;> omega)))),tH⟩)
 ·rw [drop_end (by simp;omega)] at hr
  repeat' (first|refine sK ?_|refine sC (fun _=>?_) (fun _=>?_)|fail)
  exact retq rfl (by rw [hr];simp [zl])
def zb9 (g:Img) (k:Nat):Int:=if k=0 then 0 else (g.methods.getD (k - 1) default).owner
def zaw (g:Img):Bool:=(List.range g.methods.length).all (zeP g)&&decide (((g.methods.map zM).length:Nat)≤(64:Int))
theorem zlc {g:Img} {k:Nat} (h:k < g.methods.length):zb9 g (k + 1)=g.methods[k].owner:=by
 rw [zb9,if_neg (by omega),Nat.add_sub_cancel,zV h]
theorem zkF {g:Img} {k:Nat} (h:k < g.methods.length) (hl:0≤zb9 g k):zeP g k=(!decide (g.methods[k].owner < zb9 g k)&&!decide ((((g.types.map qx).length:Nat):Int)≤g.methods[k].owner)&&ZY g g.methods[k]):=by
 rw [zeP]
 simp only [zV h,List.length_map]
 generalize ZY g g.methods[k]=bm
 unfold zb9 at hl ⊢
 by_cases hk:k=0
 ·subst hk
  rw [Bool.eq_iff_iff];simp
 ·have e:(k==0)=false:=by simp [hk]
  rw [if_neg hk] at hl ⊢
  rw [e,Bool.eq_iff_iff]
  simp only [List.getD_eq_getElem?_getD] at hl ⊢
  simp
  intro _
  constructor
  ·rintro ⟨⟨a,b⟩,d⟩;exact ⟨d,b⟩
  ·rintro ⟨d,c⟩;exact ⟨⟨by omega,c⟩,d⟩
theorem zgd (g:Img) (hx:∀ m∈g.methods,∀ x∈m.code,zco x):ACall Tryz.prog 414 [zu g] (pb (zaw g)):=by
 refine zf zh Tryz.func414 rfl (by kernel_rfl) Tryz.ntmps414 (by simp) _ rfl (fun hw gB hgB=>?_)
 have hlen:=(zlu hw.1).2.2
 repeat' (first|refine sA ?_|refine sC (fun _=>?_) (fun _=>?_)|fail)
 refine zA (fun k:Nat=>[(1,.pv (.ptr (zu g) 0)),(3,.pv (pi (zb9 g k))),(7,.pv (.slc 12 (g.methods.map zM) false)),(8,.pv (pi g.methods.length)),(9,.pv (pi k))]) (fun _=>[]) (fun k=>k≤g.methods.length∧0≤zb9 g k∧zaw g=(((List.range g.methods.length).drop k).all (zeP g)&&decide (((g.methods.map zM).length:Nat)≤(64:Int)))) (fun k=>g.methods.length - k) 0 ⟨by omega,by simp [zb9],rfl⟩ (tS) tH ?_
 rintro k ⟨hk,hl0,hr⟩
 by_cases hlt:k < g.methods.length
 ·have he:=yI (f:=zM) hlt
  have hls:=zlc hlt
  have cm:=zhk g.methods[k] g (hx _ (List.getElem_mem hlt))
  rw [Qd hlt,zkF hlt hl0] at hr
  generalize g.methods[k]=f at he hr hls cm
  generalize hL:zb9 g k=L at hr hl0
  repeat' (first|(refine shC ?_;first|refine qC cm ?_)|(refine shX ?_;first|refine qX he ?_)|refine sK ?_|refine sC (fun _=>?_) (fun _=>?_)|fail)
  all_goals first
   | (refine retq rfl ?_;rw [hr];simp_all [zl];done)
   | (refine ⟨k + 1,⟨hlt,by rw [hls];simp_all;omega,by rw [hr,Bool.eq_iff_iff];simp_all⟩,tD,by repeat (first|exact yj|refine zY rfl ?_|(refine qL rfl ?_ ?_;· (first|exact hls.symm|(rw [wrap_in (by omega) (by omega)] <;> omega)))),tH⟩)
 ·rw [drop_end (by simp;omega)] at hr
  repeat' (first|refine sK ?_|refine sC (fun _=>?_) (fun _=>?_)|fail)
  exact retq rfl (by rw [hr];simp [zl])
theorem zhp (g:Img) (hx:∀ m∈g.methods,∀ x∈m.code,zco x):ACall Tryz.prog 398 [zu g] (pb (zK g)):=by
 refine zf zh Tryz.func398 rfl (by kernel_rfl) Tryz.ntmps398 (by simp) _ rfl (fun hw gB hgB=>?_)
 have c1:=zla g
 have c2:=zhq g
 have c3:=zgd g hx
 have hfm:zK g=(Xe g&&zcc g&&zaw g&&decide (-1≤g.entry)&&decide (g.entry < ((g.methods.map zM).length:Nat))):=by
  rw [zK,Xe,zcc,zaw,Bool.eq_iff_iff]
  simp only [List.length_map,Bool.and_eq_true]
  constructor <;> (intro h;simp only [h,and_self])
 generalize Xe g=b1 at c1 hfm
 generalize zcc g=b2 at c2 hfm
 generalize zaw g=b3 at c3 hfm
 repeat' (first|(refine shC ?_;first|refine qC c1 ?_|refine qC c2 ?_|refine qC c3 ?_)|refine sA ?_|refine sC (fun _=>?_) (fun _=>?_)|fail)
 all_goals (refine retq rfl ?_;rw [hfm];first|(simp_all [zl];done)|(simp_all [zl];omega))
end Go.Cg
