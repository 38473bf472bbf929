/- A part of the walks by abstract values: no statement of its own. -/
import Derived.Test.YtdngpcmllgnbjaaGreatE25
import Derived.Test.YtdngpcmllgnbjaaGreatE23
set_option linter.unusedVariables false
set_option linter.unusedSimpArgs false
namespace Go.Cg
open Go.Proofs
set_option maxHeartbeats 20000000
theorem zqM (t:Ty) (h:Zx t 1=true):∃ bs:List Int,ACall Tryz.prog 464 [zkB [6],yK t] (u8s bs):=by
 obtain ⟨k,i,d,r⟩:=t
 have hr:r=false:=by
  cases r with
  | false=>rfl
  | true=>simp [Zx] at h
 subst hr
 have hp:Zv ⟨k,i,d,false⟩=true∧k≠1:=by
  simp only [Zx] at h
  cases hp:Zv ⟨k,i,d,false⟩ with
  | false=>rw [hp] at h;simp at h
  | true=>rw [hp] at h;simp at h;exact ⟨rfl,h⟩
 obtain ⟨hp,hk1⟩:=hp
 simp only [Zv] at hp
 split at hp
 ·simp at hp
 ·rename_i hb
  simp at hb
  have hd:d=0∨d=1∨d=2∨d=3:=by omega
  by_cases h2:k=2
  ·exact ⟨_,zfv k 8 i d (.inl ⟨h2,rfl⟩) hd⟩
  ·by_cases h3:k=3
   ·exact ⟨_,zfv k 10 i d (.inr (.inl ⟨h3,rfl⟩)) hd⟩
   ·by_cases h4:k=4
    ·exact ⟨_,zfv k 28 i d (.inr (.inr ⟨h4,rfl⟩)) hd⟩
    ·by_cases h5:k=5
     ·exact ziY k 18 i d (.inl ⟨h5,rfl⟩) (by omega) (by simp [h5] at hp;omega) hd
     ·by_cases h6:k=6
      ·exact ziY k 17 i d (.inr ⟨h6,rfl⟩) (by omega) (by simp [h6] at hp;omega) hd
      ·by_cases h7:k=7
       ·subst h7
        exact zp3 i d (by omega) (by simp at hp;omega) hd
       ·simp [hk1,h2,h3,h4,h5,h6,h7] at hp
theorem zfl (t:Ty) (h:Zx t 1=false):ACall Tryz.prog 450 [yK t] (.tup [.base (.slice none 0 0),pi 17]):=by
 refine zf zh Tryz.func450 rfl (by kernel_rfl) Tryz.ntmps450 (by simp) _ rfl (fun hw gB hgB=>?_)
 have c1:=zfP t
 rw [h] at c1
 repeat' (first|(refine shC ?_;first|refine qC c1 ?_)|refine sA ?_|refine sC (fun _=>?_) (fun _=>?_)|fail)
 exact retq rfl rfl
theorem ziJ (t:Ty) (h:Zx t 1=true):∃ bs:List Int,ACall Tryz.prog 450 [yK t] (.tup [u8s bs,pi 0]):=by
 obtain ⟨bs,cp⟩:=zqM t h
 refine ⟨bs,?_⟩
 refine zf zh Tryz.func450 rfl (by kernel_rfl) Tryz.ntmps450 (by simp) _ rfl (fun hw gB hgB=>?_)
 have c1:=zfP t
 rw [h] at c1
 repeat' (first|(refine shC ?_;first|refine qC c1 ?_|refine qC cp ?_)|refine sA ?_|refine sC (fun _=>?_) (fun _=>?_)|fail)
 exact retq rfl rfl
theorem zb4 (t:Ty) (n:Int):ACall Tryz.prog 439 [yK t,pi n] (pb (XY t 1 n)):=by
 refine zf zh Tryz.func439 rfl (by kernel_rfl) Tryz.ntmps439 (by simp) _ rfl (fun hw gB hgB=>?_)
 cases h:Zx t 1
 ·repeat' (first|(refine shC ?_;first|refine qC (zfl t h) ?_|refine qC (zaq t n) ?_)|refine sA ?_|refine sC (fun _=>?_) (fun _=>?_)|fail)
  all_goals (refine retq rfl ?_;simp_all [zn,XY];done)
 ·obtain ⟨bs,cp⟩:=ziJ t h
  repeat' (first|(refine shC ?_;first|refine qC cp ?_|refine qC (zaq t n) ?_)|refine sA ?_|refine sC (fun _=>?_) (fun _=>?_)|fail)
  all_goals (refine retq rfl ?_;simp_all [zn,XY];done)
theorem zjO (c:Cl) (g:Img):ACall Tryz.prog 459 [ZJ c,pi (g.types.length:Nat)] (pb (QX g c)):=by
 refine zf zh Tryz.func459 rfl (by kernel_rfl) Tryz.ntmps459 (by simp) _ rfl (fun hw gB hgB=>?_)
 by_cases hk:c.kind=1
 ·have hb:(c.kind != 1)=false:=by simp [hk]
  repeat' (first|(refine shC ?_;first|refine qC (zb4 _ _) ?_)|refine sK ?_|refine sC (fun _=>?_) (fun _=>?_)|fail)
  exact retq rfl (by simp [zn,QX,hk])
 ·have hb:(c.kind != 1)=true:=by simp [hk]
  repeat' (first|(refine shC ?_;first|refine qC (zb4 _ _) ?_)|refine sK ?_|refine sC (fun _=>?_) (fun _=>?_)|fail)
  have h1:(c.kind==1)=false:=by simp [hk]
  exact retq rfl (by simp only [zn,QX,h1,hb,zec];simp)
set_option maxHeartbeats 20000000
def znj (l:List Ty) (p:Ty→Bool):Int:=if l.any p then ((l.findIdx p:Nat):Int) else -1
theorem zeX (l:List Ty) (p:Ty→Bool) (f:FuncId) (first cap:List PV) (hp:∀ x∈l,ACall Tryz.prog f (first++[yK x]++cap) (pb (p x))):ACall Tryz.prog 125 [.slc 4 (l.map yK) false,.fn (.func f) first cap] (pi (znj l p)):=by
 refine zf zh Tryz.func125 rfl (by kernel_rfl) Tryz.ntmps125 (by simp) _ rfl (fun hw gB hgB=>?_)
 have hl:l.length≤9223372036854775807:=by have:=hw.1;simp [PV.lenOk,lensOk,maxLen] at this;exact this.1
 repeat' (first|refine sA ?_|refine sC (fun _=>?_) (fun _=>?_)|fail)
 refine zB (fun k:Nat=>[(0,.pv (.slc 4 (l.map yK) false)),(1,.pv (.fn (.func f) first cap)),(7,.pv (pi l.length)),(8,.pv (pi k))]) (fun _=>[]) (fun k=>k≤l.length∧∀ j (h:j < k) (h2:j < l.length),p l[j]=false) (fun k=>l.length - k) 0 ⟨by omega,fun j h=>by omega⟩ (tS) tH ?_
 rintro k ⟨hk,hno⟩
 by_cases hlt:k < l.length
 ·have he:=yc (f:=yK) hlt
  have c1:=hp _ (List.getElem_mem hlt)
  cases hpx:p l[k]
  ·rw [hpx] at c1
   repeat' (first|(refine shC ?_;first|refine qV (c1) ?_)|(refine shX ?_;first|refine qX he ?_)|refine sK ?_|refine sC (fun _=>?_) (fun _=>?_)|fail)
   exact ⟨k + 1,⟨hlt,fun j hj h2=>by
    by_cases e:j=k
    ·subst e;exact hpx
    ·exact hno j (by omega) h2⟩,tD,tS,tH⟩
  ·rw [hpx] at c1
   have hi:l.findIdx p=k:=by
    rw [List.findIdx_eq hlt]
    exact ⟨hpx,fun j hj=>hno j hj (by omega)⟩
   have ha:l.any p=true:=List.any_eq_true.2 ⟨_,List.getElem_mem hlt,hpx⟩
   repeat' (first|(refine shC ?_;first|refine qV (c1) ?_)|(refine shX ?_;first|refine qX he ?_)|refine sK ?_|refine sC (fun _=>?_) (fun _=>?_)|fail)
   exact retq rfl (by simp [zn,znj,ha,hi])
 ·have ha:l.any p=false:=by
   rw [List.any_eq_false]
   intro x hx
   obtain ⟨j,hj,rfl⟩:=List.getElem_of_mem hx
   simp [hno j (by omega) hj]
  repeat' (first|refine sK ?_|refine sC (fun _=>?_) (fun _=>?_)|fail)
  exact retq rfl (by simp [zn,znj,ha])
theorem Yg (l:List Ty) (p:Ty→Bool) (f:FuncId) (first cap:List PV) (hp:∀ x∈l,ACall Tryz.prog f (first++[yK x]++cap) (pb (p x))):ACall Tryz.prog 62 [.slc 4 (l.map yK) false,.fn (.func f) first cap] (pb (l.any p)):=by
 refine zf zh Tryz.func62 rfl (by kernel_rfl) Tryz.ntmps62 (by simp) _ rfl (fun hw gB hgB=>?_)
 have c1:=zeX l p f first cap hp
 repeat' (first|(refine shC ?_;first|refine qC c1 ?_)|refine sA ?_|refine sC (fun _=>?_) (fun _=>?_)|fail)
 refine retq rfl ?_
 have:decide (0≤znj l p)=l.any p:=by
  unfold znj
  cases h:l.any p <;> simp
 simp [zn,this]
def zhj (l:List Ins) (p:Ins→Bool):Int:=if l.any p then ((l.findIdx p:Nat):Int) else -1
theorem zd9 (l:List Ins) (p:Ins→Bool) (f:FuncId) (first cap:List PV) (hp:∀ x∈l,ACall Tryz.prog f (first++[yR x]++cap) (pb (p x))):ACall Tryz.prog 465 [.slc 6 (l.map yR) false,.fn (.func f) first cap] (pi (zhj l p)):=by
 refine zf zh Tryz.func465 rfl (by kernel_rfl) Tryz.ntmps465 (by simp) _ rfl (fun hw gB hgB=>?_)
 have hl:l.length≤9223372036854775807:=by have:=hw.1;simp [PV.lenOk,lensOk,maxLen] at this;exact this.1
 repeat' (first|refine sA ?_|refine sC (fun _=>?_) (fun _=>?_)|fail)
 refine zB (fun k:Nat=>[(0,.pv (.slc 6 (l.map yR) false)),(1,.pv (.fn (.func f) first cap)),(7,.pv (pi l.length)),(8,.pv (pi k))]) (fun _=>[]) (fun k=>k≤l.length∧∀ j (h:j < k) (h2:j < l.length),p l[j]=false) (fun k=>l.length - k) 0 ⟨by omega,fun j h=>by omega⟩ (tS) tH ?_
 rintro k ⟨hk,hno⟩
 by_cases hlt:k < l.length
 ·have he:=yc (f:=yR) hlt
  have c1:=hp _ (List.getElem_mem hlt)
  cases hpx:p l[k]
  ·rw [hpx] at c1
   repeat' (first|(refine shC ?_;first|refine qV (c1) ?_)|(refine shX ?_;first|refine qX he ?_)|refine sK ?_|refine sC (fun _=>?_) (fun _=>?_)|fail)
   exact ⟨k + 1,⟨hlt,fun j hj h2=>by
    by_cases e:j=k
    ·subst e;exact hpx
    ·exact hno j (by omega) h2⟩,tD,tS,tH⟩
  ·rw [hpx] at c1
   have hi:l.findIdx p=k:=by
    rw [List.findIdx_eq hlt]
    exact ⟨hpx,fun j hj=>hno j hj (by omega)⟩
   have ha:l.any p=true:=List.any_eq_true.2 ⟨_,List.getElem_mem hlt,hpx⟩
   repeat' (first|(refine shC ?_;first|refine qV (c1) ?_)|(refine shX ?_;first|refine qX he ?_)|refine sK ?_|refine sC (fun _=>?_) (fun _=>?_)|fail)
   exact retq rfl (by simp [zn,zhj,ha,hi])
 ·have ha:l.any p=false:=by
   rw [List.any_eq_false]
   intro x hx
   obtain ⟨j,hj,rfl⟩:=List.getElem_of_mem hx
   simp [hno j (by omega) hj]
  repeat' (first|refine sK ?_|refine sC (fun _=>?_) (fun _=>?_)|fail)
  exact retq rfl (by simp [zn,zhj,ha])
theorem zbO (l:List Ins) (p:Ins→Bool) (f:FuncId) (first cap:List PV) (hp:∀ x∈l,ACall Tryz.prog f (first++[yR x]++cap) (pb (p x))):ACall Tryz.prog 455 [.slc 6 (l.map yR) false,.fn (.func f) first cap] (pb (l.any p)):=by
 refine zf zh Tryz.func455 rfl (by kernel_rfl) Tryz.ntmps455 (by simp) _ rfl (fun hw gB hgB=>?_)
 have c1:=zd9 l p f first cap hp
 repeat' (first|(refine shC ?_;first|refine qC c1 ?_)|refine sA ?_|refine sC (fun _=>?_) (fun _=>?_)|fail)
 refine retq rfl ?_
 have:decide (0≤zhj l p)=l.any p:=by
  unfold zhj
  cases h:l.any p <;> simp
 simp [zn,this]
def zlM (l:List Cl) (p:Cl→Bool):Int:=if l.any p then ((l.findIdx p:Nat):Int) else -1
theorem ze1 (l:List Cl) (p:Cl→Bool) (f:FuncId) (first cap:List PV) (hp:∀ x∈l,ACall Tryz.prog f (first++[ZJ x]++cap) (pb (p x))):ACall Tryz.prog 164 [.slc 10 (l.map ZJ) false,.fn (.func f) first cap] (pi (zlM l p)):=by
 refine zf zh Tryz.func164 rfl (by kernel_rfl) Tryz.ntmps164 (by simp) _ rfl (fun hw gB hgB=>?_)
 have hl:l.length≤9223372036854775807:=by have:=hw.1;simp [PV.lenOk,lensOk,maxLen] at this;exact this.1
 repeat' (first|refine sA ?_|refine sC (fun _=>?_) (fun _=>?_)|fail)
 refine zB (fun k:Nat=>[(0,.pv (.slc 10 (l.map ZJ) false)),(1,.pv (.fn (.func f) first cap)),(7,.pv (pi l.length)),(8,.pv (pi k))]) (fun _=>[]) (fun k=>k≤l.length∧∀ j (h:j < k) (h2:j < l.length),p l[j]=false) (fun k=>l.length - k) 0 ⟨by omega,fun j h=>by omega⟩ (tS) tH ?_
 rintro k ⟨hk,hno⟩
 by_cases hlt:k < l.length
 ·have he:=yc (f:=ZJ) hlt
  have c1:=hp _ (List.getElem_mem hlt)
  cases hpx:p l[k]
  ·rw [hpx] at c1
   repeat' (first|(refine shC ?_;first|refine qV (c1) ?_)|(refine shX ?_;first|refine qX he ?_)|refine sK ?_|refine sC (fun _=>?_) (fun _=>?_)|fail)
   exact ⟨k + 1,⟨hlt,fun j hj h2=>by
    by_cases e:j=k
    ·subst e;exact hpx
    ·exact hno j (by omega) h2⟩,tD,tS,tH⟩
  ·rw [hpx] at c1
   have hi:l.findIdx p=k:=by
    rw [List.findIdx_eq hlt]
    exact ⟨hpx,fun j hj=>hno j hj (by omega)⟩
   have ha:l.any p=true:=List.any_eq_true.2 ⟨_,List.getElem_mem hlt,hpx⟩
   repeat' (first|(refine shC ?_;first|refine qV (c1) ?_)|(refine shX ?_;first|refine qX he ?_)|refine sK ?_|refine sC (fun _=>?_) (fun _=>?_)|fail)
   exact retq rfl (by simp [zn,zlM,ha,hi])
 ·have ha:l.any p=false:=by
   rw [List.any_eq_false]
   intro x hx
   obtain ⟨j,hj,rfl⟩:=List.getElem_of_mem hx
   simp [hno j (by omega) hj]
  repeat' (first|refine sK ?_|refine sC (fun _=>?_) (fun _=>?_)|fail)
  exact retq rfl (by simp [zn,zlM,ha])
theorem zcK (l:List Cl) (p:Cl→Bool) (f:FuncId) (first cap:List PV) (hp:∀ x∈l,ACall Tryz.prog f (first++[ZJ x]++cap) (pb (p x))):ACall Tryz.prog 82 [.slc 10 (l.map ZJ) false,.fn (.func f) first cap] (pb (l.any p)):=by
 refine zf zh Tryz.func82 rfl (by kernel_rfl) Tryz.ntmps82 (by simp) _ rfl (fun hw gB hgB=>?_)
 have c1:=ze1 l p f first cap hp
 repeat' (first|(refine shC ?_;first|refine qC c1 ?_)|refine sA ?_|refine sC (fun _=>?_) (fun _=>?_)|fail)
 refine retq rfl ?_
 have:decide (0≤zlM l p)=l.any p:=by
  unfold zlM
  cases h:l.any p <;> simp
 simp [zn,this]
theorem zeB (t:Ty) (n:Int):ACall Tryz.prog 452 [yK t,.ptr (pi n) 0] (pb (!XY t 2 n)):=by
 refine zf zh Tryz.func452 rfl (by kernel_rfl) Tryz.ntmps452 (by simp) _ rfl (fun hw gB hgB=>?_)
 repeat' (first|(refine shC ?_;first|refine qC (zlm t n) ?_)|refine sA ?_|refine sC (fun _=>?_) (fun _=>?_)|fail)
 exact retq rfl rfl
theorem zkU (x:Ins) (g:Img) (m:Me) (hx:zd0 x):ACall Tryz.prog 456 [yR x,.ptr (zx g) 0,.ptr (zG m) 0] (pb (!codeOk g m x)):=by
 refine zf zh Tryz.func456 rfl (by kernel_rfl) Tryz.ntmps456 (by simp) _ rfl (fun hw gB hgB=>?_)
 have c1:=zof x g m hx
 rw [show m.code.length=(m.code.map yR).length by simp] at c1
 repeat' (first|(refine shC ?_;first|refine qC c1 ?_)|refine sA ?_|refine sC (fun _=>?_) (fun _=>?_)|fail)
 exact retq rfl rfl
theorem zka (c:Cl) (g:Img):ACall Tryz.prog 458 [ZJ c,.ptr (pi (g.types.length:Nat)) 0] (pb (!QX g c)):=by
 refine zf zh Tryz.func458 rfl (by kernel_rfl) Tryz.ntmps458 (by simp) _ rfl (fun hw gB hgB=>?_)
 repeat' (first|(refine shC ?_;first|refine qC (zjO c g) ?_)|refine sA ?_|refine sC (fun _=>?_) (fun _=>?_)|fail)
 exact retq rfl rfl
set_option maxHeartbeats 4000000 in
theorem zjF (m:Me) (g:Img) (hx:∀ x∈m.code,zd0 x):ACall Tryz.prog 440 [zG m,zx g] (pb (ZU g m)):=by
 refine zf zh Tryz.func440 rfl (by kernel_rfl) Tryz.ntmps440 (by simp) _ rfl (fun hw gB hgB=>?_)
 have cP:=Yg m.params (fun t=>!XY t 2 ((g.types.map qU).length:Nat)) 452 [] [.ptr (pi ((g.types.map qU).length:Nat)) 0] (fun t _=>zeB t _)
 have cL:=Yg m.locals (fun t=>!XY t 2 ((g.types.map qU).length:Nat)) 452 [] [.ptr (pi ((g.types.map qU).length:Nat)) 0] (fun t _=>zeB t _)
 have cC:=zbO m.code (fun x=>!codeOk g m x) 456 [] [.ptr (zx g) 0,.ptr (zG m) 0] (fun x h=>zkU x g m (hx x h))
 have cK:=zcK m.clauses (fun c=>!QX g c) 458 [] [.ptr (pi ((g.types.map qU).length:Nat)) 0] (fun c _=>by have:=zka c g;rwa [show g.types.length=(g.types.map qU).length by simp] at this)
 have cR:=zki ((m.code.map yR).length:Nat) m.clauses
 rw [←List.not_all_eq_any_not] at cP cL cC cK
 have hfm:ZU g m=(zaR m.name&&decide (0≤m.flags)&&decide (m.flags≤31)&&decide (0≤m.max)&&decide (m.max≤12)&&decide ((((m.params.map yK).length:Nat):Int)≤6)&&decide ((((m.locals.map yK).length:Nat):Int)≤12)&&XY m.ret 3 ((g.types.map qU).length:Nat)
   && (m.params.all fun t=>XY t 2 ((g.types.map qU).length:Nat))&&(m.locals.all fun t=>XY t 2 ((g.types.map qU).length:Nat))&&(decide ((((m.code.map yR).length:Nat):Int)≤160)&&m.code.all (codeOk g m)&&m.clauses.all (QX g)&&((YG ((m.code.map yR).length:Nat) m.clauses).2==0))):=by
  simp only [ZU,za5,zgt,List.length_map]
 generalize (m.params.all fun t=>XY t 2 ((g.types.map qU).length:Nat))=bP at cP hfm
 generalize (m.locals.all fun t=>XY t 2 ((g.types.map qU).length:Nat))=bL at cL hfm
 generalize m.code.all (codeOk g m)=bC at cC hfm
 generalize m.clauses.all (QX g)=bK at cK hfm
 repeat' (first|refine zau (t:=5) rfl rfl rfl ?_|(refine shC ?_;first|refine qC (zda _) ?_|refine qC (zkw m.ret _) ?_|refine qC cP ?_|refine qC cL ?_|refine qC cC ?_|refine qC cK ?_|refine qC cR ?_)|refine sA ?_|refine sC (fun _=>?_) (fun _=>?_)|fail)
 all_goals (refine retq rfl ?_;rw [hfm];first|(simp_all [zn];done)|(simp_all [zn];omega))
set_option maxHeartbeats 20000000
def zeF (g:Img) (k:Nat):Int:=if k=0 then 0 else (g.fields.getD (k - 1) default).owner
def zdV (g:Img):Bool:=(List.range g.fields.length).all (zhX g)&&decide (((g.fields.map ZI).length:Nat)≤(64:Int))
theorem znF {g:Img} {k:Nat} (h:k < g.fields.length):zeF g (k + 1)=g.fields[k].owner:=by
 rw [zeF,if_neg (by omega),Nat.add_sub_cancel,zM h]
theorem znQ {g:Img} {k:Nat} (h:k < g.fields.length) (hl:0≤zeF g k):zhX g k=(zaR g.fields[k].name&&!decide (g.fields[k].owner < zeF g k)&&!decide ((((g.types.map qU).length:Nat):Int)≤g.fields[k].owner)&&XY g.fields[k].ty 1 ((g.types.map qU).length:Nat)):=by
 rw [zhX]
 simp only [zM h,List.length_map]
 generalize zaR g.fields[k].name=bf
 generalize XY g.fields[k].ty 1 g.types.length=bm
 unfold zeF at hl ⊢
 by_cases hk:k=0
 ·subst hk
  rw [Bool.eq_iff_iff];simp
 ·have e:(k==0)=false:=by simp [hk]
  rw [if_neg hk] at hl ⊢
  rw [e,Bool.eq_iff_iff]
  simp only [List.getD_eq_getElem?_getD] at hl ⊢
  simp
  intro _
  constructor
  ·rintro ⟨⟨⟨a,b⟩,c⟩,d⟩;exact ⟨⟨a,d⟩,c⟩
  ·rintro ⟨⟨a,d⟩,c⟩;exact ⟨⟨⟨a,by omega⟩,c⟩,d⟩
theorem zjQ (g:Img):ACall Tryz.prog 413 [zx g] (pb (zdV g)):=by
 refine zf zh Tryz.func413 rfl (by kernel_rfl) Tryz.ntmps413 (by simp) _ rfl (fun hw gB hgB=>?_)
 have hlen:=(zpu hw.1).2.1
 repeat' (first|refine sA ?_|refine sC (fun _=>?_) (fun _=>?_)|fail)
 refine zB (fun k:Nat=>[(1,.pv (.ptr (zx g) 0)),(3,.pv (pi (zeF g k))),(7,.pv (.slc 7 (g.fields.map ZI) false)),(8,.pv (pi g.fields.length)),(9,.pv (pi k))]) (fun _=>[]) (fun k=>k≤g.fields.length∧0≤zeF g k∧zdV g=(((List.range g.fields.length).drop k).all (zhX g)&&decide (((g.fields.map ZI).length:Nat)≤(64:Int)))) (fun k=>g.fields.length - k) 0 ⟨by omega,by simp [zeF],rfl⟩ (tS) tH ?_
 rintro k ⟨hk,hl0,hr⟩
 by_cases hlt:k < g.fields.length
 ·have he:=yc (f:=ZI) hlt
  have hls:=znF hlt
  rw [QM hlt,znQ hlt hl0] at hr
  generalize g.fields[k]=f at he hr hls
  generalize hL:zeF g k=L at hr hl0
  repeat' (first|(refine shC ?_;first|refine qC (zda _) ?_|refine qC (zb4 _ _) ?_)|(refine shX ?_;first|refine qX he ?_)|refine sK ?_|refine sC (fun _=>?_) (fun _=>?_)|fail)
  all_goals first
   | (refine retq rfl ?_;rw [hr];simp_all [zn];done)
   | (refine ⟨k + 1,⟨hlt,by rw [hls];simp_all;omega,by rw [hr,Bool.eq_iff_iff];simp_all⟩,tD,by repeat (first|exact yu|refine zY rfl ?_|(refine qK rfl ?_ ?_;· (first|exact hls.symm|(rw [wrap_in (by omega) (by omega)] <;> omega)))),tH⟩)
 ·rw [drop_end (by simp;omega)] at hr
  repeat' (first|refine sK ?_|refine sC (fun _=>?_) (fun _=>?_)|fail)
  exact retq rfl (by rw [hr];simp [zn])
def zdK (g:Img) (k:Nat):Int:=if k=0 then 0 else (g.methods.getD (k - 1) default).owner
def zbV (g:Img):Bool:=(List.range g.methods.length).all (zgH g)&&decide (((g.methods.map zG).length:Nat)≤(64:Int))
theorem zog {g:Img} {k:Nat} (h:k < g.methods.length):zdK g (k + 1)=g.methods[k].owner:=by
 rw [zdK,if_neg (by omega),Nat.add_sub_cancel,zM h]
theorem znz {g:Img} {k:Nat} (h:k < g.methods.length) (hl:0≤zdK g k):zgH g k=(!decide (g.methods[k].owner < zdK g k)&&!decide ((((g.types.map qU).length:Nat):Int)≤g.methods[k].owner)&&ZU g g.methods[k]):=by
 rw [zgH]
 simp only [zM h,List.length_map]
 generalize ZU g g.methods[k]=bm
 unfold zdK at hl ⊢
 by_cases hk:k=0
 ·subst hk
  rw [Bool.eq_iff_iff];simp
 ·have e:(k==0)=false:=by simp [hk]
  rw [if_neg hk] at hl ⊢
  rw [e,Bool.eq_iff_iff]
  simp only [List.getD_eq_getElem?_getD] at hl ⊢
  simp
  intro _
  constructor
  ·rintro ⟨⟨a,b⟩,d⟩;exact ⟨d,b⟩
  ·rintro ⟨d,c⟩;exact ⟨⟨by omega,c⟩,d⟩
theorem ziu (g:Img) (hx:∀ m∈g.methods,∀ x∈m.code,zd0 x):ACall Tryz.prog 414 [zx g] (pb (zbV g)):=by
 refine zf zh Tryz.func414 rfl (by kernel_rfl) Tryz.ntmps414 (by simp) _ rfl (fun hw gB hgB=>?_)
 have hlen:=(zpu hw.1).2.2
 repeat' (first|refine sA ?_|refine sC (fun _=>?_) (fun _=>?_)|fail)
 refine zB (fun k:Nat=>[(1,.pv (.ptr (zx g) 0)),(3,.pv (pi (zdK g k))),(7,.pv (.slc 12 (g.methods.map zG) false)),(8,.pv (pi g.methods.length)),(9,.pv (pi k))]) (fun _=>[]) (fun k=>k≤g.methods.length∧0≤zdK g k∧zbV g=(((List.range g.methods.length).drop k).all (zgH g)&&decide (((g.methods.map zG).length:Nat)≤(64:Int)))) (fun k=>g.methods.length - k) 0 ⟨by omega,by simp [zdK],rfl⟩ (tS) tH ?_
 rintro k ⟨hk,hl0,hr⟩
 by_cases hlt:k < g.methods.length
 ·have he:=yc (f:=zG) hlt
  have hls:=zog hlt
  have cm:=zjF g.methods[k] g (hx _ (List.getElem_mem hlt))
  rw [QM hlt,znz hlt hl0] at hr
  generalize g.methods[k]=f at he hr hls cm
  generalize hL:zdK g k=L at hr hl0
  repeat' (first|(refine shC ?_;first|refine qC cm ?_)|(refine shX ?_;first|refine qX he ?_)|refine sK ?_|refine sC (fun _=>?_) (fun _=>?_)|fail)
  all_goals first
   | (refine retq rfl ?_;rw [hr];simp_all [zn];done)
   | (refine ⟨k + 1,⟨hlt,by rw [hls];simp_all;omega,by rw [hr,Bool.eq_iff_iff];simp_all⟩,tD,by repeat (first|exact yu|refine zY rfl ?_|(refine qK rfl ?_ ?_;· (first|exact hls.symm|(rw [wrap_in (by omega) (by omega)] <;> omega)))),tH⟩)
 ·rw [drop_end (by simp;omega)] at hr
  repeat' (first|refine sK ?_|refine sC (fun _=>?_) (fun _=>?_)|fail)
  exact retq rfl (by rw [hr];simp [zn])
theorem zkE (g:Img) (hx:∀ m∈g.methods,∀ x∈m.code,zd0 x):ACall Tryz.prog 398 [zx g] (pb (zV g)):=by
 refine zf zh Tryz.func398 rfl (by kernel_rfl) Tryz.ntmps398 (by simp) _ rfl (fun hw gB hgB=>?_)
 have c1:=zoq g
 have c2:=zjQ g
 have c3:=ziu g hx
 have hfm:zV g=(Wj g&&zdV g&&zbV g&&decide (-1≤g.entry)&&decide (g.entry < ((g.methods.map zG).length:Nat))):=by
  rw [zV,Wj,zdV,zbV,Bool.eq_iff_iff]
  simp only [List.length_map,Bool.and_eq_true]
  constructor <;> (intro h;simp only [h,and_self])
 generalize Wj g=b1 at c1 hfm
 generalize zdV g=b2 at c2 hfm
 generalize zbV g=b3 at c3 hfm
 repeat' (first|(refine shC ?_;first|refine qC c1 ?_|refine qC c2 ?_|refine qC c3 ?_)|refine sA ?_|refine sC (fun _=>?_) (fun _=>?_)|fail)
 all_goals (refine retq rfl ?_;rw [hfm];first|(simp_all [zn];done)|(simp_all [zn];omega))
end Go.Cg
