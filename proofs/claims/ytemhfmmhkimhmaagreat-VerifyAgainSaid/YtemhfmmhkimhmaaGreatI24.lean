/- A part of the walks by abstract values: no statement of its own. -/
import Derived.Test.YtemhfmmhkimhmaaGreatI23
set_option linter.unusedVariables false
set_option linter.unusedSimpArgs false
namespace Go.Cg
open Go.Proofs
set_option maxHeartbeats 20000000
theorem zsA (t:Ty) (h:ZQ t 1=true):∃ bs:List Int,ACall Tryz.prog 283 [zkY [6],yI t] (u8s bs):=by
 obtain ⟨k,i,d,r⟩:=t;have hr:r=false:=by
  cases r with
  | false=>rfl
  | true=>simp [ZQ] at h
 subst hr;have hp:ZV ⟨k,i,d,false⟩=true/\k≠1:=by
  simp only [ZQ] at h;cases hp:ZV ⟨k,i,d,false⟩ with
  | false=>rw [hp] at h;simp at h
  | true=>rw [hp] at h;simp at h;exact ⟨rfl,h⟩
 obtain ⟨hp,hk1⟩:=hp;simp only [ZV] at hp;split at hp
 ·simp at hp
 ·rename_i hb;simp at hb;have hd:d=0\/d=1\/d=2\/d=3:=by omega
  by_cases h2:k=2
  ·exact ⟨_,zgy k 8 i d (.inl ⟨h2,rfl⟩) hd⟩
  ·by_cases h3:k=3
   ·exact ⟨_,zgy k 10 i d (.inr (.inl ⟨h3,rfl⟩)) hd⟩
   ·by_cases h4:k=4
    ·exact ⟨_,zgy k 28 i d (.inr (.inr ⟨h4,rfl⟩)) hd⟩
    ·by_cases h5:k=5
     ·exact zke k 18 i d (.inl ⟨h5,rfl⟩) zwy62 (by simp [h5] at hp;omega) hd
     ·by_cases h6:k=6
      ·exact zke k 17 i d (.inr ⟨h6,rfl⟩) zwy62 (by simp [h6] at hp;omega) hd
      ·by_cases h7:k=7
       ·subst h7;exact zsF i d zwy62 (by simp at hp;omega) hd
       ·simp [hk1,h2,h3,h4,h5,h6,h7] at hp
theorem zfT (t:Ty) (h:ZQ t 1=false):ACall Tryz.prog 267 [yI t] (.tup [.base (.slice none 0 0),pi 17]):=by
 refine zh zf Tryz.func267 rfl zws Tryz.ntmps267 zwy63 _ rfl (fun hw gB hgB=>?_);have c1:=zhg t;rw [h] at c1
 repeat' (first|(refine shC ?_;first|refine qC c1 ?_)|refine sA ?_|refine sC (fun _=>?_) (fun _=>?_)|fail)
 exact retq rfl rfl
theorem zjS (t:Ty) (h:ZQ t 1=true):∃ bs:List Int,ACall Tryz.prog 267 [yI t] (.tup [u8s bs,pi 0]):=by
 obtain ⟨bs,cp⟩:=zsA t h;refine ⟨bs,?_⟩;refine zh zf Tryz.func267 rfl zws Tryz.ntmps267 zwy63 _ rfl (fun hw gB hgB=>?_);have c1:=zhg t;rw [h] at c1
 repeat' (first|(refine shC ?_;first|refine qC c1 ?_|refine qC cp ?_)|refine sA ?_|refine sC (fun _=>?_) (fun _=>?_)|fail)
 exact retq rfl rfl
theorem zdh (t:Ty) (n:Int):ACall Tryz.prog 253 [yI t,pi n] (pb (Xv t 1 n)):=by
 refine zh zf Tryz.func253 rfl zws Tryz.ntmps253 zwy63 _ rfl (fun hw gB hgB=>?_);cases h:ZQ t 1
 ·repeat' (first|(refine shC ?_;first|refine qC (zfT t h) ?_|refine qC (zcf t n) ?_)|refine sA ?_|refine sC (fun _=>?_) (fun _=>?_)|fail)
  all_goals (refine ak ?_;simp_all [zn,Xv];done)
 ·obtain ⟨bs,cp⟩:=zjS t h
  repeat' (first|(refine shC ?_;first|refine qC cp ?_|refine qC (zcf t n) ?_)|refine sA ?_|refine sC (fun _=>?_) (fun _=>?_)|fail)
  all_goals (refine ak ?_;simp_all [zn,Xv];done)
theorem zlf (c:Cl) (g:Img):ACall Tryz.prog 276 [qR c,pi (g.types.length:Nat)] (pb (Zo g c)):=by
 refine zh zf Tryz.func276 rfl zws Tryz.ntmps276 zwy63 _ rfl (fun hw gB hgB=>?_);by_cases hk:c.kind=1
 ·have hb:(c.kind != 1)=false:=by simp [hk]
  repeat' (first|(refine shC ?_;first|refine qC (zdh _ _) ?_)|refine sK ?_|refine sC (fun _=>?_) (fun _=>?_)|fail)
  exact retq rfl (by simp [zn,Zo,hk])
 ·have hb:(c.kind != 1)=true:=by simp [hk]
  repeat' (first|(refine shC ?_;first|refine qC (zdh _ _) ?_)|refine sK ?_|refine sC (fun _=>?_) (fun _=>?_)|fail)
  have h1:(c.kind==1)=false:=by simp [hk]
  exact retq rfl (by simp only [zn,Zo,h1,hb,zbl];simp)
set_option maxHeartbeats 20000000
def zn6 (l:List Ty) (p:Ty->Bool):Int:=if l.any p then ((l.findIdx p:Nat):Int) else -1
theorem zf9 (l:List Ty) (p:Ty->Bool) (f:FuncId) (first cap:List PV) (hp:∀ x∈l,ACall Tryz.prog f (first++[yI x]++cap) (pb (p x))):ACall Tryz.prog 106 [.slc 4 (l.map yI) false,.fn (.func f) first cap] (pi (zn6 l p)):=by
 refine zh zf Tryz.func106 rfl zws Tryz.ntmps106 zwy63 _ rfl (fun hw gB hgB=>?_);have hl:l.length<=9223372036854775807:=by have:=hw.1;simp [PV.lenOk,lensOk,maxLen] at this;exact this.1
 repeat' (first|refine sA ?_|refine sC (fun _=>?_) (fun _=>?_)|fail)
 refine zL (fun k:Nat=>[(0,.pv (.slc 4 (l.map yI) false)),(1,.pv (.fn (.func f) first cap)),(7,.pv (pi l.length)),(8,.pv (pi k))]) (fun _=>[]) (fun k=>k<=l.length/\∀ j (h:j < k) (h2:j < l.length),p l[j]=false) (fun k=>l.length - k) 0 ⟨by omega,fun j h=>by omega⟩ (tS) tH ?_;rintro k ⟨hk,hno⟩;by_cases hlt:k < l.length
 ·have he:=zS (f:=yI) hlt;have c1:=hp _ (List.getElem_mem hlt);cases hpx:p l[k]
  ·rw [hpx] at c1
   repeat' (first|(refine shC ?_;first|refine qV (c1) ?_)|(refine shX ?_;first|refine qX he ?_)|refine sK ?_|refine sC (fun _=>?_) (fun _=>?_)|fail)
   exact ⟨k + 1,⟨hlt,fun j hj h2=>by
    by_cases e:j=k
    ·subst e;exact hpx
    ·exact hno j zwy62 h2⟩,tD,tS,tH⟩
  ·rw [hpx] at c1;have hi:l.findIdx p=k:=by
    rw [List.findIdx_eq hlt];exact ⟨hpx,fun j hj=>hno j hj zwy62⟩
   have ha:l.any p=true:=List.any_eq_true.2 ⟨_,List.getElem_mem hlt,hpx⟩
   repeat' (first|(refine shC ?_;first|refine qV (c1) ?_)|(refine shX ?_;first|refine qX he ?_)|refine sK ?_|refine sC (fun _=>?_) (fun _=>?_)|fail)
   exact retq rfl (by simp [zn,zn6,ha,hi])
 ·have ha:l.any p=false:=by
   rw [List.any_eq_false];intro x hx;obtain ⟨j,hj,rfl⟩:=List.getElem_of_mem hx;simp [hno j zwy62 hj]
  repeat' (first|refine sK ?_|refine sC (fun _=>?_) (fun _=>?_)|fail)
  exact retq rfl (by simp [zn,zn6,ha])
theorem Qk (l:List Ty) (p:Ty->Bool) (f:FuncId) (first cap:List PV) (hp:∀ x∈l,ACall Tryz.prog f (first++[yI x]++cap) (pb (p x))):ACall Tryz.prog 68 [.slc 4 (l.map yI) false,.fn (.func f) first cap] (pb (l.any p)):=by
 refine zh zf Tryz.func68 rfl zws Tryz.ntmps68 zwy63 _ rfl (fun hw gB hgB=>?_);have c1:=zf9 l p f first cap hp
 repeat' (first|(refine shC ?_;first|refine qC c1 ?_)|refine sA ?_|refine sC (fun _=>?_) (fun _=>?_)|fail)
 refine ak ?_;have:decide (0<=zn6 l p)=l.any p:=by
  unfold zn6;cases h:l.any p <;> simp
 simp [zn,this]
def zjv (l:List Ins) (p:Ins->Bool):Int:=if l.any p then ((l.findIdx p:Nat):Int) else -1
theorem zfM (l:List Ins) (p:Ins->Bool) (f:FuncId) (first cap:List PV) (hp:∀ x∈l,ACall Tryz.prog f (first++[yM x]++cap) (pb (p x))):ACall Tryz.prog 284 [.slc 6 (l.map yM) false,.fn (.func f) first cap] (pi (zjv l p)):=by
 refine zh zf Tryz.func284 rfl zws Tryz.ntmps284 zwy63 _ rfl (fun hw gB hgB=>?_);have hl:l.length<=9223372036854775807:=by have:=hw.1;simp [PV.lenOk,lensOk,maxLen] at this;exact this.1
 repeat' (first|refine sA ?_|refine sC (fun _=>?_) (fun _=>?_)|fail)
 refine zL (fun k:Nat=>[(0,.pv (.slc 6 (l.map yM) false)),(1,.pv (.fn (.func f) first cap)),(7,.pv (pi l.length)),(8,.pv (pi k))]) (fun _=>[]) (fun k=>k<=l.length/\∀ j (h:j < k) (h2:j < l.length),p l[j]=false) (fun k=>l.length - k) 0 ⟨by omega,fun j h=>by omega⟩ (tS) tH ?_;rintro k ⟨hk,hno⟩;by_cases hlt:k < l.length
 ·have he:=zS (f:=yM) hlt;have c1:=hp _ (List.getElem_mem hlt);cases hpx:p l[k]
  ·rw [hpx] at c1
   repeat' (first|(refine shC ?_;first|refine qV (c1) ?_)|(refine shX ?_;first|refine qX he ?_)|refine sK ?_|refine sC (fun _=>?_) (fun _=>?_)|fail)
   exact ⟨k + 1,⟨hlt,fun j hj h2=>by
    by_cases e:j=k
    ·subst e;exact hpx
    ·exact hno j zwy62 h2⟩,tD,tS,tH⟩
  ·rw [hpx] at c1;have hi:l.findIdx p=k:=by
    rw [List.findIdx_eq hlt];exact ⟨hpx,fun j hj=>hno j hj zwy62⟩
   have ha:l.any p=true:=List.any_eq_true.2 ⟨_,List.getElem_mem hlt,hpx⟩
   repeat' (first|(refine shC ?_;first|refine qV (c1) ?_)|(refine shX ?_;first|refine qX he ?_)|refine sK ?_|refine sC (fun _=>?_) (fun _=>?_)|fail)
   exact retq rfl (by simp [zn,zjv,ha,hi])
 ·have ha:l.any p=false:=by
   rw [List.any_eq_false];intro x hx;obtain ⟨j,hj,rfl⟩:=List.getElem_of_mem hx;simp [hno j zwy62 hj]
  repeat' (first|refine sK ?_|refine sC (fun _=>?_) (fun _=>?_)|fail)
  exact retq rfl (by simp [zn,zjv,ha])
theorem zdp (l:List Ins) (p:Ins->Bool) (f:FuncId) (first cap:List PV) (hp:∀ x∈l,ACall Tryz.prog f (first++[yM x]++cap) (pb (p x))):ACall Tryz.prog 272 [.slc 6 (l.map yM) false,.fn (.func f) first cap] (pb (l.any p)):=by
 refine zh zf Tryz.func272 rfl zws Tryz.ntmps272 zwy63 _ rfl (fun hw gB hgB=>?_);have c1:=zfM l p f first cap hp
 repeat' (first|(refine shC ?_;first|refine qC c1 ?_)|refine sA ?_|refine sC (fun _=>?_) (fun _=>?_)|fail)
 refine ak ?_;have:decide (0<=zjv l p)=l.any p:=by
  unfold zjv;cases h:l.any p <;> simp
 simp [zn,this]
def zof (l:List Cl) (p:Cl->Bool):Int:=if l.any p then ((l.findIdx p:Nat):Int) else -1
theorem zga (l:List Cl) (p:Cl->Bool) (f:FuncId) (first cap:List PV) (hp:∀ x∈l,ACall Tryz.prog f (first++[qR x]++cap) (pb (p x))):ACall Tryz.prog 187 [.slc 10 (l.map qR) false,.fn (.func f) first cap] (pi (zof l p)):=by
 refine zh zf Tryz.func187 rfl zws Tryz.ntmps187 zwy63 _ rfl (fun hw gB hgB=>?_);have hl:l.length<=9223372036854775807:=by have:=hw.1;simp [PV.lenOk,lensOk,maxLen] at this;exact this.1
 repeat' (first|refine sA ?_|refine sC (fun _=>?_) (fun _=>?_)|fail)
 refine zL (fun k:Nat=>[(0,.pv (.slc 10 (l.map qR) false)),(1,.pv (.fn (.func f) first cap)),(7,.pv (pi l.length)),(8,.pv (pi k))]) (fun _=>[]) (fun k=>k<=l.length/\∀ j (h:j < k) (h2:j < l.length),p l[j]=false) (fun k=>l.length - k) 0 ⟨by omega,fun j h=>by omega⟩ (tS) tH ?_;rintro k ⟨hk,hno⟩;by_cases hlt:k < l.length
 ·have he:=zS (f:=qR) hlt;have c1:=hp _ (List.getElem_mem hlt);cases hpx:p l[k]
  ·rw [hpx] at c1
   repeat' (first|(refine shC ?_;first|refine qV (c1) ?_)|(refine shX ?_;first|refine qX he ?_)|refine sK ?_|refine sC (fun _=>?_) (fun _=>?_)|fail)
   exact ⟨k + 1,⟨hlt,fun j hj h2=>by
    by_cases e:j=k
    ·subst e;exact hpx
    ·exact hno j zwy62 h2⟩,tD,tS,tH⟩
  ·rw [hpx] at c1;have hi:l.findIdx p=k:=by
    rw [List.findIdx_eq hlt];exact ⟨hpx,fun j hj=>hno j hj zwy62⟩
   have ha:l.any p=true:=List.any_eq_true.2 ⟨_,List.getElem_mem hlt,hpx⟩
   repeat' (first|(refine shC ?_;first|refine qV (c1) ?_)|(refine shX ?_;first|refine qX he ?_)|refine sK ?_|refine sC (fun _=>?_) (fun _=>?_)|fail)
   exact retq rfl (by simp [zn,zof,ha,hi])
 ·have ha:l.any p=false:=by
   rw [List.any_eq_false];intro x hx;obtain ⟨j,hj,rfl⟩:=List.getElem_of_mem hx;simp [hno j zwy62 hj]
  repeat' (first|refine sK ?_|refine sC (fun _=>?_) (fun _=>?_)|fail)
  exact retq rfl (by simp [zn,zof,ha])
theorem zd9 (l:List Cl) (p:Cl->Bool) (f:FuncId) (first cap:List PV) (hp:∀ x∈l,ACall Tryz.prog f (first++[qR x]++cap) (pb (p x))):ACall Tryz.prog 135 [.slc 10 (l.map qR) false,.fn (.func f) first cap] (pb (l.any p)):=by
 refine zh zf Tryz.func135 rfl zws Tryz.ntmps135 zwy63 _ rfl (fun hw gB hgB=>?_);have c1:=zga l p f first cap hp
 repeat' (first|(refine shC ?_;first|refine qC c1 ?_)|refine sA ?_|refine sC (fun _=>?_) (fun _=>?_)|fail)
 refine ak ?_;have:decide (0<=zof l p)=l.any p:=by
  unfold zof;cases h:l.any p <;> simp
 simp [zn,this]
theorem zfn (t:Ty) (n:Int):ACall Tryz.prog 269 [yI t,.ptr (pi n) 0] (pb (!Xv t 2 n)):=by
 refine zh zf Tryz.func269 rfl zws Tryz.ntmps269 zwy63 _ rfl (fun hw gB hgB=>?_)
 repeat' (first|(refine shC ?_;first|refine qC (zmC t n) ?_)|refine sA ?_|refine sC (fun _=>?_) (fun _=>?_)|fail)
 exact retq rfl rfl
theorem zlI (x:Ins) (g:Img) (m:Me) (hx:zda x):ACall Tryz.prog 273 [yM x,.ptr (zK g) 0,.ptr (zY m) 0] (pb (!codeOk g m x)):=by
 refine zh zf Tryz.func273 rfl zws Tryz.ntmps273 zwy63 _ rfl (fun hw gB hgB=>?_);have c1:=zpg x g m hx;rw [show m.code.length=(m.code.map yM).length by simp] at c1
 repeat' (first|(refine shC ?_;first|refine qC c1 ?_)|refine sA ?_|refine sC (fun _=>?_) (fun _=>?_)|fail)
 exact retq rfl rfl
theorem zk2 (c:Cl) (g:Img):ACall Tryz.prog 275 [qR c,.ptr (pi (g.types.length:Nat)) 0] (pb (!Zo g c)):=by
 refine zh zf Tryz.func275 rfl zws Tryz.ntmps275 zwy63 _ rfl (fun hw gB hgB=>?_)
 repeat' (first|(refine shC ?_;first|refine qC (zlf c g) ?_)|refine sA ?_|refine sC (fun _=>?_) (fun _=>?_)|fail)
 exact retq rfl rfl
set_option maxHeartbeats 4000000 in
theorem zlV (m:Me) (g:Img) (hx:∀ x∈m.code,zda x):ACall Tryz.prog 254 [zY m,zK g] (pb (yX g m)):=by
 refine zh zf Tryz.func254 rfl zws Tryz.ntmps254 zwy63 _ rfl (fun hw gB hgB=>?_);have cP:=Qk m.params (fun t=>!Xv t 2 ((g.types.map Zw).length:Nat)) 269 [] [.ptr (pi ((g.types.map Zw).length:Nat)) 0] (fun t _=>zfn t _);have cL:=Qk m.locals (fun t=>!Xv t 2 ((g.types.map Zw).length:Nat)) 269 [] [.ptr (pi ((g.types.map Zw).length:Nat)) 0] (fun t _=>zfn t _);have cC:=zdp m.code (fun x=>!codeOk g m x) 273 [] [.ptr (zK g) 0,.ptr (zY m) 0] (fun x h=>zlI x g m (hx x h));have cK:=zd9 m.clauses (fun c=>!Zo g c) 275 [] [.ptr (pi ((g.types.map Zw).length:Nat)) 0] (fun c _=>by have:=zk2 c g;rwa [show g.types.length=(g.types.map Zw).length by simp] at this);have cR:=zlZ ((m.code.map yM).length:Nat) m.clauses;rw [<-List.not_all_eq_any_not] at cP cL cC cK;have hfm:yX g m=(zal m.name&&decide (0<=m.flags)&&decide (m.flags<=31)&&decide (0<=m.max)&&decide (m.max<=12)&&decide ((((m.params.map yI).length:Nat):Int)<=6)&&decide ((((m.locals.map yI).length:Nat):Int)<=12)&&Xv m.ret 3 ((g.types.map Zw).length:Nat)
   && (m.params.all fun t=>Xv t 2 ((g.types.map Zw).length:Nat))&&(m.locals.all fun t=>Xv t 2 ((g.types.map Zw).length:Nat))&&(decide ((((m.code.map yM).length:Nat):Int)<=160)&&m.code.all (codeOk g m)&&m.clauses.all (Zo g)&&((Zu ((m.code.map yM).length:Nat) m.clauses).2==0))):=by
  simp only [yX,Zv,XZ,List.length_map]
 generalize (m.params.all fun t=>Xv t 2 ((g.types.map Zw).length:Nat))=bP at cP hfm;generalize (m.locals.all fun t=>Xv t 2 ((g.types.map Zw).length:Nat))=bL at cL hfm;generalize m.code.all (codeOk g m)=bC at cC hfm;generalize m.clauses.all (Zo g)=bK at cK hfm
 repeat' (first|refine zb6 (t:=5) rfl rfl rfl ?_|(refine shC ?_;first|refine qC (zeN _) ?_|refine qC (zkR m.ret _) ?_|refine qC cP ?_|refine qC cL ?_|refine qC cC ?_|refine qC cK ?_|refine qC cR ?_)|refine sA ?_|refine sC (fun _=>?_) (fun _=>?_)|fail)
 all_goals (refine ak ?_;rw [hfm];first|(simp_all [zn];done)|(simp_all [zn];omega))
set_option maxHeartbeats 20000000
def zfl (g:Img) (k:Nat):Int:=if k=0 then 0 else (g.fields.getD (k - 1) default).owner
def zfN (g:Img):Bool:=(List.range g.fields.length).all (zcU g)&&decide (((g.fields.map ZI).length:Nat)<=(64:Int))
theorem zoR {g:Img} {k:Nat} (h:k < g.fields.length):zfl g (k + 1)=g.fields[k].owner:=by
 rw [zfl,if_neg zwy62,Nat.add_sub_cancel,zQ h]
theorem zpH {g:Img} {k:Nat} (h:k < g.fields.length) (hl:0<=zfl g k):zcU g k=(zal g.fields[k].name&&!decide (g.fields[k].owner < zfl g k)&&!decide ((((g.types.map Zw).length:Nat):Int)<=g.fields[k].owner)&&Xv g.fields[k].ty 1 ((g.types.map Zw).length:Nat)):=by
 rw [zcU];simp only [zQ h,List.length_map];generalize zal g.fields[k].name=bf;generalize Xv g.fields[k].ty 1 g.types.length=bm;unfold zfl at hl ⊢;by_cases hk:k=0
 ·subst hk;rw [Bool.eq_iff_iff];simp
 ·have e:(k==0)=false:=by simp [hk]
  rw [if_neg hk] at hl ⊢;rw [e,Bool.eq_iff_iff];simp only [List.getD_eq_getElem?_getD] at hl ⊢;simp;intro _;constructor
  ·rintro ⟨⟨⟨a,b⟩,c⟩,d⟩;exact ⟨⟨a,d⟩,c⟩
  ·rintro ⟨⟨a,d⟩,c⟩;exact ⟨⟨⟨a,by omega⟩,c⟩,d⟩
theorem zlk (g:Img):ACall Tryz.prog 223 [zK g] (pb (zfN g)):=by
 refine zh zf Tryz.func223 rfl zws Tryz.ntmps223 zwy63 _ rfl (fun hw gB hgB=>?_);have hlen:=(zlL hw.1).2.1
 repeat' (first|refine sA ?_|refine sC (fun _=>?_) (fun _=>?_)|fail)
 refine zL (fun k:Nat=>[(1,.pv (.ptr (zK g) 0)),(3,.pv (pi (zfl g k))),(7,.pv (.slc 7 (g.fields.map ZI) false)),(8,.pv (pi g.fields.length)),(9,.pv (pi k))]) (fun _=>[]) (fun k=>k<=g.fields.length/\0<=zfl g k/\zfN g=(((List.range g.fields.length).drop k).all (zcU g)&&decide (((g.fields.map ZI).length:Nat)<=(64:Int)))) (fun k=>g.fields.length - k) 0 ⟨by omega,by simp [zfl],rfl⟩ (tS) tH ?_;rintro k ⟨hk,hl0,hr⟩;by_cases hlt:k < g.fields.length
 ·have he:=zS (f:=ZI) hlt;have hls:=zoR hlt;rw [qM hlt,zpH hlt hl0] at hr;generalize g.fields[k]=f at he hr hls;generalize hL:zfl g k=L at hr hl0
  repeat' (first|(refine shC ?_;first|refine qC (zeN _) ?_|refine qC (zdh _ _) ?_)|(refine shX ?_;first|refine qX he ?_)|refine sK ?_|refine sC (fun _=>?_) (fun _=>?_)|fail)
  all_goals first
   | (refine ak ?_;rw [hr];simp_all [zn];done)
   | (refine ⟨k + 1,⟨hlt,by rw [hls];simp_all;omega,by rw [hr,Bool.eq_iff_iff];simp_all⟩,tD,by repeat (first|exact yO|refine yA rfl ?_|(refine qW rfl ?_ ?_;· (first|exact hls.symm|(rw [wrap_in zwy62 zwy62] <;> omega)))),tH⟩)
 ·rw [drop_end zwy64] at hr
  repeat' (first|refine sK ?_|refine sC (fun _=>?_) (fun _=>?_)|fail)
  exact retq rfl (by rw [hr];simp [zn])
def zfH (g:Img) (k:Nat):Int:=if k=0 then 0 else (g.methods.getD (k - 1) default).owner
def zdb (g:Img):Bool:=(List.range g.methods.length).all (zaX g)&&decide (((g.methods.map zY).length:Nat)<=(64:Int))
theorem zp2 {g:Img} {k:Nat} (h:k < g.methods.length):zfH g (k + 1)=g.methods[k].owner:=by
 rw [zfH,if_neg zwy62,Nat.add_sub_cancel,zQ h]
theorem zp4 {g:Img} {k:Nat} (h:k < g.methods.length) (hl:0<=zfH g k):zaX g k=(!decide (g.methods[k].owner < zfH g k)&&!decide ((((g.types.map Zw).length:Nat):Int)<=g.methods[k].owner)&&yX g g.methods[k]):=by
 rw [zaX];simp only [zQ h,List.length_map];generalize yX g g.methods[k]=bm;unfold zfH at hl ⊢;by_cases hk:k=0
 ·subst hk;rw [Bool.eq_iff_iff];simp
 ·have e:(k==0)=false:=by simp [hk]
  rw [if_neg hk] at hl ⊢;rw [e,Bool.eq_iff_iff];simp only [List.getD_eq_getElem?_getD] at hl ⊢;simp;intro _;constructor
  ·rintro ⟨⟨a,b⟩,d⟩;exact ⟨d,b⟩
  ·rintro ⟨d,c⟩;exact ⟨⟨by omega,c⟩,d⟩
theorem zjz (g:Img) (hx:∀ m∈g.methods,∀ x∈m.code,zda x):ACall Tryz.prog 224 [zK g] (pb (zdb g)):=by
 refine zh zf Tryz.func224 rfl zws Tryz.ntmps224 zwy63 _ rfl (fun hw gB hgB=>?_);have hlen:=(zlL hw.1).2.2
 repeat' (first|refine sA ?_|refine sC (fun _=>?_) (fun _=>?_)|fail)
 refine zL (fun k:Nat=>[(1,.pv (.ptr (zK g) 0)),(3,.pv (pi (zfH g k))),(7,.pv (.slc 12 (g.methods.map zY) false)),(8,.pv (pi g.methods.length)),(9,.pv (pi k))]) (fun _=>[]) (fun k=>k<=g.methods.length/\0<=zfH g k/\zdb g=(((List.range g.methods.length).drop k).all (zaX g)&&decide (((g.methods.map zY).length:Nat)<=(64:Int)))) (fun k=>g.methods.length - k) 0 ⟨by omega,by simp [zfH],rfl⟩ (tS) tH ?_;rintro k ⟨hk,hl0,hr⟩;by_cases hlt:k < g.methods.length
 ·have he:=zS (f:=zY) hlt;have hls:=zp2 hlt;have cm:=zlV g.methods[k] g (hx _ (List.getElem_mem hlt));rw [qM hlt,zp4 hlt hl0] at hr;generalize g.methods[k]=f at he hr hls cm;generalize hL:zfH g k=L at hr hl0
  repeat' (first|(refine shC ?_;first|refine qC cm ?_)|(refine shX ?_;first|refine qX he ?_)|refine sK ?_|refine sC (fun _=>?_) (fun _=>?_)|fail)
  all_goals first
   | (refine ak ?_;rw [hr];simp_all [zn];done)
   | (refine ⟨k + 1,⟨hlt,by rw [hls];simp_all;omega,by rw [hr,Bool.eq_iff_iff];simp_all⟩,tD,by repeat (first|exact yO|refine yA rfl ?_|(refine qW rfl ?_ ?_;· (first|exact hls.symm|(rw [wrap_in zwy62 zwy62] <;> omega)))),tH⟩)
 ·rw [drop_end zwy64] at hr
  repeat' (first|refine sK ?_|refine sC (fun _=>?_) (fun _=>?_)|fail)
  exact retq rfl (by rw [hr];simp [zn])
theorem zlg (g:Img) (hx:∀ m∈g.methods,∀ x∈m.code,zda x):ACall Tryz.prog 198 [zK g] (pb (yh g)):=by
 refine zh zf Tryz.func198 rfl zws Tryz.ntmps198 zwy63 _ rfl (fun hw gB hgB=>?_);have c1:=zp7 g;have c2:=zlk g;have c3:=zjz g hx;have hfm:yh g=(zae g&&zfN g&&zdb g&&decide (-1<=g.entry)&&decide (g.entry < ((g.methods.map zY).length:Nat))):=by
  rw [yh,zae,zfN,zdb,Bool.eq_iff_iff];simp only [List.length_map,Bool.and_eq_true];constructor <;> (intro h;simp only [h,and_self])
 generalize zae g=b1 at c1 hfm;generalize zfN g=b2 at c2 hfm;generalize zdb g=b3 at c3 hfm
 repeat' (first|(refine shC ?_;first|refine qC c1 ?_|refine qC c2 ?_|refine qC c3 ?_)|refine sA ?_|refine sC (fun _=>?_) (fun _=>?_)|fail)
 all_goals (refine ak ?_;rw [hfm];first|(simp_all [zn];done)|(simp_all [zn];omega))
end Go.Cg
