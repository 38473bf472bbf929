/- A part of the walks by abstract values: no statement of its own. -/
import Derived.Test.YtemhfmmhkimhmaaGreatV20
set_option linter.unusedVariables false
set_option linter.unusedSimpArgs false
namespace Go.Cg
open Go.Proofs
set_option maxHeartbeats 20000000
theorem zr6 (t:Ty) (h:ZP t 1=true):∃ bs:List Int,ACall Tryz.prog 283 [zk9 [6],yJ t] (u8s bs):=by
 obtain ⟨k,i,d,r⟩:=t;have hr:r=false:=by
  cases r with
  | false=>rfl
  | true=>simp [ZP] at h
 subst hr;have hp:ZR ⟨k,i,d,false⟩=true/\k≠1:=by
  simp only [ZP] at h;cases hp:ZR ⟨k,i,d,false⟩ with
  | false=>rw [hp] at h;simp at h
  | true=>rw [hp] at h;simp at h;exact ⟨rfl,h⟩
 obtain ⟨hp,hk1⟩:=hp;simp only [ZR] at hp;split at hp
 ·simp at hp
 ·rename_i hb;simp at hb;have hd:d=0\/d=1\/d=2\/d=3:=by omega
  by_cases h2:k=2
  ·exact ⟨_,zgc k 8 i d (.inl ⟨h2,rfl⟩) hd⟩
  ·by_cases h3:k=3
   ·exact ⟨_,zgc k 10 i d (.inr (.inl ⟨h3,rfl⟩)) hd⟩
   ·by_cases h4:k=4
    ·exact ⟨_,zgc k 28 i d (.inr (.inr ⟨h4,rfl⟩)) hd⟩
    ·by_cases h5:k=5
     ·exact zjX k 18 i d (.inl ⟨h5,rfl⟩) zwy62 (by simp [h5] at hp;omega) hd
     ·by_cases h6:k=6
      ·exact zjX k 17 i d (.inr ⟨h6,rfl⟩) zwy62 (by simp [h6] at hp;omega) hd
      ·by_cases h7:k=7
       ·subst h7;exact zqy i d zwy62 (by simp at hp;omega) hd
       ·simp [hk1,h2,h3,h4,h5,h6,h7] at hp
theorem zfX (t:Ty) (h:ZP t 1=false):ACall Tryz.prog 267 [yJ t] (.tup [.base (.slice none 0 0),pi 17]):=by
 refine zh zf Tryz.func267 rfl zws Tryz.ntmps267 zwy63 _ rfl (fun hw gB hgB=>?_);have c1:=zhe t;rw [h] at c1
 repeat' (first|(refine shC ?_;first|refine qC c1 ?_)|refine sA ?_|refine sC (fun _=>?_) (fun _=>?_)|fail)
 exact retq rfl rfl
theorem zjn (t:Ty) (h:ZP t 1=true):∃ bs:List Int,ACall Tryz.prog 267 [yJ t] (.tup [u8s bs,pi 0]):=by
 obtain ⟨bs,cp⟩:=zr6 t h;refine ⟨bs,?_⟩;refine zh zf Tryz.func267 rfl zws Tryz.ntmps267 zwy63 _ rfl (fun hw gB hgB=>?_);have c1:=zhe t;rw [h] at c1
 repeat' (first|(refine shC ?_;first|refine qC c1 ?_|refine qC cp ?_)|refine sA ?_|refine sC (fun _=>?_) (fun _=>?_)|fail)
 exact retq rfl rfl
theorem zdC (t:Ty) (n:Int):ACall Tryz.prog 253 [yJ t,pi n] (pb (XA t 1 n)):=by
 refine zh zf Tryz.func253 rfl zws Tryz.ntmps253 zwy63 _ rfl (fun hw gB hgB=>?_);cases h:ZP t 1
 ·repeat' (first|(refine shC ?_;first|refine qC (zfX t h) ?_|refine qC (zb3 t n) ?_)|refine sA ?_|refine sC (fun _=>?_) (fun _=>?_)|fail)
  all_goals (refine ak ?_;simp_all [zn,XA];done)
 ·obtain ⟨bs,cp⟩:=zjn t h
  repeat' (first|(refine shC ?_;first|refine qC cp ?_|refine qC (zb3 t n) ?_)|refine sA ?_|refine sC (fun _=>?_) (fun _=>?_)|fail)
  all_goals (refine ak ?_;simp_all [zn,XA];done)
theorem zlG (c:Cl) (g:Img):ACall Tryz.prog 276 [qN c,pi (g.types.length:Nat)] (pb (Zl g c)):=by
 refine zh zf Tryz.func276 rfl zws Tryz.ntmps276 zwy63 _ rfl (fun hw gB hgB=>?_);by_cases hk:c.kind=1
 ·have hb:(c.kind != 1)=false:=by simp [hk]
  repeat' (first|(refine shC ?_;first|refine qC (zdC _ _) ?_)|refine sK ?_|refine sC (fun _=>?_) (fun _=>?_)|fail)
  exact retq rfl (by simp [zn,Zl,hk])
 ·have hb:(c.kind != 1)=true:=by simp [hk]
  repeat' (first|(refine shC ?_;first|refine qC (zdC _ _) ?_)|refine sK ?_|refine sC (fun _=>?_) (fun _=>?_)|fail)
  have h1:(c.kind==1)=false:=by simp [hk]
  exact retq rfl (by simp only [zn,Zl,h1,hb,zbn];simp)
set_option maxHeartbeats 20000000
def zmY (l:List Ty) (p:Ty->Bool):Int:=if l.any p then ((l.findIdx p:Nat):Int) else -1
theorem zfO (l:List Ty) (p:Ty->Bool) (f:FuncId) (first cap:List PV) (hp:∀ x∈l,ACall Tryz.prog f (first++[yJ x]++cap) (pb (p x))):ACall Tryz.prog 106 [.slc 4 (l.map yJ) false,.fn (.func f) first cap] (pi (zmY l p)):=by
 refine zh zf Tryz.func106 rfl zws Tryz.ntmps106 zwy63 _ rfl (fun hw gB hgB=>?_);have hl:l.length<=9223372036854775807:=by have:=hw.1;simp [PV.lenOk,lensOk,maxLen] at this;exact this.1
 repeat' (first|refine sA ?_|refine sC (fun _=>?_) (fun _=>?_)|fail)
 refine zL (fun k:Nat=>[(0,.pv (.slc 4 (l.map yJ) false)),(1,.pv (.fn (.func f) first cap)),(7,.pv (pi l.length)),(8,.pv (pi k))]) (fun _=>[]) (fun k=>k<=l.length/\∀ j (h:j < k) (h2:j < l.length),p l[j]=false) (fun k=>l.length - k) 0 ⟨by omega,fun j h=>by omega⟩ (tS) tH ?_;rintro k ⟨hk,hno⟩;by_cases hlt:k < l.length
 ·have he:=zT (f:=yJ) hlt;have c1:=hp _ (List.getElem_mem hlt);cases hpx:p l[k]
  ·rw [hpx] at c1
   repeat' (first|(refine shC ?_;first|refine qV (c1) ?_)|(refine shX ?_;first|refine qX he ?_)|refine sK ?_|refine sC (fun _=>?_) (fun _=>?_)|fail)
   exact ⟨k + 1,⟨hlt,fun j hj h2=>by
    by_cases e:j=k
    ·subst e;exact hpx
    ·exact hno j zwy62 h2⟩,tD,tS,tH⟩
  ·rw [hpx] at c1;have hi:l.findIdx p=k:=by
    rw [List.findIdx_eq hlt];exact ⟨hpx,fun j hj=>hno j hj zwy62⟩
   have ha:l.any p=true:=List.any_eq_true.2 ⟨_,List.getElem_mem hlt,hpx⟩
   repeat' (first|(refine shC ?_;first|refine qV (c1) ?_)|(refine shX ?_;first|refine qX he ?_)|refine sK ?_|refine sC (fun _=>?_) (fun _=>?_)|fail)
   exact retq rfl (by simp [zn,zmY,ha,hi])
 ·have ha:l.any p=false:=by
   rw [List.any_eq_false];intro x hx;obtain ⟨j,hj,rfl⟩:=List.getElem_of_mem hx;simp [hno j zwy62 hj]
  repeat' (first|refine sK ?_|refine sC (fun _=>?_) (fun _=>?_)|fail)
  exact retq rfl (by simp [zn,zmY,ha])
theorem Qg (l:List Ty) (p:Ty->Bool) (f:FuncId) (first cap:List PV) (hp:∀ x∈l,ACall Tryz.prog f (first++[yJ x]++cap) (pb (p x))):ACall Tryz.prog 68 [.slc 4 (l.map yJ) false,.fn (.func f) first cap] (pb (l.any p)):=by
 refine zh zf Tryz.func68 rfl zws Tryz.ntmps68 zwy63 _ rfl (fun hw gB hgB=>?_);have c1:=zfO l p f first cap hp
 repeat' (first|(refine shC ?_;first|refine qC c1 ?_)|refine sA ?_|refine sC (fun _=>?_) (fun _=>?_)|fail)
 refine ak ?_;have:decide (0<=zmY l p)=l.any p:=by
  unfold zmY;cases h:l.any p <;> simp
 simp [zn,this]
def ziN (l:List Ins) (p:Ins->Bool):Int:=if l.any p then ((l.findIdx p:Nat):Int) else -1
theorem zeQ (l:List Ins) (p:Ins->Bool) (f:FuncId) (first cap:List PV) (hp:∀ x∈l,ACall Tryz.prog f (first++[ql x]++cap) (pb (p x))):ACall Tryz.prog 284 [.slc 6 (l.map ql) false,.fn (.func f) first cap] (pi (ziN l p)):=by
 refine zh zf Tryz.func284 rfl zws Tryz.ntmps284 zwy63 _ rfl (fun hw gB hgB=>?_);have hl:l.length<=9223372036854775807:=by have:=hw.1;simp [PV.lenOk,lensOk,maxLen] at this;exact this.1
 repeat' (first|refine sA ?_|refine sC (fun _=>?_) (fun _=>?_)|fail)
 refine zL (fun k:Nat=>[(0,.pv (.slc 6 (l.map ql) false)),(1,.pv (.fn (.func f) first cap)),(7,.pv (pi l.length)),(8,.pv (pi k))]) (fun _=>[]) (fun k=>k<=l.length/\∀ j (h:j < k) (h2:j < l.length),p l[j]=false) (fun k=>l.length - k) 0 ⟨by omega,fun j h=>by omega⟩ (tS) tH ?_;rintro k ⟨hk,hno⟩;by_cases hlt:k < l.length
 ·have he:=zT (f:=ql) hlt;have c1:=hp _ (List.getElem_mem hlt);cases hpx:p l[k]
  ·rw [hpx] at c1
   repeat' (first|(refine shC ?_;first|refine qV (c1) ?_)|(refine shX ?_;first|refine qX he ?_)|refine sK ?_|refine sC (fun _=>?_) (fun _=>?_)|fail)
   exact ⟨k + 1,⟨hlt,fun j hj h2=>by
    by_cases e:j=k
    ·subst e;exact hpx
    ·exact hno j zwy62 h2⟩,tD,tS,tH⟩
  ·rw [hpx] at c1;have hi:l.findIdx p=k:=by
    rw [List.findIdx_eq hlt];exact ⟨hpx,fun j hj=>hno j hj zwy62⟩
   have ha:l.any p=true:=List.any_eq_true.2 ⟨_,List.getElem_mem hlt,hpx⟩
   repeat' (first|(refine shC ?_;first|refine qV (c1) ?_)|(refine shX ?_;first|refine qX he ?_)|refine sK ?_|refine sC (fun _=>?_) (fun _=>?_)|fail)
   exact retq rfl (by simp [zn,ziN,ha,hi])
 ·have ha:l.any p=false:=by
   rw [List.any_eq_false];intro x hx;obtain ⟨j,hj,rfl⟩:=List.getElem_of_mem hx;simp [hno j zwy62 hj]
  repeat' (first|refine sK ?_|refine sC (fun _=>?_) (fun _=>?_)|fail)
  exact retq rfl (by simp [zn,ziN,ha])
theorem zdx (l:List Ins) (p:Ins->Bool) (f:FuncId) (first cap:List PV) (hp:∀ x∈l,ACall Tryz.prog f (first++[ql x]++cap) (pb (p x))):ACall Tryz.prog 272 [.slc 6 (l.map ql) false,.fn (.func f) first cap] (pb (l.any p)):=by
 refine zh zf Tryz.func272 rfl zws Tryz.ntmps272 zwy63 _ rfl (fun hw gB hgB=>?_);have c1:=zeQ l p f first cap hp
 repeat' (first|(refine shC ?_;first|refine qC c1 ?_)|refine sA ?_|refine sC (fun _=>?_) (fun _=>?_)|fail)
 refine ak ?_;have:decide (0<=ziN l p)=l.any p:=by
  unfold ziN;cases h:l.any p <;> simp
 simp [zn,this]
def zmI (l:List Cl) (p:Cl->Bool):Int:=if l.any p then ((l.findIdx p:Nat):Int) else -1
theorem zf7 (l:List Cl) (p:Cl->Bool) (f:FuncId) (first cap:List PV) (hp:∀ x∈l,ACall Tryz.prog f (first++[qN x]++cap) (pb (p x))):ACall Tryz.prog 187 [.slc 10 (l.map qN) false,.fn (.func f) first cap] (pi (zmI l p)):=by
 refine zh zf Tryz.func187 rfl zws Tryz.ntmps187 zwy63 _ rfl (fun hw gB hgB=>?_);have hl:l.length<=9223372036854775807:=by have:=hw.1;simp [PV.lenOk,lensOk,maxLen] at this;exact this.1
 repeat' (first|refine sA ?_|refine sC (fun _=>?_) (fun _=>?_)|fail)
 refine zL (fun k:Nat=>[(0,.pv (.slc 10 (l.map qN) false)),(1,.pv (.fn (.func f) first cap)),(7,.pv (pi l.length)),(8,.pv (pi k))]) (fun _=>[]) (fun k=>k<=l.length/\∀ j (h:j < k) (h2:j < l.length),p l[j]=false) (fun k=>l.length - k) 0 ⟨by omega,fun j h=>by omega⟩ (tS) tH ?_;rintro k ⟨hk,hno⟩;by_cases hlt:k < l.length
 ·have he:=zT (f:=qN) hlt;have c1:=hp _ (List.getElem_mem hlt);cases hpx:p l[k]
  ·rw [hpx] at c1
   repeat' (first|(refine shC ?_;first|refine qV (c1) ?_)|(refine shX ?_;first|refine qX he ?_)|refine sK ?_|refine sC (fun _=>?_) (fun _=>?_)|fail)
   exact ⟨k + 1,⟨hlt,fun j hj h2=>by
    by_cases e:j=k
    ·subst e;exact hpx
    ·exact hno j zwy62 h2⟩,tD,tS,tH⟩
  ·rw [hpx] at c1;have hi:l.findIdx p=k:=by
    rw [List.findIdx_eq hlt];exact ⟨hpx,fun j hj=>hno j hj zwy62⟩
   have ha:l.any p=true:=List.any_eq_true.2 ⟨_,List.getElem_mem hlt,hpx⟩
   repeat' (first|(refine shC ?_;first|refine qV (c1) ?_)|(refine shX ?_;first|refine qX he ?_)|refine sK ?_|refine sC (fun _=>?_) (fun _=>?_)|fail)
   exact retq rfl (by simp [zn,zmI,ha,hi])
 ·have ha:l.any p=false:=by
   rw [List.any_eq_false];intro x hx;obtain ⟨j,hj,rfl⟩:=List.getElem_of_mem hx;simp [hno j zwy62 hj]
  repeat' (first|refine sK ?_|refine sC (fun _=>?_) (fun _=>?_)|fail)
  exact retq rfl (by simp [zn,zmI,ha])
theorem zdZ (l:List Cl) (p:Cl->Bool) (f:FuncId) (first cap:List PV) (hp:∀ x∈l,ACall Tryz.prog f (first++[qN x]++cap) (pb (p x))):ACall Tryz.prog 135 [.slc 10 (l.map qN) false,.fn (.func f) first cap] (pb (l.any p)):=by
 refine zh zf Tryz.func135 rfl zws Tryz.ntmps135 zwy63 _ rfl (fun hw gB hgB=>?_);have c1:=zf7 l p f first cap hp
 repeat' (first|(refine shC ?_;first|refine qC c1 ?_)|refine sA ?_|refine sC (fun _=>?_) (fun _=>?_)|fail)
 refine ak ?_;have:decide (0<=zmI l p)=l.any p:=by
  unfold zmI;cases h:l.any p <;> simp
 simp [zn,this]
theorem zfs (t:Ty) (n:Int):ACall Tryz.prog 269 [yJ t,.ptr (pi n) 0] (pb (!XA t 2 n)):=by
 refine zh zf Tryz.func269 rfl zws Tryz.ntmps269 zwy63 _ rfl (fun hw gB hgB=>?_)
 repeat' (first|(refine shC ?_;first|refine qC (zmZ t n) ?_)|refine sA ?_|refine sC (fun _=>?_) (fun _=>?_)|fail)
 exact retq rfl rfl
theorem zlh (x:Ins) (g:Img) (m:Me) (hx:zd3 x):ACall Tryz.prog 273 [ql x,.ptr (zK g) 0,.ptr (zY m) 0] (pb (!codeOk g m x)):=by
 refine zh zf Tryz.func273 rfl zws Tryz.ntmps273 zwy63 _ rfl (fun hw gB hgB=>?_);have c1:=zps x g m hx;rw [show m.code.length=(m.code.map ql).length by simp] at c1
 repeat' (first|(refine shC ?_;first|refine qC c1 ?_)|refine sA ?_|refine sC (fun _=>?_) (fun _=>?_)|fail)
 exact retq rfl rfl
theorem zlJ (c:Cl) (g:Img):ACall Tryz.prog 275 [qN c,.ptr (pi (g.types.length:Nat)) 0] (pb (!Zl g c)):=by
 refine zh zf Tryz.func275 rfl zws Tryz.ntmps275 zwy63 _ rfl (fun hw gB hgB=>?_)
 repeat' (first|(refine shC ?_;first|refine qC (zlG c g) ?_)|refine sA ?_|refine sC (fun _=>?_) (fun _=>?_)|fail)
 exact retq rfl rfl
set_option maxHeartbeats 4000000 in
theorem zkE (m:Me) (g:Img) (hx:∀ x∈m.code,zd3 x):ACall Tryz.prog 254 [zY m,zK g] (pb (yY g m)):=by
 refine zh zf Tryz.func254 rfl zws Tryz.ntmps254 zwy63 _ rfl (fun hw gB hgB=>?_);have cP:=Qg m.params (fun t=>!XA t 2 ((g.types.map Zx).length:Nat)) 269 [] [.ptr (pi ((g.types.map Zx).length:Nat)) 0] (fun t _=>zfs t _);have cL:=Qg m.locals (fun t=>!XA t 2 ((g.types.map Zx).length:Nat)) 269 [] [.ptr (pi ((g.types.map Zx).length:Nat)) 0] (fun t _=>zfs t _);have cC:=zdx m.code (fun x=>!codeOk g m x) 273 [] [.ptr (zK g) 0,.ptr (zY m) 0] (fun x h=>zlh x g m (hx x h));have cK:=zdZ m.clauses (fun c=>!Zl g c) 275 [] [.ptr (pi ((g.types.map Zx).length:Nat)) 0] (fun c _=>by have:=zlJ c g;rwa [show g.types.length=(g.types.map Zx).length by simp] at this);have cR:=zlr ((m.code.map ql).length:Nat) m.clauses;rw [<-List.not_all_eq_any_not] at cP cL cC cK;have hfm:yY g m=(zaq m.name&&decide (0<=m.flags)&&decide (m.flags<=31)&&decide (0<=m.max)&&decide (m.max<=12)&&decide ((((m.params.map yJ).length:Nat):Int)<=6)&&decide ((((m.locals.map yJ).length:Nat):Int)<=12)&&XA m.ret 3 ((g.types.map Zx).length:Nat)
   && (m.params.all fun t=>XA t 2 ((g.types.map Zx).length:Nat))&&(m.locals.all fun t=>XA t 2 ((g.types.map Zx).length:Nat))&&(decide ((((m.code.map ql).length:Nat):Int)<=160)&&m.code.all (codeOk g m)&&m.clauses.all (Zl g)&&((YM ((m.code.map ql).length:Nat) m.clauses).2==0))):=by
  simp only [yY,Zz,WM,List.length_map]
 generalize (m.params.all fun t=>XA t 2 ((g.types.map Zx).length:Nat))=bP at cP hfm;generalize (m.locals.all fun t=>XA t 2 ((g.types.map Zx).length:Nat))=bL at cL hfm;generalize m.code.all (codeOk g m)=bC at cC hfm;generalize m.clauses.all (Zl g)=bK at cK hfm
 repeat' (first|refine zce (t:=5) rfl rfl rfl ?_|(refine shC ?_;first|refine qC (zeq _) ?_|refine qC (zlE m.ret _) ?_|refine qC cP ?_|refine qC cL ?_|refine qC cC ?_|refine qC cK ?_|refine qC cR ?_)|refine sA ?_|refine sC (fun _=>?_) (fun _=>?_)|fail)
 all_goals (refine ak ?_;rw [hfm];first|(simp_all [zn];done)|(simp_all [zn];omega))
set_option maxHeartbeats 20000000
def zfn (g:Img) (k:Nat):Int:=if k=0 then 0 else (g.fields.getD (k - 1) default).owner
def zfH (g:Img):Bool:=(List.range g.fields.length).all (zcV g)&&decide (((g.fields.map ZI).length:Nat)<=(64:Int))
theorem zpp {g:Img} {k:Nat} (h:k < g.fields.length):zfn g (k + 1)=g.fields[k].owner:=by
 rw [zfn,if_neg zwy62,Nat.add_sub_cancel,zQ h]
theorem zox {g:Img} {k:Nat} (h:k < g.fields.length) (hl:0<=zfn g k):zcV g k=(zaq g.fields[k].name&&!decide (g.fields[k].owner < zfn g k)&&!decide ((((g.types.map Zx).length:Nat):Int)<=g.fields[k].owner)&&XA g.fields[k].ty 1 ((g.types.map Zx).length:Nat)):=by
 rw [zcV];simp only [zQ h,List.length_map];generalize zaq g.fields[k].name=bf;generalize XA g.fields[k].ty 1 g.types.length=bm;unfold zfn at hl ⊢;by_cases hk:k=0
 ·subst hk;rw [Bool.eq_iff_iff];simp
 ·have e:(k==0)=false:=by simp [hk]
  rw [if_neg hk] at hl ⊢;rw [e,Bool.eq_iff_iff];simp only [List.getD_eq_getElem?_getD] at hl ⊢;simp;intro _;constructor
  ·rintro ⟨⟨⟨a,b⟩,c⟩,d⟩;exact ⟨⟨a,d⟩,c⟩
  ·rintro ⟨⟨a,d⟩,c⟩;exact ⟨⟨⟨a,by omega⟩,c⟩,d⟩
theorem zk8 (g:Img):ACall Tryz.prog 223 [zK g] (pb (zfH g)):=by
 refine zh zf Tryz.func223 rfl zws Tryz.ntmps223 zwy63 _ rfl (fun hw gB hgB=>?_);have hlen:=(zkJ hw.1).2.1
 repeat' (first|refine sA ?_|refine sC (fun _=>?_) (fun _=>?_)|fail)
 refine zL (fun k:Nat=>[(1,.pv (.ptr (zK g) 0)),(3,.pv (pi (zfn g k))),(7,.pv (.slc 7 (g.fields.map ZI) false)),(8,.pv (pi g.fields.length)),(9,.pv (pi k))]) (fun _=>[]) (fun k=>k<=g.fields.length/\0<=zfn g k/\zfH g=(((List.range g.fields.length).drop k).all (zcV g)&&decide (((g.fields.map ZI).length:Nat)<=(64:Int)))) (fun k=>g.fields.length - k) 0 ⟨by omega,by simp [zfn],rfl⟩ (tS) tH ?_;rintro k ⟨hk,hl0,hr⟩;by_cases hlt:k < g.fields.length
 ·have he:=zT (f:=ZI) hlt;have hls:=zpp hlt;rw [qP hlt,zox hlt hl0] at hr;generalize g.fields[k]=f at he hr hls;generalize hL:zfn g k=L at hr hl0
  repeat' (first|(refine shC ?_;first|refine qC (zeq _) ?_|refine qC (zdC _ _) ?_)|(refine shX ?_;first|refine qX he ?_)|refine sK ?_|refine sC (fun _=>?_) (fun _=>?_)|fail)
  all_goals first
   | (refine ak ?_;rw [hr];simp_all [zn];done)
   | (refine ⟨k + 1,⟨hlt,by rw [hls];simp_all;omega,by rw [hr,Bool.eq_iff_iff];simp_all⟩,tD,by repeat (first|exact yN|refine yB rfl ?_|(refine qZ rfl ?_ ?_;· (first|exact hls.symm|(rw [wrap_in zwy62 zwy62] <;> omega)))),tH⟩)
 ·rw [drop_end zwy64] at hr
  repeat' (first|refine sK ?_|refine sC (fun _=>?_) (fun _=>?_)|fail)
  exact retq rfl (by rw [hr];simp [zn])
def zeV (g:Img) (k:Nat):Int:=if k=0 then 0 else (g.methods.getD (k - 1) default).owner
def zc9 (g:Img):Bool:=(List.range g.methods.length).all (zbl g)&&decide (((g.methods.map zY).length:Nat)<=(64:Int))
theorem zoq {g:Img} {k:Nat} (h:k < g.methods.length):zeV g (k + 1)=g.methods[k].owner:=by
 rw [zeV,if_neg zwy62,Nat.add_sub_cancel,zQ h]
theorem zo0 {g:Img} {k:Nat} (h:k < g.methods.length) (hl:0<=zeV g k):zbl g k=(!decide (g.methods[k].owner < zeV g k)&&!decide ((((g.types.map Zx).length:Nat):Int)<=g.methods[k].owner)&&yY g g.methods[k]):=by
 rw [zbl];simp only [zQ h,List.length_map];generalize yY g g.methods[k]=bm;unfold zeV at hl ⊢;by_cases hk:k=0
 ·subst hk;rw [Bool.eq_iff_iff];simp
 ·have e:(k==0)=false:=by simp [hk]
  rw [if_neg hk] at hl ⊢;rw [e,Bool.eq_iff_iff];simp only [List.getD_eq_getElem?_getD] at hl ⊢;simp;intro _;constructor
  ·rintro ⟨⟨a,b⟩,d⟩;exact ⟨d,b⟩
  ·rintro ⟨d,c⟩;exact ⟨⟨by omega,c⟩,d⟩
theorem zjz (g:Img) (hx:∀ m∈g.methods,∀ x∈m.code,zd3 x):ACall Tryz.prog 224 [zK g] (pb (zc9 g)):=by
 refine zh zf Tryz.func224 rfl zws Tryz.ntmps224 zwy63 _ rfl (fun hw gB hgB=>?_);have hlen:=(zkJ hw.1).2.2
 repeat' (first|refine sA ?_|refine sC (fun _=>?_) (fun _=>?_)|fail)
 refine zL (fun k:Nat=>[(1,.pv (.ptr (zK g) 0)),(3,.pv (pi (zeV g k))),(7,.pv (.slc 12 (g.methods.map zY) false)),(8,.pv (pi g.methods.length)),(9,.pv (pi k))]) (fun _=>[]) (fun k=>k<=g.methods.length/\0<=zeV g k/\zc9 g=(((List.range g.methods.length).drop k).all (zbl g)&&decide (((g.methods.map zY).length:Nat)<=(64:Int)))) (fun k=>g.methods.length - k) 0 ⟨by omega,by simp [zeV],rfl⟩ (tS) tH ?_;rintro k ⟨hk,hl0,hr⟩;by_cases hlt:k < g.methods.length
 ·have he:=zT (f:=zY) hlt;have hls:=zoq hlt;have cm:=zkE g.methods[k] g (hx _ (List.getElem_mem hlt));rw [qP hlt,zo0 hlt hl0] at hr;generalize g.methods[k]=f at he hr hls cm;generalize hL:zeV g k=L at hr hl0
  repeat' (first|(refine shC ?_;first|refine qC cm ?_)|(refine shX ?_;first|refine qX he ?_)|refine sK ?_|refine sC (fun _=>?_) (fun _=>?_)|fail)
  all_goals first
   | (refine ak ?_;rw [hr];simp_all [zn];done)
   | (refine ⟨k + 1,⟨hlt,by rw [hls];simp_all;omega,by rw [hr,Bool.eq_iff_iff];simp_all⟩,tD,by repeat (first|exact yN|refine yB rfl ?_|(refine qZ rfl ?_ ?_;· (first|exact hls.symm|(rw [wrap_in zwy62 zwy62] <;> omega)))),tH⟩)
 ·rw [drop_end zwy64] at hr
  repeat' (first|refine sK ?_|refine sC (fun _=>?_) (fun _=>?_)|fail)
  exact retq rfl (by rw [hr];simp [zn])
theorem zkD (g:Img) (hx:∀ m∈g.methods,∀ x∈m.code,zd3 x):ACall Tryz.prog 198 [zK g] (pb (yh g)):=by
 refine zh zf Tryz.func198 rfl zws Tryz.ntmps198 zwy63 _ rfl (fun hw gB hgB=>?_);have c1:=zpg g;have c2:=zk8 g;have c3:=zjz g hx;have hfm:yh g=(zae g&&zfH g&&zc9 g&&decide (-1<=g.entry)&&decide (g.entry < ((g.methods.map zY).length:Nat))):=by
  rw [yh,zae,zfH,zc9,Bool.eq_iff_iff];simp only [List.length_map,Bool.and_eq_true];constructor <;> (intro h;simp only [h,and_self])
 generalize zae g=b1 at c1 hfm;generalize zfH g=b2 at c2 hfm;generalize zc9 g=b3 at c3 hfm
 repeat' (first|(refine shC ?_;first|refine qC c1 ?_|refine qC c2 ?_|refine qC c3 ?_)|refine sA ?_|refine sC (fun _=>?_) (fun _=>?_)|fail)
 all_goals (refine ak ?_;rw [hfm];first|(simp_all [zn];done)|(simp_all [zn];omega))
end Go.Cg
