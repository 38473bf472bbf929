/- A part of the walks by abstract values: no statement of its own. -/
import Derived.Test.YtdbgicaoddibdaaGreatT24
import Derived.Test.YtdbgicaoddibdaaGreatT23
import Derived.Test.YtdbgicaoddibdaaGreatT22
import Derived.Test.YtdbgicaoddibdaaGreatT15
import Derived.Test.YtdbgicaoddibdaaGreatT19
set_option linter.unusedVariables false
set_option linter.unusedSimpArgs false
namespace Go.Cg
open Go.Proofs
set_option maxHeartbeats 20000000
theorem zsr (t:Ty) (h:Yc t 1=true):∃ bs:List Int,ACall Tryz.prog 251 [zlp [6],yJ t] (u8s bs):=by
 obtain ⟨k,i,d,r⟩:=t;have hr:r=false:=by
  cases r with
  | false=>rfl
  | true=>simp [Yc] at h
 subst hr;have hp:ZY ⟨k,i,d,false⟩=true∧k≠1:=by
  simp only [Yc] at h;cases hp:ZY ⟨k,i,d,false⟩ with
  | false=>rw [hp] at h;simp at h
  | true=>rw [hp] at h;simp at h;exact ⟨rfl,h⟩
 obtain ⟨hp,hk1⟩:=hp;simp only [ZY] at hp;split at hp
 ·simp at hp
 ·rename_i hb;simp at hb;have hd:d=0∨d=1∨d=2∨d=3:=by omega
  by_cases h2:k=2
  ·exact ⟨_,zfG k 8 i d (.inl ⟨h2,rfl⟩) hd⟩
  ·by_cases h3:k=3
   ·exact ⟨_,zfG k 10 i d (.inr (.inl ⟨h3,rfl⟩)) hd⟩
   ·by_cases h4:k=4
    ·exact ⟨_,zfG k 28 i d (.inr (.inr ⟨h4,rfl⟩)) hd⟩
    ·by_cases h5:k=5
     ·exact zkk k 18 i d (.inl ⟨h5,rfl⟩) zwy62 (by simp [h5] at hp;omega) hd
     ·by_cases h6:k=6
      ·exact zkk k 17 i d (.inr ⟨h6,rfl⟩) zwy62 (by simp [h6] at hp;omega) hd
      ·by_cases h7:k=7
       ·subst h7;exact zrL i d zwy62 zwy107 hd
       ·simp [hk1,h2,h3,h4,h5,h6,h7] at hp
theorem zfS (t:Ty) (h:Yc t 1=false):ACall Tryz.prog 237 [yJ t] (.tup [.base (.slice none 0 0),pi 17]):=by
 refine zi zf Tryz.func237 rfl zws Tryz.ntmps237 zwy63 _ rfl (fun hw gB hgB=>?_);have c1:=zg6 t;rw [h] at c1
 repeat' (first|(refine shC ?_;first|refine qC c1 ?_)|refine sA ?_|refine sC (fun _=>?_) (fun _=>?_)|fail)
 exact retq rfl rfl
theorem zjL (t:Ty) (h:Yc t 1=true):∃ bs:List Int,ACall Tryz.prog 237 [yJ t] (.tup [u8s bs,pi 0]):=by
 obtain ⟨bs,cp⟩:=zsr t h;refine ⟨bs,?_⟩;refine zi zf Tryz.func237 rfl zws Tryz.ntmps237 zwy63 _ rfl (fun hw gB hgB=>?_);have c1:=zg6 t;rw [h] at c1
 repeat' (first|(refine shC ?_;first|refine qC c1 ?_|refine qC cp ?_)|refine sA ?_|refine sC (fun _=>?_) (fun _=>?_)|fail)
 exact retq rfl rfl
theorem zcA (t:Ty) (n:Int):ACall Tryz.prog 226 [yJ t,pi n] (pb (Vg t 1 n)):=by
 refine zi zf Tryz.func226 rfl zws Tryz.ntmps226 zwy63 _ rfl (fun hw gB hgB=>?_);cases h:Yc t 1
 ·repeat' (first|(refine shC ?_;first|refine qC (zfS t h) ?_|refine qC (zbs t n) ?_)|refine sA ?_|refine sC (fun _=>?_) (fun _=>?_)|fail)
  all_goals (refine ay ?_;simp_all [zC,Vg];done)
 ·obtain ⟨bs,cp⟩:=zjL t h
  repeat' (first|(refine shC ?_;first|refine qC cp ?_|refine qC (zbs t n) ?_)|refine sA ?_|refine sC (fun _=>?_) (fun _=>?_)|fail)
  all_goals (refine ay ?_;simp_all [zC,Vg];done)
theorem zk2 (c:Cl) (g:Img):ACall Tryz.prog 246 [Zg c,pi (g.types.length:Nat)] (pb (Wv g c)):=by
 refine zi zf Tryz.func246 rfl zws Tryz.ntmps246 zwy63 _ rfl (fun hw gB hgB=>?_);by_cases hk:c.kind=1
 ·have hb:(c.kind != 1)=false:=by simp [hk]
  repeat' (first|(refine shC ?_;first|refine qC (zcA _ _) ?_)|refine sK ?_|refine sC (fun _=>?_) (fun _=>?_)|fail)
  exact retq rfl (by simp [zC,Wv,hk])
 ·have hb:(c.kind != 1)=true:=by simp [hk]
  repeat' (first|(refine shC ?_;first|refine qC (zcA _ _) ?_)|refine sK ?_|refine sC (fun _=>?_) (fun _=>?_)|fail)
  have h1:(c.kind==1)=false:=by simp [hk]
  exact retq rfl (by simp only [zC,Wv,h1,hb,zeZ];simp)
set_option maxHeartbeats 20000000
def zmo (l:List Ty) (p:Ty→Bool):Int:=if l.any p then ((l.findIdx p:Nat):Int) else -1
theorem zgl (l:List Ty) (p:Ty→Bool) (f:FuncId) (first cap:List PV) (hp:∀ x∈l,ACall Tryz.prog f (first++[yJ x]++cap) (pb (p x))):ACall Tryz.prog 49 [.slc 4 (l.map yJ) false,.fn (.func f) first cap] (pi (zmo l p)):=by
 refine zi zf Tryz.func49 rfl zws Tryz.ntmps49 zwy63 _ rfl (fun hw gB hgB=>?_);have hl:l.length≤9223372036854775807:=by have:=hw.1;simp [PV.lenOk,lensOk,maxLen] at this;exact this.1
 repeat' (first|refine sA ?_|refine sC (fun _=>?_) (fun _=>?_)|fail)
 refine zW (fun k:Nat=>[(0,.pv (.slc 4 (l.map yJ) false)),(1,.pv (.fn (.func f) first cap)),(7,.pv (pi l.length)),(8,.pv (pi k))]) (fun _=>[]) (fun k=>k≤l.length∧∀ j (h:j < k) (h2:j < l.length),p l[j]=false) (fun k=>l.length - k) 0 ⟨by omega,fun j h=>by omega⟩ (tS) tH ?_;rintro k ⟨hk,hno⟩;by_cases hlt:k < l.length
 ·have he:=zY (f:=yJ) hlt;have c1:=hp _ (List.getElem_mem hlt);cases hpx:p l[k]
  ·rw [hpx] at c1
   repeat' (first|(refine shC ?_;first|refine qV (c1) ?_)|(refine shX ?_;first|refine qX he ?_)|refine sK ?_|refine sC (fun _=>?_) (fun _=>?_)|fail)
   exact ⟨k + 1,⟨hlt,fun j hj h2=>by
    by_cases e:j=k
    ·subst e;exact hpx
    ·exact hno j zwy62 h2⟩,tD,tS,tH⟩
  ·rw [hpx] at c1;have hi:l.findIdx p=k:=by
    rw [List.findIdx_eq hlt];exact ⟨hpx,fun j hj=>hno j hj zwy62⟩
   have ha:l.any p=true:=List.any_eq_true.2 ⟨_,List.getElem_mem hlt,hpx⟩
   repeat' (first|(refine shC ?_;first|refine qV (c1) ?_)|(refine shX ?_;first|refine qX he ?_)|refine sK ?_|refine sC (fun _=>?_) (fun _=>?_)|fail)
   exact retq rfl (by simp [zC,zmo,ha,hi])
 ·have ha:l.any p=false:=by
   rw [List.any_eq_false];intro x hx;obtain ⟨j,hj,rfl⟩:=List.getElem_of_mem hx;simp [hno j zwy62 hj]
  repeat' (first|refine sK ?_|refine sC (fun _=>?_) (fun _=>?_)|fail)
  exact retq rfl (by simp [zC,zmo,ha])
theorem Zw (l:List Ty) (p:Ty→Bool) (f:FuncId) (first cap:List PV) (hp:∀ x∈l,ACall Tryz.prog f (first++[yJ x]++cap) (pb (p x))):ACall Tryz.prog 26 [.slc 4 (l.map yJ) false,.fn (.func f) first cap] (pb (l.any p)):=by
 refine zi zf Tryz.func26 rfl zws Tryz.ntmps26 zwy63 _ rfl (fun hw gB hgB=>?_);have c1:=zgl l p f first cap hp
 repeat' (first|(refine shC ?_;first|refine qC c1 ?_)|refine sA ?_|refine sC (fun _=>?_) (fun _=>?_)|fail)
 refine ay ?_;have:decide (0≤zmo l p)=l.any p:=by
  unfold zmo;cases h:l.any p <;> simp
 simp [zC,this]
def zjv (l:List Ins) (p:Ins→Bool):Int:=if l.any p then ((l.findIdx p:Nat):Int) else -1
theorem zeL (l:List Ins) (p:Ins→Bool) (f:FuncId) (first cap:List PV) (hp:∀ x∈l,ACall Tryz.prog f (first++[qx x]++cap) (pb (p x))):ACall Tryz.prog 252 [.slc 6 (l.map qx) false,.fn (.func f) first cap] (pi (zjv l p)):=by
 refine zi zf Tryz.func252 rfl zws Tryz.ntmps252 zwy63 _ rfl (fun hw gB hgB=>?_);have hl:l.length≤9223372036854775807:=by have:=hw.1;simp [PV.lenOk,lensOk,maxLen] at this;exact this.1
 repeat' (first|refine sA ?_|refine sC (fun _=>?_) (fun _=>?_)|fail)
 refine zW (fun k:Nat=>[(0,.pv (.slc 6 (l.map qx) false)),(1,.pv (.fn (.func f) first cap)),(7,.pv (pi l.length)),(8,.pv (pi k))]) (fun _=>[]) (fun k=>k≤l.length∧∀ j (h:j < k) (h2:j < l.length),p l[j]=false) (fun k=>l.length - k) 0 ⟨by omega,fun j h=>by omega⟩ (tS) tH ?_;rintro k ⟨hk,hno⟩;by_cases hlt:k < l.length
 ·have he:=zY (f:=qx) hlt;have c1:=hp _ (List.getElem_mem hlt);cases hpx:p l[k]
  ·rw [hpx] at c1
   repeat' (first|(refine shC ?_;first|refine qV (c1) ?_)|(refine shX ?_;first|refine qX he ?_)|refine sK ?_|refine sC (fun _=>?_) (fun _=>?_)|fail)
   exact ⟨k + 1,⟨hlt,fun j hj h2=>by
    by_cases e:j=k
    ·subst e;exact hpx
    ·exact hno j zwy62 h2⟩,tD,tS,tH⟩
  ·rw [hpx] at c1;have hi:l.findIdx p=k:=by
    rw [List.findIdx_eq hlt];exact ⟨hpx,fun j hj=>hno j hj zwy62⟩
   have ha:l.any p=true:=List.any_eq_true.2 ⟨_,List.getElem_mem hlt,hpx⟩
   repeat' (first|(refine shC ?_;first|refine qV (c1) ?_)|(refine shX ?_;first|refine qX he ?_)|refine sK ?_|refine sC (fun _=>?_) (fun _=>?_)|fail)
   exact retq rfl (by simp [zC,zjv,ha,hi])
 ·have ha:l.any p=false:=by
   rw [List.any_eq_false];intro x hx;obtain ⟨j,hj,rfl⟩:=List.getElem_of_mem hx;simp [hno j zwy62 hj]
  repeat' (first|refine sK ?_|refine sC (fun _=>?_) (fun _=>?_)|fail)
  exact retq rfl (by simp [zC,zjv,ha])
theorem zcC (l:List Ins) (p:Ins→Bool) (f:FuncId) (first cap:List PV) (hp:∀ x∈l,ACall Tryz.prog f (first++[qx x]++cap) (pb (p x))):ACall Tryz.prog 242 [.slc 6 (l.map qx) false,.fn (.func f) first cap] (pb (l.any p)):=by
 refine zi zf Tryz.func242 rfl zws Tryz.ntmps242 zwy63 _ rfl (fun hw gB hgB=>?_);have c1:=zeL l p f first cap hp
 repeat' (first|(refine shC ?_;first|refine qC c1 ?_)|refine sA ?_|refine sC (fun _=>?_) (fun _=>?_)|fail)
 refine ay ?_;have:decide (0≤zjv l p)=l.any p:=by
  unfold zjv;cases h:l.any p <;> simp
 simp [zC,this]
def znl (l:List Cl) (p:Cl→Bool):Int:=if l.any p then ((l.findIdx p:Nat):Int) else -1
theorem zf4 (l:List Cl) (p:Cl→Bool) (f:FuncId) (first cap:List PV) (hp:∀ x∈l,ACall Tryz.prog f (first++[Zg x]++cap) (pb (p x))):ACall Tryz.prog 88 [.slc 10 (l.map Zg) false,.fn (.func f) first cap] (pi (znl l p)):=by
 refine zi zf Tryz.func88 rfl zws Tryz.ntmps88 zwy63 _ rfl (fun hw gB hgB=>?_);have hl:l.length≤9223372036854775807:=by have:=hw.1;simp [PV.lenOk,lensOk,maxLen] at this;exact this.1
 repeat' (first|refine sA ?_|refine sC (fun _=>?_) (fun _=>?_)|fail)
 refine zW (fun k:Nat=>[(0,.pv (.slc 10 (l.map Zg) false)),(1,.pv (.fn (.func f) first cap)),(7,.pv (pi l.length)),(8,.pv (pi k))]) (fun _=>[]) (fun k=>k≤l.length∧∀ j (h:j < k) (h2:j < l.length),p l[j]=false) (fun k=>l.length - k) 0 ⟨by omega,fun j h=>by omega⟩ (tS) tH ?_;rintro k ⟨hk,hno⟩;by_cases hlt:k < l.length
 ·have he:=zY (f:=Zg) hlt;have c1:=hp _ (List.getElem_mem hlt);cases hpx:p l[k]
  ·rw [hpx] at c1
   repeat' (first|(refine shC ?_;first|refine qV (c1) ?_)|(refine shX ?_;first|refine qX he ?_)|refine sK ?_|refine sC (fun _=>?_) (fun _=>?_)|fail)
   exact ⟨k + 1,⟨hlt,fun j hj h2=>by
    by_cases e:j=k
    ·subst e;exact hpx
    ·exact hno j zwy62 h2⟩,tD,tS,tH⟩
  ·rw [hpx] at c1;have hi:l.findIdx p=k:=by
    rw [List.findIdx_eq hlt];exact ⟨hpx,fun j hj=>hno j hj zwy62⟩
   have ha:l.any p=true:=List.any_eq_true.2 ⟨_,List.getElem_mem hlt,hpx⟩
   repeat' (first|(refine shC ?_;first|refine qV (c1) ?_)|(refine shX ?_;first|refine qX he ?_)|refine sK ?_|refine sC (fun _=>?_) (fun _=>?_)|fail)
   exact retq rfl (by simp [zC,znl,ha,hi])
 ·have ha:l.any p=false:=by
   rw [List.any_eq_false];intro x hx;obtain ⟨j,hj,rfl⟩:=List.getElem_of_mem hx;simp [hno j zwy62 hj]
  repeat' (first|refine sK ?_|refine sC (fun _=>?_) (fun _=>?_)|fail)
  exact retq rfl (by simp [zC,znl,ha])
theorem zdG (l:List Cl) (p:Cl→Bool) (f:FuncId) (first cap:List PV) (hp:∀ x∈l,ACall Tryz.prog f (first++[Zg x]++cap) (pb (p x))):ACall Tryz.prog 46 [.slc 10 (l.map Zg) false,.fn (.func f) first cap] (pb (l.any p)):=by
 refine zi zf Tryz.func46 rfl zws Tryz.ntmps46 zwy63 _ rfl (fun hw gB hgB=>?_);have c1:=zf4 l p f first cap hp
 repeat' (first|(refine shC ?_;first|refine qC c1 ?_)|refine sA ?_|refine sC (fun _=>?_) (fun _=>?_)|fail)
 refine ay ?_;have:decide (0≤znl l p)=l.any p:=by
  unfold znl;cases h:l.any p <;> simp
 simp [zC,this]
theorem zeB (t:Ty) (n:Int):ACall Tryz.prog 239 [yJ t,.ptr (pi n) 0] (pb (!Vg t 2 n)):=by
 refine zi zf Tryz.func239 rfl zws Tryz.ntmps239 zwy63 _ rfl (fun hw gB hgB=>?_)
 repeat' (first|(refine shC ?_;first|refine qC (zmY t n) ?_)|refine sA ?_|refine sC (fun _=>?_) (fun _=>?_)|fail)
 exact retq rfl rfl
theorem zkR (x:Ins) (g:Img) (m:Me) (hx:zfD x):ACall Tryz.prog 243 [qx x,.ptr (zO g) 0,.ptr (yh m) 0] (pb (!codeOk g m x)):=by
 refine zi zf Tryz.func243 rfl zws Tryz.ntmps243 zwy63 _ rfl (fun hw gB hgB=>?_);have c1:=zoQ x g m hx;rw [show m.code.length=(m.code.map qx).length by simp] at c1
 repeat' (first|(refine shC ?_;first|refine qC c1 ?_)|refine sA ?_|refine sC (fun _=>?_) (fun _=>?_)|fail)
 exact retq rfl rfl
theorem zlf (c:Cl) (g:Img):ACall Tryz.prog 245 [Zg c,.ptr (pi (g.types.length:Nat)) 0] (pb (!Wv g c)):=by
 refine zi zf Tryz.func245 rfl zws Tryz.ntmps245 zwy63 _ rfl (fun hw gB hgB=>?_)
 repeat' (first|(refine shC ?_;first|refine qC (zk2 c g) ?_)|refine sA ?_|refine sC (fun _=>?_) (fun _=>?_)|fail)
 exact retq rfl rfl
set_option maxHeartbeats 4000000 in
theorem zlZ (m:Me) (g:Img) (hx:∀ x∈m.code,zfD x):ACall Tryz.prog 227 [yh m,zO g] (pb (ZT g m)):=by
 refine zi zf Tryz.func227 rfl zws Tryz.ntmps227 zwy63 _ rfl (fun hw gB hgB=>?_);have cP:=Zw m.params (fun t=>!Vg t 2 ((g.types.map ZB).length:Nat)) 239 [] [.ptr (pi ((g.types.map ZB).length:Nat)) 0] (fun t _=>zeB t _);have cL:=Zw m.locals (fun t=>!Vg t 2 ((g.types.map ZB).length:Nat)) 239 [] [.ptr (pi ((g.types.map ZB).length:Nat)) 0] (fun t _=>zeB t _);have cC:=zcC m.code (fun x=>!codeOk g m x) 243 [] [.ptr (zO g) 0,.ptr (yh m) 0] (fun x h=>zkR x g m (hx x h));have cK:=zdG m.clauses (fun c=>!Wv g c) 245 [] [.ptr (pi ((g.types.map ZB).length:Nat)) 0] (fun c _=>by have:=zlf c g;rwa [show g.types.length=(g.types.map ZB).length by simp] at this);have cR:=zk8 ((m.code.map qx).length:Nat) m.clauses;rw [←List.not_all_eq_any_not] at cP cL cC cK;have hfm:ZT g m=(zbM m.name&&decide (0≤m.flags)&&decide (m.flags≤31)&&decide (0≤m.max)&&decide (m.max≤12)&&decide ((((m.params.map yJ).length:Nat):Int)≤6)&&decide ((((m.locals.map yJ).length:Nat):Int)≤12)&&Vg m.ret 3 ((g.types.map ZB).length:Nat)
   && (m.params.all fun t=>Vg t 2 ((g.types.map ZB).length:Nat))&&(m.locals.all fun t=>Vg t 2 ((g.types.map ZB).length:Nat))&&(decide ((((m.code.map qx).length:Nat):Int)≤160)&&m.code.all (codeOk g m)&&m.clauses.all (Wv g)&&((Qm ((m.code.map qx).length:Nat) m.clauses).2==0))):=by
  simp only [ZT,zac,zfp,List.length_map]
 generalize (m.params.all fun t=>Vg t 2 ((g.types.map ZB).length:Nat))=bP at cP hfm;generalize (m.locals.all fun t=>Vg t 2 ((g.types.map ZB).length:Nat))=bL at cL hfm;generalize m.code.all (codeOk g m)=bC at cC hfm;generalize m.clauses.all (Wv g)=bK at cK hfm
 repeat' (first|refine QW (t:=5) rfl rfl rfl ?_|(refine shC ?_;first|refine qC (zdX _) ?_|refine qC (zls m.ret _) ?_|refine qC cP ?_|refine qC cL ?_|refine qC cC ?_|refine qC cK ?_|refine qC cR ?_)|refine sA ?_|refine sC (fun _=>?_) (fun _=>?_)|fail)
 all_goals (refine ay ?_;rw [hfm];first|(simp_all [zC];done)|(simp_all [zC];omega))
set_option maxHeartbeats 20000000
def zfC (g:Img) (k:Nat):Int:=if k=0 then 0 else (g.fields.getD (k - 1) default).owner
def zfo (g:Img):Bool:=(List.range g.fields.length).all (zh7 g)&&decide (((g.fields.map Yo).length:Nat)≤(64:Int))
theorem zpI {g:Img} {k:Nat} (h:k < g.fields.length):zfC g (k + 1)=g.fields[k].owner:=by
 rw [zfC,if_neg zwy62,Nat.add_sub_cancel,zT h]
theorem zpj {g:Img} {k:Nat} (h:k < g.fields.length) (hl:0≤zfC g k):zh7 g k=(zbM g.fields[k].name&&!decide (g.fields[k].owner < zfC g k)&&!decide ((((g.types.map ZB).length:Nat):Int)≤g.fields[k].owner)&&Vg g.fields[k].ty 1 ((g.types.map ZB).length:Nat)):=by
 rw [zh7];simp only [zT h,List.length_map];generalize zbM g.fields[k].name=bf;generalize Vg g.fields[k].ty 1 g.types.length=bm;unfold zfC at hl ⊢;by_cases hk:k=0
 ·subst hk;rw [Bool.eq_iff_iff];simp
 ·have e:(k==0)=false:=by simp [hk]
  rw [if_neg hk] at hl ⊢;rw [e,Bool.eq_iff_iff];simp only [List.getD_eq_getElem?_getD] at hl ⊢;simp;intro _;constructor
  ·rintro ⟨⟨⟨a,b⟩,c⟩,d⟩;exact ⟨⟨a,d⟩,c⟩
  ·rintro ⟨⟨a,d⟩,c⟩;exact ⟨⟨⟨a,by omega⟩,c⟩,d⟩
theorem zl6 (g:Img):ACall Tryz.prog 200 [zO g] (pb (zfo g)):=by
 refine zi zf Tryz.func200 rfl zws Tryz.ntmps200 zwy63 _ rfl (fun hw gB hgB=>?_);have hlen:=(zqS hw.1).2.1
 repeat' (first|refine sA ?_|refine sC (fun _=>?_) (fun _=>?_)|fail)
 refine zW (fun k:Nat=>[(1,.pv (.ptr (zO g) 0)),(3,.pv (pi (zfC g k))),(7,.pv (.slc 7 (g.fields.map Yo) false)),(8,.pv (pi g.fields.length)),(9,.pv (pi k))]) (fun _=>[]) (fun k=>k≤g.fields.length∧0≤zfC g k∧zfo g=(((List.range g.fields.length).drop k).all (zh7 g)&&decide (((g.fields.map Yo).length:Nat)≤(64:Int)))) (fun k=>g.fields.length - k) 0 ⟨by omega,by simp [zfC],rfl⟩ (tS) tH ?_;rintro k ⟨hk,hl0,hr⟩;by_cases hlt:k < g.fields.length
 ·have he:=zY (f:=Yo) hlt;have hls:=zpI hlt;rw [YS hlt,zpj hlt hl0] at hr;generalize g.fields[k]=f at he hr hls;generalize hL:zfC g k=L at hr hl0
  repeat' (first|(refine shC ?_;first|refine qC (zdX _) ?_|refine qC (zcA _ _) ?_)|(refine shX ?_;first|refine qX he ?_)|refine sK ?_|refine sC (fun _=>?_) (fun _=>?_)|fail)
  all_goals first
   | (refine ay ?_;rw [hr];simp_all [zC];done)
   | (refine ⟨k + 1,⟨hlt,by rw [hls];simp_all;omega,by rw [hr,Bool.eq_iff_iff];simp_all⟩,tD,by repeat (first|exact qh|refine yU rfl ?_|(refine ZF rfl ?_ ?_;· (first|exact hls.symm|(rw [wrap_in zwy62 zwy62] <;> omega)))),tH⟩)
 ·rw [drop_end zwy64] at hr
  repeat' (first|refine sK ?_|refine sC (fun _=>?_) (fun _=>?_)|fail)
  exact retq rfl (by rw [hr];simp [zC])
def zfy (g:Img) (k:Nat):Int:=if k=0 then 0 else (g.methods.getD (k - 1) default).owner
def zcx (g:Img):Bool:=(List.range g.methods.length).all (zjr g)&&decide (((g.methods.map yh).length:Nat)≤(64:Int))
theorem zpl {g:Img} {k:Nat} (h:k < g.methods.length):zfy g (k + 1)=g.methods[k].owner:=by
 rw [zfy,if_neg zwy62,Nat.add_sub_cancel,zT h]
theorem zpT {g:Img} {k:Nat} (h:k < g.methods.length) (hl:0≤zfy g k):zjr g k=(!decide (g.methods[k].owner < zfy g k)&&!decide ((((g.types.map ZB).length:Nat):Int)≤g.methods[k].owner)&&ZT g g.methods[k]):=by
 rw [zjr];simp only [zT h,List.length_map];generalize ZT g g.methods[k]=bm;unfold zfy at hl ⊢;by_cases hk:k=0
 ·subst hk;rw [Bool.eq_iff_iff];simp
 ·have e:(k==0)=false:=by simp [hk]
  rw [if_neg hk] at hl ⊢;rw [e,Bool.eq_iff_iff];simp only [List.getD_eq_getElem?_getD] at hl ⊢;simp;intro _;constructor
  ·rintro ⟨⟨a,b⟩,d⟩;exact ⟨d,b⟩
  ·rintro ⟨d,c⟩;exact ⟨⟨by omega,c⟩,d⟩
theorem zjW (g:Img) (hx:∀ m∈g.methods,∀ x∈m.code,zfD x):ACall Tryz.prog 201 [zO g] (pb (zcx g)):=by
 refine zi zf Tryz.func201 rfl zws Tryz.ntmps201 zwy63 _ rfl (fun hw gB hgB=>?_);have hlen:=(zqS hw.1).2.2
 repeat' (first|refine sA ?_|refine sC (fun _=>?_) (fun _=>?_)|fail)
 refine zW (fun k:Nat=>[(1,.pv (.ptr (zO g) 0)),(3,.pv (pi (zfy g k))),(7,.pv (.slc 12 (g.methods.map yh) false)),(8,.pv (pi g.methods.length)),(9,.pv (pi k))]) (fun _=>[]) (fun k=>k≤g.methods.length∧0≤zfy g k∧zcx g=(((List.range g.methods.length).drop k).all (zjr g)&&decide (((g.methods.map yh).length:Nat)≤(64:Int)))) (fun k=>g.methods.length - k) 0 ⟨by omega,by simp [zfy],rfl⟩ (tS) tH ?_;rintro k ⟨hk,hl0,hr⟩;by_cases hlt:k < g.methods.length
 ·have he:=zY (f:=yh) hlt;have hls:=zpl hlt;have cm:=zlZ g.methods[k] g (hx _ (List.getElem_mem hlt));rw [YS hlt,zpT hlt hl0] at hr;generalize g.methods[k]=f at he hr hls cm;generalize hL:zfy g k=L at hr hl0
  repeat' (first|(refine shC ?_;first|refine qC cm ?_)|(refine shX ?_;first|refine qX he ?_)|refine sK ?_|refine sC (fun _=>?_) (fun _=>?_)|fail)
  all_goals first
   | (refine ay ?_;rw [hr];simp_all [zC];done)
   | (refine ⟨k + 1,⟨hlt,by rw [hls];simp_all;omega,by rw [hr,Bool.eq_iff_iff];simp_all⟩,tD,by repeat (first|exact qh|refine yU rfl ?_|(refine ZF rfl ?_ ?_;· (first|exact hls.symm|(rw [wrap_in zwy62 zwy62] <;> omega)))),tH⟩)
 ·rw [drop_end zwy64] at hr
  repeat' (first|refine sK ?_|refine sC (fun _=>?_) (fun _=>?_)|fail)
  exact retq rfl (by rw [hr];simp [zC])
theorem zlE (g:Img) (hx:∀ m∈g.methods,∀ x∈m.code,zfD x):ACall Tryz.prog 184 [zO g] (pb (yI g)):=by
 refine zi zf Tryz.func184 rfl zws Tryz.ntmps184 zwy63 _ rfl (fun hw gB hgB=>?_);have c1:=zpU g;have c2:=zl6 g;have c3:=zjW g hx;have hfm:yI g=(Vz g&&zfo g&&zcx g&&decide (-1≤g.entry)&&decide (g.entry < ((g.methods.map yh).length:Nat))):=by
  rw [yI,Vz,zfo,zcx,Bool.eq_iff_iff];simp only [List.length_map,Bool.and_eq_true];constructor <;> (intro h;simp only [h,and_self])
 generalize Vz g=b1 at c1 hfm;generalize zfo g=b2 at c2 hfm;generalize zcx g=b3 at c3 hfm
 repeat' (first|(refine shC ?_;first|refine qC c1 ?_|refine qC c2 ?_|refine qC c3 ?_)|refine sA ?_|refine sC (fun _=>?_) (fun _=>?_)|fail)
 all_goals (refine ay ?_;rw [hfm];first|(simp_all [zC];done)|(simp_all [zC];omega))
theorem PInv.fold {g:Img} {t:Int}:∀ (l:List Int) {met:List Int},PInv g t met→(∀ x∈l,0≤x∧x < g.types.length)→PInv g t (l.foldl YI met)
 | [],_,h,_=>h
 | f::l,_,h,hl=>PInv.fold l (h.add (hl f zwy63)) fun x hx=>hl x (by simp [hx])
theorem zgI {g:Img} {t:Int}:∀ (n i:Nat) (met:List Int),PInv g t met→i≤met.length→g.fields.length + g.types.length + 1≤n + i →
  (∀ j (h:j < i) (h2:j < met.length),∀ y∈partsOf g met[j],y∈met) →
  (∀ x∈met,x∈zd2 g n i met)∧(∀ u∈zd2 g n i met,∀ y∈partsOf g u,y∈zd2 g n i met)∧(∀ x∈zd2 g n i met,Rch (partsOf g) met x)
 | 0,i,met,hm,hi,hn,hc=>by
  have:=hm.len;omega
 | n + 1,i,met,hm,hi,hn,hc=>by
  rw [zd2];by_cases hlt:i < met.length
  ·rw [List.getElem?_eq_getElem hlt];simp only [znK];have hm2:=PInv.fold (partsOf g met[i]) hm (fun x hx=>Xu hx);obtain ⟨r,hr⟩:=zjd (partsOf g met[i]) met;have hl:met.length≤((partsOf g met[i]).foldl YI met).length:=by rw [hr];simp
   obtain ⟨q1,q2,q3⟩:=zgI n (i + 1) ((partsOf g met[i]).foldl YI met) hm2 zwy62 zwy62 (by
    intro j hj hj2 y hy;rw [Ws];have hjm:j < met.length:=by omega
    have e:((partsOf g met[i]).foldl YI met)[j]=met[j]:=by simp only [hr];rw [List.getElem_append_left hjm]
    rw [e] at hy;by_cases hji:j=i
    ·subst hji;exact .inr hy
    ·exact .inl (hc j zwy62 hjm y hy))
   refine ⟨fun x hx=>q1 x (Ws.2 (.inl hx)),q2,fun x hx=>?_⟩;have:=q3 x hx;clear q1 q2 q3 hx;induction this with
   | base x hx =>
    rcases Ws.1 hx with h|h
    ·exact .base x h
    ·exact .step _ x (.base _ (List.getElem_mem hlt)) h
   | step x y _ hy ih=>exact .step x y ih hy
  ·rw [List.getElem?_eq_none zwy62];simp only;refine ⟨fun x hx=>hx,fun u hu y hy=>?_,fun x hx=>.base x hx⟩;obtain ⟨j,hj,rfl⟩:=List.getElem_of_mem hu;exact hc j zwy62 hj y hy
theorem zn0 {g:Img} {t x:Int}:x∈ztb g t↔Rch (partsOf g) (partsOf g t) x:=by
 obtain ⟨q1,q2,q3⟩:=zgI (g:=g) (t:=t) (g.fields.length + g.types.length + 1) 0 (partsOf g t) ⟨[],by simp⟩ zwy62 zwy62 (fun j h=>by omega);refine ⟨fun hx=>q3 x hx,fun hx=>?_⟩;induction hx with
 | base x hx=>exact q1 x hx
 | step x y _ hy ih=>exact q2 x ih y hy
theorem zh1 {g:Img} {t x:Int}:x∈sortL (XJ g.types.length (partsOf g) (partsOf g t))↔x∈ztb g t:=by
 rw [zfV,zn0];exact (zcF (N:=g.types.length) (fun x _ _ y hy=>Xu hy) (fun x hx=>Xu hx)).1 x
theorem ztA:∀ n:Fin 32,qL (n.val:Int) 1=qJ (n.val:Int) 1∧qL (n.val:Int) 4=qJ (n.val:Int) 4∧qL (n.val:Int) 8=qJ (n.val:Int) 8∧qL (n.val:Int) 16=qJ (n.val:Int) 16:=by decide +kernel
theorem zqn {f:Int} (h0:0≤f) (h1:f≤31):qL f 1=qJ f 1∧qL f 4=qJ f 4∧qL f 8=qJ f 8∧qL f 16=qJ f 16:=by
 have:=ztA ⟨f.toNat,by omega⟩;simpa only [Int.toNat_of_nonneg h0] using this
theorem zo0 {td:TD} (h0:0≤td.flags) (h1:td.flags≤31):YD td=YC td:=by
 obtain ⟨e1,e2,e3,e4⟩:=zqn h0 h1;rw [YD,YC,zhU h0 h1,e1,e2,e3,e4];generalize qJ td.flags 1=b1;generalize qJ td.flags 4=b2;generalize qJ td.flags 8=b3;generalize qJ td.flags 16=b4;generalize (td.ext == -1)=b5;generalize ((td.faces.length:Int)==0)=b6
 repeat' split
 all_goals (try rfl)
 all_goals (cases b1 <;> cases b2 <;> cases b3 <;> cases b4 <;> cases b5 <;> cases b6 <;> rfl)
theorem zai {g:Img} (hf:yI g=true) {t:Int} {td:TD} (h:typeAt g t=some td):0≤td.flags∧td.flags≤31 ∧ -1≤td.ext∧td.ext < g.types.length∧td.faces.length≤4∧∀ f∈td.faces,0≤f∧f < g.types.length :=
 Xt ((yG hf).2.2.2 td (zaJ h))
theorem zoK {g:Img} (hf:yI g=true) (t:Int):0≤zb3 g t∧zb3 g t≤31:=by
 unfold zb3;cases h:typeAt g t with
 | none=>simp
 | some td=>obtain ⟨h0,h1,_⟩:=zai hf h;exact ⟨h0,h1⟩
theorem zrC {g:Img} (hf:yI g=true) (t:Int) : -1≤zbm g t:=by
 unfold zbm;cases h:typeAt g ((up g t).getLastD 0) with
 | none=>simp
 | some td=>obtain ⟨_,_,h1,_⟩:=zai hf h;exact h1
theorem zvT {g:Img} (hf:yI g=true) {t:Int} {td:TD} (h:typeAt g t=some td):zjJ g t td=zmr g t td:=by
 obtain ⟨_,_,h1,_⟩:=zai hf h;obtain ⟨f0,f1⟩:=zoK hf td.ext;have ht:=zrC hf t;rw [zjJ,zmr,ziD hf,(zqn f0 f1).2.2.1];have e1:(td.ext == -1)=!decide (0≤td.ext):=by rw [Bool.eq_iff_iff];simp;omega
 have e2:(zbm g t == -1)=decide (zbm g t < 0):=by rw [Bool.eq_iff_iff];simp;omega
 rw [e1,e2]
def zf6 (g:Img) (t:Int) (td:TD):Bool:=(List.range td.faces.length).all (ze1 g td.faces)&&(yt g t != 2||!decide (t∈sortL (XJ g.types.length (yS g) td.faces)))
theorem zwH {g:Img} {t:Int} {td:TD} (h:typeAt g t=some td) (he:td.ext = -1):up g t=[t]:=by
 have hx:typeAt g (-1)=none:=by rw [typeAt,if_neg zwy62]
 rw [up,zbw,h];simp only [List.not_mem_nil,if_false,List.nil_append];cases hn:g.types.length with
 | zero=>rfl
 | succ n=>rw [zbw,he,hx]
theorem zeQ {g:Img} {t:Int} {td:TD} (h:typeAt g t=some td):yS g t=td.faces:=by rw [yS,h]
theorem zq1 {g:Img} {t:Int} {td:TD} (h:typeAt g t=some td) (hfl:YC td=true) (hk:yt g t=2):td.ext = -1:=by
 rw [yt,h] at hk;simp only at hk;rw [YC,hk] at hfl;simp at hfl;exact hfl.1.1.1.1
theorem zth {g:Img} (hf:yI g=true) {t:Int} {td:TD} (h:typeAt g t=some td):(YD td&&zjJ g t td&&zf6 g t td)=(YC td&&zar g t td):=by
 obtain ⟨h0,h1,_⟩:=zai hf h;rw [zo0 h0 h1,zvT hf h,zf6,zar];cases hfl:YC td
 ·rfl
 ·have e:(yt g t != 2||!decide (t∈sortL (XJ g.types.length (yS g) td.faces)))=(yt g t != 2||!decide (t∈zbU g t)):=by
   by_cases hk:yt g t=2
   ·have hx:=zq1 h hfl hk;have hF:=VH hf;have:t∈sortL (XJ g.types.length (yS g) td.faces)↔t∈zbU g t:=by
     rw [zfV,zik hF,RF,zwH h hx];simp only [List.flatMap_cons,List.flatMap_nil,List.append_nil];rw [zeQ h];exact (zcF (N:=g.types.length) (fun x _ _ y hy=>(hF.at x).2 y hy) (fun x hx=>by have:=(hF.at t).2 x;rw [zeQ h] at this;exact this hx)).1 t
    rw [decide_eq_decide.2 this]
   ·have:(yt g t != 2)=true:=by simp [hk]
    rw [this];rfl
  rw [e];simp only [Bool.and_assoc,Bool.true_and]
def zcv (l:List Int) (p:Int→Int→Bool):Bool:=(List.range l.length).any fun i=>(l.take i).any (p (l.getD i 0))
theorem znw {l:List Int} {p:Int→Int→Bool}:(!zcv l p)=(List.range l.length).all fun i=>(List.range i).all fun k=>!p (l.getD i 0) (l.getD k 0):=by
 rw [Bool.eq_iff_iff];simp only [zcv,Bool.not_eq_true',List.any_eq_false,List.all_eq_true,List.mem_range,Bool.not_eq_true];constructor
 ·intro h i hi k hk;refine h i hi _ ?_;rw [List.getD_eq_getElem?_getD,List.getElem?_eq_getElem (show k < l.length by omega)];exact List.mem_take_iff_getElem.2 ⟨k,by omega,rfl⟩
 ·intro h i hi x hx;obtain ⟨k,hk,rfl⟩:=List.mem_take_iff_getElem.1 hx;have:=h i hi k zwy62
  rwa [zT (show k < l.length by omega)] at this
def zhT (g:Img) (a b:Int):Bool:=(fName g a).toList==(fName g b).toList
def mAt (g:Img) (a:Int):Me:=g.methods.getD a.toNat default
def zad (x y:Me):Bool:=x.name.toList==y.name.toList&&decide (x.ret=y.ret)&&IntKind.i64.wrap ((BitVec.ofInt IntKind.i64.bits (IntKind.i64.wrap ((BitVec.ofInt IntKind.i64.bits x.flags ^^^ BitVec.ofInt IntKind.i64.bits y.flags).toNat:Int)) &&& BitVec.ofInt IntKind.i64.bits 1).toNat:Int)==0&&decide (x.params=y.params)
def zfU (g:Img) (t:Int) (td:TD):Bool:=(List.range g.types.length).all (zdc g t td)&&!zcv (fieldsOf g t) (zhT g)&&!zcv (methodsOf g t) (fun a b=>zad (mAt g a) (mAt g b))
theorem zvD:∀ a b:Fin 32,(IntKind.i64.wrap ((BitVec.ofInt IntKind.i64.bits (IntKind.i64.wrap ((BitVec.ofInt IntKind.i64.bits (a.val:Int) ^^^ BitVec.ofInt IntKind.i64.bits (b.val:Int)).toNat:Int)) &&& BitVec.ofInt IntKind.i64.bits 1).toNat:Int)==0)=((a.val:Int).tmod 2==(b.val:Int).tmod 2):=by decide +kernel
theorem zri {x y:Me} (hx0:0≤x.flags) (hx1:x.flags≤31) (hy0:0≤y.flags) (hy1:y.flags≤31):zad x y=(x.name.toList==y.name.toList&&zdq x y):=by
 have:=zvD ⟨x.flags.toNat,by omega⟩ ⟨y.flags.toNat,by omega⟩;simp only [Int.toNat_of_nonneg hx0,Int.toNat_of_nonneg hy0] at this;rw [zad,zdq,this];simp only [Bool.and_assoc]
theorem zdB {g:Img} (hf:yI g=true) {a:Nat} (h:a < g.methods.length):ZT g (g.methods.getD a default)=true:=by
 simp only [yI,Bool.and_eq_true,List.all_eq_true] at hf;have:=hf.2 a zwy97;rw [zjr] at this;simp only [Bool.and_eq_true] at this;exact this.2
theorem zbg {g:Img} {m:Me} (h:ZT g m=true):0≤m.flags∧m.flags≤31:=by
 simp only [ZT,Bool.and_eq_true,decide_eq_true_eq] at h;omega
theorem zt8 {g:Img} (hf:yI g=true) (t:Int) (td:TD):zfU g t td=zlP g t td:=by
 rw [zfU,zlP,znw,znw];congr 1;rw [Bool.eq_iff_iff];simp only [List.all_eq_true,List.mem_range,ziH];have key:∀ i,i < (methodsOf g t).length→∀ k,k < i→zad (mAt g ((methodsOf g t).getD i 0)) (mAt g ((methodsOf g t).getD k 0))=((g.methods.getD ((methodsOf g t).getD i 0).toNat default).name.toList==(g.methods.getD ((methodsOf g t).getD k 0).toNat default).name.toList&&zdq (g.methods.getD ((methodsOf g t).getD i 0).toNat default) (g.methods.getD ((methodsOf g t).getD k 0).toNat default)):=by
  intro i hi k hk;have hk':k < (methodsOf g t).length:=by omega
  rw [zT hi,zT hk'];obtain ⟨_,a1⟩:=qO (List.getElem_mem hi);obtain ⟨_,a2⟩:=qO (List.getElem_mem hk');obtain ⟨b1,b2⟩:=zbg (zdB hf a1);obtain ⟨b3,b4⟩:=zbg (zdB hf a2);exact zri b1 b2 b3 b4
 constructor
 ·intro h i hi k hk;rw [←key i hi k hk];exact h i hi k hk
 ·intro h i hi k hk;rw [key i hi k hk];exact h i hi k hk
def zfO (g:Img) (t:Int):Bool:=(fieldsOf g t).all (zlC g (yt g t))&&(yt g t != 1||!decide (t∈sortL (XJ g.types.length (partsOf g) (partsOf g t))))
theorem zs7 (g:Img) (t:Int):zfO g t=zd1 g t:=by
 rw [zfO,zd1,decide_eq_decide.2 zh1]
theorem zvH {g:Img} (h:Qu g=true) {k:Nat} (hk:k < g.types.length):ZG g k=0:=by
 have hf:=YV h;cases hx:(List.range g.types.length).find? (fun t=>ZG g t != 0) with
 | none =>
  have:=List.find?_eq_none.1 hx k (by simpa using hk);simpa using this
 | some t =>
  have h2:=List.find?_some hx;rw [Qu,VD,hf] at h;simp [hx] at h;simp [h] at h2
theorem zjQ {g:Img} (hf:yI g=true) {k:Nat} (hk:k < g.types.length) :
  ZG g k=if !(YD g.types[k]&&zjJ g k g.types[k]&&zf6 g k g.types[k]) then 7 else if !zfU g k g.types[k] then 18 else if !zfO g k then 20 else 0:=by
 rw [zdV hk,zth hf (zeg hk),zt8 hf,zs7];cases YC g.types[k] <;> cases zar g k g.types[k] <;> rfl
set_option maxHeartbeats 20000000
theorem ZI (g:Img) (hf:yI g=true) (t:Int):ACall Tryz.prog 50 [zO g,pi t] (pi (yt g t)):=by
 have:=Qb g t;rwa [ziD hf] at this
theorem XT (g:Img) (t:Int) (hg:g.fields.length≤1000):ACall Tryz.prog 191 [zO g,pi t] (ints (fieldsOf g t)):=by
 refine zi zf Tryz.func191 rfl zws Tryz.ntmps191 zwy63 _ rfl (fun hw gB hgB=>?_)
 repeat' (first|refine sA ?_|refine sC (fun _=>?_) (fun _=>?_)|fail)
 refine YF (t:=5) 0 3 1 zwy67 rfl rfl ?_;refine zW (fun x:Nat × List Int=>[(1,.pv (pi t)),(2,.pv (.ptr (zO g) 0)),(5,.own 0),(9,.pv (.slc 7 (g.fields.map Yo) false)),(10,.pv (pi g.fields.length)),(11,.pv (pi x.1))]) (fun x=>[(0,.row 3 1 (x.2.map pi))])
  (fun x=>x.1≤g.fields.length∧x.2.length≤x.1∧x.2++((nums g.fields.length).drop x.1).filter (fun i=>there g t&&(g.fields.getD i.toNat default).owner==t)=fieldsOf g t) (fun x=>g.fields.length - x.1) (0,[]) ⟨by simp,by simp,rfl⟩ (tS) ⟨aB zA,rfl⟩ ?_
 rintro ⟨k,out⟩ ⟨hk,hol,hr⟩;simp only at hk hol hr;by_cases hlt:k < g.fields.length
 ·have he:=zY (f:=Yo) hlt;rw [drop_cons (by simpa [nums] using hlt),List.filter_cons,zm0,Int.toNat_natCast,zT hlt] at hr;have c1:=Qd g t;cases hth:there g t
  ·rw [hth] at c1
   repeat' (first|(refine shC ?_;first|refine qC c1 ?_)|(refine shX ?_;first|refine qX he ?_)|refine sK ?_|refine sC (fun _=>?_) (fun _=>?_)|fail)
   exact ⟨(k + 1,out),⟨by simp;omega,by simp;omega,by simpa [hth] using hr⟩,tD,tS,⟨Yk rfl rfl zA,rfl⟩⟩
  ·rw [hth] at c1
   repeat' (first|(refine shC ?_;first|refine qC c1 ?_)|(refine shX ?_;first|refine qX he ?_)|(refine yC ?_;first|refine qI zf rfl rfl rfl rfl rfl rfl rfl zwy81 zwy64 rfl rfl ?_)|refine sK ?_|refine sC (fun _=>?_) (fun _=>?_)|fail)
   ·rename_i hx;rw [hth,hx] at hr;exact ⟨(k + 1,out++[(k:Int)]),⟨by simp;omega,by simp;omega,by simpa [hth] using hr⟩,tD,tS,⟨Yk rfl zwy63 zA,rfl⟩⟩
   ·rename_i hx;rw [hth,hx] at hr;exact ⟨(k + 1,out),⟨by simp;omega,by simp;omega,by simpa [hth] using hr⟩,tD,tS,⟨Yk rfl rfl zA,rfl⟩⟩
 ·rw [drop_end (by simp [nums];omega)] at hr
  repeat' (first|refine sK ?_|refine sC (fun _=>?_) (fun _=>?_)|fail)
  exact retq rfl (by rw [←hr];simp [zC,ints])
theorem YG (g:Img) (t:Int) (hg:g.methods.length≤1000):ACall Tryz.prog 56 [zO g,pi t] (ints (methodsOf g t)):=by
 refine zi zf Tryz.func56 rfl zws Tryz.ntmps56 zwy63 _ rfl (fun hw gB hgB=>?_)
 repeat' (first|refine sA ?_|refine sC (fun _=>?_) (fun _=>?_)|fail)
 refine YF (t:=5) 0 3 1 zwy67 rfl rfl ?_;refine zW (fun x:Nat × List Int=>[(1,.pv (pi t)),(2,.pv (.ptr (zO g) 0)),(5,.own 0),(9,.pv (.slc 12 (g.methods.map yh) false)),(10,.pv (pi g.methods.length)),(11,.pv (pi x.1))]) (fun x=>[(0,.row 3 1 (x.2.map pi))])
  (fun x=>x.1≤g.methods.length∧x.2.length≤x.1∧x.2++((nums g.methods.length).drop x.1).filter (fun i=>there g t&&(g.methods.getD i.toNat default).owner==t)=methodsOf g t) (fun x=>g.methods.length - x.1) (0,[]) ⟨by simp,by simp,rfl⟩ (tS) ⟨aB zA,rfl⟩ ?_
 rintro ⟨k,out⟩ ⟨hk,hol,hr⟩;simp only at hk hol hr;by_cases hlt:k < g.methods.length
 ·have he:=zY (f:=yh) hlt;rw [drop_cons (by simpa [nums] using hlt),List.filter_cons,zm0,Int.toNat_natCast,zT hlt] at hr;have c1:=Qd g t;cases hth:there g t
  ·rw [hth] at c1
   repeat' (first|(refine shC ?_;first|refine qC c1 ?_)|(refine shX ?_;first|refine qX he ?_)|refine sK ?_|refine sC (fun _=>?_) (fun _=>?_)|fail)
   exact ⟨(k + 1,out),⟨by simp;omega,by simp;omega,by simpa [hth] using hr⟩,tD,tS,⟨Yk rfl rfl zA,rfl⟩⟩
  ·rw [hth] at c1
   repeat' (first|(refine shC ?_;first|refine qC c1 ?_)|(refine shX ?_;first|refine qX he ?_)|(refine yC ?_;first|refine qI zf rfl rfl rfl rfl rfl rfl rfl zwy81 zwy64 rfl rfl ?_)|refine sK ?_|refine sC (fun _=>?_) (fun _=>?_)|fail)
   ·rename_i hx;rw [hth,hx] at hr;exact ⟨(k + 1,out++[(k:Int)]),⟨by simp;omega,by simp;omega,by simpa [hth] using hr⟩,tD,tS,⟨Yk rfl zwy63 zA,rfl⟩⟩
   ·rename_i hx;rw [hth,hx] at hr;exact ⟨(k + 1,out),⟨by simp;omega,by simp;omega,by simpa [hth] using hr⟩,tD,tS,⟨Yk rfl rfl zA,rfl⟩⟩
 ·rw [drop_end (by simp [nums];omega)] at hr
  repeat' (first|refine sK ?_|refine sC (fun _=>?_) (fun _=>?_)|fail)
  exact retq rfl (by rw [←hr];simp [zC,ints])
theorem zhd (g:Img) (t:Int) (hf:yI g=true):ACall Tryz.prog 207 [zO g,pi t] (ints (partsOf g t)):=by
 refine zi zf Tryz.func207 rfl zws Tryz.ntmps207 zwy63 _ rfl (fun hw gB hgB=>?_);have hg:g.fields.length≤1000:=by have:=(yG hf).2.1;omega
 have hfl:=VO g t
 repeat' (first|(refine shC ?_;first|refine qC (XT g t hg) ?_)|refine sA ?_|refine sC (fun _=>?_) (fun _=>?_)|fail)
 refine YF (t:=5) 0 3 1 zwy67 rfl rfl ?_;refine zW (fun x:Nat × List Int=>[(2,.pv (.ptr (zO g) 0)),(5,.own 0),(11,.pv (ints (fieldsOf g t))),(12,.pv (pi (fieldsOf g t).length)),(13,.pv (pi x.1))]) (fun x=>[(0,.row 3 1 (x.2.map pi))])
  (fun x=>x.1≤(fieldsOf g t).length∧x.2.length≤x.1∧x.2++(((fieldsOf g t).drop x.1).filter (zgg g)).map (fun i=>(g.fields.getD i.toNat default).ty.index)=partsOf g t) (fun x=>(fieldsOf g t).length - x.1) (0,[]) ⟨by simp,by simp,rfl⟩ (tS) ⟨aB zA,rfl⟩ ?_
 rintro ⟨k,out⟩ ⟨hk,hol,hr⟩;simp only at hk hol hr;by_cases hlt:k < (fieldsOf g t).length
 ·have he:=Qv hlt;obtain ⟨h0,hi⟩:=Ql (List.getElem_mem hlt);have hef:=Yy (f:=Yo) hi;rw [drop_cons hlt,List.filter_cons,zgg] at hr;simp only [zT hi] at hr
  repeat' (first|(refine shC ?_;first|refine qC (ZI _ hf _) ?_)|(refine shX ?_;first|refine qX he ?_|refine zy rfl (ah h0 hef) rfl rfl ?_|refine zq rfl (ah h0 hef) rfl rfl ?_)|(refine yC ?_;first|refine qI zf rfl rfl rfl rfl rfl rfl rfl zwy81 zwy64 rfl rfl ?_)|refine sK ?_|refine sC (fun _=>?_) (fun _=>?_)|fail)
  ·rw [if_pos (by simp_all)] at hr;exact ⟨(k + 1,out++[g.fields[(fieldsOf g t)[k].toNat].ty.index]),⟨by simp;omega,by simp;omega,by rw [List.map_cons,zT hi] at hr;simpa using hr⟩,tD,tS,⟨Yk rfl zwy63 zA,rfl⟩⟩
  all_goals
   rw [if_neg (by simp_all)] at hr;exact ⟨(k + 1,out),⟨by simp;omega,by simp;omega,by simpa using hr⟩,tD,tS,⟨Yk rfl rfl zA,rfl⟩⟩
 ·rw [drop_end zwy62] at hr
  repeat' (first|refine sK ?_|refine sC (fun _=>?_) (fun _=>?_)|fail)
  exact retq rfl (by rw [←hr];simp [zC,ints])
def SM (α:Type):Type:=List Ty→Except Int (α × List Ty)
def SM.ret {α:Type} (a:α):SM α:=fun l=>.ok (a,l)
def SM.bnd {α β:Type} (x:SM α) (f:α→SM β):SM β:=fun l=>match x l with|.error e=>.error e|.ok p=>f p.1 p.2
instance:Monad SM:={ pure:=SM.ret,bind:=SM.bnd }
theorem zG {α:Type} (a:α) (l:List Ty):(pure a:SM α) l=.ok (a,l):=rfl
theorem zB {α β:Type} (x:SM α) (f:α→SM β) (l:List Ty):(x >>= f) l=match x l with|.error e=>.error e|.ok p=>f p.1 p.2:=rfl
theorem zgj {α β:Type} {x:SM α} {f:α→SM β} {l:List Ty} {e:Int} (h:x l=.error e):(x >>= f) l=.error e:=by rw [zB,h]
theorem zxg {α β:Type} {x:SM α} {f:α→SM β} {l l':List Ty} {a:α} (h:x l=.ok (a,l')):(x >>= f) l=f a l':=by rw [zB,h]
def zL (b:Bool) (e:Int):SM Unit:=fun l=>if b then .ok ((),l) else .error e
def YU:SM Ty:=fun l=>if l.length < 1 then .error 9 else .ok ((l.drop (l.length - 1)).headD default,l.take (l.length - 1))
def yX (most:Int) (ts:List Ty):SM Unit:=fun l=>if ((l.length:Int) + (ts.length:Int))≤most then .ok ((),l++ts) else .error 9
def zcb:SM Unit:=fun _=>.ok ((),[])
def emptyS (e:Int):SM Unit:=fun l=>if l.length==0 then .ok ((),l) else .error e
def kTy (k:Int):Ty:=⟨k,0,0,false⟩
def rfT (t:Ty):Ty:=⟨t.kind,t.index,t.dims,true⟩
def nuT (t:Ty):Bool:=tyB t (kTy 2)||tyB t (kTy 3)
def YL (g:Img) (t:Ty):SM Unit:=do let x ←YU;zL (ZO g x t) 10
def ZN (g:Img) (ls:List Ty):SM Unit:=fun l =>
 if l.length < ls.length then .error 9 else if Zl g (l.drop (l.length - ls.length)) ls then .ok ((),l.take (l.length - ls.length)) else .error 10
def Zv:SM Ty:=do let b ←YU;let a ←YU;zL (tyB a b&&nuT a) 10;pure a
def zc5:SM Ty:=do let t ←YU;zL (nuT t) 10;pure t
def Zi:SM Unit:=do let b ←YU;let a ←YU;zL (tyB a b&&nuT a||object a&&object b) 10
def zaN (x:Ins) (ls:List Ty):SM Ty:=do zL (decide (x.arg < ls.length)) 3;pure (ls.getD x.arg.toNat default)
def Qn (most:Int) (t:Ty):SM Unit:=do zL (!t.ref) 13;yX most [rfT t]
def Xp (g:Img) (c:Me):List Ty:=zwk (VK (Yh g c.owner) (qL c.flags 1) c.owner) c.params
def QE (most:Int) (c:Me):SM Unit:=if c.ret.kind != 1 then yX most [c.ret] else pure ()
def fAt (g:Img) (a:Int):Fd:=g.fields.getD a.toNat default
def tAt (g:Img) (a:Int):TD:=g.types.getD a.toNat default
def Zq (g:Img) (f:Fd) (itself:Bool):SM Unit:=do
 let t ←YU
 if Yh g f.owner==1 then zL (tyB t (rfT ⟨6,f.owner,0,false⟩)||itself&&tyB t ⟨6,f.owner,0,false⟩) 10
 else zL (ZO g t ⟨5,f.owner,0,false⟩) 10
def WE (x:Ins):SM Ty:=do zL (decide (x.t.dims + 1≤3)) 6;pure ⟨x.t.kind,x.t.index,x.t.dims + 1,x.t.ref⟩
def zgq (t:Ty):Bool:=nuT t||t.kind==6&&t.dims==0
def qZ (g:Img) (ar:List Ty) (m:Me) (x:Ins):SM Unit:=do
 let t ←zaN x (if x.op==2||x.op==3||x.op==4 then ar else m.locals)
 if x.op==2||x.op==5 then yX m.max [t] else if x.op==3||x.op==6 then YL g t else Qn m.max t
def qF (g:Img) (m:Me) (op:Int):SM Unit :=
 if op==13||op==14||op==15||op==16||op==17||op==18||op==19||op==20||op==25||op==26||op==27 then do let t ←Zv;yX m.max [t]
 else if op==21||op==22 then do YL g (kTy 2);let t ←zc5;yX m.max [t]
 else if op==23||op==24 then do let t ←zc5;yX m.max [t]
 else if op==28||op==30 then do let _ ←zc5;yX m.max [kTy 2]
 else if op==29 then do let _ ←zc5;yX m.max [kTy 3]
 else if op==31 then do Zi;yX m.max [kTy 2]
 else if op==32||op==33 then do let _ ←Zv;yX m.max [kTy 2]
 else pure ()
def Zy (op:Int):SM Unit :=
 if op==35||op==36 then do let t ←YU;zL (nuT t||object t) 10
 else if op==37||op==42 then Zi
 else if op==38||op==39||op==40||op==41 then do let _ ←Zv;pure ()
 else pure ()
def qK (g:Img) (m:Me) (x:Ins):SM Unit :=
 let c:=mAt g x.arg
 if x.op==43 then do zL (!qL c.flags 4) 8;ZN g (Xp g c);QE m.max c
 else if x.op==44 then do zL (!qL c.flags 1&&!qL c.flags 16&&Yh g c.owner != 1) 8;ZN g (Xp g c);QE m.max c
 else do zL (qL c.flags 16&&!qL (tAt g c.owner).flags 4) 8;ZN g c.params;yX m.max [⟨5,c.owner,0,false⟩]
def yH (g:Img) (m:Me) (x:Ins):SM Unit:=do
 let f:=fAt g x.arg
 zL (f.static==(x.op==51||x.op==52||x.op==53)) 8
 if x.op==48 then do Zq g f true;yX m.max [f.ty]
 else if x.op==49 then do YL g f.ty;Zq g f false
 else if x.op==50 then do Zq g f false;yX m.max [rfT f.ty]
 else if x.op==51 then yX m.max [f.ty]
 else if x.op==52 then YL g f.ty
 else yX m.max [rfT f.ty]
def Zd (g:Img) (m:Me) (x:Ins):SM Unit :=
 if x.op==55 then ZN g [rfT x.t,x.t]
 else do let t ←YU;zL (tyB t (rfT x.t)) 10;if x.op==54 then yX m.max [x.t] else pure ()
def yF (g:Img) (m:Me) (x:Ins):SM Unit :=
 if x.op==58 then do let t ←YU;zL (object t&&(decide (0 < t.dims)||t.kind==8)) 10;yX m.max [kTy 2]
 else do
  let a ←WE x
  if x.op==57 then do YL g (kTy 2);yX m.max [a]
  else if x.op==60 then ZN g [a,kTy 2,x.t]
  else do ZN g [a,kTy 2];if x.op==59 then yX m.max [x.t] else yX m.max [rfT x.t]
def yA (g:Img) (m:Me) (x:Ins):SM Unit:=do
 zL ((x.op==65||x.op==66)&&object x.t||!(x.op==65||x.op==66)&&zgq x.t) 8
 if x.op==62 then do YL g x.t;yX m.max [kTy 4]
 else do let t ←YU;zL (object t) 10;yX m.max [if x.op==63 then rfT x.t else x.t]
def sameAll:List Ty→List Ty→Bool
 | a::ar,b::bs=>tyB a b&&sameAll ar bs
 | _,_=>true
def yu (g:Img) (m:Me) (x:Ins):SM Unit:=do
 zL (x.t.kind==5&&x.t.dims==0&&Yh g x.t.index==3) 8
 let d:=mAt g ((methodsOf g x.t.index).headD 0)
 let f ←YU
 let o ←YU
 zL (tyB f ⟨9,f.index,0,false⟩&&decide (0≤f.index)&&decide (f.index < g.methods.length)) 10
 let c:=mAt g f.index
 zL (tyB c.ret d.ret&&c.params.length==d.params.length) 10
 zL (sameAll c.params d.params) 10
 let this:=VK (Yh g c.owner) (qL c.flags 1) c.owner
 if this.2 then zL (!this.1.ref&&ZO g o this.1) 10 else zL (tyB o (kTy 8)) 10
 yX m.max [x.t]
def ZA (g:Img) (m:Me) (op:Int):SM Unit:=do
 if op==46 then do (if m.ret.kind != 1 then YL g m.ret else pure ());emptyS 9
 else if op==69 then do let t ←YU;zL (object t) 10
 else if op==73 then do YL g (kTy 2);emptyS 9
 else pure ()
 zcb
def yK (g:Img) (m:Me) (x:Ins):SM Unit :=
 if x.op==8 then yX m.max [kTy 2]
 else if x.op==9||x.op==74 then yX m.max [kTy 3]
 else if x.op==10 then yX m.max [kTy 8]
 else if x.op==11 then do let t ←YU;yX m.max [t,t]
 else if x.op==12 then do let _ ←YU;pure ()
 else if x.op==75 then YL g (kTy 3)
 else if x.op==67 then do zL (!qL (mAt g x.arg).flags 4&&!qL (mAt g x.arg).flags 16) 8;yX m.max [⟨9,x.arg,0,false⟩]
 else pure ()
def doS (g:Img) (ar:List Ty) (m:Me) (x:Ins):SM Unit :=
 if decide (2≤x.op)&&decide (x.op≤7) then qZ g ar m x
 else if decide (13≤x.op)&&decide (x.op≤33) then qF g m x.op
 else if decide (34≤x.op)&&decide (x.op≤42) then Zy x.op
 else if decide (43≤x.op)&&decide (x.op≤45) then qK g m x
 else if decide (48≤x.op)&&decide (x.op≤53) then yH g m x
 else if decide (54≤x.op)&&decide (x.op≤56) then Zd g m x
 else if decide (57≤x.op)&&decide (x.op≤61) then yF g m x
 else if decide (62≤x.op)&&decide (x.op≤66) then yA g m x
 else if x.op==68 then yu g m x
 else if x.op==46||decide (69≤x.op)&&decide (x.op≤73) then ZA g m x.op
 else yK g m x
def qm (m:Me) (a:Int):Ins:=m.code.getD a.toNat default
def stepS (g:Img) (mi at_:Int) (l:List Ty):Except Int (Unit × List Ty):=doS g (Xp g (mAt g mi)) (mAt g mi) (qm (mAt g mi) at_) l
abbrev zZ (g:Img):List PV:=[.slc 4 (g.types.map ZB) false,.slc 7 (g.fields.map Yo) false,.slc 12 (g.methods.map yh) false,pi g.entry]
abbrev zhi (m:Me):List PV:=[ps m.name,pi m.owner,pi m.flags,tys m.params,pi m.ret.kind,pi m.ret.index,pi m.ret.dims,pb m.ret.ref,tys m.locals,pi m.max,.slc 6 (m.code.map qx) false,.slc 10 (m.clauses.map Zg) false]
abbrev zcm (x:Ins):List PV:=[pi x.op,pi x.arg,pi x.t.kind,pi x.t.index,pi x.t.dims,pb x.t.ref]
abbrev yO (t:Ty):List PV:=[pi t.kind,pi t.index,pi t.dims,pb t.ref]
structure RC where
 g:Img
 m:Me
 ar:List Ty
 x:Ins
abbrev XM (c:RC) (l:List Ty):HE:=.cell (.agg ((zZ c.g++(zhi c.m++(tys c.ar::(zcm c.x++[tys l])))).map .pv))
abbrev VF (c:RC):HE:=.cell (.agg ((zZ c.g++(zhi c.m++(tys c.ar::zcm c.x))).map .pv++[.any1]))
abbrev zhs (u:Value):HEnv:=[(1000,.pin (.own 0) u)]
abbrev yN (u:Value) (c:RC) (l:List Ty):HEnv:=(0,XM c l)::zhs u
abbrev flt (e:Int):Value:=.iface 105 (.int .i64 e)
def zvO {α:Type} (u:Value) (c:RC) (val:α→AV):Except Int (α × List Ty)→Out
 | .error e=>.pan (flt e)
 | .ok p=>.ret (val p.1) (yN u c p.2)
abbrev uV:Unit→AV:=fun _=>.pv (.tup [])
abbrev tV:Ty→AV:=fun t=>.pv (yJ t)
def XC {α:Type} (f:FuncId) (args:List AV) (c:RC) (act:SM α) (val:α→AV) (l:List Ty):Prop:=∀ u,Qe Tryz.prog f (.box 0 0::args) (yN u c l) (zvO u c val (act l))
theorem XC.ok {α:Type} {f:FuncId} {args:List AV} {c:RC} {act:SM α} {val:α→AV} {l l':List Ty} {a:α} (h:XC f args c act val l) (e:act l=.ok (a,l')):∀ us,ACallM Tryz.prog f (.box 0 0::args) ([(0,XM c l)]++qE us [0]) (val a) ([(0,XM c l')]++qE us [0]):=fun us=>by
 have:=h (us 0);rw [e] at this;exact this
theorem XC.bad {α:Type} {f:FuncId} {args:List AV} {c:RC} {act:SM α} {val:α→AV} {l:List Ty} {e:Int} (h:XC f args c act val l) (he:act l=.error e) (u:Value):ACallPan Tryz.prog f (.box 0 0::args) (yN u c l) (flt e):=by
 have:=h u;rw [he] at this;exact this
end Go.Cg
