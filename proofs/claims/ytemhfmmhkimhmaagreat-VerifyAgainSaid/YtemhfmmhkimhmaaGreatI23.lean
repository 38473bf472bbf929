/- A part of the walks by abstract values: no statement of its own. -/
import Derived.Test.YtemhfmmhkimhmaaGreatI21
import Derived.Test.YtemhfmmhkimhmaaGreatI22
import Derived.Test.YtemhfmmhkimhmaaGreatI13
import Derived.Test.YtemhfmmhkimhmaaGreatI8
import Derived.Test.YtemhfmmhkimhmaaGreatI12
set_option linter.unusedVariables false
set_option linter.unusedSimpArgs false
namespace Go.Cg
open Go.Proofs
set_option maxHeartbeats 20000000
structure Fm (g:Img):Prop where
 n:g.types.length<=32
 faces:∀ td∈g.types,td.faces.length<=4/\∀ f∈td.faces,0<=f/\f < g.types.length
theorem zcV {g:Img} (h:yh g=true):Fm g :=
 ⟨(yg h).1,fun td hm=>let ⟨_,_,_,_,h5,h6⟩:=YB ((yg h).2.2.2 td hm);⟨h5,h6⟩⟩
theorem zbb {g:Img} {t:Int} {td:TD} (h:typeAt g t=some td):td∈g.types:=by
 unfold typeAt at h;split at h
 ·exact List.mem_of_getElem? h
 ·cases h
theorem Fm.at {g:Img} (h:Fm g) (t:Int):(yP g t).length<=4/\∀ f∈yP g t,0<=f/\f < g.types.length:=by
 unfold yP;cases ht:typeAt g t with
 | none=>simp
 | some td=>exact h.faces td (zbb ht)
theorem VZ {g:Img} {t:Int} (h:0<=t/\t < g.types.length):there g t=true:=by
 obtain ⟨td,htd⟩:=Yv h;exact (Yf g t).2 ⟨td,htd⟩
def Yw (g:Img) (t:Int):List Int:=sortL (Wn g.types.length (yP g) ((up g t).flatMap (yP g)))
theorem zhj (g:Img) (t:Int) (hF:Fm g):ACall Tryz.prog 76 [zK g,pi t] (ints (Yw g t)):=by
 refine zh zf Tryz.func76 rfl zws Tryz.ntmps76 zwy63 _ rfl (fun hw gB hgB=>?_);have hn:=hF.n;have hui:=WS g t;have hul:=ZF _ _ hui.1 hui.2
 repeat' (first|(refine shC ?_;first|refine zy rfl (zJ rfl rfl (YZ g t zwy62)) rfl rfl ?_|refine zq rfl (zJ rfl rfl (YZ g t zwy62)) rfl rfl ?_)|refine sA ?_|refine sC (fun _=>?_) (fun _=>?_)|fail)
 refine Za (t:=5) 0 3 1 zwy69 rfl rfl ?_;refine zL (fun x:Nat × List Int=>[(2,.pv (.ptr (zK g) 0)),(5,.own 0),(10,.pv (ints (up g t))),(11,.pv (pi (up g t).length)),(12,.pv (pi x.1))]) (fun x=>[(0,.row 3 1 (x.2.map pi))])
  (fun x=>x.1<=(up g t).length/\x.2.length<=4 * x.1/\(∀ y∈x.2,0<=y/\y < g.types.length)/\x.2++((up g t).drop x.1).flatMap (yP g)=(up g t).flatMap (yP g)) (fun x=>(up g t).length - x.1) (0,[]) ⟨by simp,by simp,by simp,rfl⟩ (tS) ⟨aB zC,rfl⟩ ?_
 rintro ⟨k,out⟩ ⟨hk,hol,hrg,hr⟩;simp only at hk hol hrg hr;by_cases hlt:k < (up g t).length
 ·have he:=qI hlt;obtain ⟨hf1,hf2⟩:=hF.at (up g t)[k];rw [drop_cons hlt,List.flatMap_cons] at hr
  repeat' (first|(refine shC ?_;first|refine zy rfl (zJ rfl rfl (VY g _ zwy62 (fun f hf=>VZ (hf2 f hf)))) rfl rfl ?_|refine zq rfl (zJ rfl rfl (VY g _ zwy62 (fun f hf=>VZ (hf2 f hf)))) rfl rfl ?_)|(refine shX ?_;first|refine qX he ?_)|(refine yj ?_;first|refine yV zf rfl rfl rfl rfl rfl rfl rfl zwy72 zwy64 rfl rfl ?_)|refine sK ?_|refine sC (fun _=>?_) (fun _=>?_)|fail)
  refine ⟨(k + 1,out++yP g (up g t)[k]),⟨hlt,by simp;omega,?_,by simpa using hr⟩,tD,tS,⟨qH rfl zwy63 zC,rfl⟩⟩;intro y hy;simp only [List.mem_append] at hy;rcases hy with hy|hy
  ·exact hrg y hy
  ·exact hf2 y hy
 ·rw [drop_end zwy62] at hr;simp only [List.flatMap_nil,List.append_nil] at hr;subst hr;have c1:=zeA g.types.length zwy62 ((up g t).flatMap (yP g)) (yP g) 113 [] [.ptr (zK g) 0] hrg zwy62
   (fun x h0 h1=>zmN g x (by have:=(hF.at x).1;omega) (fun f hf=>VZ ((hF.at x).2 f hf))) (fun x h0 h1=>⟨by have:=(hF.at x).1;omega,(hF.at x).2⟩)
  repeat' (first|(refine shC ?_;first|refine qC c1 ?_)|refine sK ?_|refine sC (fun _=>?_) (fun _=>?_)|fail)
  exact retq rfl rfl
def Vm (g:Img) (a b:Int):Bool:=decide (b∈up g a)||decide (b∈Yw g a)
theorem zmZ (g:Img) (a b:Int) (hF:Fm g):ACall Tryz.prog 189 [zK g,pi a,pi b] (pb (Vm g a b)):=by
 refine zh zf Tryz.func189 rfl zws Tryz.ntmps189 zwy63 _ rfl (fun hw gB hgB=>?_);have hn:=hF.n
 repeat' (first|(refine shC ?_;first|refine zy rfl (zJ rfl rfl (YZ g a zwy62)) rfl rfl ?_|refine zq rfl (zJ rfl rfl (YZ g a zwy62)) rfl rfl ?_|refine qC (Qc _ _) ?_|refine qC (zhj g a hF) ?_)|refine sA ?_|refine sC (fun _=>?_) (fun _=>?_)|fail)
 all_goals first|(refine ak ?_;first|(simp only [zn,Vm,BL,List.length_map] at *;simp only [*,BL,List.length_map];done)|(simp_all [zn,Vm];done)|(simp_all [zn,Vm];omega)|(simp_all [zn,Vm];intros;omega))|(refine Yi rfl ?_;first|(simp only [zn,Vm,BL,List.length_map] at *;simp only [*,BL,List.length_map];done)|(simp_all [zn,Vm];done)|(simp_all [zn,Vm];omega)|(simp_all [zn,Vm];intros;omega))|skip
def zab (g:Img) (a b:Ty):Bool :=
 if tyB a b then true
 else if !object a||!object b then false
 else if plain a 8||plain b 4 then true
 else if plain a 5&&plain b 5 then Vm g a.index b.index
 else plain a 7&&tyB b ⟨7,0,0,false⟩
theorem Ws (g:Img) (a b:Ty) (hF:Fm g):ACall Tryz.prog 139 [zK g,yI a,yI b] (pb (zab g a b)):=by
 refine zh zf Tryz.func139 rfl zws Tryz.ntmps139 zwy63 _ rfl (fun hw gB hgB=>?_)
 repeat' (first|(refine shC ?_;first|refine qC (qY a) ?_|refine qC (qY b) ?_|refine qC (Xj a 8) ?_|refine qC (Xj b 4) ?_|refine qC (Xj a 5) ?_|refine qC (Xj b 5) ?_|refine qC (zmZ g _ _ hF) ?_|refine qC (Xj a 7) ?_|refine qC zh6 ?_)|refine sA ?_|refine sC (fun _=>?_) (fun _=>?_)|fail)
 all_goals refine ak ?_
 all_goals first|(simp only [zn,zab,tyB, *];done)|(simp only [zn,zab,tyB, *];rfl)
def zfC (g:Img) (a b:Ty):Ty :=
 match (up g a.index).find? (fun t=>decide (t∈up g b.index)) with|some t=>⟨5,t,0,false⟩|none=>⟨4,0,0,false⟩
def QK (g:Img) (a b:Ty):Ty × Int :=
 if zab g b a then (a,0) else if zab g a b then (b,0)
 else if !object a||!object b then (ty0,14)
 else if plain a 7&&plain b 7 then (⟨7,0,0,false⟩,0)
 else if zgn g a&&zgn g b then (zfC g a b,0)
 else (⟨4,0,0,false⟩,0)
theorem zi2 {g:Img} {a b:Ty} {x:Ty × Int} (h:QK g a b=x):PV.tup [yI x.1,pi x.2]=.tup [yI (QK g a b).1,pi (QK g a b).2]:=by rw [h]
theorem zwk2 {G:Prop} (h:G:=by repeat' (first|(refine shC ?_;first|(have:=b0;refine qC c3 ?_)|(have:=b1;refine qC zg1 ?_))|(refine shX ?_;first|(have:=b0;refine qX he ?_))|refine sK ?_|refine sC (fun _=>?_) (fun _=>?_)|(have:=b2;exact retq rfl (Eq.trans (b:=PV.tup [yI ⟨5,(up g a.index)[k],0,false⟩,pi 0]) rfl (zi2 (x:=(⟨5,(up g a.index)[k],0,false⟩,0)) (by rw [hmt,hr]))))|(have:=b1;exact retq rfl (Eq.trans (b:=PV.tup [yI ⟨4,0,0,false⟩,pi 0]) rfl (zi2 (x:=(⟨4,0,0,false⟩,0)) (by rw [hmt,hr];rfl))))|exact ⟨k + 1,⟨hlt,hr⟩,tD,tS,⟨aB zC,rfl⟩⟩|fail)):G:=h
theorem zne (g:Img) (a b:Ty) (hF:Fm g):ACall Tryz.prog 140 [zK g,yI a,yI b] (.tup [yI (QK g a b).1,pi (QK g a b).2]):=by
 refine zh zf Tryz.func140 rfl zws Tryz.ntmps140 zwy63 _ rfl (fun hw gB hgB=>?_);have hn:=hF.n;have hui:=WS g a.index;have hul:=ZF _ _ hui.1 hui.2
 repeat' (first|(refine shC ?_;first|refine qC (Ws g b a hF) ?_|refine qC (Ws g a b hF) ?_|refine qC (qY a) ?_|refine qC (qY b) ?_|refine qC (Xj a 7) ?_|refine qC (Xj b 7) ?_|refine qC zh6 ?_|refine qC (ziW g a) ?_|refine qC (ziW g b) ?_|refine zy rfl (zJ rfl rfl (YZ g _ zwy62)) rfl rfl ?_|refine zq rfl (zJ rfl rfl (YZ g _ zwy62)) rfl rfl ?_|refine qC zg1 ?_)|refine sK ?_|refine sC (fun _=>?_) (fun _=>?_)|fail)
 all_goals first
  | (refine retq rfl (Eq.trans (b:=PV.tup [yI a,pi 0]) rfl (zi2 (x:=(a,0)) ?_));simp only [QK, *];rfl)
  | (refine retq rfl (Eq.trans (b:=PV.tup [yI b,pi 0]) rfl (zi2 (x:=(b,0)) ?_));simp only [QK, *];rfl)
  | (refine retq rfl (Eq.trans (b:=PV.tup [yI ty0,pi 14]) rfl (zi2 (x:=(ty0,14)) ?_));simp only [QK, *];rfl)
  | (refine retq rfl (Eq.trans (b:=PV.tup [yI ⟨7,0,0,false⟩,pi 0]) rfl (zi2 (x:=(⟨7,0,0,false⟩,0)) ?_));simp only [QK, *];rfl)
  | (refine retq rfl (Eq.trans (b:=PV.tup [yI ⟨4,0,0,false⟩,pi 0]) rfl (zi2 (x:=(⟨4,0,0,false⟩,0)) ?_));simp only [QK, *];rfl)
  | skip
 all_goals
  have hmt:QK g a b=(zfC g a b,0):=by simp only [QK, *];rfl
  refine zL (fun k:Nat=>[(6,.box 0 0),(8,.pv (ints (up g b.index))),(56,.pv (ints (up g a.index))),(57,.pv (pi (up g a.index).length)),(58,.pv (pi k))]) (fun _=>[(0,.cell (.pv (yI ty0)))])
   (fun k=>k<=(up g a.index).length/\zfC g a b=(match ((up g a.index).drop k).find? (fun t=>decide (t∈up g b.index)) with|some t=>⟨5,t,0,false⟩|none=>⟨4,0,0,false⟩)) (fun k=>(up g a.index).length - k) 0 ⟨by simp,rfl⟩ (tS) ⟨aB zC,rfl⟩ ?_
  rintro k ⟨hk,hr⟩;by_cases hlt:k < (up g a.index).length
  ·have he:=qI hlt;rw [drop_cons hlt,List.find?_cons] at hr;have c3:=Qc (up g b.index) (up g a.index)[k];cases hm:decide ((up g a.index)[k]∈up g b.index)
   ·rw [hm] at c3 hr;have b0:=();exact zwk2
   ·rw [hm] at c3 hr;have b0:=();have b2:=();exact zwk2
  ·rw [drop_end zwy62] at hr;have b1:=();exact zwk2
set_option maxHeartbeats 20000000
theorem zeN (s:ByteArray):ACall Tryz.prog 252 [ps s] (pb (zal s)):=by
 refine zh zf Tryz.func252 rfl zws Tryz.ntmps252 zwy63 _ rfl (fun hw gB hgB=>?_);have hl:=zqK hw.1;have he:(s.toList==(⟨#[]⟩:ByteArray).toList)=decide (s.size=0):=by
  rw [ByteArray.toList_eq,ByteArray.toList_eq];have hs:s.size=s.data.toList.length:=by simp
  rw [hs];cases s.data.toList <;> simp
 have hfin:s.size≠0->s.size<=24->zal s=s.data.toList.all zlT:=fun a b=>by
  unfold zal;rw [decide_eq_true zwy62,decide_eq_true zwy62];simp
 repeat' (first|refine sK ?_|refine sC (fun _=>?_) (fun _=>?_)|fail)
 all_goals first
  | (refine ak ?_;simp_all [zn,zal];done)
  | (refine ak ?_;simp_all [zn,zal];omega)
  | skip
 refine zL (fun k:Nat=>[(0,.pv (ps s)),(12,.pv (pi s.size)),(13,.pv (pi k))]) (fun _=>[]) (fun k=>k<=s.size/\zal s=(s.data.toList.drop k).all zlT) (fun k=>s.size - k) 0 ⟨by simp,by rw [hfin (by simp_all) (by simp_all <;> omega)];simp⟩ (tS) tH ?_;rintro k ⟨hk,hr⟩;by_cases hlt:k < s.size
 ·have hb:=ze1 hlt;rw [YJ zwy80] at hr
  repeat' (first|(refine shI ?_;first|refine zy rfl (VF zf rfl rfl rfl rfl zwy62 hb) rfl rfl ?_|refine zq rfl (VF zf rfl rfl rfl rfl zwy62 hb) rfl rfl ?_)|refine sK ?_|refine sC (fun _=>?_) (fun _=>?_)|fail)
  all_goals first
   | exact ⟨k + 1,⟨by omega,by simp_all [zlT]⟩,tD,tS,tH⟩
   | (refine ak ?_;simp_all [zn,zlT];done)
 ·rw [drop_end zwy64] at hr
  repeat' (first|refine sK ?_|refine sC (fun _=>?_) (fun _=>?_)|fail)
  all_goals (refine ak ?_;simp_all [zn];done)
theorem zjt (n x:Int):ACall Tryz.prog 251 [pi x,.ptr (pi n) 0] (pb (!XK n x)):=by
 refine zh zf Tryz.func251 rfl zws Tryz.ntmps251 zwy63 _ rfl (fun hw gB hgB=>?_)
 repeat' (first|refine sA ?_|refine sC (fun _=>?_) (fun _=>?_)|fail)
 all_goals (refine ak ?_;simp only [zn,List.cons.injEq,PV.base.injEq,Value.bool.injEq];rw [Bool.eq_iff_iff];simp_all [XK] <;> omega)
theorem Wq (l:List Int) (p:Int->Bool) (f:FuncId) (first cap:List PV) (hp:∀ x∈l,ACall Tryz.prog f (first++[pi x]++cap) (pb (p x))):ACall Tryz.prog 74 [ints l,.fn (.func f) first cap] (pb (l.any p)):=by
 refine zh zf Tryz.func74 rfl zws Tryz.ntmps74 zwy63 _ rfl (fun hw gB hgB=>?_);have c1:=za2 l p f first cap hp
 repeat' (first|(refine shC ?_;first|refine qC c1 ?_)|refine sA ?_|refine sC (fun _=>?_) (fun _=>?_)|fail)
 refine ak ?_;have:decide (0<=zd8 l p)=l.any p:=by
  unfold zd8;cases h:l.any p <;> simp
 simp [zn,this]
def zsU (l:List TD) (p:TD->Bool):Int:=if l.any p then ((l.findIdx p:Nat):Int) else -1
theorem zhx (l:List TD) (p:TD->Bool) (f:FuncId) (first cap:List PV) (hp:∀ x∈l,ACall Tryz.prog f (first++[Zw x]++cap) (pb (p x))):ACall Tryz.prog 266 [.slc 4 (l.map Zw) false,.fn (.func f) first cap] (pi (zsU l p)):=by
 refine zh zf Tryz.func266 rfl zws Tryz.ntmps266 zwy63 _ rfl (fun hw gB hgB=>?_);have hl:l.length<=9223372036854775807:=by have:=hw.1;simp [PV.lenOk,lensOk,maxLen] at this;exact this.1
 repeat' (first|refine sA ?_|refine sC (fun _=>?_) (fun _=>?_)|fail)
 refine zL (fun k:Nat=>[(0,.pv (.slc 4 (l.map Zw) false)),(1,.pv (.fn (.func f) first cap)),(7,.pv (pi l.length)),(8,.pv (pi k))]) (fun _=>[]) (fun k=>k<=l.length/\∀ j (h:j < k) (h2:j < l.length),p l[j]=false) (fun k=>l.length - k) 0 ⟨by omega,fun j h=>by omega⟩ (tS) tH ?_;rintro k ⟨hk,hno⟩;by_cases hlt:k < l.length
 ·have he:=zS (f:=Zw) hlt;have c1:=hp _ (List.getElem_mem hlt);cases hpx:p l[k]
  ·rw [hpx] at c1
   repeat' (first|(refine shC ?_;first|refine qV (c1) ?_)|(refine shX ?_;first|refine qX he ?_)|refine sK ?_|refine sC (fun _=>?_) (fun _=>?_)|fail)
   exact ⟨k + 1,⟨hlt,fun j hj h2=>by
    by_cases e:j=k
    ·subst e;exact hpx
    ·exact hno j zwy62 h2⟩,tD,tS,tH⟩
  ·rw [hpx] at c1;have hi:l.findIdx p=k:=by
    rw [List.findIdx_eq hlt];exact ⟨hpx,fun j hj=>hno j hj zwy62⟩
   have ha:l.any p=true:=List.any_eq_true.2 ⟨_,List.getElem_mem hlt,hpx⟩
   repeat' (first|(refine shC ?_;first|refine qV (c1) ?_)|(refine shX ?_;first|refine qX he ?_)|refine sK ?_|refine sC (fun _=>?_) (fun _=>?_)|fail)
   exact retq rfl (by simp [zn,zsU,ha,hi])
 ·have ha:l.any p=false:=by
   rw [List.any_eq_false];intro x hx;obtain ⟨j,hj,rfl⟩:=List.getElem_of_mem hx;simp [hno j zwy62 hj]
  repeat' (first|refine sK ?_|refine sC (fun _=>?_) (fun _=>?_)|fail)
  exact retq rfl (by simp [zn,zsU,ha])
theorem zeL (l:List TD) (p:TD->Bool) (f:FuncId) (first cap:List PV) (hp:∀ x∈l,ACall Tryz.prog f (first++[Zw x]++cap) (pb (p x))):ACall Tryz.prog 249 [.slc 4 (l.map Zw) false,.fn (.func f) first cap] (pb (l.any p)):=by
 refine zh zf Tryz.func249 rfl zws Tryz.ntmps249 zwy63 _ rfl (fun hw gB hgB=>?_);have c1:=zhx l p f first cap hp
 repeat' (first|(refine shC ?_;first|refine qC c1 ?_)|refine sA ?_|refine sC (fun _=>?_) (fun _=>?_)|fail)
 refine ak ?_;have:decide (0<=zsU l p)=l.any p:=by
  unfold zsU;cases h:l.any p <;> simp
 simp [zn,this]
theorem zox (t:TD) (n:Int):ACall Tryz.prog 250 [Zw t,.ptr (pi n) 0] (pb (!Zm t n)):=by
 refine zh zf Tryz.func250 rfl zws Tryz.ntmps250 zwy63 _ rfl (fun hw gB hgB=>?_);have c1:=Wq t.faces (fun x=>!XK n x) 251 [] [.ptr (pi n) 0] (fun x _=>zjt n x);have ha:t.faces.any (fun x=>!XK n x)=!t.faces.all (XK n):=by rw [List.not_all_eq_any_not]
 rw [ha] at c1
 repeat' (first|(refine shC ?_;first|refine qC c1 ?_|refine qC (zeN _) ?_)|refine sA ?_|refine sC (fun _=>?_) (fun _=>?_)|fail)
 all_goals first|(refine ak ?_;first|(simp only [zn,Zm,BL,List.length_map] at *;simp only [*,BL,List.length_map];done)|(simp_all [zn,Zm];done)|(simp_all [zn,Zm];omega)|(simp_all [zn,Zm];intros;omega))|(refine Yi rfl ?_;first|(simp only [zn,Zm,BL,List.length_map] at *;simp only [*,BL,List.length_map];done)|(simp_all [zn,Zm];done)|(simp_all [zn,Zm];omega)|(simp_all [zn,Zm];intros;omega))|skip
def zae (g:Img):Bool:=decide ((g.types.length:Int)<=32)&&g.types.all (fun t=>Zm t g.types.length)
theorem zp7 (g:Img):ACall Tryz.prog 222 [zK g] (pb (zae g)):=by
 refine zh zf Tryz.func222 rfl zws Tryz.ntmps222 zwy63 _ rfl (fun hw gB hgB=>?_);have c1:=zeL g.types (fun t=>!Zm t ((g.types.map Zw).length:Nat)) 250 [] [.ptr (pi ((g.types.map Zw).length:Nat)) 0] (fun x _=>zox x _);rw [<-List.not_all_eq_any_not] at c1
 repeat' (first|refine zb6 (t:=3) rfl rfl rfl ?_|(refine shC ?_;first|refine qC c1 ?_)|refine sA ?_|refine sC (fun _=>?_) (fun _=>?_)|fail)
 all_goals first|(refine ak ?_;first|(simp only [zn,zae,BL,List.length_map] at *;simp only [*,BL,List.length_map];done)|(simp_all [zn,zae];done)|(simp_all [zn,zae];omega)|(simp_all [zn,zae];intros;omega))|(refine Yi rfl ?_;first|(simp only [zn,zae,BL,List.length_map] at *;simp only [*,BL,List.length_map];done)|(simp_all [zn,zae];done)|(simp_all [zn,zae];omega)|(simp_all [zn,zae];intros;omega))|skip
set_option maxHeartbeats 20000000
def zdX (op:Int):ByteArray × Int × Int :=
 if op==62 then (⟨#[98,111,120]⟩,8,0)
 else if op==63 then (⟨#[117,110,98,111,120]⟩,8,0)
 else if op==64 then (⟨#[117,110,98,111,120,97,110,121]⟩,8,0)
 else if op==65 then (⟨#[99,97,115,116,99,108,97,115,115]⟩,8,0)
 else if op==66 then (⟨#[105,115,105,110,115,116]⟩,8,0)
 else if op==67 then (⟨#[108,100,102,116,110]⟩,6,0)
 else if op==68 then (⟨#[110,101,119,100,101,108]⟩,8,0)
 else if op==69 then (⟨#[116,104,114,111,119]⟩,0,3)
 else if op==70 then (⟨#[114,101,116,104,114,111,119]⟩,0,3)
 else if op==71 then (⟨#[108,101,97,118,101]⟩,5,4)
 else if op==72 then (⟨#[101,110,100,102,105,110,97,108,108,121]⟩,0,5)
 else if op==73 then (⟨#[101,110,100,102,105,108,116,101,114]⟩,0,5)
 else if op==74 then (⟨#[105,110]⟩,0,0)
 else if op==75 then (⟨#[111,117,116]⟩,0,0)
 else (⟨#[]⟩,0,0)
theorem zl7 (op:Int):ACall Tryz.prog 256 [pi op] (zcz (zdX op).1 (zdX op).2.1 (zdX op).2.2):=by
 refine zh zf Tryz.func256 rfl zws Tryz.ntmps256 zwy63 _ rfl (fun hw gB hgB=>?_)
 repeat' (first|refine sA ?_|refine sC (fun _=>?_) (fun _=>?_)|fail)
 all_goals (refine ak ?_;simp only [zn,zdX, *];rfl)
def zdQ (op:Int):ByteArray × Int × Int :=
 if op==48 then (⟨#[108,100,102,108,100]⟩,7,0)
 else if op==49 then (⟨#[115,116,102,108,100]⟩,7,0)
 else if op==50 then (⟨#[108,100,102,108,100,97]⟩,7,0)
 else if op==51 then (⟨#[108,100,115,102,108,100]⟩,7,0)
 else if op==52 then (⟨#[115,116,115,102,108,100]⟩,7,0)
 else if op==53 then (⟨#[108,100,115,102,108,100,97]⟩,7,0)
 else if op==54 then (⟨#[108,100,111,98,106]⟩,8,0)
 else if op==55 then (⟨#[115,116,111,98,106]⟩,8,0)
 else if op==56 then (⟨#[105,110,105,116,111,98,106]⟩,8,0)
 else if op==57 then (⟨#[110,101,119,97,114,114]⟩,8,0)
 else if op==58 then (⟨#[108,100,108,101,110]⟩,0,0)
 else if op==59 then (⟨#[108,100,101,108,101,109]⟩,8,0)
 else if op==60 then (⟨#[115,116,101,108,101,109]⟩,8,0)
 else if op==61 then (⟨#[108,100,101,108,101,109,97]⟩,8,0)
 else zdX op
theorem zli (op:Int):ACall Tryz.prog 232 [pi op] (zcz (zdQ op).1 (zdQ op).2.1 (zdQ op).2.2):=by
 refine zh zf Tryz.func232 rfl zws Tryz.ntmps232 zwy63 _ rfl (fun hw gB hgB=>?_)
 repeat' (first|(refine shC ?_;first|refine qC (zl7 op) ?_)|refine sA ?_|refine sC (fun _=>?_) (fun _=>?_)|fail)
 all_goals (refine ak ?_;simp only [zn,zdQ, *];rfl)
def zf1 (op:Int):ByteArray × Int × Int :=
 if op==34 then (⟨#[98,114]⟩,5,1)
 else if op==35 then (⟨#[98,114,116,114,117,101]⟩,5,2)
 else if op==36 then (⟨#[98,114,102,97,108,115,101]⟩,5,2)
 else if op==37 then (⟨#[98,101,113]⟩,5,2)
 else if op==38 then (⟨#[98,103,101]⟩,5,2)
 else if op==39 then (⟨#[98,103,116]⟩,5,2)
 else if op==40 then (⟨#[98,108,101]⟩,5,2)
 else if op==41 then (⟨#[98,108,116]⟩,5,2)
 else if op==42 then (⟨#[98,110,101]⟩,5,2)
 else if op==43 then (⟨#[99,97,108,108]⟩,6,0)
 else if op==44 then (⟨#[99,97,108,108,118,105,114,116]⟩,6,0)
 else if op==45 then (⟨#[110,101,119,111,98,106]⟩,6,0)
 else if op==46 then (⟨#[114,101,116]⟩,0,3)
 else if op==47 then (⟨#[116,97,105,108]⟩,0,0)
 else zdQ op
theorem znf (op:Int):ACall Tryz.prog 206 [pi op] (zcz (zf1 op).1 (zf1 op).2.1 (zf1 op).2.2):=by
 refine zh zf Tryz.func206 rfl zws Tryz.ntmps206 zwy63 _ rfl (fun hw gB hgB=>?_)
 repeat' (first|(refine shC ?_;first|refine qC (zli op) ?_)|refine sA ?_|refine sC (fun _=>?_) (fun _=>?_)|fail)
 all_goals (refine ak ?_;simp only [zn,zf1, *];rfl)
def zkf (op:Int):ByteArray × Int × Int :=
 if op==13 then (⟨#[97,100,100]⟩,0,0)
 else if op==14 then (⟨#[115,117,98]⟩,0,0)
 else if op==15 then (⟨#[109,117,108]⟩,0,0)
 else if op==16 then (⟨#[100,105,118]⟩,0,0)
 else if op==17 then (⟨#[114,101,109]⟩,0,0)
 else if op==18 then (⟨#[97,110,100]⟩,0,0)
 else if op==19 then (⟨#[111,114]⟩,0,0)
 else if op==20 then (⟨#[120,111,114]⟩,0,0)
 else if op==21 then (⟨#[115,104,108]⟩,0,0)
 else if op==22 then (⟨#[115,104,114]⟩,0,0)
 else if op==23 then (⟨#[110,101,103]⟩,0,0)
 else if op==24 then (⟨#[110,111,116]⟩,0,0)
 else if op==25 then (⟨#[97,100,100,111,118,102]⟩,0,0)
 else if op==26 then (⟨#[115,117,98,111,118,102]⟩,0,0)
 else if op==27 then (⟨#[109,117,108,111,118,102]⟩,0,0)
 else if op==28 then (⟨#[99,111,110,118,52]⟩,0,0)
 else if op==29 then (⟨#[99,111,110,118,56]⟩,0,0)
 else if op==30 then (⟨#[99,111,110,118,111,118,102,52]⟩,0,0)
 else if op==31 then (⟨#[99,101,113]⟩,0,0)
 else if op==32 then (⟨#[99,103,116]⟩,0,0)
 else if op==33 then (⟨#[99,108,116]⟩,0,0)
 else zf1 op
theorem zo5 (op:Int):ACall Tryz.prog 148 [pi op] (zcz (zkf op).1 (zkf op).2.1 (zkf op).2.2):=by
 refine zh zf Tryz.func148 rfl zws Tryz.ntmps148 zwy63 _ rfl (fun hw gB hgB=>?_)
 repeat' (first|(refine shC ?_;first|refine qC (znf op) ?_)|refine sA ?_|refine sC (fun _=>?_) (fun _=>?_)|fail)
 all_goals (refine ak ?_;simp only [zn,zkf, *];rfl)
def ofI (op:Int):ByteArray × Int × Int :=
 if op==1 then (⟨#[110,111,112]⟩,0,0)
 else if op==2 then (⟨#[108,100,97,114,103]⟩,4,0)
 else if op==3 then (⟨#[115,116,97,114,103]⟩,4,0)
 else if op==4 then (⟨#[108,100,97,114,103,97]⟩,4,0)
 else if op==5 then (⟨#[108,100,108,111,99]⟩,3,0)
 else if op==6 then (⟨#[115,116,108,111,99]⟩,3,0)
 else if op==7 then (⟨#[108,100,108,111,99,97]⟩,3,0)
 else if op==8 then (⟨#[108,100,99,52]⟩,1,0)
 else if op==9 then (⟨#[108,100,99,56]⟩,2,0)
 else if op==10 then (⟨#[108,100,110,117,108,108]⟩,0,0)
 else if op==11 then (⟨#[100,117,112]⟩,0,0)
 else if op==12 then (⟨#[112,111,112]⟩,0,0)
 else zkf op
theorem zma (op:Int):ACall Tryz.prog 105 [pi op] (zcz (ofI op).1 (ofI op).2.1 (ofI op).2.2):=by
 refine zh zf Tryz.func105 rfl zws Tryz.ntmps105 zwy63 _ rfl (fun hw gB hgB=>?_)
 repeat' (first|(refine shC ?_;first|refine qC (zo5 op) ?_)|refine sA ?_|refine sC (fun _=>?_) (fun _=>?_)|fail)
 all_goals (refine ak ?_;simp only [zn,ofI, *];rfl)
set_option maxHeartbeats 20000000
def zgg (t:Ty):Bool :=
 if t.kind==1 then t.index==0&&(t.dims==0&&(t.ref==false&&true))
 else if t.kind==2||t.kind==3||t.kind==4 then decide (0<=t.index)&&decide (t.index<=0)&&decide (0<=t.dims)&&decide (t.dims<=3)
 else if t.kind==5||t.kind==6 then decide (0<=t.index)&&decide (t.index<=31)&&decide (0<=t.dims)&&decide (t.dims<=3)
 else if t.kind==7 then decide (0<=t.index)&&decide (t.index<=7)&&decide (0<=t.dims)&&decide (t.dims<=3)
 else false
theorem zkp (t:Ty):zgg t=ZV t:=by
 rw [Bool.eq_iff_iff,zgg,ZV];by_cases h1:t.kind=1
 ·cases hr:t.ref <;> simp [h1] <;> omega
 ·by_cases h2:t.kind=2
  ·simp [h2];omega
  ·by_cases h3:t.kind=3
   ·simp [h3];omega
   ·by_cases h4:t.kind=4
    ·simp [h4];omega
    ·by_cases h5:t.kind=5
     ·simp [h5];omega
     ·by_cases h6:t.kind=6
      ·simp [h6];omega
      ·by_cases h7:t.kind=7
       ·simp [h7];omega
       ·simp [h1,h2,h3,h4,h5,h6,h7]
theorem zgO (t:Ty):ACall Tryz.prog 204 [yI t] (pb (zgg t)):=by
 refine zh zf Tryz.func204 rfl zws Tryz.ntmps204 zwy63 _ rfl (fun hw gB hgB=>?_)
 repeat' (first|refine sA ?_|refine sC (fun _=>?_) (fun _=>?_)|fail)
 all_goals first|(refine ak ?_;first|(simp only [zn,zgg, *];done)|(simp only [zn,zgg, *];rfl)|(simp_all [zn,zgg];done))|(trace "LEFT";trace_state)
theorem zbD (t:Ty):ACall Tryz.prog 145 [yI t] (pb (ZV t)):=by
 refine zh zf Tryz.func145 rfl zws Tryz.ntmps145 zwy63 _ rfl (fun hw gB hgB=>?_);have c1:=zgO t;rw [zkp] at c1
 repeat' (first|(refine shC ?_;first|refine qC c1 ?_)|refine sA ?_|refine sC (fun _=>?_) (fun _=>?_)|fail)
 exact retq rfl rfl
theorem znW (t:Ty):ACall Tryz.prog 290 [yI t] (pb (ZQ t 2)):=by
 refine zh zf Tryz.func290 rfl zws Tryz.ntmps290 zwy63 _ rfl (fun hw gB hgB=>?_);have c1:=zgO t;rw [zkp] at c1
 repeat' (first|(refine shC ?_;first|refine qC c1 ?_)|refine sA ?_|refine sC (fun _=>?_) (fun _=>?_)|fail)
 all_goals (refine ak ?_;simp_all [zn,ZQ];done)
theorem zhg (t:Ty):ACall Tryz.prog 282 [yI t] (pb (ZQ t 1)):=by
 refine zh zf Tryz.func282 rfl zws Tryz.ntmps282 zwy63 _ rfl (fun hw gB hgB=>?_);have c1:=znW t;have e:(ZQ t 2&&!t.ref)=ZQ t 1:=by
  simp only [ZQ];cases ZV t <;> simp
 repeat' (first|(refine shC ?_;first|refine qC c1 ?_)|refine sA ?_|refine sC (fun _=>?_) (fun _=>?_)|fail)
 all_goals (refine ak ?_;rw [<-e];simp_all [zn];done)
theorem zcf (t:Ty) (n:Int):ACall Tryz.prog 268 [yI t,pi n] (pb (zgt t n)):=by
 refine zh zf Tryz.func268 rfl zws Tryz.ntmps268 zwy63 _ rfl (fun hw gB hgB=>?_)
 repeat' (first|refine sA ?_|refine sC (fun _=>?_) (fun _=>?_)|fail)
 all_goals (first|refine ak ?_|refine Yi rfl ?_)
 all_goals (first|(simp_all [zn,zgt];done)|(simp_all [zn,zgt];omega))
theorem zmC (t:Ty) (n:Int):ACall Tryz.prog 270 [yI t,pi n] (pb (Xv t 2 n)):=by
 refine zh zf Tryz.func270 rfl zws Tryz.ntmps270 zwy63 _ rfl (fun hw gB hgB=>?_)
 repeat' (first|(refine shC ?_;first|refine qC (zbD t) ?_|refine qC (zcf t n) ?_)|refine sA ?_|refine sC (fun _=>?_) (fun _=>?_)|fail)
 all_goals (refine ak ?_;simp_all [zn,Xv,ZQ];done)
theorem zkR (t:Ty) (n:Int):ACall Tryz.prog 271 [yI t,pi n] (pb (Xv t 3 n)):=by
 refine zh zf Tryz.func271 rfl zws Tryz.ntmps271 zwy63 _ rfl (fun hw gB hgB=>?_)
 repeat' (first|(refine shC ?_;first|refine qC (zbD t) ?_|refine qC (zcf t n) ?_)|refine sA ?_|refine sC (fun _=>?_) (fun _=>?_)|fail)
 all_goals (refine ak ?_;simp_all [zn,Xv,ZQ];done)
set_option maxHeartbeats 20000000
theorem zlW (op:Int) (h1:1<=op) (h2:op<=75):(ofI op).1.size≠0/\(ofI op).2.1=yB op:=by
 have h:∀ n:Fin 76,1<=n.val->(ofI (n.val:Int)).1.size≠0/\(ofI (n.val:Int)).2.1=yB (n.val:Int):=by decide +kernel
 have:=h ⟨op.toNat,by omega⟩ zwy64;simpa [Int.toNat_of_nonneg (show 0<=op by omega)] using this
theorem zv0 (op:Int) (h:op < 1\/75 < op):ofI op=(⟨#[]⟩,0,0):=by
 have e:∀ k:Int,1<=k->k<=75->(op==k)=false:=fun k h1 h2=>by rw [beq_eq_false_iff_ne];omega
 simp [ofI,zkf,zf1,zdQ,zdX,e]
theorem zre (s:ByteArray):(s.toList==(⟨#[]⟩:ByteArray).toList)=decide (s.size=0):=by
 rw [ByteArray.toList_eq,ByteArray.toList_eq];have hs:s.size=s.data.toList.length:=by simp
 rw [hs];cases s.data.toList <;> simp
theorem ze7 (op:Int) (h1:1<=op) (h2:op<=75):ACall Tryz.prog 67 [pi op] (.tup [zcz (ofI op).1 (ofI op).2.1 (ofI op).2.2,pi 0]):=by
 refine zh zf Tryz.func67 rfl zws Tryz.ntmps67 zwy63 _ rfl (fun hw gB hgB=>?_);have c1:=zma op;have hn:=(zlW op h1 h2).1;generalize ofI op=x at c1 hn;have he:(x.1.toList==(⟨#[]⟩:ByteArray).toList)=false:=by rw [zre];simp [hn]
 repeat' (first|(refine shC ?_;first|refine qC c1 ?_)|refine sK ?_|refine sC (fun _=>?_) (fun _=>?_)|fail)
 all_goals exact retq rfl rfl
theorem zg3 (op:Int) (h:op < 1\/75 < op):ACall Tryz.prog 67 [pi op] (.tup [zcz ⟨#[]⟩ 0 0,pi 3]):=by
 refine zh zf Tryz.func67 rfl zws Tryz.ntmps67 zwy63 _ rfl (fun hw gB hgB=>?_);have c1:=zma op;rw [zv0 op h] at c1;have he:((⟨#[]⟩:ByteArray).toList==(⟨#[]⟩:ByteArray).toList)=true:=by simp
 repeat' (first|(refine shC ?_;first|refine qC c1 ?_)|refine sK ?_|refine sC (fun _=>?_) (fun _=>?_)|fail)
 all_goals exact retq rfl rfl
theorem znU (x b:Int):ACall Tryz.prog 310 [.base (.int .i64 x),.base (.int .i64 b)] (pb (decide (0<=x)&&decide (x < b))):=by
 refine zh zf Tryz.func310 rfl zws Tryz.ntmps310 zwy63 _ rfl (fun hw gB hgB=>?_)
 repeat' (first|refine sA ?_|refine sC (fun _=>?_) (fun _=>?_)|fail)
 all_goals (refine ak ?_;first|(simp_all [zn];done)|(simp_all [zn];omega))
def zis (x:Ins) (k:Int):Bool :=
 if k==0 then zbl x.t&&x.arg==0
 else if k==1 then zbl x.t&&decide (-2147483648<=x.arg)&&decide (x.arg < 2147483648)
 else if k==2 then zbl x.t
 else if k==3 then zbl x.t&&(decide (0<=x.arg)&&decide (x.arg < 12))
 else if k==4 then zbl x.t&&(decide (0<=x.arg)&&decide (x.arg < 7))
 else if k==5 then zbl x.t&&(decide (0<=x.arg)&&decide (x.arg < 160))
 else if k==6 then zbl x.t&&(decide (0<=x.arg)&&decide (x.arg < 64))
 else if k==7 then zbl x.t&&(decide (0<=x.arg)&&decide (x.arg < 64))
 else x.arg==0&&ZV x.t&&x.t.kind != 1&&!x.t.ref
theorem zps (x:Ins) (k:Int):ACall Tryz.prog 294 [yM x,pi k] (pb (zis x k)):=by
 refine zh zf Tryz.func294 rfl zws Tryz.ntmps294 zwy63 _ rfl (fun hw gB hgB=>?_)
 repeat' (first|(refine shC ?_;first|refine qC (znU _ _) ?_|refine qC (zbD _) ?_)|refine sA ?_|refine sC (fun _=>?_) (fun _=>?_)|fail)
 all_goals first|(refine ak ?_;first|(simp only [zn,zis,zbl, *];done)|(simp only [zn,zis,zbl, *];rfl)|(simp_all [zn,zis,zbl];done))|(trace "LEFT";trace_state)
set_option maxHeartbeats 20000000
def ziM (x:Ins):Int:=if x.op < 1\/75 < x.op then 3 else if zis x (yB x.op) then 0 else 17
theorem zpq (x:Ins):ACall Tryz.prog 285 [yM x] (pi (ziM x)):=by
 refine zh zf Tryz.func285 rfl zws Tryz.ntmps285 zwy63 _ rfl (fun hw gB hgB=>?_);by_cases hop:x.op < 1\/75 < x.op
 ·have c1:=zg3 x.op hop
  repeat' (first|(refine shC ?_;first|refine qC c1 ?_)|refine sK ?_|refine sC (fun _=>?_) (fun _=>?_)|fail)
  all_goals exact retq rfl (by simp [zn,ziM,hop])
 ·have c1:=ze7 x.op zwy62 zwy62;rw [(zlW x.op zwy62 zwy62).2] at c1
  repeat' (first|(refine shC ?_;first|refine qC c1 ?_|refine qC (zps _ _) ?_)|refine sA ?_|refine sC (fun _=>?_) (fun _=>?_)|fail)
  all_goals (refine ak ?_;simp_all [zn,ziM];done)
theorem zhA (op:Int) (h1:1<=op) (h2:op<=75):0<=yB op/\yB op<=8:=by
 have h:∀ n:Fin 76,1<=n.val->0<=yB (n.val:Int)/\yB (n.val:Int)<=8:=by decide +kernel
 have:=h ⟨op.toNat,by omega⟩ zwy64;simpa [Int.toNat_of_nonneg (show 0<=op by omega)] using this
def zda (x:Ins):Prop := -9223372036854775808<=x.arg/\x.arg<=9223372036854775807
theorem zoz (t:Ty):zbl t=decide (t=ty0):=XQ t ty0
theorem zrK (x:Ins) (hx:zda x):ziM x=Xa x:=by
 unfold ziM Xa;obtain ⟨hx1,hx2⟩:=hx;by_cases hop:x.op < 1\/75 < x.op
 ·rw [if_pos hop,if_pos hop]
 ·rw [if_neg hop,if_neg hop];obtain ⟨r1,r2⟩:=zhA x.op zwy62 zwy62;generalize yB x.op=k at r1 r2;have hk:k=0\/k=1\/k=2\/k=3\/k=4\/k=5\/k=6\/k=7\/k=8:=by omega
  by_cases ht:x.t=ty0
  ·rcases hk with rfl|rfl|rfl|rfl|rfl|rfl|rfl|rfl|rfl <;> simp only [zis,zad,zoz,ht] <;> simp [ty0,ZV,ZQ] <;> (first|omega|(split <;> split <;> first|rfl|omega))
  ·rcases hk with rfl|rfl|rfl|rfl|rfl|rfl|rfl|rfl|rfl <;> simp only [zis,zad,zoz,ht] <;> simp [ht,ZQ] <;> (first|omega|(by_cases ha:x.arg=0 <;> cases hp:ZV x.t <;> by_cases hk1:x.t.kind=1 <;> cases hr:x.t.ref <;> simp_all <;> omega))
theorem zpg (x:Ins) (g:Img) (m:Me) (hx:zda x):ACall Tryz.prog 274 [yM x,zK g,pi m.code.length] (pb (codeOk g m x)):=by
 refine zh zf Tryz.func274 rfl zws Tryz.ntmps274 zwy63 _ rfl (fun hw gB hgB=>?_);have c0:=zpq x;rw [zrK x hx] at c0;by_cases hf:Xa x=0
 ·have hop:¬ (x.op < 1\/75 < x.op):=by
   intro h;rw [Xa,if_pos h] at hf;simp at hf
  have c1:=ze7 x.op zwy62 zwy62;rw [(zlW x.op zwy62 zwy62).2] at c1;rw [hf] at c0;have hown:yB x.op≠8->x.t=ty0:=by
   intro h8;rw [Xa,if_neg hop] at hf;split at hf
   ·simp at hf
   ·split at hf
    ·simp at hf
    ·rename_i h;exact Classical.byContradiction fun h9=>h ⟨h8,h9⟩
  repeat' (first|(refine shC ?_;first|refine qC c0 ?_|refine qC c1 ?_|refine qC (zcf _ _) ?_)|refine sA ?_|refine sC (fun _=>?_) (fun _=>?_)|fail)
  all_goals (refine ak ?_)
  all_goals simp only [zn,List.length_map,codeOk,hf, *]
  ·rfl
  ·rfl
  ·rfl
  ·by_cases h8:yB x.op=8
   ·simp [h8]
   ·simp [h8,hown h8,zgt,ty0]
 ·have hfb:(Xa x != 0)=true:=by simp [hf]
  repeat' (first|(refine shC ?_;first|refine qC c0 ?_)|refine sK ?_|refine sC (fun _=>?_) (fun _=>?_)|fail)
  all_goals exact retq rfl (by simp [zn,codeOk,hf])
set_option maxHeartbeats 20000000
def u8s (l:List Int):PV:=.slc 1 (l.map fun n=>.base (.int .u8 n)) false
theorem zwk6 {G:Prop} (h:G:=by repeat' (first|refine sK ?_|refine sC (fun _=>?_) (fun _=>?_)|exact retq rfl (by simp [zn,h])|fail)):G:=h
theorem zsn (n:Int) (h0:0<=n) (h1:n<=128):ACall Tryz.prog 308 [pi n] (pi (if n < 128 then 1 else 2)):=by
 refine zh zf Tryz.func308 rfl zws Tryz.ntmps308 zwy63 _ rfl (fun hw gB hgB=>?_);by_cases h:n < 128
 ·exact zwk6
 ·exact zwk6
theorem zrp (r:Int) (h0:1<=r) (h1:r<=32):ACall Tryz.prog 292 [pi 0,pi r] (.tup [pi (4 * r),pi 0]):=by
 refine zh zf Tryz.func292 rfl zws Tryz.ntmps292 zwy63 _ rfl (fun hw gB hgB=>?_);have hfin:∀ n:Fin 33,IntKind.i64.wrap ((BitVec.ofInt IntKind.i64.bits (IntKind.i64.wrap ((n.val:Int) * 2 ^ (min (Int.toNat 2) IntKind.i64.bits))) ||| BitVec.ofInt IntKind.i64.bits 0).toNat:Int)=4 * (n.val:Int):=by decide +kernel
 have hr:=hfin ⟨r.toNat,by omega⟩;simp only [Int.toNat_of_nonneg (show 0<=r by omega)] at hr
 repeat' (first|refine zy rfl (zxG rfl rfl rfl zwy69) rfl rfl ?_|refine sK ?_|refine sC (fun _=>?_) (fun _=>?_)|fail)
 exact retq rfl (by simp only [zn,hr])
theorem zg9 (l:List Int) (hne:l≠[]) (hb:l.length<=100000):ACallR Tryz.prog 309 [u8s l] 5 1 (l.map fun n=>.base (.int .u8 n)):=by
 refine zeV (t:=2) Tryz.func309 rfl zws Tryz.ntmps309 zwy63 rfl (fun hw gB hgB=>?_)
 repeat' (first|refine WB zf rfl rfl rfl rfl rfl rfl rfl (fun bb hbb=>?_)|refine zy rfl (WI zf rfl rfl rfl rfl rfl) rfl rfl ?_|(refine yj ?_;first|refine VJ 0 zf rfl rfl rfl (.inl rfl) rfl (by have:=List.length_pos_iff.2 hne;simpa using this) rfl (by show _ * 1<=_;simp;omega) zwy64 rfl rfl rfl ?_)|refine sA ?_|refine sC (fun _=>?_) (fun _=>?_)|fail)
 ·rename_i hx;exact (hne (by simpa using hbb hx)).elim
 ·exact ⟨.inr rfl,0,rfl,rfl⟩
def byteOf (X i:Int):Int:=IntKind.u8.wrap (X.fdiv (2 ^ (min (IntKind.i64.wrap (8 * i)).toNat IntKind.u32.bits)))
def bytesOf (X:Int) (k:Nat):List Int:=(List.range k).map fun m=>byteOf X ((k:Int) - 1 - (m:Nat))
abbrev u8c (n:Int):PV:=.base (.int .u8 n)
theorem zfm {X:Int} {k m:Nat} (h:m < k):(bytesOf X k).take (m + 1)=(bytesOf X k).take m++[byteOf X ((k:Int) - 1 - (m:Nat))]:=by
 have hl:m < (bytesOf X k).length:=by simpa [bytesOf] using h
 rw [List.take_succ_eq_append_getElem hl];simp [bytesOf]
theorem zg0 {X:Int} {k:Nat}:(bytesOf X k).take k=bytesOf X k:=List.take_of_length_le (by simp [bytesOf])
theorem zwk7 {G:Prop} (h:G:=by repeat' (first|(have:=b0;refine zy rfl (zwv rfl rfl rfl hs0) rfl rfl ?_)|(have:=b0;refine yj ?_;first|refine yV zf rfl rfl rfl rfl rfl rfl rfl (by show _ * 1<=_;simp [bytesOf];omega) (by simp [bytesOf];omega) rfl rfl ?_)|refine sK ?_|refine sC (fun _=>?_) (fun _=>?_)|(have:=b0;exact ⟨m + 1,hlt,tD,by repeat (first|exact yO|refine yA rfl ?_|(refine qW rfl ?_ ?_;· (rw [wrap_in zwy62 zwy62];omega))),⟨qH rfl (by rw [zfm hlt];simp [byteOf]) zC,rfl⟩⟩)|(have:=b1;exact retq rfl (by rw [zg0];rfl))|fail)):G:=h
theorem zkL (l:List Int) (hne:l≠[]) (hb:l.length<=1000) (n:Int) (h0:0<=n) (h1:n<=128):∃ bs:List Int,ACall Tryz.prog 293 [u8s l,pi n] (.tup [u8s (l++bs),pi 0]):=by
 have c1:=zsn n h0 zwy62;by_cases hn:n < 128
 ·rw [if_pos hn] at c1;obtain ⟨X,hX⟩:∃ X,IntKind.u32.wrap ((BitVec.ofInt IntKind.u32.bits (IntKind.u32.wrap n) ||| BitVec.ofInt IntKind.u32.bits 0).toNat:Int)=X:=⟨_,rfl⟩
  refine ⟨bytesOf X 1,?_⟩;refine zh zf Tryz.func293 rfl zws Tryz.ntmps293 zwy63 _ rfl (fun hw gB hgB=>?_)
  repeat' (first|refine zy rfl (zgP [(2,.int .u32 32768),(4,.int .u32 3221225472)] zf rfl rfl rfl rfl rfl rfl rfl) rfl rfl ?_|refine zy rfl (zmg 1 zf rfl rfl rfl rfl rfl rfl rfl rfl) rfl rfl ?_|refine zdj 0 rfl rfl rfl (zg9 l hne zwy62) zwy69 rfl rfl rfl ?_|(refine shC ?_;first|refine qC c1 ?_)|refine sK ?_|refine sC (fun _=>?_) (fun _=>?_)|fail)
  refine zL (fun m:Nat=>[(7,.pv (.base (.int .u32 X))),(8,.own 0),(9,.pv (pi (((1:Nat):Int) - 1 - (m:Nat))))]) (fun m=>[(0,.row 5 1 ((l++(bytesOf X 1).take m).map u8c))]) (fun m=>m<=1) (fun m=>1 - m) 0 zwy62 zwy96 ⟨qH rfl zwy63 zC,rfl⟩ ?_;rintro m hm;by_cases hlt:m < 1
  ·have hs0:0<=IntKind.i64.wrap (8 * (((1:Nat):Int) - 1 - (m:Nat))):=by rw [wrap_in zwy62 zwy62];omega
   have b0:=();exact zwk7
  ·have:m=1:=by omega
   subst this;have b1:=();exact zwk7
 ·rw [if_neg hn] at c1;obtain rfl:n=128:=by omega
  obtain ⟨X,hX⟩:∃ X,IntKind.u32.wrap ((BitVec.ofInt IntKind.u32.bits (IntKind.u32.wrap 128) ||| BitVec.ofInt IntKind.u32.bits 32768).toNat:Int)=X:=⟨_,rfl⟩
  refine ⟨bytesOf X 2,?_⟩;refine zh zf Tryz.func293 rfl zws Tryz.ntmps293 zwy63 _ rfl (fun hw gB hgB=>?_)
  repeat' (first|refine zy rfl (zgP [(2,.int .u32 32768),(4,.int .u32 3221225472)] zf rfl rfl rfl rfl rfl rfl rfl) rfl rfl ?_|refine zy rfl (zmg 2 zf rfl rfl rfl rfl rfl rfl rfl rfl) rfl rfl ?_|refine zdj 0 rfl rfl rfl (zg9 l hne zwy62) zwy69 rfl rfl rfl ?_|(refine shC ?_;first|refine qC c1 ?_)|refine sK ?_|refine sC (fun _=>?_) (fun _=>?_)|fail)
  refine zL (fun m:Nat=>[(7,.pv (.base (.int .u32 X))),(8,.own 0),(9,.pv (pi (((2:Nat):Int) - 1 - (m:Nat))))]) (fun m=>[(0,.row 5 1 ((l++(bytesOf X 2).take m).map u8c))]) (fun m=>m<=2) (fun m=>2 - m) 0 zwy62 zwy96 ⟨qH rfl zwy63 zC,rfl⟩ ?_;rintro m hm;by_cases hlt:m < 2
  ·have hs0:0<=IntKind.i64.wrap (8 * (((2:Nat):Int) - 1 - (m:Nat))):=by rw [wrap_in zwy62 zwy62];omega
   have hge:decide (0<=((2:Nat):Int) - 1 - (m:Nat))=true:=by simp;omega
   have b0:=();exact zwk7
  ·have:m=2:=by omega
   subst this;have b1:=();exact zwk7
set_option maxHeartbeats 20000000
abbrev zkY (l:List Int):PV:=.slc 1 (l.map fun n=>.base (.int .u8 n)) true
theorem zgy (k b i d:Int) (hk:k=2/\b=8\/k=3/\b=10\/k=4/\b=28) (hd:d=0\/d=1\/d=2\/d=3):ACall Tryz.prog 283 [zkY [6],yI ⟨k,i,d,false⟩] (u8s (6::(List.replicate d.toNat 29++[b]))):=by
 have c1:=zdy 29 d zwy62 zwy62;rcases hd with rfl|rfl|rfl|rfl
 all_goals rcases hk with ⟨rfl,rfl⟩|⟨rfl,rfl⟩|⟨rfl,rfl⟩
 all_goals
  refine zh zf Tryz.func283 rfl zws Tryz.ntmps283 zwy63 _ rfl (fun hw gB hgB=>?_)
  repeat' (first|(refine shC ?_;first|refine qC c1 ?_)|(refine yj ?_;first|refine zy rfl (zgu zf rfl rfl rfl rfl rfl) rfl rfl ?_|refine yV zf rfl rfl rfl rfl rfl rfl rfl zwy83 zwy84 rfl rfl ?_|refine VJ 0 zf rfl rfl rfl (.inl rfl) rfl zwy84 rfl zwy83 zwy84 rfl rfl rfl ?_)|refine sA ?_|refine sC (fun _=>?_) (fun _=>?_)|fail)
  exact retq rfl rfl
theorem zsF (i d:Int) (hi0:0<=i) (hi1:i<=7) (hd:d=0\/d=1\/d=2\/d=3):∃ bs:List Int,ACall Tryz.prog 283 [zkY [6],yI ⟨7,i,d,false⟩] (u8s bs):=by
 have c1:=zdy 29 d zwy62 zwy62;obtain ⟨bs,cp⟩:=zkL (6::(List.replicate d.toNat 29++[19])) zwy63 zwy64 i hi0 zwy62;refine ⟨6::(List.replicate d.toNat 29++[19])++bs,?_⟩;have hneg:decide (i < 0)=false:=by simp;omega
 rcases hd with rfl|rfl|rfl|rfl
 all_goals
  refine zh zf Tryz.func283 rfl zws Tryz.ntmps283 zwy63 _ rfl (fun hw gB hgB=>?_)
  repeat' (first|(refine shC ?_;first|refine qC c1 ?_|refine qC cp ?_)|(refine yj ?_;first|refine zy rfl (zgu zf rfl rfl rfl rfl rfl) rfl rfl ?_|refine yV zf rfl rfl rfl rfl rfl rfl rfl zwy83 zwy84 rfl rfl ?_|refine VJ 0 zf rfl rfl rfl (.inl rfl) rfl zwy84 rfl zwy83 zwy84 rfl rfl rfl ?_)|refine sK ?_|refine sC (fun _=>?_) (fun _=>?_)|fail)
  exact retq rfl rfl
theorem zke (k b i d:Int) (hk:k=5/\b=18\/k=6/\b=17) (hi0:0<=i) (hi1:i<=31) (hd:d=0\/d=1\/d=2\/d=3):∃ bs:List Int,ACall Tryz.prog 283 [zkY [6],yI ⟨k,i,d,false⟩] (u8s bs):=by
 have c1:=zdy 29 d zwy62 zwy62;obtain ⟨bs,cp⟩:=zkL (6::(List.replicate d.toNat 29++[b])) zwy63 zwy64 (4 * (i + 1)) zwy62 zwy62;have hw:IntKind.i64.wrap (i + 1)=i + 1:=wrap_in zwy62 zwy62;have cc:=zrp (i + 1) zwy62 zwy62;rw [<-hw] at cc;have hneg:decide (4 * IntKind.i64.wrap (i + 1) < 0)=false:=by rw [hw];simp;omega
 rw [show 4 * (i + 1)=4 * IntKind.i64.wrap (i + 1) by rw [hw]] at cp;refine ⟨6::(List.replicate d.toNat 29++[b])++bs,?_⟩;rcases hd with rfl|rfl|rfl|rfl
 all_goals rcases hk with ⟨rfl,rfl⟩|⟨rfl,rfl⟩
 all_goals
  refine zh zf Tryz.func283 rfl zws Tryz.ntmps283 zwy63 _ rfl (fun hw gB hgB=>?_)
  repeat' (first|(refine shC ?_;first|refine qC c1 ?_|refine qC cp ?_|refine qC cc ?_)|(refine yj ?_;first|refine zy rfl (zgu zf rfl rfl rfl rfl rfl) rfl rfl ?_|refine yV zf rfl rfl rfl rfl rfl rfl rfl zwy83 zwy84 rfl rfl ?_|refine VJ 0 zf rfl rfl rfl (.inl rfl) rfl zwy84 rfl zwy83 zwy84 rfl rfl rfl ?_)|refine sK ?_|refine sC (fun _=>?_) (fun _=>?_)|fail)
  exact retq rfl rfl
set_option maxHeartbeats 20000000
structure Pt where
 c:Int
 p:Int
 f:Int
 t:Int
 deriving Inhabited
def yT (x:Pt):PV:=.agg [pi x.c,pi x.p,pi x.f,pi x.t]
def zs9 (f t:Int):PV:=.agg [pi f,pi t]
def pts (l:List Pt):PV:=.slc 4 (l.map yT) false
def yK (k:Int) (c:Cl):List Pt:=[⟨k,1,c.tf,c.tt⟩,⟨k,2,c.hf,c.ht⟩]++(if c.kind==2 then [⟨k,3,c.filter,c.hf⟩] else [])
theorem zfG (f t n:Int):ACall Tryz.prog 295 [zs9 f t,pi n] (pb (decide (0<=f)&&decide (f < t)&&decide (t<=n))):=by
 refine zh zf Tryz.func295 rfl zws Tryz.ntmps295 zwy63 _ rfl (fun hw gB hgB=>?_)
 repeat' (first|refine sA ?_|refine sC (fun _=>?_) (fun _=>?_)|fail)
 all_goals first|(refine ak ?_;first|(simp only [zn,BL,List.length_map] at *;simp only [*,BL,List.length_map];done)|(simp_all [zn];done)|(simp_all [zn];omega)|(simp_all [zn];intros;omega))|(refine Yi rfl ?_;first|(simp only [zn,BL,List.length_map] at *;simp only [*,BL,List.length_map];done)|(simp_all [zn];done)|(simp_all [zn];omega)|(simp_all [zn];intros;omega))|skip
def XH (a b:Pt):Bool:=!(a.f==b.f&&(a.t==b.t&&true))&&decide (b.f<=a.f)&&decide (a.t<=b.t)
theorem zlt (a b:Pt):ACall Tryz.prog 300 [zs9 a.f a.t,zs9 b.f b.t] (pb (XH a b)):=by
 refine zh zf Tryz.func300 rfl zws Tryz.ntmps300 zwy63 _ rfl (fun hw gB hgB=>?_)
 repeat' (first|refine sA ?_|refine sC (fun _=>?_) (fun _=>?_)|fail)
 all_goals (refine ak ?_;first|(simp only [zn,XH, *];done)|(simp only [zn,XH, *];rfl)|(simp_all [zn,XH];done))
def YP (a b:Pt):Bool:=decide (a.f < b.t)&&decide (b.f < a.t)
theorem znu (a b:Pt):ACall Tryz.prog 313 [zs9 a.f a.t,zs9 b.f b.t] (pb (YP a b)):=by
 refine zh zf Tryz.func313 rfl zws Tryz.ntmps313 zwy63 _ rfl (fun hw gB hgB=>?_)
 repeat' (first|refine sA ?_|refine sC (fun _=>?_) (fun _=>?_)|fail)
 all_goals (refine ak ?_;first|(simp only [zn,YP, *];done)|(simp only [zn,YP, *];rfl)|(simp_all [zn,YP];done))
def zt5 (l:List Pt) (p:Pt->Bool):Int:=if l.any p then ((l.findIdx p:Nat):Int) else -1
theorem zhw (l:List Pt) (p:Pt->Bool) (f:FuncId) (first cap:List PV) (hp:∀ x∈l,ACall Tryz.prog f (first++[yT x]++cap) (pb (p x))):ACall Tryz.prog 314 [pts l,.fn (.func f) first cap] (pi (zt5 l p)):=by
 refine zh zf Tryz.func314 rfl zws Tryz.ntmps314 zwy63 _ rfl (fun hw gB hgB=>?_);have hl:l.length<=9223372036854775807:=by have:=hw.1;simp [pts,PV.lenOk,maxLen] at this;exact this.1
 repeat' (first|refine sA ?_|refine sC (fun _=>?_) (fun _=>?_)|fail)
 refine zL (fun k:Nat=>[(0,.pv (pts l)),(1,.pv (.fn (.func f) first cap)),(7,.pv (pi l.length)),(8,.pv (pi k))]) (fun _=>[]) (fun k=>k<=l.length/\∀ j (h:j < k) (h2:j < l.length),p l[j]=false) (fun k=>l.length - k) 0 ⟨by omega,fun j h=>by omega⟩ (tS) tH ?_;rintro k ⟨hk,hno⟩;by_cases hlt:k < l.length
 ·have he:=zS (f:=yT) hlt;have c1:=hp _ (List.getElem_mem hlt);cases hpx:p l[k]
  ·rw [hpx] at c1
   repeat' (first|(refine shC ?_;first|refine qV (c1) ?_)|(refine shX ?_;first|refine qX he ?_)|refine sK ?_|refine sC (fun _=>?_) (fun _=>?_)|fail)
   exact ⟨k + 1,⟨hlt,fun j hj h2=>by
    by_cases e:j=k
    ·subst e;exact hpx
    ·exact hno j zwy62 h2⟩,tD,tS,tH⟩
  ·rw [hpx] at c1;have hi:l.findIdx p=k:=by
    rw [List.findIdx_eq hlt];exact ⟨hpx,fun j hj=>hno j hj zwy62⟩
   have ha:l.any p=true:=List.any_eq_true.2 ⟨_,List.getElem_mem hlt,hpx⟩
   repeat' (first|(refine shC ?_;first|refine qV (c1) ?_)|(refine shX ?_;first|refine qX he ?_)|refine sK ?_|refine sC (fun _=>?_) (fun _=>?_)|fail)
   exact retq rfl (by simp [zn,zt5,ha,hi])
 ·have ha:l.any p=false:=by
   rw [List.any_eq_false];intro x hx;obtain ⟨j,hj,rfl⟩:=List.getElem_of_mem hx;simp [hno j zwy62 hj]
  repeat' (first|refine sK ?_|refine sC (fun _=>?_) (fun _=>?_)|fail)
  exact retq rfl (by simp [zn,zt5,ha])
theorem QE (l:List Pt) (p:Pt->Bool) (f:FuncId) (first cap:List PV) (hp:∀ x∈l,ACall Tryz.prog f (first++[yT x]++cap) (pb (p x))):ACall Tryz.prog 298 [pts l,.fn (.func f) first cap] (pb (l.any p)):=by
 refine zh zf Tryz.func298 rfl zws Tryz.ntmps298 zwy63 _ rfl (fun hw gB hgB=>?_);have c1:=zhw l p f first cap hp
 repeat' (first|(refine shC ?_;first|refine qC c1 ?_)|refine sA ?_|refine sC (fun _=>?_) (fun _=>?_)|fail)
 refine ak ?_;have:decide (0<=zt5 l p)=l.any p:=by
  unfold zt5;cases h:l.any p <;> simp
 simp [zn,this]
theorem zk6 (a b:Pt) (may:Pt->Pt->Bool) (mf:FuncId) (hm:∀ x y,ACall Tryz.prog mf [yT x,yT y] (pb (may x y))):ACall Tryz.prog 312 [yT b,.ptr (yT a) 0,.ptr (.fn (.func mf) [] []) 0] (pb (YP a b&&!may a b)):=by
 refine zh zf Tryz.func312 rfl zws Tryz.ntmps312 zwy63 _ rfl (fun hw gB hgB=>?_)
 repeat' (first|(refine shC ?_;first|refine qC (znu a b) ?_|refine qV (hm a b) ?_)|refine sA ?_|refine sC (fun _=>?_) (fun _=>?_)|fail)
 all_goals (refine ak ?_;simp_all [zn];done)
theorem zmq (a:Pt) (m:List Pt) (may:Pt->Pt->Bool) (mf:FuncId) (hm:∀ x y,ACall Tryz.prog mf [yT x,yT y] (pb (may x y))):ACall Tryz.prog 311 [yT a,.ptr (pts m) 0,.ptr (.fn (.func mf) [] []) 0] (pb (m.any fun b=>YP a b&&!may a b)):=by
 refine zh zf Tryz.func311 rfl zws Tryz.ntmps311 zwy63 _ rfl (fun hw gB hgB=>?_);have c1:=QE m (fun b=>YP a b&&!may a b) 312 [] [.ptr (yT a) 0,.ptr (.fn (.func mf) [] []) 0] (fun b _=>zk6 a b may mf hm)
 repeat' (first|(refine shC ?_;first|refine qC c1 ?_)|refine sA ?_|refine sC (fun _=>?_) (fun _=>?_)|fail)
 exact retq rfl rfl
def zdz (l m:List Pt) (may:Pt->Pt->Bool):Bool:=l.any fun a=>m.any fun b=>YP a b&&!may a b
theorem zey (l m:List Pt) (may:Pt->Pt->Bool) (mf:FuncId) (hm:∀ x y,ACall Tryz.prog mf [yT x,yT y] (pb (may x y))):ACall Tryz.prog 296 [pts l,pts m,.fn (.func mf) [] []] (pb (zdz l m may)):=by
 refine zh zf Tryz.func296 rfl zws Tryz.ntmps296 zwy63 _ rfl (fun hw gB hgB=>?_);have c1:=QE l (fun a=>m.any fun b=>YP a b&&!may a b) 311 [] [.ptr (pts m) 0,.ptr (.fn (.func mf) [] []) 0] (fun a _=>zmq a m may mf hm)
 repeat' (first|(refine shC ?_;first|refine qC c1 ?_)|refine sA ?_|refine sC (fun _=>?_) (fun _=>?_)|fail)
 exact retq rfl rfl
theorem zbG (k:Int) (c:Cl):ACall Tryz.prog 161 [pi k,qR c] (pts (yK k c)):=by
 refine zh zf Tryz.func161 rfl zws Tryz.ntmps161 zwy63 _ rfl (fun hw gB hgB=>?_);rcases Bool.eq_false_or_eq_true (c.kind==2) with hk|hk
 ·have e:pts (yK k c)=.slc 4 [yT ⟨k,1,c.tf,c.tt⟩,yT ⟨k,2,c.hf,c.ht⟩,yT ⟨k,3,c.filter,c.hf⟩] false:=by simp [pts,yK,hk]
  repeat' (first|(refine yj ?_;first|refine zy rfl (Qq zf rfl rfl (.inl rfl) rfl rfl (by show _ * 32<=_;simp) zwy63) rfl rfl ?_)|refine sK ?_|refine sC (fun _=>?_) (fun _=>?_)|fail)
  exact retq rfl (by rw [e];rfl)
 ·have e:pts (yK k c)=.slc 4 [yT ⟨k,1,c.tf,c.tt⟩,yT ⟨k,2,c.hf,c.ht⟩] false:=by simp [pts,yK,hk]
  repeat' (first|refine sK ?_|refine sC (fun _=>?_) (fun _=>?_)|fail)
  exact zbV (t:=4) (a:=.pv (.slc 4 [yT ⟨k,1,c.tf,c.tt⟩,yT ⟨k,2,c.hf,c.ht⟩] true)) (b:=.pv (pts (yK k c))) (ps:=[pts (yK k c)]) rfl (by rw [e];exact zeQ 4 _ true) rfl rfl
theorem zmY (a b:Pt):ACall Tryz.prog 297 [yT a,yT b] (pb (a.c==b.c&&(a.p==b.p&&true))):=by
 refine zh zf Tryz.func297 rfl zws Tryz.ntmps297 zwy63 _ rfl (fun hw gB hgB=>?_)
 repeat' (first|refine sA ?_|refine sC (fun _=>?_) (fun _=>?_)|fail)
 exact retq rfl rfl
theorem zpu (y x:Pt):ACall Tryz.prog 299 [yT y,.ptr (yT x) 0] (pb (!XH y x)):=by
 refine zh zf Tryz.func299 rfl zws Tryz.ntmps299 zwy63 _ rfl (fun hw gB hgB=>?_)
 repeat' (first|(refine shC ?_;first|refine qC (zlt y x) ?_)|refine sA ?_|refine sC (fun _=>?_) (fun _=>?_)|fail)
 exact retq rfl rfl
theorem zoO (y x:Pt):ACall Tryz.prog 301 [yT y,.ptr (yT x) 0] (pb (y.p != 1&&y.f==x.f)):=by
 refine zh zf Tryz.func301 rfl zws Tryz.ntmps301 zwy63 _ rfl (fun hw gB hgB=>?_)
 repeat' (first|refine sA ?_|refine sC (fun _=>?_) (fun _=>?_)|fail)
 all_goals (refine ak ?_;simp_all [zn];done)
theorem zo2 (x y:Pt):ACall Tryz.prog 302 [yT x,yT y] (pb (x.p==1&&y.p==1)):=by
 refine zh zf Tryz.func302 rfl zws Tryz.ntmps302 zwy63 _ rfl (fun hw gB hgB=>?_)
 repeat' (first|refine sA ?_|refine sC (fun _=>?_) (fun _=>?_)|fail)
 all_goals (refine ak ?_;simp_all [zn];done)
theorem zoP (x y:Pt):ACall Tryz.prog 303 [yT x,yT y] (pb false):=by
 refine zh zf Tryz.func303 rfl zws Tryz.ntmps303 zwy63 _ rfl (fun hw gB hgB=>?_)
 repeat' (first|refine sA ?_|refine sC (fun _=>?_) (fun _=>?_)|fail)
 exact retq rfl rfl
def ztG (a b:Pt):Bool:=a.c==b.c&&(a.p==b.p&&true)
def zuR (x y:Pt):Bool:=x.p==1&&y.p==1
def zcv (n:Int) (c:Cl):Int :=
 if decide (c.kind < 1)||decide (4 < c.kind)||!WJ n c||!zbi n c then 3
 else if c.kind==2&&(decide (c.filter < 0)||decide (c.hf<=c.filter))||c.kind != 2&&c.filter != -1 then 3
 else if zdz (yK 0 c) (yK 0 c) ztG then 12
 else 0
set_option maxHeartbeats 4000000 in
theorem zn4 (n:Int) (c:Cl):ACall Tryz.prog 286 [pi n,qR c] (pi (zcv n c)):=by
 refine zh zf Tryz.func286 rfl zws Tryz.ntmps286 zwy63 _ rfl (fun hw gB hgB=>?_);have c1:=zfG c.tf c.tt n;have c2:=zfG c.hf c.ht n;have c3:=zey (yK 0 c) (yK 0 c) ztG 297 zmY;have e1:(decide (0<=c.tf)&&decide (c.tf < c.tt)&&decide (c.tt<=n))=WJ n c:=rfl;have e2:(decide (0<=c.hf)&&decide (c.hf < c.ht)&&decide (c.ht<=n))=zbi n c:=rfl;rw [e1] at c1;rw [e2] at c2
 repeat' (first|(refine shC ?_;first|refine qC c1 ?_|refine qC c2 ?_|refine qC (zbG 0 c) ?_|refine qC c3 ?_)|refine sA ?_|refine sC (fun _=>?_) (fun _=>?_)|fail)
 all_goals (refine ak ?_;first|(simp only [zn,zcv, *];done)|(simp only [zn,zcv, *];rfl)|(simp_all [zn,zcv];done)|(simp_all [zn,zcv];omega))
def VO (a:Cl) (x:Pt):Bool:=!((yK 0 a).any fun y=>!XH y x)
def zfB (a:Cl) (x:Pt):Bool:=(yK 0 a).any fun y=>y.p != 1&&y.f==x.f
def zhP (a b:Cl):Bool :=
 if a.tf==b.tf&&(a.tt==b.tt&&true) then !zdz (yK 0 a) (yK 1 b) zuR else !zdz (yK 0 a) (yK 1 b) (fun _ _=>false)
def zeO (a b:Cl):List Pt->Bool
 | []=>zhP a b
 | x::l=>if VO a x then x.p==1||!zfB a x else zeO a b l
def ziA (a b:Cl):Bool:=zeO a b (yK 1 b)
set_option maxHeartbeats 2000000 in
theorem zpx (a b:Cl):ACall Tryz.prog 287 [qR a,qR b] (pb (ziA a b)):=by
 refine zh zf Tryz.func287 rfl zws Tryz.ntmps287 zwy63 _ rfl (fun hw gB hgB=>?_);have hlen:(yK 1 b).length<=3:=by unfold yK;split <;> simp
 have h0a:((yK 0 a).map yT)[(0:Int).toNat]?=some (yT ⟨0,1,a.tf,a.tt⟩):=by simp [yK]
 have h0b:((yK 1 b).map yT)[(0:Int).toNat]?=some (yT ⟨1,1,b.tf,b.tt⟩):=by simp [yK]
 have ce:=zey (yK 0 a) (yK 1 b) zuR 302 zo2;have cf:=zey (yK 0 a) (yK 1 b) (fun _ _=>false) 303 zoP
 repeat' (first|(refine shC ?_;first|refine qC (zbG 0 a) ?_|refine qC (zbG 1 b) ?_)|refine sA ?_|refine sC (fun _=>?_) (fun _=>?_)|fail)
 refine zL (fun k:Nat=>[(5,.pv (pts (yK 0 a))),(6,.pv (pts (yK 1 b))),(14,.pv (pts (yK 1 b))),(15,.pv (pi (yK 1 b).length)),(16,.pv (pi k))]) (fun _=>[]) (fun k=>k<=(yK 1 b).length/\ziA a b=zeO a b ((yK 1 b).drop k)) (fun k=>(yK 1 b).length - k) 0 ⟨by omega,rfl⟩ (tS) tH ?_;rintro k ⟨hk,hr⟩;by_cases hlt:k < (yK 1 b).length
 ·have he:=zS (f:=yT) hlt;rw [drop_cons hlt,zeO] at hr;generalize (yK 1 b)[k]=x at he hr;have c1:=QE (yK 0 a) (fun y=>!XH y x) 299 [] [.ptr (yT x) 0] (fun y _=>zpu y x);have c2:=QE (yK 0 a) (fun y=>y.p != 1&&y.f==x.f) 301 [] [.ptr (yT x) 0] (fun y _=>zoO y x);cases ha:(yK 0 a).any fun y=>!XH y x
  ·rw [ha] at c1;rw [show VO a x=true by rw [VO,ha];rfl,if_pos rfl] at hr
   repeat' (first|refine zb6 (t:=8) rfl rfl rfl ?_|(refine shC ?_;first|refine qC c1 ?_|refine qC c2 ?_)|(refine shX ?_;first|refine qX he ?_)|refine sK ?_|refine sC (fun _=>?_) (fun _=>?_)|fail)
   all_goals (refine ak ?_;rw [hr];simp_all [zn,zfB];done)
  ·rw [ha] at c1;rw [show VO a x=false by rw [VO,ha];rfl,if_neg zwy63] at hr
   repeat' (first|refine zb6 (t:=8) rfl rfl rfl ?_|(refine shC ?_;first|refine qC c1 ?_)|(refine shX ?_;first|refine qX he ?_)|refine sK ?_|refine sC (fun _=>?_) (fun _=>?_)|fail)
   exact ⟨k + 1,⟨hlt,hr⟩,tD,tS,tH⟩
 ·rw [drop_end zwy62,zeO,zhP] at hr
  repeat' (first|(refine shC ?_;first|refine qC ce ?_|refine qC cf ?_)|(refine shX ?_;first|refine qX h0a ?_|refine qX h0b ?_)|refine sK ?_|refine sC (fun _=>?_) (fun _=>?_)|fail)
  all_goals (refine ak ?_;rw [hr];simp_all [zn];done)
structure OkC (c:Cl):Prop where
 t:c.tf < c.tt
 h:c.hf < c.ht
 h0:0<=c.hf
 t0:0<=c.tf
 f:c.kind=2->0<=c.filter/\c.filter < c.hf
theorem zc7 {n:Int} {c:Cl} (h:Qg n c=0):OkC c:=by
 unfold Qg at h;split at h
 ·simp at h
 ·split at h
  ·simp at h
  ·rename_i h1 h2;simp [WJ,zbi] at h1 h2;exact ⟨by omega,by omega,by omega,by omega,fun hk=>by simp [hk] at h2;omega⟩
theorem zaq {a b:Cl} {p q:Int} {x y:Pt} (hx:bounds a p=(x.f,x.t)) (hy:bounds b q=(y.f,y.t)) (h1:x.f < x.t) (h2:y.f < y.t):meet a p b q=YP x y:=by
 simp [meet,YP,hx,hy,h1,h2]
theorem zqg {a b:Cl} {p q:Int} (h:¬ (bounds a p).1 < (bounds a p).2\/¬ (bounds b q).1 < (bounds b q).2):meet a p b q=false:=by
 simp only [meet,Bool.and_eq_false_iff,decide_eq_false_iff_not];rcases h with h|h
 ·exact .inl (.inr h)
 ·exact .inr h
theorem zfR {a b:Cl} {p q:Int} {x y:Pt} (hx:bounds a p=(x.f,x.t)) (hy:bounds b q=(y.f,y.t)) (h1:x.f < x.t):within a p b q=XH x y:=by
 rw [Bool.eq_iff_iff];simp [within,XH,hx,hy];omega
theorem zmH {a b:Cl} {q:Int} (h:a.kind≠2):within a 3 b q=true:=by simp [within,bounds,h]
theorem zpQ {n:Int} {c:Cl}:zcv n c=Qg n c:=by
 unfold zcv Qg;split
 ·rfl
 ·split
  ·rfl
  ·rename_i h1 h2;have hok:OkC c:=by
    simp [WJ,zbi] at h1 h2;exact ⟨by omega,by omega,by omega,by omega,fun hk=>by simp [hk] at h2;omega⟩
   have e:zdz (yK 0 c) (yK 0 c) ztG=(meet c 1 c 2||meet c 1 c 3||meet c 2 c 3):=by
    obtain ⟨g1,g2,g3,g4,g5⟩:=hok;rw [Bool.eq_iff_iff];by_cases hk:c.kind=2
    ·have:=g5 hk;simp [zdz,yK,hk,ztG,YP,meet,bounds];omega
    ·simp [zdz,yK,hk,ztG,YP,meet,bounds];omega
   rw [e]
theorem zdv {a b:Cl} (ha:OkC a) {q:Int} {x:Pt} (hy:bounds b q=(x.f,x.t)) (h2:x.f < x.t):VO a x=Yl a b q:=by
 have w1:within a 1 b q=XH ⟨0,1,a.tf,a.tt⟩ x:=zfR zwy79 hy ha.t;have w2:within a 2 b q=XH ⟨0,2,a.hf,a.ht⟩ x:=zfR zwy79 hy ha.h;by_cases hk:a.kind=2
 ·have w3:within a 3 b q=XH ⟨0,3,a.filter,a.hf⟩ x:=zfR (by simp [bounds,hk]) hy (ha.f hk).2;simp [VO,yK,Yl,w1,w2,w3,hk,hy,h2,Bool.and_assoc]
 ·have w3:=zmH (b:=b) (q:=q) hk;simp [VO,yK,Yl,w1,w2,w3,hk,hy,h2]
theorem zgT (a:Cl) (x:Pt):zfB a x=(a.hf==x.f||a.kind==2&&a.filter==x.f):=by
 by_cases hk:a.kind=2 <;> simp [zfB,yK,hk]
theorem zuu {a b:Cl} (h:b.kind≠2):Yl a b 3=false:=by simp [Yl,bounds,h]
theorem zjm {a b:Cl} (ha:OkC a) (hb:OkC b):zhP a b=!(badM a b 1 1||badM a b 1 2||badM a b 1 3||badM a b 2 1||badM a b 2 2||badM a b 2 3||badM a b 3 1||badM a b 3 2||badM a b 3 3):=by
 have m11:meet a 1 b 1=YP ⟨0,1,a.tf,a.tt⟩ ⟨1,1,b.tf,b.tt⟩:=zaq zwy79 zwy79 ha.t hb.t;have m12:meet a 1 b 2=YP ⟨0,1,a.tf,a.tt⟩ ⟨1,2,b.hf,b.ht⟩:=zaq zwy79 zwy79 ha.t hb.h;have m21:meet a 2 b 1=YP ⟨0,2,a.hf,a.ht⟩ ⟨1,1,b.tf,b.tt⟩:=zaq zwy79 zwy79 ha.h hb.t;have m22:meet a 2 b 2=YP ⟨0,2,a.hf,a.ht⟩ ⟨1,2,b.hf,b.ht⟩:=zaq zwy79 zwy79 ha.h hb.h;have ra:(yK 0 a)=[⟨0,1,a.tf,a.tt⟩,⟨0,2,a.hf,a.ht⟩]++(if a.kind==2 then [⟨0,3,a.filter,a.hf⟩] else []):=rfl;have rb:(yK 1 b)=[⟨1,1,b.tf,b.tt⟩,⟨1,2,b.hf,b.ht⟩]++(if b.kind==2 then [⟨1,3,b.filter,b.hf⟩] else []):=rfl;have n3:b.kind≠2->∀ p,meet a p b 3=false:=fun h p=>zqg (.inr zwy114)
 have n3':a.kind≠2->∀ q,meet a 3 b q=false:=fun h q=>zqg (.inl zwy114)
 have m13:b.kind=2->meet a 1 b 3=YP ⟨0,1,a.tf,a.tt⟩ ⟨1,3,b.filter,b.hf⟩:=fun h=>zaq zwy79 zwy114 ha.t (hb.f h).2
 have m23:b.kind=2->meet a 2 b 3=YP ⟨0,2,a.hf,a.ht⟩ ⟨1,3,b.filter,b.hf⟩:=fun h=>zaq zwy79 zwy114 ha.h (hb.f h).2
 have m31:a.kind=2->meet a 3 b 1=YP ⟨0,3,a.filter,a.hf⟩ ⟨1,1,b.tf,b.tt⟩:=fun h=>zaq zwy114 zwy79 (ha.f h).2 hb.t
 have m32:a.kind=2->meet a 3 b 2=YP ⟨0,3,a.filter,a.hf⟩ ⟨1,2,b.hf,b.ht⟩:=fun h=>zaq zwy114 zwy79 (ha.f h).2 hb.h
 have m33:a.kind=2->b.kind=2->meet a 3 b 3=YP ⟨0,3,a.filter,a.hf⟩ ⟨1,3,b.filter,b.hf⟩:=fun h h'=>zaq zwy114 (by simp [bounds,h']) (ha.f h).2 (hb.f h').2
 unfold zhP badM;cases hs1:a.tf==b.tf <;> cases hs2:a.tt==b.tt <;> by_cases hka:a.kind=2 <;> by_cases hkb:b.kind=2 <;>
  simp [zdz,ra,rb,hka,hkb,zuR,m11,m12,m21,m22,n3,n3',m13,m23,m31,m32,m33,Bool.and_assoc,Bool.or_assoc]
theorem zrC {a b:Cl} (ha:OkC a) (hb:OkC b):ziA a b=Wu a b:=by
 have e1:=zdv (a:=a) (b:=b) ha (q:=1) (x:=⟨1,1,b.tf,b.tt⟩) zwy79 hb.t;have e2:=zdv (a:=a) (b:=b) ha (q:=2) (x:=⟨1,2,b.hf,b.ht⟩) zwy79 hb.h;have b1:(bounds b 1)=(b.tf,b.tt):=by simp [bounds]
 have b2:(bounds b 2)=(b.hf,b.ht):=by simp [bounds]
 by_cases hk:b.kind=2
 ·have e3:=zdv (a:=a) (b:=b) ha (q:=3) (x:=⟨1,3,b.filter,b.hf⟩) (by simp [bounds,hk]) (hb.f hk).2;have b3:(bounds b 3)=(b.filter,b.hf):=by simp [bounds,hk]
  rw [ziA,show yK 1 b=[⟨1,1,b.tf,b.tt⟩,⟨1,2,b.hf,b.ht⟩,⟨1,3,b.filter,b.hf⟩] by simp [yK,hk]];simp only [zeO,e1,e2,e3,zgT,Wu,zmF,b1,b2,b3,zjm ha hb]
 ·rw [ziA,show yK 1 b=[⟨1,1,b.tf,b.tt⟩,⟨1,2,b.hf,b.ht⟩] by simp [yK,hk]];have c3:=zuu (a:=a) hk;simp only [zeO,e1,e2,zgT,Wu,zmF,b1,b2,c3,zjm ha hb];simp
theorem zf5 {n:Int} {l:List Cl} {k:Nat} (h:Qj n l k=0):Qg n (l.getD k default)=0:=by
 unfold Qj at h;split at h
 ·exact h
 ·rename_i h1;simpa using h1
theorem zwk5 {G:Prop} (h:G:=by repeat' (first|(refine shC ?_;first|(have:=b0;refine qC cf ?_)|(have:=b1;refine qC ca ?_))|(refine shX ?_;first|(have:=b0;refine qX hem ?_)|(have:=b1;refine qX he ?_))|refine sK ?_|refine sC (fun _=>?_) (fun _=>?_)|(have:=b2;exact retq rfl (by simp [zn,Zu,h6]))|(have:=b3;exact retq rfl (by simp [zn,hfin,hat]))|(have:=b4;exact ⟨m + 1,⟨by omega,hpm⟩,tD,tS,tH⟩)|fail)):G:=h
set_option maxHeartbeats 1000000 in
theorem zlZ (n:Int) (l:List Cl):ACall Tryz.prog 277 [pi n,cls l] (.tup [pi (Zu n l).1,pi (Zu n l).2]):=by
 refine zh zf Tryz.func277 rfl zws Tryz.ntmps277 zwy63 _ rfl (fun hw gB hgB=>?_);have hl:=zl4 hw.2.1;by_cases h6:6 < l.length
 ·have b2:=();exact zwk5
 ·repeat' (first|refine sK ?_|refine sC (fun _=>?_) (fun _=>?_)|fail)
  refine zL (fun k:Nat=>[(0,.pv (pi n)),(1,.pv (cls l)),(14,.pv (cls l)),(15,.pv (pi l.length)),(16,.pv (pi k))]) (fun _=>[]) (fun k=>k<=l.length/\∀ j,j < k->Qj n l j=0) (fun k=>l.length - k) 0 ⟨by omega,fun j h=>by omega⟩ (tS) tH ?_;rintro k ⟨hk,hno⟩;by_cases hlt:k < l.length
  ·have he:=zbn hlt;have ca:=zn4 n (l.getD k default);rw [zpQ] at ca;cases ha:(Qg n (l.getD k default) != 0)
   ·have hokk:OkC (l.getD k default):=zc7 (n:=n) (by simpa using ha)
    repeat' (first|refine zy rfl (ZG (xs:=l) (f:=qR) 0 k zf rfl rfl rfl rfl rfl rfl rfl zwy62 zwy62) rfl rfl ?_|(refine shC ?_;first|refine qC ca ?_)|(refine shX ?_;first|refine qX he ?_)|refine sK ?_|refine sC (fun _=>?_) (fun _=>?_)|fail)
    refine zL (fun m:Nat=>[(0,.pv (pi n)),(1,.pv (cls l)),(6,.pv (pi k)),(7,.box 0 0),(14,.pv (cls l)),(15,.pv (pi l.length)),(16,.pv (pi k)),(30,.pv (cls (l.take k))),(31,.pv (pi k)),(32,.pv (pi m))]) (fun _=>[(0,.cell (.pv (qR (l.getD k default))))]) (fun m=>m<=k/\QB l k m=false) (fun m=>k - m) 0 ⟨by omega,rfl⟩ (by repeat (first|exact yO|refine yA rfl ?_|(refine qW rfl ?_ ?_;· (simp;omega)))) tH ?_;rintro m ⟨hm,hpb⟩;by_cases hltm:m < k
    ·have hem:((l.take k).map qR)[((m:Nat):Int).toNat]?=some (qR (l.getD m default)):=by
      simp [List.getElem?_take,hltm,show m < l.length by omega]
     have hps:=zeX l k m;have hokm:OkC (l.getD m default):=zc7 (n:=n) (zf5 (hno m hltm));have cf:=zpx (l.getD m default) (l.getD k default);rw [zrC hokm hokk] at cf;cases hf:Wu (l.getD m default) (l.getD k default)
     ·have hat:Qj n l k=12:=by
       have:QB l k k=true:=by
        simp only [QB,List.any_eq_true,List.mem_range];exact ⟨m,hltm,by rw [hf];rfl⟩
       unfold Qj;rw [ha];simp [this]
      have hfin:=zcB h6 hlt hno (by rw [hat];decide);clear hps;rw [hf] at cf;have b0:=();have b3:=();exact zwk5
     ·have hpm:QB l k (m + 1)=false:=by rw [hps,hpb,hf];rfl
      clear hps;rw [hf] at cf;have b0:=();have b4:=();exact zwk5
    ·repeat' (first|refine sK ?_|refine sC (fun _=>?_) (fun _=>?_)|fail)
     have:m=k:=by omega
     subst this;have hat:Qj n l m=0:=by unfold Qj;rw [ha];simp [hpb]
     exact ⟨m + 1,⟨by omega,fun j hj=>by
      by_cases e:j=m
      ·subst e;exact hat
      ·exact hno j zwy62⟩,tD,tS,tH⟩
   ·have hat:Qj n l k=Qg n (l.getD k default):=by unfold Qj;rw [ha];simp
    have hfin:=zcB h6 hlt hno (by rw [hat];simpa using ha);have b1:=();have b3:=();exact zwk5
  ·repeat' (first|refine sK ?_|refine sC (fun _=>?_) (fun _=>?_)|fail)
   have:k=l.length:=by omega
   subst this;exact retq rfl (by simp [zn,zeM h6 hno])
end Go.Cg
