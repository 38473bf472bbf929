/- A part of the walks by abstract values: no statement of its own. -/
import Derived.Test.YtemhfmmhkimhmaaGreatV19
import Derived.Test.YtemhfmmhkimhmaaGreatV9
import Derived.Test.YtemhfmmhkimhmaaGreatV6
import Derived.Test.YtemhfmmhkimhmaaGreatV7
set_option linter.unusedVariables false
set_option linter.unusedSimpArgs false
namespace Go.Cg
open Go.Proofs
set_option maxHeartbeats 20000000
structure Fm (g:Img):Prop where
 n:g.types.length<=32
 faces:∀ td∈g.types,td.faces.length<=4/\∀ f∈td.faces,0<=f/\f < g.types.length
theorem zc5 {g:Img} (h:yh g=true):Fm g :=
 ⟨(yg h).1,fun td hm=>let ⟨_,_,_,_,h5,h6⟩:=Yw ((yg h).2.2.2 td hm);⟨h5,h6⟩⟩
theorem za6 {g:Img} {t:Int} {td:TD} (h:typeAt g t=some td):td∈g.types:=by
 unfold typeAt at h;split at h
 ·exact List.mem_of_getElem? h
 ·cases h
theorem Fm.at {g:Img} (h:Fm g) (t:Int):(yP g t).length<=4/\∀ f∈yP g t,0<=f/\f < g.types.length:=by
 unfold yP;cases ht:typeAt g t with
 | none=>simp
 | some td=>exact h.faces td (za6 ht)
theorem zac {g:Img} {t:Int} (h:0<=t/\t < g.types.length):there g t=true:=by
 obtain ⟨td,htd⟩:=Yo h;exact (Ya g t).2 ⟨td,htd⟩
def Ym (g:Img) (t:Int):List Int:=sortL (Wn g.types.length (yP g) ((up g t).flatMap (yP g)))
theorem zgD (g:Img) (t:Int) (hF:Fm g):ACall Tryz.prog 76 [zK g,pi t] (ints (Ym g t)):=by
 refine zh zf Tryz.func76 rfl zws Tryz.ntmps76 zwy63 _ rfl (fun hw gB hgB=>?_);have hn:=hF.n;have hui:=WO g t;have hul:=ZC _ _ hui.1 hui.2
 repeat' (first|(refine shC ?_;first|refine zy rfl (zJ rfl rfl (YV g t zwy62)) rfl rfl ?_|refine zq rfl (zJ rfl rfl (YV g t zwy62)) rfl rfl ?_)|refine sA ?_|refine sC (fun _=>?_) (fun _=>?_)|fail)
 refine Za (t:=5) 0 3 1 zwy69 rfl rfl ?_;refine zL (fun x:Nat × List Int=>[(2,.pv (.ptr (zK g) 0)),(5,.own 0),(10,.pv (ints (up g t))),(11,.pv (pi (up g t).length)),(12,.pv (pi x.1))]) (fun x=>[(0,.row 3 1 (x.2.map pi))])
  (fun x=>x.1<=(up g t).length/\x.2.length<=4 * x.1/\(∀ y∈x.2,0<=y/\y < g.types.length)/\x.2++((up g t).drop x.1).flatMap (yP g)=(up g t).flatMap (yP g)) (fun x=>(up g t).length - x.1) (0,[]) ⟨by simp,by simp,by simp,rfl⟩ (tS) ⟨aB zB,rfl⟩ ?_
 rintro ⟨k,out⟩ ⟨hk,hol,hrg,hr⟩;simp only at hk hol hrg hr;by_cases hlt:k < (up g t).length
 ·have he:=qJ hlt;obtain ⟨hf1,hf2⟩:=hF.at (up g t)[k];rw [drop_cons hlt,List.flatMap_cons] at hr
  repeat' (first|(refine shC ?_;first|refine zy rfl (zJ rfl rfl (VY g _ zwy62 (fun f hf=>zac (hf2 f hf)))) rfl rfl ?_|refine zq rfl (zJ rfl rfl (VY g _ zwy62 (fun f hf=>zac (hf2 f hf)))) rfl rfl ?_)|(refine shX ?_;first|refine qX he ?_)|(refine yw ?_;first|refine yV zf rfl rfl rfl rfl rfl rfl rfl zwy73 zwy64 rfl rfl ?_)|refine sK ?_|refine sC (fun _=>?_) (fun _=>?_)|fail)
  refine ⟨(k + 1,out++yP g (up g t)[k]),⟨hlt,by simp;omega,?_,by simpa using hr⟩,tD,tS,⟨qG rfl zwy63 zB,rfl⟩⟩;intro y hy;simp only [List.mem_append] at hy;rcases hy with hy|hy
  ·exact hrg y hy
  ·exact hf2 y hy
 ·rw [drop_end zwy62] at hr;simp only [List.flatMap_nil,List.append_nil] at hr;subst hr;have c1:=zey g.types.length zwy62 ((up g t).flatMap (yP g)) (yP g) 113 [] [.ptr (zK g) 0] hrg zwy62
   (fun x h0 h1=>zmn g x (by have:=(hF.at x).1;omega) (fun f hf=>zac ((hF.at x).2 f hf))) (fun x h0 h1=>⟨by have:=(hF.at x).1;omega,(hF.at x).2⟩)
  repeat' (first|(refine shC ?_;first|refine qC c1 ?_)|refine sK ?_|refine sC (fun _=>?_) (fun _=>?_)|fail)
  exact retq rfl rfl
def Vw (g:Img) (a b:Int):Bool:=decide (b∈up g a)||decide (b∈Ym g a)
theorem zoa (g:Img) (a b:Int) (hF:Fm g):ACall Tryz.prog 189 [zK g,pi a,pi b] (pb (Vw g a b)):=by
 refine zh zf Tryz.func189 rfl zws Tryz.ntmps189 zwy63 _ rfl (fun hw gB hgB=>?_);have hn:=hF.n
 repeat' (first|(refine shC ?_;first|refine zy rfl (zJ rfl rfl (YV g a zwy62)) rfl rfl ?_|refine zq rfl (zJ rfl rfl (YV g a zwy62)) rfl rfl ?_|refine qC (YZ _ _) ?_|refine qC (zgD g a hF) ?_)|refine sA ?_|refine sC (fun _=>?_) (fun _=>?_)|fail)
 all_goals first|(refine ak ?_;first|(simp only [zn,Vw,BL,List.length_map] at *;simp only [*,BL,List.length_map];done)|(simp_all [zn,Vw];done)|(simp_all [zn,Vw];omega)|(simp_all [zn,Vw];intros;omega))|(refine Yf rfl ?_;first|(simp only [zn,Vw,BL,List.length_map] at *;simp only [*,BL,List.length_map];done)|(simp_all [zn,Vw];done)|(simp_all [zn,Vw];omega)|(simp_all [zn,Vw];intros;omega))|skip
def zaa (g:Img) (a b:Ty):Bool :=
 if tyB a b then true
 else if !object a||!object b then false
 else if plain a 8||plain b 4 then true
 else if plain a 5&&plain b 5 then Vw g a.index b.index
 else plain a 7&&tyB b ⟨7,0,0,false⟩
theorem Wu (g:Img) (a b:Ty) (hF:Fm g):ACall Tryz.prog 139 [zK g,yJ a,yJ b] (pb (zaa g a b)):=by
 refine zh zf Tryz.func139 rfl zws Tryz.ntmps139 zwy63 _ rfl (fun hw gB hgB=>?_)
 repeat' (first|(refine shC ?_;first|refine qC (qY a) ?_|refine qC (qY b) ?_|refine qC (Xl a 8) ?_|refine qC (Xl b 4) ?_|refine qC (Xl a 5) ?_|refine qC (Xl b 5) ?_|refine qC (zoa g _ _ hF) ?_|refine qC (Xl a 7) ?_|refine qC zhW ?_)|refine sA ?_|refine sC (fun _=>?_) (fun _=>?_)|fail)
 all_goals refine ak ?_
 all_goals first|(simp only [zn,zaa,tyB, *];done)|(simp only [zn,zaa,tyB, *];rfl)
def ze7 (g:Img) (a b:Ty):Ty :=
 match (up g a.index).find? (fun t=>decide (t∈up g b.index)) with|some t=>⟨5,t,0,false⟩|none=>⟨4,0,0,false⟩
def QK (g:Img) (a b:Ty):Ty × Int :=
 if zaa g b a then (a,0) else if zaa g a b then (b,0)
 else if !object a||!object b then (ty0,14)
 else if plain a 7&&plain b 7 then (⟨7,0,0,false⟩,0)
 else if zf8 g a&&zf8 g b then (ze7 g a b,0)
 else (⟨4,0,0,false⟩,0)
theorem ziy {g:Img} {a b:Ty} {x:Ty × Int} (h:QK g a b=x):PV.tup [yJ x.1,pi x.2]=.tup [yJ (QK g a b).1,pi (QK g a b).2]:=by rw [h]
theorem zwk2 {G:Prop} (h:G:=by repeat' (first|(refine shC ?_;first|(have:=b0;refine qC c3 ?_)|(have:=b1;refine qC zg4 ?_))|(refine shX ?_;first|(have:=b0;refine qX he ?_))|refine sK ?_|refine sC (fun _=>?_) (fun _=>?_)|(have:=b2;exact retq rfl (Eq.trans (b:=PV.tup [yJ ⟨5,(up g a.index)[k],0,false⟩,pi 0]) rfl (ziy (x:=(⟨5,(up g a.index)[k],0,false⟩,0)) (by rw [hmt,hr]))))|(have:=b1;exact retq rfl (Eq.trans (b:=PV.tup [yJ ⟨4,0,0,false⟩,pi 0]) rfl (ziy (x:=(⟨4,0,0,false⟩,0)) (by rw [hmt,hr];rfl))))|exact ⟨k + 1,⟨hlt,hr⟩,tD,tS,⟨aB zB,rfl⟩⟩|fail)):G:=h
theorem zl8 (g:Img) (a b:Ty) (hF:Fm g):ACall Tryz.prog 140 [zK g,yJ a,yJ b] (.tup [yJ (QK g a b).1,pi (QK g a b).2]):=by
 refine zh zf Tryz.func140 rfl zws Tryz.ntmps140 zwy63 _ rfl (fun hw gB hgB=>?_);have hn:=hF.n;have hui:=WO g a.index;have hul:=ZC _ _ hui.1 hui.2
 repeat' (first|(refine shC ?_;first|refine qC (Wu g b a hF) ?_|refine qC (Wu g a b hF) ?_|refine qC (qY a) ?_|refine qC (qY b) ?_|refine qC (Xl a 7) ?_|refine qC (Xl b 7) ?_|refine qC zhW ?_|refine qC (ziW g a) ?_|refine qC (ziW g b) ?_|refine zy rfl (zJ rfl rfl (YV g _ zwy62)) rfl rfl ?_|refine zq rfl (zJ rfl rfl (YV g _ zwy62)) rfl rfl ?_|refine qC zg4 ?_)|refine sK ?_|refine sC (fun _=>?_) (fun _=>?_)|fail)
 all_goals first
  | (refine retq rfl (Eq.trans (b:=PV.tup [yJ a,pi 0]) rfl (ziy (x:=(a,0)) ?_));simp only [QK, *];rfl)
  | (refine retq rfl (Eq.trans (b:=PV.tup [yJ b,pi 0]) rfl (ziy (x:=(b,0)) ?_));simp only [QK, *];rfl)
  | (refine retq rfl (Eq.trans (b:=PV.tup [yJ ty0,pi 14]) rfl (ziy (x:=(ty0,14)) ?_));simp only [QK, *];rfl)
  | (refine retq rfl (Eq.trans (b:=PV.tup [yJ ⟨7,0,0,false⟩,pi 0]) rfl (ziy (x:=(⟨7,0,0,false⟩,0)) ?_));simp only [QK, *];rfl)
  | (refine retq rfl (Eq.trans (b:=PV.tup [yJ ⟨4,0,0,false⟩,pi 0]) rfl (ziy (x:=(⟨4,0,0,false⟩,0)) ?_));simp only [QK, *];rfl)
  | skip
 all_goals
  have hmt:QK g a b=(ze7 g a b,0):=by simp only [QK, *];rfl
  refine zL (fun k:Nat=>[(6,.box 0 0),(8,.pv (ints (up g b.index))),(56,.pv (ints (up g a.index))),(57,.pv (pi (up g a.index).length)),(58,.pv (pi k))]) (fun _=>[(0,.cell (.pv (yJ ty0)))])
   (fun k=>k<=(up g a.index).length/\ze7 g a b=(match ((up g a.index).drop k).find? (fun t=>decide (t∈up g b.index)) with|some t=>⟨5,t,0,false⟩|none=>⟨4,0,0,false⟩)) (fun k=>(up g a.index).length - k) 0 ⟨by simp,rfl⟩ (tS) ⟨aB zB,rfl⟩ ?_
  rintro k ⟨hk,hr⟩;by_cases hlt:k < (up g a.index).length
  ·have he:=qJ hlt;rw [drop_cons hlt,List.find?_cons] at hr;have c3:=YZ (up g b.index) (up g a.index)[k];cases hm:decide ((up g a.index)[k]∈up g b.index)
   ·rw [hm] at c3 hr;have b0:=();exact zwk2
   ·rw [hm] at c3 hr;have b0:=();have b2:=();exact zwk2
  ·rw [drop_end zwy62] at hr;have b1:=();exact zwk2
set_option maxHeartbeats 20000000
theorem zeq (s:ByteArray):ACall Tryz.prog 252 [ps s] (pb (zaq s)):=by
 refine zh zf Tryz.func252 rfl zws Tryz.ntmps252 zwy63 _ rfl (fun hw gB hgB=>?_);have hl:=zpK hw.1;have he:(s.toList==(⟨#[]⟩:ByteArray).toList)=decide (s.size=0):=by
  rw [ByteArray.toList_eq,ByteArray.toList_eq];have hs:s.size=s.data.toList.length:=by simp
  rw [hs];cases s.data.toList <;> simp
 have hfin:s.size≠0->s.size<=24->zaq s=s.data.toList.all zlL:=fun a b=>by
  unfold zaq;rw [decide_eq_true zwy62,decide_eq_true zwy62];simp
 repeat' (first|refine sK ?_|refine sC (fun _=>?_) (fun _=>?_)|fail)
 all_goals first
  | (refine ak ?_;simp_all [zn,zaq];done)
  | (refine ak ?_;simp_all [zn,zaq];omega)
  | skip
 refine zL (fun k:Nat=>[(0,.pv (ps s)),(12,.pv (pi s.size)),(13,.pv (pi k))]) (fun _=>[]) (fun k=>k<=s.size/\zaq s=(s.data.toList.drop k).all zlL) (fun k=>s.size - k) 0 ⟨by simp,by rw [hfin (by simp_all) (by simp_all <;> omega)];simp⟩ (tS) tH ?_;rintro k ⟨hk,hr⟩;by_cases hlt:k < s.size
 ·have hb:=zff hlt;rw [YI zwy80] at hr
  repeat' (first|(refine shI ?_;first|refine zy rfl (VJ zf rfl rfl rfl rfl zwy62 hb) rfl rfl ?_|refine zq rfl (VJ zf rfl rfl rfl rfl zwy62 hb) rfl rfl ?_)|refine sK ?_|refine sC (fun _=>?_) (fun _=>?_)|fail)
  all_goals first
   | exact ⟨k + 1,⟨by omega,by simp_all [zlL]⟩,tD,tS,tH⟩
   | (refine ak ?_;simp_all [zn,zlL];done)
 ·rw [drop_end zwy64] at hr
  repeat' (first|refine sK ?_|refine sC (fun _=>?_) (fun _=>?_)|fail)
  all_goals (refine ak ?_;simp_all [zn];done)
theorem ziJ (n x:Int):ACall Tryz.prog 251 [pi x,.ptr (pi n) 0] (pb (!XI n x)):=by
 refine zh zf Tryz.func251 rfl zws Tryz.ntmps251 zwy63 _ rfl (fun hw gB hgB=>?_)
 repeat' (first|refine sA ?_|refine sC (fun _=>?_) (fun _=>?_)|fail)
 all_goals (refine ak ?_;simp only [zn,List.cons.injEq,PV.base.injEq,Value.bool.injEq];rw [Bool.eq_iff_iff];simp_all [XI] <;> omega)
theorem Ws (l:List Int) (p:Int->Bool) (f:FuncId) (first cap:List PV) (hp:∀ x∈l,ACall Tryz.prog f (first++[pi x]++cap) (pb (p x))):ACall Tryz.prog 74 [ints l,.fn (.func f) first cap] (pb (l.any p)):=by
 refine zh zf Tryz.func74 rfl zws Tryz.ntmps74 zwy63 _ rfl (fun hw gB hgB=>?_);have c1:=zaZ l p f first cap hp
 repeat' (first|(refine shC ?_;first|refine qC c1 ?_)|refine sA ?_|refine sC (fun _=>?_) (fun _=>?_)|fail)
 refine ak ?_;have:decide (0<=zd0 l p)=l.any p:=by
  unfold zd0;cases h:l.any p <;> simp
 simp [zn,this]
def zs5 (l:List TD) (p:TD->Bool):Int:=if l.any p then ((l.findIdx p:Nat):Int) else -1
theorem zho (l:List TD) (p:TD->Bool) (f:FuncId) (first cap:List PV) (hp:∀ x∈l,ACall Tryz.prog f (first++[Zx x]++cap) (pb (p x))):ACall Tryz.prog 266 [.slc 4 (l.map Zx) false,.fn (.func f) first cap] (pi (zs5 l p)):=by
 refine zh zf Tryz.func266 rfl zws Tryz.ntmps266 zwy63 _ rfl (fun hw gB hgB=>?_);have hl:l.length<=9223372036854775807:=by have:=hw.1;simp [PV.lenOk,lensOk,maxLen] at this;exact this.1
 repeat' (first|refine sA ?_|refine sC (fun _=>?_) (fun _=>?_)|fail)
 refine zL (fun k:Nat=>[(0,.pv (.slc 4 (l.map Zx) false)),(1,.pv (.fn (.func f) first cap)),(7,.pv (pi l.length)),(8,.pv (pi k))]) (fun _=>[]) (fun k=>k<=l.length/\∀ j (h:j < k) (h2:j < l.length),p l[j]=false) (fun k=>l.length - k) 0 ⟨by omega,fun j h=>by omega⟩ (tS) tH ?_;rintro k ⟨hk,hno⟩;by_cases hlt:k < l.length
 ·have he:=zT (f:=Zx) hlt;have c1:=hp _ (List.getElem_mem hlt);cases hpx:p l[k]
  ·rw [hpx] at c1
   repeat' (first|(refine shC ?_;first|refine qV (c1) ?_)|(refine shX ?_;first|refine qX he ?_)|refine sK ?_|refine sC (fun _=>?_) (fun _=>?_)|fail)
   exact ⟨k + 1,⟨hlt,fun j hj h2=>by
    by_cases e:j=k
    ·subst e;exact hpx
    ·exact hno j zwy62 h2⟩,tD,tS,tH⟩
  ·rw [hpx] at c1;have hi:l.findIdx p=k:=by
    rw [List.findIdx_eq hlt];exact ⟨hpx,fun j hj=>hno j hj zwy62⟩
   have ha:l.any p=true:=List.any_eq_true.2 ⟨_,List.getElem_mem hlt,hpx⟩
   repeat' (first|(refine shC ?_;first|refine qV (c1) ?_)|(refine shX ?_;first|refine qX he ?_)|refine sK ?_|refine sC (fun _=>?_) (fun _=>?_)|fail)
   exact retq rfl (by simp [zn,zs5,ha,hi])
 ·have ha:l.any p=false:=by
   rw [List.any_eq_false];intro x hx;obtain ⟨j,hj,rfl⟩:=List.getElem_of_mem hx;simp [hno j zwy62 hj]
  repeat' (first|refine sK ?_|refine sC (fun _=>?_) (fun _=>?_)|fail)
  exact retq rfl (by simp [zn,zs5,ha])
theorem zeC (l:List TD) (p:TD->Bool) (f:FuncId) (first cap:List PV) (hp:∀ x∈l,ACall Tryz.prog f (first++[Zx x]++cap) (pb (p x))):ACall Tryz.prog 249 [.slc 4 (l.map Zx) false,.fn (.func f) first cap] (pb (l.any p)):=by
 refine zh zf Tryz.func249 rfl zws Tryz.ntmps249 zwy63 _ rfl (fun hw gB hgB=>?_);have c1:=zho l p f first cap hp
 repeat' (first|(refine shC ?_;first|refine qC c1 ?_)|refine sA ?_|refine sC (fun _=>?_) (fun _=>?_)|fail)
 refine ak ?_;have:decide (0<=zs5 l p)=l.any p:=by
  unfold zs5;cases h:l.any p <;> simp
 simp [zn,this]
theorem znY (t:TD) (n:Int):ACall Tryz.prog 250 [Zx t,.ptr (pi n) 0] (pb (!Zj t n)):=by
 refine zh zf Tryz.func250 rfl zws Tryz.ntmps250 zwy63 _ rfl (fun hw gB hgB=>?_);have c1:=Ws t.faces (fun x=>!XI n x) 251 [] [.ptr (pi n) 0] (fun x _=>ziJ n x);have ha:t.faces.any (fun x=>!XI n x)=!t.faces.all (XI n):=by rw [List.not_all_eq_any_not]
 rw [ha] at c1
 repeat' (first|(refine shC ?_;first|refine qC c1 ?_|refine qC (zeq _) ?_)|refine sA ?_|refine sC (fun _=>?_) (fun _=>?_)|fail)
 all_goals first|(refine ak ?_;first|(simp only [zn,Zj,BL,List.length_map] at *;simp only [*,BL,List.length_map];done)|(simp_all [zn,Zj];done)|(simp_all [zn,Zj];omega)|(simp_all [zn,Zj];intros;omega))|(refine Yf rfl ?_;first|(simp only [zn,Zj,BL,List.length_map] at *;simp only [*,BL,List.length_map];done)|(simp_all [zn,Zj];done)|(simp_all [zn,Zj];omega)|(simp_all [zn,Zj];intros;omega))|skip
def zae (g:Img):Bool:=decide ((g.types.length:Int)<=32)&&g.types.all (fun t=>Zj t g.types.length)
theorem zpg (g:Img):ACall Tryz.prog 222 [zK g] (pb (zae g)):=by
 refine zh zf Tryz.func222 rfl zws Tryz.ntmps222 zwy63 _ rfl (fun hw gB hgB=>?_);have c1:=zeC g.types (fun t=>!Zj t ((g.types.map Zx).length:Nat)) 250 [] [.ptr (pi ((g.types.map Zx).length:Nat)) 0] (fun x _=>znY x _);rw [<-List.not_all_eq_any_not] at c1
 repeat' (first|refine zce (t:=3) rfl rfl rfl ?_|(refine shC ?_;first|refine qC c1 ?_)|refine sA ?_|refine sC (fun _=>?_) (fun _=>?_)|fail)
 all_goals first|(refine ak ?_;first|(simp only [zn,zae,BL,List.length_map] at *;simp only [*,BL,List.length_map];done)|(simp_all [zn,zae];done)|(simp_all [zn,zae];omega)|(simp_all [zn,zae];intros;omega))|(refine Yf rfl ?_;first|(simp only [zn,zae,BL,List.length_map] at *;simp only [*,BL,List.length_map];done)|(simp_all [zn,zae];done)|(simp_all [zn,zae];omega)|(simp_all [zn,zae];intros;omega))|skip
set_option maxHeartbeats 20000000
def zdX (op:Int):ByteArray × Int × Int :=
 if op==62 then (⟨#[98,111,120]⟩,8,0)
 else if op==63 then (⟨#[117,110,98,111,120]⟩,8,0)
 else if op==64 then (⟨#[117,110,98,111,120,97,110,121]⟩,8,0)
 else if op==65 then (⟨#[99,97,115,116,99,108,97,115,115]⟩,8,0)
 else if op==66 then (⟨#[105,115,105,110,115,116]⟩,8,0)
 else if op==67 then (⟨#[108,100,102,116,110]⟩,6,0)
 else if op==68 then (⟨#[110,101,119,100,101,108]⟩,8,0)
 else if op==69 then (⟨#[116,104,114,111,119]⟩,0,3)
 else if op==70 then (⟨#[114,101,116,104,114,111,119]⟩,0,3)
 else if op==71 then (⟨#[108,101,97,118,101]⟩,5,4)
 else if op==72 then (⟨#[101,110,100,102,105,110,97,108,108,121]⟩,0,5)
 else if op==73 then (⟨#[101,110,100,102,105,108,116,101,114]⟩,0,5)
 else if op==74 then (⟨#[105,110]⟩,0,0)
 else if op==75 then (⟨#[111,117,116]⟩,0,0)
 else (⟨#[]⟩,0,0)
theorem zlv (op:Int):ACall Tryz.prog 256 [pi op] (zcn (zdX op).1 (zdX op).2.1 (zdX op).2.2):=by
 refine zh zf Tryz.func256 rfl zws Tryz.ntmps256 zwy63 _ rfl (fun hw gB hgB=>?_)
 repeat' (first|refine sA ?_|refine sC (fun _=>?_) (fun _=>?_)|fail)
 all_goals (refine ak ?_;simp only [zn,zdX, *];rfl)
def zdH (op:Int):ByteArray × Int × Int :=
 if op==48 then (⟨#[108,100,102,108,100]⟩,7,0)
 else if op==49 then (⟨#[115,116,102,108,100]⟩,7,0)
 else if op==50 then (⟨#[108,100,102,108,100,97]⟩,7,0)
 else if op==51 then (⟨#[108,100,115,102,108,100]⟩,7,0)
 else if op==52 then (⟨#[115,116,115,102,108,100]⟩,7,0)
 else if op==53 then (⟨#[108,100,115,102,108,100,97]⟩,7,0)
 else if op==54 then (⟨#[108,100,111,98,106]⟩,8,0)
 else if op==55 then (⟨#[115,116,111,98,106]⟩,8,0)
 else if op==56 then (⟨#[105,110,105,116,111,98,106]⟩,8,0)
 else if op==57 then (⟨#[110,101,119,97,114,114]⟩,8,0)
 else if op==58 then (⟨#[108,100,108,101,110]⟩,0,0)
 else if op==59 then (⟨#[108,100,101,108,101,109]⟩,8,0)
 else if op==60 then (⟨#[115,116,101,108,101,109]⟩,8,0)
 else if op==61 then (⟨#[108,100,101,108,101,109,97]⟩,8,0)
 else zdX op
theorem zkU (op:Int):ACall Tryz.prog 232 [pi op] (zcn (zdH op).1 (zdH op).2.1 (zdH op).2.2):=by
 refine zh zf Tryz.func232 rfl zws Tryz.ntmps232 zwy63 _ rfl (fun hw gB hgB=>?_)
 repeat' (first|(refine shC ?_;first|refine qC (zlv op) ?_)|refine sA ?_|refine sC (fun _=>?_) (fun _=>?_)|fail)
 all_goals (refine ak ?_;simp only [zn,zdH, *];rfl)
def zfI (op:Int):ByteArray × Int × Int :=
 if op==34 then (⟨#[98,114]⟩,5,1)
 else if op==35 then (⟨#[98,114,116,114,117,101]⟩,5,2)
 else if op==36 then (⟨#[98,114,102,97,108,115,101]⟩,5,2)
 else if op==37 then (⟨#[98,101,113]⟩,5,2)
 else if op==38 then (⟨#[98,103,101]⟩,5,2)
 else if op==39 then (⟨#[98,103,116]⟩,5,2)
 else if op==40 then (⟨#[98,108,101]⟩,5,2)
 else if op==41 then (⟨#[98,108,116]⟩,5,2)
 else if op==42 then (⟨#[98,110,101]⟩,5,2)
 else if op==43 then (⟨#[99,97,108,108]⟩,6,0)
 else if op==44 then (⟨#[99,97,108,108,118,105,114,116]⟩,6,0)
 else if op==45 then (⟨#[110,101,119,111,98,106]⟩,6,0)
 else if op==46 then (⟨#[114,101,116]⟩,0,3)
 else if op==47 then (⟨#[116,97,105,108]⟩,0,0)
 else zdH op
theorem zmL (op:Int):ACall Tryz.prog 206 [pi op] (zcn (zfI op).1 (zfI op).2.1 (zfI op).2.2):=by
 refine zh zf Tryz.func206 rfl zws Tryz.ntmps206 zwy63 _ rfl (fun hw gB hgB=>?_)
 repeat' (first|(refine shC ?_;first|refine qC (zkU op) ?_)|refine sA ?_|refine sC (fun _=>?_) (fun _=>?_)|fail)
 all_goals (refine ak ?_;simp only [zn,zfI, *];rfl)
def zj3 (op:Int):ByteArray × Int × Int :=
 if op==13 then (⟨#[97,100,100]⟩,0,0)
 else if op==14 then (⟨#[115,117,98]⟩,0,0)
 else if op==15 then (⟨#[109,117,108]⟩,0,0)
 else if op==16 then (⟨#[100,105,118]⟩,0,0)
 else if op==17 then (⟨#[114,101,109]⟩,0,0)
 else if op==18 then (⟨#[97,110,100]⟩,0,0)
 else if op==19 then (⟨#[111,114]⟩,0,0)
 else if op==20 then (⟨#[120,111,114]⟩,0,0)
 else if op==21 then (⟨#[115,104,108]⟩,0,0)
 else if op==22 then (⟨#[115,104,114]⟩,0,0)
 else if op==23 then (⟨#[110,101,103]⟩,0,0)
 else if op==24 then (⟨#[110,111,116]⟩,0,0)
 else if op==25 then (⟨#[97,100,100,111,118,102]⟩,0,0)
 else if op==26 then (⟨#[115,117,98,111,118,102]⟩,0,0)
 else if op==27 then (⟨#[109,117,108,111,118,102]⟩,0,0)
 else if op==28 then (⟨#[99,111,110,118,52]⟩,0,0)
 else if op==29 then (⟨#[99,111,110,118,56]⟩,0,0)
 else if op==30 then (⟨#[99,111,110,118,111,118,102,52]⟩,0,0)
 else if op==31 then (⟨#[99,101,113]⟩,0,0)
 else if op==32 then (⟨#[99,103,116]⟩,0,0)
 else if op==33 then (⟨#[99,108,116]⟩,0,0)
 else zfI op
theorem zo9 (op:Int):ACall Tryz.prog 148 [pi op] (zcn (zj3 op).1 (zj3 op).2.1 (zj3 op).2.2):=by
 refine zh zf Tryz.func148 rfl zws Tryz.ntmps148 zwy63 _ rfl (fun hw gB hgB=>?_)
 repeat' (first|(refine shC ?_;first|refine qC (zmL op) ?_)|refine sA ?_|refine sC (fun _=>?_) (fun _=>?_)|fail)
 all_goals (refine ak ?_;simp only [zn,zj3, *];rfl)
def ofI (op:Int):ByteArray × Int × Int :=
 if op==1 then (⟨#[110,111,112]⟩,0,0)
 else if op==2 then (⟨#[108,100,97,114,103]⟩,4,0)
 else if op==3 then (⟨#[115,116,97,114,103]⟩,4,0)
 else if op==4 then (⟨#[108,100,97,114,103,97]⟩,4,0)
 else if op==5 then (⟨#[108,100,108,111,99]⟩,3,0)
 else if op==6 then (⟨#[115,116,108,111,99]⟩,3,0)
 else if op==7 then (⟨#[108,100,108,111,99,97]⟩,3,0)
 else if op==8 then (⟨#[108,100,99,52]⟩,1,0)
 else if op==9 then (⟨#[108,100,99,56]⟩,2,0)
 else if op==10 then (⟨#[108,100,110,117,108,108]⟩,0,0)
 else if op==11 then (⟨#[100,117,112]⟩,0,0)
 else if op==12 then (⟨#[112,111,112]⟩,0,0)
 else zj3 op
theorem zno (op:Int):ACall Tryz.prog 105 [pi op] (zcn (ofI op).1 (ofI op).2.1 (ofI op).2.2):=by
 refine zh zf Tryz.func105 rfl zws Tryz.ntmps105 zwy63 _ rfl (fun hw gB hgB=>?_)
 repeat' (first|(refine shC ?_;first|refine qC (zo9 op) ?_)|refine sA ?_|refine sC (fun _=>?_) (fun _=>?_)|fail)
 all_goals (refine ak ?_;simp only [zn,ofI, *];rfl)
set_option maxHeartbeats 20000000
def zgb (t:Ty):Bool :=
 if t.kind==1 then t.index==0&&(t.dims==0&&(t.ref==false&&true))
 else if t.kind==2||t.kind==3||t.kind==4 then decide (0<=t.index)&&decide (t.index<=0)&&decide (0<=t.dims)&&decide (t.dims<=3)
 else if t.kind==5||t.kind==6 then decide (0<=t.index)&&decide (t.index<=31)&&decide (0<=t.dims)&&decide (t.dims<=3)
 else if t.kind==7 then decide (0<=t.index)&&decide (t.index<=7)&&decide (0<=t.dims)&&decide (t.dims<=3)
 else false
theorem zkt (t:Ty):zgb t=ZR t:=by
 rw [Bool.eq_iff_iff,zgb,ZR];by_cases h1:t.kind=1
 ·cases hr:t.ref <;> simp [h1] <;> omega
 ·by_cases h2:t.kind=2
  ·simp [h2];omega
  ·by_cases h3:t.kind=3
   ·simp [h3];omega
   ·by_cases h4:t.kind=4
    ·simp [h4];omega
    ·by_cases h5:t.kind=5
     ·simp [h5];omega
     ·by_cases h6:t.kind=6
      ·simp [h6];omega
      ·by_cases h7:t.kind=7
       ·simp [h7];omega
       ·simp [h1,h2,h3,h4,h5,h6,h7]
theorem zhf (t:Ty):ACall Tryz.prog 204 [yJ t] (pb (zgb t)):=by
 refine zh zf Tryz.func204 rfl zws Tryz.ntmps204 zwy63 _ rfl (fun hw gB hgB=>?_)
 repeat' (first|refine sA ?_|refine sC (fun _=>?_) (fun _=>?_)|fail)
 all_goals first|(refine ak ?_;first|(simp only [zn,zgb, *];done)|(simp only [zn,zgb, *];rfl)|(simp_all [zn,zgb];done))|(trace "LEFT";trace_state)
theorem zbN (t:Ty):ACall Tryz.prog 145 [yJ t] (pb (ZR t)):=by
 refine zh zf Tryz.func145 rfl zws Tryz.ntmps145 zwy63 _ rfl (fun hw gB hgB=>?_);have c1:=zhf t;rw [zkt] at c1
 repeat' (first|(refine shC ?_;first|refine qC c1 ?_)|refine sA ?_|refine sC (fun _=>?_) (fun _=>?_)|fail)
 exact retq rfl rfl
theorem zmF (t:Ty):ACall Tryz.prog 290 [yJ t] (pb (ZP t 2)):=by
 refine zh zf Tryz.func290 rfl zws Tryz.ntmps290 zwy63 _ rfl (fun hw gB hgB=>?_);have c1:=zhf t;rw [zkt] at c1
 repeat' (first|(refine shC ?_;first|refine qC c1 ?_)|refine sA ?_|refine sC (fun _=>?_) (fun _=>?_)|fail)
 all_goals (refine ak ?_;simp_all [zn,ZP];done)
theorem zhe (t:Ty):ACall Tryz.prog 282 [yJ t] (pb (ZP t 1)):=by
 refine zh zf Tryz.func282 rfl zws Tryz.ntmps282 zwy63 _ rfl (fun hw gB hgB=>?_);have c1:=zmF t;have e:(ZP t 2&&!t.ref)=ZP t 1:=by
  simp only [ZP];cases ZR t <;> simp
 repeat' (first|(refine shC ?_;first|refine qC c1 ?_)|refine sA ?_|refine sC (fun _=>?_) (fun _=>?_)|fail)
 all_goals (refine ak ?_;rw [<-e];simp_all [zn];done)
theorem zb3 (t:Ty) (n:Int):ACall Tryz.prog 268 [yJ t,pi n] (pb (zf3 t n)):=by
 refine zh zf Tryz.func268 rfl zws Tryz.ntmps268 zwy63 _ rfl (fun hw gB hgB=>?_)
 repeat' (first|refine sA ?_|refine sC (fun _=>?_) (fun _=>?_)|fail)
 all_goals (first|refine ak ?_|refine Yf rfl ?_)
 all_goals (first|(simp_all [zn,zf3];done)|(simp_all [zn,zf3];omega))
theorem zmZ (t:Ty) (n:Int):ACall Tryz.prog 270 [yJ t,pi n] (pb (XA t 2 n)):=by
 refine zh zf Tryz.func270 rfl zws Tryz.ntmps270 zwy63 _ rfl (fun hw gB hgB=>?_)
 repeat' (first|(refine shC ?_;first|refine qC (zbN t) ?_|refine qC (zb3 t n) ?_)|refine sA ?_|refine sC (fun _=>?_) (fun _=>?_)|fail)
 all_goals (refine ak ?_;simp_all [zn,XA,ZP];done)
theorem zlE (t:Ty) (n:Int):ACall Tryz.prog 271 [yJ t,pi n] (pb (XA t 3 n)):=by
 refine zh zf Tryz.func271 rfl zws Tryz.ntmps271 zwy63 _ rfl (fun hw gB hgB=>?_)
 repeat' (first|(refine shC ?_;first|refine qC (zbN t) ?_|refine qC (zb3 t n) ?_)|refine sA ?_|refine sC (fun _=>?_) (fun _=>?_)|fail)
 all_goals (refine ak ?_;simp_all [zn,XA,ZP];done)
set_option maxHeartbeats 20000000
theorem zlH (op:Int) (h1:1<=op) (h2:op<=75):(ofI op).1.size≠0/\(ofI op).2.1=yC op:=by
 have h:∀ n:Fin 76,1<=n.val->(ofI (n.val:Int)).1.size≠0/\(ofI (n.val:Int)).2.1=yC (n.val:Int):=by decide +kernel
 have:=h ⟨op.toNat,by omega⟩ zwy64;simpa [Int.toNat_of_nonneg (show 0<=op by omega)] using this
theorem zuk (op:Int) (h:op < 1\/75 < op):ofI op=(⟨#[]⟩,0,0):=by
 have e:∀ k:Int,1<=k->k<=75->(op==k)=false:=fun k h1 h2=>by rw [beq_eq_false_iff_ne];omega
 simp [ofI,zj3,zfI,zdH,zdX,e]
theorem zqU (s:ByteArray):(s.toList==(⟨#[]⟩:ByteArray).toList)=decide (s.size=0):=by
 rw [ByteArray.toList_eq,ByteArray.toList_eq];have hs:s.size=s.data.toList.length:=by simp
 rw [hs];cases s.data.toList <;> simp
theorem ze1 (op:Int) (h1:1<=op) (h2:op<=75):ACall Tryz.prog 67 [pi op] (.tup [zcn (ofI op).1 (ofI op).2.1 (ofI op).2.2,pi 0]):=by
 refine zh zf Tryz.func67 rfl zws Tryz.ntmps67 zwy63 _ rfl (fun hw gB hgB=>?_);have c1:=zno op;have hn:=(zlH op h1 h2).1;generalize ofI op=x at c1 hn;have he:(x.1.toList==(⟨#[]⟩:ByteArray).toList)=false:=by rw [zqU];simp [hn]
 repeat' (first|(refine shC ?_;first|refine qC c1 ?_)|refine sK ?_|refine sC (fun _=>?_) (fun _=>?_)|fail)
 all_goals exact retq rfl rfl
theorem zgO (op:Int) (h:op < 1\/75 < op):ACall Tryz.prog 67 [pi op] (.tup [zcn ⟨#[]⟩ 0 0,pi 3]):=by
 refine zh zf Tryz.func67 rfl zws Tryz.ntmps67 zwy63 _ rfl (fun hw gB hgB=>?_);have c1:=zno op;rw [zuk op h] at c1;have he:((⟨#[]⟩:ByteArray).toList==(⟨#[]⟩:ByteArray).toList)=true:=by simp
 repeat' (first|(refine shC ?_;first|refine qC c1 ?_)|refine sK ?_|refine sC (fun _=>?_) (fun _=>?_)|fail)
 all_goals exact retq rfl rfl
theorem zmc (x b:Int):ACall Tryz.prog 310 [.base (.int .i64 x),.base (.int .i64 b)] (pb (decide (0<=x)&&decide (x < b))):=by
 refine zh zf Tryz.func310 rfl zws Tryz.ntmps310 zwy63 _ rfl (fun hw gB hgB=>?_)
 repeat' (first|refine sA ?_|refine sC (fun _=>?_) (fun _=>?_)|fail)
 all_goals (refine ak ?_;first|(simp_all [zn];done)|(simp_all [zn];omega))
def zis (x:Ins) (k:Int):Bool :=
 if k==0 then zbn x.t&&x.arg==0
 else if k==1 then zbn x.t&&decide (-2147483648<=x.arg)&&decide (x.arg < 2147483648)
 else if k==2 then zbn x.t
 else if k==3 then zbn x.t&&(decide (0<=x.arg)&&decide (x.arg < 12))
 else if k==4 then zbn x.t&&(decide (0<=x.arg)&&decide (x.arg < 7))
 else if k==5 then zbn x.t&&(decide (0<=x.arg)&&decide (x.arg < 160))
 else if k==6 then zbn x.t&&(decide (0<=x.arg)&&decide (x.arg < 64))
 else if k==7 then zbn x.t&&(decide (0<=x.arg)&&decide (x.arg < 64))
 else x.arg==0&&ZR x.t&&x.t.kind != 1&&!x.t.ref
theorem zot (x:Ins) (k:Int):ACall Tryz.prog 294 [ql x,pi k] (pb (zis x k)):=by
 refine zh zf Tryz.func294 rfl zws Tryz.ntmps294 zwy63 _ rfl (fun hw gB hgB=>?_)
 repeat' (first|(refine shC ?_;first|refine qC (zmc _ _) ?_|refine qC (zbN _) ?_)|refine sA ?_|refine sC (fun _=>?_) (fun _=>?_)|fail)
 all_goals first|(refine ak ?_;first|(simp only [zn,zis,zbn, *];done)|(simp only [zn,zis,zbn, *];rfl)|(simp_all [zn,zis,zbn];done))|(trace "LEFT";trace_state)
set_option maxHeartbeats 20000000
def ziU (x:Ins):Int:=if x.op < 1\/75 < x.op then 3 else if zis x (yC x.op) then 0 else 17
theorem zov (x:Ins):ACall Tryz.prog 285 [ql x] (pi (ziU x)):=by
 refine zh zf Tryz.func285 rfl zws Tryz.ntmps285 zwy63 _ rfl (fun hw gB hgB=>?_);by_cases hop:x.op < 1\/75 < x.op
 ·have c1:=zgO x.op hop
  repeat' (first|(refine shC ?_;first|refine qC c1 ?_)|refine sK ?_|refine sC (fun _=>?_) (fun _=>?_)|fail)
  all_goals exact retq rfl (by simp [zn,ziU,hop])
 ·have c1:=ze1 x.op zwy62 zwy62;rw [(zlH x.op zwy62 zwy62).2] at c1
  repeat' (first|(refine shC ?_;first|refine qC c1 ?_|refine qC (zot _ _) ?_)|refine sA ?_|refine sC (fun _=>?_) (fun _=>?_)|fail)
  all_goals (refine ak ?_;simp_all [zn,ziU];done)
theorem zht (op:Int) (h1:1<=op) (h2:op<=75):0<=yC op/\yC op<=8:=by
 have h:∀ n:Fin 76,1<=n.val->0<=yC (n.val:Int)/\yC (n.val:Int)<=8:=by decide +kernel
 have:=h ⟨op.toNat,by omega⟩ zwy64;simpa [Int.toNat_of_nonneg (show 0<=op by omega)] using this
def zd3 (x:Ins):Prop := -9223372036854775808<=x.arg/\x.arg<=9223372036854775807
theorem zmJ (t:Ty):zbn t=decide (t=ty0):=XP t ty0
theorem zrk (x:Ins) (hx:zd3 x):ziU x=Xp x:=by
 unfold ziU Xp;obtain ⟨hx1,hx2⟩:=hx;by_cases hop:x.op < 1\/75 < x.op
 ·rw [if_pos hop,if_pos hop]
 ·rw [if_neg hop,if_neg hop];obtain ⟨r1,r2⟩:=zht x.op zwy62 zwy62;generalize yC x.op=k at r1 r2;have hk:k=0\/k=1\/k=2\/k=3\/k=4\/k=5\/k=6\/k=7\/k=8:=by omega
  by_cases ht:x.t=ty0
  ·rcases hk with rfl|rfl|rfl|rfl|rfl|rfl|rfl|rfl|rfl <;> simp only [zis,zaV,zmJ,ht] <;> simp [ty0,ZR,ZP] <;> (first|omega|(split <;> split <;> first|rfl|omega))
  ·rcases hk with rfl|rfl|rfl|rfl|rfl|rfl|rfl|rfl|rfl <;> simp only [zis,zaV,zmJ,ht] <;> simp [ht,ZP] <;> (first|omega|(by_cases ha:x.arg=0 <;> cases hp:ZR x.t <;> by_cases hk1:x.t.kind=1 <;> cases hr:x.t.ref <;> simp_all <;> omega))
theorem zps (x:Ins) (g:Img) (m:Me) (hx:zd3 x):ACall Tryz.prog 274 [ql x,zK g,pi m.code.length] (pb (codeOk g m x)):=by
 refine zh zf Tryz.func274 rfl zws Tryz.ntmps274 zwy63 _ rfl (fun hw gB hgB=>?_);have c0:=zov x;rw [zrk x hx] at c0;by_cases hf:Xp x=0
 ·have hop:¬ (x.op < 1\/75 < x.op):=by
   intro h;rw [Xp,if_pos h] at hf;simp at hf
  have c1:=ze1 x.op zwy62 zwy62;rw [(zlH x.op zwy62 zwy62).2] at c1;rw [hf] at c0;have hown:yC x.op≠8->x.t=ty0:=by
   intro h8;rw [Xp,if_neg hop] at hf;split at hf
   ·simp at hf
   ·split at hf
    ·simp at hf
    ·rename_i h;exact Classical.byContradiction fun h9=>h ⟨h8,h9⟩
  repeat' (first|(refine shC ?_;first|refine qC c0 ?_|refine qC c1 ?_|refine qC (zb3 _ _) ?_)|refine sA ?_|refine sC (fun _=>?_) (fun _=>?_)|fail)
  all_goals (refine ak ?_)
  all_goals simp only [zn,List.length_map,codeOk,hf, *]
  ·rfl
  ·rfl
  ·rfl
  ·by_cases h8:yC x.op=8
   ·simp [h8]
   ·simp [h8,hown h8,zf3,ty0]
 ·have hfb:(Xp x != 0)=true:=by simp [hf]
  repeat' (first|(refine shC ?_;first|refine qC c0 ?_)|refine sK ?_|refine sC (fun _=>?_) (fun _=>?_)|fail)
  all_goals exact retq rfl (by simp [zn,codeOk,hf])
set_option maxHeartbeats 20000000
def u8s (l:List Int):PV:=.slc 1 (l.map fun n=>.base (.int .u8 n)) false
theorem zwk6 {G:Prop} (h:G:=by repeat' (first|refine sK ?_|refine sC (fun _=>?_) (fun _=>?_)|exact retq rfl (by simp [zn,h])|fail)):G:=h
theorem zrU (n:Int) (h0:0<=n) (h1:n<=128):ACall Tryz.prog 308 [pi n] (pi (if n < 128 then 1 else 2)):=by
 refine zh zf Tryz.func308 rfl zws Tryz.ntmps308 zwy63 _ rfl (fun hw gB hgB=>?_);by_cases h:n < 128
 ·exact zwk6
 ·exact zwk6
theorem zrB (r:Int) (h0:1<=r) (h1:r<=32):ACall Tryz.prog 292 [pi 0,pi r] (.tup [pi (4 * r),pi 0]):=by
 refine zh zf Tryz.func292 rfl zws Tryz.ntmps292 zwy63 _ rfl (fun hw gB hgB=>?_);have hfin:∀ n:Fin 33,IntKind.i64.wrap ((BitVec.ofInt IntKind.i64.bits (IntKind.i64.wrap ((n.val:Int) * 2 ^ (min (Int.toNat 2) IntKind.i64.bits))) ||| BitVec.ofInt IntKind.i64.bits 0).toNat:Int)=4 * (n.val:Int):=by decide +kernel
 have hr:=hfin ⟨r.toNat,by omega⟩;simp only [Int.toNat_of_nonneg (show 0<=r by omega)] at hr
 repeat' (first|refine zy rfl (zwN rfl rfl rfl zwy69) rfl rfl ?_|refine sK ?_|refine sC (fun _=>?_) (fun _=>?_)|fail)
 exact retq rfl (by simp only [zn,hr])
theorem zhc (l:List Int) (hne:l≠[]) (hb:l.length<=100000):ACallR Tryz.prog 309 [u8s l] 5 1 (l.map fun n=>.base (.int .u8 n)):=by
 refine zfo (t:=2) Tryz.func309 rfl zws Tryz.ntmps309 zwy63 rfl (fun hw gB hgB=>?_)
 repeat' (first|refine WJ zf rfl rfl rfl rfl rfl rfl rfl (fun bb hbb=>?_)|refine zy rfl (WT zf rfl rfl rfl rfl rfl) rfl rfl ?_|(refine yw ?_;first|refine VG 0 zf rfl rfl rfl (.inl rfl) rfl (by have:=List.length_pos_iff.2 hne;simpa using this) rfl (by show _ * 1<=_;simp;omega) zwy64 rfl rfl rfl ?_)|refine sA ?_|refine sC (fun _=>?_) (fun _=>?_)|fail)
 ·rename_i hx;exact (hne (by simpa using hbb hx)).elim
 ·exact ⟨.inr rfl,0,rfl,rfl⟩
def byteOf (X i:Int):Int:=IntKind.u8.wrap (X.fdiv (2 ^ (min (IntKind.i64.wrap (8 * i)).toNat IntKind.u32.bits)))
def bytesOf (X:Int) (k:Nat):List Int:=(List.range k).map fun m=>byteOf X ((k:Int) - 1 - (m:Nat))
abbrev u8c (n:Int):PV:=.base (.int .u8 n)
theorem zfr {X:Int} {k m:Nat} (h:m < k):(bytesOf X k).take (m + 1)=(bytesOf X k).take m++[byteOf X ((k:Int) - 1 - (m:Nat))]:=by
 have hl:m < (bytesOf X k).length:=by simpa [bytesOf] using h
 rw [List.take_succ_eq_append_getElem hl];simp [bytesOf]
theorem zgZ {X:Int} {k:Nat}:(bytesOf X k).take k=bytesOf X k:=List.take_of_length_le (by simp [bytesOf])
theorem zwk7 {G:Prop} (h:G:=by repeat' (first|(have:=b0;refine zy rfl (zvy rfl rfl rfl hs0) rfl rfl ?_)|(have:=b0;refine yw ?_;first|refine yV zf rfl rfl rfl rfl rfl rfl rfl (by show _ * 1<=_;simp [bytesOf];omega) (by simp [bytesOf];omega) rfl rfl ?_)|refine sK ?_|refine sC (fun _=>?_) (fun _=>?_)|(have:=b0;exact ⟨m + 1,hlt,tD,by repeat (first|exact yN|refine yB rfl ?_|(refine qZ rfl ?_ ?_;· (rw [wrap_in zwy62 zwy62];omega))),⟨qG rfl (by rw [zfr hlt];simp [byteOf]) zB,rfl⟩⟩)|(have:=b1;exact retq rfl (by rw [zgZ];rfl))|fail)):G:=h
theorem zkh (l:List Int) (hne:l≠[]) (hb:l.length<=1000) (n:Int) (h0:0<=n) (h1:n<=128):∃ bs:List Int,ACall Tryz.prog 293 [u8s l,pi n] (.tup [u8s (l++bs),pi 0]):=by
 have c1:=zrU n h0 zwy62;by_cases hn:n < 128
 ·rw [if_pos hn] at c1;obtain ⟨X,hX⟩:∃ X,IntKind.u32.wrap ((BitVec.ofInt IntKind.u32.bits (IntKind.u32.wrap n) ||| BitVec.ofInt IntKind.u32.bits 0).toNat:Int)=X:=⟨_,rfl⟩
  refine ⟨bytesOf X 1,?_⟩;refine zh zf Tryz.func293 rfl zws Tryz.ntmps293 zwy63 _ rfl (fun hw gB hgB=>?_)
  repeat' (first|refine zy rfl (zgK [(2,.int .u32 32768),(4,.int .u32 3221225472)] zf rfl rfl rfl rfl rfl rfl rfl) rfl rfl ?_|refine zy rfl (zn7 1 zf rfl rfl rfl rfl rfl rfl rfl rfl) rfl rfl ?_|refine zds 0 rfl rfl rfl (zhc l hne zwy62) zwy69 rfl rfl rfl ?_|(refine shC ?_;first|refine qC c1 ?_)|refine sK ?_|refine sC (fun _=>?_) (fun _=>?_)|fail)
  refine zL (fun m:Nat=>[(7,.pv (.base (.int .u32 X))),(8,.own 0),(9,.pv (pi (((1:Nat):Int) - 1 - (m:Nat))))]) (fun m=>[(0,.row 5 1 ((l++(bytesOf X 1).take m).map u8c))]) (fun m=>m<=1) (fun m=>1 - m) 0 zwy62 zwy96 ⟨qG rfl zwy63 zB,rfl⟩ ?_;rintro m hm;by_cases hlt:m < 1
  ·have hs0:0<=IntKind.i64.wrap (8 * (((1:Nat):Int) - 1 - (m:Nat))):=by rw [wrap_in zwy62 zwy62];omega
   have b0:=();exact zwk7
  ·have:m=1:=by omega
   subst this;have b1:=();exact zwk7
 ·rw [if_neg hn] at c1;obtain rfl:n=128:=by omega
  obtain ⟨X,hX⟩:∃ X,IntKind.u32.wrap ((BitVec.ofInt IntKind.u32.bits (IntKind.u32.wrap 128) ||| BitVec.ofInt IntKind.u32.bits 32768).toNat:Int)=X:=⟨_,rfl⟩
  refine ⟨bytesOf X 2,?_⟩;refine zh zf Tryz.func293 rfl zws Tryz.ntmps293 zwy63 _ rfl (fun hw gB hgB=>?_)
  repeat' (first|refine zy rfl (zgK [(2,.int .u32 32768),(4,.int .u32 3221225472)] zf rfl rfl rfl rfl rfl rfl rfl) rfl rfl ?_|refine zy rfl (zn7 2 zf rfl rfl rfl rfl rfl rfl rfl rfl) rfl rfl ?_|refine zds 0 rfl rfl rfl (zhc l hne zwy62) zwy69 rfl rfl rfl ?_|(refine shC ?_;first|refine qC c1 ?_)|refine sK ?_|refine sC (fun _=>?_) (fun _=>?_)|fail)
  refine zL (fun m:Nat=>[(7,.pv (.base (.int .u32 X))),(8,.own 0),(9,.pv (pi (((2:Nat):Int) - 1 - (m:Nat))))]) (fun m=>[(0,.row 5 1 ((l++(bytesOf X 2).take m).map u8c))]) (fun m=>m<=2) (fun m=>2 - m) 0 zwy62 zwy96 ⟨qG rfl zwy63 zB,rfl⟩ ?_;rintro m hm;by_cases hlt:m < 2
  ·have hs0:0<=IntKind.i64.wrap (8 * (((2:Nat):Int) - 1 - (m:Nat))):=by rw [wrap_in zwy62 zwy62];omega
   have hge:decide (0<=((2:Nat):Int) - 1 - (m:Nat))=true:=by simp;omega
   have b0:=();exact zwk7
  ·have:m=2:=by omega
   subst this;have b1:=();exact zwk7
set_option maxHeartbeats 20000000
abbrev zk9 (l:List Int):PV:=.slc 1 (l.map fun n=>.base (.int .u8 n)) true
theorem zgc (k b i d:Int) (hk:k=2/\b=8\/k=3/\b=10\/k=4/\b=28) (hd:d=0\/d=1\/d=2\/d=3):ACall Tryz.prog 283 [zk9 [6],yJ ⟨k,i,d,false⟩] (u8s (6::(List.replicate d.toNat 29++[b]))):=by
 have c1:=zdB 29 d zwy62 zwy62;rcases hd with rfl|rfl|rfl|rfl
 all_goals rcases hk with ⟨rfl,rfl⟩|⟨rfl,rfl⟩|⟨rfl,rfl⟩
 all_goals
  refine zh zf Tryz.func283 rfl zws Tryz.ntmps283 zwy63 _ rfl (fun hw gB hgB=>?_)
  repeat' (first|(refine shC ?_;first|refine qC c1 ?_)|(refine yw ?_;first|refine zy rfl (zgg zf rfl rfl rfl rfl rfl) rfl rfl ?_|refine yV zf rfl rfl rfl rfl rfl rfl rfl zwy84 zwy85 rfl rfl ?_|refine VG 0 zf rfl rfl rfl (.inl rfl) rfl zwy85 rfl zwy84 zwy85 rfl rfl rfl ?_)|refine sA ?_|refine sC (fun _=>?_) (fun _=>?_)|fail)
  exact retq rfl rfl
theorem zqy (i d:Int) (hi0:0<=i) (hi1:i<=7) (hd:d=0\/d=1\/d=2\/d=3):∃ bs:List Int,ACall Tryz.prog 283 [zk9 [6],yJ ⟨7,i,d,false⟩] (u8s bs):=by
 have c1:=zdB 29 d zwy62 zwy62;obtain ⟨bs,cp⟩:=zkh (6::(List.replicate d.toNat 29++[19])) zwy63 zwy64 i hi0 zwy62;refine ⟨6::(List.replicate d.toNat 29++[19])++bs,?_⟩;have hneg:decide (i < 0)=false:=by simp;omega
 rcases hd with rfl|rfl|rfl|rfl
 all_goals
  refine zh zf Tryz.func283 rfl zws Tryz.ntmps283 zwy63 _ rfl (fun hw gB hgB=>?_)
  repeat' (first|(refine shC ?_;first|refine qC c1 ?_|refine qC cp ?_)|(refine yw ?_;first|refine zy rfl (zgg zf rfl rfl rfl rfl rfl) rfl rfl ?_|refine yV zf rfl rfl rfl rfl rfl rfl rfl zwy84 zwy85 rfl rfl ?_|refine VG 0 zf rfl rfl rfl (.inl rfl) rfl zwy85 rfl zwy84 zwy85 rfl rfl rfl ?_)|refine sK ?_|refine sC (fun _=>?_) (fun _=>?_)|fail)
  exact retq rfl rfl
theorem zjX (k b i d:Int) (hk:k=5/\b=18\/k=6/\b=17) (hi0:0<=i) (hi1:i<=31) (hd:d=0\/d=1\/d=2\/d=3):∃ bs:List Int,ACall Tryz.prog 283 [zk9 [6],yJ ⟨k,i,d,false⟩] (u8s bs):=by
 have c1:=zdB 29 d zwy62 zwy62;obtain ⟨bs,cp⟩:=zkh (6::(List.replicate d.toNat 29++[b])) zwy63 zwy64 (4 * (i + 1)) zwy62 zwy62;have hw:IntKind.i64.wrap (i + 1)=i + 1:=wrap_in zwy62 zwy62;have cc:=zrB (i + 1) zwy62 zwy62;rw [<-hw] at cc;have hneg:decide (4 * IntKind.i64.wrap (i + 1) < 0)=false:=by rw [hw];simp;omega
 rw [show 4 * (i + 1)=4 * IntKind.i64.wrap (i + 1) by rw [hw]] at cp;refine ⟨6::(List.replicate d.toNat 29++[b])++bs,?_⟩;rcases hd with rfl|rfl|rfl|rfl
 all_goals rcases hk with ⟨rfl,rfl⟩|⟨rfl,rfl⟩
 all_goals
  refine zh zf Tryz.func283 rfl zws Tryz.ntmps283 zwy63 _ rfl (fun hw gB hgB=>?_)
  repeat' (first|(refine shC ?_;first|refine qC c1 ?_|refine qC cp ?_|refine qC cc ?_)|(refine yw ?_;first|refine zy rfl (zgg zf rfl rfl rfl rfl rfl) rfl rfl ?_|refine yV zf rfl rfl rfl rfl rfl rfl rfl zwy84 zwy85 rfl rfl ?_|refine VG 0 zf rfl rfl rfl (.inl rfl) rfl zwy85 rfl zwy84 zwy85 rfl rfl rfl ?_)|refine sK ?_|refine sC (fun _=>?_) (fun _=>?_)|fail)
  exact retq rfl rfl
set_option maxHeartbeats 20000000
structure Pt where
 c:Int
 p:Int
 f:Int
 t:Int
 deriving Inhabited
def yT (x:Pt):PV:=.agg [pi x.c,pi x.p,pi x.f,pi x.t]
def zsA (f t:Int):PV:=.agg [pi f,pi t]
def pts (l:List Pt):PV:=.slc 4 (l.map yT) false
def yL (k:Int) (c:Cl):List Pt:=[⟨k,1,c.tf,c.tt⟩,⟨k,2,c.hf,c.ht⟩]++(if c.kind==2 then [⟨k,3,c.filter,c.hf⟩] else [])
theorem ze2 (f t n:Int):ACall Tryz.prog 295 [zsA f t,pi n] (pb (decide (0<=f)&&decide (f < t)&&decide (t<=n))):=by
 refine zh zf Tryz.func295 rfl zws Tryz.ntmps295 zwy63 _ rfl (fun hw gB hgB=>?_)
 repeat' (first|refine sA ?_|refine sC (fun _=>?_) (fun _=>?_)|fail)
 all_goals first|(refine ak ?_;first|(simp only [zn,BL,List.length_map] at *;simp only [*,BL,List.length_map];done)|(simp_all [zn];done)|(simp_all [zn];omega)|(simp_all [zn];intros;omega))|(refine Yf rfl ?_;first|(simp only [zn,BL,List.length_map] at *;simp only [*,BL,List.length_map];done)|(simp_all [zn];done)|(simp_all [zn];omega)|(simp_all [zn];intros;omega))|skip
def XD (a b:Pt):Bool:=!(a.f==b.f&&(a.t==b.t&&true))&&decide (b.f<=a.f)&&decide (a.t<=b.t)
theorem zkx (a b:Pt):ACall Tryz.prog 300 [zsA a.f a.t,zsA b.f b.t] (pb (XD a b)):=by
 refine zh zf Tryz.func300 rfl zws Tryz.ntmps300 zwy63 _ rfl (fun hw gB hgB=>?_)
 repeat' (first|refine sA ?_|refine sC (fun _=>?_) (fun _=>?_)|fail)
 all_goals (refine ak ?_;first|(simp only [zn,XD, *];done)|(simp only [zn,XD, *];rfl)|(simp_all [zn,XD];done))
def YO (a b:Pt):Bool:=decide (a.f < b.t)&&decide (b.f < a.t)
theorem zma (a b:Pt):ACall Tryz.prog 313 [zsA a.f a.t,zsA b.f b.t] (pb (YO a b)):=by
 refine zh zf Tryz.func313 rfl zws Tryz.ntmps313 zwy63 _ rfl (fun hw gB hgB=>?_)
 repeat' (first|refine sA ?_|refine sC (fun _=>?_) (fun _=>?_)|fail)
 all_goals (refine ak ?_;first|(simp only [zn,YO, *];done)|(simp only [zn,YO, *];rfl)|(simp_all [zn,YO];done))
def zs4 (l:List Pt) (p:Pt->Bool):Int:=if l.any p then ((l.findIdx p:Nat):Int) else -1
theorem zhq (l:List Pt) (p:Pt->Bool) (f:FuncId) (first cap:List PV) (hp:∀ x∈l,ACall Tryz.prog f (first++[yT x]++cap) (pb (p x))):ACall Tryz.prog 314 [pts l,.fn (.func f) first cap] (pi (zs4 l p)):=by
 refine zh zf Tryz.func314 rfl zws Tryz.ntmps314 zwy63 _ rfl (fun hw gB hgB=>?_);have hl:l.length<=9223372036854775807:=by have:=hw.1;simp [pts,PV.lenOk,maxLen] at this;exact this.1
 repeat' (first|refine sA ?_|refine sC (fun _=>?_) (fun _=>?_)|fail)
 refine zL (fun k:Nat=>[(0,.pv (pts l)),(1,.pv (.fn (.func f) first cap)),(7,.pv (pi l.length)),(8,.pv (pi k))]) (fun _=>[]) (fun k=>k<=l.length/\∀ j (h:j < k) (h2:j < l.length),p l[j]=false) (fun k=>l.length - k) 0 ⟨by omega,fun j h=>by omega⟩ (tS) tH ?_;rintro k ⟨hk,hno⟩;by_cases hlt:k < l.length
 ·have he:=zT (f:=yT) hlt;have c1:=hp _ (List.getElem_mem hlt);cases hpx:p l[k]
  ·rw [hpx] at c1
   repeat' (first|(refine shC ?_;first|refine qV (c1) ?_)|(refine shX ?_;first|refine qX he ?_)|refine sK ?_|refine sC (fun _=>?_) (fun _=>?_)|fail)
   exact ⟨k + 1,⟨hlt,fun j hj h2=>by
    by_cases e:j=k
    ·subst e;exact hpx
    ·exact hno j zwy62 h2⟩,tD,tS,tH⟩
  ·rw [hpx] at c1;have hi:l.findIdx p=k:=by
    rw [List.findIdx_eq hlt];exact ⟨hpx,fun j hj=>hno j hj zwy62⟩
   have ha:l.any p=true:=List.any_eq_true.2 ⟨_,List.getElem_mem hlt,hpx⟩
   repeat' (first|(refine shC ?_;first|refine qV (c1) ?_)|(refine shX ?_;first|refine qX he ?_)|refine sK ?_|refine sC (fun _=>?_) (fun _=>?_)|fail)
   exact retq rfl (by simp [zn,zs4,ha,hi])
 ·have ha:l.any p=false:=by
   rw [List.any_eq_false];intro x hx;obtain ⟨j,hj,rfl⟩:=List.getElem_of_mem hx;simp [hno j zwy62 hj]
  repeat' (first|refine sK ?_|refine sC (fun _=>?_) (fun _=>?_)|fail)
  exact retq rfl (by simp [zn,zs4,ha])
theorem Qz (l:List Pt) (p:Pt->Bool) (f:FuncId) (first cap:List PV) (hp:∀ x∈l,ACall Tryz.prog f (first++[yT x]++cap) (pb (p x))):ACall Tryz.prog 298 [pts l,.fn (.func f) first cap] (pb (l.any p)):=by
 refine zh zf Tryz.func298 rfl zws Tryz.ntmps298 zwy63 _ rfl (fun hw gB hgB=>?_);have c1:=zhq l p f first cap hp
 repeat' (first|(refine shC ?_;first|refine qC c1 ?_)|refine sA ?_|refine sC (fun _=>?_) (fun _=>?_)|fail)
 refine ak ?_;have:decide (0<=zs4 l p)=l.any p:=by
  unfold zs4;cases h:l.any p <;> simp
 simp [zn,this]
theorem zk6 (a b:Pt) (may:Pt->Pt->Bool) (mf:FuncId) (hm:∀ x y,ACall Tryz.prog mf [yT x,yT y] (pb (may x y))):ACall Tryz.prog 312 [yT b,.ptr (yT a) 0,.ptr (.fn (.func mf) [] []) 0] (pb (YO a b&&!may a b)):=by
 refine zh zf Tryz.func312 rfl zws Tryz.ntmps312 zwy63 _ rfl (fun hw gB hgB=>?_)
 repeat' (first|(refine shC ?_;first|refine qC (zma a b) ?_|refine qV (hm a b) ?_)|refine sA ?_|refine sC (fun _=>?_) (fun _=>?_)|fail)
 all_goals (refine ak ?_;simp_all [zn];done)
theorem zmD (a:Pt) (m:List Pt) (may:Pt->Pt->Bool) (mf:FuncId) (hm:∀ x y,ACall Tryz.prog mf [yT x,yT y] (pb (may x y))):ACall Tryz.prog 311 [yT a,.ptr (pts m) 0,.ptr (.fn (.func mf) [] []) 0] (pb (m.any fun b=>YO a b&&!may a b)):=by
 refine zh zf Tryz.func311 rfl zws Tryz.ntmps311 zwy63 _ rfl (fun hw gB hgB=>?_);have c1:=Qz m (fun b=>YO a b&&!may a b) 312 [] [.ptr (yT a) 0,.ptr (.fn (.func mf) [] []) 0] (fun b _=>zk6 a b may mf hm)
 repeat' (first|(refine shC ?_;first|refine qC c1 ?_)|refine sA ?_|refine sC (fun _=>?_) (fun _=>?_)|fail)
 exact retq rfl rfl
def zdq (l m:List Pt) (may:Pt->Pt->Bool):Bool:=l.any fun a=>m.any fun b=>YO a b&&!may a b
theorem zel (l m:List Pt) (may:Pt->Pt->Bool) (mf:FuncId) (hm:∀ x y,ACall Tryz.prog mf [yT x,yT y] (pb (may x y))):ACall Tryz.prog 296 [pts l,pts m,.fn (.func mf) [] []] (pb (zdq l m may)):=by
 refine zh zf Tryz.func296 rfl zws Tryz.ntmps296 zwy63 _ rfl (fun hw gB hgB=>?_);have c1:=Qz l (fun a=>m.any fun b=>YO a b&&!may a b) 311 [] [.ptr (pts m) 0,.ptr (.fn (.func mf) [] []) 0] (fun a _=>zmD a m may mf hm)
 repeat' (first|(refine shC ?_;first|refine qC c1 ?_)|refine sA ?_|refine sC (fun _=>?_) (fun _=>?_)|fail)
 exact retq rfl rfl
theorem zbJ (k:Int) (c:Cl):ACall Tryz.prog 161 [pi k,qN c] (pts (yL k c)):=by
 refine zh zf Tryz.func161 rfl zws Tryz.ntmps161 zwy63 _ rfl (fun hw gB hgB=>?_);rcases Bool.eq_false_or_eq_true (c.kind==2) with hk|hk
 ·have e:pts (yL k c)=.slc 4 [yT ⟨k,1,c.tf,c.tt⟩,yT ⟨k,2,c.hf,c.ht⟩,yT ⟨k,3,c.filter,c.hf⟩] false:=by simp [pts,yL,hk]
  repeat' (first|(refine yw ?_;first|refine zy rfl (Xi zf rfl rfl (.inl rfl) rfl rfl (by show _ * 32<=_;simp) zwy63) rfl rfl ?_)|refine sK ?_|refine sC (fun _=>?_) (fun _=>?_)|fail)
  exact retq rfl (by rw [e];rfl)
 ·have e:pts (yL k c)=.slc 4 [yT ⟨k,1,c.tf,c.tt⟩,yT ⟨k,2,c.hf,c.ht⟩] false:=by simp [pts,yL,hk]
  repeat' (first|refine sK ?_|refine sC (fun _=>?_) (fun _=>?_)|fail)
  exact zbX (t:=4) (a:=.pv (.slc 4 [yT ⟨k,1,c.tf,c.tt⟩,yT ⟨k,2,c.hf,c.ht⟩] true)) (b:=.pv (pts (yL k c))) (ps:=[pts (yL k c)]) rfl (by rw [e];exact zeH 4 _ true) rfl rfl
theorem zmd (a b:Pt):ACall Tryz.prog 297 [yT a,yT b] (pb (a.c==b.c&&(a.p==b.p&&true))):=by
 refine zh zf Tryz.func297 rfl zws Tryz.ntmps297 zwy63 _ rfl (fun hw gB hgB=>?_)
 repeat' (first|refine sA ?_|refine sC (fun _=>?_) (fun _=>?_)|fail)
 exact retq rfl rfl
theorem zpy (y x:Pt):ACall Tryz.prog 299 [yT y,.ptr (yT x) 0] (pb (!XD y x)):=by
 refine zh zf Tryz.func299 rfl zws Tryz.ntmps299 zwy63 _ rfl (fun hw gB hgB=>?_)
 repeat' (first|(refine shC ?_;first|refine qC (zkx y x) ?_)|refine sA ?_|refine sC (fun _=>?_) (fun _=>?_)|fail)
 exact retq rfl rfl
theorem zoZ (y x:Pt):ACall Tryz.prog 301 [yT y,.ptr (yT x) 0] (pb (y.p != 1&&y.f==x.f)):=by
 refine zh zf Tryz.func301 rfl zws Tryz.ntmps301 zwy63 _ rfl (fun hw gB hgB=>?_)
 repeat' (first|refine sA ?_|refine sC (fun _=>?_) (fun _=>?_)|fail)
 all_goals (refine ak ?_;simp_all [zn];done)
theorem zon (x y:Pt):ACall Tryz.prog 302 [yT x,yT y] (pb (x.p==1&&y.p==1)):=by
 refine zh zf Tryz.func302 rfl zws Tryz.ntmps302 zwy63 _ rfl (fun hw gB hgB=>?_)
 repeat' (first|refine sA ?_|refine sC (fun _=>?_) (fun _=>?_)|fail)
 all_goals (refine ak ?_;simp_all [zn];done)
theorem zpx (x y:Pt):ACall Tryz.prog 303 [yT x,yT y] (pb false):=by
 refine zh zf Tryz.func303 rfl zws Tryz.ntmps303 zwy63 _ rfl (fun hw gB hgB=>?_)
 repeat' (first|refine sA ?_|refine sC (fun _=>?_) (fun _=>?_)|fail)
 exact retq rfl rfl
def zs9 (a b:Pt):Bool:=a.c==b.c&&(a.p==b.p&&true)
def ztc (x y:Pt):Bool:=x.p==1&&y.p==1
def zcL (n:Int) (c:Cl):Int :=
 if decide (c.kind < 1)||decide (4 < c.kind)||!zaf n c||!zcJ n c then 3
 else if c.kind==2&&(decide (c.filter < 0)||decide (c.hf<=c.filter))||c.kind != 2&&c.filter != -1 then 3
 else if zdq (yL 0 c) (yL 0 c) zs9 then 12
 else 0
set_option maxHeartbeats 4000000 in
theorem znI (n:Int) (c:Cl):ACall Tryz.prog 286 [pi n,qN c] (pi (zcL n c)):=by
 refine zh zf Tryz.func286 rfl zws Tryz.ntmps286 zwy63 _ rfl (fun hw gB hgB=>?_);have c1:=ze2 c.tf c.tt n;have c2:=ze2 c.hf c.ht n;have c3:=zel (yL 0 c) (yL 0 c) zs9 297 zmd;have e1:(decide (0<=c.tf)&&decide (c.tf < c.tt)&&decide (c.tt<=n))=zaf n c:=rfl;have e2:(decide (0<=c.hf)&&decide (c.hf < c.ht)&&decide (c.ht<=n))=zcJ n c:=rfl;rw [e1] at c1;rw [e2] at c2
 repeat' (first|(refine shC ?_;first|refine qC c1 ?_|refine qC c2 ?_|refine qC (zbJ 0 c) ?_|refine qC c3 ?_)|refine sA ?_|refine sC (fun _=>?_) (fun _=>?_)|fail)
 all_goals (refine ak ?_;first|(simp only [zn,zcL, *];done)|(simp only [zn,zcL, *];rfl)|(simp_all [zn,zcL];done)|(simp_all [zn,zcL];omega))
def VW (a:Cl) (x:Pt):Bool:=!((yL 0 a).any fun y=>!XD y x)
def ze6 (a:Cl) (x:Pt):Bool:=(yL 0 a).any fun y=>y.p != 1&&y.f==x.f
def zhH (a b:Cl):Bool :=
 if a.tf==b.tf&&(a.tt==b.tt&&true) then !zdq (yL 0 a) (yL 1 b) ztc else !zdq (yL 0 a) (yL 1 b) (fun _ _=>false)
def zeE (a b:Cl):List Pt->Bool
 | []=>zhH a b
 | x::l=>if VW a x then x.p==1||!ze6 a x else zeE a b l
def zjg (a b:Cl):Bool:=zeE a b (yL 1 b)
set_option maxHeartbeats 2000000 in
theorem zoC (a b:Cl):ACall Tryz.prog 287 [qN a,qN b] (pb (zjg a b)):=by
 refine zh zf Tryz.func287 rfl zws Tryz.ntmps287 zwy63 _ rfl (fun hw gB hgB=>?_);have hlen:(yL 1 b).length<=3:=by unfold yL;split <;> simp
 have h0a:((yL 0 a).map yT)[(0:Int).toNat]?=some (yT ⟨0,1,a.tf,a.tt⟩):=by simp [yL]
 have h0b:((yL 1 b).map yT)[(0:Int).toNat]?=some (yT ⟨1,1,b.tf,b.tt⟩):=by simp [yL]
 have ce:=zel (yL 0 a) (yL 1 b) ztc 302 zon;have cf:=zel (yL 0 a) (yL 1 b) (fun _ _=>false) 303 zpx
 repeat' (first|(refine shC ?_;first|refine qC (zbJ 0 a) ?_|refine qC (zbJ 1 b) ?_)|refine sA ?_|refine sC (fun _=>?_) (fun _=>?_)|fail)
 refine zL (fun k:Nat=>[(5,.pv (pts (yL 0 a))),(6,.pv (pts (yL 1 b))),(14,.pv (pts (yL 1 b))),(15,.pv (pi (yL 1 b).length)),(16,.pv (pi k))]) (fun _=>[]) (fun k=>k<=(yL 1 b).length/\zjg a b=zeE a b ((yL 1 b).drop k)) (fun k=>(yL 1 b).length - k) 0 ⟨by omega,rfl⟩ (tS) tH ?_;rintro k ⟨hk,hr⟩;by_cases hlt:k < (yL 1 b).length
 ·have he:=zT (f:=yT) hlt;rw [drop_cons hlt,zeE] at hr;generalize (yL 1 b)[k]=x at he hr;have c1:=Qz (yL 0 a) (fun y=>!XD y x) 299 [] [.ptr (yT x) 0] (fun y _=>zpy y x);have c2:=Qz (yL 0 a) (fun y=>y.p != 1&&y.f==x.f) 301 [] [.ptr (yT x) 0] (fun y _=>zoZ y x);cases ha:(yL 0 a).any fun y=>!XD y x
  ·rw [ha] at c1;rw [show VW a x=true by rw [VW,ha];rfl,if_pos rfl] at hr
   repeat' (first|refine zce (t:=8) rfl rfl rfl ?_|(refine shC ?_;first|refine qC c1 ?_|refine qC c2 ?_)|(refine shX ?_;first|refine qX he ?_)|refine sK ?_|refine sC (fun _=>?_) (fun _=>?_)|fail)
   all_goals (refine ak ?_;rw [hr];simp_all [zn,ze6];done)
  ·rw [ha] at c1;rw [show VW a x=false by rw [VW,ha];rfl,if_neg zwy63] at hr
   repeat' (first|refine zce (t:=8) rfl rfl rfl ?_|(refine shC ?_;first|refine qC c1 ?_)|(refine shX ?_;first|refine qX he ?_)|refine sK ?_|refine sC (fun _=>?_) (fun _=>?_)|fail)
   exact ⟨k + 1,⟨hlt,hr⟩,tD,tS,tH⟩
 ·rw [drop_end zwy62,zeE,zhH] at hr
  repeat' (first|(refine shC ?_;first|refine qC ce ?_|refine qC cf ?_)|(refine shX ?_;first|refine qX h0a ?_|refine qX h0b ?_)|refine sK ?_|refine sC (fun _=>?_) (fun _=>?_)|fail)
  all_goals (refine ak ?_;rw [hr];simp_all [zn];done)
structure OkC (c:Cl):Prop where
 t:c.tf < c.tt
 h:c.hf < c.ht
 h0:0<=c.hf
 t0:0<=c.tf
 f:c.kind=2->0<=c.filter/\c.filter < c.hf
theorem zc7 {n:Int} {c:Cl} (h:QY n c=0):OkC c:=by
 unfold QY at h;split at h
 ·simp at h
 ·split at h
  ·simp at h
  ·rename_i h1 h2;simp [zaf,zcJ] at h1 h2;exact ⟨by omega,by omega,by omega,by omega,fun hk=>by simp [hk] at h2;omega⟩
theorem zaz {a b:Cl} {p q:Int} {x y:Pt} (hx:bounds a p=(x.f,x.t)) (hy:bounds b q=(y.f,y.t)) (h1:x.f < x.t) (h2:y.f < y.t):meet a p b q=YO x y:=by
 simp [meet,YO,hx,hy,h1,h2]
theorem zqf {a b:Cl} {p q:Int} (h:¬ (bounds a p).1 < (bounds a p).2\/¬ (bounds b q).1 < (bounds b q).2):meet a p b q=false:=by
 simp only [meet,Bool.and_eq_false_iff,decide_eq_false_iff_not];rcases h with h|h
 ·exact .inl (.inr h)
 ·exact .inr h
theorem zgy {a b:Cl} {p q:Int} {x y:Pt} (hx:bounds a p=(x.f,x.t)) (hy:bounds b q=(y.f,y.t)) (h1:x.f < x.t):within a p b q=XD x y:=by
 rw [Bool.eq_iff_iff];simp [within,XD,hx,hy];omega
theorem zm3 {a b:Cl} {q:Int} (h:a.kind≠2):within a 3 b q=true:=by simp [within,bounds,h]
theorem zpe {n:Int} {c:Cl}:zcL n c=QY n c:=by
 unfold zcL QY;split
 ·rfl
 ·split
  ·rfl
  ·rename_i h1 h2;have hok:OkC c:=by
    simp [zaf,zcJ] at h1 h2;exact ⟨by omega,by omega,by omega,by omega,fun hk=>by simp [hk] at h2;omega⟩
   have e:zdq (yL 0 c) (yL 0 c) zs9=(meet c 1 c 2||meet c 1 c 3||meet c 2 c 3):=by
    obtain ⟨g1,g2,g3,g4,g5⟩:=hok;rw [Bool.eq_iff_iff];by_cases hk:c.kind=2
    ·have:=g5 hk;simp [zdq,yL,hk,zs9,YO,meet,bounds];omega
    ·simp [zdq,yL,hk,zs9,YO,meet,bounds];omega
   rw [e]
theorem zc8 {a b:Cl} (ha:OkC a) {q:Int} {x:Pt} (hy:bounds b q=(x.f,x.t)) (h2:x.f < x.t):VW a x=Yj a b q:=by
 have w1:within a 1 b q=XD ⟨0,1,a.tf,a.tt⟩ x:=zgy zwy81 hy ha.t;have w2:within a 2 b q=XD ⟨0,2,a.hf,a.ht⟩ x:=zgy zwy81 hy ha.h;by_cases hk:a.kind=2
 ·have w3:within a 3 b q=XD ⟨0,3,a.filter,a.hf⟩ x:=zgy (by simp [bounds,hk]) hy (ha.f hk).2;simp [VW,yL,Yj,w1,w2,w3,hk,hy,h2,Bool.and_assoc]
 ·have w3:=zm3 (b:=b) (q:=q) hk;simp [VW,yL,Yj,w1,w2,w3,hk,hy,h2]
theorem zg8 (a:Cl) (x:Pt):ze6 a x=(a.hf==x.f||a.kind==2&&a.filter==x.f):=by
 by_cases hk:a.kind=2 <;> simp [ze6,yL,hk]
theorem ztG {a b:Cl} (h:b.kind≠2):Yj a b 3=false:=by simp [Yj,bounds,h]
theorem zi4 {a b:Cl} (ha:OkC a) (hb:OkC b):zhH a b=!(badM a b 1 1||badM a b 1 2||badM a b 1 3||badM a b 2 1||badM a b 2 2||badM a b 2 3||badM a b 3 1||badM a b 3 2||badM a b 3 3):=by
 have m11:meet a 1 b 1=YO ⟨0,1,a.tf,a.tt⟩ ⟨1,1,b.tf,b.tt⟩:=zaz zwy81 zwy81 ha.t hb.t;have m12:meet a 1 b 2=YO ⟨0,1,a.tf,a.tt⟩ ⟨1,2,b.hf,b.ht⟩:=zaz zwy81 zwy81 ha.t hb.h;have m21:meet a 2 b 1=YO ⟨0,2,a.hf,a.ht⟩ ⟨1,1,b.tf,b.tt⟩:=zaz zwy81 zwy81 ha.h hb.t;have m22:meet a 2 b 2=YO ⟨0,2,a.hf,a.ht⟩ ⟨1,2,b.hf,b.ht⟩:=zaz zwy81 zwy81 ha.h hb.h;have ra:(yL 0 a)=[⟨0,1,a.tf,a.tt⟩,⟨0,2,a.hf,a.ht⟩]++(if a.kind==2 then [⟨0,3,a.filter,a.hf⟩] else []):=rfl;have rb:(yL 1 b)=[⟨1,1,b.tf,b.tt⟩,⟨1,2,b.hf,b.ht⟩]++(if b.kind==2 then [⟨1,3,b.filter,b.hf⟩] else []):=rfl;have n3:b.kind≠2->∀ p,meet a p b 3=false:=fun h p=>zqf (.inr zwy113)
 have n3':a.kind≠2->∀ q,meet a 3 b q=false:=fun h q=>zqf (.inl zwy113)
 have m13:b.kind=2->meet a 1 b 3=YO ⟨0,1,a.tf,a.tt⟩ ⟨1,3,b.filter,b.hf⟩:=fun h=>zaz zwy81 zwy113 ha.t (hb.f h).2
 have m23:b.kind=2->meet a 2 b 3=YO ⟨0,2,a.hf,a.ht⟩ ⟨1,3,b.filter,b.hf⟩:=fun h=>zaz zwy81 zwy113 ha.h (hb.f h).2
 have m31:a.kind=2->meet a 3 b 1=YO ⟨0,3,a.filter,a.hf⟩ ⟨1,1,b.tf,b.tt⟩:=fun h=>zaz zwy113 zwy81 (ha.f h).2 hb.t
 have m32:a.kind=2->meet a 3 b 2=YO ⟨0,3,a.filter,a.hf⟩ ⟨1,2,b.hf,b.ht⟩:=fun h=>zaz zwy113 zwy81 (ha.f h).2 hb.h
 have m33:a.kind=2->b.kind=2->meet a 3 b 3=YO ⟨0,3,a.filter,a.hf⟩ ⟨1,3,b.filter,b.hf⟩:=fun h h'=>zaz zwy113 (by simp [bounds,h']) (ha.f h).2 (hb.f h').2
 unfold zhH badM;cases hs1:a.tf==b.tf <;> cases hs2:a.tt==b.tt <;> by_cases hka:a.kind=2 <;> by_cases hkb:b.kind=2 <;>
  simp [zdq,ra,rb,hka,hkb,ztc,m11,m12,m21,m22,n3,n3',m13,m23,m31,m32,m33,Bool.and_assoc,Bool.or_assoc]
theorem zr8 {a b:Cl} (ha:OkC a) (hb:OkC b):zjg a b=Wq a b:=by
 have e1:=zc8 (a:=a) (b:=b) ha (q:=1) (x:=⟨1,1,b.tf,b.tt⟩) zwy81 hb.t;have e2:=zc8 (a:=a) (b:=b) ha (q:=2) (x:=⟨1,2,b.hf,b.ht⟩) zwy81 hb.h;have b1:(bounds b 1)=(b.tf,b.tt):=by simp [bounds]
 have b2:(bounds b 2)=(b.hf,b.ht):=by simp [bounds]
 by_cases hk:b.kind=2
 ·have e3:=zc8 (a:=a) (b:=b) ha (q:=3) (x:=⟨1,3,b.filter,b.hf⟩) (by simp [bounds,hk]) (hb.f hk).2;have b3:(bounds b 3)=(b.filter,b.hf):=by simp [bounds,hk]
  rw [zjg,show yL 1 b=[⟨1,1,b.tf,b.tt⟩,⟨1,2,b.hf,b.ht⟩,⟨1,3,b.filter,b.hf⟩] by simp [yL,hk]];simp only [zeE,e1,e2,e3,zg8,Wq,znv,b1,b2,b3,zi4 ha hb]
 ·rw [zjg,show yL 1 b=[⟨1,1,b.tf,b.tt⟩,⟨1,2,b.hf,b.ht⟩] by simp [yL,hk]];have c3:=ztG (a:=a) hk;simp only [zeE,e1,e2,zg8,Wq,znv,b1,b2,c3,zi4 ha hb];simp
theorem zgh {n:Int} {l:List Cl} {k:Nat} (h:Qv n l k=0):QY n (l.getD k default)=0:=by
 unfold Qv at h;split at h
 ·exact h
 ·rename_i h1;simpa using h1
theorem zwk5 {G:Prop} (h:G:=by repeat' (first|(refine shC ?_;first|(have:=b0;refine qC cf ?_)|(have:=b1;refine qC ca ?_))|(refine shX ?_;first|(have:=b0;refine qX hem ?_)|(have:=b1;refine qX he ?_))|refine sK ?_|refine sC (fun _=>?_) (fun _=>?_)|(have:=b2;exact retq rfl (by simp [zn,YM,h6]))|(have:=b3;exact retq rfl (by simp [zn,hfin,hat]))|(have:=b4;exact ⟨m + 1,⟨by omega,hpm⟩,tD,tS,tH⟩)|fail)):G:=h
set_option maxHeartbeats 1000000 in
theorem zlr (n:Int) (l:List Cl):ACall Tryz.prog 277 [pi n,cls l] (.tup [pi (YM n l).1,pi (YM n l).2]):=by
 refine zh zf Tryz.func277 rfl zws Tryz.ntmps277 zwy63 _ rfl (fun hw gB hgB=>?_);have hl:=zkB hw.2.1;by_cases h6:6 < l.length
 ·have b2:=();exact zwk5
 ·repeat' (first|refine sK ?_|refine sC (fun _=>?_) (fun _=>?_)|fail)
  refine zL (fun k:Nat=>[(0,.pv (pi n)),(1,.pv (cls l)),(14,.pv (cls l)),(15,.pv (pi l.length)),(16,.pv (pi k))]) (fun _=>[]) (fun k=>k<=l.length/\∀ j,j < k->Qv n l j=0) (fun k=>l.length - k) 0 ⟨by omega,fun j h=>by omega⟩ (tS) tH ?_;rintro k ⟨hk,hno⟩;by_cases hlt:k < l.length
  ·have he:=zbI hlt;have ca:=znI n (l.getD k default);rw [zpe] at ca;cases ha:(QY n (l.getD k default) != 0)
   ·have hokk:OkC (l.getD k default):=zc7 (n:=n) (by simpa using ha)
    repeat' (first|refine zy rfl (ZM (xs:=l) (f:=qN) 0 k zf rfl rfl rfl rfl rfl rfl rfl zwy62 zwy62) rfl rfl ?_|(refine shC ?_;first|refine qC ca ?_)|(refine shX ?_;first|refine qX he ?_)|refine sK ?_|refine sC (fun _=>?_) (fun _=>?_)|fail)
    refine zL (fun m:Nat=>[(0,.pv (pi n)),(1,.pv (cls l)),(6,.pv (pi k)),(7,.box 0 0),(14,.pv (cls l)),(15,.pv (pi l.length)),(16,.pv (pi k)),(30,.pv (cls (l.take k))),(31,.pv (pi k)),(32,.pv (pi m))]) (fun _=>[(0,.cell (.pv (qN (l.getD k default))))]) (fun m=>m<=k/\Xy l k m=false) (fun m=>k - m) 0 ⟨by omega,rfl⟩ (by repeat (first|exact yN|refine yB rfl ?_|(refine qZ rfl ?_ ?_;· (simp;omega)))) tH ?_;rintro m ⟨hm,hpb⟩;by_cases hltm:m < k
    ·have hem:((l.take k).map qN)[((m:Nat):Int).toNat]?=some (qN (l.getD m default)):=by
      simp [List.getElem?_take,hltm,show m < l.length by omega]
     have hps:=zfE l k m;have hokm:OkC (l.getD m default):=zc7 (n:=n) (zgh (hno m hltm));have cf:=zoC (l.getD m default) (l.getD k default);rw [zr8 hokm hokk] at cf;cases hf:Wq (l.getD m default) (l.getD k default)
     ·have hat:Qv n l k=12:=by
       have:Xy l k k=true:=by
        simp only [Xy,List.any_eq_true,List.mem_range];exact ⟨m,hltm,by rw [hf];rfl⟩
       unfold Qv;rw [ha];simp [this]
      have hfin:=zcz h6 hlt hno (by rw [hat];decide);clear hps;rw [hf] at cf;have b0:=();have b3:=();exact zwk5
     ·have hpm:Xy l k (m + 1)=false:=by rw [hps,hpb,hf];rfl
      clear hps;rw [hf] at cf;have b0:=();have b4:=();exact zwk5
    ·repeat' (first|refine sK ?_|refine sC (fun _=>?_) (fun _=>?_)|fail)
     have:m=k:=by omega
     subst this;have hat:Qv n l m=0:=by unfold Qv;rw [ha];simp [hpb]
     exact ⟨m + 1,⟨by omega,fun j hj=>by
      by_cases e:j=m
      ·subst e;exact hat
      ·exact hno j zwy62⟩,tD,tS,tH⟩
   ·have hat:Qv n l k=QY n (l.getD k default):=by unfold Qv;rw [ha];simp
    have hfin:=zcz h6 hlt hno (by rw [hat];simpa using ha);have b1:=();have b3:=();exact zwk5
  ·repeat' (first|refine sK ?_|refine sC (fun _=>?_) (fun _=>?_)|fail)
   have:k=l.length:=by omega
   subst this;exact retq rfl (by simp [zn,ziK h6 hno])
end Go.Cg
