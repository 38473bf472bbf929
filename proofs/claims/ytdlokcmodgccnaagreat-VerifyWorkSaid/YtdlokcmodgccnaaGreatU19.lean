/- A part of the walks by abstract values: no statement of its own. -/
import Derived.Test.YtdlokcmodgccnaaGreatU18
import Derived.Test.YtdlokcmodgccnaaGreatU17
import Derived.Test.YtdlokcmodgccnaaGreatU7
import Derived.Test.YtdlokcmodgccnaaGreatU6
set_option linter.unusedVariables false
set_option linter.unusedSimpArgs false
namespace Go.Cg
open Go.Proofs
set_option maxHeartbeats 20000000
structure Fm (g:Img):Prop where
 n:g.types.length≤32
 faces:∀ td∈g.types,td.faces.length≤4∧∀ f∈td.faces,0≤f∧f < g.types.length
theorem zbO {g:Img} (h:yJ g=true):Fm g :=
 ⟨(yH h).1,fun td hm=>let ⟨_,_,_,_,h5,h6⟩:=QJ ((yH h).2.2.2 td hm);⟨h5,h6⟩⟩
theorem VU {g:Img} {t:Int} {td:TD} (h:typeAt g t=some td):td∈g.types:=by
 unfold typeAt at h
 split at h
 ·exact List.mem_of_getElem? h
 ·cases h
theorem Fm.at {g:Img} (h:Fm g) (t:Int):(yT g t).length≤4∧∀ f∈yT g t,0≤f∧f < g.types.length:=by
 unfold yT
 cases ht:typeAt g t with
 | none=>simp
 | some td=>exact h.faces td (VU ht)
theorem Wh {g:Img} {t:Int} (h:0≤t∧t < g.types.length):there g t=true:=by
 obtain ⟨td,htd⟩:=Vb h;exact (Xe g t).2 ⟨td,htd⟩
def Yt (g:Img) (t:Int):List Int:=sortL (QZ g.types.length (yT g) ((up g t).flatMap (yT g)))
theorem zfk (g:Img) (t:Int) (hF:Fm g):ACall Tryz.prog 93 [zT g,pi t] (ints (Yt g t)):=by
 refine zi zf Tryz.func93 rfl (by kernel_rfl) Tryz.ntmps93 (by simp) _ rfl (fun hw gB hgB=>?_)
 have hn:=hF.n
 have hui:=zb9 g t
 have hul:=Ya _ _ hui.1 hui.2
 repeat' (first|(refine shC ?_;first|refine zx rfl (zI rfl rfl (Yp g t (by omega))) rfl rfl ?_|refine AD.step _ _ _ _ _ rfl (zI rfl rfl (Yp g t (by omega))) rfl rfl ?_)|refine sA ?_|refine sC (fun _=>?_) (fun _=>?_)|fail)
 refine Yr (t:=5) 0 3 1 (by decide) rfl rfl ?_
 refine zW (fun x:Nat × List Int=>[(2,.pv (.ptr (zT g) 0)),(5,.own 0),(10,.pv (ints (up g t))),(11,.pv (pi (up g t).length)),(12,.pv (pi x.1))]) (fun x=>[(0,.row 3 1 (x.2.map pi))])
  (fun x=>x.1≤(up g t).length∧x.2.length≤4 * x.1∧(∀ y∈x.2,0≤y∧y < g.types.length)∧x.2++((up g t).drop x.1).flatMap (yT g)=(up g t).flatMap (yT g)) (fun x=>(up g t).length - x.1) (0,[]) ⟨by simp,by simp,by simp,rfl⟩ (tS) ⟨zD rfl zG,rfl⟩ ?_
 rintro ⟨k,out⟩ ⟨hk,hol,hrg,hr⟩
 simp only at hk hol hrg hr
 by_cases hlt:k < (up g t).length
 ·have he:=YD hlt
  obtain ⟨hf1,hf2⟩:=hF.at (up g t)[k]
  rw [drop_cons hlt,List.flatMap_cons] at hr
  repeat' (first|(refine shC ?_;first|refine zx rfl (zI rfl rfl (WA g _ (by omega) (fun f hf=>Wh (hf2 f hf)))) rfl rfl ?_|refine AD.step _ _ _ _ _ rfl (zI rfl rfl (WA g _ (by omega) (fun f hf=>Wh (hf2 f hf)))) rfl rfl ?_)|(refine shX ?_;first|refine qX he ?_)|(refine yK ?_;first|refine qG zf rfl rfl rfl rfl rfl rfl rfl (by show _ * 8≤_;simp;omega) (by simp;omega) rfl rfl ?_)|refine sK ?_|refine sC (fun _=>?_) (fun _=>?_)|fail)
  refine ⟨(k + 1,out++yT g (up g t)[k]),⟨hlt,by simp;omega,?_,by simpa using hr⟩,tD,tS,⟨ZW rfl (by simp) zG,rfl⟩⟩
  intro y hy
  simp only [List.mem_append] at hy
  rcases hy with hy|hy
  ·exact hrg y hy
  ·exact hf2 y hy
 ·rw [drop_end (by omega)] at hr
  simp only [List.flatMap_nil,List.append_nil] at hr
  subst hr
  have c1:=zdc g.types.length (by omega) ((up g t).flatMap (yT g)) (yT g) 133 [] [.ptr (zT g) 0] hrg (by omega)
   (fun x h0 h1=>zkt g x (by have:=(hF.at x).1;omega) (fun f hf=>Wh ((hF.at x).2 f hf))) (fun x h0 h1=>⟨by have:=(hF.at x).1;omega,(hF.at x).2⟩)
  repeat' (first|(refine shC ?_;first|refine qC c1 ?_)|refine sK ?_|refine sC (fun _=>?_) (fun _=>?_)|fail)
  exact retq rfl rfl
def zav (g:Img) (a b:Int):Bool:=decide (b∈up g a)||decide (b∈Yt g a)
theorem zlS (g:Img) (a b:Int) (hF:Fm g):ACall Tryz.prog 212 [zT g,pi a,pi b] (pb (zav g a b)):=by
 refine zi zf Tryz.func212 rfl (by kernel_rfl) Tryz.ntmps212 (by simp) _ rfl (fun hw gB hgB=>?_)
 have hn:=hF.n
 repeat' (first|(refine shC ?_;first|refine zx rfl (zI rfl rfl (Yp g a (by omega))) rfl rfl ?_|refine AD.step _ _ _ _ _ rfl (zI rfl rfl (Yp g a (by omega))) rfl rfl ?_|refine qC (Yw _ _) ?_|refine qC (zfk g a hF) ?_)|refine sA ?_|refine sC (fun _=>?_) (fun _=>?_)|fail)
 all_goals first|(refine retq rfl ?_;first|(simp only [zy,zav,BL,List.length_map] at *;simp only [*,BL,List.length_map];done)|(simp_all [zy,zav];done)|(simp_all [zy,zav];omega)|(simp_all [zy,zav];intros;omega))|(refine VX rfl ?_;first|(simp only [zy,zav,BL,List.length_map] at *;simp only [*,BL,List.length_map];done)|(simp_all [zy,zav];done)|(simp_all [zy,zav];omega)|(simp_all [zy,zav];intros;omega))|skip
def zah (g:Img) (a b:Ty):Bool :=
 if tyB a b then true
 else if !object a||!object b then false
 else if plain a 8||plain b 4 then true
 else if plain a 5&&plain b 5 then zav g a.index b.index
 else plain a 7&&tyB b ⟨7,0,0,false⟩
theorem QY (g:Img) (a b:Ty) (hF:Fm g):ACall Tryz.prog 167 [zT g,yM a,yM b] (pb (zah g a b)):=by
 refine zi zf Tryz.func167 rfl (by kernel_rfl) Tryz.ntmps167 (by simp) _ rfl (fun hw gB hgB=>?_)
 repeat' (first|(refine shC ?_;first|refine qC (qN a) ?_|refine qC (qN b) ?_|refine qC (Qh a 8) ?_|refine qC (Qh b 4) ?_|refine qC (Qh a 5) ?_|refine qC (Qh b 5) ?_|refine qC (zlS g _ _ hF) ?_|refine qC (Qh a 7) ?_|refine qC zgs ?_)|refine sA ?_|refine sC (fun _=>?_) (fun _=>?_)|fail)
 all_goals refine retq rfl ?_
 all_goals first|(simp only [zy,zah,tyB, *];done)|(simp only [zy,zah,tyB, *];rfl)
def zha (g:Img) (a b:Ty):Ty :=
 match (up g a.index).find? (fun t=>decide (t∈up g b.index)) with|some t=>⟨5,t,0,false⟩|none=>⟨4,0,0,false⟩
def Qx (g:Img) (a b:Ty):Ty × Int :=
 if zah g b a then (a,0) else if zah g a b then (b,0)
 else if !object a||!object b then (ty0,14)
 else if plain a 7&&plain b 7 then (⟨7,0,0,false⟩,0)
 else if zhy g a&&zhy g b then (zha g a b,0)
 else (⟨4,0,0,false⟩,0)
theorem zhb {g:Img} {a b:Ty} {x:Ty × Int} (h:Qx g a b=x):PV.tup [yM x.1,pi x.2]=.tup [yM (Qx g a b).1,pi (Qx g a b).2]:=by rw [h]
theorem zke (g:Img) (a b:Ty) (hF:Fm g):ACall Tryz.prog 168 [zT g,yM a,yM b] (.tup [yM (Qx g a b).1,pi (Qx g a b).2]):=by
 refine zi zf Tryz.func168 rfl (by kernel_rfl) Tryz.ntmps168 (by simp) _ rfl (fun hw gB hgB=>?_)
 have hn:=hF.n
 have hui:=zb9 g a.index
 have hul:=Ya _ _ hui.1 hui.2
 repeat' (first|(refine shC ?_;first|refine qC (QY g b a hF) ?_|refine qC (QY g a b hF) ?_|refine qC (qN a) ?_|refine qC (qN b) ?_|refine qC (Qh a 7) ?_|refine qC (Qh b 7) ?_|refine qC zgs ?_|refine qC (zgL g a) ?_|refine qC (zgL g b) ?_|refine zx rfl (zI rfl rfl (Yp g _ (by omega))) rfl rfl ?_|refine AD.step _ _ _ _ _ rfl (zI rfl rfl (Yp g _ (by omega))) rfl rfl ?_|refine qC zfd ?_)|refine sK ?_|refine sC (fun _=>?_) (fun _=>?_)|fail)
 all_goals first
  | (refine retq rfl (Eq.trans (b:=PV.tup [yM a,pi 0]) rfl (zhb (x:=(a,0)) ?_));simp only [Qx, *];rfl)
  | (refine retq rfl (Eq.trans (b:=PV.tup [yM b,pi 0]) rfl (zhb (x:=(b,0)) ?_));simp only [Qx, *];rfl)
  | (refine retq rfl (Eq.trans (b:=PV.tup [yM ty0,pi 14]) rfl (zhb (x:=(ty0,14)) ?_));simp only [Qx, *];rfl)
  | (refine retq rfl (Eq.trans (b:=PV.tup [yM ⟨7,0,0,false⟩,pi 0]) rfl (zhb (x:=(⟨7,0,0,false⟩,0)) ?_));simp only [Qx, *];rfl)
  | (refine retq rfl (Eq.trans (b:=PV.tup [yM ⟨4,0,0,false⟩,pi 0]) rfl (zhb (x:=(⟨4,0,0,false⟩,0)) ?_));simp only [Qx, *];rfl)
  | skip
 all_goals
  have hmt:Qx g a b=(zha g a b,0):=by simp only [Qx, *];rfl
  refine zW (fun k:Nat=>[(6,.box 0 0),(8,.pv (ints (up g b.index))),(56,.pv (ints (up g a.index))),(57,.pv (pi (up g a.index).length)),(58,.pv (pi k))]) (fun _=>[(0,.cell (.pv (yM ty0)))])
   (fun k=>k≤(up g a.index).length∧zha g a b=(match ((up g a.index).drop k).find? (fun t=>decide (t∈up g b.index)) with|some t=>⟨5,t,0,false⟩|none=>⟨4,0,0,false⟩)) (fun k=>(up g a.index).length - k) 0 ⟨by simp,rfl⟩ (tS) ⟨zD rfl zG,rfl⟩ ?_
  rintro k ⟨hk,hr⟩
  by_cases hlt:k < (up g a.index).length
  ·have he:=YD hlt
   rw [drop_cons hlt,List.find?_cons] at hr
   have c3:=Yw (up g b.index) (up g a.index)[k]
   cases hm:decide ((up g a.index)[k]∈up g b.index)
   ·rw [hm] at c3 hr
    repeat' (first|(refine shC ?_;first|refine qC c3 ?_)|(refine shX ?_;first|refine qX he ?_)|refine sK ?_|refine sC (fun _=>?_) (fun _=>?_)|fail)
    exact ⟨k + 1,⟨hlt,hr⟩,tD,tS,⟨zD rfl zG,rfl⟩⟩
   ·rw [hm] at c3 hr
    repeat' (first|(refine shC ?_;first|refine qC c3 ?_)|(refine shX ?_;first|refine qX he ?_)|refine sK ?_|refine sC (fun _=>?_) (fun _=>?_)|fail)
    exact retq rfl (Eq.trans (b:=PV.tup [yM ⟨5,(up g a.index)[k],0,false⟩,pi 0]) rfl (zhb (x:=(⟨5,(up g a.index)[k],0,false⟩,0)) (by rw [hmt,hr])))
  ·rw [drop_end (by omega)] at hr
   repeat' (first|(refine shC ?_;first|refine qC zfd ?_)|refine sK ?_|refine sC (fun _=>?_) (fun _=>?_)|fail)
   exact retq rfl (Eq.trans (b:=PV.tup [yM ⟨4,0,0,false⟩,pi 0]) rfl (zhb (x:=(⟨4,0,0,false⟩,0)) (by rw [hmt,hr];rfl)))
set_option maxHeartbeats 20000000
theorem zc6 (s:ByteArray):ACall Tryz.prog 270 [ps s] (pb (zaZ s)):=by
 refine zi zf Tryz.func270 rfl (by kernel_rfl) Tryz.ntmps270 (by simp) _ rfl (fun hw gB hgB=>?_)
 have hl:=zrZ hw.1
 have he:(s.toList==(⟨#[]⟩:ByteArray).toList)=decide (s.size=0):=by
  rw [ByteArray.toList_eq,ByteArray.toList_eq]
  have hs:s.size=s.data.toList.length:=by simp
  rw [hs]
  cases s.data.toList <;> simp
 have hfin:s.size≠0→s.size≤24→zaZ s=s.data.toList.all zqz:=fun a b=>by
  unfold zaZ;rw [decide_eq_true (by omega),decide_eq_true (by omega)];simp
 repeat' (first|refine sK ?_|refine sC (fun _=>?_) (fun _=>?_)|fail)
 all_goals first
  | (refine retq rfl ?_;simp_all [zy,zaZ];done)
  | (refine retq rfl ?_;simp_all [zy,zaZ];omega)
  | skip
 refine zW (fun k:Nat=>[(0,.pv (ps s)),(12,.pv (pi s.size)),(13,.pv (pi k))]) (fun _=>[]) (fun k=>k≤s.size∧zaZ s=(s.data.toList.drop k).all zqz) (fun k=>s.size - k) 0 ⟨by simp,by rw [hfin (by simp_all) (by simp_all <;> omega)];simp⟩ (tS) tH ?_
 rintro k ⟨hk,hr⟩
 by_cases hlt:k < s.size
 ·have hb:=zrM hlt
  rw [zhK (by simpa using hlt)] at hr
  repeat' (first|(refine shI ?_;first|refine zx rfl (znv zf rfl rfl rfl rfl (by omega) hb) rfl rfl ?_|refine AD.step _ _ _ _ _ rfl (znv zf rfl rfl rfl rfl (by omega) hb) rfl rfl ?_)|refine sK ?_|refine sC (fun _=>?_) (fun _=>?_)|fail)
  all_goals first
   | exact ⟨k + 1,⟨by omega,by simp_all [zqz]⟩,tD,tS,tH⟩
   | (refine retq rfl ?_;simp_all [zy,zqz];done)
 ·rw [drop_end (by simp;omega)] at hr
  repeat' (first|refine sK ?_|refine sC (fun _=>?_) (fun _=>?_)|fail)
  all_goals (refine retq rfl ?_;simp_all [zy];done)
theorem zhn (n x:Int):ACall Tryz.prog 269 [pi x,.ptr (pi n) 0] (pb (!zc3 n x)):=by
 refine zi zf Tryz.func269 rfl (by kernel_rfl) Tryz.ntmps269 (by simp) _ rfl (fun hw gB hgB=>?_)
 repeat' (first|refine sA ?_|refine sC (fun _=>?_) (fun _=>?_)|fail)
 all_goals (refine retq rfl ?_;simp only [zy,List.cons.injEq,PV.base.injEq,Value.bool.injEq];rw [Bool.eq_iff_iff];simp_all [zc3] <;> omega)
theorem QX (l:List Int) (p:Int→Bool) (f:FuncId) (first cap:List PV) (hp:∀ x∈l,ACall Tryz.prog f (first++[pi x]++cap) (pb (p x))):ACall Tryz.prog 91 [ints l,.fn (.func f) first cap] (pb (l.any p)):=by
 refine zi zf Tryz.func91 rfl (by kernel_rfl) Tryz.ntmps91 (by simp) _ rfl (fun hw gB hgB=>?_)
 have c1:=VF l p f first cap hp
 repeat' (first|(refine shC ?_;first|refine qC c1 ?_)|refine sA ?_|refine sC (fun _=>?_) (fun _=>?_)|fail)
 refine retq rfl ?_
 have:decide (0≤zcF l p)=l.any p:=by
  unfold zcF
  cases h:l.any p <;> simp
 simp [zy,this]
def zpX (l:List TD) (p:TD→Bool):Int:=if l.any p then ((l.findIdx p:Nat):Int) else -1
theorem zfW (l:List TD) (p:TD→Bool) (f:FuncId) (first cap:List PV) (hp:∀ x∈l,ACall Tryz.prog f (first++[Zl x]++cap) (pb (p x))):ACall Tryz.prog 285 [.slc 4 (l.map Zl) false,.fn (.func f) first cap] (pi (zpX l p)):=by
 refine zi zf Tryz.func285 rfl (by kernel_rfl) Tryz.ntmps285 (by simp) _ rfl (fun hw gB hgB=>?_)
 have hl:l.length≤9223372036854775807:=by have:=hw.1;simp [PV.lenOk,lensOk,maxLen] at this;exact this.1
 repeat' (first|refine sA ?_|refine sC (fun _=>?_) (fun _=>?_)|fail)
 refine zW (fun k:Nat=>[(0,.pv (.slc 4 (l.map Zl) false)),(1,.pv (.fn (.func f) first cap)),(7,.pv (pi l.length)),(8,.pv (pi k))]) (fun _=>[]) (fun k=>k≤l.length∧∀ j (h:j < k) (h2:j < l.length),p l[j]=false) (fun k=>l.length - k) 0 ⟨by omega,fun j h=>by omega⟩ (tS) tH ?_
 rintro k ⟨hk,hno⟩
 by_cases hlt:k < l.length
 ·have he:=yj (f:=Zl) hlt
  have c1:=hp _ (List.getElem_mem hlt)
  cases hpx:p l[k]
  ·rw [hpx] at c1
   repeat' (first|(refine shC ?_;first|refine qV (c1) ?_)|(refine shX ?_;first|refine qX he ?_)|refine sK ?_|refine sC (fun _=>?_) (fun _=>?_)|fail)
   exact ⟨k + 1,⟨hlt,fun j hj h2=>by
    by_cases e:j=k
    ·subst e;exact hpx
    ·exact hno j (by omega) h2⟩,tD,tS,tH⟩
  ·rw [hpx] at c1
   have hi:l.findIdx p=k:=by
    rw [List.findIdx_eq hlt]
    exact ⟨hpx,fun j hj=>hno j hj (by omega)⟩
   have ha:l.any p=true:=List.any_eq_true.2 ⟨_,List.getElem_mem hlt,hpx⟩
   repeat' (first|(refine shC ?_;first|refine qV (c1) ?_)|(refine shX ?_;first|refine qX he ?_)|refine sK ?_|refine sC (fun _=>?_) (fun _=>?_)|fail)
   exact retq rfl (by simp [zy,zpX,ha,hi])
 ·have ha:l.any p=false:=by
   rw [List.any_eq_false]
   intro x hx
   obtain ⟨j,hj,rfl⟩:=List.getElem_of_mem hx
   simp [hno j (by omega) hj]
  repeat' (first|refine sK ?_|refine sC (fun _=>?_) (fun _=>?_)|fail)
  exact retq rfl (by simp [zy,zpX,ha])
theorem zc9 (l:List TD) (p:TD→Bool) (f:FuncId) (first cap:List PV) (hp:∀ x∈l,ACall Tryz.prog f (first++[Zl x]++cap) (pb (p x))):ACall Tryz.prog 267 [.slc 4 (l.map Zl) false,.fn (.func f) first cap] (pb (l.any p)):=by
 refine zi zf Tryz.func267 rfl (by kernel_rfl) Tryz.ntmps267 (by simp) _ rfl (fun hw gB hgB=>?_)
 have c1:=zfW l p f first cap hp
 repeat' (first|(refine shC ?_;first|refine qC c1 ?_)|refine sA ?_|refine sC (fun _=>?_) (fun _=>?_)|fail)
 refine retq rfl ?_
 have:decide (0≤zpX l p)=l.any p:=by
  unfold zpX
  cases h:l.any p <;> simp
 simp [zy,this]
theorem zlX (t:TD) (n:Int):ACall Tryz.prog 268 [Zl t,.ptr (pi n) 0] (pb (!YV t n)):=by
 refine zi zf Tryz.func268 rfl (by kernel_rfl) Tryz.ntmps268 (by simp) _ rfl (fun hw gB hgB=>?_)
 have c1:=QX t.faces (fun x=>!zc3 n x) 269 [] [.ptr (pi n) 0] (fun x _=>zhn n x)
 have ha:t.faces.any (fun x=>!zc3 n x)=!t.faces.all (zc3 n):=by rw [List.not_all_eq_any_not]
 rw [ha] at c1
 repeat' (first|(refine shC ?_;first|refine qC c1 ?_|refine qC (zc6 _) ?_)|refine sA ?_|refine sC (fun _=>?_) (fun _=>?_)|fail)
 all_goals first|(refine retq rfl ?_;first|(simp only [zy,YV,BL,List.length_map] at *;simp only [*,BL,List.length_map];done)|(simp_all [zy,YV];done)|(simp_all [zy,YV];omega)|(simp_all [zy,YV];intros;omega))|(refine VX rfl ?_;first|(simp only [zy,YV,BL,List.length_map] at *;simp only [*,BL,List.length_map];done)|(simp_all [zy,YV];done)|(simp_all [zy,YV];omega)|(simp_all [zy,YV];intros;omega))|skip
def WO (g:Img):Bool:=decide ((g.types.length:Int)≤32)&&g.types.all (fun t=>YV t g.types.length)
theorem zmN (g:Img):ACall Tryz.prog 238 [zT g] (pb (WO g)):=by
 refine zi zf Tryz.func238 rfl (by kernel_rfl) Tryz.ntmps238 (by simp) _ rfl (fun hw gB hgB=>?_)
 have c1:=zc9 g.types (fun t=>!YV t ((g.types.map Zl).length:Nat)) 268 [] [.ptr (pi ((g.types.map Zl).length:Nat)) 0] (fun x _=>zlX x _)
 rw [←List.not_all_eq_any_not] at c1
 repeat' (first|refine zaK (t:=3) rfl rfl rfl ?_|(refine shC ?_;first|refine qC c1 ?_)|refine sA ?_|refine sC (fun _=>?_) (fun _=>?_)|fail)
 all_goals first|(refine retq rfl ?_;first|(simp only [zy,WO,BL,List.length_map] at *;simp only [*,BL,List.length_map];done)|(simp_all [zy,WO];done)|(simp_all [zy,WO];omega)|(simp_all [zy,WO];intros;omega))|(refine VX rfl ?_;first|(simp only [zy,WO,BL,List.length_map] at *;simp only [*,BL,List.length_map];done)|(simp_all [zy,WO];done)|(simp_all [zy,WO];omega)|(simp_all [zy,WO];intros;omega))|skip
set_option maxHeartbeats 20000000
def zck (op:Int):ByteArray × Int × Int :=
 if op==62 then (⟨#[98,111,120]⟩,8,0)
 else if op==63 then (⟨#[117,110,98,111,120]⟩,8,0)
 else if op==64 then (⟨#[117,110,98,111,120,97,110,121]⟩,8,0)
 else if op==65 then (⟨#[99,97,115,116,99,108,97,115,115]⟩,8,0)
 else if op==66 then (⟨#[105,115,105,110,115,116]⟩,8,0)
 else if op==67 then (⟨#[108,100,102,116,110]⟩,6,0)
 else if op==68 then (⟨#[110,101,119,100,101,108]⟩,8,0)
 else if op==69 then (⟨#[116,104,114,111,119]⟩,0,3)
 else if op==70 then (⟨#[114,101,116,104,114,111,119]⟩,0,3)
 else if op==71 then (⟨#[108,101,97,118,101]⟩,5,4)
 else if op==72 then (⟨#[101,110,100,102,105,110,97,108,108,121]⟩,0,5)
 else if op==73 then (⟨#[101,110,100,102,105,108,116,101,114]⟩,0,5)
 else if op==74 then (⟨#[105,110]⟩,0,0)
 else if op==75 then (⟨#[111,117,116]⟩,0,0)
 else (⟨#[]⟩,0,0)
theorem zjA (op:Int):ACall Tryz.prog 274 [pi op] (zdf (zck op).1 (zck op).2.1 (zck op).2.2):=by
 refine zi zf Tryz.func274 rfl (by kernel_rfl) Tryz.ntmps274 (by simp) _ rfl (fun hw gB hgB=>?_)
 repeat' (first|refine sA ?_|refine sC (fun _=>?_) (fun _=>?_)|fail)
 all_goals (refine retq rfl ?_;simp only [zy,zck, *];rfl)
def zcC (op:Int):ByteArray × Int × Int :=
 if op==48 then (⟨#[108,100,102,108,100]⟩,7,0)
 else if op==49 then (⟨#[115,116,102,108,100]⟩,7,0)
 else if op==50 then (⟨#[108,100,102,108,100,97]⟩,7,0)
 else if op==51 then (⟨#[108,100,115,102,108,100]⟩,7,0)
 else if op==52 then (⟨#[115,116,115,102,108,100]⟩,7,0)
 else if op==53 then (⟨#[108,100,115,102,108,100,97]⟩,7,0)
 else if op==54 then (⟨#[108,100,111,98,106]⟩,8,0)
 else if op==55 then (⟨#[115,116,111,98,106]⟩,8,0)
 else if op==56 then (⟨#[105,110,105,116,111,98,106]⟩,8,0)
 else if op==57 then (⟨#[110,101,119,97,114,114]⟩,8,0)
 else if op==58 then (⟨#[108,100,108,101,110]⟩,0,0)
 else if op==59 then (⟨#[108,100,101,108,101,109]⟩,8,0)
 else if op==60 then (⟨#[115,116,101,108,101,109]⟩,8,0)
 else if op==61 then (⟨#[108,100,101,108,101,109,97]⟩,8,0)
 else zck op
theorem zjT (op:Int):ACall Tryz.prog 248 [pi op] (zdf (zcC op).1 (zcC op).2.1 (zcC op).2.2):=by
 refine zi zf Tryz.func248 rfl (by kernel_rfl) Tryz.ntmps248 (by simp) _ rfl (fun hw gB hgB=>?_)
 repeat' (first|(refine shC ?_;first|refine qC (zjA op) ?_)|refine sA ?_|refine sC (fun _=>?_) (fun _=>?_)|fail)
 all_goals (refine retq rfl ?_;simp only [zy,zcC, *];rfl)
def zeA (op:Int):ByteArray × Int × Int :=
 if op==34 then (⟨#[98,114]⟩,5,1)
 else if op==35 then (⟨#[98,114,116,114,117,101]⟩,5,2)
 else if op==36 then (⟨#[98,114,102,97,108,115,101]⟩,5,2)
 else if op==37 then (⟨#[98,101,113]⟩,5,2)
 else if op==38 then (⟨#[98,103,101]⟩,5,2)
 else if op==39 then (⟨#[98,103,116]⟩,5,2)
 else if op==40 then (⟨#[98,108,101]⟩,5,2)
 else if op==41 then (⟨#[98,108,116]⟩,5,2)
 else if op==42 then (⟨#[98,110,101]⟩,5,2)
 else if op==43 then (⟨#[99,97,108,108]⟩,6,0)
 else if op==44 then (⟨#[99,97,108,108,118,105,114,116]⟩,6,0)
 else if op==45 then (⟨#[110,101,119,111,98,106]⟩,6,0)
 else if op==46 then (⟨#[114,101,116]⟩,0,3)
 else if op==47 then (⟨#[116,97,105,108]⟩,0,0)
 else zcC op
theorem zkV (op:Int):ACall Tryz.prog 224 [pi op] (zdf (zeA op).1 (zeA op).2.1 (zeA op).2.2):=by
 refine zi zf Tryz.func224 rfl (by kernel_rfl) Tryz.ntmps224 (by simp) _ rfl (fun hw gB hgB=>?_)
 repeat' (first|(refine shC ?_;first|refine qC (zjT op) ?_)|refine sA ?_|refine sC (fun _=>?_) (fun _=>?_)|fail)
 all_goals (refine retq rfl ?_;simp only [zy,zeA, *];rfl)
def ziz (op:Int):ByteArray × Int × Int :=
 if op==13 then (⟨#[97,100,100]⟩,0,0)
 else if op==14 then (⟨#[115,117,98]⟩,0,0)
 else if op==15 then (⟨#[109,117,108]⟩,0,0)
 else if op==16 then (⟨#[100,105,118]⟩,0,0)
 else if op==17 then (⟨#[114,101,109]⟩,0,0)
 else if op==18 then (⟨#[97,110,100]⟩,0,0)
 else if op==19 then (⟨#[111,114]⟩,0,0)
 else if op==20 then (⟨#[120,111,114]⟩,0,0)
 else if op==21 then (⟨#[115,104,108]⟩,0,0)
 else if op==22 then (⟨#[115,104,114]⟩,0,0)
 else if op==23 then (⟨#[110,101,103]⟩,0,0)
 else if op==24 then (⟨#[110,111,116]⟩,0,0)
 else if op==25 then (⟨#[97,100,100,111,118,102]⟩,0,0)
 else if op==26 then (⟨#[115,117,98,111,118,102]⟩,0,0)
 else if op==27 then (⟨#[109,117,108,111,118,102]⟩,0,0)
 else if op==28 then (⟨#[99,111,110,118,52]⟩,0,0)
 else if op==29 then (⟨#[99,111,110,118,56]⟩,0,0)
 else if op==30 then (⟨#[99,111,110,118,111,118,102,52]⟩,0,0)
 else if op==31 then (⟨#[99,101,113]⟩,0,0)
 else if op==32 then (⟨#[99,103,116]⟩,0,0)
 else if op==33 then (⟨#[99,108,116]⟩,0,0)
 else zeA op
theorem zl5 (op:Int):ACall Tryz.prog 173 [pi op] (zdf (ziz op).1 (ziz op).2.1 (ziz op).2.2):=by
 refine zi zf Tryz.func173 rfl (by kernel_rfl) Tryz.ntmps173 (by simp) _ rfl (fun hw gB hgB=>?_)
 repeat' (first|(refine shC ?_;first|refine qC (zkV op) ?_)|refine sA ?_|refine sC (fun _=>?_) (fun _=>?_)|fail)
 all_goals (refine retq rfl ?_;simp only [zy,ziz, *];rfl)
def ofI (op:Int):ByteArray × Int × Int :=
 if op==1 then (⟨#[110,111,112]⟩,0,0)
 else if op==2 then (⟨#[108,100,97,114,103]⟩,4,0)
 else if op==3 then (⟨#[115,116,97,114,103]⟩,4,0)
 else if op==4 then (⟨#[108,100,97,114,103,97]⟩,4,0)
 else if op==5 then (⟨#[108,100,108,111,99]⟩,3,0)
 else if op==6 then (⟨#[115,116,108,111,99]⟩,3,0)
 else if op==7 then (⟨#[108,100,108,111,99,97]⟩,3,0)
 else if op==8 then (⟨#[108,100,99,52]⟩,1,0)
 else if op==9 then (⟨#[108,100,99,56]⟩,2,0)
 else if op==10 then (⟨#[108,100,110,117,108,108]⟩,0,0)
 else if op==11 then (⟨#[100,117,112]⟩,0,0)
 else if op==12 then (⟨#[112,111,112]⟩,0,0)
 else ziz op
theorem zkc (op:Int):ACall Tryz.prog 125 [pi op] (zdf (ofI op).1 (ofI op).2.1 (ofI op).2.2):=by
 refine zi zf Tryz.func125 rfl (by kernel_rfl) Tryz.ntmps125 (by simp) _ rfl (fun hw gB hgB=>?_)
 repeat' (first|(refine shC ?_;first|refine qC (zl5 op) ?_)|refine sA ?_|refine sC (fun _=>?_) (fun _=>?_)|fail)
 all_goals (refine retq rfl ?_;simp only [zy,ofI, *];rfl)
set_option maxHeartbeats 20000000
def zeU (t:Ty):Bool :=
 if t.kind==1 then t.index==0&&(t.dims==0&&(t.ref==false&&true))
 else if t.kind==2||t.kind==3||t.kind==4 then decide (0≤t.index)&&decide (t.index≤0)&&decide (0≤t.dims)&&decide (t.dims≤3)
 else if t.kind==5||t.kind==6 then decide (0≤t.index)&&decide (t.index≤31)&&decide (0≤t.dims)&&decide (t.dims≤3)
 else if t.kind==7 then decide (0≤t.index)&&decide (t.index≤7)&&decide (0≤t.dims)&&decide (t.dims≤3)
 else false
theorem zib (t:Ty):zeU t=ZI t:=by
 rw [Bool.eq_iff_iff,zeU,ZI]
 by_cases h1:t.kind=1
 ·cases hr:t.ref <;> simp [h1] <;> omega
 ·by_cases h2:t.kind=2
  ·simp [h2];omega
  ·by_cases h3:t.kind=3
   ·simp [h3];omega
   ·by_cases h4:t.kind=4
    ·simp [h4];omega
    ·by_cases h5:t.kind=5
     ·simp [h5];omega
     ·by_cases h6:t.kind=6
      ·simp [h6];omega
      ·by_cases h7:t.kind=7
       ·simp [h7];omega
       ·simp [h1,h2,h3,h4,h5,h6,h7]
theorem zff (t:Ty):ACall Tryz.prog 222 [yM t] (pb (zeU t)):=by
 refine zi zf Tryz.func222 rfl (by kernel_rfl) Tryz.ntmps222 (by simp) _ rfl (fun hw gB hgB=>?_)
 repeat' (first|refine sA ?_|refine sC (fun _=>?_) (fun _=>?_)|fail)
 all_goals first|(refine retq rfl ?_;first|(simp only [zy,zeU, *];done)|(simp only [zy,zeU, *];rfl)|(simp_all [zy,zeU];done))|(trace "LEFT";trace_state)
theorem zai (t:Ty):ACall Tryz.prog 170 [yM t] (pb (ZI t)):=by
 refine zi zf Tryz.func170 rfl (by kernel_rfl) Tryz.ntmps170 (by simp) _ rfl (fun hw gB hgB=>?_)
 have c1:=zff t
 rw [zib] at c1
 repeat' (first|(refine shC ?_;first|refine qC c1 ?_)|refine sA ?_|refine sC (fun _=>?_) (fun _=>?_)|fail)
 exact retq rfl rfl
theorem zlo (t:Ty):ACall Tryz.prog 308 [yM t] (pb (ZK t 2)):=by
 refine zi zf Tryz.func308 rfl (by kernel_rfl) Tryz.ntmps308 (by simp) _ rfl (fun hw gB hgB=>?_)
 have c1:=zff t
 rw [zib] at c1
 repeat' (first|(refine shC ?_;first|refine qC c1 ?_)|refine sA ?_|refine sC (fun _=>?_) (fun _=>?_)|fail)
 all_goals (refine retq rfl ?_;simp_all [zy,ZK];done)
theorem zfH (t:Ty):ACall Tryz.prog 300 [yM t] (pb (ZK t 1)):=by
 refine zi zf Tryz.func300 rfl (by kernel_rfl) Tryz.ntmps300 (by simp) _ rfl (fun hw gB hgB=>?_)
 have c1:=zlo t
 have e:(ZK t 2&&!t.ref)=ZK t 1:=by
  simp only [ZK];cases ZI t <;> simp
 repeat' (first|(refine shC ?_;first|refine qC c1 ?_)|refine sA ?_|refine sC (fun _=>?_) (fun _=>?_)|fail)
 all_goals (refine retq rfl ?_;rw [←e];simp_all [zy];done)
theorem zaX (t:Ty) (n:Int):ACall Tryz.prog 287 [yM t,pi n] (pb (zh6 t n)):=by
 refine zi zf Tryz.func287 rfl (by kernel_rfl) Tryz.ntmps287 (by simp) _ rfl (fun hw gB hgB=>?_)
 repeat' (first|refine sA ?_|refine sC (fun _=>?_) (fun _=>?_)|fail)
 all_goals (first|refine retq rfl ?_|refine VX rfl ?_)
 all_goals (first|(simp_all [zy,zh6];done)|(simp_all [zy,zh6];omega))
theorem zks (t:Ty) (n:Int):ACall Tryz.prog 289 [yM t,pi n] (pb (WB t 2 n)):=by
 refine zi zf Tryz.func289 rfl (by kernel_rfl) Tryz.ntmps289 (by simp) _ rfl (fun hw gB hgB=>?_)
 repeat' (first|(refine shC ?_;first|refine qC (zai t) ?_|refine qC (zaX t n) ?_)|refine sA ?_|refine sC (fun _=>?_) (fun _=>?_)|fail)
 all_goals (refine retq rfl ?_;simp_all [zy,WB,ZK];done)
theorem zji (t:Ty) (n:Int):ACall Tryz.prog 290 [yM t,pi n] (pb (WB t 3 n)):=by
 refine zi zf Tryz.func290 rfl (by kernel_rfl) Tryz.ntmps290 (by simp) _ rfl (fun hw gB hgB=>?_)
 repeat' (first|(refine shC ?_;first|refine qC (zai t) ?_|refine qC (zaX t n) ?_)|refine sA ?_|refine sC (fun _=>?_) (fun _=>?_)|fail)
 all_goals (refine retq rfl ?_;simp_all [zy,WB,ZK];done)
set_option maxHeartbeats 20000000
theorem ziT (op:Int) (h1:1≤op) (h2:op≤75):(ofI op).1.size≠0∧(ofI op).2.1=yN op:=by
 have h:∀ n:Fin 76,1≤n.val→(ofI (n.val:Int)).1.size≠0∧(ofI (n.val:Int)).2.1=yN (n.val:Int):=by decide +kernel
 have:=h ⟨op.toNat,by omega⟩ (by simp;omega)
 simpa [Int.toNat_of_nonneg (show 0≤op by omega)] using this
theorem zsp (op:Int) (h:op < 1∨75 < op):ofI op=(⟨#[]⟩,0,0):=by
 have e:∀ k:Int,1≤k→k≤75→(op==k)=false:=fun k h1 h2=>by rw [beq_eq_false_iff_ne];omega
 simp [ofI,ziz,zeA,zcC,zck,e]
theorem zoH (s:ByteArray):(s.toList==(⟨#[]⟩:ByteArray).toList)=decide (s.size=0):=by
 rw [ByteArray.toList_eq,ByteArray.toList_eq]
 have hs:s.size=s.data.toList.length:=by simp
 rw [hs]
 cases s.data.toList <;> simp
theorem zds (op:Int) (h1:1≤op) (h2:op≤75):ACall Tryz.prog 84 [pi op] (.tup [zdf (ofI op).1 (ofI op).2.1 (ofI op).2.2,pi 0]):=by
 refine zi zf Tryz.func84 rfl (by kernel_rfl) Tryz.ntmps84 (by simp) _ rfl (fun hw gB hgB=>?_)
 have c1:=zkc op
 have hn:=(ziT op h1 h2).1
 generalize ofI op=x at c1 hn
 have he:(x.1.toList==(⟨#[]⟩:ByteArray).toList)=false:=by rw [zoH];simp [hn]
 repeat' (first|(refine shC ?_;first|refine qC c1 ?_)|refine sK ?_|refine sC (fun _=>?_) (fun _=>?_)|fail)
 all_goals exact retq rfl rfl
theorem zfu (op:Int) (h:op < 1∨75 < op):ACall Tryz.prog 84 [pi op] (.tup [zdf ⟨#[]⟩ 0 0,pi 3]):=by
 refine zi zf Tryz.func84 rfl (by kernel_rfl) Tryz.ntmps84 (by simp) _ rfl (fun hw gB hgB=>?_)
 have c1:=zkc op
 rw [zsp op h] at c1
 have he:((⟨#[]⟩:ByteArray).toList==(⟨#[]⟩:ByteArray).toList)=true:=by simp
 repeat' (first|(refine shC ?_;first|refine qC c1 ?_)|refine sK ?_|refine sC (fun _=>?_) (fun _=>?_)|fail)
 all_goals exact retq rfl rfl
theorem zkd (x b:Int):ACall Tryz.prog 327 [.base (.int .i64 x),.base (.int .i64 b)] (pb (decide (0≤x)&&decide (x < b))):=by
 refine zi zf Tryz.func327 rfl (by kernel_rfl) Tryz.ntmps327 (by simp) _ rfl (fun hw gB hgB=>?_)
 repeat' (first|refine sA ?_|refine sC (fun _=>?_) (fun _=>?_)|fail)
 all_goals (refine retq rfl ?_;first|(simp_all [zy];done)|(simp_all [zy];omega))
def zgT (x:Ins) (k:Int):Bool :=
 if k==0 then zdI x.t&&x.arg==0
 else if k==1 then zdI x.t&&decide (-2147483648≤x.arg)&&decide (x.arg < 2147483648)
 else if k==2 then zdI x.t
 else if k==3 then zdI x.t&&(decide (0≤x.arg)&&decide (x.arg < 12))
 else if k==4 then zdI x.t&&(decide (0≤x.arg)&&decide (x.arg < 7))
 else if k==5 then zdI x.t&&(decide (0≤x.arg)&&decide (x.arg < 160))
 else if k==6 then zdI x.t&&(decide (0≤x.arg)&&decide (x.arg < 64))
 else if k==7 then zdI x.t&&(decide (0≤x.arg)&&decide (x.arg < 64))
 else x.arg==0&&ZI x.t&&x.t.kind != 1&&!x.t.ref
theorem zmt (x:Ins) (k:Int):ACall Tryz.prog 312 [qj x,pi k] (pb (zgT x k)):=by
 refine zi zf Tryz.func312 rfl (by kernel_rfl) Tryz.ntmps312 (by simp) _ rfl (fun hw gB hgB=>?_)
 repeat' (first|(refine shC ?_;first|refine qC (zkd _ _) ?_|refine qC (zai _) ?_)|refine sA ?_|refine sC (fun _=>?_) (fun _=>?_)|fail)
 all_goals first|(refine retq rfl ?_;first|(simp only [zy,zgT,zdI, *];done)|(simp only [zy,zgT,zdI, *];rfl)|(simp_all [zy,zgT,zdI];done))|(trace "LEFT";trace_state)
set_option maxHeartbeats 20000000
def zg4 (x:Ins):Int:=if x.op < 1∨75 < x.op then 3 else if zgT x (yN x.op) then 0 else 17
theorem zmv (x:Ins):ACall Tryz.prog 303 [qj x] (pi (zg4 x)):=by
 refine zi zf Tryz.func303 rfl (by kernel_rfl) Tryz.ntmps303 (by simp) _ rfl (fun hw gB hgB=>?_)
 by_cases hop:x.op < 1∨75 < x.op
 ·have c1:=zfu x.op hop
  repeat' (first|(refine shC ?_;first|refine qC c1 ?_)|refine sK ?_|refine sC (fun _=>?_) (fun _=>?_)|fail)
  all_goals exact retq rfl (by simp [zy,zg4,hop])
 ·have c1:=zds x.op (by omega) (by omega)
  rw [(ziT x.op (by omega) (by omega)).2] at c1
  repeat' (first|(refine shC ?_;first|refine qC c1 ?_|refine qC (zmt _ _) ?_)|refine sA ?_|refine sC (fun _=>?_) (fun _=>?_)|fail)
  all_goals (refine retq rfl ?_;simp_all [zy,zg4];done)
theorem zfT (op:Int) (h1:1≤op) (h2:op≤75):0≤yN op∧yN op≤8:=by
 have h:∀ n:Fin 76,1≤n.val→0≤yN (n.val:Int)∧yN (n.val:Int)≤8:=by decide +kernel
 have:=h ⟨op.toNat,by omega⟩ (by simp;omega)
 simpa [Int.toNat_of_nonneg (show 0≤op by omega)] using this
def zdX (x:Ins):Prop := -9223372036854775808≤x.arg∧x.arg≤9223372036854775807
theorem zkl (t:Ty):zdI t=decide (t=ty0):=Wp t ty0
theorem zoS (x:Ins) (hx:zdX x):zg4 x=XK x:=by
 unfold zg4 XK
 obtain ⟨hx1,hx2⟩:=hx
 by_cases hop:x.op < 1∨75 < x.op
 ·rw [if_pos hop,if_pos hop]
 ·rw [if_neg hop,if_neg hop]
  obtain ⟨r1,r2⟩:=zfT x.op (by omega) (by omega)
  generalize yN x.op=k at r1 r2
  have hk:k=0∨k=1∨k=2∨k=3∨k=4∨k=5∨k=6∨k=7∨k=8:=by omega
  by_cases ht:x.t=ty0
  ·rcases hk with rfl|rfl|rfl|rfl|rfl|rfl|rfl|rfl|rfl <;> simp only [zgT,zbW,zkl,ht] <;> simp [ty0,ZI,ZK] <;> (first|omega|(split <;> split <;> first|rfl|omega))
  ·rcases hk with rfl|rfl|rfl|rfl|rfl|rfl|rfl|rfl|rfl <;> simp only [zgT,zbW,zkl,ht] <;> simp [ht,ZK] <;> (first|omega|(by_cases ha:x.arg=0 <;> cases hp:ZI x.t <;> by_cases hk1:x.t.kind=1 <;> cases hr:x.t.ref <;> simp_all <;> omega))
theorem zmw (x:Ins) (g:Img) (m:Me) (hx:zdX x):ACall Tryz.prog 293 [qj x,zT g,pi m.code.length] (pb (codeOk g m x)):=by
 refine zi zf Tryz.func293 rfl (by kernel_rfl) Tryz.ntmps293 (by simp) _ rfl (fun hw gB hgB=>?_)
 have c0:=zmv x
 rw [zoS x hx] at c0
 by_cases hf:XK x=0
 ·have hop:¬ (x.op < 1∨75 < x.op):=by
   intro h;rw [XK,if_pos h] at hf;simp at hf
  have c1:=zds x.op (by omega) (by omega)
  rw [(ziT x.op (by omega) (by omega)).2] at c1
  rw [hf] at c0
  have hown:yN x.op≠8→x.t=ty0:=by
   intro h8
   rw [XK,if_neg hop] at hf
   split at hf
   ·simp at hf
   ·split at hf
    ·simp at hf
    ·rename_i h;exact Classical.byContradiction fun h9=>h ⟨h8,h9⟩
  repeat' (first|(refine shC ?_;first|refine qC c0 ?_|refine qC c1 ?_|refine qC (zaX _ _) ?_)|refine sA ?_|refine sC (fun _=>?_) (fun _=>?_)|fail)
  all_goals (refine retq rfl ?_)
  all_goals simp only [zy,List.length_map,codeOk,hf, *]
  ·rfl
  ·rfl
  ·rfl
  ·by_cases h8:yN x.op=8
   ·simp [h8]
   ·simp [h8,hown h8,zh6,ty0]
 ·have hfb:(XK x != 0)=true:=by simp [hf]
  repeat' (first|(refine shC ?_;first|refine qC c0 ?_)|refine sK ?_|refine sC (fun _=>?_) (fun _=>?_)|fail)
  all_goals exact retq rfl (by simp [zy,codeOk,hf])
set_option maxHeartbeats 20000000
def u8s (l:List Int):PV:=.slc 1 (l.map fun n=>.base (.int .u8 n)) false
theorem zoz (n:Int) (h0:0≤n) (h1:n≤128):ACall Tryz.prog 325 [pi n] (pi (if n < 128 then 1 else 2)):=by
 refine zi zf Tryz.func325 rfl (by kernel_rfl) Tryz.ntmps325 (by simp) _ rfl (fun hw gB hgB=>?_)
 by_cases h:n < 128
 ·repeat' (first|refine sK ?_|refine sC (fun _=>?_) (fun _=>?_)|fail)
  exact retq rfl (by simp [zy,h])
 ·repeat' (first|refine sK ?_|refine sC (fun _=>?_) (fun _=>?_)|fail)
  exact retq rfl (by simp [zy,h])
theorem zpA (r:Int) (h0:1≤r) (h1:r≤32):ACall Tryz.prog 310 [pi 0,pi r] (.tup [pi (4 * r),pi 0]):=by
 refine zi zf Tryz.func310 rfl (by kernel_rfl) Tryz.ntmps310 (by simp) _ rfl (fun hw gB hgB=>?_)
 have hfin:∀ n:Fin 33,IntKind.i64.wrap ((BitVec.ofInt IntKind.i64.bits (IntKind.i64.wrap ((n.val:Int) * 2 ^ (min (Int.toNat 2) IntKind.i64.bits))) ||| BitVec.ofInt IntKind.i64.bits 0).toNat:Int)=4 * (n.val:Int):=by decide +kernel
 have hr:=hfin ⟨r.toNat,by omega⟩
 simp only [Int.toNat_of_nonneg (show 0≤r by omega)] at hr
 repeat' (first|refine zx rfl (ztA rfl rfl rfl (by decide)) rfl rfl ?_|refine sK ?_|refine sC (fun _=>?_) (fun _=>?_)|fail)
 exact retq rfl (by simp only [zy,hr])
theorem zfA (l:List Int) (hne:l≠[]) (hb:l.length≤100000):ACallR Tryz.prog 326 [u8s l] 5 1 (l.map fun n=>.base (.int .u8 n)):=by
 refine zee (t:=2) Tryz.func326 rfl (by kernel_rfl) Tryz.ntmps326 (by simp) rfl (fun hw gB hgB=>?_)
 repeat' (first|refine Xo zf rfl rfl rfl rfl rfl rfl rfl (fun bb hbb=>?_)|refine zx rfl (XA zf rfl rfl rfl rfl rfl) rfl rfl ?_|(refine yK ?_;first|refine XQ 0 zf rfl rfl rfl (.inl rfl) rfl (by have:=List.length_pos_iff.2 hne;simpa using this) rfl (by show _ * 1≤_;simp;omega) (by simp;omega) rfl rfl rfl ?_)|refine sA ?_|refine sC (fun _=>?_) (fun _=>?_)|fail)
 ·rename_i hx
  exact (hne (by simpa using hbb hx)).elim
 ·exact ⟨.inr rfl,0,rfl,rfl⟩
def byteOf (X i:Int):Int:=IntKind.u8.wrap (X.fdiv (2 ^ (min (IntKind.i64.wrap (8 * i)).toNat IntKind.u32.bits)))
def bytesOf (X:Int) (k:Nat):List Int:=(List.range k).map fun m=>byteOf X ((k:Int) - 1 - (m:Nat))
abbrev u8c (n:Int):PV:=.base (.int .u8 n)
theorem zdG {X:Int} {k m:Nat} (h:m < k):(bytesOf X k).take (m + 1)=(bytesOf X k).take m++[byteOf X ((k:Int) - 1 - (m:Nat))]:=by
 have hl:m < (bytesOf X k).length:=by simpa [bytesOf] using h
 rw [List.take_succ_eq_append_getElem hl]
 simp [bytesOf]
theorem zfn {X:Int} {k:Nat}:(bytesOf X k).take k=bytesOf X k:=List.take_of_length_le (by simp [bytesOf])
theorem ziI (l:List Int) (hne:l≠[]) (hb:l.length≤1000) (n:Int) (h0:0≤n) (h1:n≤128):∃ bs:List Int,ACall Tryz.prog 311 [u8s l,pi n] (.tup [u8s (l++bs),pi 0]):=by
 have c1:=zoz n h0 (by omega)
 by_cases hn:n < 128
 ·rw [if_pos hn] at c1
  obtain ⟨X,hX⟩:∃ X,IntKind.u32.wrap ((BitVec.ofInt IntKind.u32.bits (IntKind.u32.wrap n) ||| BitVec.ofInt IntKind.u32.bits 0).toNat:Int)=X:=⟨_,rfl⟩
  refine ⟨bytesOf X 1,?_⟩
  refine zi zf Tryz.func311 rfl (by kernel_rfl) Tryz.ntmps311 (by simp) _ rfl (fun hw gB hgB=>?_)
  repeat' (first|refine zx rfl (zfJ [(2,.int .u32 32768),(4,.int .u32 3221225472)] zf rfl rfl rfl rfl rfl rfl rfl) rfl rfl ?_|refine zx rfl (zkO 1 zf rfl rfl rfl rfl rfl rfl rfl rfl) rfl rfl ?_|refine zbS 0 rfl rfl rfl (zfA l hne (by omega)) (by decide) rfl rfl rfl ?_|(refine shC ?_;first|refine qC c1 ?_)|refine sK ?_|refine sC (fun _=>?_) (fun _=>?_)|fail)
  refine zW (fun m:Nat=>[(7,.pv (.base (.int .u32 X))),(8,.own 0),(9,.pv (pi (((1:Nat):Int) - 1 - (m:Nat))))]) (fun m=>[(0,.row 5 1 ((l++(bytesOf X 1).take m).map u8c))]) (fun m=>m≤1) (fun m=>1 - m) 0 (by omega) (by repeat (first|exact yZ|refine yS rfl ?_|(refine Zn rfl ?_ ?_;· first|exact hX|rfl))) ⟨ZW rfl (by simp) zG,rfl⟩ ?_
  rintro m hm
  by_cases hlt:m < 1
  ·have hs0:0≤IntKind.i64.wrap (8 * (((1:Nat):Int) - 1 - (m:Nat))):=by rw [wrap_in (by omega) (by omega)];omega
   repeat' (first|refine zx rfl (zsC rfl rfl rfl hs0) rfl rfl ?_|(refine yK ?_;first|refine qG zf rfl rfl rfl rfl rfl rfl rfl (by show _ * 1≤_;simp [bytesOf];omega) (by simp [bytesOf];omega) rfl rfl ?_)|refine sK ?_|refine sC (fun _=>?_) (fun _=>?_)|fail)
   exact ⟨m + 1,hlt,tD,by repeat (first|exact yZ|refine yS rfl ?_|(refine Zn rfl ?_ ?_;· (rw [wrap_in (by omega) (by omega)];omega))),⟨ZW rfl (by rw [zdG hlt];simp [byteOf]) zG,rfl⟩⟩
  ·have:m=1:=by omega
   subst this
   repeat' (first|refine sK ?_|refine sC (fun _=>?_) (fun _=>?_)|fail)
   exact retq rfl (by rw [zfn];rfl)
 ·rw [if_neg hn] at c1
  obtain rfl:n=128:=by omega
  obtain ⟨X,hX⟩:∃ X,IntKind.u32.wrap ((BitVec.ofInt IntKind.u32.bits (IntKind.u32.wrap 128) ||| BitVec.ofInt IntKind.u32.bits 32768).toNat:Int)=X:=⟨_,rfl⟩
  refine ⟨bytesOf X 2,?_⟩
  refine zi zf Tryz.func311 rfl (by kernel_rfl) Tryz.ntmps311 (by simp) _ rfl (fun hw gB hgB=>?_)
  repeat' (first|refine zx rfl (zfJ [(2,.int .u32 32768),(4,.int .u32 3221225472)] zf rfl rfl rfl rfl rfl rfl rfl) rfl rfl ?_|refine zx rfl (zkO 2 zf rfl rfl rfl rfl rfl rfl rfl rfl) rfl rfl ?_|refine zbS 0 rfl rfl rfl (zfA l hne (by omega)) (by decide) rfl rfl rfl ?_|(refine shC ?_;first|refine qC c1 ?_)|refine sK ?_|refine sC (fun _=>?_) (fun _=>?_)|fail)
  refine zW (fun m:Nat=>[(7,.pv (.base (.int .u32 X))),(8,.own 0),(9,.pv (pi (((2:Nat):Int) - 1 - (m:Nat))))]) (fun m=>[(0,.row 5 1 ((l++(bytesOf X 2).take m).map u8c))]) (fun m=>m≤2) (fun m=>2 - m) 0 (by omega) (by repeat (first|exact yZ|refine yS rfl ?_|(refine Zn rfl ?_ ?_;· first|exact hX|rfl))) ⟨ZW rfl (by simp) zG,rfl⟩ ?_
  rintro m hm
  by_cases hlt:m < 2
  ·have hs0:0≤IntKind.i64.wrap (8 * (((2:Nat):Int) - 1 - (m:Nat))):=by rw [wrap_in (by omega) (by omega)];omega
   have hge:decide (0≤((2:Nat):Int) - 1 - (m:Nat))=true:=by simp;omega
   repeat' (first|refine zx rfl (zsC rfl rfl rfl hs0) rfl rfl ?_|(refine yK ?_;first|refine qG zf rfl rfl rfl rfl rfl rfl rfl (by show _ * 1≤_;simp [bytesOf];omega) (by simp [bytesOf];omega) rfl rfl ?_)|refine sK ?_|refine sC (fun _=>?_) (fun _=>?_)|fail)
   exact ⟨m + 1,hlt,tD,by repeat (first|exact yZ|refine yS rfl ?_|(refine Zn rfl ?_ ?_;· (rw [wrap_in (by omega) (by omega)];omega))),⟨ZW rfl (by rw [zdG hlt];simp [byteOf]) zG,rfl⟩⟩
  ·have:m=2:=by omega
   subst this
   repeat' (first|refine sK ?_|refine sC (fun _=>?_) (fun _=>?_)|fail)
   exact retq rfl (by rw [zfn];rfl)
set_option maxHeartbeats 20000000
structure Pt where
 c:Int
 p:Int
 f:Int
 t:Int
 deriving Inhabited
def yQ (x:Pt):PV:=.agg [pi x.c,pi x.p,pi x.f,pi x.t]
def zpS (f t:Int):PV:=.agg [pi f,pi t]
def pts (l:List Pt):PV:=.slc 4 (l.map yQ) false
def yG (k:Int) (c:Cl):List Pt:=[⟨k,1,c.tf,c.tt⟩,⟨k,2,c.hf,c.ht⟩]++(if c.kind==2 then [⟨k,3,c.filter,c.hf⟩] else [])
theorem zdx (f t n:Int):ACall Tryz.prog 313 [zpS f t,pi n] (pb (decide (0≤f)&&decide (f < t)&&decide (t≤n))):=by
 refine zi zf Tryz.func313 rfl (by kernel_rfl) Tryz.ntmps313 (by simp) _ rfl (fun hw gB hgB=>?_)
 repeat' (first|refine sA ?_|refine sC (fun _=>?_) (fun _=>?_)|fail)
 all_goals first|(refine retq rfl ?_;first|(simp only [zy,BL,List.length_map] at *;simp only [*,BL,List.length_map];done)|(simp_all [zy];done)|(simp_all [zy];omega)|(simp_all [zy];intros;omega))|(refine VX rfl ?_;first|(simp only [zy,BL,List.length_map] at *;simp only [*,BL,List.length_map];done)|(simp_all [zy];done)|(simp_all [zy];omega)|(simp_all [zy];intros;omega))|skip
def Qu (a b:Pt):Bool:=!(a.f==b.f&&(a.t==b.t&&true))&&decide (b.f≤a.f)&&decide (a.t≤b.t)
theorem zi1 (a b:Pt):ACall Tryz.prog 318 [zpS a.f a.t,zpS b.f b.t] (pb (Qu a b)):=by
 refine zi zf Tryz.func318 rfl (by kernel_rfl) Tryz.ntmps318 (by simp) _ rfl (fun hw gB hgB=>?_)
 repeat' (first|refine sA ?_|refine sC (fun _=>?_) (fun _=>?_)|fail)
 all_goals (refine retq rfl ?_;first|(simp only [zy,Qu, *];done)|(simp only [zy,Qu, *];rfl)|(simp_all [zy,Qu];done))
def Ye (a b:Pt):Bool:=decide (a.f < b.t)&&decide (b.f < a.t)
theorem zk3 (a b:Pt):ACall Tryz.prog 330 [zpS a.f a.t,zpS b.f b.t] (pb (Ye a b)):=by
 refine zi zf Tryz.func330 rfl (by kernel_rfl) Tryz.ntmps330 (by simp) _ rfl (fun hw gB hgB=>?_)
 repeat' (first|refine sA ?_|refine sC (fun _=>?_) (fun _=>?_)|fail)
 all_goals (refine retq rfl ?_;first|(simp only [zy,Ye, *];done)|(simp only [zy,Ye, *];rfl)|(simp_all [zy,Ye];done))
def zrb (l:List Pt) (p:Pt→Bool):Int:=if l.any p then ((l.findIdx p:Nat):Int) else -1
theorem zfX (l:List Pt) (p:Pt→Bool) (f:FuncId) (first cap:List PV) (hp:∀ x∈l,ACall Tryz.prog f (first++[yQ x]++cap) (pb (p x))):ACall Tryz.prog 331 [pts l,.fn (.func f) first cap] (pi (zrb l p)):=by
 refine zi zf Tryz.func331 rfl (by kernel_rfl) Tryz.ntmps331 (by simp) _ rfl (fun hw gB hgB=>?_)
 have hl:l.length≤9223372036854775807:=by have:=hw.1;simp [pts,PV.lenOk,maxLen] at this;exact this.1
 repeat' (first|refine sA ?_|refine sC (fun _=>?_) (fun _=>?_)|fail)
 refine zW (fun k:Nat=>[(0,.pv (pts l)),(1,.pv (.fn (.func f) first cap)),(7,.pv (pi l.length)),(8,.pv (pi k))]) (fun _=>[]) (fun k=>k≤l.length∧∀ j (h:j < k) (h2:j < l.length),p l[j]=false) (fun k=>l.length - k) 0 ⟨by omega,fun j h=>by omega⟩ (tS) tH ?_
 rintro k ⟨hk,hno⟩
 by_cases hlt:k < l.length
 ·have he:=yj (f:=yQ) hlt
  have c1:=hp _ (List.getElem_mem hlt)
  cases hpx:p l[k]
  ·rw [hpx] at c1
   repeat' (first|(refine shC ?_;first|refine qV (c1) ?_)|(refine shX ?_;first|refine qX he ?_)|refine sK ?_|refine sC (fun _=>?_) (fun _=>?_)|fail)
   exact ⟨k + 1,⟨hlt,fun j hj h2=>by
    by_cases e:j=k
    ·subst e;exact hpx
    ·exact hno j (by omega) h2⟩,tD,tS,tH⟩
  ·rw [hpx] at c1
   have hi:l.findIdx p=k:=by
    rw [List.findIdx_eq hlt]
    exact ⟨hpx,fun j hj=>hno j hj (by omega)⟩
   have ha:l.any p=true:=List.any_eq_true.2 ⟨_,List.getElem_mem hlt,hpx⟩
   repeat' (first|(refine shC ?_;first|refine qV (c1) ?_)|(refine shX ?_;first|refine qX he ?_)|refine sK ?_|refine sC (fun _=>?_) (fun _=>?_)|fail)
   exact retq rfl (by simp [zy,zrb,ha,hi])
 ·have ha:l.any p=false:=by
   rw [List.any_eq_false]
   intro x hx
   obtain ⟨j,hj,rfl⟩:=List.getElem_of_mem hx
   simp [hno j (by omega) hj]
  repeat' (first|refine sK ?_|refine sC (fun _=>?_) (fun _=>?_)|fail)
  exact retq rfl (by simp [zy,zrb,ha])
theorem YO (l:List Pt) (p:Pt→Bool) (f:FuncId) (first cap:List PV) (hp:∀ x∈l,ACall Tryz.prog f (first++[yQ x]++cap) (pb (p x))):ACall Tryz.prog 316 [pts l,.fn (.func f) first cap] (pb (l.any p)):=by
 refine zi zf Tryz.func316 rfl (by kernel_rfl) Tryz.ntmps316 (by simp) _ rfl (fun hw gB hgB=>?_)
 have c1:=zfX l p f first cap hp
 repeat' (first|(refine shC ?_;first|refine qC c1 ?_)|refine sA ?_|refine sC (fun _=>?_) (fun _=>?_)|fail)
 refine retq rfl ?_
 have:decide (0≤zrb l p)=l.any p:=by
  unfold zrb
  cases h:l.any p <;> simp
 simp [zy,this]
theorem zjy (a b:Pt) (may:Pt→Pt→Bool) (mf:FuncId) (hm:∀ x y,ACall Tryz.prog mf [yQ x,yQ y] (pb (may x y))):ACall Tryz.prog 329 [yQ b,.ptr (yQ a) 0,.ptr (.fn (.func mf) [] []) 0] (pb (Ye a b&&!may a b)):=by
 refine zi zf Tryz.func329 rfl (by kernel_rfl) Tryz.ntmps329 (by simp) _ rfl (fun hw gB hgB=>?_)
 repeat' (first|(refine shC ?_;first|refine qC (zk3 a b) ?_|refine qV (hm a b) ?_)|refine sA ?_|refine sC (fun _=>?_) (fun _=>?_)|fail)
 all_goals (refine retq rfl ?_;simp_all [zy];done)
theorem zkI (a:Pt) (m:List Pt) (may:Pt→Pt→Bool) (mf:FuncId) (hm:∀ x y,ACall Tryz.prog mf [yQ x,yQ y] (pb (may x y))):ACall Tryz.prog 328 [yQ a,.ptr (pts m) 0,.ptr (.fn (.func mf) [] []) 0] (pb (m.any fun b=>Ye a b&&!may a b)):=by
 refine zi zf Tryz.func328 rfl (by kernel_rfl) Tryz.ntmps328 (by simp) _ rfl (fun hw gB hgB=>?_)
 have c1:=YO m (fun b=>Ye a b&&!may a b) 329 [] [.ptr (yQ a) 0,.ptr (.fn (.func mf) [] []) 0] (fun b _=>zjy a b may mf hm)
 repeat' (first|(refine shC ?_;first|refine qC c1 ?_)|refine sA ?_|refine sC (fun _=>?_) (fun _=>?_)|fail)
 exact retq rfl rfl
def zcb (l m:List Pt) (may:Pt→Pt→Bool):Bool:=l.any fun a=>m.any fun b=>Ye a b&&!may a b
theorem zcS (l m:List Pt) (may:Pt→Pt→Bool) (mf:FuncId) (hm:∀ x y,ACall Tryz.prog mf [yQ x,yQ y] (pb (may x y))):ACall Tryz.prog 314 [pts l,pts m,.fn (.func mf) [] []] (pb (zcb l m may)):=by
 refine zi zf Tryz.func314 rfl (by kernel_rfl) Tryz.ntmps314 (by simp) _ rfl (fun hw gB hgB=>?_)
 have c1:=YO l (fun a=>m.any fun b=>Ye a b&&!may a b) 328 [] [.ptr (pts m) 0,.ptr (.fn (.func mf) [] []) 0] (fun a _=>zkI a m may mf hm)
 repeat' (first|(refine shC ?_;first|refine qC c1 ?_)|refine sA ?_|refine sC (fun _=>?_) (fun _=>?_)|fail)
 exact retq rfl rfl
theorem zar (k:Int) (c:Cl):ACall Tryz.prog 139 [pi k,ZX c] (pts (yG k c)):=by
 refine zi zf Tryz.func139 rfl (by kernel_rfl) Tryz.ntmps139 (by simp) _ rfl (fun hw gB hgB=>?_)
 rcases Bool.eq_false_or_eq_true (c.kind==2) with hk|hk
 ·have e:pts (yG k c)=.slc 4 [yQ ⟨k,1,c.tf,c.tt⟩,yQ ⟨k,2,c.hf,c.ht⟩,yQ ⟨k,3,c.filter,c.hf⟩] false:=by simp [pts,yG,hk]
  repeat' (first|(refine yK ?_;first|refine zx rfl (Xu zf rfl rfl (.inl rfl) rfl rfl (by show _ * 32≤_;simp) (by simp)) rfl rfl ?_)|refine sK ?_|refine sC (fun _=>?_) (fun _=>?_)|fail)
  exact retq rfl (by rw [e];rfl)
 ·have e:pts (yG k c)=.slc 4 [yQ ⟨k,1,c.tf,c.tt⟩,yQ ⟨k,2,c.hf,c.ht⟩] false:=by simp [pts,yG,hk]
  repeat' (first|refine sK ?_|refine sC (fun _=>?_) (fun _=>?_)|fail)
  exact zaz (t:=4) (a:=.pv (.slc 4 [yQ ⟨k,1,c.tf,c.tt⟩,yQ ⟨k,2,c.hf,c.ht⟩] true)) (b:=.pv (pts (yG k c))) (ps:=[pts (yG k c)]) rfl (by rw [e];exact zcX 4 _ true) rfl rfl
theorem zkk (a b:Pt):ACall Tryz.prog 315 [yQ a,yQ b] (pb (a.c==b.c&&(a.p==b.p&&true))):=by
 refine zi zf Tryz.func315 rfl (by kernel_rfl) Tryz.ntmps315 (by simp) _ rfl (fun hw gB hgB=>?_)
 repeat' (first|refine sA ?_|refine sC (fun _=>?_) (fun _=>?_)|fail)
 exact retq rfl rfl
theorem znb (y x:Pt):ACall Tryz.prog 317 [yQ y,.ptr (yQ x) 0] (pb (!Qu y x)):=by
 refine zi zf Tryz.func317 rfl (by kernel_rfl) Tryz.ntmps317 (by simp) _ rfl (fun hw gB hgB=>?_)
 repeat' (first|(refine shC ?_;first|refine qC (zi1 y x) ?_)|refine sA ?_|refine sC (fun _=>?_) (fun _=>?_)|fail)
 exact retq rfl rfl
theorem zmG (y x:Pt):ACall Tryz.prog 319 [yQ y,.ptr (yQ x) 0] (pb (y.p != 1&&y.f==x.f)):=by
 refine zi zf Tryz.func319 rfl (by kernel_rfl) Tryz.ntmps319 (by simp) _ rfl (fun hw gB hgB=>?_)
 repeat' (first|refine sA ?_|refine sC (fun _=>?_) (fun _=>?_)|fail)
 all_goals (refine retq rfl ?_;simp_all [zy];done)
theorem zmf (x y:Pt):ACall Tryz.prog 320 [yQ x,yQ y] (pb (x.p==1&&y.p==1)):=by
 refine zi zf Tryz.func320 rfl (by kernel_rfl) Tryz.ntmps320 (by simp) _ rfl (fun hw gB hgB=>?_)
 repeat' (first|refine sA ?_|refine sC (fun _=>?_) (fun _=>?_)|fail)
 all_goals (refine retq rfl ?_;simp_all [zy];done)
theorem zmB (x y:Pt):ACall Tryz.prog 321 [yQ x,yQ y] (pb false):=by
 refine zi zf Tryz.func321 rfl (by kernel_rfl) Tryz.ntmps321 (by simp) _ rfl (fun hw gB hgB=>?_)
 repeat' (first|refine sA ?_|refine sC (fun _=>?_) (fun _=>?_)|fail)
 exact retq rfl rfl
def zq2 (a b:Pt):Bool:=a.c==b.c&&(a.p==b.p&&true)
def zqB (x y:Pt):Bool:=x.p==1&&y.p==1
def zbp (n:Int) (c:Cl):Int :=
 if decide (c.kind < 1)||decide (4 < c.kind)||!zeg n c||!zex n c then 3
 else if c.kind==2&&(decide (c.filter < 0)||decide (c.hf≤c.filter))||c.kind != 2&&c.filter != -1 then 3
 else if zcb (yG 0 c) (yG 0 c) zq2 then 12
 else 0
set_option maxHeartbeats 4000000 in
theorem zl0 (n:Int) (c:Cl):ACall Tryz.prog 304 [pi n,ZX c] (pi (zbp n c)):=by
 refine zi zf Tryz.func304 rfl (by kernel_rfl) Tryz.ntmps304 (by simp) _ rfl (fun hw gB hgB=>?_)
 have c1:=zdx c.tf c.tt n
 have c2:=zdx c.hf c.ht n
 have c3:=zcS (yG 0 c) (yG 0 c) zq2 315 zkk
 have e1:(decide (0≤c.tf)&&decide (c.tf < c.tt)&&decide (c.tt≤n))=zeg n c:=rfl
 have e2:(decide (0≤c.hf)&&decide (c.hf < c.ht)&&decide (c.ht≤n))=zex n c:=rfl
 rw [e1] at c1
 rw [e2] at c2
 repeat' (first|(refine shC ?_;first|refine qC c1 ?_|refine qC c2 ?_|refine qC (zar 0 c) ?_|refine qC c3 ?_)|refine sA ?_|refine sC (fun _=>?_) (fun _=>?_)|fail)
 all_goals (refine retq rfl ?_;first|(simp only [zy,zbp, *];done)|(simp only [zy,zbp, *];rfl)|(simp_all [zy,zbp];done)|(simp_all [zy,zbp];omega))
def Wi (a:Cl) (x:Pt):Bool:=!((yG 0 a).any fun y=>!Qu y x)
def zdr (a:Cl) (x:Pt):Bool:=(yG 0 a).any fun y=>y.p != 1&&y.f==x.f
def zf7 (a b:Cl):Bool :=
 if a.tf==b.tf&&(a.tt==b.tt&&true) then !zcb (yG 0 a) (yG 1 b) zqB else !zcb (yG 0 a) (yG 1 b) (fun _ _=>false)
def zcU (a b:Cl):List Pt→Bool
 | []=>zf7 a b
 | x::l=>if Wi a x then x.p==1||!zdr a x else zcU a b l
def zhg (a b:Cl):Bool:=zcU a b (yG 1 b)
set_option maxHeartbeats 2000000 in
theorem znc (a b:Cl):ACall Tryz.prog 305 [ZX a,ZX b] (pb (zhg a b)):=by
 refine zi zf Tryz.func305 rfl (by kernel_rfl) Tryz.ntmps305 (by simp) _ rfl (fun hw gB hgB=>?_)
 have hlen:(yG 1 b).length≤3:=by unfold yG;split <;> simp
 have h0a:((yG 0 a).map yQ)[(0:Int).toNat]?=some (yQ ⟨0,1,a.tf,a.tt⟩):=by simp [yG]
 have h0b:((yG 1 b).map yQ)[(0:Int).toNat]?=some (yQ ⟨1,1,b.tf,b.tt⟩):=by simp [yG]
 have ce:=zcS (yG 0 a) (yG 1 b) zqB 320 zmf
 have cf:=zcS (yG 0 a) (yG 1 b) (fun _ _=>false) 321 zmB
 repeat' (first|(refine shC ?_;first|refine qC (zar 0 a) ?_|refine qC (zar 1 b) ?_)|refine sA ?_|refine sC (fun _=>?_) (fun _=>?_)|fail)
 refine zW (fun k:Nat=>[(5,.pv (pts (yG 0 a))),(6,.pv (pts (yG 1 b))),(14,.pv (pts (yG 1 b))),(15,.pv (pi (yG 1 b).length)),(16,.pv (pi k))]) (fun _=>[]) (fun k=>k≤(yG 1 b).length∧zhg a b=zcU a b ((yG 1 b).drop k)) (fun k=>(yG 1 b).length - k) 0 ⟨by omega,rfl⟩ (tS) tH ?_
 rintro k ⟨hk,hr⟩
 by_cases hlt:k < (yG 1 b).length
 ·have he:=yj (f:=yQ) hlt
  rw [drop_cons hlt,zcU] at hr
  generalize (yG 1 b)[k]=x at he hr
  have c1:=YO (yG 0 a) (fun y=>!Qu y x) 317 [] [.ptr (yQ x) 0] (fun y _=>znb y x)
  have c2:=YO (yG 0 a) (fun y=>y.p != 1&&y.f==x.f) 319 [] [.ptr (yQ x) 0] (fun y _=>zmG y x)
  cases ha:(yG 0 a).any fun y=>!Qu y x
  ·rw [ha] at c1
   rw [show Wi a x=true by rw [Wi,ha];rfl,if_pos rfl] at hr
   repeat' (first|refine zaK (t:=8) rfl rfl rfl ?_|(refine shC ?_;first|refine qC c1 ?_|refine qC c2 ?_)|(refine shX ?_;first|refine qX he ?_)|refine sK ?_|refine sC (fun _=>?_) (fun _=>?_)|fail)
   all_goals (refine retq rfl ?_;rw [hr];simp_all [zy,zdr];done)
  ·rw [ha] at c1
   rw [show Wi a x=false by rw [Wi,ha];rfl,if_neg (by simp)] at hr
   repeat' (first|refine zaK (t:=8) rfl rfl rfl ?_|(refine shC ?_;first|refine qC c1 ?_)|(refine shX ?_;first|refine qX he ?_)|refine sK ?_|refine sC (fun _=>?_) (fun _=>?_)|fail)
   exact ⟨k + 1,⟨hlt,hr⟩,tD,tS,tH⟩
 ·rw [drop_end (by omega),zcU,zf7] at hr
  repeat' (first|(refine shC ?_;first|refine qC ce ?_|refine qC cf ?_)|(refine shX ?_;first|refine qX h0a ?_|refine qX h0b ?_)|refine sK ?_|refine sC (fun _=>?_) (fun _=>?_)|fail)
  all_goals (refine retq rfl ?_;rw [hr];simp_all [zy];done)
structure OkC (c:Cl):Prop where
 t:c.tf < c.tt
 h:c.hf < c.ht
 h0:0≤c.hf
 t0:0≤c.tf
 f:c.kind=2→0≤c.filter∧c.filter < c.hf
theorem zbL {n:Int} {c:Cl} (h:XL n c=0):OkC c:=by
 unfold XL at h
 split at h
 ·simp at h
 ·split at h
  ·simp at h
  ·rename_i h1 h2
   simp [zeg,zex] at h1 h2
   exact ⟨by omega,by omega,by omega,by omega,fun hk=>by simp [hk] at h2;omega⟩
theorem Vh {a b:Cl} {p q:Int} {x y:Pt} (hx:bounds a p=(x.f,x.t)) (hy:bounds b q=(y.f,y.t)) (h1:x.f < x.t) (h2:y.f < y.t):meet a p b q=Ye x y:=by
 simp [meet,Ye,hx,hy,h1,h2]
theorem znR {a b:Cl} {p q:Int} (h:¬ (bounds a p).1 < (bounds a p).2∨¬ (bounds b q).1 < (bounds b q).2):meet a p b q=false:=by
 simp only [meet,Bool.and_eq_false_iff,decide_eq_false_iff_not]
 rcases h with h|h
 ·exact .inl (.inr h)
 ·exact .inr h
theorem zei {a b:Cl} {p q:Int} {x y:Pt} (hx:bounds a p=(x.f,x.t)) (hy:bounds b q=(y.f,y.t)) (h1:x.f < x.t):within a p b q=Qu x y:=by
 rw [Bool.eq_iff_iff]
 simp [within,Qu,hx,hy]
 omega
theorem zj9 {a b:Cl} {q:Int} (h:a.kind≠2):within a 3 b q=true:=by simp [within,bounds,h]
theorem zmc {n:Int} {c:Cl}:zbp n c=XL n c:=by
 unfold zbp XL
 split
 ·rfl
 ·split
  ·rfl
  ·rename_i h1 h2
   have hok:OkC c:=by
    simp [zeg,zex] at h1 h2
    exact ⟨by omega,by omega,by omega,by omega,fun hk=>by simp [hk] at h2;omega⟩
   have e:zcb (yG 0 c) (yG 0 c) zq2=(meet c 1 c 2||meet c 1 c 3||meet c 2 c 3):=by
    obtain ⟨g1,g2,g3,g4,g5⟩:=hok
    rw [Bool.eq_iff_iff]
    by_cases hk:c.kind=2
    ·have:=g5 hk
     simp [zcb,yG,hk,zq2,Ye,meet,bounds]
     omega
    ·simp [zcb,yG,hk,zq2,Ye,meet,bounds]
     omega
   rw [e]
theorem zbN {a b:Cl} (ha:OkC a) {q:Int} {x:Pt} (hy:bounds b q=(x.f,x.t)) (h2:x.f < x.t):Wi a x=zft a b q:=by
 have w1:within a 1 b q=Qu ⟨0,1,a.tf,a.tt⟩ x:=zei (by simp [bounds]) hy ha.t
 have w2:within a 2 b q=Qu ⟨0,2,a.hf,a.ht⟩ x:=zei (by simp [bounds]) hy ha.h
 by_cases hk:a.kind=2
 ·have w3:within a 3 b q=Qu ⟨0,3,a.filter,a.hf⟩ x:=zei (by simp [bounds,hk]) hy (ha.f hk).2
  simp [Wi,yG,zft,w1,w2,w3,hk,hy,h2,Bool.and_assoc]
 ·have w3:=zj9 (b:=b) (q:=q) hk
  simp [Wi,yG,zft,w1,w2,w3,hk,hy,h2]
theorem zfs (a:Cl) (x:Pt):zdr a x=(a.hf==x.f||a.kind==2&&a.filter==x.f):=by
 by_cases hk:a.kind=2 <;> simp [zdr,yG,hk]
theorem zqp {a b:Cl} (h:b.kind≠2):zft a b 3=false:=by simp [zft,bounds,h]
theorem zgw {a b:Cl} (ha:OkC a) (hb:OkC b):zf7 a b=!(badM a b 1 1||badM a b 1 2||badM a b 1 3||badM a b 2 1||badM a b 2 2||badM a b 2 3||badM a b 3 1||badM a b 3 2||badM a b 3 3):=by
 have m11:meet a 1 b 1=Ye ⟨0,1,a.tf,a.tt⟩ ⟨1,1,b.tf,b.tt⟩:=Vh (by simp [bounds]) (by simp [bounds]) ha.t hb.t
 have m12:meet a 1 b 2=Ye ⟨0,1,a.tf,a.tt⟩ ⟨1,2,b.hf,b.ht⟩:=Vh (by simp [bounds]) (by simp [bounds]) ha.t hb.h
 have m21:meet a 2 b 1=Ye ⟨0,2,a.hf,a.ht⟩ ⟨1,1,b.tf,b.tt⟩:=Vh (by simp [bounds]) (by simp [bounds]) ha.h hb.t
 have m22:meet a 2 b 2=Ye ⟨0,2,a.hf,a.ht⟩ ⟨1,2,b.hf,b.ht⟩:=Vh (by simp [bounds]) (by simp [bounds]) ha.h hb.h
 have ra:(yG 0 a)=[⟨0,1,a.tf,a.tt⟩,⟨0,2,a.hf,a.ht⟩]++(if a.kind==2 then [⟨0,3,a.filter,a.hf⟩] else []):=rfl
 have rb:(yG 1 b)=[⟨1,1,b.tf,b.tt⟩,⟨1,2,b.hf,b.ht⟩]++(if b.kind==2 then [⟨1,3,b.filter,b.hf⟩] else []):=rfl
 have n3:b.kind≠2→∀ p,meet a p b 3=false:=fun h p=>znR (.inr (by simp [bounds,h]))
 have n3':a.kind≠2→∀ q,meet a 3 b q=false:=fun h q=>znR (.inl (by simp [bounds,h]))
 have m13:b.kind=2→meet a 1 b 3=Ye ⟨0,1,a.tf,a.tt⟩ ⟨1,3,b.filter,b.hf⟩:=fun h=>Vh (by simp [bounds]) (by simp [bounds,h]) ha.t (hb.f h).2
 have m23:b.kind=2→meet a 2 b 3=Ye ⟨0,2,a.hf,a.ht⟩ ⟨1,3,b.filter,b.hf⟩:=fun h=>Vh (by simp [bounds]) (by simp [bounds,h]) ha.h (hb.f h).2
 have m31:a.kind=2→meet a 3 b 1=Ye ⟨0,3,a.filter,a.hf⟩ ⟨1,1,b.tf,b.tt⟩:=fun h=>Vh (by simp [bounds,h]) (by simp [bounds]) (ha.f h).2 hb.t
 have m32:a.kind=2→meet a 3 b 2=Ye ⟨0,3,a.filter,a.hf⟩ ⟨1,2,b.hf,b.ht⟩:=fun h=>Vh (by simp [bounds,h]) (by simp [bounds]) (ha.f h).2 hb.h
 have m33:a.kind=2→b.kind=2→meet a 3 b 3=Ye ⟨0,3,a.filter,a.hf⟩ ⟨1,3,b.filter,b.hf⟩:=fun h h'=>Vh (by simp [bounds,h]) (by simp [bounds,h']) (ha.f h).2 (hb.f h').2
 unfold zf7 badM
 cases hs1:a.tf==b.tf <;> cases hs2:a.tt==b.tt <;> by_cases hka:a.kind=2 <;> by_cases hkb:b.kind=2 <;>
  simp [zcb,ra,rb,hka,hkb,zqB,m11,m12,m21,m22,n3,n3',m13,m23,m31,m32,m33,Bool.and_assoc,Bool.or_assoc]
theorem zn6 {a b:Cl} (ha:OkC a) (hb:OkC b):zhg a b=zdm a b:=by
 have e1:=zbN (a:=a) (b:=b) ha (q:=1) (x:=⟨1,1,b.tf,b.tt⟩) (by simp [bounds]) hb.t
 have e2:=zbN (a:=a) (b:=b) ha (q:=2) (x:=⟨1,2,b.hf,b.ht⟩) (by simp [bounds]) hb.h
 have b1:(bounds b 1)=(b.tf,b.tt):=by simp [bounds]
 have b2:(bounds b 2)=(b.hf,b.ht):=by simp [bounds]
 by_cases hk:b.kind=2
 ·have e3:=zbN (a:=a) (b:=b) ha (q:=3) (x:=⟨1,3,b.filter,b.hf⟩) (by simp [bounds,hk]) (hb.f hk).2
  have b3:(bounds b 3)=(b.filter,b.hf):=by simp [bounds,hk]
  rw [zhg,show yG 1 b=[⟨1,1,b.tf,b.tt⟩,⟨1,2,b.hf,b.ht⟩,⟨1,3,b.filter,b.hf⟩] by simp [yG,hk]]
  simp only [zcU,e1,e2,e3,zfs,zdm,zqS,b1,b2,b3,zgw ha hb]
 ·rw [zhg,show yG 1 b=[⟨1,1,b.tf,b.tt⟩,⟨1,2,b.hf,b.ht⟩] by simp [yG,hk]]
  have c3:=zqp (a:=a) hk
  simp only [zcU,e1,e2,zfs,zdm,zqS,b1,b2,c3,zgw ha hb]
  simp
theorem zey {n:Int} {l:List Cl} {k:Nat} (h:Xj n l k=0):XL n (l.getD k default)=0:=by
 unfold Xj at h
 split at h
 ·exact h
 ·rename_i h1;simpa using h1
set_option maxHeartbeats 1000000 in
theorem ziN (n:Int) (l:List Cl):ACall Tryz.prog 296 [pi n,cls l] (.tup [pi (YM n l).1,pi (YM n l).2]):=by
 refine zi zf Tryz.func296 rfl (by kernel_rfl) Tryz.ntmps296 (by simp) _ rfl (fun hw gB hgB=>?_)
 have hl:=znA hw.2.1
 by_cases h6:6 < l.length
 ·repeat' (first|refine sK ?_|refine sC (fun _=>?_) (fun _=>?_)|fail)
  exact retq rfl (by simp [zy,YM,h6])
 ·repeat' (first|refine sK ?_|refine sC (fun _=>?_) (fun _=>?_)|fail)
  refine zW (fun k:Nat=>[(0,.pv (pi n)),(1,.pv (cls l)),(14,.pv (cls l)),(15,.pv (pi l.length)),(16,.pv (pi k))]) (fun _=>[]) (fun k=>k≤l.length∧∀ j,j < k→Xj n l j=0) (fun k=>l.length - k) 0 ⟨by omega,fun j h=>by omega⟩ (tS) tH ?_
  rintro k ⟨hk,hno⟩
  by_cases hlt:k < l.length
  ·have he:=zcl hlt
   have ca:=zl0 n (l.getD k default)
   rw [zmc] at ca
   cases ha:(XL n (l.getD k default) != 0)
   ·have hokk:OkC (l.getD k default):=zbL (n:=n) (by simpa using ha)
    repeat' (first|refine zx rfl (Zu (xs:=l) (f:=ZX) 0 k zf rfl rfl rfl rfl rfl rfl rfl (by omega) (by omega)) rfl rfl ?_|(refine shC ?_;first|refine qC ca ?_)|(refine shX ?_;first|refine qX he ?_)|refine sK ?_|refine sC (fun _=>?_) (fun _=>?_)|fail)
    refine zW (fun m:Nat=>[(0,.pv (pi n)),(1,.pv (cls l)),(6,.pv (pi k)),(7,.box 0 0),(14,.pv (cls l)),(15,.pv (pi l.length)),(16,.pv (pi k)),(30,.pv (cls (l.take k))),(31,.pv (pi k)),(32,.pv (pi m))]) (fun _=>[(0,.cell (.pv (ZX (l.getD k default))))]) (fun m=>m≤k∧Vf l k m=false) (fun m=>k - m) 0 ⟨by omega,rfl⟩ (by repeat (first|exact yZ|refine yS rfl ?_|(refine Zn rfl ?_ ?_;· (simp;omega)))) tH ?_
    rintro m ⟨hm,hpb⟩
    by_cases hltm:m < k
    ·have hem:((l.take k).map ZX)[((m:Nat):Int).toNat]?=some (ZX (l.getD m default)):=by
      simp [List.getElem?_take,hltm,show m < l.length by omega]
     have hps:=zjN l k m
     have hokm:OkC (l.getD m default):=zbL (n:=n) (zey (hno m hltm))
     have cf:=znc (l.getD m default) (l.getD k default)
     rw [zn6 hokm hokk] at cf
     cases hf:zdm (l.getD m default) (l.getD k default)
     ·have hat:Xj n l k=12:=by
       have:Vf l k k=true:=by
        simp only [Vf,List.any_eq_true,List.mem_range]
        exact ⟨m,hltm,by rw [hf];rfl⟩
       unfold Xj;rw [ha];simp [this]
      have hfin:=zg1 h6 hlt hno (by rw [hat];decide)
      clear hps
      rw [hf] at cf
      repeat' (first|(refine shC ?_;first|refine qC cf ?_)|(refine shX ?_;first|refine qX hem ?_)|refine sK ?_|refine sC (fun _=>?_) (fun _=>?_)|fail)
      exact retq rfl (by simp [zy,hfin,hat])
     ·have hpm:Vf l k (m + 1)=false:=by rw [hps,hpb,hf];rfl
      clear hps
      rw [hf] at cf
      repeat' (first|(refine shC ?_;first|refine qC cf ?_)|(refine shX ?_;first|refine qX hem ?_)|refine sK ?_|refine sC (fun _=>?_) (fun _=>?_)|fail)
      exact ⟨m + 1,⟨by omega,hpm⟩,tD,tS,tH⟩
    ·repeat' (first|refine sK ?_|refine sC (fun _=>?_) (fun _=>?_)|fail)
     have:m=k:=by omega
     subst this
     have hat:Xj n l m=0:=by unfold Xj;rw [ha];simp [hpb]
     exact ⟨m + 1,⟨by omega,fun j hj=>by
      by_cases e:j=m
      ·subst e;exact hat
      ·exact hno j (by omega)⟩,tD,tS,tH⟩
   ·have hat:Xj n l k=XL n (l.getD k default):=by unfold Xj;rw [ha];simp
    have hfin:=zg1 h6 hlt hno (by rw [hat];simpa using ha)
    repeat' (first|(refine shC ?_;first|refine qC ca ?_)|(refine shX ?_;first|refine qX he ?_)|refine sK ?_|refine sC (fun _=>?_) (fun _=>?_)|fail)
    exact retq rfl (by simp [zy,hfin,hat])
  ·repeat' (first|refine sK ?_|refine sC (fun _=>?_) (fun _=>?_)|fail)
   have:k=l.length:=by omega
   subst this
   exact retq rfl (by simp [zy,zmd h6 hno])
end Go.Cg
