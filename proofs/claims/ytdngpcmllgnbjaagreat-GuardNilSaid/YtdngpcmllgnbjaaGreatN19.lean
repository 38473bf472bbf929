/- A part of the walks by abstract values: no statement of its own. -/
import Derived.Test.YtdngpcmllgnbjaaGreatN18
import Derived.Test.YtdngpcmllgnbjaaGreatN17
import Derived.Test.YtdngpcmllgnbjaaGreatN8
import Derived.Test.YtdngpcmllgnbjaaGreatN14
set_option linter.unusedVariables false
set_option linter.unusedSimpArgs false
namespace Go.Cg
open Go.Proofs
structure Fm (g:Img):Prop where
 n:g.types.length≤32
 faces:∀ td∈g.types,td.faces.length≤4∧∀ f∈td.faces,0≤f∧f < g.types.length
theorem zfP {g:Img} (h:zK g=true):Fm g :=
 ⟨(zG h).1,fun td hm=>let ⟨_,_,_,_,h5,h6⟩:=Yz ((zG h).2.2.2 td hm);⟨h5,h6⟩⟩
theorem XH {g:Img} {t:Int} {td:TD} (h:typeAt g t=some td):td∈g.types:=by
 unfold typeAt at h
 split at h
 ·exact List.mem_of_getElem? h
 ·cases h
theorem Fm.at {g:Img} (h:Fm g) (t:Int):(zT g t).length≤4∧∀ f∈zT g t,0≤f∧f < g.types.length:=by
 unfold zT
 cases ht:typeAt g t with
 | none=>simp
 | some td=>exact h.faces td (XH ht)
theorem QE {g:Img} {t:Int} (h:0≤t∧t < g.types.length):there g t=true:=by
 obtain ⟨td,htd⟩:=Xn h;exact (YN g t).2 ⟨td,htd⟩
def ZA (g:Img) (t:Int):List Int:=sortL (YF g.types.length (zT g) ((up g t).flatMap (zT g)))
set_option maxHeartbeats 1000000 in
theorem zi1 (g:Img) (t:Int) (hF:Fm g):ACall Tryz.prog 256 [zu g,pi t] (ints (ZA g t)):=by
 refine zf zh Tryz.func256 rfl (by kernel_rfl) Tryz.ntmps256 (by simp) _ rfl (fun hw gB hgB=>?_)
 have hn:=hF.n
 have hui:=zaS g t
 have hul:=qU _ _ hui.1 hui.2
 repeat' (first|(refine shC ?_;first|refine zq rfl (ZB rfl rfl (ZO g t (by omega))) rfl rfl ?_|refine AD.step _ _ _ _ _ rfl (ZB rfl rfl (ZO g t (by omega))) rfl rfl ?_)|refine sA ?_|refine sC (fun _=>?_) (fun _=>?_)|fail)
 refine qZ (t:=5) 0 3 1 (by decide) rfl rfl ?_
 refine zA (fun x:Nat × List Int=>[(2,.pv (.ptr (zu g) 0)),(5,.own 0),(10,.pv (ints (up g t))),(11,.pv (pi (up g t).length)),(12,.pv (pi x.1))]) (fun x=>[(0,.row 3 1 (x.2.map pi))])
  (fun x=>x.1≤(up g t).length∧x.2.length≤4 * x.1∧(∀ y∈x.2,0≤y∧y < g.types.length)∧x.2++((up g t).drop x.1).flatMap (zT g)=(up g t).flatMap (zT g)) (fun x=>(up g t).length - x.1) (0,[]) ⟨by simp,by simp,by simp,rfl⟩ (tS) ⟨zi rfl zk,rfl⟩ ?_
 rintro ⟨k,out⟩ ⟨hk,hol,hrg,hr⟩
 simp only at hk hol hrg hr
 by_cases hlt:k < (up g t).length
 ·have he:=Yd hlt
  obtain ⟨hf1,hf2⟩:=hF.at (up g t)[k]
  rw [drop_cons hlt,List.flatMap_cons] at hr
  repeat' (first|(refine shC ?_;first|refine zq rfl (ZB rfl rfl (QM g _ (by omega) (fun f hf=>QE (hf2 f hf)))) rfl rfl ?_|refine AD.step _ _ _ _ _ rfl (ZB rfl rfl (QM g _ (by omega) (fun f hf=>QE (hf2 f hf)))) rfl rfl ?_)|(refine shX ?_;first|refine qX he ?_)|(refine zI ?_;first|refine yg zh rfl rfl rfl rfl rfl rfl rfl (by show _ * 8≤_;simp;omega) (by simp;omega) rfl rfl ?_)|refine sK ?_|refine sC (fun _=>?_) (fun _=>?_)|fail)
  refine ⟨(k + 1,out++zT g (up g t)[k]),⟨hlt,by simp;omega,?_,by simpa using hr⟩,tD,tS,⟨yS rfl (by simp) zk,rfl⟩⟩
  intro y hy
  simp only [List.mem_append] at hy
  rcases hy with hy|hy
  ·exact hrg y hy
  ·exact hf2 y hy
 ·rw [drop_end (by omega)] at hr
  simp only [List.flatMap_nil,List.append_nil] at hr
  subst hr
  have c1:=zbx g.types.length (by omega) ((up g t).flatMap (zT g)) (zT g) 347 [] [.ptr (zu g) 0] hrg (by omega)
   (fun x h0 h1=>ziN g x (by have:=(hF.at x).1;omega) (fun f hf=>QE ((hF.at x).2 f hf))) (fun x h0 h1=>⟨by have:=(hF.at x).1;omega,(hF.at x).2⟩)
  repeat' (first|(refine shC ?_;first|refine qC c1 ?_)|refine sK ?_|refine sC (fun _=>?_) (fun _=>?_)|fail)
  exact retq rfl rfl
set_option maxHeartbeats 20000000
theorem zbR (s:ByteArray):ACall Tryz.prog 438 [ps s] (pb (Vp s)):=by
 refine zf zh Tryz.func438 rfl (by kernel_rfl) Tryz.ntmps438 (by simp) _ rfl (fun hw gB hgB=>?_)
 have hl:=zpa hw.1
 have he:(s.toList==(⟨#[]⟩:ByteArray).toList)=decide (s.size=0):=by
  rw [ByteArray.toList_eq,ByteArray.toList_eq]
  have hs:s.size=s.data.toList.length:=by simp
  rw [hs]
  cases s.data.toList <;> simp
 have hfin:s.size≠0→s.size≤24→Vp s=s.data.toList.all zok:=fun a b=>by
  unfold Vp;rw [decide_eq_true (by omega),decide_eq_true (by omega)];simp
 repeat' (first|refine sK ?_|refine sC (fun _=>?_) (fun _=>?_)|fail)
 all_goals first
  | (refine retq rfl ?_;simp_all [zl,Vp];done)
  | (refine retq rfl ?_;simp_all [zl,Vp];omega)
  | skip
 refine zA (fun k:Nat=>[(0,.pv (ps s)),(12,.pv (pi s.size)),(13,.pv (pi k))]) (fun _=>[]) (fun k=>k≤s.size∧Vp s=(s.data.toList.drop k).all zok) (fun k=>s.size - k) 0 ⟨by simp,by rw [hfin (by simp_all) (by simp_all <;> omega)];simp⟩ (tS) tH ?_
 rintro k ⟨hk,hr⟩
 by_cases hlt:k < s.size
 ·have hb:=zpf hlt
  rw [zfG (by simpa using hlt)] at hr
  repeat' (first|(refine shI ?_;first|refine zq rfl (zlq zh rfl rfl rfl rfl (by omega) hb) rfl rfl ?_|refine AD.step _ _ _ _ _ rfl (zlq zh rfl rfl rfl rfl (by omega) hb) rfl rfl ?_)|refine sK ?_|refine sC (fun _=>?_) (fun _=>?_)|fail)
  all_goals first
   | exact ⟨k + 1,⟨by omega,by simp_all [zok]⟩,tD,tS,tH⟩
   | (refine retq rfl ?_;simp_all [zl,zok];done)
 ·rw [drop_end (by simp;omega)] at hr
  repeat' (first|refine sK ?_|refine sC (fun _=>?_) (fun _=>?_)|fail)
  all_goals (refine retq rfl ?_;simp_all [zl];done)
theorem zfI (n x:Int):ACall Tryz.prog 437 [pi x,.ptr (pi n) 0] (pb (!zbs n x)):=by
 refine zf zh Tryz.func437 rfl (by kernel_rfl) Tryz.ntmps437 (by simp) _ rfl (fun hw gB hgB=>?_)
 repeat' (first|refine sA ?_|refine sC (fun _=>?_) (fun _=>?_)|fail)
 all_goals (refine retq rfl ?_;simp only [zl,List.cons.injEq,PV.base.injEq,Value.bool.injEq];rw [Bool.eq_iff_iff];simp_all [zbs] <;> omega)
theorem YG (l:List Int) (p:Int→Bool) (f:FuncId) (first cap:List PV) (hp:∀ x∈l,ACall Tryz.prog f (first++[pi x]++cap) (pb (p x))):ACall Tryz.prog 254 [ints l,.fn (.func f) first cap] (pb (l.any p)):=by
 refine zf zh Tryz.func254 rfl (by kernel_rfl) Tryz.ntmps254 (by simp) _ rfl (fun hw gB hgB=>?_)
 have c1:=XT l p f first cap hp
 repeat' (first|(refine shC ?_;first|refine qC c1 ?_)|refine sA ?_|refine sC (fun _=>?_) (fun _=>?_)|fail)
 refine retq rfl ?_
 have:decide (0≤zbj l p)=l.any p:=by
  unfold zbj
  cases h:l.any p <;> simp
 simp [zl,this]
def znq (l:List TD) (p:TD→Bool):Int:=if l.any p then ((l.findIdx p:Nat):Int) else -1
theorem zd5 (l:List TD) (p:TD→Bool) (f:FuncId) (first cap:List PV) (hp:∀ x∈l,ACall Tryz.prog f (first++[qx x]++cap) (pb (p x))):ACall Tryz.prog 449 [.slc 4 (l.map qx) false,.fn (.func f) first cap] (pi (znq l p)):=by
 refine zf zh Tryz.func449 rfl (by kernel_rfl) Tryz.ntmps449 (by simp) _ rfl (fun hw gB hgB=>?_)
 have hl:l.length≤9223372036854775807:=by have:=hw.1;simp [PV.lenOk,lensOk,maxLen] at this;exact this.1
 repeat' (first|refine sA ?_|refine sC (fun _=>?_) (fun _=>?_)|fail)
 refine zA (fun k:Nat=>[(0,.pv (.slc 4 (l.map qx) false)),(1,.pv (.fn (.func f) first cap)),(7,.pv (pi l.length)),(8,.pv (pi k))]) (fun _=>[]) (fun k=>k≤l.length∧∀ j (h:j < k) (h2:j < l.length),p l[j]=false) (fun k=>l.length - k) 0 ⟨by omega,fun j h=>by omega⟩ (tS) tH ?_
 rintro k ⟨hk,hno⟩
 by_cases hlt:k < l.length
 ·have he:=yI (f:=qx) hlt
  have c1:=hp _ (List.getElem_mem hlt)
  cases hpx:p l[k]
  ·rw [hpx] at c1
   repeat' (first|(refine shC ?_;first|refine qV (c1) ?_)|(refine shX ?_;first|refine qX he ?_)|refine sK ?_|refine sC (fun _=>?_) (fun _=>?_)|fail)
   exact ⟨k + 1,⟨hlt,fun j hj h2=>by
    by_cases e:j=k
    ·subst e;exact hpx
    ·exact hno j (by omega) h2⟩,tD,tS,tH⟩
  ·rw [hpx] at c1
   have hi:l.findIdx p=k:=by
    rw [List.findIdx_eq hlt]
    exact ⟨hpx,fun j hj=>hno j hj (by omega)⟩
   have ha:l.any p=true:=List.any_eq_true.2 ⟨_,List.getElem_mem hlt,hpx⟩
   repeat' (first|(refine shC ?_;first|refine qV (c1) ?_)|(refine shX ?_;first|refine qX he ?_)|refine sK ?_|refine sC (fun _=>?_) (fun _=>?_)|fail)
   exact retq rfl (by simp [zl,znq,ha,hi])
 ·have ha:l.any p=false:=by
   rw [List.any_eq_false]
   intro x hx
   obtain ⟨j,hj,rfl⟩:=List.getElem_of_mem hx
   simp [hno j (by omega) hj]
  repeat' (first|refine sK ?_|refine sC (fun _=>?_) (fun _=>?_)|fail)
  exact retq rfl (by simp [zl,znq,ha])
theorem zbC (l:List TD) (p:TD→Bool) (f:FuncId) (first cap:List PV) (hp:∀ x∈l,ACall Tryz.prog f (first++[qx x]++cap) (pb (p x))):ACall Tryz.prog 435 [.slc 4 (l.map qx) false,.fn (.func f) first cap] (pb (l.any p)):=by
 refine zf zh Tryz.func435 rfl (by kernel_rfl) Tryz.ntmps435 (by simp) _ rfl (fun hw gB hgB=>?_)
 have c1:=zd5 l p f first cap hp
 repeat' (first|(refine shC ?_;first|refine qC c1 ?_)|refine sA ?_|refine sC (fun _=>?_) (fun _=>?_)|fail)
 refine retq rfl ?_
 have:decide (0≤znq l p)=l.any p:=by
  unfold znq
  cases h:l.any p <;> simp
 simp [zl,this]
theorem zjB (t:TD) (n:Int):ACall Tryz.prog 436 [qx t,.ptr (pi n) 0] (pb (!ZM t n)):=by
 refine zf zh Tryz.func436 rfl (by kernel_rfl) Tryz.ntmps436 (by simp) _ rfl (fun hw gB hgB=>?_)
 have c1:=YG t.faces (fun x=>!zbs n x) 437 [] [.ptr (pi n) 0] (fun x _=>zfI n x)
 have ha:t.faces.any (fun x=>!zbs n x)=!t.faces.all (zbs n):=by rw [List.not_all_eq_any_not]
 rw [ha] at c1
 repeat' (first|(refine shC ?_;first|refine qC c1 ?_|refine qC (zbR _) ?_)|refine sA ?_|refine sC (fun _=>?_) (fun _=>?_)|fail)
 all_goals first|(refine retq rfl ?_;first|(simp only [zl,ZM,BL,List.length_map] at *;simp only [*,BL,List.length_map];done)|(simp_all [zl,ZM];done)|(simp_all [zl,ZM];omega)|(simp_all [zl,ZM];intros;omega))|(refine zcp rfl ?_;first|(simp only [zl,ZM,BL,List.length_map] at *;simp only [*,BL,List.length_map];done)|(simp_all [zl,ZM];done)|(simp_all [zl,ZM];omega)|(simp_all [zl,ZM];intros;omega))|skip
def Xe (g:Img):Bool:=decide ((g.types.length:Int)≤32)&&g.types.all (fun t=>ZM t g.types.length)
theorem zla (g:Img):ACall Tryz.prog 412 [zu g] (pb (Xe g)):=by
 refine zf zh Tryz.func412 rfl (by kernel_rfl) Tryz.ntmps412 (by simp) _ rfl (fun hw gB hgB=>?_)
 have c1:=zbC g.types (fun t=>!ZM t ((g.types.map qx).length:Nat)) 436 [] [.ptr (pi ((g.types.map qx).length:Nat)) 0] (fun x _=>zjB x _)
 rw [←List.not_all_eq_any_not] at c1
 repeat' (first|refine Vx (t:=3) rfl rfl rfl ?_|(refine shC ?_;first|refine qC c1 ?_)|refine sA ?_|refine sC (fun _=>?_) (fun _=>?_)|fail)
 all_goals first|(refine retq rfl ?_;first|(simp only [zl,Xe,BL,List.length_map] at *;simp only [*,BL,List.length_map];done)|(simp_all [zl,Xe];done)|(simp_all [zl,Xe];omega)|(simp_all [zl,Xe];intros;omega))|(refine zcp rfl ?_;first|(simp only [zl,Xe,BL,List.length_map] at *;simp only [*,BL,List.length_map];done)|(simp_all [zl,Xe];done)|(simp_all [zl,Xe];omega)|(simp_all [zl,Xe];intros;omega))|skip
set_option maxHeartbeats 20000000
def za0 (op:Int):ByteArray × Int × Int :=
 if op==62 then (⟨#[98,111,120]⟩,8,0)
 else if op==63 then (⟨#[117,110,98,111,120]⟩,8,0)
 else if op==64 then (⟨#[117,110,98,111,120,97,110,121]⟩,8,0)
 else if op==65 then (⟨#[99,97,115,116,99,108,97,115,115]⟩,8,0)
 else if op==66 then (⟨#[105,115,105,110,115,116]⟩,8,0)
 else if op==67 then (⟨#[108,100,102,116,110]⟩,6,0)
 else if op==68 then (⟨#[110,101,119,100,101,108]⟩,8,0)
 else if op==69 then (⟨#[116,104,114,111,119]⟩,0,3)
 else if op==70 then (⟨#[114,101,116,104,114,111,119]⟩,0,3)
 else if op==71 then (⟨#[108,101,97,118,101]⟩,5,4)
 else if op==72 then (⟨#[101,110,100,102,105,110,97,108,108,121]⟩,0,5)
 else if op==73 then (⟨#[101,110,100,102,105,108,116,101,114]⟩,0,5)
 else if op==74 then (⟨#[105,110]⟩,0,0)
 else if op==75 then (⟨#[111,117,116]⟩,0,0)
 else (⟨#[]⟩,0,0)
theorem zhx (op:Int):ACall Tryz.prog 411 [pi op] (zbK (za0 op).1 (za0 op).2.1 (za0 op).2.2):=by
 refine zf zh Tryz.func411 rfl (by kernel_rfl) Tryz.ntmps411 (by simp) _ rfl (fun hw gB hgB=>?_)
 repeat' (first|refine sA ?_|refine sC (fun _=>?_) (fun _=>?_)|fail)
 all_goals (refine retq rfl ?_;simp only [zl,za0, *];rfl)
def zbf (op:Int):ByteArray × Int × Int :=
 if op==48 then (⟨#[108,100,102,108,100]⟩,7,0)
 else if op==49 then (⟨#[115,116,102,108,100]⟩,7,0)
 else if op==50 then (⟨#[108,100,102,108,100,97]⟩,7,0)
 else if op==51 then (⟨#[108,100,115,102,108,100]⟩,7,0)
 else if op==52 then (⟨#[115,116,115,102,108,100]⟩,7,0)
 else if op==53 then (⟨#[108,100,115,102,108,100,97]⟩,7,0)
 else if op==54 then (⟨#[108,100,111,98,106]⟩,8,0)
 else if op==55 then (⟨#[115,116,111,98,106]⟩,8,0)
 else if op==56 then (⟨#[105,110,105,116,111,98,106]⟩,8,0)
 else if op==57 then (⟨#[110,101,119,97,114,114]⟩,8,0)
 else if op==58 then (⟨#[108,100,108,101,110]⟩,0,0)
 else if op==59 then (⟨#[108,100,101,108,101,109]⟩,8,0)
 else if op==60 then (⟨#[115,116,101,108,101,109]⟩,8,0)
 else if op==61 then (⟨#[108,100,101,108,101,109,97]⟩,8,0)
 else za0 op
theorem zhu (op:Int):ACall Tryz.prog 397 [pi op] (zbK (zbf op).1 (zbf op).2.1 (zbf op).2.2):=by
 refine zf zh Tryz.func397 rfl (by kernel_rfl) Tryz.ntmps397 (by simp) _ rfl (fun hw gB hgB=>?_)
 repeat' (first|(refine shC ?_;first|refine qC (zhx op) ?_)|refine sA ?_|refine sC (fun _=>?_) (fun _=>?_)|fail)
 all_goals (refine retq rfl ?_;simp only [zl,zbf, *];rfl)
def zdf (op:Int):ByteArray × Int × Int :=
 if op==34 then (⟨#[98,114]⟩,5,1)
 else if op==35 then (⟨#[98,114,116,114,117,101]⟩,5,2)
 else if op==36 then (⟨#[98,114,102,97,108,115,101]⟩,5,2)
 else if op==37 then (⟨#[98,101,113]⟩,5,2)
 else if op==38 then (⟨#[98,103,101]⟩,5,2)
 else if op==39 then (⟨#[98,103,116]⟩,5,2)
 else if op==40 then (⟨#[98,108,101]⟩,5,2)
 else if op==41 then (⟨#[98,108,116]⟩,5,2)
 else if op==42 then (⟨#[98,110,101]⟩,5,2)
 else if op==43 then (⟨#[99,97,108,108]⟩,6,0)
 else if op==44 then (⟨#[99,97,108,108,118,105,114,116]⟩,6,0)
 else if op==45 then (⟨#[110,101,119,111,98,106]⟩,6,0)
 else if op==46 then (⟨#[114,101,116]⟩,0,3)
 else if op==47 then (⟨#[116,97,105,108]⟩,0,0)
 else zbf op
theorem ziT (op:Int):ACall Tryz.prog 358 [pi op] (zbK (zdf op).1 (zdf op).2.1 (zdf op).2.2):=by
 refine zf zh Tryz.func358 rfl (by kernel_rfl) Tryz.ntmps358 (by simp) _ rfl (fun hw gB hgB=>?_)
 repeat' (first|(refine shC ?_;first|refine qC (zhu op) ?_)|refine sA ?_|refine sC (fun _=>?_) (fun _=>?_)|fail)
 all_goals (refine retq rfl ?_;simp only [zl,zdf, *];rfl)
def zgN (op:Int):ByteArray × Int × Int :=
 if op==13 then (⟨#[97,100,100]⟩,0,0)
 else if op==14 then (⟨#[115,117,98]⟩,0,0)
 else if op==15 then (⟨#[109,117,108]⟩,0,0)
 else if op==16 then (⟨#[100,105,118]⟩,0,0)
 else if op==17 then (⟨#[114,101,109]⟩,0,0)
 else if op==18 then (⟨#[97,110,100]⟩,0,0)
 else if op==19 then (⟨#[111,114]⟩,0,0)
 else if op==20 then (⟨#[120,111,114]⟩,0,0)
 else if op==21 then (⟨#[115,104,108]⟩,0,0)
 else if op==22 then (⟨#[115,104,114]⟩,0,0)
 else if op==23 then (⟨#[110,101,103]⟩,0,0)
 else if op==24 then (⟨#[110,111,116]⟩,0,0)
 else if op==25 then (⟨#[97,100,100,111,118,102]⟩,0,0)
 else if op==26 then (⟨#[115,117,98,111,118,102]⟩,0,0)
 else if op==27 then (⟨#[109,117,108,111,118,102]⟩,0,0)
 else if op==28 then (⟨#[99,111,110,118,52]⟩,0,0)
 else if op==29 then (⟨#[99,111,110,118,56]⟩,0,0)
 else if op==30 then (⟨#[99,111,110,118,111,118,102,52]⟩,0,0)
 else if op==31 then (⟨#[99,101,113]⟩,0,0)
 else if op==32 then (⟨#[99,103,116]⟩,0,0)
 else if op==33 then (⟨#[99,108,116]⟩,0,0)
 else zdf op
theorem zkO (op:Int):ACall Tryz.prog 289 [pi op] (zbK (zgN op).1 (zgN op).2.1 (zgN op).2.2):=by
 refine zf zh Tryz.func289 rfl (by kernel_rfl) Tryz.ntmps289 (by simp) _ rfl (fun hw gB hgB=>?_)
 repeat' (first|(refine shC ?_;first|refine qC (ziT op) ?_)|refine sA ?_|refine sC (fun _=>?_) (fun _=>?_)|fail)
 all_goals (refine retq rfl ?_;simp only [zl,zgN, *];rfl)
def ofI (op:Int):ByteArray × Int × Int :=
 if op==1 then (⟨#[110,111,112]⟩,0,0)
 else if op==2 then (⟨#[108,100,97,114,103]⟩,4,0)
 else if op==3 then (⟨#[115,116,97,114,103]⟩,4,0)
 else if op==4 then (⟨#[108,100,97,114,103,97]⟩,4,0)
 else if op==5 then (⟨#[108,100,108,111,99]⟩,3,0)
 else if op==6 then (⟨#[115,116,108,111,99]⟩,3,0)
 else if op==7 then (⟨#[108,100,108,111,99,97]⟩,3,0)
 else if op==8 then (⟨#[108,100,99,52]⟩,1,0)
 else if op==9 then (⟨#[108,100,99,56]⟩,2,0)
 else if op==10 then (⟨#[108,100,110,117,108,108]⟩,0,0)
 else if op==11 then (⟨#[100,117,112]⟩,0,0)
 else if op==12 then (⟨#[112,111,112]⟩,0,0)
 else zgN op
theorem zim (op:Int):ACall Tryz.prog 163 [pi op] (zbK (ofI op).1 (ofI op).2.1 (ofI op).2.2):=by
 refine zf zh Tryz.func163 rfl (by kernel_rfl) Tryz.ntmps163 (by simp) _ rfl (fun hw gB hgB=>?_)
 repeat' (first|(refine shC ?_;first|refine qC (zkO op) ?_)|refine sA ?_|refine sC (fun _=>?_) (fun _=>?_)|fail)
 all_goals (refine retq rfl ?_;simp only [zl,ofI, *];rfl)
set_option maxHeartbeats 20000000
def zdp (t:Ty):Bool :=
 if t.kind==1 then t.index==0&&(t.dims==0&&(t.ref==false&&true))
 else if t.kind==2||t.kind==3||t.kind==4 then decide (0≤t.index)&&decide (t.index≤0)&&decide (0≤t.dims)&&decide (t.dims≤3)
 else if t.kind==5||t.kind==6 then decide (0≤t.index)&&decide (t.index≤31)&&decide (0≤t.dims)&&decide (t.dims≤3)
 else if t.kind==7 then decide (0≤t.index)&&decide (t.index≤7)&&decide (0≤t.dims)&&decide (t.dims≤3)
 else false
theorem zgz (t:Ty):zdp t=Zf t:=by
 rw [Bool.eq_iff_iff,zdp,Zf]
 by_cases h1:t.kind=1
 ·cases hr:t.ref <;> simp [h1] <;> omega
 ·by_cases h2:t.kind=2
  ·simp [h2];omega
  ·by_cases h3:t.kind=3
   ·simp [h3];omega
   ·by_cases h4:t.kind=4
    ·simp [h4];omega
    ·by_cases h5:t.kind=5
     ·simp [h5];omega
     ·by_cases h6:t.kind=6
      ·simp [h6];omega
      ·by_cases h7:t.kind=7
       ·simp [h7];omega
       ·simp [h1,h2,h3,h4,h5,h6,h7]
theorem zdS (t:Ty):ACall Tryz.prog 404 [yA t] (pb (zdp t)):=by
 refine zf zh Tryz.func404 rfl (by kernel_rfl) Tryz.ntmps404 (by simp) _ rfl (fun hw gB hgB=>?_)
 repeat' (first|refine sA ?_|refine sC (fun _=>?_) (fun _=>?_)|fail)
 all_goals first|(refine retq rfl ?_;first|(simp only [zl,zdp, *];done)|(simp only [zl,zdp, *];rfl)|(simp_all [zl,zdp];done))|(trace "LEFT";trace_state)
theorem WG (t:Ty):ACall Tryz.prog 360 [yA t] (pb (Zf t)):=by
 refine zf zh Tryz.func360 rfl (by kernel_rfl) Tryz.ntmps360 (by simp) _ rfl (fun hw gB hgB=>?_)
 have c1:=zdS t
 rw [zgz] at c1
 repeat' (first|(refine shC ?_;first|refine qC c1 ?_)|refine sA ?_|refine sC (fun _=>?_) (fun _=>?_)|fail)
 exact retq rfl rfl
theorem zjJ (t:Ty):ACall Tryz.prog 469 [yA t] (pb (Zo t 2)):=by
 refine zf zh Tryz.func469 rfl (by kernel_rfl) Tryz.ntmps469 (by simp) _ rfl (fun hw gB hgB=>?_)
 have c1:=zdS t
 rw [zgz] at c1
 repeat' (first|(refine shC ?_;first|refine qC c1 ?_)|refine sA ?_|refine sC (fun _=>?_) (fun _=>?_)|fail)
 all_goals (refine retq rfl ?_;simp_all [zl,Zo];done)
theorem zdJ (t:Ty):ACall Tryz.prog 463 [yA t] (pb (Zo t 1)):=by
 refine zf zh Tryz.func463 rfl (by kernel_rfl) Tryz.ntmps463 (by simp) _ rfl (fun hw gB hgB=>?_)
 have c1:=zjJ t
 have e:(Zo t 2&&!t.ref)=Zo t 1:=by
  simp only [Zo];cases Zf t <;> simp
 repeat' (first|(refine shC ?_;first|refine qC c1 ?_)|refine sA ?_|refine sC (fun _=>?_) (fun _=>?_)|fail)
 all_goals (refine retq rfl ?_;rw [←e];simp_all [zl];done)
theorem Vm (t:Ty) (n:Int):ACall Tryz.prog 451 [yA t,pi n] (pb (zfR t n)):=by
 refine zf zh Tryz.func451 rfl (by kernel_rfl) Tryz.ntmps451 (by simp) _ rfl (fun hw gB hgB=>?_)
 repeat' (first|refine sA ?_|refine sC (fun _=>?_) (fun _=>?_)|fail)
 all_goals (first|refine retq rfl ?_|refine zcp rfl ?_)
 all_goals (first|(simp_all [zl,zfR];done)|(simp_all [zl,zfR];omega))
theorem zjZ (t:Ty) (n:Int):ACall Tryz.prog 453 [yA t,pi n] (pb (QD t 2 n)):=by
 refine zf zh Tryz.func453 rfl (by kernel_rfl) Tryz.ntmps453 (by simp) _ rfl (fun hw gB hgB=>?_)
 repeat' (first|(refine shC ?_;first|refine qC (WG t) ?_|refine qC (Vm t n) ?_)|refine sA ?_|refine sC (fun _=>?_) (fun _=>?_)|fail)
 all_goals (refine retq rfl ?_;simp_all [zl,QD,Zo];done)
theorem zh8 (t:Ty) (n:Int):ACall Tryz.prog 454 [yA t,pi n] (pb (QD t 3 n)):=by
 refine zf zh Tryz.func454 rfl (by kernel_rfl) Tryz.ntmps454 (by simp) _ rfl (fun hw gB hgB=>?_)
 repeat' (first|(refine shC ?_;first|refine qC (WG t) ?_|refine qC (Vm t n) ?_)|refine sA ?_|refine sC (fun _=>?_) (fun _=>?_)|fail)
 all_goals (refine retq rfl ?_;simp_all [zl,QD,Zo];done)
set_option maxHeartbeats 20000000
theorem zg2 (op:Int) (h1:1≤op) (h2:op≤75):(ofI op).1.size≠0∧(ofI op).2.1=yC op:=by
 have h:∀ n:Fin 76,1≤n.val→(ofI (n.val:Int)).1.size≠0∧(ofI (n.val:Int)).2.1=yC (n.val:Int):=by decide +kernel
 have:=h ⟨op.toNat,by omega⟩ (by simp;omega)
 simpa [Int.toNat_of_nonneg (show 0≤op by omega)] using this
theorem zpe (op:Int) (h:op < 1∨75 < op):ofI op=(⟨#[]⟩,0,0):=by
 have e:∀ k:Int,1≤k→k≤75→(op==k)=false:=fun k h1 h2=>by rw [beq_eq_false_iff_ne];omega
 simp [ofI,zgN,zdf,zbf,za0,e]
theorem zmZ (s:ByteArray):(s.toList==(⟨#[]⟩:ByteArray).toList)=decide (s.size=0):=by
 rw [ByteArray.toList_eq,ByteArray.toList_eq]
 have hs:s.size=s.data.toList.length:=by simp
 rw [hs]
 cases s.data.toList <;> simp
theorem zen (op:Int) (h1:1≤op) (h2:op≤75):ACall Tryz.prog 81 [pi op] (.tup [zbK (ofI op).1 (ofI op).2.1 (ofI op).2.2,pi 0]):=by
 refine zf zh Tryz.func81 rfl (by kernel_rfl) Tryz.ntmps81 (by simp) _ rfl (fun hw gB hgB=>?_)
 have c1:=zim op
 have hn:=(zg2 op h1 h2).1
 generalize ofI op=x at c1 hn
 have he:(x.1.toList==(⟨#[]⟩:ByteArray).toList)=false:=by rw [zmZ];simp [hn]
 repeat' (first|(refine shC ?_;first|refine qC c1 ?_)|refine sK ?_|refine sC (fun _=>?_) (fun _=>?_)|fail)
 all_goals exact retq rfl rfl
theorem zi2 (op:Int) (h:op < 1∨75 < op):ACall Tryz.prog 81 [pi op] (.tup [zbK ⟨#[]⟩ 0 0,pi 3]):=by
 refine zf zh Tryz.func81 rfl (by kernel_rfl) Tryz.ntmps81 (by simp) _ rfl (fun hw gB hgB=>?_)
 have c1:=zim op
 rw [zpe op h] at c1
 have he:((⟨#[]⟩:ByteArray).toList==(⟨#[]⟩:ByteArray).toList)=true:=by simp
 repeat' (first|(refine shC ?_;first|refine qC c1 ?_)|refine sK ?_|refine sC (fun _=>?_) (fun _=>?_)|fail)
 all_goals exact retq rfl rfl
theorem zj5 (x b:Int):ACall Tryz.prog 485 [.base (.int .i64 x),.base (.int .i64 b)] (pb (decide (0≤x)&&decide (x < b))):=by
 refine zf zh Tryz.func485 rfl (by kernel_rfl) Tryz.ntmps485 (by simp) _ rfl (fun hw gB hgB=>?_)
 repeat' (first|refine sA ?_|refine sC (fun _=>?_) (fun _=>?_)|fail)
 all_goals (refine retq rfl ?_;first|(simp_all [zl];done)|(simp_all [zl];omega))
def zfx (x:Ins) (k:Int):Bool :=
 if k==0 then zcs x.t&&x.arg==0
 else if k==1 then zcs x.t&&decide (-2147483648≤x.arg)&&decide (x.arg < 2147483648)
 else if k==2 then zcs x.t
 else if k==3 then zcs x.t&&(decide (0≤x.arg)&&decide (x.arg < 12))
 else if k==4 then zcs x.t&&(decide (0≤x.arg)&&decide (x.arg < 7))
 else if k==5 then zcs x.t&&(decide (0≤x.arg)&&decide (x.arg < 160))
 else if k==6 then zcs x.t&&(decide (0≤x.arg)&&decide (x.arg < 64))
 else if k==7 then zcs x.t&&(decide (0≤x.arg)&&decide (x.arg < 64))
 else x.arg==0&&Zf x.t&&x.t.kind != 1&&!x.t.ref
theorem zkD (x:Ins) (k:Int):ACall Tryz.prog 473 [yT x,pi k] (pb (zfx x k)):=by
 refine zf zh Tryz.func473 rfl (by kernel_rfl) Tryz.ntmps473 (by simp) _ rfl (fun hw gB hgB=>?_)
 repeat' (first|(refine shC ?_;first|refine qC (zj5 _ _) ?_|refine qC (WG _) ?_)|refine sA ?_|refine sC (fun _=>?_) (fun _=>?_)|fail)
 all_goals first|(refine retq rfl ?_;first|(simp only [zl,zfx,zcs, *];done)|(simp only [zl,zfx,zcs, *];rfl)|(simp_all [zl,zfx,zcs];done))|(trace "LEFT";trace_state)
set_option maxHeartbeats 20000000
def zeQ (x:Ins):Int:=if x.op < 1∨75 < x.op then 3 else if zfx x (yC x.op) then 0 else 17
theorem zkL (x:Ins):ACall Tryz.prog 466 [yT x] (pi (zeQ x)):=by
 refine zf zh Tryz.func466 rfl (by kernel_rfl) Tryz.ntmps466 (by simp) _ rfl (fun hw gB hgB=>?_)
 by_cases hop:x.op < 1∨75 < x.op
 ·have c1:=zi2 x.op hop
  repeat' (first|(refine shC ?_;first|refine qC c1 ?_)|refine sK ?_|refine sC (fun _=>?_) (fun _=>?_)|fail)
  all_goals exact retq rfl (by simp [zl,zeQ,hop])
 ·have c1:=zen x.op (by omega) (by omega)
  rw [(zg2 x.op (by omega) (by omega)).2] at c1
  repeat' (first|(refine shC ?_;first|refine qC c1 ?_|refine qC (zkD _ _) ?_)|refine sA ?_|refine sC (fun _=>?_) (fun _=>?_)|fail)
  all_goals (refine retq rfl ?_;simp_all [zl,zeQ];done)
theorem zd8 (op:Int) (h1:1≤op) (h2:op≤75):0≤yC op∧yC op≤8:=by
 have h:∀ n:Fin 76,1≤n.val→0≤yC (n.val:Int)∧yC (n.val:Int)≤8:=by decide +kernel
 have:=h ⟨op.toNat,by omega⟩ (by simp;omega)
 simpa [Int.toNat_of_nonneg (show 0≤op by omega)] using this
def zco (x:Ins):Prop := -9223372036854775808≤x.arg∧x.arg≤9223372036854775807
theorem zjS (t:Ty):zcs t=decide (t=ty0):=XZ t ty0
theorem zm3 (x:Ins) (hx:zco x):zeQ x=WQ x:=by
 unfold zeQ WQ
 obtain ⟨hx1,hx2⟩:=hx
 by_cases hop:x.op < 1∨75 < x.op
 ·rw [if_pos hop,if_pos hop]
 ·rw [if_neg hop,if_neg hop]
  obtain ⟨r1,r2⟩:=zd8 x.op (by omega) (by omega)
  generalize yC x.op=k at r1 r2
  have hk:k=0∨k=1∨k=2∨k=3∨k=4∨k=5∨k=6∨k=7∨k=8:=by omega
  by_cases ht:x.t=ty0
  ·rcases hk with rfl|rfl|rfl|rfl|rfl|rfl|rfl|rfl|rfl <;> simp only [zfx,zhI,zjS,ht] <;> simp [ty0,Zf,Zo] <;> (first|omega|(split <;> split <;> first|rfl|omega))
  ·rcases hk with rfl|rfl|rfl|rfl|rfl|rfl|rfl|rfl|rfl <;> simp only [zfx,zhI,zjS,ht] <;> simp [ht,Zo] <;> (first|omega|(by_cases ha:x.arg=0 <;> cases hp:Zf x.t <;> by_cases hk1:x.t.kind=1 <;> cases hr:x.t.ref <;> simp_all <;> omega))
theorem zks (x:Ins) (g:Img) (m:Me) (hx:zco x):ACall Tryz.prog 457 [yT x,zu g,pi m.code.length] (pb (codeOk g m x)):=by
 refine zf zh Tryz.func457 rfl (by kernel_rfl) Tryz.ntmps457 (by simp) _ rfl (fun hw gB hgB=>?_)
 have c0:=zkL x
 rw [zm3 x hx] at c0
 by_cases hf:WQ x=0
 ·have hop:¬ (x.op < 1∨75 < x.op):=by
   intro h;rw [WQ,if_pos h] at hf;simp at hf
  have c1:=zen x.op (by omega) (by omega)
  rw [(zg2 x.op (by omega) (by omega)).2] at c1
  rw [hf] at c0
  have hown:yC x.op≠8→x.t=ty0:=by
   intro h8
   rw [WQ,if_neg hop] at hf
   split at hf
   ·simp at hf
   ·split at hf
    ·simp at hf
    ·rename_i h;exact Classical.byContradiction fun h9=>h ⟨h8,h9⟩
  repeat' (first|(refine shC ?_;first|refine qC c0 ?_|refine qC c1 ?_|refine qC (Vm _ _) ?_)|refine sA ?_|refine sC (fun _=>?_) (fun _=>?_)|fail)
  all_goals (refine retq rfl ?_)
  all_goals simp only [zl,List.length_map,codeOk,hf, *]
  ·rfl
  ·rfl
  ·rfl
  ·by_cases h8:yC x.op=8
   ·simp [h8]
   ·simp [h8,hown h8,zfR,ty0]
 ·have hfb:(WQ x != 0)=true:=by simp [hf]
  repeat' (first|(refine shC ?_;first|refine qC c0 ?_)|refine sK ?_|refine sC (fun _=>?_) (fun _=>?_)|fail)
  all_goals exact retq rfl (by simp [zl,codeOk,hf])
set_option maxHeartbeats 20000000
structure Pt where
 c:Int
 p:Int
 f:Int
 t:Int
 deriving Inhabited
def zU (x:Pt):PV:=.agg [pi x.c,pi x.p,pi x.f,pi x.t]
def znt (f t:Int):PV:=.agg [pi f,pi t]
def pts (l:List Pt):PV:=.slc 4 (l.map zU) false
def zS (k:Int) (c:Cl):List Pt:=[⟨k,1,c.tf,c.tt⟩,⟨k,2,c.hf,c.ht⟩]++(if c.kind==2 then [⟨k,3,c.filter,c.hf⟩] else [])
theorem zb1 (f t n:Int):ACall Tryz.prog 474 [znt f t,pi n] (pb (decide (0≤f)&&decide (f < t)&&decide (t≤n))):=by
 refine zf zh Tryz.func474 rfl (by kernel_rfl) Tryz.ntmps474 (by simp) _ rfl (fun hw gB hgB=>?_)
 repeat' (first|refine sA ?_|refine sC (fun _=>?_) (fun _=>?_)|fail)
 all_goals first|(refine retq rfl ?_;first|(simp only [zl,BL,List.length_map] at *;simp only [*,BL,List.length_map];done)|(simp_all [zl];done)|(simp_all [zl];omega)|(simp_all [zl];intros;omega))|(refine zcp rfl ?_;first|(simp only [zl,BL,List.length_map] at *;simp only [*,BL,List.length_map];done)|(simp_all [zl];done)|(simp_all [zl];omega)|(simp_all [zl];intros;omega))|skip
def Yj (a b:Pt):Bool:=!(a.f==b.f&&(a.t==b.t&&true))&&decide (b.f≤a.f)&&decide (a.t≤b.t)
theorem zh4 (a b:Pt):ACall Tryz.prog 479 [znt a.f a.t,znt b.f b.t] (pb (Yj a b)):=by
 refine zf zh Tryz.func479 rfl (by kernel_rfl) Tryz.ntmps479 (by simp) _ rfl (fun hw gB hgB=>?_)
 repeat' (first|refine sA ?_|refine sC (fun _=>?_) (fun _=>?_)|fail)
 all_goals (refine retq rfl ?_;first|(simp only [zl,Yj, *];done)|(simp only [zl,Yj, *];rfl)|(simp_all [zl,Yj];done))
def Ze (a b:Pt):Bool:=decide (a.f < b.t)&&decide (b.f < a.t)
theorem zjA (a b:Pt):ACall Tryz.prog 488 [znt a.f a.t,znt b.f b.t] (pb (Ze a b)):=by
 refine zf zh Tryz.func488 rfl (by kernel_rfl) Tryz.ntmps488 (by simp) _ rfl (fun hw gB hgB=>?_)
 repeat' (first|refine sA ?_|refine sC (fun _=>?_) (fun _=>?_)|fail)
 all_goals (refine retq rfl ?_;first|(simp only [zl,Ze, *];done)|(simp only [zl,Ze, *];rfl)|(simp_all [zl,Ze];done))
def zoy (l:List Pt) (p:Pt→Bool):Int:=if l.any p then ((l.findIdx p:Nat):Int) else -1
theorem zd4 (l:List Pt) (p:Pt→Bool) (f:FuncId) (first cap:List PV) (hp:∀ x∈l,ACall Tryz.prog f (first++[zU x]++cap) (pb (p x))):ACall Tryz.prog 489 [pts l,.fn (.func f) first cap] (pi (zoy l p)):=by
 refine zf zh Tryz.func489 rfl (by kernel_rfl) Tryz.ntmps489 (by simp) _ rfl (fun hw gB hgB=>?_)
 have hl:l.length≤9223372036854775807:=by have:=hw.1;simp [pts,PV.lenOk,maxLen] at this;exact this.1
 repeat' (first|refine sA ?_|refine sC (fun _=>?_) (fun _=>?_)|fail)
 refine zA (fun k:Nat=>[(0,.pv (pts l)),(1,.pv (.fn (.func f) first cap)),(7,.pv (pi l.length)),(8,.pv (pi k))]) (fun _=>[]) (fun k=>k≤l.length∧∀ j (h:j < k) (h2:j < l.length),p l[j]=false) (fun k=>l.length - k) 0 ⟨by omega,fun j h=>by omega⟩ (tS) tH ?_
 rintro k ⟨hk,hno⟩
 by_cases hlt:k < l.length
 ·have he:=yI (f:=zU) hlt
  have c1:=hp _ (List.getElem_mem hlt)
  cases hpx:p l[k]
  ·rw [hpx] at c1
   repeat' (first|(refine shC ?_;first|refine qV (c1) ?_)|(refine shX ?_;first|refine qX he ?_)|refine sK ?_|refine sC (fun _=>?_) (fun _=>?_)|fail)
   exact ⟨k + 1,⟨hlt,fun j hj h2=>by
    by_cases e:j=k
    ·subst e;exact hpx
    ·exact hno j (by omega) h2⟩,tD,tS,tH⟩
  ·rw [hpx] at c1
   have hi:l.findIdx p=k:=by
    rw [List.findIdx_eq hlt]
    exact ⟨hpx,fun j hj=>hno j hj (by omega)⟩
   have ha:l.any p=true:=List.any_eq_true.2 ⟨_,List.getElem_mem hlt,hpx⟩
   repeat' (first|(refine shC ?_;first|refine qV (c1) ?_)|(refine shX ?_;first|refine qX he ?_)|refine sK ?_|refine sC (fun _=>?_) (fun _=>?_)|fail)
   exact retq rfl (by simp [zl,zoy,ha,hi])
 ·have ha:l.any p=false:=by
   rw [List.any_eq_false]
   intro x hx
   obtain ⟨j,hj,rfl⟩:=List.getElem_of_mem hx
   simp [hno j (by omega) hj]
  repeat' (first|refine sK ?_|refine sC (fun _=>?_) (fun _=>?_)|fail)
  exact retq rfl (by simp [zl,zoy,ha])
theorem ZH (l:List Pt) (p:Pt→Bool) (f:FuncId) (first cap:List PV) (hp:∀ x∈l,ACall Tryz.prog f (first++[zU x]++cap) (pb (p x))):ACall Tryz.prog 477 [pts l,.fn (.func f) first cap] (pb (l.any p)):=by
 refine zf zh Tryz.func477 rfl (by kernel_rfl) Tryz.ntmps477 (by simp) _ rfl (fun hw gB hgB=>?_)
 have c1:=zd4 l p f first cap hp
 repeat' (first|(refine shC ?_;first|refine qC c1 ?_)|refine sA ?_|refine sC (fun _=>?_) (fun _=>?_)|fail)
 refine retq rfl ?_
 have:decide (0≤zoy l p)=l.any p:=by
  unfold zoy
  cases h:l.any p <;> simp
 simp [zl,this]
theorem zhb (a b:Pt) (may:Pt→Pt→Bool) (mf:FuncId) (hm:∀ x y,ACall Tryz.prog mf [zU x,zU y] (pb (may x y))):ACall Tryz.prog 487 [zU b,.ptr (zU a) 0,.ptr (.fn (.func mf) [] []) 0] (pb (Ze a b&&!may a b)):=by
 refine zf zh Tryz.func487 rfl (by kernel_rfl) Tryz.ntmps487 (by simp) _ rfl (fun hw gB hgB=>?_)
 repeat' (first|(refine shC ?_;first|refine qC (zjA a b) ?_|refine qV (hm a b) ?_)|refine sA ?_|refine sC (fun _=>?_) (fun _=>?_)|fail)
 all_goals (refine retq rfl ?_;simp_all [zl];done)
theorem zjz (a:Pt) (m:List Pt) (may:Pt→Pt→Bool) (mf:FuncId) (hm:∀ x y,ACall Tryz.prog mf [zU x,zU y] (pb (may x y))):ACall Tryz.prog 486 [zU a,.ptr (pts m) 0,.ptr (.fn (.func mf) [] []) 0] (pb (m.any fun b=>Ze a b&&!may a b)):=by
 refine zf zh Tryz.func486 rfl (by kernel_rfl) Tryz.ntmps486 (by simp) _ rfl (fun hw gB hgB=>?_)
 have c1:=ZH m (fun b=>Ze a b&&!may a b) 487 [] [.ptr (zU a) 0,.ptr (.fn (.func mf) [] []) 0] (fun b _=>zhb a b may mf hm)
 repeat' (first|(refine shC ?_;first|refine qC c1 ?_)|refine sA ?_|refine sC (fun _=>?_) (fun _=>?_)|fail)
 exact retq rfl rfl
def zaT (l m:List Pt) (may:Pt→Pt→Bool):Bool:=l.any fun a=>m.any fun b=>Ze a b&&!may a b
theorem zbU (l m:List Pt) (may:Pt→Pt→Bool) (mf:FuncId) (hm:∀ x y,ACall Tryz.prog mf [zU x,zU y] (pb (may x y))):ACall Tryz.prog 475 [pts l,pts m,.fn (.func mf) [] []] (pb (zaT l m may)):=by
 refine zf zh Tryz.func475 rfl (by kernel_rfl) Tryz.ntmps475 (by simp) _ rfl (fun hw gB hgB=>?_)
 have c1:=ZH l (fun a=>m.any fun b=>Ze a b&&!may a b) 486 [] [.ptr (pts m) 0,.ptr (.fn (.func mf) [] []) 0] (fun a _=>zjz a m may mf hm)
 repeat' (first|(refine shC ?_;first|refine qC c1 ?_)|refine sA ?_|refine sC (fun _=>?_) (fun _=>?_)|fail)
 exact retq rfl rfl
theorem WI (k:Int) (c:Cl):ACall Tryz.prog 367 [pi k,Yr c] (pts (zS k c)):=by
 refine zf zh Tryz.func367 rfl (by kernel_rfl) Tryz.ntmps367 (by simp) _ rfl (fun hw gB hgB=>?_)
 rcases Bool.eq_false_or_eq_true (c.kind==2) with hk|hk
 ·have e:pts (zS k c)=.slc 4 [zU ⟨k,1,c.tf,c.tt⟩,zU ⟨k,2,c.hf,c.ht⟩,zU ⟨k,3,c.filter,c.hf⟩] false:=by simp [pts,zS,hk]
  repeat' (first|(refine zI ?_;first|refine zq rfl (YA zh rfl rfl (.inl rfl) rfl rfl (by show _ * 32≤_;simp) (by simp)) rfl rfl ?_)|refine sK ?_|refine sC (fun _=>?_) (fun _=>?_)|fail)
  exact retq rfl (by rw [e];rfl)
 ·have e:pts (zS k c)=.slc 4 [zU ⟨k,1,c.tf,c.tt⟩,zU ⟨k,2,c.hf,c.ht⟩] false:=by simp [pts,zS,hk]
  repeat' (first|refine sK ?_|refine sC (fun _=>?_) (fun _=>?_)|fail)
  exact Zz (t:=4) (a:=.pv (.slc 4 [zU ⟨k,1,c.tf,c.tt⟩,zU ⟨k,2,c.hf,c.ht⟩] true)) (b:=.pv (pts (zS k c))) (ps:=[pts (zS k c)]) rfl (by rw [e];exact Qg 4 _ true) rfl rfl
theorem zij (a b:Pt):ACall Tryz.prog 476 [zU a,zU b] (pb (a.c==b.c&&(a.p==b.p&&true))):=by
 refine zf zh Tryz.func476 rfl (by kernel_rfl) Tryz.ntmps476 (by simp) _ rfl (fun hw gB hgB=>?_)
 repeat' (first|refine sA ?_|refine sC (fun _=>?_) (fun _=>?_)|fail)
 exact retq rfl rfl
theorem zj6 (y x:Pt):ACall Tryz.prog 478 [zU y,.ptr (zU x) 0] (pb (!Yj y x)):=by
 refine zf zh Tryz.func478 rfl (by kernel_rfl) Tryz.ntmps478 (by simp) _ rfl (fun hw gB hgB=>?_)
 repeat' (first|(refine shC ?_;first|refine qC (zh4 y x) ?_)|refine sA ?_|refine sC (fun _=>?_) (fun _=>?_)|fail)
 exact retq rfl rfl
theorem zko (y x:Pt):ACall Tryz.prog 480 [zU y,.ptr (zU x) 0] (pb (y.p != 1&&y.f==x.f)):=by
 refine zf zh Tryz.func480 rfl (by kernel_rfl) Tryz.ntmps480 (by simp) _ rfl (fun hw gB hgB=>?_)
 repeat' (first|refine sA ?_|refine sC (fun _=>?_) (fun _=>?_)|fail)
 all_goals (refine retq rfl ?_;simp_all [zl];done)
theorem zk4 (x y:Pt):ACall Tryz.prog 481 [zU x,zU y] (pb (x.p==1&&y.p==1)):=by
 refine zf zh Tryz.func481 rfl (by kernel_rfl) Tryz.ntmps481 (by simp) _ rfl (fun hw gB hgB=>?_)
 repeat' (first|refine sA ?_|refine sC (fun _=>?_) (fun _=>?_)|fail)
 all_goals (refine retq rfl ?_;simp_all [zl];done)
theorem zk0 (x y:Pt):ACall Tryz.prog 482 [zU x,zU y] (pb false):=by
 refine zf zh Tryz.func482 rfl (by kernel_rfl) Tryz.ntmps482 (by simp) _ rfl (fun hw gB hgB=>?_)
 repeat' (first|refine sA ?_|refine sC (fun _=>?_) (fun _=>?_)|fail)
 exact retq rfl rfl
def zn2 (a b:Pt):Bool:=a.c==b.c&&(a.p==b.p&&true)
def zoz (x y:Pt):Bool:=x.p==1&&y.p==1
def VY (n:Int) (c:Cl):Int :=
 if decide (c.kind < 1)||decide (4 < c.kind)||!zeV n c||!zeO n c then 3
 else if c.kind==2&&(decide (c.filter < 0)||decide (c.hf≤c.filter))||c.kind != 2&&c.filter != -1 then 3
 else if zaT (zS 0 c) (zS 0 c) zn2 then 12
 else 0
set_option maxHeartbeats 4000000 in
theorem zjN (n:Int) (c:Cl):ACall Tryz.prog 467 [pi n,Yr c] (pi (VY n c)):=by
 refine zf zh Tryz.func467 rfl (by kernel_rfl) Tryz.ntmps467 (by simp) _ rfl (fun hw gB hgB=>?_)
 have c1:=zb1 c.tf c.tt n
 have c2:=zb1 c.hf c.ht n
 have c3:=zbU (zS 0 c) (zS 0 c) zn2 476 zij
 have e1:(decide (0≤c.tf)&&decide (c.tf < c.tt)&&decide (c.tt≤n))=zeV n c:=rfl
 have e2:(decide (0≤c.hf)&&decide (c.hf < c.ht)&&decide (c.ht≤n))=zeO n c:=rfl
 rw [e1] at c1
 rw [e2] at c2
 repeat' (first|(refine shC ?_;first|refine qC c1 ?_|refine qC c2 ?_|refine qC (WI 0 c) ?_|refine qC c3 ?_)|refine sA ?_|refine sC (fun _=>?_) (fun _=>?_)|fail)
 all_goals (refine retq rfl ?_;first|(simp only [zl,VY, *];done)|(simp only [zl,VY, *];rfl)|(simp_all [zl,VY];done)|(simp_all [zl,VY];omega))
def QW (a:Cl) (x:Pt):Bool:=!((zS 0 a).any fun y=>!Yj y x)
def zcH (a:Cl) (x:Pt):Bool:=(zS 0 a).any fun y=>y.p != 1&&y.f==x.f
def zec (a b:Cl):Bool :=
 if a.tf==b.tf&&(a.tt==b.tt&&true) then !zaT (zS 0 a) (zS 1 b) zoz else !zaT (zS 0 a) (zS 1 b) (fun _ _=>false)
def zbN (a b:Cl):List Pt→Bool
 | []=>zec a b
 | x::l=>if QW a x then x.p==1||!zcH a x else zbN a b l
def ze1 (a b:Cl):Bool:=zbN a b (zS 1 b)
set_option maxHeartbeats 2000000 in
theorem zj8 (a b:Cl):ACall Tryz.prog 468 [Yr a,Yr b] (pb (ze1 a b)):=by
 refine zf zh Tryz.func468 rfl (by kernel_rfl) Tryz.ntmps468 (by simp) _ rfl (fun hw gB hgB=>?_)
 have hlen:(zS 1 b).length≤3:=by unfold zS;split <;> simp
 have h0a:((zS 0 a).map zU)[(0:Int).toNat]?=some (zU ⟨0,1,a.tf,a.tt⟩):=by simp [zS]
 have h0b:((zS 1 b).map zU)[(0:Int).toNat]?=some (zU ⟨1,1,b.tf,b.tt⟩):=by simp [zS]
 have ce:=zbU (zS 0 a) (zS 1 b) zoz 481 zk4
 have cf:=zbU (zS 0 a) (zS 1 b) (fun _ _=>false) 482 zk0
 repeat' (first|(refine shC ?_;first|refine qC (WI 0 a) ?_|refine qC (WI 1 b) ?_)|refine sA ?_|refine sC (fun _=>?_) (fun _=>?_)|fail)
 refine zA (fun k:Nat=>[(5,.pv (pts (zS 0 a))),(6,.pv (pts (zS 1 b))),(14,.pv (pts (zS 1 b))),(15,.pv (pi (zS 1 b).length)),(16,.pv (pi k))]) (fun _=>[]) (fun k=>k≤(zS 1 b).length∧ze1 a b=zbN a b ((zS 1 b).drop k)) (fun k=>(zS 1 b).length - k) 0 ⟨by omega,rfl⟩ (tS) tH ?_
 rintro k ⟨hk,hr⟩
 by_cases hlt:k < (zS 1 b).length
 ·have he:=yI (f:=zU) hlt
  rw [drop_cons hlt,zbN] at hr
  generalize (zS 1 b)[k]=x at he hr
  have c1:=ZH (zS 0 a) (fun y=>!Yj y x) 478 [] [.ptr (zU x) 0] (fun y _=>zj6 y x)
  have c2:=ZH (zS 0 a) (fun y=>y.p != 1&&y.f==x.f) 480 [] [.ptr (zU x) 0] (fun y _=>zko y x)
  cases ha:(zS 0 a).any fun y=>!Yj y x
  ·rw [ha] at c1
   rw [show QW a x=true by rw [QW,ha];rfl,if_pos rfl] at hr
   repeat' (first|refine Vx (t:=8) rfl rfl rfl ?_|(refine shC ?_;first|refine qC c1 ?_|refine qC c2 ?_)|(refine shX ?_;first|refine qX he ?_)|refine sK ?_|refine sC (fun _=>?_) (fun _=>?_)|fail)
   all_goals (refine retq rfl ?_;rw [hr];simp_all [zl,zcH];done)
  ·rw [ha] at c1
   rw [show QW a x=false by rw [QW,ha];rfl,if_neg (by simp)] at hr
   repeat' (first|refine Vx (t:=8) rfl rfl rfl ?_|(refine shC ?_;first|refine qC c1 ?_)|(refine shX ?_;first|refine qX he ?_)|refine sK ?_|refine sC (fun _=>?_) (fun _=>?_)|fail)
   exact ⟨k + 1,⟨hlt,hr⟩,tD,tS,tH⟩
 ·rw [drop_end (by omega),zbN,zec] at hr
  repeat' (first|(refine shC ?_;first|refine qC ce ?_|refine qC cf ?_)|(refine shX ?_;first|refine qX h0a ?_|refine qX h0b ?_)|refine sK ?_|refine sC (fun _=>?_) (fun _=>?_)|fail)
  all_goals (refine retq rfl ?_;rw [hr];simp_all [zl];done)
structure OkC (c:Cl):Prop where
 t:c.tf < c.tt
 h:c.hf < c.ht
 h0:0≤c.hf
 t0:0≤c.tf
 f:c.kind=2→0≤c.filter∧c.filter < c.hf
theorem zjy {n:Int} {c:Cl} (h:VB n c=0):OkC c:=by
 unfold VB at h
 split at h
 ·simp at h
 ·split at h
  ·simp at h
  ·rename_i h1 h2
   simp [zeV,zeO] at h1 h2
   exact ⟨by omega,by omega,by omega,by omega,fun hk=>by simp [hk] at h2;omega⟩
theorem Xt {a b:Cl} {p q:Int} {x y:Pt} (hx:bounds a p=(x.f,x.t)) (hy:bounds b q=(y.f,y.t)) (h1:x.f < x.t) (h2:y.f < y.t):meet a p b q=Ze x y:=by
 simp [meet,Ze,hx,hy,h1,h2]
theorem zlI {a b:Cl} {p q:Int} (h:¬ (bounds a p).1 < (bounds a p).2∨¬ (bounds b q).1 < (bounds b q).2):meet a p b q=false:=by
 simp only [meet,Bool.and_eq_false_iff,decide_eq_false_iff_not]
 rcases h with h|h
 ·exact .inl (.inr h)
 ·exact .inr h
theorem zcY {a b:Cl} {p q:Int} {x y:Pt} (hx:bounds a p=(x.f,x.t)) (hy:bounds b q=(y.f,y.t)) (h1:x.f < x.t):within a p b q=Yj x y:=by
 rw [Bool.eq_iff_iff]
 simp [within,Yj,hx,hy]
 omega
theorem ziY {a b:Cl} {q:Int} (h:a.kind≠2):within a 3 b q=true:=by simp [within,bounds,h]
theorem zkn {n:Int} {c:Cl}:VY n c=VB n c:=by
 unfold VY VB
 split
 ·rfl
 ·split
  ·rfl
  ·rename_i h1 h2
   have hok:OkC c:=by
    simp [zeV,zeO] at h1 h2
    exact ⟨by omega,by omega,by omega,by omega,fun hk=>by simp [hk] at h2;omega⟩
   have e:zaT (zS 0 c) (zS 0 c) zn2=(meet c 1 c 2||meet c 1 c 3||meet c 2 c 3):=by
    obtain ⟨g1,g2,g3,g4,g5⟩:=hok
    rw [Bool.eq_iff_iff]
    by_cases hk:c.kind=2
    ·have:=g5 hk
     simp [zaT,zS,hk,zn2,Ze,meet,bounds]
     omega
    ·simp [zaT,zS,hk,zn2,Ze,meet,bounds]
     omega
   rw [e]
theorem zar {a b:Cl} (ha:OkC a) {q:Int} {x:Pt} (hy:bounds b q=(x.f,x.t)) (h2:x.f < x.t):QW a x=zdV a b q:=by
 have w1:within a 1 b q=Yj ⟨0,1,a.tf,a.tt⟩ x:=zcY (by simp [bounds]) hy ha.t
 have w2:within a 2 b q=Yj ⟨0,2,a.hf,a.ht⟩ x:=zcY (by simp [bounds]) hy ha.h
 by_cases hk:a.kind=2
 ·have w3:within a 3 b q=Yj ⟨0,3,a.filter,a.hf⟩ x:=zcY (by simp [bounds,hk]) hy (ha.f hk).2
  simp [QW,zS,zdV,w1,w2,w3,hk,hy,h2,Bool.and_assoc]
 ·have w3:=ziY (b:=b) (q:=q) hk
  simp [QW,zS,zdV,w1,w2,w3,hk,hy,h2]
theorem zds (a:Cl) (x:Pt):zcH a x=(a.hf==x.f||a.kind==2&&a.filter==x.f):=by
 by_cases hk:a.kind=2 <;> simp [zcH,zS,hk]
theorem zoL {a b:Cl} (h:b.kind≠2):zdV a b 3=false:=by simp [zdV,bounds,h]
theorem zer {a b:Cl} (ha:OkC a) (hb:OkC b):zec a b=!(badM a b 1 1||badM a b 1 2||badM a b 1 3||badM a b 2 1||badM a b 2 2||badM a b 2 3||badM a b 3 1||badM a b 3 2||badM a b 3 3):=by
 have m11:meet a 1 b 1=Ze ⟨0,1,a.tf,a.tt⟩ ⟨1,1,b.tf,b.tt⟩:=Xt (by simp [bounds]) (by simp [bounds]) ha.t hb.t
 have m12:meet a 1 b 2=Ze ⟨0,1,a.tf,a.tt⟩ ⟨1,2,b.hf,b.ht⟩:=Xt (by simp [bounds]) (by simp [bounds]) ha.t hb.h
 have m21:meet a 2 b 1=Ze ⟨0,2,a.hf,a.ht⟩ ⟨1,1,b.tf,b.tt⟩:=Xt (by simp [bounds]) (by simp [bounds]) ha.h hb.t
 have m22:meet a 2 b 2=Ze ⟨0,2,a.hf,a.ht⟩ ⟨1,2,b.hf,b.ht⟩:=Xt (by simp [bounds]) (by simp [bounds]) ha.h hb.h
 have ra:(zS 0 a)=[⟨0,1,a.tf,a.tt⟩,⟨0,2,a.hf,a.ht⟩]++(if a.kind==2 then [⟨0,3,a.filter,a.hf⟩] else []):=rfl
 have rb:(zS 1 b)=[⟨1,1,b.tf,b.tt⟩,⟨1,2,b.hf,b.ht⟩]++(if b.kind==2 then [⟨1,3,b.filter,b.hf⟩] else []):=rfl
 have n3:b.kind≠2→∀ p,meet a p b 3=false:=fun h p=>zlI (.inr (by simp [bounds,h]))
 have n3':a.kind≠2→∀ q,meet a 3 b q=false:=fun h q=>zlI (.inl (by simp [bounds,h]))
 have m13:b.kind=2→meet a 1 b 3=Ze ⟨0,1,a.tf,a.tt⟩ ⟨1,3,b.filter,b.hf⟩:=fun h=>Xt (by simp [bounds]) (by simp [bounds,h]) ha.t (hb.f h).2
 have m23:b.kind=2→meet a 2 b 3=Ze ⟨0,2,a.hf,a.ht⟩ ⟨1,3,b.filter,b.hf⟩:=fun h=>Xt (by simp [bounds]) (by simp [bounds,h]) ha.h (hb.f h).2
 have m31:a.kind=2→meet a 3 b 1=Ze ⟨0,3,a.filter,a.hf⟩ ⟨1,1,b.tf,b.tt⟩:=fun h=>Xt (by simp [bounds,h]) (by simp [bounds]) (ha.f h).2 hb.t
 have m32:a.kind=2→meet a 3 b 2=Ze ⟨0,3,a.filter,a.hf⟩ ⟨1,2,b.hf,b.ht⟩:=fun h=>Xt (by simp [bounds,h]) (by simp [bounds]) (ha.f h).2 hb.h
 have m33:a.kind=2→b.kind=2→meet a 3 b 3=Ze ⟨0,3,a.filter,a.hf⟩ ⟨1,3,b.filter,b.hf⟩:=fun h h'=>Xt (by simp [bounds,h]) (by simp [bounds,h']) (ha.f h).2 (hb.f h').2
 unfold zec badM
 cases hs1:a.tf==b.tf <;> cases hs2:a.tt==b.tt <;> by_cases hka:a.kind=2 <;> by_cases hkb:b.kind=2 <;>
  simp [zaT,ra,rb,hka,hkb,zoz,m11,m12,m21,m22,n3,n3',m13,m23,m31,m32,m33,Bool.and_assoc,Bool.or_assoc]
theorem zm4 {a b:Cl} (ha:OkC a) (hb:OkC b):ze1 a b=zc6 a b:=by
 have e1:=zar (a:=a) (b:=b) ha (q:=1) (x:=⟨1,1,b.tf,b.tt⟩) (by simp [bounds]) hb.t
 have e2:=zar (a:=a) (b:=b) ha (q:=2) (x:=⟨1,2,b.hf,b.ht⟩) (by simp [bounds]) hb.h
 have b1:(bounds b 1)=(b.tf,b.tt):=by simp [bounds]
 have b2:(bounds b 2)=(b.hf,b.ht):=by simp [bounds]
 by_cases hk:b.kind=2
 ·have e3:=zar (a:=a) (b:=b) ha (q:=3) (x:=⟨1,3,b.filter,b.hf⟩) (by simp [bounds,hk]) (hb.f hk).2
  have b3:(bounds b 3)=(b.filter,b.hf):=by simp [bounds,hk]
  rw [ze1,show zS 1 b=[⟨1,1,b.tf,b.tt⟩,⟨1,2,b.hf,b.ht⟩,⟨1,3,b.filter,b.hf⟩] by simp [zS,hk]]
  simp only [zbN,e1,e2,e3,zds,zc6,zoe,b1,b2,b3,zer ha hb]
 ·rw [ze1,show zS 1 b=[⟨1,1,b.tf,b.tt⟩,⟨1,2,b.hf,b.ht⟩] by simp [zS,hk]]
  have c3:=zoL (a:=a) hk
  simp only [zbN,e1,e2,zds,zc6,zoe,b1,b2,c3,zer ha hb]
  simp
theorem zmC {n:Int} {l:List Cl} {k:Nat} (h:QL n l k=0):VB n (l.getD k default)=0:=by
 unfold QL at h
 split at h
 ·exact h
 ·rename_i h1;simpa using h1
set_option maxHeartbeats 1000000 in
theorem zhd (n:Int) (l:List Cl):ACall Tryz.prog 460 [pi n,cls l] (.tup [pi (Qx n l).1,pi (Qx n l).2]):=by
 refine zf zh Tryz.func460 rfl (by kernel_rfl) Tryz.ntmps460 (by simp) _ rfl (fun hw gB hgB=>?_)
 have hl:=zpc hw.2.1
 by_cases h6:6 < l.length
 ·repeat' (first|refine sK ?_|refine sC (fun _=>?_) (fun _=>?_)|fail)
  exact retq rfl (by simp [zl,Qx,h6])
 ·repeat' (first|refine sK ?_|refine sC (fun _=>?_) (fun _=>?_)|fail)
  refine zA (fun k:Nat=>[(0,.pv (pi n)),(1,.pv (cls l)),(14,.pv (cls l)),(15,.pv (pi l.length)),(16,.pv (pi k))]) (fun _=>[]) (fun k=>k≤l.length∧∀ j,j < k→QL n l j=0) (fun k=>l.length - k) 0 ⟨by omega,fun j h=>by omega⟩ (tS) tH ?_
  rintro k ⟨hk,hno⟩
  by_cases hlt:k < l.length
  ·have he:=zlO hlt
   have ca:=zjN n (l.getD k default)
   rw [zkn] at ca
   cases ha:(VB n (l.getD k default) != 0)
   ·have hokk:OkC (l.getD k default):=zjy (n:=n) (by simpa using ha)
    repeat' (first|refine zq rfl (YL (xs:=l) (f:=Yr) 0 k zh rfl rfl rfl rfl rfl rfl rfl (by omega) (by omega)) rfl rfl ?_|(refine shC ?_;first|refine qC ca ?_)|(refine shX ?_;first|refine qX he ?_)|refine sK ?_|refine sC (fun _=>?_) (fun _=>?_)|fail)
    refine zA (fun m:Nat=>[(0,.pv (pi n)),(1,.pv (cls l)),(6,.pv (pi k)),(7,.box 0 0),(14,.pv (cls l)),(15,.pv (pi l.length)),(16,.pv (pi k)),(30,.pv (cls (l.take k))),(31,.pv (pi k)),(32,.pv (pi m))]) (fun _=>[(0,.cell (.pv (Yr (l.getD k default))))]) (fun m=>m≤k∧WE l k m=false) (fun m=>k - m) 0 ⟨by omega,rfl⟩ (by repeat (first|exact yj|refine zY rfl ?_|(refine qL rfl ?_ ?_;· (simp;omega)))) tH ?_
    rintro m ⟨hm,hpb⟩
    by_cases hltm:m < k
    ·have hem:((l.take k).map Yr)[((m:Nat):Int).toNat]?=some (Yr (l.getD m default)):=by
      simp [List.getElem?_take,hltm,show m < l.length by omega]
     have hps:=zhK l k m
     have hokm:OkC (l.getD m default):=zjy (n:=n) (zmC (hno m hltm))
     have cf:=zj8 (l.getD m default) (l.getD k default)
     rw [zm4 hokm hokk] at cf
     cases hf:zc6 (l.getD m default) (l.getD k default)
     ·have hat:QL n l k=12:=by
       have:WE l k k=true:=by
        simp only [WE,List.any_eq_true,List.mem_range]
        exact ⟨m,hltm,by rw [hf];rfl⟩
       unfold QL;rw [ha];simp [this]
      have hfin:=zez h6 hlt hno (by rw [hat];decide)
      clear hps
      rw [hf] at cf
      repeat' (first|(refine shC ?_;first|refine qC cf ?_)|(refine shX ?_;first|refine qX hem ?_)|refine sK ?_|refine sC (fun _=>?_) (fun _=>?_)|fail)
      exact retq rfl (by simp [zl,hfin,hat])
     ·have hpm:WE l k (m + 1)=false:=by rw [hps,hpb,hf];rfl
      clear hps
      rw [hf] at cf
      repeat' (first|(refine shC ?_;first|refine qC cf ?_)|(refine shX ?_;first|refine qX hem ?_)|refine sK ?_|refine sC (fun _=>?_) (fun _=>?_)|fail)
      exact ⟨m + 1,⟨by omega,hpm⟩,tD,tS,tH⟩
    ·repeat' (first|refine sK ?_|refine sC (fun _=>?_) (fun _=>?_)|fail)
     have:m=k:=by omega
     subst this
     have hat:QL n l m=0:=by unfold QL;rw [ha];simp [hpb]
     exact ⟨m + 1,⟨by omega,fun j hj=>by
      by_cases e:j=m
      ·subst e;exact hat
      ·exact hno j (by omega)⟩,tD,tS,tH⟩
   ·have hat:QL n l k=VB n (l.getD k default):=by unfold QL;rw [ha];simp
    have hfin:=zez h6 hlt hno (by rw [hat];simpa using ha)
    repeat' (first|(refine shC ?_;first|refine qC ca ?_)|(refine shX ?_;first|refine qX he ?_)|refine sK ?_|refine sC (fun _=>?_) (fun _=>?_)|fail)
    exact retq rfl (by simp [zl,hfin,hat])
  ·repeat' (first|refine sK ?_|refine sC (fun _=>?_) (fun _=>?_)|fail)
   have:k=l.length:=by omega
   subst this
   exact retq rfl (by simp [zl,zka h6 hno])
set_option maxHeartbeats 20000000
theorem YE (td:TD) (b:Int):ACall Tryz.prog 415 [pi b,.ptr (qx td) 0] (pb (yY td.flags b)):=by
 refine zf zh Tryz.func415 rfl (by kernel_rfl) Tryz.ntmps415 (by simp) _ rfl (fun hw gB hgB=>?_)
 repeat' (first|refine sA ?_|refine sC (fun _=>?_) (fun _=>?_)|fail)
 exact retq rfl rfl
def Zj (td:TD):Bool :=
 if zdY td.flags==2 then yY td.flags 4&&!yY td.flags 1&&!yY td.flags 8&&!yY td.flags 16&&td.ext == -1
 else if zdY td.flags==1 then yY td.flags 8&&!yY td.flags 4&&!yY td.flags 16&&td.ext == -1
 else if zdY td.flags==3 then yY td.flags 8&&!yY td.flags 4&&td.ext == -1&&((td.faces.length:Int)==0)
 else true
theorem zfU (td:TD):ACall Tryz.prog 399 [qx td] (pb (Zj td)):=by
 refine zf zh Tryz.func399 rfl (by kernel_rfl) Tryz.ntmps399 (by simp) _ rfl (fun hw gB hgB=>?_)
 repeat' (first|(refine shC ?_;first|refine qC (zdo td) ?_|refine qV (YE td 1) ?_|refine qV (YE td 4) ?_|refine qV (YE td 8) ?_|refine qV (YE td 16) ?_)|refine sA ?_|refine sC (fun _=>?_) (fun _=>?_)|fail)
 all_goals first|(refine retq rfl ?_;first|(simp only [zl,Zj,BL,List.length_map] at *;simp only [*,BL,List.length_map];done)|(simp_all [zl,Zj];done)|(simp_all [zl,Zj];omega)|(simp_all [zl,Zj];intros;omega))|(refine zcp rfl ?_;first|(simp only [zl,Zj,BL,List.length_map] at *;simp only [*,BL,List.length_map];done)|(simp_all [zl,Zj];done)|(simp_all [zl,Zj];omega)|(simp_all [zl,Zj];intros;omega))|skip
def zf4 (g:Img) (t:Int) (td:TD):Bool:=td.ext == -1||(Qe g td.ext==0&&!yY (Vz g td.ext) 8&&WV g t == -1)
theorem zga (g:Img) (t:Int) (td:TD) (htd:typeAt g t=some td) (hg:g.types.length≤1000):ACall Tryz.prog 400 [zu g,pi t] (pb (zf4 g t td)):=by
 refine zf zh Tryz.func400 rfl (by kernel_rfl) Tryz.ntmps400 (by simp) _ rfl (fun hw gB hgB=>?_)
 obtain ⟨h0,he⟩:=ZK htd
 have hui:=zaS g t
 have hul:=qU _ _ hui.1 hui.2
 obtain ⟨ur,hur⟩:=zee htd
 have hpos:0 < (up g t).length:=by rw [hur];simp
 have hlast:(up g t)[(up g t).length - 1]?=some ((up g t).getLastD 0):=by
  rw [hur];simp [List.getLastD_eq_getLast?,List.getLast?_eq_getElem?]
 have hlt:(up g t).length - 1 < (up g t).length:=by omega
 obtain ⟨tl,htl⟩:=Xn (g:=g) (t:=(up g t).getLastD 0) (hui.2 _ (List.mem_of_getElem? hlast))
 obtain ⟨hl0,hel⟩:=ZK htl
 have hw1:IntKind.i64.wrap (((up g t).map pi).length - 1:Int)=(((up g t).length - 1:Nat):Int):=by rw [List.length_map,wrap_in (by omega) (by omega)];omega
 have heU:((up g t).map pi)[(IntKind.i64.wrap (((up g t).map pi).length - 1:Int)).toNat]?=some (pi ((up g t).getLastD 0)):=by rw [hw1];simp [hlast]
 have htop:WV g t=tl.ext:=by rw [WV,htl]
 by_cases h1:td.ext = -1
 ·have h1b:(td.ext == -1)=true:=by simp [h1]
  repeat' (first|(refine shX ?_;first|refine zq rfl (zn zh rfl rfl rfl rfl rfl rfl h0 he) rfl rfl ?_|refine AD.step _ _ _ _ _ rfl (zn zh rfl rfl rfl rfl rfl rfl h0 he) rfl rfl ?_)|refine sK ?_|refine sC (fun _=>?_) (fun _=>?_)|fail)
  exact retq rfl (by simp [zl,zf4,h1])
 ·have h1b:(td.ext == -1)=false:=by simp [h1]
  have c1:=zab g td.ext
  by_cases hk:Qe g td.ext=0
  ·rw [hk] at c1
   obtain ⟨te,hte⟩:∃ te,typeAt g td.ext=some te:=by
    rw [Qe] at hk
    cases h:typeAt g td.ext with
    | none=>rw [h] at hk;simp at hk
    | some te=>exact ⟨te,rfl⟩
   obtain ⟨he0,hee⟩:=ZK hte
   have hfa:Vz g td.ext=te.flags:=by rw [Vz,hte]
   have hres:zf4 g t td=(!yY te.flags 8&&tl.ext == -1):=by rw [zf4,h1b,hk,hfa,htop];rfl
   repeat' (first|(refine shC ?_;first|refine qC c1 ?_|refine qC (ZO g t hg) ?_)|(refine shX ?_;first|refine zq rfl (zn zh rfl rfl rfl rfl rfl rfl h0 he) rfl rfl ?_|refine AD.step _ _ _ _ _ rfl (zn zh rfl rfl rfl rfl rfl rfl h0 he) rfl rfl ?_|refine zq rfl (zn zh rfl rfl rfl rfl rfl rfl he0 hee) rfl rfl ?_|refine AD.step _ _ _ _ _ rfl (zn zh rfl rfl rfl rfl rfl rfl he0 hee) rfl rfl ?_|refine zq rfl (zn zh rfl rfl rfl rfl rfl rfl (by rw [hw1];omega) heU) rfl rfl ?_|refine AD.step _ _ _ _ _ rfl (zn zh rfl rfl rfl rfl rfl rfl (by rw [hw1];omega) heU) rfl rfl ?_|refine zq rfl (zn zh rfl rfl rfl rfl rfl rfl hl0 hel) rfl rfl ?_|refine AD.step _ _ _ _ _ rfl (zn zh rfl rfl rfl rfl rfl rfl hl0 hel) rfl rfl ?_)|refine sA ?_|refine sC (fun _=>?_) (fun _=>?_)|fail)
   all_goals (refine retq rfl ?_;rw [hres];simp_all [zl,yY])
  ·have hkb:(Qe g td.ext==0)=false:=by simp [hk]
   repeat' (first|(refine shC ?_;first|refine qC c1 ?_|refine qC (ZO g t hg) ?_)|(refine shX ?_;first|refine zq rfl (zn zh rfl rfl rfl rfl rfl rfl h0 he) rfl rfl ?_|refine AD.step _ _ _ _ _ rfl (zn zh rfl rfl rfl rfl rfl rfl h0 he) rfl rfl ?_)|refine sK ?_|refine sC (fun _=>?_) (fun _=>?_)|fail)
   all_goals (refine retq rfl ?_;simp [zl,zf4,h1b,hkb])
def zqE (n:UInt8) (e:Int):TD:=⟨⟨#[n]⟩,0,e,[]⟩
abbrev wTD (n:UInt8) (e:Int):PV:=.agg [.base (.string ⟨#[n]⟩),pi 0,pi e,.base (.slice none 0 0)]
theorem zgj (n:UInt8) (e:Int):PTL (wTD n e).cells (qx (zqE n e)).cells :=
 zy (.refl _) (zy (.refl _) (zy (.refl _) (zy (YH 1 false) Qz)))
def zd7 (at_:Int) (x:Pt):Bool:=decide (x.f≤at_)&&decide (at_ < x.t)
def zcI (at_:Int) (l:List Cl):Nat→List Pt
 | 0=>[]
 | k + 1=>zcI at_ l k++(zS k (l.getD k default)).filter (zd7 at_)
def zcN (at_:Int) (l:List Cl):List Pt:=zcI at_ l l.length
def zku (a b:Pt):Int:=if (a.t - a.f) - (b.t - b.f)=0 then a.c - b.c else (a.t - a.f) - (b.t - b.f)
def zah (x:Pt):List Pt→List Pt→List Pt
 | [],s=>x::s
 | y::r,s=>if zku x y < 0 then zah x r (y::s) else (y::r).reverse++x::s
def zh7 (l:List Pt) (x:Pt):List Pt:=zah x l.reverse []
def YZ (l:List Pt):List Pt:=l.foldl zh7 []
def zgS (a b:Pt):Bool:=a.f==b.f&&(a.t==b.t&&true)
def XO (p:Pt):List Pt→List Pt
 | []=>[]
 | y::l=>if zgS y p then XO y l else y::XO y l
def qW:List Pt→List Pt
 | []=>[]
 | x::l=>x::XO x l
def VQ (l:List Cl) (at_:Int):List Pt:=qW (YZ (zcN at_ l))
theorem zcZ (x:Pt):∀ (r s:List Pt),(zah x r s).length=r.length + s.length + 1
 | [],s=>by simp [zah]
 | y::r,s=>by
  rw [zah]
  split
  ·rw [zcZ x r (y::s)];simp;omega
  ·simp;omega
theorem zjm (l:List Pt) (x:Pt):(zh7 l x).length=l.length + 1:=by rw [zh7,zcZ];simp
theorem zcP (l:List Pt):(YZ l).length=l.length:=by
 have:∀ (l a:List Pt),(l.foldl zh7 a).length=a.length + l.length:=by
  intro l
  induction l with
  | nil=>intro a;simp
  | cons x l ih=>intro a;rw [List.foldl_cons,ih,zjm];simp;omega
 rw [YZ,this];simp
theorem zfj (k:Int) (c:Cl):(zS k c).length≤3:=by unfold zS;split <;> simp
theorem za6 (at_:Int) (l:List Cl):∀ k,(zcI at_ l k).length≤3 * k
 | 0=>by simp [zcI]
 | k + 1=>by
  rw [zcI,List.length_append]
  have h1:=za6 at_ l k
  have h2:=List.length_filter_le (zd7 at_) (zS k (l.getD k default))
  have h3:=zfj k (l.getD k default)
  omega
theorem zkE (p:Pt) (l:List Pt):(XO p l).length≤l.length:=by
 induction l generalizing p with
 | nil=>simp [XO]
 | cons y l ih =>
  rw [XO]
  split
  ·have:=ih y;simp;omega
  ·have:=ih y;simp;omega
theorem zm9 (l:List Pt):(qW l).length≤l.length:=by
 cases l with
 | nil=>simp [qW]
 | cons x l=>have:=zkE x l;simp [qW];omega
theorem zld (l:List Cl) (at_:Int):(VQ l at_).length≤3 * l.length:=by
 have h1:=zm9 (YZ (zcN at_ l))
 rw [zcP] at h1
 exact Nat.le_trans h1 (za6 at_ l l.length)
theorem zgF (x:Pt):∀ (r s:List Pt) (y:Pt),y∈zah x r s↔y=x∨y∈r∨y∈s
 | [],s,y=>by simp [zah]
 | z::r,s,y=>by
  rw [zah]
  split
  ·rw [zgF x r (z::s) y];grind
  ·grind
theorem zmE (l:List Pt) (y:Pt):y∈YZ l↔y∈l:=by
 have:∀ (l a:List Pt),y∈l.foldl zh7 a↔y∈a∨y∈l:=by
  intro l
  induction l with
  | nil=>intro a;simp
  | cons x l ih =>
   intro a
   rw [List.foldl_cons,ih,zh7,zgF]
   grind
 rw [YZ,this];simp
end Go.Cg
