/- A part of the walks by abstract values: no statement of its own. -/
import Derived.Test.YtdlokcmodgccnaaGreatF19
import Derived.Test.YtdlokcmodgccnaaGreatF20
import Derived.Test.YtdlokcmodgccnaaGreatF8
import Derived.Test.YtdlokcmodgccnaaGreatF6
import Derived.Test.YtdlokcmodgccnaaGreatF11
import Derived.Test.YtdlokcmodgccnaaGreatF17
set_option linter.unusedVariables false
set_option linter.unusedSimpArgs false
namespace Go.Cg
open Go.Proofs
set_option maxHeartbeats 20000000
structure Fm (g:Img):Prop where
 n:g.types.length≤32
 faces:∀ td∈g.types,td.faces.length≤4∧∀ f∈td.faces,0≤f∧f < g.types.length
theorem zdc {g:Img} (h:zJ g=true):Fm g :=
 ⟨(zF h).1,fun td hm=>let ⟨_,_,_,_,h5,h6⟩:=ZH ((zF h).2.2.2 td hm);⟨h5,h6⟩⟩
theorem VW {g:Img} {t:Int} {td:TD} (h:typeAt g t=some td):td∈g.types:=by
 unfold typeAt at h
 split at h
 ·exact List.mem_of_getElem? h
 ·cases h
theorem Fm.at {g:Img} (h:Fm g) (t:Int):(yg g t).length≤4∧∀ f∈yg g t,0≤f∧f < g.types.length:=by
 unfold yg
 cases ht:typeAt g t with
 | none=>simp
 | some td=>exact h.faces td (VW ht)
theorem WO {g:Img} {t:Int} (h:0≤t∧t < g.types.length):there g t=true:=by
 obtain ⟨td,htd⟩:=ZF h;exact (Zu g t).2 ⟨td,htd⟩
def Yi (g:Img) (t:Int):List Int:=sortL (QU g.types.length (yg g) ((up g t).flatMap (yg g)))
theorem zf0 (g:Img) (t:Int) (hF:Fm g):ACall Tryz.prog 93 [zq g,pi t] (ints (Yi g t)):=by
 refine zf zh Tryz.func93 rfl (by kernel_rfl) Tryz.ntmps93 (by simp) _ rfl (fun hw gB hgB=>?_)
 have hn:=hF.n
 have hui:=XR g t
 have hul:=qR _ _ hui.1 hui.2
 repeat' (first|(refine shC ?_;first|refine zu rfl (qw rfl rfl (YM g t (by omega))) rfl rfl ?_|refine AD.step _ _ _ _ _ rfl (qw rfl rfl (YM g t (by omega))) rfl rfl ?_)|refine sA ?_|refine sC (fun _=>?_) (fun _=>?_)|fail)
 refine yS (t:=5) 0 3 1 (by decide) rfl rfl ?_
 refine zo (fun x:Nat × List Int=>[(2,.pv (.ptr (zq g) 0)),(5,.own 0),(10,.pv (ints (up g t))),(11,.pv (pi (up g t).length)),(12,.pv (pi x.1))]) (fun x=>[(0,.row 3 1 (x.2.map pi))])
  (fun x=>x.1≤(up g t).length∧x.2.length≤4 * x.1∧(∀ y∈x.2,0≤y∧y < g.types.length)∧x.2++((up g t).drop x.1).flatMap (yg g)=(up g t).flatMap (yg g)) (fun x=>(up g t).length - x.1) (0,[]) ⟨by simp,by simp,by simp,rfl⟩ (tS) ⟨zn rfl zl,rfl⟩ ?_
 rintro ⟨k,out⟩ ⟨hk,hol,hrg,hr⟩
 simp only at hk hol hrg hr
 by_cases hlt:k < (up g t).length
 ·have he:=yT hlt
  obtain ⟨hf1,hf2⟩:=hF.at (up g t)[k]
  rw [drop_cons hlt,List.flatMap_cons] at hr
  repeat' (first|(refine shC ?_;first|refine zu rfl (qw rfl rfl (WH g _ (by omega) (fun f hf=>WO (hf2 f hf)))) rfl rfl ?_|refine AD.step _ _ _ _ _ rfl (qw rfl rfl (WH g _ (by omega) (fun f hf=>WO (hf2 f hf)))) rfl rfl ?_)|(refine shX ?_;first|refine qX he ?_)|(refine zI ?_;first|refine yc zh rfl rfl rfl rfl rfl rfl rfl (by show _ * 8≤_;simp;omega) (by simp;omega) rfl rfl ?_)|refine sK ?_|refine sC (fun _=>?_) (fun _=>?_)|fail)
  refine ⟨(k + 1,out++yg g (up g t)[k]),⟨hlt,by simp;omega,?_,by simpa using hr⟩,tD,tS,⟨yX rfl (by simp) zl,rfl⟩⟩
  intro y hy
  simp only [List.mem_append] at hy
  rcases hy with hy|hy
  ·exact hrg y hy
  ·exact hf2 y hy
 ·rw [drop_end (by omega)] at hr
  simp only [List.flatMap_nil,List.append_nil] at hr
  subst hr
  have c1:=zdi g.types.length (by omega) ((up g t).flatMap (yg g)) (yg g) 133 [] [.ptr (zq g) 0] hrg (by omega)
   (fun x h0 h1=>zmc g x (by have:=(hF.at x).1;omega) (fun f hf=>WO ((hF.at x).2 f hf))) (fun x h0 h1=>⟨by have:=(hF.at x).1;omega,(hF.at x).2⟩)
  repeat' (first|(refine shC ?_;first|refine qC c1 ?_)|refine sK ?_|refine sC (fun _=>?_) (fun _=>?_)|fail)
  exact retq rfl rfl
def zaN (g:Img) (a b:Int):Bool:=decide (b∈up g a)||decide (b∈Yi g a)
theorem zlo (g:Img) (a b:Int) (hF:Fm g):ACall Tryz.prog 212 [zq g,pi a,pi b] (pb (zaN g a b)):=by
 refine zf zh Tryz.func212 rfl (by kernel_rfl) Tryz.ntmps212 (by simp) _ rfl (fun hw gB hgB=>?_)
 have hn:=hF.n
 repeat' (first|(refine shC ?_;first|refine zu rfl (qw rfl rfl (YM g a (by omega))) rfl rfl ?_|refine AD.step _ _ _ _ _ rfl (qw rfl rfl (YM g a (by omega))) rfl rfl ?_|refine qC (YP _ _) ?_|refine qC (zf0 g a hF) ?_)|refine sA ?_|refine sC (fun _=>?_) (fun _=>?_)|fail)
 all_goals first|(refine retq rfl ?_;first|(simp only [zi,zaN,BL,List.length_map] at *;simp only [*,BL,List.length_map];done)|(simp_all [zi,zaN];done)|(simp_all [zi,zaN];omega)|(simp_all [zi,zaN];intros;omega))|(refine ZA rfl ?_;first|(simp only [zi,zaN,BL,List.length_map] at *;simp only [*,BL,List.length_map];done)|(simp_all [zi,zaN];done)|(simp_all [zi,zaN];omega)|(simp_all [zi,zaN];intros;omega))|skip
def zdb (g:Img) (a b:Ty):Bool :=
 if tyB a b then true
 else if !object a||!object b then false
 else if plain a 8||plain b 4 then true
 else if plain a 5&&plain b 5 then zaN g a.index b.index
 else plain a 7&&tyB b ⟨7,0,0,false⟩
theorem zhc (g:Img) (a b:Ty) (hF:Fm g):ACall Tryz.prog 167 [zq g,yK a,yK b] (pb (zdb g a b)):=by
 refine zf zh Tryz.func167 rfl (by kernel_rfl) Tryz.ntmps167 (by simp) _ rfl (fun hw gB hgB=>?_)
 repeat' (first|(refine shC ?_;first|refine qC (zgb a) ?_|refine qC (zgb b) ?_|refine qC (VO a 8) ?_|refine qC (VO b 4) ?_|refine qC (VO a 5) ?_|refine qC (VO b 5) ?_|refine qC (zlo g _ _ hF) ?_|refine qC (VO a 7) ?_|refine qC znR ?_)|refine sA ?_|refine sC (fun _=>?_) (fun _=>?_)|fail)
 all_goals refine retq rfl ?_
 all_goals first|(simp only [zi,zdb,tyB, *];done)|(simp only [zi,zdb,tyB, *];rfl)
def zrA (g:Img) (a b:Ty):Ty :=
 match (up g a.index).find? (fun t=>decide (t∈up g b.index)) with|some t=>⟨5,t,0,false⟩|none=>⟨4,0,0,false⟩
def zoz (g:Img) (a b:Ty):Ty × Int :=
 if zdb g b a then (a,0) else if zdb g a b then (b,0)
 else if !object a||!object b then (ty0,14)
 else if plain a 7&&plain b 7 then (⟨7,0,0,false⟩,0)
 else if zrP g a&&zrP g b then (zrA g a b,0)
 else (⟨4,0,0,false⟩,0)
set_option maxHeartbeats 20000000
theorem zdm (s:ByteArray):ACall Tryz.prog 270 [ps s] (pb (Va s)):=by
 refine zf zh Tryz.func270 rfl (by kernel_rfl) Tryz.ntmps270 (by simp) _ rfl (fun hw gB hgB=>?_)
 have hl:=zoI hw.1
 have he:(s.toList==(⟨#[]⟩:ByteArray).toList)=decide (s.size=0):=by
  rw [ByteArray.toList_eq,ByteArray.toList_eq]
  have hs:s.size=s.data.toList.length:=by simp
  rw [hs]
  cases s.data.toList <;> simp
 have hfin:s.size≠0→s.size≤24→Va s=s.data.toList.all zkQ:=fun a b=>by
  unfold Va;rw [decide_eq_true (by omega),decide_eq_true (by omega)];simp
 repeat' (first|refine sK ?_|refine sC (fun _=>?_) (fun _=>?_)|fail)
 all_goals first
  | (refine retq rfl ?_;simp_all [zi,Va];done)
  | (refine retq rfl ?_;simp_all [zi,Va];omega)
  | skip
 refine zo (fun k:Nat=>[(0,.pv (ps s)),(12,.pv (pi s.size)),(13,.pv (pi k))]) (fun _=>[]) (fun k=>k≤s.size∧Va s=(s.data.toList.drop k).all zkQ) (fun k=>s.size - k) 0 ⟨by simp,by rw [hfin (by simp_all) (by simp_all <;> omega)];simp⟩ (tS) tH ?_
 rintro k ⟨hk,hr⟩
 by_cases hlt:k < s.size
 ·have hb:=zeE hlt
  rw [ZO (by simpa using hlt)] at hr
  repeat' (first|(refine shI ?_;first|refine zu rfl (Ws zh rfl rfl rfl rfl (by omega) hb) rfl rfl ?_|refine AD.step _ _ _ _ _ rfl (Ws zh rfl rfl rfl rfl (by omega) hb) rfl rfl ?_)|refine sK ?_|refine sC (fun _=>?_) (fun _=>?_)|fail)
  all_goals first
   | exact ⟨k + 1,⟨by omega,by simp_all [zkQ]⟩,tD,tS,tH⟩
   | (refine retq rfl ?_;simp_all [zi,zkQ];done)
 ·rw [drop_end (by simp;omega)] at hr
  repeat' (first|refine sK ?_|refine sC (fun _=>?_) (fun _=>?_)|fail)
  all_goals (refine retq rfl ?_;simp_all [zi];done)
theorem zhw (n x:Int):ACall Tryz.prog 269 [pi x,.ptr (pi n) 0] (pb (!Qx n x)):=by
 refine zf zh Tryz.func269 rfl (by kernel_rfl) Tryz.ntmps269 (by simp) _ rfl (fun hw gB hgB=>?_)
 repeat' (first|refine sA ?_|refine sC (fun _=>?_) (fun _=>?_)|fail)
 all_goals (refine retq rfl ?_;simp only [zi,List.cons.injEq,PV.base.injEq,Value.bool.injEq];rw [Bool.eq_iff_iff];simp_all [Qx] <;> omega)
theorem QT (l:List Int) (p:Int→Bool) (f:FuncId) (first cap:List PV) (hp:∀ x∈l,ACall Tryz.prog f (first++[pi x]++cap) (pb (p x))):ACall Tryz.prog 91 [ints l,.fn (.func f) first cap] (pb (l.any p)):=by
 refine zf zh Tryz.func91 rfl (by kernel_rfl) Tryz.ntmps91 (by simp) _ rfl (fun hw gB hgB=>?_)
 have c1:=zad l p f first cap hp
 repeat' (first|(refine shC ?_;first|refine qC c1 ?_)|refine sA ?_|refine sC (fun _=>?_) (fun _=>?_)|fail)
 refine retq rfl ?_
 have:decide (0≤zc6 l p)=l.any p:=by
  unfold zc6
  cases h:l.any p <;> simp
 simp [zi,this]
def zsn (l:List TD) (p:TD→Bool):Int:=if l.any p then ((l.findIdx p:Nat):Int) else -1
theorem zgD (l:List TD) (p:TD→Bool) (f:FuncId) (first cap:List PV) (hp:∀ x∈l,ACall Tryz.prog f (first++[Zb x]++cap) (pb (p x))):ACall Tryz.prog 285 [.slc 4 (l.map Zb) false,.fn (.func f) first cap] (pi (zsn l p)):=by
 refine zf zh Tryz.func285 rfl (by kernel_rfl) Tryz.ntmps285 (by simp) _ rfl (fun hw gB hgB=>?_)
 have hl:l.length≤9223372036854775807:=by have:=hw.1;simp [PV.lenOk,lensOk,maxLen] at this;exact this.1
 repeat' (first|refine sA ?_|refine sC (fun _=>?_) (fun _=>?_)|fail)
 refine zo (fun k:Nat=>[(0,.pv (.slc 4 (l.map Zb) false)),(1,.pv (.fn (.func f) first cap)),(7,.pv (pi l.length)),(8,.pv (pi k))]) (fun _=>[]) (fun k=>k≤l.length∧∀ j (h:j < k) (h2:j < l.length),p l[j]=false) (fun k=>l.length - k) 0 ⟨by omega,fun j h=>by omega⟩ (tS) tH ?_
 rintro k ⟨hk,hno⟩
 by_cases hlt:k < l.length
 ·have he:=zA (f:=Zb) hlt
  have c1:=hp _ (List.getElem_mem hlt)
  cases hpx:p l[k]
  ·rw [hpx] at c1
   repeat' (first|(refine shC ?_;first|refine qV (c1) ?_)|(refine shX ?_;first|refine qX he ?_)|refine sK ?_|refine sC (fun _=>?_) (fun _=>?_)|fail)
   exact ⟨k + 1,⟨hlt,fun j hj h2=>by
    by_cases e:j=k
    ·subst e;exact hpx
    ·exact hno j (by omega) h2⟩,tD,tS,tH⟩
  ·rw [hpx] at c1
   have hi:l.findIdx p=k:=by
    rw [List.findIdx_eq hlt]
    exact ⟨hpx,fun j hj=>hno j hj (by omega)⟩
   have ha:l.any p=true:=List.any_eq_true.2 ⟨_,List.getElem_mem hlt,hpx⟩
   repeat' (first|(refine shC ?_;first|refine qV (c1) ?_)|(refine shX ?_;first|refine qX he ?_)|refine sK ?_|refine sC (fun _=>?_) (fun _=>?_)|fail)
   exact retq rfl (by simp [zi,zsn,ha,hi])
 ·have ha:l.any p=false:=by
   rw [List.any_eq_false]
   intro x hx
   obtain ⟨j,hj,rfl⟩:=List.getElem_of_mem hx
   simp [hno j (by omega) hj]
  repeat' (first|refine sK ?_|refine sC (fun _=>?_) (fun _=>?_)|fail)
  exact retq rfl (by simp [zi,zsn,ha])
theorem zdl (l:List TD) (p:TD→Bool) (f:FuncId) (first cap:List PV) (hp:∀ x∈l,ACall Tryz.prog f (first++[Zb x]++cap) (pb (p x))):ACall Tryz.prog 267 [.slc 4 (l.map Zb) false,.fn (.func f) first cap] (pb (l.any p)):=by
 refine zf zh Tryz.func267 rfl (by kernel_rfl) Tryz.ntmps267 (by simp) _ rfl (fun hw gB hgB=>?_)
 have c1:=zgD l p f first cap hp
 repeat' (first|(refine shC ?_;first|refine qC c1 ?_)|refine sA ?_|refine sC (fun _=>?_) (fun _=>?_)|fail)
 refine retq rfl ?_
 have:decide (0≤zsn l p)=l.any p:=by
  unfold zsn
  cases h:l.any p <;> simp
 simp [zi,this]
theorem zl5 (t:TD) (n:Int):ACall Tryz.prog 268 [Zb t,.ptr (pi n) 0] (pb (!qy t n)):=by
 refine zf zh Tryz.func268 rfl (by kernel_rfl) Tryz.ntmps268 (by simp) _ rfl (fun hw gB hgB=>?_)
 have c1:=QT t.faces (fun x=>!Qx n x) 269 [] [.ptr (pi n) 0] (fun x _=>zhw n x)
 have ha:t.faces.any (fun x=>!Qx n x)=!t.faces.all (Qx n):=by rw [List.not_all_eq_any_not]
 rw [ha] at c1
 repeat' (first|(refine shC ?_;first|refine qC c1 ?_|refine qC (zdm _) ?_)|refine sA ?_|refine sC (fun _=>?_) (fun _=>?_)|fail)
 all_goals first|(refine retq rfl ?_;first|(simp only [zi,qy,BL,List.length_map] at *;simp only [*,BL,List.length_map];done)|(simp_all [zi,qy];done)|(simp_all [zi,qy];omega)|(simp_all [zi,qy];intros;omega))|(refine ZA rfl ?_;first|(simp only [zi,qy,BL,List.length_map] at *;simp only [*,BL,List.length_map];done)|(simp_all [zi,qy];done)|(simp_all [zi,qy];omega)|(simp_all [zi,qy];intros;omega))|skip
def WZ (g:Img):Bool:=decide ((g.types.length:Int)≤32)&&g.types.all (fun t=>qy t g.types.length)
theorem znM (g:Img):ACall Tryz.prog 238 [zq g] (pb (WZ g)):=by
 refine zf zh Tryz.func238 rfl (by kernel_rfl) Tryz.ntmps238 (by simp) _ rfl (fun hw gB hgB=>?_)
 have c1:=zdl g.types (fun t=>!qy t ((g.types.map Zb).length:Nat)) 268 [] [.ptr (pi ((g.types.map Zb).length:Nat)) 0] (fun x _=>zl5 x _)
 rw [←List.not_all_eq_any_not] at c1
 repeat' (first|refine zbc (t:=3) rfl rfl rfl ?_|(refine shC ?_;first|refine qC c1 ?_)|refine sA ?_|refine sC (fun _=>?_) (fun _=>?_)|fail)
 all_goals first|(refine retq rfl ?_;first|(simp only [zi,WZ,BL,List.length_map] at *;simp only [*,BL,List.length_map];done)|(simp_all [zi,WZ];done)|(simp_all [zi,WZ];omega)|(simp_all [zi,WZ];intros;omega))|(refine ZA rfl ?_;first|(simp only [zi,WZ,BL,List.length_map] at *;simp only [*,BL,List.length_map];done)|(simp_all [zi,WZ];done)|(simp_all [zi,WZ];omega)|(simp_all [zi,WZ];intros;omega))|skip
set_option maxHeartbeats 20000000
def zcZ (op:Int):ByteArray × Int × Int :=
 if op==62 then (⟨#[98,111,120]⟩,8,0)
 else if op==63 then (⟨#[117,110,98,111,120]⟩,8,0)
 else if op==64 then (⟨#[117,110,98,111,120,97,110,121]⟩,8,0)
 else if op==65 then (⟨#[99,97,115,116,99,108,97,115,115]⟩,8,0)
 else if op==66 then (⟨#[105,115,105,110,115,116]⟩,8,0)
 else if op==67 then (⟨#[108,100,102,116,110]⟩,6,0)
 else if op==68 then (⟨#[110,101,119,100,101,108]⟩,8,0)
 else if op==69 then (⟨#[116,104,114,111,119]⟩,0,3)
 else if op==70 then (⟨#[114,101,116,104,114,111,119]⟩,0,3)
 else if op==71 then (⟨#[108,101,97,118,101]⟩,5,4)
 else if op==72 then (⟨#[101,110,100,102,105,110,97,108,108,121]⟩,0,5)
 else if op==73 then (⟨#[101,110,100,102,105,108,116,101,114]⟩,0,5)
 else if op==74 then (⟨#[105,110]⟩,0,0)
 else if op==75 then (⟨#[111,117,116]⟩,0,0)
 else (⟨#[]⟩,0,0)
theorem zjL (op:Int):ACall Tryz.prog 274 [pi op] (zby (zcZ op).1 (zcZ op).2.1 (zcZ op).2.2):=by
 refine zf zh Tryz.func274 rfl (by kernel_rfl) Tryz.ntmps274 (by simp) _ rfl (fun hw gB hgB=>?_)
 repeat' (first|refine sA ?_|refine sC (fun _=>?_) (fun _=>?_)|fail)
 all_goals (refine retq rfl ?_;simp only [zi,zcZ, *];rfl)
def zc5 (op:Int):ByteArray × Int × Int :=
 if op==48 then (⟨#[108,100,102,108,100]⟩,7,0)
 else if op==49 then (⟨#[115,116,102,108,100]⟩,7,0)
 else if op==50 then (⟨#[108,100,102,108,100,97]⟩,7,0)
 else if op==51 then (⟨#[108,100,115,102,108,100]⟩,7,0)
 else if op==52 then (⟨#[115,116,115,102,108,100]⟩,7,0)
 else if op==53 then (⟨#[108,100,115,102,108,100,97]⟩,7,0)
 else if op==54 then (⟨#[108,100,111,98,106]⟩,8,0)
 else if op==55 then (⟨#[115,116,111,98,106]⟩,8,0)
 else if op==56 then (⟨#[105,110,105,116,111,98,106]⟩,8,0)
 else if op==57 then (⟨#[110,101,119,97,114,114]⟩,8,0)
 else if op==58 then (⟨#[108,100,108,101,110]⟩,0,0)
 else if op==59 then (⟨#[108,100,101,108,101,109]⟩,8,0)
 else if op==60 then (⟨#[115,116,101,108,101,109]⟩,8,0)
 else if op==61 then (⟨#[108,100,101,108,101,109,97]⟩,8,0)
 else zcZ op
theorem zkF (op:Int):ACall Tryz.prog 248 [pi op] (zby (zc5 op).1 (zc5 op).2.1 (zc5 op).2.2):=by
 refine zf zh Tryz.func248 rfl (by kernel_rfl) Tryz.ntmps248 (by simp) _ rfl (fun hw gB hgB=>?_)
 repeat' (first|(refine shC ?_;first|refine qC (zjL op) ?_)|refine sA ?_|refine sC (fun _=>?_) (fun _=>?_)|fail)
 all_goals (refine retq rfl ?_;simp only [zi,zc5, *];rfl)
def ze2 (op:Int):ByteArray × Int × Int :=
 if op==34 then (⟨#[98,114]⟩,5,1)
 else if op==35 then (⟨#[98,114,116,114,117,101]⟩,5,2)
 else if op==36 then (⟨#[98,114,102,97,108,115,101]⟩,5,2)
 else if op==37 then (⟨#[98,101,113]⟩,5,2)
 else if op==38 then (⟨#[98,103,101]⟩,5,2)
 else if op==39 then (⟨#[98,103,116]⟩,5,2)
 else if op==40 then (⟨#[98,108,101]⟩,5,2)
 else if op==41 then (⟨#[98,108,116]⟩,5,2)
 else if op==42 then (⟨#[98,110,101]⟩,5,2)
 else if op==43 then (⟨#[99,97,108,108]⟩,6,0)
 else if op==44 then (⟨#[99,97,108,108,118,105,114,116]⟩,6,0)
 else if op==45 then (⟨#[110,101,119,111,98,106]⟩,6,0)
 else if op==46 then (⟨#[114,101,116]⟩,0,3)
 else if op==47 then (⟨#[116,97,105,108]⟩,0,0)
 else zc5 op
theorem zmR (op:Int):ACall Tryz.prog 224 [pi op] (zby (ze2 op).1 (ze2 op).2.1 (ze2 op).2.2):=by
 refine zf zh Tryz.func224 rfl (by kernel_rfl) Tryz.ntmps224 (by simp) _ rfl (fun hw gB hgB=>?_)
 repeat' (first|(refine shC ?_;first|refine qC (zkF op) ?_)|refine sA ?_|refine sC (fun _=>?_) (fun _=>?_)|fail)
 all_goals (refine retq rfl ?_;simp only [zi,ze2, *];rfl)
def zi9 (op:Int):ByteArray × Int × Int :=
 if op==13 then (⟨#[97,100,100]⟩,0,0)
 else if op==14 then (⟨#[115,117,98]⟩,0,0)
 else if op==15 then (⟨#[109,117,108]⟩,0,0)
 else if op==16 then (⟨#[100,105,118]⟩,0,0)
 else if op==17 then (⟨#[114,101,109]⟩,0,0)
 else if op==18 then (⟨#[97,110,100]⟩,0,0)
 else if op==19 then (⟨#[111,114]⟩,0,0)
 else if op==20 then (⟨#[120,111,114]⟩,0,0)
 else if op==21 then (⟨#[115,104,108]⟩,0,0)
 else if op==22 then (⟨#[115,104,114]⟩,0,0)
 else if op==23 then (⟨#[110,101,103]⟩,0,0)
 else if op==24 then (⟨#[110,111,116]⟩,0,0)
 else if op==25 then (⟨#[97,100,100,111,118,102]⟩,0,0)
 else if op==26 then (⟨#[115,117,98,111,118,102]⟩,0,0)
 else if op==27 then (⟨#[109,117,108,111,118,102]⟩,0,0)
 else if op==28 then (⟨#[99,111,110,118,52]⟩,0,0)
 else if op==29 then (⟨#[99,111,110,118,56]⟩,0,0)
 else if op==30 then (⟨#[99,111,110,118,111,118,102,52]⟩,0,0)
 else if op==31 then (⟨#[99,101,113]⟩,0,0)
 else if op==32 then (⟨#[99,103,116]⟩,0,0)
 else if op==33 then (⟨#[99,108,116]⟩,0,0)
 else ze2 op
theorem znP (op:Int):ACall Tryz.prog 173 [pi op] (zby (zi9 op).1 (zi9 op).2.1 (zi9 op).2.2):=by
 refine zf zh Tryz.func173 rfl (by kernel_rfl) Tryz.ntmps173 (by simp) _ rfl (fun hw gB hgB=>?_)
 repeat' (first|(refine shC ?_;first|refine qC (zmR op) ?_)|refine sA ?_|refine sC (fun _=>?_) (fun _=>?_)|fail)
 all_goals (refine retq rfl ?_;simp only [zi,zi9, *];rfl)
def ofI (op:Int):ByteArray × Int × Int :=
 if op==1 then (⟨#[110,111,112]⟩,0,0)
 else if op==2 then (⟨#[108,100,97,114,103]⟩,4,0)
 else if op==3 then (⟨#[115,116,97,114,103]⟩,4,0)
 else if op==4 then (⟨#[108,100,97,114,103,97]⟩,4,0)
 else if op==5 then (⟨#[108,100,108,111,99]⟩,3,0)
 else if op==6 then (⟨#[115,116,108,111,99]⟩,3,0)
 else if op==7 then (⟨#[108,100,108,111,99,97]⟩,3,0)
 else if op==8 then (⟨#[108,100,99,52]⟩,1,0)
 else if op==9 then (⟨#[108,100,99,56]⟩,2,0)
 else if op==10 then (⟨#[108,100,110,117,108,108]⟩,0,0)
 else if op==11 then (⟨#[100,117,112]⟩,0,0)
 else if op==12 then (⟨#[112,111,112]⟩,0,0)
 else zi9 op
theorem zlJ (op:Int):ACall Tryz.prog 125 [pi op] (zby (ofI op).1 (ofI op).2.1 (ofI op).2.2):=by
 refine zf zh Tryz.func125 rfl (by kernel_rfl) Tryz.ntmps125 (by simp) _ rfl (fun hw gB hgB=>?_)
 repeat' (first|(refine shC ?_;first|refine qC (znP op) ?_)|refine sA ?_|refine sC (fun _=>?_) (fun _=>?_)|fail)
 all_goals (refine retq rfl ?_;simp only [zi,ofI, *];rfl)
set_option maxHeartbeats 20000000
def zeS (t:Ty):Bool :=
 if t.kind==1 then t.index==0&&(t.dims==0&&(t.ref==false&&true))
 else if t.kind==2||t.kind==3||t.kind==4 then decide (0≤t.index)&&decide (t.index≤0)&&decide (0≤t.dims)&&decide (t.dims≤3)
 else if t.kind==5||t.kind==6 then decide (0≤t.index)&&decide (t.index≤31)&&decide (0≤t.dims)&&decide (t.dims≤3)
 else if t.kind==7 then decide (0≤t.index)&&decide (t.index≤7)&&decide (0≤t.dims)&&decide (t.dims≤3)
 else false
theorem ziW (t:Ty):zeS t=Zj t:=by
 rw [Bool.eq_iff_iff,zeS,Zj]
 by_cases h1:t.kind=1
 ·cases hr:t.ref <;> simp [h1] <;> omega
 ·by_cases h2:t.kind=2
  ·simp [h2];omega
  ·by_cases h3:t.kind=3
   ·simp [h3];omega
   ·by_cases h4:t.kind=4
    ·simp [h4];omega
    ·by_cases h5:t.kind=5
     ·simp [h5];omega
     ·by_cases h6:t.kind=6
      ·simp [h6];omega
      ·by_cases h7:t.kind=7
       ·simp [h7];omega
       ·simp [h1,h2,h3,h4,h5,h6,h7]
theorem zgd (t:Ty):ACall Tryz.prog 222 [yK t] (pb (zeS t)):=by
 refine zf zh Tryz.func222 rfl (by kernel_rfl) Tryz.ntmps222 (by simp) _ rfl (fun hw gB hgB=>?_)
 repeat' (first|refine sA ?_|refine sC (fun _=>?_) (fun _=>?_)|fail)
 all_goals first|(refine retq rfl ?_;first|(simp only [zi,zeS, *];done)|(simp only [zi,zeS, *];rfl)|(simp_all [zi,zeS];done))|(trace "LEFT";trace_state)
theorem zau (t:Ty):ACall Tryz.prog 170 [yK t] (pb (Zj t)):=by
 refine zf zh Tryz.func170 rfl (by kernel_rfl) Tryz.ntmps170 (by simp) _ rfl (fun hw gB hgB=>?_)
 have c1:=zgd t
 rw [ziW] at c1
 repeat' (first|(refine shC ?_;first|refine qC c1 ?_)|refine sA ?_|refine sC (fun _=>?_) (fun _=>?_)|fail)
 exact retq rfl rfl
theorem zmV (t:Ty):ACall Tryz.prog 308 [yK t] (pb (Ze t 2)):=by
 refine zf zh Tryz.func308 rfl (by kernel_rfl) Tryz.ntmps308 (by simp) _ rfl (fun hw gB hgB=>?_)
 have c1:=zgd t
 rw [ziW] at c1
 repeat' (first|(refine shC ?_;first|refine qC c1 ?_)|refine sA ?_|refine sC (fun _=>?_) (fun _=>?_)|fail)
 all_goals (refine retq rfl ?_;simp_all [zi,Ze];done)
theorem zgm (t:Ty):ACall Tryz.prog 300 [yK t] (pb (Ze t 1)):=by
 refine zf zh Tryz.func300 rfl (by kernel_rfl) Tryz.ntmps300 (by simp) _ rfl (fun hw gB hgB=>?_)
 have c1:=zmV t
 have e:(Ze t 2&&!t.ref)=Ze t 1:=by
  simp only [Ze];cases Zj t <;> simp
 repeat' (first|(refine shC ?_;first|refine qC c1 ?_)|refine sA ?_|refine sC (fun _=>?_) (fun _=>?_)|fail)
 all_goals (refine retq rfl ?_;rw [←e];simp_all [zi];done)
theorem zaV (t:Ty) (n:Int):ACall Tryz.prog 287 [yK t,pi n] (pb (zeW t n)):=by
 refine zf zh Tryz.func287 rfl (by kernel_rfl) Tryz.ntmps287 (by simp) _ rfl (fun hw gB hgB=>?_)
 repeat' (first|refine sA ?_|refine sC (fun _=>?_) (fun _=>?_)|fail)
 all_goals (first|refine retq rfl ?_|refine ZA rfl ?_)
 all_goals (first|(simp_all [zi,zeW];done)|(simp_all [zi,zeW];omega))
theorem zlE (t:Ty) (n:Int):ACall Tryz.prog 289 [yK t,pi n] (pb (Qm t 2 n)):=by
 refine zf zh Tryz.func289 rfl (by kernel_rfl) Tryz.ntmps289 (by simp) _ rfl (fun hw gB hgB=>?_)
 repeat' (first|(refine shC ?_;first|refine qC (zau t) ?_|refine qC (zaV t n) ?_)|refine sA ?_|refine sC (fun _=>?_) (fun _=>?_)|fail)
 all_goals (refine retq rfl ?_;simp_all [zi,Qm,Ze];done)
theorem zkr (t:Ty) (n:Int):ACall Tryz.prog 290 [yK t,pi n] (pb (Qm t 3 n)):=by
 refine zf zh Tryz.func290 rfl (by kernel_rfl) Tryz.ntmps290 (by simp) _ rfl (fun hw gB hgB=>?_)
 repeat' (first|(refine shC ?_;first|refine qC (zau t) ?_|refine qC (zaV t n) ?_)|refine sA ?_|refine sC (fun _=>?_) (fun _=>?_)|fail)
 all_goals (refine retq rfl ?_;simp_all [zi,Qm,Ze];done)
set_option maxHeartbeats 20000000
theorem zkA (op:Int) (h1:1≤op) (h2:op≤75):(ofI op).1.size≠0∧(ofI op).2.1=zN op:=by
 have h:∀ n:Fin 76,1≤n.val→(ofI (n.val:Int)).1.size≠0∧(ofI (n.val:Int)).2.1=zN (n.val:Int):=by decide +kernel
 have:=h ⟨op.toNat,by omega⟩ (by simp;omega)
 simpa [Int.toNat_of_nonneg (show 0≤op by omega)] using this
theorem ztw (op:Int) (h:op < 1∨75 < op):ofI op=(⟨#[]⟩,0,0):=by
 have e:∀ k:Int,1≤k→k≤75→(op==k)=false:=fun k h1 h2=>by rw [beq_eq_false_iff_ne];omega
 simp [ofI,zi9,ze2,zc5,zcZ,e]
theorem zpD (s:ByteArray):(s.toList==(⟨#[]⟩:ByteArray).toList)=decide (s.size=0):=by
 rw [ByteArray.toList_eq,ByteArray.toList_eq]
 have hs:s.size=s.data.toList.length:=by simp
 rw [hs]
 cases s.data.toList <;> simp
theorem zdN (op:Int) (h1:1≤op) (h2:op≤75):ACall Tryz.prog 84 [pi op] (.tup [zby (ofI op).1 (ofI op).2.1 (ofI op).2.2,pi 0]):=by
 refine zf zh Tryz.func84 rfl (by kernel_rfl) Tryz.ntmps84 (by simp) _ rfl (fun hw gB hgB=>?_)
 have c1:=zlJ op
 have hn:=(zkA op h1 h2).1
 generalize ofI op=x at c1 hn
 have he:(x.1.toList==(⟨#[]⟩:ByteArray).toList)=false:=by rw [zpD];simp [hn]
 repeat' (first|(refine shC ?_;first|refine qC c1 ?_)|refine sK ?_|refine sC (fun _=>?_) (fun _=>?_)|fail)
 all_goals exact retq rfl rfl
theorem zfR (op:Int) (h:op < 1∨75 < op):ACall Tryz.prog 84 [pi op] (.tup [zby ⟨#[]⟩ 0 0,pi 3]):=by
 refine zf zh Tryz.func84 rfl (by kernel_rfl) Tryz.ntmps84 (by simp) _ rfl (fun hw gB hgB=>?_)
 have c1:=zlJ op
 rw [ztw op h] at c1
 have he:((⟨#[]⟩:ByteArray).toList==(⟨#[]⟩:ByteArray).toList)=true:=by simp
 repeat' (first|(refine shC ?_;first|refine qC c1 ?_)|refine sK ?_|refine sC (fun _=>?_) (fun _=>?_)|fail)
 all_goals exact retq rfl rfl
theorem zl0 (x b:Int):ACall Tryz.prog 327 [.base (.int .i64 x),.base (.int .i64 b)] (pb (decide (0≤x)&&decide (x < b))):=by
 refine zf zh Tryz.func327 rfl (by kernel_rfl) Tryz.ntmps327 (by simp) _ rfl (fun hw gB hgB=>?_)
 repeat' (first|refine sA ?_|refine sC (fun _=>?_) (fun _=>?_)|fail)
 all_goals (refine retq rfl ?_;first|(simp_all [zi];done)|(simp_all [zi];omega))
def zhp (x:Ins) (k:Int):Bool :=
 if k==0 then zah x.t&&x.arg==0
 else if k==1 then zah x.t&&decide (-2147483648≤x.arg)&&decide (x.arg < 2147483648)
 else if k==2 then zah x.t
 else if k==3 then zah x.t&&(decide (0≤x.arg)&&decide (x.arg < 12))
 else if k==4 then zah x.t&&(decide (0≤x.arg)&&decide (x.arg < 7))
 else if k==5 then zah x.t&&(decide (0≤x.arg)&&decide (x.arg < 160))
 else if k==6 then zah x.t&&(decide (0≤x.arg)&&decide (x.arg < 64))
 else if k==7 then zah x.t&&(decide (0≤x.arg)&&decide (x.arg < 64))
 else x.arg==0&&Zj x.t&&x.t.kind != 1&&!x.t.ref
theorem znt (x:Ins) (k:Int):ACall Tryz.prog 312 [zY x,pi k] (pb (zhp x k)):=by
 refine zf zh Tryz.func312 rfl (by kernel_rfl) Tryz.ntmps312 (by simp) _ rfl (fun hw gB hgB=>?_)
 repeat' (first|(refine shC ?_;first|refine qC (zl0 _ _) ?_|refine qC (zau _) ?_)|refine sA ?_|refine sC (fun _=>?_) (fun _=>?_)|fail)
 all_goals first|(refine retq rfl ?_;first|(simp only [zi,zhp,zah, *];done)|(simp only [zi,zhp,zah, *];rfl)|(simp_all [zi,zhp,zah];done))|(trace "LEFT";trace_state)
set_option maxHeartbeats 20000000
def zhy (x:Ins):Int:=if x.op < 1∨75 < x.op then 3 else if zhp x (zN x.op) then 0 else 17
theorem zoE (x:Ins):ACall Tryz.prog 303 [zY x] (pi (zhy x)):=by
 refine zf zh Tryz.func303 rfl (by kernel_rfl) Tryz.ntmps303 (by simp) _ rfl (fun hw gB hgB=>?_)
 by_cases hop:x.op < 1∨75 < x.op
 ·have c1:=zfR x.op hop
  repeat' (first|(refine shC ?_;first|refine qC c1 ?_)|refine sK ?_|refine sC (fun _=>?_) (fun _=>?_)|fail)
  all_goals exact retq rfl (by simp [zi,zhy,hop])
 ·have c1:=zdN x.op (by omega) (by omega)
  rw [(zkA x.op (by omega) (by omega)).2] at c1
  repeat' (first|(refine shC ?_;first|refine qC c1 ?_|refine qC (znt _ _) ?_)|refine sA ?_|refine sC (fun _=>?_) (fun _=>?_)|fail)
  all_goals (refine retq rfl ?_;simp_all [zi,zhy];done)
theorem zgx (op:Int) (h1:1≤op) (h2:op≤75):0≤zN op∧zN op≤8:=by
 have h:∀ n:Fin 76,1≤n.val→0≤zN (n.val:Int)∧zN (n.val:Int)≤8:=by decide +kernel
 have:=h ⟨op.toNat,by omega⟩ (by simp;omega)
 simpa [Int.toNat_of_nonneg (show 0≤op by omega)] using this
def zdQ (x:Ins):Prop := -9223372036854775808≤x.arg∧x.arg≤9223372036854775807
theorem zlP (t:Ty):zah t=decide (t=ty0):=QD t ty0
theorem zqF (x:Ins) (hx:zdQ x):zhy x=Qy x:=by
 unfold zhy Qy
 obtain ⟨hx1,hx2⟩:=hx
 by_cases hop:x.op < 1∨75 < x.op
 ·rw [if_pos hop,if_pos hop]
 ·rw [if_neg hop,if_neg hop]
  obtain ⟨r1,r2⟩:=zgx x.op (by omega) (by omega)
  generalize zN x.op=k at r1 r2
  have hk:k=0∨k=1∨k=2∨k=3∨k=4∨k=5∨k=6∨k=7∨k=8:=by omega
  by_cases ht:x.t=ty0
  ·rcases hk with rfl|rfl|rfl|rfl|rfl|rfl|rfl|rfl|rfl <;> simp only [zhp,zaK,zlP,ht] <;> simp [ty0,Zj,Ze] <;> (first|omega|(split <;> split <;> first|rfl|omega))
  ·rcases hk with rfl|rfl|rfl|rfl|rfl|rfl|rfl|rfl|rfl <;> simp only [zhp,zaK,zlP,ht] <;> simp [ht,Ze] <;> (first|omega|(by_cases ha:x.arg=0 <;> cases hp:Zj x.t <;> by_cases hk1:x.t.kind=1 <;> cases hr:x.t.ref <;> simp_all <;> omega))
theorem znI (x:Ins) (g:Img) (m:Me) (hx:zdQ x):ACall Tryz.prog 293 [zY x,zq g,pi m.code.length] (pb (codeOk g m x)):=by
 refine zf zh Tryz.func293 rfl (by kernel_rfl) Tryz.ntmps293 (by simp) _ rfl (fun hw gB hgB=>?_)
 have c0:=zoE x
 rw [zqF x hx] at c0
 by_cases hf:Qy x=0
 ·have hop:¬ (x.op < 1∨75 < x.op):=by
   intro h;rw [Qy,if_pos h] at hf;simp at hf
  have c1:=zdN x.op (by omega) (by omega)
  rw [(zkA x.op (by omega) (by omega)).2] at c1
  rw [hf] at c0
  have hown:zN x.op≠8→x.t=ty0:=by
   intro h8
   rw [Qy,if_neg hop] at hf
   split at hf
   ·simp at hf
   ·split at hf
    ·simp at hf
    ·rename_i h;exact Classical.byContradiction fun h9=>h ⟨h8,h9⟩
  repeat' (first|(refine shC ?_;first|refine qC c0 ?_|refine qC c1 ?_|refine qC (zaV _ _) ?_)|refine sA ?_|refine sC (fun _=>?_) (fun _=>?_)|fail)
  all_goals (refine retq rfl ?_)
  all_goals simp only [zi,List.length_map,codeOk,hf, *]
  ·rfl
  ·rfl
  ·rfl
  ·by_cases h8:zN x.op=8
   ·simp [h8]
   ·simp [h8,hown h8,zeW,ty0]
 ·have hfb:(Qy x != 0)=true:=by simp [hf]
  repeat' (first|(refine shC ?_;first|refine qC c0 ?_)|refine sK ?_|refine sC (fun _=>?_) (fun _=>?_)|fail)
  all_goals exact retq rfl (by simp [zi,codeOk,hf])
set_option maxHeartbeats 20000000
def u8s (l:List Int):PV:=.slc 1 (l.map fun n=>.base (.int .u8 n)) false
theorem zpv (n:Int) (h0:0≤n) (h1:n≤128):ACall Tryz.prog 325 [pi n] (pi (if n < 128 then 1 else 2)):=by
 refine zf zh Tryz.func325 rfl (by kernel_rfl) Tryz.ntmps325 (by simp) _ rfl (fun hw gB hgB=>?_)
 by_cases h:n < 128
 ·repeat' (first|refine sK ?_|refine sC (fun _=>?_) (fun _=>?_)|fail)
  exact retq rfl (by simp [zi,h])
 ·repeat' (first|refine sK ?_|refine sC (fun _=>?_) (fun _=>?_)|fail)
  exact retq rfl (by simp [zi,h])
theorem zpV (r:Int) (h0:1≤r) (h1:r≤32):ACall Tryz.prog 310 [pi 0,pi r] (.tup [pi (4 * r),pi 0]):=by
 refine zf zh Tryz.func310 rfl (by kernel_rfl) Tryz.ntmps310 (by simp) _ rfl (fun hw gB hgB=>?_)
 have hfin:∀ n:Fin 33,IntKind.i64.wrap ((BitVec.ofInt IntKind.i64.bits (IntKind.i64.wrap ((n.val:Int) * 2 ^ (min (Int.toNat 2) IntKind.i64.bits))) ||| BitVec.ofInt IntKind.i64.bits 0).toNat:Int)=4 * (n.val:Int):=by decide +kernel
 have hr:=hfin ⟨r.toNat,by omega⟩
 simp only [Int.toNat_of_nonneg (show 0≤r by omega)] at hr
 repeat' (first|refine zu rfl (zuJ rfl rfl rfl (by decide)) rfl rfl ?_|refine sK ?_|refine sC (fun _=>?_) (fun _=>?_)|fail)
 exact retq rfl (by simp only [zi,hr])
theorem zfO (l:List Int) (hne:l≠[]) (hb:l.length≤100000):ACallR Tryz.prog 326 [u8s l] 5 1 (l.map fun n=>.base (.int .u8 n)):=by
 refine zeC (t:=2) Tryz.func326 rfl (by kernel_rfl) Tryz.ntmps326 (by simp) rfl (fun hw gB hgB=>?_)
 repeat' (first|refine Xx zh rfl rfl rfl rfl rfl rfl rfl (fun bb hbb=>?_)|refine zu rfl (Xl zh rfl rfl rfl rfl rfl) rfl rfl ?_|(refine zI ?_;first|refine Wu 0 zh rfl rfl rfl (.inl rfl) rfl (by have:=List.length_pos_iff.2 hne;simpa using this) rfl (by show _ * 1≤_;simp;omega) (by simp;omega) rfl rfl rfl ?_)|refine sA ?_|refine sC (fun _=>?_) (fun _=>?_)|fail)
 ·rename_i hx
  exact (hne (by simpa using hbb hx)).elim
 ·exact ⟨.inr rfl,0,rfl,rfl⟩
def byteOf (X i:Int):Int:=IntKind.u8.wrap (X.fdiv (2 ^ (min (IntKind.i64.wrap (8 * i)).toNat IntKind.u32.bits)))
def bytesOf (X:Int) (k:Nat):List Int:=(List.range k).map fun m=>byteOf X ((k:Int) - 1 - (m:Nat))
abbrev u8c (n:Int):PV:=.base (.int .u8 n)
theorem zdU {X:Int} {k m:Nat} (h:m < k):(bytesOf X k).take (m + 1)=(bytesOf X k).take m++[byteOf X ((k:Int) - 1 - (m:Nat))]:=by
 have hl:m < (bytesOf X k).length:=by simpa [bytesOf] using h
 rw [List.take_succ_eq_append_getElem hl]
 simp [bytesOf]
theorem zfN {X:Int} {k:Nat}:(bytesOf X k).take k=bytesOf X k:=List.take_of_length_le (by simp [bytesOf])
theorem ziX (l:List Int) (hne:l≠[]) (hb:l.length≤1000) (n:Int) (h0:0≤n) (h1:n≤128):∃ bs:List Int,ACall Tryz.prog 311 [u8s l,pi n] (.tup [u8s (l++bs),pi 0]):=by
 have c1:=zpv n h0 (by omega)
 by_cases hn:n < 128
 ·rw [if_pos hn] at c1
  obtain ⟨X,hX⟩:∃ X,IntKind.u32.wrap ((BitVec.ofInt IntKind.u32.bits (IntKind.u32.wrap n) ||| BitVec.ofInt IntKind.u32.bits 0).toNat:Int)=X:=⟨_,rfl⟩
  refine ⟨bytesOf X 1,?_⟩
  refine zf zh Tryz.func311 rfl (by kernel_rfl) Tryz.ntmps311 (by simp) _ rfl (fun hw gB hgB=>?_)
  repeat' (first|refine zu rfl (zf1 [(2,.int .u32 32768),(4,.int .u32 3221225472)] zh rfl rfl rfl rfl rfl rfl rfl) rfl rfl ?_|refine zu rfl (zm7 1 zh rfl rfl rfl rfl rfl rfl rfl rfl) rfl rfl ?_|refine zcd 0 rfl rfl rfl (zfO l hne (by omega)) (by decide) rfl rfl rfl ?_|(refine shC ?_;first|refine qC c1 ?_)|refine sK ?_|refine sC (fun _=>?_) (fun _=>?_)|fail)
  refine zo (fun m:Nat=>[(7,.pv (.base (.int .u32 X))),(8,.own 0),(9,.pv (pi (((1:Nat):Int) - 1 - (m:Nat))))]) (fun m=>[(0,.row 5 1 ((l++(bytesOf X 1).take m).map u8c))]) (fun m=>m≤1) (fun m=>1 - m) 0 (by omega) (by repeat (first|exact zT|refine zM rfl ?_|(refine qg rfl ?_ ?_;· first|exact hX|rfl))) ⟨yX rfl (by simp) zl,rfl⟩ ?_
  rintro m hm
  by_cases hlt:m < 1
  ·have hs0:0≤IntKind.i64.wrap (8 * (((1:Nat):Int) - 1 - (m:Nat))):=by rw [wrap_in (by omega) (by omega)];omega
   repeat' (first|refine zu rfl (ztR rfl rfl rfl hs0) rfl rfl ?_|(refine zI ?_;first|refine yc zh rfl rfl rfl rfl rfl rfl rfl (by show _ * 1≤_;simp [bytesOf];omega) (by simp [bytesOf];omega) rfl rfl ?_)|refine sK ?_|refine sC (fun _=>?_) (fun _=>?_)|fail)
   exact ⟨m + 1,hlt,tD,by repeat (first|exact zT|refine zM rfl ?_|(refine qg rfl ?_ ?_;· (rw [wrap_in (by omega) (by omega)];omega))),⟨yX rfl (by rw [zdU hlt];simp [byteOf]) zl,rfl⟩⟩
  ·have:m=1:=by omega
   subst this
   repeat' (first|refine sK ?_|refine sC (fun _=>?_) (fun _=>?_)|fail)
   exact retq rfl (by rw [zfN];rfl)
 ·rw [if_neg hn] at c1
  obtain rfl:n=128:=by omega
  obtain ⟨X,hX⟩:∃ X,IntKind.u32.wrap ((BitVec.ofInt IntKind.u32.bits (IntKind.u32.wrap 128) ||| BitVec.ofInt IntKind.u32.bits 32768).toNat:Int)=X:=⟨_,rfl⟩
  refine ⟨bytesOf X 2,?_⟩
  refine zf zh Tryz.func311 rfl (by kernel_rfl) Tryz.ntmps311 (by simp) _ rfl (fun hw gB hgB=>?_)
  repeat' (first|refine zu rfl (zf1 [(2,.int .u32 32768),(4,.int .u32 3221225472)] zh rfl rfl rfl rfl rfl rfl rfl) rfl rfl ?_|refine zu rfl (zm7 2 zh rfl rfl rfl rfl rfl rfl rfl rfl) rfl rfl ?_|refine zcd 0 rfl rfl rfl (zfO l hne (by omega)) (by decide) rfl rfl rfl ?_|(refine shC ?_;first|refine qC c1 ?_)|refine sK ?_|refine sC (fun _=>?_) (fun _=>?_)|fail)
  refine zo (fun m:Nat=>[(7,.pv (.base (.int .u32 X))),(8,.own 0),(9,.pv (pi (((2:Nat):Int) - 1 - (m:Nat))))]) (fun m=>[(0,.row 5 1 ((l++(bytesOf X 2).take m).map u8c))]) (fun m=>m≤2) (fun m=>2 - m) 0 (by omega) (by repeat (first|exact zT|refine zM rfl ?_|(refine qg rfl ?_ ?_;· first|exact hX|rfl))) ⟨yX rfl (by simp) zl,rfl⟩ ?_
  rintro m hm
  by_cases hlt:m < 2
  ·have hs0:0≤IntKind.i64.wrap (8 * (((2:Nat):Int) - 1 - (m:Nat))):=by rw [wrap_in (by omega) (by omega)];omega
   have hge:decide (0≤((2:Nat):Int) - 1 - (m:Nat))=true:=by simp;omega
   repeat' (first|refine zu rfl (ztR rfl rfl rfl hs0) rfl rfl ?_|(refine zI ?_;first|refine yc zh rfl rfl rfl rfl rfl rfl rfl (by show _ * 1≤_;simp [bytesOf];omega) (by simp [bytesOf];omega) rfl rfl ?_)|refine sK ?_|refine sC (fun _=>?_) (fun _=>?_)|fail)
   exact ⟨m + 1,hlt,tD,by repeat (first|exact zT|refine zM rfl ?_|(refine qg rfl ?_ ?_;· (rw [wrap_in (by omega) (by omega)];omega))),⟨yX rfl (by rw [zdU hlt];simp [byteOf]) zl,rfl⟩⟩
  ·have:m=2:=by omega
   subst this
   repeat' (first|refine sK ?_|refine sC (fun _=>?_) (fun _=>?_)|fail)
   exact retq rfl (by rw [zfN];rfl)
set_option maxHeartbeats 20000000
abbrev zjQ (l:List Int):PV:=.slc 1 (l.map fun n=>.base (.int .u8 n)) true
theorem zfb (k b i d:Int) (hk:k=2∧b=8∨k=3∧b=10∨k=4∧b=28) (hd:d=0∨d=1∨d=2∨d=3):ACall Tryz.prog 301 [zjQ [6],yK ⟨k,i,d,false⟩] (u8s (6::(List.replicate d.toNat 29++[b]))):=by
 have c1:=zcI 29 d (by omega) (by omega)
 rcases hd with rfl|rfl|rfl|rfl
 all_goals rcases hk with ⟨rfl,rfl⟩|⟨rfl,rfl⟩|⟨rfl,rfl⟩
 all_goals
  refine zf zh Tryz.func301 rfl (by kernel_rfl) Tryz.ntmps301 (by simp) _ rfl (fun hw gB hgB=>?_)
  repeat' (first|(refine shC ?_;first|refine qC c1 ?_)|(refine zI ?_;first|refine zu rfl (zfh zh rfl rfl rfl rfl rfl) rfl rfl ?_|refine yc zh rfl rfl rfl rfl rfl rfl rfl (by show _ * 1≤_;simp [List.replicate]) (by simp [List.replicate]) rfl rfl ?_|refine Wu 0 zh rfl rfl rfl (.inl rfl) rfl (by simp [List.replicate]) rfl (by show _ * 1≤_;simp [List.replicate]) (by simp [List.replicate]) rfl rfl rfl ?_)|refine sA ?_|refine sC (fun _=>?_) (fun _=>?_)|fail)
  exact retq rfl rfl
theorem zpO (i d:Int) (hi0:0≤i) (hi1:i≤7) (hd:d=0∨d=1∨d=2∨d=3):∃ bs:List Int,ACall Tryz.prog 301 [zjQ [6],yK ⟨7,i,d,false⟩] (u8s bs):=by
 have c1:=zcI 29 d (by omega) (by omega)
 obtain ⟨bs,cp⟩:=ziX (6::(List.replicate d.toNat 29++[19])) (by simp) (by simp;omega) i hi0 (by omega)
 refine ⟨6::(List.replicate d.toNat 29++[19])++bs,?_⟩
 have hneg:decide (i < 0)=false:=by simp;omega
 rcases hd with rfl|rfl|rfl|rfl
 all_goals
  refine zf zh Tryz.func301 rfl (by kernel_rfl) Tryz.ntmps301 (by simp) _ rfl (fun hw gB hgB=>?_)
  repeat' (first|(refine shC ?_;first|refine qC c1 ?_|refine qC cp ?_)|(refine zI ?_;first|refine zu rfl (zfh zh rfl rfl rfl rfl rfl) rfl rfl ?_|refine yc zh rfl rfl rfl rfl rfl rfl rfl (by show _ * 1≤_;simp [List.replicate]) (by simp [List.replicate]) rfl rfl ?_|refine Wu 0 zh rfl rfl rfl (.inl rfl) rfl (by simp [List.replicate]) rfl (by show _ * 1≤_;simp [List.replicate]) (by simp [List.replicate]) rfl rfl rfl ?_)|refine sK ?_|refine sC (fun _=>?_) (fun _=>?_)|fail)
  exact retq rfl rfl
theorem ziT (k b i d:Int) (hk:k=5∧b=18∨k=6∧b=17) (hi0:0≤i) (hi1:i≤31) (hd:d=0∨d=1∨d=2∨d=3):∃ bs:List Int,ACall Tryz.prog 301 [zjQ [6],yK ⟨k,i,d,false⟩] (u8s bs):=by
 have c1:=zcI 29 d (by omega) (by omega)
 obtain ⟨bs,cp⟩:=ziX (6::(List.replicate d.toNat 29++[b])) (by simp) (by simp;omega) (4 * (i + 1)) (by omega) (by omega)
 have hw:IntKind.i64.wrap (i + 1)=i + 1:=wrap_in (by omega) (by omega)
 have cc:=zpV (i + 1) (by omega) (by omega)
 rw [←hw] at cc
 have hneg:decide (4 * IntKind.i64.wrap (i + 1) < 0)=false:=by rw [hw];simp;omega
 rw [show 4 * (i + 1)=4 * IntKind.i64.wrap (i + 1) by rw [hw]] at cp
 refine ⟨6::(List.replicate d.toNat 29++[b])++bs,?_⟩
 rcases hd with rfl|rfl|rfl|rfl
 all_goals rcases hk with ⟨rfl,rfl⟩|⟨rfl,rfl⟩
 all_goals
  refine zf zh Tryz.func301 rfl (by kernel_rfl) Tryz.ntmps301 (by simp) _ rfl (fun hw gB hgB=>?_)
  repeat' (first|(refine shC ?_;first|refine qC c1 ?_|refine qC cp ?_|refine qC cc ?_)|(refine zI ?_;first|refine zu rfl (zfh zh rfl rfl rfl rfl rfl) rfl rfl ?_|refine yc zh rfl rfl rfl rfl rfl rfl rfl (by show _ * 1≤_;simp [List.replicate]) (by simp [List.replicate]) rfl rfl ?_|refine Wu 0 zh rfl rfl rfl (.inl rfl) rfl (by simp [List.replicate]) rfl (by show _ * 1≤_;simp [List.replicate]) (by simp [List.replicate]) rfl rfl rfl ?_)|refine sK ?_|refine sC (fun _=>?_) (fun _=>?_)|fail)
  exact retq rfl rfl
set_option maxHeartbeats 20000000
structure Pt where
 c:Int
 p:Int
 f:Int
 t:Int
 deriving Inhabited
def zZ (x:Pt):PV:=.agg [pi x.c,pi x.p,pi x.f,pi x.t]
def zrW (f t:Int):PV:=.agg [pi f,pi t]
def pts (l:List Pt):PV:=.slc 4 (l.map zZ) false
def zK (k:Int) (c:Cl):List Pt:=[⟨k,1,c.tf,c.tt⟩,⟨k,2,c.hf,c.ht⟩]++(if c.kind==2 then [⟨k,3,c.filter,c.hf⟩] else [])
theorem zez (f t n:Int):ACall Tryz.prog 313 [zrW f t,pi n] (pb (decide (0≤f)&&decide (f < t)&&decide (t≤n))):=by
 refine zf zh Tryz.func313 rfl (by kernel_rfl) Tryz.ntmps313 (by simp) _ rfl (fun hw gB hgB=>?_)
 repeat' (first|refine sA ?_|refine sC (fun _=>?_) (fun _=>?_)|fail)
 all_goals first|(refine retq rfl ?_;first|(simp only [zi,BL,List.length_map] at *;simp only [*,BL,List.length_map];done)|(simp_all [zi];done)|(simp_all [zi];omega)|(simp_all [zi];intros;omega))|(refine ZA rfl ?_;first|(simp only [zi,BL,List.length_map] at *;simp only [*,BL,List.length_map];done)|(simp_all [zi];done)|(simp_all [zi];omega)|(simp_all [zi];intros;omega))|skip
def Qq (a b:Pt):Bool:=!(a.f==b.f&&(a.t==b.t&&true))&&decide (b.f≤a.f)&&decide (a.t≤b.t)
theorem zjI (a b:Pt):ACall Tryz.prog 318 [zrW a.f a.t,zrW b.f b.t] (pb (Qq a b)):=by
 refine zf zh Tryz.func318 rfl (by kernel_rfl) Tryz.ntmps318 (by simp) _ rfl (fun hw gB hgB=>?_)
 repeat' (first|refine sA ?_|refine sC (fun _=>?_) (fun _=>?_)|fail)
 all_goals (refine retq rfl ?_;first|(simp only [zi,Qq, *];done)|(simp only [zi,Qq, *];rfl)|(simp_all [zi,Qq];done))
def ZX (a b:Pt):Bool:=decide (a.f < b.t)&&decide (b.f < a.t)
theorem zmu (a b:Pt):ACall Tryz.prog 330 [zrW a.f a.t,zrW b.f b.t] (pb (ZX a b)):=by
 refine zf zh Tryz.func330 rfl (by kernel_rfl) Tryz.ntmps330 (by simp) _ rfl (fun hw gB hgB=>?_)
 repeat' (first|refine sA ?_|refine sC (fun _=>?_) (fun _=>?_)|fail)
 all_goals (refine retq rfl ?_;first|(simp only [zi,ZX, *];done)|(simp only [zi,ZX, *];rfl)|(simp_all [zi,ZX];done))
def zsd (l:List Pt) (p:Pt→Bool):Int:=if l.any p then ((l.findIdx p:Nat):Int) else -1
theorem zgv (l:List Pt) (p:Pt→Bool) (f:FuncId) (first cap:List PV) (hp:∀ x∈l,ACall Tryz.prog f (first++[zZ x]++cap) (pb (p x))):ACall Tryz.prog 331 [pts l,.fn (.func f) first cap] (pi (zsd l p)):=by
 refine zf zh Tryz.func331 rfl (by kernel_rfl) Tryz.ntmps331 (by simp) _ rfl (fun hw gB hgB=>?_)
 have hl:l.length≤9223372036854775807:=by have:=hw.1;simp [pts,PV.lenOk,maxLen] at this;exact this.1
 repeat' (first|refine sA ?_|refine sC (fun _=>?_) (fun _=>?_)|fail)
 refine zo (fun k:Nat=>[(0,.pv (pts l)),(1,.pv (.fn (.func f) first cap)),(7,.pv (pi l.length)),(8,.pv (pi k))]) (fun _=>[]) (fun k=>k≤l.length∧∀ j (h:j < k) (h2:j < l.length),p l[j]=false) (fun k=>l.length - k) 0 ⟨by omega,fun j h=>by omega⟩ (tS) tH ?_
 rintro k ⟨hk,hno⟩
 by_cases hlt:k < l.length
 ·have he:=zA (f:=zZ) hlt
  have c1:=hp _ (List.getElem_mem hlt)
  cases hpx:p l[k]
  ·rw [hpx] at c1
   repeat' (first|(refine shC ?_;first|refine qV (c1) ?_)|(refine shX ?_;first|refine qX he ?_)|refine sK ?_|refine sC (fun _=>?_) (fun _=>?_)|fail)
   exact ⟨k + 1,⟨hlt,fun j hj h2=>by
    by_cases e:j=k
    ·subst e;exact hpx
    ·exact hno j (by omega) h2⟩,tD,tS,tH⟩
  ·rw [hpx] at c1
   have hi:l.findIdx p=k:=by
    rw [List.findIdx_eq hlt]
    exact ⟨hpx,fun j hj=>hno j hj (by omega)⟩
   have ha:l.any p=true:=List.any_eq_true.2 ⟨_,List.getElem_mem hlt,hpx⟩
   repeat' (first|(refine shC ?_;first|refine qV (c1) ?_)|(refine shX ?_;first|refine qX he ?_)|refine sK ?_|refine sC (fun _=>?_) (fun _=>?_)|fail)
   exact retq rfl (by simp [zi,zsd,ha,hi])
 ·have ha:l.any p=false:=by
   rw [List.any_eq_false]
   intro x hx
   obtain ⟨j,hj,rfl⟩:=List.getElem_of_mem hx
   simp [hno j (by omega) hj]
  repeat' (first|refine sK ?_|refine sC (fun _=>?_) (fun _=>?_)|fail)
  exact retq rfl (by simp [zi,zsd,ha])
theorem YJ (l:List Pt) (p:Pt→Bool) (f:FuncId) (first cap:List PV) (hp:∀ x∈l,ACall Tryz.prog f (first++[zZ x]++cap) (pb (p x))):ACall Tryz.prog 316 [pts l,.fn (.func f) first cap] (pb (l.any p)):=by
 refine zf zh Tryz.func316 rfl (by kernel_rfl) Tryz.ntmps316 (by simp) _ rfl (fun hw gB hgB=>?_)
 have c1:=zgv l p f first cap hp
 repeat' (first|(refine shC ?_;first|refine qC c1 ?_)|refine sA ?_|refine sC (fun _=>?_) (fun _=>?_)|fail)
 refine retq rfl ?_
 have:decide (0≤zsd l p)=l.any p:=by
  unfold zsd
  cases h:l.any p <;> simp
 simp [zi,this]
theorem zj3 (a b:Pt) (may:Pt→Pt→Bool) (mf:FuncId) (hm:∀ x y,ACall Tryz.prog mf [zZ x,zZ y] (pb (may x y))):ACall Tryz.prog 329 [zZ b,.ptr (zZ a) 0,.ptr (.fn (.func mf) [] []) 0] (pb (ZX a b&&!may a b)):=by
 refine zf zh Tryz.func329 rfl (by kernel_rfl) Tryz.ntmps329 (by simp) _ rfl (fun hw gB hgB=>?_)
 repeat' (first|(refine shC ?_;first|refine qC (zmu a b) ?_|refine qV (hm a b) ?_)|refine sA ?_|refine sC (fun _=>?_) (fun _=>?_)|fail)
 all_goals (refine retq rfl ?_;simp_all [zi];done)
theorem zlz (a:Pt) (m:List Pt) (may:Pt→Pt→Bool) (mf:FuncId) (hm:∀ x y,ACall Tryz.prog mf [zZ x,zZ y] (pb (may x y))):ACall Tryz.prog 328 [zZ a,.ptr (pts m) 0,.ptr (.fn (.func mf) [] []) 0] (pb (m.any fun b=>ZX a b&&!may a b)):=by
 refine zf zh Tryz.func328 rfl (by kernel_rfl) Tryz.ntmps328 (by simp) _ rfl (fun hw gB hgB=>?_)
 have c1:=YJ m (fun b=>ZX a b&&!may a b) 329 [] [.ptr (zZ a) 0,.ptr (.fn (.func mf) [] []) 0] (fun b _=>zj3 a b may mf hm)
 repeat' (first|(refine shC ?_;first|refine qC c1 ?_)|refine sA ?_|refine sC (fun _=>?_) (fun _=>?_)|fail)
 exact retq rfl rfl
def zck (l m:List Pt) (may:Pt→Pt→Bool):Bool:=l.any fun a=>m.any fun b=>ZX a b&&!may a b
theorem zdq (l m:List Pt) (may:Pt→Pt→Bool) (mf:FuncId) (hm:∀ x y,ACall Tryz.prog mf [zZ x,zZ y] (pb (may x y))):ACall Tryz.prog 314 [pts l,pts m,.fn (.func mf) [] []] (pb (zck l m may)):=by
 refine zf zh Tryz.func314 rfl (by kernel_rfl) Tryz.ntmps314 (by simp) _ rfl (fun hw gB hgB=>?_)
 have c1:=YJ l (fun a=>m.any fun b=>ZX a b&&!may a b) 328 [] [.ptr (pts m) 0,.ptr (.fn (.func mf) [] []) 0] (fun a _=>zlz a m may mf hm)
 repeat' (first|(refine shC ?_;first|refine qC c1 ?_)|refine sA ?_|refine sC (fun _=>?_) (fun _=>?_)|fail)
 exact retq rfl rfl
theorem zan (k:Int) (c:Cl):ACall Tryz.prog 139 [pi k,yI c] (pts (zK k c)):=by
 refine zf zh Tryz.func139 rfl (by kernel_rfl) Tryz.ntmps139 (by simp) _ rfl (fun hw gB hgB=>?_)
 rcases Bool.eq_false_or_eq_true (c.kind==2) with hk|hk
 ·have e:pts (zK k c)=.slc 4 [zZ ⟨k,1,c.tf,c.tt⟩,zZ ⟨k,2,c.hf,c.ht⟩,zZ ⟨k,3,c.filter,c.hf⟩] false:=by simp [pts,zK,hk]
  repeat' (first|(refine zI ?_;first|refine zu rfl (XB zh rfl rfl (.inl rfl) rfl rfl (by show _ * 32≤_;simp) (by simp)) rfl rfl ?_)|refine sK ?_|refine sC (fun _=>?_) (fun _=>?_)|fail)
  exact retq rfl (by rw [e];rfl)
 ·have e:pts (zK k c)=.slc 4 [zZ ⟨k,1,c.tf,c.tt⟩,zZ ⟨k,2,c.hf,c.ht⟩] false:=by simp [pts,zK,hk]
  repeat' (first|refine sK ?_|refine sC (fun _=>?_) (fun _=>?_)|fail)
  exact zcA (t:=4) (a:=.pv (.slc 4 [zZ ⟨k,1,c.tf,c.tt⟩,zZ ⟨k,2,c.hf,c.ht⟩] true)) (b:=.pv (pts (zK k c))) (ps:=[pts (zK k c)]) rfl (by rw [e];exact zdv 4 _ true) rfl rfl
theorem zla (a b:Pt):ACall Tryz.prog 315 [zZ a,zZ b] (pb (a.c==b.c&&(a.p==b.p&&true))):=by
 refine zf zh Tryz.func315 rfl (by kernel_rfl) Tryz.ntmps315 (by simp) _ rfl (fun hw gB hgB=>?_)
 repeat' (first|refine sA ?_|refine sC (fun _=>?_) (fun _=>?_)|fail)
 exact retq rfl rfl
theorem zni (y x:Pt):ACall Tryz.prog 317 [zZ y,.ptr (zZ x) 0] (pb (!Qq y x)):=by
 refine zf zh Tryz.func317 rfl (by kernel_rfl) Tryz.ntmps317 (by simp) _ rfl (fun hw gB hgB=>?_)
 repeat' (first|(refine shC ?_;first|refine qC (zjI y x) ?_)|refine sA ?_|refine sC (fun _=>?_) (fun _=>?_)|fail)
 exact retq rfl rfl
theorem znm (y x:Pt):ACall Tryz.prog 319 [zZ y,.ptr (zZ x) 0] (pb (y.p != 1&&y.f==x.f)):=by
 refine zf zh Tryz.func319 rfl (by kernel_rfl) Tryz.ntmps319 (by simp) _ rfl (fun hw gB hgB=>?_)
 repeat' (first|refine sA ?_|refine sC (fun _=>?_) (fun _=>?_)|fail)
 all_goals (refine retq rfl ?_;simp_all [zi];done)
theorem znZ (x y:Pt):ACall Tryz.prog 320 [zZ x,zZ y] (pb (x.p==1&&y.p==1)):=by
 refine zf zh Tryz.func320 rfl (by kernel_rfl) Tryz.ntmps320 (by simp) _ rfl (fun hw gB hgB=>?_)
 repeat' (first|refine sA ?_|refine sC (fun _=>?_) (fun _=>?_)|fail)
 all_goals (refine retq rfl ?_;simp_all [zi];done)
theorem zoq (x y:Pt):ACall Tryz.prog 321 [zZ x,zZ y] (pb false):=by
 refine zf zh Tryz.func321 rfl (by kernel_rfl) Tryz.ntmps321 (by simp) _ rfl (fun hw gB hgB=>?_)
 repeat' (first|refine sA ?_|refine sC (fun _=>?_) (fun _=>?_)|fail)
 exact retq rfl rfl
def zrM (a b:Pt):Bool:=a.c==b.c&&(a.p==b.p&&true)
def zrj (x y:Pt):Bool:=x.p==1&&y.p==1
def zbE (n:Int) (c:Cl):Int :=
 if decide (c.kind < 1)||decide (4 < c.kind)||!WT n c||!zbK n c then 3
 else if c.kind==2&&(decide (c.filter < 0)||decide (c.hf≤c.filter))||c.kind != 2&&c.filter != -1 then 3
 else if zck (zK 0 c) (zK 0 c) zrM then 12
 else 0
set_option maxHeartbeats 4000000 in
theorem zlL (n:Int) (c:Cl):ACall Tryz.prog 304 [pi n,yI c] (pi (zbE n c)):=by
 refine zf zh Tryz.func304 rfl (by kernel_rfl) Tryz.ntmps304 (by simp) _ rfl (fun hw gB hgB=>?_)
 have c1:=zez c.tf c.tt n
 have c2:=zez c.hf c.ht n
 have c3:=zdq (zK 0 c) (zK 0 c) zrM 315 zla
 have e1:(decide (0≤c.tf)&&decide (c.tf < c.tt)&&decide (c.tt≤n))=WT n c:=rfl
 have e2:(decide (0≤c.hf)&&decide (c.hf < c.ht)&&decide (c.ht≤n))=zbK n c:=rfl
 rw [e1] at c1
 rw [e2] at c2
 repeat' (first|(refine shC ?_;first|refine qC c1 ?_|refine qC c2 ?_|refine qC (zan 0 c) ?_|refine qC c3 ?_)|refine sA ?_|refine sC (fun _=>?_) (fun _=>?_)|fail)
 all_goals (refine retq rfl ?_;first|(simp only [zi,zbE, *];done)|(simp only [zi,zbE, *];rfl)|(simp_all [zi,zbE];done)|(simp_all [zi,zbE];omega))
def Wy (a:Cl) (x:Pt):Bool:=!((zK 0 a).any fun y=>!Qq y x)
def zeb (a:Cl) (x:Pt):Bool:=(zK 0 a).any fun y=>y.p != 1&&y.f==x.f
def zgF (a b:Cl):Bool :=
 if a.tf==b.tf&&(a.tt==b.tt&&true) then !zck (zK 0 a) (zK 1 b) zrj else !zck (zK 0 a) (zK 1 b) (fun _ _=>false)
def zdI (a b:Cl):List Pt→Bool
 | []=>zgF a b
 | x::l=>if Wy a x then x.p==1||!zeb a x else zdI a b l
def zhv (a b:Cl):Bool:=zdI a b (zK 1 b)
set_option maxHeartbeats 2000000 in
theorem znx (a b:Cl):ACall Tryz.prog 305 [yI a,yI b] (pb (zhv a b)):=by
 refine zf zh Tryz.func305 rfl (by kernel_rfl) Tryz.ntmps305 (by simp) _ rfl (fun hw gB hgB=>?_)
 have hlen:(zK 1 b).length≤3:=by unfold zK;split <;> simp
 have h0a:((zK 0 a).map zZ)[(0:Int).toNat]?=some (zZ ⟨0,1,a.tf,a.tt⟩):=by simp [zK]
 have h0b:((zK 1 b).map zZ)[(0:Int).toNat]?=some (zZ ⟨1,1,b.tf,b.tt⟩):=by simp [zK]
 have ce:=zdq (zK 0 a) (zK 1 b) zrj 320 znZ
 have cf:=zdq (zK 0 a) (zK 1 b) (fun _ _=>false) 321 zoq
 repeat' (first|(refine shC ?_;first|refine qC (zan 0 a) ?_|refine qC (zan 1 b) ?_)|refine sA ?_|refine sC (fun _=>?_) (fun _=>?_)|fail)
 refine zo (fun k:Nat=>[(5,.pv (pts (zK 0 a))),(6,.pv (pts (zK 1 b))),(14,.pv (pts (zK 1 b))),(15,.pv (pi (zK 1 b).length)),(16,.pv (pi k))]) (fun _=>[]) (fun k=>k≤(zK 1 b).length∧zhv a b=zdI a b ((zK 1 b).drop k)) (fun k=>(zK 1 b).length - k) 0 ⟨by omega,rfl⟩ (tS) tH ?_
 rintro k ⟨hk,hr⟩
 by_cases hlt:k < (zK 1 b).length
 ·have he:=zA (f:=zZ) hlt
  rw [drop_cons hlt,zdI] at hr
  generalize (zK 1 b)[k]=x at he hr
  have c1:=YJ (zK 0 a) (fun y=>!Qq y x) 317 [] [.ptr (zZ x) 0] (fun y _=>zni y x)
  have c2:=YJ (zK 0 a) (fun y=>y.p != 1&&y.f==x.f) 319 [] [.ptr (zZ x) 0] (fun y _=>znm y x)
  cases ha:(zK 0 a).any fun y=>!Qq y x
  ·rw [ha] at c1
   rw [show Wy a x=true by rw [Wy,ha];rfl,if_pos rfl] at hr
   repeat' (first|refine zbc (t:=8) rfl rfl rfl ?_|(refine shC ?_;first|refine qC c1 ?_|refine qC c2 ?_)|(refine shX ?_;first|refine qX he ?_)|refine sK ?_|refine sC (fun _=>?_) (fun _=>?_)|fail)
   all_goals (refine retq rfl ?_;rw [hr];simp_all [zi,zeb];done)
  ·rw [ha] at c1
   rw [show Wy a x=false by rw [Wy,ha];rfl,if_neg (by simp)] at hr
   repeat' (first|refine zbc (t:=8) rfl rfl rfl ?_|(refine shC ?_;first|refine qC c1 ?_)|(refine shX ?_;first|refine qX he ?_)|refine sK ?_|refine sC (fun _=>?_) (fun _=>?_)|fail)
   exact ⟨k + 1,⟨hlt,hr⟩,tD,tS,tH⟩
 ·rw [drop_end (by omega),zdI,zgF] at hr
  repeat' (first|(refine shC ?_;first|refine qC ce ?_|refine qC cf ?_)|(refine shX ?_;first|refine qX h0a ?_|refine qX h0b ?_)|refine sK ?_|refine sC (fun _=>?_) (fun _=>?_)|fail)
  all_goals (refine retq rfl ?_;rw [hr];simp_all [zi];done)
structure OkC (c:Cl):Prop where
 t:c.tf < c.tt
 h:c.hf < c.ht
 h0:0≤c.hf
 t0:0≤c.tf
 f:c.kind=2→0≤c.filter∧c.filter < c.hf
theorem zen {n:Int} {c:Cl} (h:ZW n c=0):OkC c:=by
 unfold ZW at h
 split at h
 ·simp at h
 ·split at h
  ·simp at h
  ·rename_i h1 h2
   simp [WT,zbK] at h1 h2
   exact ⟨by omega,by omega,by omega,by omega,fun hk=>by simp [hk] at h2;omega⟩
theorem Vh {a b:Cl} {p q:Int} {x y:Pt} (hx:bounds a p=(x.f,x.t)) (hy:bounds b q=(y.f,y.t)) (h1:x.f < x.t) (h2:y.f < y.t):meet a p b q=ZX x y:=by
 simp [meet,ZX,hx,hy,h1,h2]
theorem zoP {a b:Cl} {p q:Int} (h:¬ (bounds a p).1 < (bounds a p).2∨¬ (bounds b q).1 < (bounds b q).2):meet a p b q=false:=by
 simp only [meet,Bool.and_eq_false_iff,decide_eq_false_iff_not]
 rcases h with h|h
 ·exact .inl (.inr h)
 ·exact .inr h
theorem zfz {a b:Cl} {p q:Int} {x y:Pt} (hx:bounds a p=(x.f,x.t)) (hy:bounds b q=(y.f,y.t)) (h1:x.f < x.t):within a p b q=Qq x y:=by
 rw [Bool.eq_iff_iff]
 simp [within,Qq,hx,hy]
 omega
theorem zlY {a b:Cl} {q:Int} (h:a.kind≠2):within a 3 b q=true:=by simp [within,bounds,h]
theorem zol {n:Int} {c:Cl}:zbE n c=ZW n c:=by
 unfold zbE ZW
 split
 ·rfl
 ·split
  ·rfl
  ·rename_i h1 h2
   have hok:OkC c:=by
    simp [WT,zbK] at h1 h2
    exact ⟨by omega,by omega,by omega,by omega,fun hk=>by simp [hk] at h2;omega⟩
   have e:zck (zK 0 c) (zK 0 c) zrM=(meet c 1 c 2||meet c 1 c 3||meet c 2 c 3):=by
    obtain ⟨g1,g2,g3,g4,g5⟩:=hok
    rw [Bool.eq_iff_iff]
    by_cases hk:c.kind=2
    ·have:=g5 hk
     simp [zck,zK,hk,zrM,ZX,meet,bounds]
     omega
    ·simp [zck,zK,hk,zrM,ZX,meet,bounds]
     omega
   rw [e]
set_option maxHeartbeats 20000000
theorem QN (td:TD) (b:Int):ACall Tryz.prog 241 [pi b,.ptr (Zb td) 0] (pb (qB td.flags b)):=by
 refine zf zh Tryz.func241 rfl (by kernel_rfl) Tryz.ntmps241 (by simp) _ rfl (fun hw gB hgB=>?_)
 repeat' (first|refine sA ?_|refine sC (fun _=>?_) (fun _=>?_)|fail)
 exact retq rfl rfl
def Yd (td:TD):Bool :=
 if zgc td.flags==2 then qB td.flags 4&&!qB td.flags 1&&!qB td.flags 8&&!qB td.flags 16&&td.ext == -1
 else if zgc td.flags==1 then qB td.flags 8&&!qB td.flags 4&&!qB td.flags 16&&td.ext == -1
 else if zgc td.flags==3 then qB td.flags 8&&!qB td.flags 4&&td.ext == -1&&((td.faces.length:Int)==0)
 else true
theorem ziJ (td:TD):ACall Tryz.prog 217 [Zb td] (pb (Yd td)):=by
 refine zf zh Tryz.func217 rfl (by kernel_rfl) Tryz.ntmps217 (by simp) _ rfl (fun hw gB hgB=>?_)
 repeat' (first|(refine shC ?_;first|refine qC (zeL td) ?_|refine qV (QN td 1) ?_|refine qV (QN td 4) ?_|refine qV (QN td 8) ?_|refine qV (QN td 16) ?_)|refine sA ?_|refine sC (fun _=>?_) (fun _=>?_)|fail)
 all_goals first|(refine retq rfl ?_;first|(simp only [zi,Yd,BL,List.length_map] at *;simp only [*,BL,List.length_map];done)|(simp_all [zi,Yd];done)|(simp_all [zi,Yd];omega)|(simp_all [zi,Yd];intros;omega))|(refine ZA rfl ?_;first|(simp only [zi,Yd,BL,List.length_map] at *;simp only [*,BL,List.length_map];done)|(simp_all [zi,Yd];done)|(simp_all [zi,Yd];omega)|(simp_all [zi,Yd];intros;omega))|skip
def ziA (g:Img) (t:Int) (td:TD):Bool:=td.ext == -1||(YU g td.ext==0&&!qB (Xn g td.ext) 8&&WX g t == -1)
theorem ziL (g:Img) (t:Int) (td:TD) (htd:typeAt g t=some td) (hg:g.types.length≤1000):ACall Tryz.prog 218 [zq g,pi t] (pb (ziA g t td)):=by
 refine zf zh Tryz.func218 rfl (by kernel_rfl) Tryz.ntmps218 (by simp) _ rfl (fun hw gB hgB=>?_)
 obtain ⟨h0,he⟩:=yQ htd
 have hui:=XR g t
 have hul:=qR _ _ hui.1 hui.2
 obtain ⟨ur,hur⟩:=zdV htd
 have hpos:0 < (up g t).length:=by rw [hur];simp
 have hlast:(up g t)[(up g t).length - 1]?=some ((up g t).getLastD 0):=by
  rw [hur];simp [List.getLastD_eq_getLast?,List.getLast?_eq_getElem?]
 have hlt:(up g t).length - 1 < (up g t).length:=by omega
 obtain ⟨tl,htl⟩:=ZF (g:=g) (t:=(up g t).getLastD 0) (hui.2 _ (List.mem_of_getElem? hlast))
 obtain ⟨hl0,hel⟩:=yQ htl
 have hw1:IntKind.i64.wrap (((up g t).map pi).length - 1:Int)=(((up g t).length - 1:Nat):Int):=by rw [List.length_map,wrap_in (by omega) (by omega)];omega
 have heU:((up g t).map pi)[(IntKind.i64.wrap (((up g t).map pi).length - 1:Int)).toNat]?=some (pi ((up g t).getLastD 0)):=by rw [hw1];simp [hlast]
 have htop:WX g t=tl.ext:=by rw [WX,htl]
 by_cases h1:td.ext = -1
 ·have h1b:(td.ext == -1)=true:=by simp [h1]
  repeat' (first|(refine shX ?_;first|refine zu rfl (zk zh rfl rfl rfl rfl rfl rfl h0 he) rfl rfl ?_|refine AD.step _ _ _ _ _ rfl (zk zh rfl rfl rfl rfl rfl rfl h0 he) rfl rfl ?_)|refine sK ?_|refine sC (fun _=>?_) (fun _=>?_)|fail)
  exact retq rfl (by simp [zi,ziA,h1])
 ·have h1b:(td.ext == -1)=false:=by simp [h1]
  have c1:=zdr g td.ext
  by_cases hk:YU g td.ext=0
  ·rw [hk] at c1
   obtain ⟨te,hte⟩:∃ te,typeAt g td.ext=some te:=by
    rw [YU] at hk
    cases h:typeAt g td.ext with
    | none=>rw [h] at hk;simp at hk
    | some te=>exact ⟨te,rfl⟩
   obtain ⟨he0,hee⟩:=yQ hte
   have hfa:Xn g td.ext=te.flags:=by rw [Xn,hte]
   have hres:ziA g t td=(!qB te.flags 8&&tl.ext == -1):=by rw [ziA,h1b,hk,hfa,htop];rfl
   repeat' (first|(refine shC ?_;first|refine qC c1 ?_|refine qC (YM g t hg) ?_)|(refine shX ?_;first|refine zu rfl (zk zh rfl rfl rfl rfl rfl rfl h0 he) rfl rfl ?_|refine AD.step _ _ _ _ _ rfl (zk zh rfl rfl rfl rfl rfl rfl h0 he) rfl rfl ?_|refine zu rfl (zk zh rfl rfl rfl rfl rfl rfl he0 hee) rfl rfl ?_|refine AD.step _ _ _ _ _ rfl (zk zh rfl rfl rfl rfl rfl rfl he0 hee) rfl rfl ?_|refine zu rfl (zk zh rfl rfl rfl rfl rfl rfl (by rw [hw1];omega) heU) rfl rfl ?_|refine AD.step _ _ _ _ _ rfl (zk zh rfl rfl rfl rfl rfl rfl (by rw [hw1];omega) heU) rfl rfl ?_|refine zu rfl (zk zh rfl rfl rfl rfl rfl rfl hl0 hel) rfl rfl ?_|refine AD.step _ _ _ _ _ rfl (zk zh rfl rfl rfl rfl rfl rfl hl0 hel) rfl rfl ?_)|refine sA ?_|refine sC (fun _=>?_) (fun _=>?_)|fail)
   all_goals (refine retq rfl ?_;rw [hres];simp_all [zi,qB])
  ·have hkb:(YU g td.ext==0)=false:=by simp [hk]
   repeat' (first|(refine shC ?_;first|refine qC c1 ?_|refine qC (YM g t hg) ?_)|(refine shX ?_;first|refine zu rfl (zk zh rfl rfl rfl rfl rfl rfl h0 he) rfl rfl ?_|refine AD.step _ _ _ _ _ rfl (zk zh rfl rfl rfl rfl rfl rfl h0 he) rfl rfl ?_)|refine sK ?_|refine sC (fun _=>?_) (fun _=>?_)|fail)
   all_goals (refine retq rfl ?_;simp [zi,ziA,h1b,hkb])
def zu7 (n:UInt8) (e:Int):TD:=⟨⟨#[n]⟩,0,e,[]⟩
abbrev wTD (n:UInt8) (e:Int):PV:=.agg [.base (.string ⟨#[n]⟩),pi 0,pi e,.base (.slice none 0 0)]
theorem zpW (n:UInt8) (e:Int):PTL (wTD n e).cells (Zb (zu7 n e)).cells :=
 yJ (.refl _) (yJ (.refl _) (yJ (.refl _) (yJ (zbj 1 false) zbm)))
def eqF (p:Ty→Ty→Bool) (a b:List Ty):Bool:=decide (a.length=b.length)&&(List.range a.length).all fun i=>p (a.getD i default) (b.getD i default)
def zq4 (g:Img) (a b:List Ty):Bool:=eqF (zdb g) a b
def zpG (g:Img):List Ty→List Ty→List Ty→List Ty × Int
 | x::a,y::b,out=>if (zoz g x y).2 != 0 then ([],(zoz g x y).2) else zpG g a b (out++[(zoz g x y).1])
 | [],_,out=>(out,0)
 | _,[],out=>(out,0)
def zc4 (g:Img) (a b:List Ty):List Ty × Int:=if a.length≠b.length then ([],9) else zpG g a b []
end Go.Cg
