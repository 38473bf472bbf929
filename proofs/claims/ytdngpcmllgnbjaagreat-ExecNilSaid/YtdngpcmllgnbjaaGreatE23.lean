/- A part of the walks by abstract values: no statement of its own. -/
import Derived.Test.YtdngpcmllgnbjaaGreatE18
import Derived.Test.YtdngpcmllgnbjaaGreatE15
import Derived.Test.YtdngpcmllgnbjaaGreatE14
import Derived.Test.YtdngpcmllgnbjaaGreatE17
import Derived.Test.YtdngpcmllgnbjaaGreatE7
import Derived.Test.YtdngpcmllgnbjaaGreatE19
set_option linter.unusedVariables false
set_option linter.unusedSimpArgs false
namespace Go.Cg
open Go.Proofs
set_option maxHeartbeats 20000000
structure Pt where
 c:Int
 p:Int
 f:Int
 t:Int
 deriving Inhabited
def yg (x:Pt):PV:=.agg [pi x.c,pi x.p,pi x.f,pi x.t]
def zrh (f t:Int):PV:=.agg [pi f,pi t]
def pts (l:List Pt):PV:=.slc 4 (l.map yg) false
def zU (k:Int) (c:Cl):List Pt:=[⟨k,1,c.tf,c.tt⟩,⟨k,2,c.hf,c.ht⟩]++(if c.kind==2 then [⟨k,3,c.filter,c.hf⟩] else [])
theorem zeo (f t n:Int):ACall Tryz.prog 474 [zrh f t,pi n] (pb (decide (0≤f)&&decide (f < t)&&decide (t≤n))):=by
 refine zf zh Tryz.func474 rfl (by kernel_rfl) Tryz.ntmps474 (by simp) _ rfl (fun hw gB hgB=>?_)
 repeat' (first|refine sA ?_|refine sC (fun _=>?_) (fun _=>?_)|fail)
 all_goals first|(refine retq rfl ?_;first|(simp only [zn,BL,List.length_map] at *;simp only [*,BL,List.length_map];done)|(simp_all [zn];done)|(simp_all [zn];omega)|(simp_all [zn];intros;omega))|(refine zb0 rfl ?_;first|(simp only [zn,BL,List.length_map] at *;simp only [*,BL,List.length_map];done)|(simp_all [zn];done)|(simp_all [zn];omega)|(simp_all [zn];intros;omega))|skip
def YZ (a b:Pt):Bool:=!(a.f==b.f&&(a.t==b.t&&true))&&decide (b.f≤a.f)&&decide (a.t≤b.t)
theorem zk3 (a b:Pt):ACall Tryz.prog 479 [zrh a.f a.t,zrh b.f b.t] (pb (YZ a b)):=by
 refine zf zh Tryz.func479 rfl (by kernel_rfl) Tryz.ntmps479 (by simp) _ rfl (fun hw gB hgB=>?_)
 repeat' (first|refine sA ?_|refine sC (fun _=>?_) (fun _=>?_)|fail)
 all_goals (refine retq rfl ?_;first|(simp only [zn,YZ, *];done)|(simp only [zn,YZ, *];rfl)|(simp_all [zn,YZ];done))
def ZK (a b:Pt):Bool:=decide (a.f < b.t)&&decide (b.f < a.t)
theorem zlP (a b:Pt):ACall Tryz.prog 488 [zrh a.f a.t,zrh b.f b.t] (pb (ZK a b)):=by
 refine zf zh Tryz.func488 rfl (by kernel_rfl) Tryz.ntmps488 (by simp) _ rfl (fun hw gB hgB=>?_)
 repeat' (first|refine sA ?_|refine sC (fun _=>?_) (fun _=>?_)|fail)
 all_goals (refine retq rfl ?_;first|(simp only [zn,ZK, *];done)|(simp only [zn,ZK, *];rfl)|(simp_all [zn,ZK];done))
def ztj (l:List Pt) (p:Pt→Bool):Int:=if l.any p then ((l.findIdx p:Nat):Int) else -1
theorem zgl (l:List Pt) (p:Pt→Bool) (f:FuncId) (first cap:List PV) (hp:∀ x∈l,ACall Tryz.prog f (first++[yg x]++cap) (pb (p x))):ACall Tryz.prog 489 [pts l,.fn (.func f) first cap] (pi (ztj l p)):=by
 refine zf zh Tryz.func489 rfl (by kernel_rfl) Tryz.ntmps489 (by simp) _ rfl (fun hw gB hgB=>?_)
 have hl:l.length≤9223372036854775807:=by have:=hw.1;simp [pts,PV.lenOk,maxLen] at this;exact this.1
 repeat' (first|refine sA ?_|refine sC (fun _=>?_) (fun _=>?_)|fail)
 refine zB (fun k:Nat=>[(0,.pv (pts l)),(1,.pv (.fn (.func f) first cap)),(7,.pv (pi l.length)),(8,.pv (pi k))]) (fun _=>[]) (fun k=>k≤l.length∧∀ j (h:j < k) (h2:j < l.length),p l[j]=false) (fun k=>l.length - k) 0 ⟨by omega,fun j h=>by omega⟩ (tS) tH ?_
 rintro k ⟨hk,hno⟩
 by_cases hlt:k < l.length
 ·have he:=yc (f:=yg) hlt
  have c1:=hp _ (List.getElem_mem hlt)
  cases hpx:p l[k]
  ·rw [hpx] at c1
   repeat' (first|(refine shC ?_;first|refine qV (c1) ?_)|(refine shX ?_;first|refine qX he ?_)|refine sK ?_|refine sC (fun _=>?_) (fun _=>?_)|fail)
   exact ⟨k + 1,⟨hlt,fun j hj h2=>by
    by_cases e:j=k
    ·subst e;exact hpx
    ·exact hno j (by omega) h2⟩,tD,tS,tH⟩
  ·rw [hpx] at c1
   have hi:l.findIdx p=k:=by
    rw [List.findIdx_eq hlt]
    exact ⟨hpx,fun j hj=>hno j hj (by omega)⟩
   have ha:l.any p=true:=List.any_eq_true.2 ⟨_,List.getElem_mem hlt,hpx⟩
   repeat' (first|(refine shC ?_;first|refine qV (c1) ?_)|(refine shX ?_;first|refine qX he ?_)|refine sK ?_|refine sC (fun _=>?_) (fun _=>?_)|fail)
   exact retq rfl (by simp [zn,ztj,ha,hi])
 ·have ha:l.any p=false:=by
   rw [List.any_eq_false]
   intro x hx
   obtain ⟨j,hj,rfl⟩:=List.getElem_of_mem hx
   simp [hno j (by omega) hj]
  repeat' (first|refine sK ?_|refine sC (fun _=>?_) (fun _=>?_)|fail)
  exact retq rfl (by simp [zn,ztj,ha])
theorem Yx (l:List Pt) (p:Pt→Bool) (f:FuncId) (first cap:List PV) (hp:∀ x∈l,ACall Tryz.prog f (first++[yg x]++cap) (pb (p x))):ACall Tryz.prog 477 [pts l,.fn (.func f) first cap] (pb (l.any p)):=by
 refine zf zh Tryz.func477 rfl (by kernel_rfl) Tryz.ntmps477 (by simp) _ rfl (fun hw gB hgB=>?_)
 have c1:=zgl l p f first cap hp
 repeat' (first|(refine shC ?_;first|refine qC c1 ?_)|refine sA ?_|refine sC (fun _=>?_) (fun _=>?_)|fail)
 refine retq rfl ?_
 have:decide (0≤ztj l p)=l.any p:=by
  unfold ztj
  cases h:l.any p <;> simp
 simp [zn,this]
theorem zkG (a b:Pt) (may:Pt→Pt→Bool) (mf:FuncId) (hm:∀ x y,ACall Tryz.prog mf [yg x,yg y] (pb (may x y))):ACall Tryz.prog 487 [yg b,.ptr (yg a) 0,.ptr (.fn (.func mf) [] []) 0] (pb (ZK a b&&!may a b)):=by
 refine zf zh Tryz.func487 rfl (by kernel_rfl) Tryz.ntmps487 (by simp) _ rfl (fun hw gB hgB=>?_)
 repeat' (first|(refine shC ?_;first|refine qC (zlP a b) ?_|refine qV (hm a b) ?_)|refine sA ?_|refine sC (fun _=>?_) (fun _=>?_)|fail)
 all_goals (refine retq rfl ?_;simp_all [zn];done)
theorem zm8 (a:Pt) (m:List Pt) (may:Pt→Pt→Bool) (mf:FuncId) (hm:∀ x y,ACall Tryz.prog mf [yg x,yg y] (pb (may x y))):ACall Tryz.prog 486 [yg a,.ptr (pts m) 0,.ptr (.fn (.func mf) [] []) 0] (pb (m.any fun b=>ZK a b&&!may a b)):=by
 refine zf zh Tryz.func486 rfl (by kernel_rfl) Tryz.ntmps486 (by simp) _ rfl (fun hw gB hgB=>?_)
 have c1:=Yx m (fun b=>ZK a b&&!may a b) 487 [] [.ptr (yg a) 0,.ptr (.fn (.func mf) [] []) 0] (fun b _=>zkG a b may mf hm)
 repeat' (first|(refine shC ?_;first|refine qC c1 ?_)|refine sA ?_|refine sC (fun _=>?_) (fun _=>?_)|fail)
 exact retq rfl rfl
def zcc (l m:List Pt) (may:Pt→Pt→Bool):Bool:=l.any fun a=>m.any fun b=>ZK a b&&!may a b
theorem zdc (l m:List Pt) (may:Pt→Pt→Bool) (mf:FuncId) (hm:∀ x y,ACall Tryz.prog mf [yg x,yg y] (pb (may x y))):ACall Tryz.prog 475 [pts l,pts m,.fn (.func mf) [] []] (pb (zcc l m may)):=by
 refine zf zh Tryz.func475 rfl (by kernel_rfl) Tryz.ntmps475 (by simp) _ rfl (fun hw gB hgB=>?_)
 have c1:=Yx l (fun a=>m.any fun b=>ZK a b&&!may a b) 486 [] [.ptr (pts m) 0,.ptr (.fn (.func mf) [] []) 0] (fun a _=>zm8 a m may mf hm)
 repeat' (first|(refine shC ?_;first|refine qC c1 ?_)|refine sA ?_|refine sC (fun _=>?_) (fun _=>?_)|fail)
 exact retq rfl rfl
theorem VJ (k:Int) (c:Cl):ACall Tryz.prog 367 [pi k,ZJ c] (pts (zU k c)):=by
 refine zf zh Tryz.func367 rfl (by kernel_rfl) Tryz.ntmps367 (by simp) _ rfl (fun hw gB hgB=>?_)
 rcases Bool.eq_false_or_eq_true (c.kind==2) with hk|hk
 ·have e:pts (zU k c)=.slc 4 [yg ⟨k,1,c.tf,c.tt⟩,yg ⟨k,2,c.hf,c.ht⟩,yg ⟨k,3,c.filter,c.hf⟩] false:=by simp [pts,zU,hk]
  repeat' (first|(refine zL ?_;first|refine zo rfl (ZR zh rfl rfl (.inl rfl) rfl rfl (by show _ * 32≤_;simp) (by simp)) rfl rfl ?_)|refine sK ?_|refine sC (fun _=>?_) (fun _=>?_)|fail)
  exact retq rfl (by rw [e];rfl)
 ·have e:pts (zU k c)=.slc 4 [yg ⟨k,1,c.tf,c.tt⟩,yg ⟨k,2,c.hf,c.ht⟩] false:=by simp [pts,zU,hk]
  repeat' (first|refine sK ?_|refine sC (fun _=>?_) (fun _=>?_)|fail)
  exact Yl (t:=4) (a:=.pv (.slc 4 [yg ⟨k,1,c.tf,c.tt⟩,yg ⟨k,2,c.hf,c.ht⟩] true)) (b:=.pv (pts (zU k c))) (ps:=[pts (zU k c)]) rfl (by rw [e];exact Xp 4 _ true) rfl rfl
theorem zmW (a b:Pt):ACall Tryz.prog 476 [yg a,yg b] (pb (a.c==b.c&&(a.p==b.p&&true))):=by
 refine zf zh Tryz.func476 rfl (by kernel_rfl) Tryz.ntmps476 (by simp) _ rfl (fun hw gB hgB=>?_)
 repeat' (first|refine sA ?_|refine sC (fun _=>?_) (fun _=>?_)|fail)
 exact retq rfl rfl
theorem znV (y x:Pt):ACall Tryz.prog 478 [yg y,.ptr (yg x) 0] (pb (!YZ y x)):=by
 refine zf zh Tryz.func478 rfl (by kernel_rfl) Tryz.ntmps478 (by simp) _ rfl (fun hw gB hgB=>?_)
 repeat' (first|(refine shC ?_;first|refine qC (zk3 y x) ?_)|refine sA ?_|refine sC (fun _=>?_) (fun _=>?_)|fail)
 exact retq rfl rfl
theorem zob (y x:Pt):ACall Tryz.prog 480 [yg y,.ptr (yg x) 0] (pb (y.p != 1&&y.f==x.f)):=by
 refine zf zh Tryz.func480 rfl (by kernel_rfl) Tryz.ntmps480 (by simp) _ rfl (fun hw gB hgB=>?_)
 repeat' (first|refine sA ?_|refine sC (fun _=>?_) (fun _=>?_)|fail)
 all_goals (refine retq rfl ?_;simp_all [zn];done)
theorem znT (x y:Pt):ACall Tryz.prog 481 [yg x,yg y] (pb (x.p==1&&y.p==1)):=by
 refine zf zh Tryz.func481 rfl (by kernel_rfl) Tryz.ntmps481 (by simp) _ rfl (fun hw gB hgB=>?_)
 repeat' (first|refine sA ?_|refine sC (fun _=>?_) (fun _=>?_)|fail)
 all_goals (refine retq rfl ?_;simp_all [zn];done)
theorem zns (x y:Pt):ACall Tryz.prog 482 [yg x,yg y] (pb false):=by
 refine zf zh Tryz.func482 rfl (by kernel_rfl) Tryz.ntmps482 (by simp) _ rfl (fun hw gB hgB=>?_)
 repeat' (first|refine sA ?_|refine sC (fun _=>?_) (fun _=>?_)|fail)
 exact retq rfl rfl
def zr3 (a b:Pt):Bool:=a.c==b.c&&(a.p==b.p&&true)
def zrN (x y:Pt):Bool:=x.p==1&&y.p==1
def zbk (n:Int) (c:Cl):Int :=
 if decide (c.kind < 1)||decide (4 < c.kind)||!ze8 n c||!zeT n c then 3
 else if c.kind==2&&(decide (c.filter < 0)||decide (c.hf≤c.filter))||c.kind != 2&&c.filter != -1 then 3
 else if zcc (zU 0 c) (zU 0 c) zr3 then 12
 else 0
set_option maxHeartbeats 4000000 in
theorem znm (n:Int) (c:Cl):ACall Tryz.prog 467 [pi n,ZJ c] (pi (zbk n c)):=by
 refine zf zh Tryz.func467 rfl (by kernel_rfl) Tryz.ntmps467 (by simp) _ rfl (fun hw gB hgB=>?_)
 have c1:=zeo c.tf c.tt n
 have c2:=zeo c.hf c.ht n
 have c3:=zdc (zU 0 c) (zU 0 c) zr3 476 zmW
 have e1:(decide (0≤c.tf)&&decide (c.tf < c.tt)&&decide (c.tt≤n))=ze8 n c:=rfl
 have e2:(decide (0≤c.hf)&&decide (c.hf < c.ht)&&decide (c.ht≤n))=zeT n c:=rfl
 rw [e1] at c1
 rw [e2] at c2
 repeat' (first|(refine shC ?_;first|refine qC c1 ?_|refine qC c2 ?_|refine qC (VJ 0 c) ?_|refine qC c3 ?_)|refine sA ?_|refine sC (fun _=>?_) (fun _=>?_)|fail)
 all_goals (refine retq rfl ?_;first|(simp only [zn,zbk, *];done)|(simp only [zn,zbk, *];rfl)|(simp_all [zn,zbk];done)|(simp_all [zn,zbk];omega))
def XJ (a:Cl) (x:Pt):Bool:=!((zU 0 a).any fun y=>!YZ y x)
def zeu (a:Cl) (x:Pt):Bool:=(zU 0 a).any fun y=>y.p != 1&&y.f==x.f
def zgv (a b:Cl):Bool :=
 if a.tf==b.tf&&(a.tt==b.tt&&true) then !zcc (zU 0 a) (zU 1 b) zrN else !zcc (zU 0 a) (zU 1 b) (fun _ _=>false)
def zdB (a b:Cl):List Pt→Bool
 | []=>zgv a b
 | x::l=>if XJ a x then x.p==1||!zeu a x else zdB a b l
def zhu (a b:Cl):Bool:=zdB a b (zU 1 b)
set_option maxHeartbeats 2000000 in
theorem znX (a b:Cl):ACall Tryz.prog 468 [ZJ a,ZJ b] (pb (zhu a b)):=by
 refine zf zh Tryz.func468 rfl (by kernel_rfl) Tryz.ntmps468 (by simp) _ rfl (fun hw gB hgB=>?_)
 have hlen:(zU 1 b).length≤3:=by unfold zU;split <;> simp
 have h0a:((zU 0 a).map yg)[(0:Int).toNat]?=some (yg ⟨0,1,a.tf,a.tt⟩):=by simp [zU]
 have h0b:((zU 1 b).map yg)[(0:Int).toNat]?=some (yg ⟨1,1,b.tf,b.tt⟩):=by simp [zU]
 have ce:=zdc (zU 0 a) (zU 1 b) zrN 481 znT
 have cf:=zdc (zU 0 a) (zU 1 b) (fun _ _=>false) 482 zns
 repeat' (first|(refine shC ?_;first|refine qC (VJ 0 a) ?_|refine qC (VJ 1 b) ?_)|refine sA ?_|refine sC (fun _=>?_) (fun _=>?_)|fail)
 refine zB (fun k:Nat=>[(5,.pv (pts (zU 0 a))),(6,.pv (pts (zU 1 b))),(14,.pv (pts (zU 1 b))),(15,.pv (pi (zU 1 b).length)),(16,.pv (pi k))]) (fun _=>[]) (fun k=>k≤(zU 1 b).length∧zhu a b=zdB a b ((zU 1 b).drop k)) (fun k=>(zU 1 b).length - k) 0 ⟨by omega,rfl⟩ (tS) tH ?_
 rintro k ⟨hk,hr⟩
 by_cases hlt:k < (zU 1 b).length
 ·have he:=yc (f:=yg) hlt
  rw [drop_cons hlt,zdB] at hr
  generalize (zU 1 b)[k]=x at he hr
  have c1:=Yx (zU 0 a) (fun y=>!YZ y x) 478 [] [.ptr (yg x) 0] (fun y _=>znV y x)
  have c2:=Yx (zU 0 a) (fun y=>y.p != 1&&y.f==x.f) 480 [] [.ptr (yg x) 0] (fun y _=>zob y x)
  cases ha:(zU 0 a).any fun y=>!YZ y x
  ·rw [ha] at c1
   rw [show XJ a x=true by rw [XJ,ha];rfl,if_pos rfl] at hr
   repeat' (first|refine zau (t:=8) rfl rfl rfl ?_|(refine shC ?_;first|refine qC c1 ?_|refine qC c2 ?_)|(refine shX ?_;first|refine qX he ?_)|refine sK ?_|refine sC (fun _=>?_) (fun _=>?_)|fail)
   all_goals (refine retq rfl ?_;rw [hr];simp_all [zn,zeu];done)
  ·rw [ha] at c1
   rw [show XJ a x=false by rw [XJ,ha];rfl,if_neg (by simp)] at hr
   repeat' (first|refine zau (t:=8) rfl rfl rfl ?_|(refine shC ?_;first|refine qC c1 ?_)|(refine shX ?_;first|refine qX he ?_)|refine sK ?_|refine sC (fun _=>?_) (fun _=>?_)|fail)
   exact ⟨k + 1,⟨hlt,hr⟩,tD,tS,tH⟩
 ·rw [drop_end (by omega),zdB,zgv] at hr
  repeat' (first|(refine shC ?_;first|refine qC ce ?_|refine qC cf ?_)|(refine shX ?_;first|refine qX h0a ?_|refine qX h0b ?_)|refine sK ?_|refine sC (fun _=>?_) (fun _=>?_)|fail)
  all_goals (refine retq rfl ?_;rw [hr];simp_all [zn];done)
structure OkC (c:Cl):Prop where
 t:c.tf < c.tt
 h:c.hf < c.ht
 h0:0≤c.hf
 t0:0≤c.tf
 f:c.kind=2→0≤c.filter∧c.filter < c.hf
theorem zhH {n:Int} {c:Cl} (h:Xm n c=0):OkC c:=by
 unfold Xm at h
 split at h
 ·simp at h
 ·split at h
  ·simp at h
  ·rename_i h1 h2
   simp [ze8,zeT] at h1 h2
   exact ⟨by omega,by omega,by omega,by omega,fun hk=>by simp [hk] at h2;omega⟩
theorem WC {a b:Cl} {p q:Int} {x y:Pt} (hx:bounds a p=(x.f,x.t)) (hy:bounds b q=(y.f,y.t)) (h1:x.f < x.t) (h2:y.f < y.t):meet a p b q=ZK x y:=by
 simp [meet,ZK,hx,hy,h1,h2]
theorem zpC {a b:Cl} {p q:Int} (h:¬ (bounds a p).1 < (bounds a p).2∨¬ (bounds b q).1 < (bounds b q).2):meet a p b q=false:=by
 simp only [meet,Bool.and_eq_false_iff,decide_eq_false_iff_not]
 rcases h with h|h
 ·exact .inl (.inr h)
 ·exact .inr h
theorem zfu {a b:Cl} {p q:Int} {x y:Pt} (hx:bounds a p=(x.f,x.t)) (hy:bounds b q=(y.f,y.t)) (h1:x.f < x.t):within a p b q=YZ x y:=by
 rw [Bool.eq_iff_iff]
 simp [within,YZ,hx,hy]
 omega
theorem zmg {a b:Cl} {q:Int} (h:a.kind≠2):within a 3 b q=true:=by simp [within,bounds,h]
theorem zoj {n:Int} {c:Cl}:zbk n c=Xm n c:=by
 unfold zbk Xm
 split
 ·rfl
 ·split
  ·rfl
  ·rename_i h1 h2
   have hok:OkC c:=by
    simp [ze8,zeT] at h1 h2
    exact ⟨by omega,by omega,by omega,by omega,fun hk=>by simp [hk] at h2;omega⟩
   have e:zcc (zU 0 c) (zU 0 c) zr3=(meet c 1 c 2||meet c 1 c 3||meet c 2 c 3):=by
    obtain ⟨g1,g2,g3,g4,g5⟩:=hok
    rw [Bool.eq_iff_iff]
    by_cases hk:c.kind=2
    ·have:=g5 hk
     simp [zcc,zU,hk,zr3,ZK,meet,bounds]
     omega
    ·simp [zcc,zU,hk,zr3,ZK,meet,bounds]
     omega
   rw [e]
theorem zbZ {a b:Cl} (ha:OkC a) {q:Int} {x:Pt} (hy:bounds b q=(x.f,x.t)) (h2:x.f < x.t):XJ a x=zfN a b q:=by
 have w1:within a 1 b q=YZ ⟨0,1,a.tf,a.tt⟩ x:=zfu (by simp [bounds]) hy ha.t
 have w2:within a 2 b q=YZ ⟨0,2,a.hf,a.ht⟩ x:=zfu (by simp [bounds]) hy ha.h
 by_cases hk:a.kind=2
 ·have w3:within a 3 b q=YZ ⟨0,3,a.filter,a.hf⟩ x:=zfu (by simp [bounds,hk]) hy (ha.f hk).2
  simp [XJ,zU,zfN,w1,w2,w3,hk,hy,h2,Bool.and_assoc]
 ·have w3:=zmg (b:=b) (q:=q) hk
  simp [XJ,zU,zfN,w1,w2,w3,hk,hy,h2]
theorem zfT (a:Cl) (x:Pt):zeu a x=(a.hf==x.f||a.kind==2&&a.filter==x.f):=by
 by_cases hk:a.kind=2 <;> simp [zeu,zU,hk]
theorem zsM {a b:Cl} (h:b.kind≠2):zfN a b 3=false:=by simp [zfN,bounds,h]
theorem zg0 {a b:Cl} (ha:OkC a) (hb:OkC b):zgv a b=!(badM a b 1 1||badM a b 1 2||badM a b 1 3||badM a b 2 1||badM a b 2 2||badM a b 2 3||badM a b 3 1||badM a b 3 2||badM a b 3 3):=by
 have m11:meet a 1 b 1=ZK ⟨0,1,a.tf,a.tt⟩ ⟨1,1,b.tf,b.tt⟩:=WC (by simp [bounds]) (by simp [bounds]) ha.t hb.t
 have m12:meet a 1 b 2=ZK ⟨0,1,a.tf,a.tt⟩ ⟨1,2,b.hf,b.ht⟩:=WC (by simp [bounds]) (by simp [bounds]) ha.t hb.h
 have m21:meet a 2 b 1=ZK ⟨0,2,a.hf,a.ht⟩ ⟨1,1,b.tf,b.tt⟩:=WC (by simp [bounds]) (by simp [bounds]) ha.h hb.t
 have m22:meet a 2 b 2=ZK ⟨0,2,a.hf,a.ht⟩ ⟨1,2,b.hf,b.ht⟩:=WC (by simp [bounds]) (by simp [bounds]) ha.h hb.h
 have ra:(zU 0 a)=[⟨0,1,a.tf,a.tt⟩,⟨0,2,a.hf,a.ht⟩]++(if a.kind==2 then [⟨0,3,a.filter,a.hf⟩] else []):=rfl
 have rb:(zU 1 b)=[⟨1,1,b.tf,b.tt⟩,⟨1,2,b.hf,b.ht⟩]++(if b.kind==2 then [⟨1,3,b.filter,b.hf⟩] else []):=rfl
 have n3:b.kind≠2→∀ p,meet a p b 3=false:=fun h p=>zpC (.inr (by simp [bounds,h]))
 have n3':a.kind≠2→∀ q,meet a 3 b q=false:=fun h q=>zpC (.inl (by simp [bounds,h]))
 have m13:b.kind=2→meet a 1 b 3=ZK ⟨0,1,a.tf,a.tt⟩ ⟨1,3,b.filter,b.hf⟩:=fun h=>WC (by simp [bounds]) (by simp [bounds,h]) ha.t (hb.f h).2
 have m23:b.kind=2→meet a 2 b 3=ZK ⟨0,2,a.hf,a.ht⟩ ⟨1,3,b.filter,b.hf⟩:=fun h=>WC (by simp [bounds]) (by simp [bounds,h]) ha.h (hb.f h).2
 have m31:a.kind=2→meet a 3 b 1=ZK ⟨0,3,a.filter,a.hf⟩ ⟨1,1,b.tf,b.tt⟩:=fun h=>WC (by simp [bounds,h]) (by simp [bounds]) (ha.f h).2 hb.t
 have m32:a.kind=2→meet a 3 b 2=ZK ⟨0,3,a.filter,a.hf⟩ ⟨1,2,b.hf,b.ht⟩:=fun h=>WC (by simp [bounds,h]) (by simp [bounds]) (ha.f h).2 hb.h
 have m33:a.kind=2→b.kind=2→meet a 3 b 3=ZK ⟨0,3,a.filter,a.hf⟩ ⟨1,3,b.filter,b.hf⟩:=fun h h'=>WC (by simp [bounds,h]) (by simp [bounds,h']) (ha.f h).2 (hb.f h').2
 unfold zgv badM
 cases hs1:a.tf==b.tf <;> cases hs2:a.tt==b.tt <;> by_cases hka:a.kind=2 <;> by_cases hkb:b.kind=2 <;>
  simp [zcc,ra,rb,hka,hkb,zrN,m11,m12,m21,m22,n3,n3',m13,m23,m31,m32,m33,Bool.and_assoc,Bool.or_assoc]
theorem zqe {a b:Cl} (ha:OkC a) (hb:OkC b):zhu a b=zdg a b:=by
 have e1:=zbZ (a:=a) (b:=b) ha (q:=1) (x:=⟨1,1,b.tf,b.tt⟩) (by simp [bounds]) hb.t
 have e2:=zbZ (a:=a) (b:=b) ha (q:=2) (x:=⟨1,2,b.hf,b.ht⟩) (by simp [bounds]) hb.h
 have b1:(bounds b 1)=(b.tf,b.tt):=by simp [bounds]
 have b2:(bounds b 2)=(b.hf,b.ht):=by simp [bounds]
 by_cases hk:b.kind=2
 ·have e3:=zbZ (a:=a) (b:=b) ha (q:=3) (x:=⟨1,3,b.filter,b.hf⟩) (by simp [bounds,hk]) (hb.f hk).2
  have b3:(bounds b 3)=(b.filter,b.hf):=by simp [bounds,hk]
  rw [zhu,show zU 1 b=[⟨1,1,b.tf,b.tt⟩,⟨1,2,b.hf,b.ht⟩,⟨1,3,b.filter,b.hf⟩] by simp [zU,hk]]
  simp only [zdB,e1,e2,e3,zfT,zdg,zsD,b1,b2,b3,zg0 ha hb]
 ·rw [zhu,show zU 1 b=[⟨1,1,b.tf,b.tt⟩,⟨1,2,b.hf,b.ht⟩] by simp [zU,hk]]
  have c3:=zsM (a:=a) hk
  simp only [zdB,e1,e2,zfT,zdg,zsD,b1,b2,c3,zg0 ha hb]
  simp
theorem zeL {n:Int} {l:List Cl} {k:Nat} (h:QK n l k=0):Xm n (l.getD k default)=0:=by
 unfold QK at h
 split at h
 ·exact h
 ·rename_i h1;simpa using h1
set_option maxHeartbeats 1000000 in
theorem zki (n:Int) (l:List Cl):ACall Tryz.prog 460 [pi n,cls l] (.tup [pi (YG n l).1,pi (YG n l).2]):=by
 refine zf zh Tryz.func460 rfl (by kernel_rfl) Tryz.ntmps460 (by simp) _ rfl (fun hw gB hgB=>?_)
 have hl:=zpD hw.2.1
 by_cases h6:6 < l.length
 ·repeat' (first|refine sK ?_|refine sC (fun _=>?_) (fun _=>?_)|fail)
  exact retq rfl (by simp [zn,YG,h6])
 ·repeat' (first|refine sK ?_|refine sC (fun _=>?_) (fun _=>?_)|fail)
  refine zB (fun k:Nat=>[(0,.pv (pi n)),(1,.pv (cls l)),(14,.pv (cls l)),(15,.pv (pi l.length)),(16,.pv (pi k))]) (fun _=>[]) (fun k=>k≤l.length∧∀ j,j < k→QK n l j=0) (fun k=>l.length - k) 0 ⟨by omega,fun j h=>by omega⟩ (tS) tH ?_
  rintro k ⟨hk,hno⟩
  by_cases hlt:k < l.length
  ·have he:=zcj hlt
   have ca:=znm n (l.getD k default)
   rw [zoj] at ca
   cases ha:(Xm n (l.getD k default) != 0)
   ·have hokk:OkC (l.getD k default):=zhH (n:=n) (by simpa using ha)
    repeat' (first|refine zo rfl (qY (xs:=l) (f:=ZJ) 0 k zh rfl rfl rfl rfl rfl rfl rfl (by omega) (by omega)) rfl rfl ?_|(refine shC ?_;first|refine qC ca ?_)|(refine shX ?_;first|refine qX he ?_)|refine sK ?_|refine sC (fun _=>?_) (fun _=>?_)|fail)
    refine zB (fun m:Nat=>[(0,.pv (pi n)),(1,.pv (cls l)),(6,.pv (pi k)),(7,.box 0 0),(14,.pv (cls l)),(15,.pv (pi l.length)),(16,.pv (pi k)),(30,.pv (cls (l.take k))),(31,.pv (pi k)),(32,.pv (pi m))]) (fun _=>[(0,.cell (.pv (ZJ (l.getD k default))))]) (fun m=>m≤k∧WQ l k m=false) (fun m=>k - m) 0 ⟨by omega,rfl⟩ (by repeat (first|exact yu|refine zY rfl ?_|(refine qK rfl ?_ ?_;· (simp;omega)))) tH ?_
    rintro m ⟨hm,hpb⟩
    by_cases hltm:m < k
    ·have hem:((l.take k).map ZJ)[((m:Nat):Int).toNat]?=some (ZJ (l.getD m default)):=by
      simp [List.getElem?_take,hltm,show m < l.length by omega]
     have hps:=zkA l k m
     have hokm:OkC (l.getD m default):=zhH (n:=n) (zeL (hno m hltm))
     have cf:=znX (l.getD m default) (l.getD k default)
     rw [zqe hokm hokk] at cf
     cases hf:zdg (l.getD m default) (l.getD k default)
     ·have hat:QK n l k=12:=by
       have:WQ l k k=true:=by
        simp only [WQ,List.any_eq_true,List.mem_range]
        exact ⟨m,hltm,by rw [hf];rfl⟩
       unfold QK;rw [ha];simp [this]
      have hfin:=zhE h6 hlt hno (by rw [hat];decide)
      clear hps
      rw [hf] at cf
      repeat' (first|(refine shC ?_;first|refine qC cf ?_)|(refine shX ?_;first|refine qX hem ?_)|refine sK ?_|refine sC (fun _=>?_) (fun _=>?_)|fail)
      exact retq rfl (by simp [zn,hfin,hat])
     ·have hpm:WQ l k (m + 1)=false:=by rw [hps,hpb,hf];rfl
      clear hps
      rw [hf] at cf
      repeat' (first|(refine shC ?_;first|refine qC cf ?_)|(refine shX ?_;first|refine qX hem ?_)|refine sK ?_|refine sC (fun _=>?_) (fun _=>?_)|fail)
      exact ⟨m + 1,⟨by omega,hpm⟩,tD,tS,tH⟩
    ·repeat' (first|refine sK ?_|refine sC (fun _=>?_) (fun _=>?_)|fail)
     have:m=k:=by omega
     subst this
     have hat:QK n l m=0:=by unfold QK;rw [ha];simp [hpb]
     exact ⟨m + 1,⟨by omega,fun j hj=>by
      by_cases e:j=m
      ·subst e;exact hat
      ·exact hno j (by omega)⟩,tD,tS,tH⟩
   ·have hat:QK n l k=Xm n (l.getD k default):=by unfold QK;rw [ha];simp
    have hfin:=zhE h6 hlt hno (by rw [hat];simpa using ha)
    repeat' (first|(refine shC ?_;first|refine qC ca ?_)|(refine shX ?_;first|refine qX he ?_)|refine sK ?_|refine sC (fun _=>?_) (fun _=>?_)|fail)
    exact retq rfl (by simp [zn,hfin,hat])
  ·repeat' (first|refine sK ?_|refine sC (fun _=>?_) (fun _=>?_)|fail)
   have:k=l.length:=by omega
   subst this
   exact retq rfl (by simp [zn,znO h6 hno])
def zdd (at_:Int) (x:Pt):Bool:=decide (x.f≤at_)&&decide (at_ < x.t)
def zbs (at_:Int) (l:List Cl):Nat→List Pt
 | 0=>[]
 | k + 1=>zbs at_ l k++(zU k (l.getD k default)).filter (zdd at_)
def zcJ (at_:Int) (l:List Cl):List Pt:=zbs at_ l l.length
def zoA (a b:Pt):Int:=if (a.t - a.f) - (b.t - b.f)=0 then a.c - b.c else (a.t - a.f) - (b.t - b.f)
def zbr (x:Pt):List Pt→List Pt→List Pt
 | [],s=>x::s
 | y::r,s=>if zoA x y < 0 then zbr x r (y::s) else (y::r).reverse++x::s
def zkF (l:List Pt) (x:Pt):List Pt:=zbr x l.reverse []
def Xb (l:List Pt):List Pt:=l.foldl zkF []
def zjw (a b:Pt):Bool:=a.f==b.f&&(a.t==b.t&&true)
def Xc (p:Pt):List Pt→List Pt
 | []=>[]
 | y::l=>if zjw y p then Xc y l else y::Xc y l
def Zp:List Pt→List Pt
 | []=>[]
 | x::l=>x::Xc x l
def yU (l:List Cl) (at_:Int):List Pt:=Zp (Xb (zcJ at_ l))
theorem zfc (x:Pt):∀ (r s:List Pt),(zbr x r s).length=r.length + s.length + 1
 | [],s=>by simp [zbr]
 | y::r,s=>by
  rw [zbr]
  split
  ·rw [zfc x r (y::s)];simp;omega
  ·simp;omega
theorem zmy (l:List Pt) (x:Pt):(zkF l x).length=l.length + 1:=by rw [zkF,zfc];simp
theorem zeI (l:List Pt):(Xb l).length=l.length:=by
 have:∀ (l a:List Pt),(l.foldl zkF a).length=a.length + l.length:=by
  intro l
  induction l with
  | nil=>intro a;simp
  | cons x l ih=>intro a;rw [List.foldl_cons,ih,zmy];simp;omega
 rw [Xb,this];simp
theorem zhm (k:Int) (c:Cl):(zU k c).length≤3:=by unfold zU;split <;> simp
theorem zcz (at_:Int) (l:List Cl):∀ k,(zbs at_ l k).length≤3 * k
 | 0=>by simp [zbs]
 | k + 1=>by
  rw [zbs,List.length_append]
  have h1:=zcz at_ l k
  have h2:=List.length_filter_le (zdd at_) (zU k (l.getD k default))
  have h3:=zhm k (l.getD k default)
  omega
theorem zoh (p:Pt) (l:List Pt):(Xc p l).length≤l.length:=by
 induction l generalizing p with
 | nil=>simp [Xc]
 | cons y l ih =>
  rw [Xc]
  split
  ·have:=ih y;simp;omega
  ·have:=ih y;simp;omega
theorem zq5 (l:List Pt):(Zp l).length≤l.length:=by
 cases l with
 | nil=>simp [Zp]
 | cons x l=>have:=zoh x l;simp [Zp];omega
theorem zn4 (l:List Cl) (at_:Int):(yU l at_).length≤3 * l.length:=by
 have h1:=zq5 (Xb (zcJ at_ l))
 rw [zeI] at h1
 exact Nat.le_trans h1 (zcz at_ l l.length)
theorem ziQ (x:Pt):∀ (r s:List Pt) (y:Pt),y∈zbr x r s↔y=x∨y∈r∨y∈s
 | [],s,y=>by simp [zbr]
 | z::r,s,y=>by
  rw [zbr]
  split
  ·rw [ziQ x r (z::s) y];grind
  ·grind
theorem zjD (l:List Pt) (y:Pt):y∈Xb l↔y∈l:=by
 have:∀ (l a:List Pt),y∈l.foldl zkF a↔y∈a∨y∈l:=by
  intro l
  induction l with
  | nil=>intro a;simp
  | cons x l ih =>
   intro a
   rw [List.foldl_cons,ih,zkF,ziQ]
   grind
 rw [Xb,this];simp
theorem zoH {p y:Pt} {l:List Pt} (h:y∈Xc p l):y∈l:=by
 induction l generalizing p with
 | nil=>simp [Xc] at h
 | cons z l ih =>
  rw [Xc] at h
  split at h
  ·exact List.mem_cons_of_mem _ (ih h)
  ·rcases List.mem_cons.1 h with h|h
   ·simp [h]
   ·exact List.mem_cons_of_mem _ (ih h)
theorem zp2 {y:Pt} {l:List Pt} (h:y∈Zp l):y∈l:=by
 cases l with
 | nil=>simp [Zp] at h
 | cons x l =>
  rcases List.mem_cons.1 h with h|h
  ·simp [h]
  ·exact List.mem_cons_of_mem _ (zoH h)
theorem zeY {at_:Int} {l:List Cl} {y:Pt}:∀ {k:Nat},y∈zbs at_ l k→∃ j,j < k∧y∈zU j (l.getD j default)∧zdd at_ y=true
 | 0,h=>by simp [zbs] at h
 | k + 1,h=>by
  rw [zbs,List.mem_append,List.mem_filter] at h
  rcases h with h|h
  ·obtain ⟨j,h1,h2⟩:=zeY h;exact ⟨j,by omega,h2⟩
  ·exact ⟨k,by omega,h⟩
theorem zif {l:List Cl} {at_:Int} {y:Pt} (h:y∈yU l at_):∃ j,j < l.length∧y∈zU j (l.getD j default)∧zdd at_ y=true :=
 zeY ((zjD _ _).1 (zp2 h))
theorem zsy {k:Int} {c:Cl} {y:Pt} (h:y∈zU k c):y.c=k:=by
 unfold zU at h
 split at h <;> simp at h
 ·rcases h with rfl|rfl|rfl <;> rfl
 ·rcases h with rfl|rfl <;> rfl
set_option maxHeartbeats 20000000
structure SmP (x:Pt):Prop where
 f:0≤x.f∧x.f≤1000000
 t:0≤x.t∧x.t≤1000000
 c:0≤x.c∧x.c≤1000000
theorem zmo (a b:Pt) (ha:SmP a) (hb:SmP b):ACall Tryz.prog 370 [yg a,yg b] (pi (zoA a b)):=by
 have ha1:=ha.f
 have ha2:=ha.t
 have ha3:=ha.c
 have hb1:=hb.f
 have hb2:=hb.t
 have hb3:=hb.c
 have e1:IntKind.i64.wrap (a.t - a.f)=a.t - a.f:=wrap_in (by omega) (by omega)
 have e2:IntKind.i64.wrap (b.t - b.f)=b.t - b.f:=wrap_in (by omega) (by omega)
 have e3:IntKind.i64.wrap ((a.t - a.f) - (b.t - b.f))=(a.t - a.f) - (b.t - b.f):=wrap_in (by omega) (by omega)
 have e4:IntKind.i64.wrap (a.c - b.c)=a.c - b.c:=wrap_in (by omega) (by omega)
 by_cases h:(a.t - a.f) - (b.t - b.f)=0
 ·have hc:(!(IntKind.i64.wrap (IntKind.i64.wrap (a.t - a.f) - IntKind.i64.wrap (b.t - b.f))==0))=false:=by rw [e1,e2,e3,h];rfl
  refine zf zh Tryz.func370 rfl (by kernel_rfl) Tryz.ntmps370 (by simp) _ rfl (fun hw gB hgB=>?_)
  repeat' (first|refine sA ?_|refine sC (fun _=>?_) (fun _=>?_)|fail)
  all_goals (refine retq rfl ?_;simp [zn,zoA,h,e4])
 ·have hc:(!(IntKind.i64.wrap (IntKind.i64.wrap (a.t - a.f) - IntKind.i64.wrap (b.t - b.f))==0))=true:=by rw [e1,e2,e3];simpa using h
  refine zf zh Tryz.func370 rfl (by kernel_rfl) Tryz.ntmps370 (by simp) _ rfl (fun hw gB hgB=>?_)
  repeat' (first|refine sA ?_|refine sC (fun _=>?_) (fun _=>?_)|fail)
  all_goals (refine retq rfl ?_;simp [zn,zoA,h,e1,e2,e3])
abbrev zaB (us:Nat→Value) (l:List Pt):HEnv:=[(0,.mrow 362 4 (l.map yg)),(1000,.pin (.own 0) (us 0))]
def zts (us:Nat→Value) (A:List PV) (k:Nat) (p q:PV):Nat→HEnv
 | 0=>[(0,.mrow 362 4 A),(1000,.pin (.own 0) (us 0))]
 | 1=>(0,.mrow 362 4 (A.set (k + 1) p))::[(0,.mrow 362 4 A),(1000,.pin (.own 0) (us 0))]
 | _=>(0,.mrow 362 4 ((A.set (k + 1) p).set k q))::(0,.mrow 362 4 (A.set (k + 1) p))::[(0,.mrow 362 4 A),(1000,.pin (.own 0) (us 0))]
abbrev zr0 (us:Nat→Value):HEnv:=[(0,.dead),(1000,.pin (.own 0) (us 0))]
theorem zqu (us:Nat→Value) (A:List PV) (k:Nat) (x y:PV):∀ p,p < 3→yQ (zts us A k x y p) (zr0 us)=true∧yQ (zr0 us) (zts us A k x y p)=true:=by
 intro p h
 have hp:p=0∨p=1∨p=2:=by omega
 rcases hp with rfl|rfl|rfl <;> exact ⟨rfl,rfl⟩
theorem zqB (us:Nat→Value) (A:List PV) (k:Nat) (x y:PV) {gB:Base}:∀ p,p≤2→∀ K ρ w,FS gB K ρ (zts us A k x y p) w→FS gB K ρ (zr0 us) w:=by
 intro p h K ρ w hf
 have hp:p=0∨p=1∨p=2:=by omega
 rcases hp with rfl|rfl|rfl <;> exact (hf.kill 0).narrow (e:=[]) tH
theorem zrt (a b:Pt) (r t:List Pt):(((r.reverse++a::b::t).map yg).set (r.length + 1) (yg a)).set r.length (yg b)=(r.reverse++b::a::t).map yg:=by
 apply List.ext_getElem?
 intro i
 simp only [List.getElem?_set,List.length_set,List.length_map,List.length_append,List.length_reverse,List.length_cons,List.map_append,List.map_cons,List.getElem?_append,List.length_map]
 by_cases h1:r.length=i
 ·subst h1;simp
 ·by_cases h2:r.length + 1=i
  ·subst h2;simp
  ·simp only [h1,h2,if_false]
   by_cases h3:i < r.length
   ·simp [h3]
   ·simp only [h3,if_false]
    obtain ⟨m,rfl⟩:∃ m,i=r.length + (m + 2):=⟨i - r.length - 2,by omega⟩
    simp
theorem zjR (l:List Pt) (hl:l.length≤1000) (hs:∀ x∈l,SmP x) (us:Nat→Value) :
  ACallM Tryz.prog 422 [.own 0,.pv (pi 0),.pv (pi l.length),.pv (.fn (.func 370) [] [])] (zaB us l) (.pv (.tup [])) (zaB us (Xb l)):=by
 refine zC zh Tryz.func422 rfl (by kernel_rfl) Tryz.ntmps422 (by simp) _ rfl (fun gB hw1=>?_)
 repeat' (first|refine sA ?_|refine sC (fun _=>?_) (fun _=>?_)|fail)
 refine zB (fun i:Nat=>[(0,.own 0),(1,.pv (pi 0)),(2,.pv (pi l.length)),(3,.pv (.fn (.func 370) [] [])),(8,.pv (pi i))])
  (fun i=>zaB us (Xb (l.take i)++l.drop i)) (fun i=>1≤i∧i≤l.length + 1) (fun i=>l.length + 1 - i) 1 (by omega) (tS) ⟨qE rfl (by cases l <;> rfl) (by repeat (first|exact zk|refine zi rfl ?_)),rfl⟩ ?_
 rintro i ⟨hi1,hi2⟩
 by_cases hlt:i < l.length
 ·obtain ⟨x,hx⟩:∃ x,x=l[i]:=⟨_,rfl⟩
  obtain ⟨s,hsd⟩:∃ s,s=Xb (l.take i):=⟨_,rfl⟩
  have hxs:SmP x:=by rw [hx];exact hs _ (List.getElem_mem hlt)
  have hss:∀ y∈s,SmP y:=fun y hy=>by rw [hsd,zjD] at hy;exact hs y (List.mem_of_mem_take hy)
  have hsl:s.length=i:=by rw [hsd,zeI];simp;omega
  have hnext:Xb (l.take (i + 1))=zkF s x:=by
   rw [List.take_succ_eq_append_getElem hlt,Xb,List.foldl_append,hsd,hx];rfl
  have hdrop:l.drop i=x::l.drop (i + 1):=by rw [hx];exact List.drop_eq_getElem_cons hlt
  rw [←hsd,hdrop]
  repeat' (first|refine sK ?_|refine sC (fun _=>?_) (fun _=>?_)|fail)
  refine zB (fun st:List Pt × List Pt=>[(0,.own 0),(1,.pv (pi 0)),(2,.pv (pi l.length)),(3,.pv (.fn (.func 370) [] [])),(8,.pv (pi i)),(9,.pv (pi st.1.length))])
   (fun st=>zaB us (st.1.reverse++x::(st.2++l.drop (i + 1)))) (fun st=>zbr x st.1 st.2=zkF s x∧∀ y∈st.1,SmP y) (fun st=>st.1.length) (s.reverse,[]) ⟨rfl,fun y hy=>hss y (by simpa using hy)⟩
   (by repeat (first|exact yu|refine zY rfl ?_|(refine qK rfl ?_ ?_;· (show (i:Int)=((s.reverse.length:Nat):Int);simp [hsl])))) ⟨qE rfl (by simp) (by repeat (first|exact zk|refine zi rfl ?_)),rfl⟩ ?_
  rintro ⟨r,t⟩ ⟨hgo,hr⟩
  cases r with
  | nil =>
   repeat' (first|refine sK ?_|refine sC (fun _=>?_) (fun _=>?_)|fail)
   exact ⟨i + 1,by omega,tD,tS,⟨qE rfl (by rw [hnext,←hgo];simp [zbr]) (by repeat (first|exact zk|refine zi rfl ?_)),rfl⟩⟩
  | cons y r =>
   obtain ⟨D,hD⟩:∃ D,D=t++l.drop (i + 1):=⟨_,rfl⟩
   have hgo':zbr x (y::r) t=zkF s x:=hgo
   rw [zbr] at hgo'
   have hsy:SmP y:=hr y (by simp)
   have hrl:r.length < 1000:=by
    have h1:=congrArg List.length hgo'
    rw [zmy,hsl] at h1
    split at h1
    ·rw [zfc] at h1;simp at h1;omega
    ·simp at h1;omega
   have cb:=zmo x y hxs hsy
   have e0:(y::r).reverse++x::(t++l.drop (i + 1))=r.reverse++y::x::D:=by rw [hD];simp
   have g0:((r.reverse++y::x::D).map yg)[r.length]?=some (yg y):=by simp
   have g1:((r.reverse++y::x::D).map yg)[r.length + 1]?=some (yg x):=by
    rw [List.getElem?_map,List.getElem?_append_right (by simp)];simp
   have h0:r.length < ((r.reverse++y::x::D).map yg).length:=by simp
   have h1:r.length + 1 < ((r.reverse++y::x::D).map yg).length:=by simp
   have sw:=zrt y x r D
   show AW _ _ _ _ [(0,.own 0),(1,.pv (pi 0)),(2,.pv (pi l.length)),(3,.pv (.fn (.func 370) [] [])),(8,.pv (pi i)),(9,.pv (pi (r.length + 1:Nat)))] (zaB us ((y::r).reverse++x::(t++l.drop (i + 1)))) _
   rw [e0]
   obtain ⟨k,hk⟩:∃ k,k=r.length:=⟨_,rfl⟩
   obtain ⟨A,hA⟩:∃ A,A=(r.reverse++y::x::D).map yg:=⟨_,rfl⟩
   rw [←hk] at g0 g1 h0 h1 sw hrl ⊢
   show AW _ _ _ _ _ [(0,.mrow 362 4 ((r.reverse++y::x::D).map yg)),(1000,.pin (.own 0) (us 0))] _
   rw [←hA] at g0 g1 h0 h1 sw ⊢
   have hp:decide ((0:Int) < ((k + 1:Nat):Int))=true:=decide_eq_true (by omega)
   have hix:IntKind.i64.wrap (((k + 1:Nat):Int) - 1)=(k:Nat):=by rw [wrap_in (by omega) (by omega)];omega
   by_cases hb:zoA x y < 0
   ·have hbd:decide (zoA x y < 0)=true:=decide_eq_true hb
    rw [if_pos hb] at hgo'
    have h0':k < (A.set (k + 1) (yg y)).length:=by rw [List.length_set];exact h0
    have g0':(A.set (k + 1) (yg y))[k]?=some (yg y):=by rw [List.getElem?_set_ne (by omega)];exact g0
    repeat' (first|refine ZV 18 18 [15,17] [[37,38,42,43,44,45,46,47,48,49,50,51],[52]] (zts us A k (yg y) (yg x)) (fun _=>zr0 us) (zr0 us) none rfl (by kernel_rfl) (by kernel_rfl) (by kernel_rfl) (by kernel_rfl) (by kernel_rfl) (by kernel_rfl) (by kernel_rfl) (fun p hp=>zqu us A k _ _ p (by simp at hp;omega)) rfl (fun p hp=>zqB us A k _ _ p hp) rfl (fun _ _ _ _=>rfl) (fun _ _=>rfl) tH rfl (fun v hv=>by cases hv) ?_|refine WM 0 2 [13,15] rfl rfl (by kernel_rfl) ?_|refine YL 3 [10,12] rfl rfl ?_|refine WM 0 10 [0,2] rfl rfl (by kernel_rfl) ?_|refine Yk [1] (.pv (.tup [])) rfl rfl rfl ?_|refine WM 1 1 [0] rfl rfl (by kernel_rfl) ?_|refine Yk [] (.pv (.tup [])) rfl rfl rfl ?_|refine ZG ?_|refine ⟨⟨rfl,ql (k:=k + 1) (j:=0) zh rfl rfl rfl rfl g1 rfl rfl rfl rfl,.inl rfl⟩,?_⟩|refine ⟨⟨rfl,ql (k:=k) (j:=0) zh rfl rfl rfl rfl g0' rfl rfl rfl rfl,.inl rfl⟩,?_⟩|intro _|refine YE ?_|refine zo rfl (zN (k:=k) (j:=0) zh rfl rfl rfl rfl g0 rfl) rfl rfl ?_|refine AD.step _ _ _ _ _ rfl (zN (k:=k) (j:=0) zh rfl rfl rfl rfl g0 rfl) rfl rfl ?_|refine zo rfl (zN (k:=k + 1) (j:=0) zh rfl rfl rfl rfl g1 rfl) rfl rfl ?_|refine AD.step _ _ _ _ _ rfl (zN (k:=k + 1) (j:=0) zh rfl rfl rfl rfl g1 rfl) rfl rfl ?_|(refine shC ?_;first|refine qV (cb) ?_)|(refine shX ?_;first|refine zo rfl (zK (k:=k) zh rfl rfl rfl rfl rfl rfl rfl hix h0) rfl rfl ?_|refine AD.step _ _ _ _ _ rfl (zK (k:=k) zh rfl rfl rfl rfl rfl rfl rfl hix h0) rfl rfl ?_|refine zo rfl (zK (k:=k + 1) zh rfl rfl rfl rfl rfl rfl rfl rfl h1) rfl rfl ?_|refine AD.step _ _ _ _ _ rfl (zK (k:=k + 1) zh rfl rfl rfl rfl rfl rfl rfl rfl h1) rfl rfl ?_|refine zo rfl (zK (k:=k) zh rfl rfl rfl rfl rfl rfl rfl hix h0') rfl rfl ?_|refine AD.step _ _ _ _ _ rfl (zK (k:=k) zh rfl rfl rfl rfl rfl rfl rfl hix h0') rfl rfl ?_)|refine sK ?_|refine sC (fun _=>?_) (fun _=>?_)|fail)
    exact ⟨(r,y::t),⟨hgo',fun z hz=>hr z (List.mem_cons_of_mem _ hz)⟩,Nat.lt_succ_self r.length,by repeat (first|exact yu|refine zY rfl ?_|(refine qK rfl ?_ ?_;· (show IntKind.i64.wrap _=((r.length:Nat):Int);rw [hix,hk]))),⟨qE rfl (by rw [sw,hD];simp) (by repeat (first|exact zk|refine zi rfl ?_)),rfl⟩⟩
   ·have hbd:decide (zoA x y < 0)=false:=decide_eq_false hb
    rw [if_neg hb] at hgo'
    repeat' (first|refine zo rfl (zN (k:=k) (j:=0) zh rfl rfl rfl rfl g0 rfl) rfl rfl ?_|refine AD.step _ _ _ _ _ rfl (zN (k:=k) (j:=0) zh rfl rfl rfl rfl g0 rfl) rfl rfl ?_|refine zo rfl (zN (k:=k + 1) (j:=0) zh rfl rfl rfl rfl g1 rfl) rfl rfl ?_|refine AD.step _ _ _ _ _ rfl (zN (k:=k + 1) (j:=0) zh rfl rfl rfl rfl g1 rfl) rfl rfl ?_|(refine shC ?_;first|refine qV (cb) ?_)|(refine shX ?_;first|refine zo rfl (zK (k:=k) zh rfl rfl rfl rfl rfl rfl rfl hix h0) rfl rfl ?_|refine AD.step _ _ _ _ _ rfl (zK (k:=k) zh rfl rfl rfl rfl rfl rfl rfl hix h0) rfl rfl ?_|refine zo rfl (zK (k:=k + 1) zh rfl rfl rfl rfl rfl rfl rfl rfl h1) rfl rfl ?_|refine AD.step _ _ _ _ _ rfl (zK (k:=k + 1) zh rfl rfl rfl rfl rfl rfl rfl rfl h1) rfl rfl ?_)|refine sK ?_|refine sC (fun _=>?_) (fun _=>?_)|fail)
    exact ⟨i + 1,by omega,tD,tS,⟨qE rfl (by rw [hnext,←hgo',hA,hD];simp) (by repeat (first|exact zk|refine zi rfl ?_)),rfl⟩⟩
 ·repeat' (first|refine sK ?_|refine sC (fun _=>?_) (fun _=>?_)|fail)
  exact ⟨.inl rfl,.inl ⟨[],rfl,rfl,⟨qE rfl (by rw [List.take_of_length_le (by omega),List.drop_eq_nil_of_le (by omega),List.append_nil]) (by repeat (first|exact zk|refine zi rfl ?_)),rfl⟩⟩⟩
set_option maxHeartbeats 20000000
abbrev mrP (l:List Pt):HEnv:=[(0,.mrow 362 4 (l.map yg))]
theorem zlv (l:List Pt) (hl:l.length < 20) (hs:∀ x∈l,SmP x) (us:Nat→Value) :
  ACallM Tryz.prog 406 [.own 0,.pv (pi l.length),.pv (.fn (.func 370) [] [])] (zaB us l) (.pv (.tup [])) (zaB us (Xb l)):=by
 refine zC zh Tryz.func406 rfl (by kernel_rfl) Tryz.ntmps406 (by simp) _ rfl (fun gB hw1=>?_)
 have hc:∀ us,ACallM _ _ _ _ _ _ _:=fun us=>zjR l (by omega) hs us
 have hd:decide ((20:Int)≤((l.length:Nat):Int))=false:=decide_eq_false (by omega)
 have hd2:decide ((20:Int) < ((l.length:Nat):Int))=false:=decide_eq_false (by omega)
 repeat' (first|refine sA ?_|refine sC (fun _=>?_) (fun _=>?_)|fail)
 refine zB (fun _:Unit=>[(0,.own 0),(1,.pv (pi l.length)),(2,.pv (.fn (.func 370) [] [])),(6,.pv (pi 20)),(7,.pv (pi 0)),(8,.pv (pi 20))]) (fun _=>zaB us l) (fun _=>True) (fun _=>0) () trivial (tS) tH ?_
 rintro _ _
 repeat' (first|(refine zy ?_;first|(refine yx (mrP l) (mrP (Xb l)) [(1000,.pin (.own 0) (us 0))] [(1,.pv (pi l.length)),(6,.pv (pi 20))] [0] zq rfl rfl rfl ?_ tS rfl rfl rfl hc ?_;· (repeat (first|exact zk|refine zi rfl ?_))))|refine sA ?_|refine sC (fun _=>?_) (fun _=>?_)|fail)
 refine zB (fun _:Unit=>[(1,.pv (pi l.length)),(6,.pv (pi 20))]) (fun _=>zaB us (Xb l)) (fun _=>True) (fun _=>0) () trivial (tS) tH ?_
 rintro _ _
 repeat' (first|refine sA ?_|refine sC (fun _=>?_) (fun _=>?_)|fail)
 exact ⟨.inl rfl,.inl ⟨[],rfl,rfl,tH⟩⟩
theorem znv (l:List Pt) (hl:l.length < 20) (hs:∀ x∈l,SmP x) (us:Nat→Value) :
  ACallM Tryz.prog 369 [.own 0,.pv (.fn (.func 370) [] [])] (zaB us l) (.pv (.tup [])) (zaB us (Xb l)):=by
 refine zC zh Tryz.func369 rfl (by kernel_rfl) Tryz.ntmps369 (by simp) _ rfl (fun gB hw1=>?_)
 have hc:∀ us,ACallM _ _ _ _ _ _ _:=fun us=>zlv l hl hs us
 rw [←List.length_map (f:=yg)] at hc
 repeat' (first|(refine zL ?_;first|refine zcr zh rfl rfl rfl rfl rfl rfl rfl ?_)|(refine zy ?_;first|(refine yx (mrP l) (mrP (Xb l)) [(1000,.pin (.own 0) (us 0))] [] [0] zq rfl rfl rfl ?_ tS rfl rfl rfl hc ?_;· (repeat (first|exact zk|refine zi rfl ?_))))|refine sA ?_|refine sC (fun _=>?_) (fun _=>?_)|fail)
 exact ⟨.inl rfl,.inl ⟨[],rfl,rfl,tH⟩⟩
end Go.Cg
namespace Go.Cg
end Go.Cg
namespace Go.Cg
open Go.Proofs
theorem znA {k:Int} {c:Cl} {x:Pt} (h:x∈zU k c):x.c=k∧(x.p=1∨x.p=2∨(x.p=3∧c.kind=2))∧bounds c x.p=(x.f,x.t):=by
 unfold zU at h
 by_cases hk:c.kind=2
 ·simp [hk] at h
  rcases h with rfl|rfl|rfl <;> simp [bounds,hk]
 ·simp [hk] at h
  rcases h with rfl|rfl <;> simp [bounds]
theorem zuG {n:Int} {c:Cl} (h:Xm n c=0):meet c 1 c 2=false∧meet c 1 c 3=false∧meet c 2 c 3=false:=by
 unfold Xm at h
 split at h
 ·simp at h
 ·split at h
  ·simp at h
  ·split at h
   ·simp at h
   ·rename_i h1
    simp only [Bool.or_eq_true,not_or,Bool.not_eq_true] at h1
    exact ⟨h1.1.1,h1.1.2,h1.2⟩
theorem zqC {n:Int} {l:List Cl} (h:(YG n l).2=0):(∀ i,i < l.length→Xm n (l.getD i default)=0)∧∀ j i,i < l.length→j < i→zdg (l.getD j default) (l.getD i default)=true:=by
 have h6:¬ 6 < l.length:=fun h6=>by simp [YG,h6] at h
 have hall:∀ i,i < l.length→QK n l i=0:=by
  intro i hi
  rw [YG,if_neg h6] at h
  split at h
  ·rename_i j hj
   have:=List.find?_some hj
   simp only [bne_iff_ne,ne_eq] at this
   exact absurd h this
  ·rename_i hn
   have:=List.find?_eq_none.1 hn i (List.mem_range.2 hi)
   simpa using this
 refine ⟨fun i hi=>zeL (hall i hi),fun j i hi hj=>?_⟩
 have:=hall i hi
 rw [QK,zeL this] at this
 simp only [bne_self_eq_false,Bool.false_eq_true,if_false] at this
 split at this
 ·simp at this
 ·rename_i hb
  simp only [WQ,Bool.not_eq_true,List.any_eq_false,List.mem_range,Bool.not_eq_true'] at hb
  have:=hb j hj
  simpa using this
theorem zsA {n:Int} {l:List Cl} (hc:(YG n l).2=0) {j:Nat} (hj:j < l.length) {y:Pt} (hy:y∈zU j (l.getD j default)):y.t≤n∧0≤y.f:=by
 have ha:=(zqC hc).1 j hj
 have hok:=zhH ha
 generalize l.getD j default=c at *
 have h1:c.tt≤n∧c.ht≤n:=by
  unfold Xm at ha
  split at ha
  ·simp at ha
  ·rename_i h1
   simp only [ze8,zeT,Bool.or_eq_true,decide_eq_true_eq,Bool.not_eq_true',Bool.and_eq_false_iff,decide_eq_false_iff_not,not_or,Decidable.not_not] at h1
   omega
 obtain ⟨_,p1,b1⟩:=znA hy
 have e:=hok.t;have e2:=hok.h;have e3:=hok.h0;have e4:=hok.t0
 rcases p1 with p1|p1|⟨p1,hk⟩ <;> rw [p1] at b1 <;> simp [bounds] at b1
 ·omega
 ·omega
 ·have:=hok.f hk
  rw [hk] at b1;simp at b1;omega
set_option maxHeartbeats 20000000
section
variable {P:Program} {n:Nat} {g:Base} {H:HEnv} {env:Env} {QQ:QC}
theorem zmv (i:Nat) {a:Act} {w:World} (h:Inv n g env H a w):Inv n g env ((i,.dead)::H) a w:=by
 obtain ⟨g1,g2,K,ρ,hf,he⟩:=h
 exact ⟨g1,g2,K,ρ,hf.kill i,he.keeps (.refl K w) fun j hj=>⟨by rw [HEnv.get_cons];split <;> first|rfl|exact hj,rfl⟩⟩
theorem zqv {t i e sz:Nat} {es:List PV} {a:Act} {w:World} (ht:env.get t=some (.own i)) (hi:H.get i=some (.row e sz es)) (h:Inv n g env H a w):Inv n g ((t,.pv (.slc sz es false))::env) H a w:=by
 obtain ⟨g1,g2,K,ρ,hf,he⟩:=h
 refine ⟨g1,g2,K,ρ,hf,fun t' av hg=>?_⟩
 rw [Env.get_cons] at hg
 split at hg
 ·rename_i e1;subst e1
  simp only [Option.some.injEq] at hg;subst hg
  obtain ⟨v,h1,h2⟩:=he _ _ ht
  exact ⟨v,h1,.pv _ _ (ze2 hf hi h2)⟩
 ·exact he _ _ hg
theorem zdu {t i e sz:Nat} {es:List PV} (ht:env.get t=some (.own i)) (hi:H.get i=some (.mrow e sz es)) (k:QQ .ret ((t,.pv (.slc sz es false))::env) ((i,.dead)::(i,.row e sz es)::H)):AW P n g .ret env H QQ :=
 ⟨fun a w hinv=>(zhx k).go a w (zmv i (zqv ht (by rw [HEnv.get_cons,if_pos rfl]) (zbD hi hinv)))⟩
theorem znR {t i j e sz h:Nat} {u:Value} {es:List PV} (ht:env.get t=some (.pv (.base (cut sz u 0 h)))) (hi:H.get i=some (.mrow e sz es)) (hj:H.get j=some (.pin (.own i) u)) (hij:(i==j)=false) (hh:h≤es.length) (h0:0 < es.length) (k:QQ .ret ((t,.pv (.slc sz (es.take h) false))::env) ((i,.dead)::(i,.row e sz es)::H)):AW P n g .ret env H QQ :=
 ⟨fun a w hinv=>(zhx k).go a w (zmv i (zq3 (i:=i) (j:=j) ht (by rw [HEnv.get_cons,if_pos rfl]) (by rw [HEnv.get_cons,if_neg (by simpa using hij)];exact hj) hh h0 (zbD hi hinv)))⟩
end
theorem zlD (p:Pt) (l:List Pt) (y:Pt):Xc p (l++[y])=Xc p l++(if zjw y (l.getLastD p) then [] else [y]):=by
 induction l generalizing p with
 | nil=>simp [Xc]
 | cons z l ih =>
  rw [List.cons_append,Xc,Xc,ih z]
  have:(z::l).getLastD p=l.getLastD z:=by cases l <;> rfl
  rw [this]
  split <;> simp
theorem zhG {l:List Pt} {m:Nat} (h1:1≤m) (h:m < l.length):Zp (l.take (m + 1))=Zp (l.take m)++(if zjw l[m] (l[m - 1]'(by omega)) then [] else [l[m]]):=by
 rw [List.take_succ_eq_append_getElem h]
 cases l with
 | nil=>simp at h
 | cons x l =>
  obtain ⟨m,rfl⟩:∃ k,m=k + 1:=⟨m - 1,by omega⟩
  simp only [List.take_succ_cons,List.cons_append,Zp,zlD,List.getElem_cons_succ,Nat.add_sub_cancel]
  have:(l.take m).getLastD x=(x::l)[m]:=by
   have hm:m≤l.length:=by simp at h;omega
   cases m with
   | zero=>simp
   | succ m=>simp [List.getLastD_eq_getLast?,List.getLast?_take,show m < l.length by omega]
  rw [this]
theorem zfz (a b:Pt):ACall Tryz.prog 372 [yg a,yg b] (pb (zjw a b)):=by
 refine zf zh Tryz.func372 rfl (by kernel_rfl) Tryz.ntmps372 (by simp) _ rfl (fun hw gB hgB=>?_)
 repeat' (first|refine sA ?_|refine sC (fun _=>?_) (fun _=>?_)|fail)
 all_goals exact retq rfl rfl
abbrev zPt:PV:=.agg [pi 0,pi 0,pi 0,pi 0]
theorem zks (l:List Pt) (hl:l.length < 20) (us:Nat→Value) :
  ACallM Tryz.prog 371 [.own 0,.pv (.fn (.func 372) [] [])] (zaB us l) (.pv (pts (Zp l))) ([(0,.dead)]++zJ us [0]):=by
 refine zC zh Tryz.func371 rfl (by kernel_rfl) Tryz.ntmps371 (by simp) _ rfl (fun gB hw1=>?_)
 by_cases h2:l.length < 2
 ·have hd:decide ((((l.map yg).length:Nat):Int) < 2)=true:=decide_eq_true (by simp;omega)
  have hcp:Zp l=l:=by
   cases l with
   | nil=>rfl
   | cons x l=>cases l with
    | nil=>rfl
    | cons y l=>simp at h2;omega
  repeat' (first|refine zdu (t:=4) (i:=0) rfl rfl ?_|(refine zL ?_;first|refine zcr zh rfl rfl rfl rfl rfl rfl rfl ?_)|refine sA ?_|refine sC (fun _=>?_) (fun _=>?_)|fail)
  exact ⟨.inr rfl,.inl ⟨_,rfl,by rw [hcp];rfl,tH⟩⟩
 ·have hd:decide ((((l.map yg).length:Nat):Int) < 2)=false:=decide_eq_false (by simp;omega)
  repeat' (first|refine zdu (t:=4) (i:=0) rfl rfl ?_|(refine zL ?_;first|refine zcr zh rfl rfl rfl rfl rfl rfl rfl ?_)|refine sA ?_|refine sC (fun _=>?_) (fun _=>?_)|fail)
  refine zB (fun i:Nat=>[(0,.own 0),(1,.pv (.fn (.func 372) [] [])),(5,.pv (pi i))]) (fun _=>zaB us l) (fun i=>1≤i∧i≤l.length∧Zp (l.take i)=l.take i) (fun i=>l.length - i) 1 ⟨by omega,by omega,by cases l <;> rfl⟩ (tS) tH ?_
  rintro i ⟨hi1,hi2,hci⟩
  by_cases hlt:i < l.length
  ·have hd':decide (((i:Nat):Int) < (((l.map yg).length:Nat):Int))=true:=decide_eq_true (by simp;omega)
   have hln:(l.map yg).length=l.length:=by simp
   have g0:(l.map yg)[i]?=some (yg l[i]):=by simp [hlt]
   have g1:(l.map yg)[i - 1]?=some (yg (l[i - 1]'(by omega))):=by simp [show i - 1 < l.length by omega]
   have h0:i < (l.map yg).length:=by simp [hlt]
   have h1:i - 1 < (l.map yg).length:=by simp;omega
   have hix:IntKind.i64.wrap (((i:Nat):Int) - 1)=((i - 1:Nat):Int):=by rw [wrap_in (by omega) (by omega)];omega
   have hst:=zhG hi1 hlt
   have cb:=zfz l[i] (l[i - 1]'(by omega))
   cases hsame:zjw l[i] (l[i - 1]'(by omega))
   ·rw [hsame] at cb hst
    repeat' (first|refine zo rfl (zN (k:=i) (j:=0) zh rfl rfl rfl rfl g0 rfl) rfl rfl ?_|refine AD.step _ _ _ _ _ rfl (zN (k:=i) (j:=0) zh rfl rfl rfl rfl g0 rfl) rfl rfl ?_|refine zo rfl (zN (k:=i - 1) (j:=0) zh rfl rfl rfl rfl g1 rfl) rfl rfl ?_|refine AD.step _ _ _ _ _ rfl (zN (k:=i - 1) (j:=0) zh rfl rfl rfl rfl g1 rfl) rfl rfl ?_|(refine shC ?_;first|refine qV (cb) ?_)|(refine shX ?_;first|refine zo rfl (zK (k:=i - 1) zh rfl rfl rfl rfl rfl rfl rfl hix h1) rfl rfl ?_|refine AD.step _ _ _ _ _ rfl (zK (k:=i - 1) zh rfl rfl rfl rfl rfl rfl rfl hix h1) rfl rfl ?_|refine zo rfl (zK (k:=i) zh rfl rfl rfl rfl rfl rfl rfl rfl h0) rfl rfl ?_|refine AD.step _ _ _ _ _ rfl (zK (k:=i) zh rfl rfl rfl rfl rfl rfl rfl rfl h0) rfl rfl ?_)|(refine zL ?_;first|refine zcr zh rfl rfl rfl rfl rfl rfl rfl ?_)|refine sK ?_|refine sC (fun _=>?_) (fun _=>?_)|fail)
    exact ⟨i + 1,⟨by omega,by omega,by rw [hst,hci,List.take_succ_eq_append_getElem hlt];rfl⟩,tD,tS,tH⟩
   ·rw [hsame] at cb hst
    repeat' (first|refine zo rfl (zN (k:=i) (j:=0) zh rfl rfl rfl rfl g0 rfl) rfl rfl ?_|refine AD.step _ _ _ _ _ rfl (zN (k:=i) (j:=0) zh rfl rfl rfl rfl g0 rfl) rfl rfl ?_|refine zo rfl (zN (k:=i - 1) (j:=0) zh rfl rfl rfl rfl g1 rfl) rfl rfl ?_|refine AD.step _ _ _ _ _ rfl (zN (k:=i - 1) (j:=0) zh rfl rfl rfl rfl g1 rfl) rfl rfl ?_|refine zeR zh 0 20 rfl rfl rfl rfl rfl rfl rfl rfl rfl (by omega) (by simp only [List.length_map];omega) (by omega) (by simp only [List.length_map];omega) rfl rfl rfl (fun uu=>?_)|(refine shC ?_;first|refine qV (cb) ?_)|(refine shX ?_;first|refine zo rfl (zK (k:=i - 1) zh rfl rfl rfl rfl rfl rfl rfl hix h1) rfl rfl ?_|refine AD.step _ _ _ _ _ rfl (zK (k:=i - 1) zh rfl rfl rfl rfl rfl rfl rfl hix h1) rfl rfl ?_|refine zo rfl (zK (k:=i) zh rfl rfl rfl rfl rfl rfl rfl rfl h0) rfl rfl ?_|refine AD.step _ _ _ _ _ rfl (zK (k:=i) zh rfl rfl rfl rfl rfl rfl rfl rfl h0) rfl rfl ?_)|(refine zL ?_;first|refine zcr zh rfl rfl rfl rfl rfl rfl rfl ?_)|refine sK ?_|refine sC (fun _=>?_) (fun _=>?_)|fail)
    refine zB (fun st:Nat × List Pt=>[(0,.own 0),(1,.pv (.fn (.func 372) [] [])),(5,.pv (pi (Zp (l.take (i + st.1))).length)),(6,.pv (.base (cut 4 uu i (l.map yg).length))),(7,.pv (pi st.1))])
     (fun st=>[(0,.mrow 362 4 ((Zp (l.take (i + st.1))++(st.2++l.drop (i + st.1 - 1))).map yg)),(20,.pin (.own 0) uu),(1000,.pin (.own 0) (us 0))])
     (fun st=>1≤st.1∧i + st.1≤l.length∧(Zp (l.take (i + st.1))).length + st.2.length=i + st.1 - 1) (fun st=>l.length - st.1) (1,[])
     ⟨Nat.le_refl _,hlt,by show (Zp (l.take (i + 1))).length + 0=i + 1 - 1;rw [hst,hci];simp;omega⟩
     (by repeat (first|exact yu|refine zY rfl ?_|(refine qK rfl ?_ ?_;· (show ((i:Nat):Int)=(((Zp (l.take (i + 1))).length:Nat):Int);rw [hst,hci];simp;omega))))
     ⟨qE rfl (by show _=(Zp (l.take (i + 1))++([]++l.drop (i + 1 - 1))).map yg;rw [hst,hci];simp) (by repeat (first|exact zk|refine zi rfl ?_)),rfl⟩ ?_
    rintro ⟨k,mid⟩ ⟨hk0,hkn,hkl⟩
    change 1≤k at hk0
    change i + k≤l.length at hkn
    change (Zp (l.take (i + k))).length + mid.length=i + k - 1 at hkl
    obtain ⟨c,hc⟩:∃ c,c=Zp (l.take (i + k)):=⟨_,rfl⟩
    show AW _ _ _ _ [(0,.own 0),(1,.pv (.fn (.func 372) [] [])),(5,.pv (pi (Zp (l.take (i + k))).length)),(6,.pv (.base (cut 4 uu i (l.map yg).length))),(7,.pv (pi k))] [(0,.mrow 362 4 ((Zp (l.take (i + k))++(mid++l.drop (i + k - 1))).map yg)),(20,.pin (.own 0) uu),(1000,.pin (.own 0) (us 0))] _
    have hcs:=fun h=>zhG (l:=l) (m:=i + k) (by omega) h
    rw [←hc] at hkl hcs ⊢
    obtain ⟨B,hB⟩:∃ B,B=(c++(mid++l.drop (i + k - 1))).map yg:=⟨_,rfl⟩
    rw [←hB]
    have hBl:B.length=l.length:=by rw [hB];simp;omega
    have hB0:0 < B.length:=by omega
    have hh:(l.map yg).length≤B.length:=by rw [hBl];simp
    by_cases hkt:i + k < l.length
    ·have hd2:decide (((k:Nat):Int) < (((l.map yg).length - i:Nat):Int))=true:=decide_eq_true (by simp;omega)
     have hdr:l.drop (i + k - 1)=(l[i + k - 1]'(by omega))::l.drop (i + k):=by rw [List.drop_eq_getElem_cons (by omega)];congr 2;omega
     have hdr2:l.drop (i + k)=l[i + k]::l.drop (i + k + 1):=List.drop_eq_getElem_cons hkt
     have cb:=zfz l[i + k] (l[i + k - 1]'(by omega))
     obtain ⟨y,hy⟩:∃ y,y=l[i + k - 1]'(by omega):=⟨_,rfl⟩
     obtain ⟨x,hx⟩:∃ x,x=l[i + k]:=⟨_,rfl⟩
     have hcs':=hcs hkt
     rw [←hx,←hy] at cb hcs'
     rw [←hy] at hdr
     rw [←hx] at hdr2
     have hB':B=(c++mid).map yg++yg y::yg x::(l.drop (i + k + 1)).map yg:=by rw [hB,hdr,hdr2];simp
     have hcl:((c++mid).map yg).length=i + (k - 1):=by simp;omega
     have gy:B[i + (k - 1)]?=some (yg y):=by rw [hB',List.getElem?_append_right (by omega),hcl];simp
     have gx:B[i + k]?=some (yg x):=by rw [hB',List.getElem?_append_right (by omega),hcl,show i + k - (i + (k - 1))=1 by omega];rfl
     have hk1:i + k < (l.map yg).length:=by simp;omega
     have hk2:i + (k - 1) < (l.map yg).length:=by simp;omega
     have hkx:IntKind.i64.wrap (((k:Nat):Int) - 1)=((k - 1:Nat):Int):=by rw [wrap_in (by omega) (by omega)];omega
     cases hs2:zjw x y
     ·rw [hs2] at cb hcs'
      obtain ⟨z,tl,hz⟩:∃ z tl,mid++[y]=z::tl:=by
       cases mid with
       | nil=>exact ⟨y,[],rfl⟩
       | cons z mid=>exact ⟨z,mid++[y],rfl⟩
      have hB2:B=c.map yg++yg z::(tl++l.drop (i + k)).map yg:=by
       have:c++(mid++y::l.drop (i + k))=c++z::(tl++l.drop (i + k)):=by
        rw [show mid++y::l.drop (i + k)=(mid++[y])++l.drop (i + k) by simp,hz];simp
       rw [hB,hdr,this];simp
      have gz:B[c.length]?=some (yg z):=by rw [hB2,List.getElem?_append_right (by simp)];simp
      have hcB:c.length < B.length:=by omega
      repeat' (first|refine zo rfl (zha (j:=20) zh rfl rfl rfl rfl rfl hB0) rfl rfl ?_|refine zo rfl (YP (j:=20) zh (k) rfl rfl rfl rfl rfl rfl rfl rfl rfl hk1 hh) rfl rfl ?_|refine AD.step _ _ _ _ _ rfl (YP (j:=20) zh (k) rfl rfl rfl rfl rfl rfl rfl rfl rfl hk1 hh) rfl rfl ?_|refine zo rfl (YP (j:=20) zh (k - 1) rfl rfl rfl rfl rfl rfl rfl rfl hkx hk2 hh) rfl rfl ?_|refine AD.step _ _ _ _ _ rfl (YP (j:=20) zh (k - 1) rfl rfl rfl rfl rfl rfl rfl rfl hkx hk2 hh) rfl rfl ?_|refine zo rfl (zN (k:=i + k) (j:=0) zh rfl rfl rfl rfl gx rfl) rfl rfl ?_|refine AD.step _ _ _ _ _ rfl (zN (k:=i + k) (j:=0) zh rfl rfl rfl rfl gx rfl) rfl rfl ?_|refine zo rfl (zN (k:=i + (k - 1)) (j:=0) zh rfl rfl rfl rfl gy rfl) rfl rfl ?_|refine AD.step _ _ _ _ _ rfl (zN (k:=i + (k - 1)) (j:=0) zh rfl rfl rfl rfl gy rfl) rfl rfl ?_|(refine shC ?_;first|refine qV (cb) ?_)|(refine shX ?_;first|refine zo rfl (zK (k:=c.length) zh rfl rfl rfl rfl rfl rfl rfl rfl hcB) rfl rfl ?_|refine AD.step _ _ _ _ _ rfl (zK (k:=c.length) zh rfl rfl rfl rfl rfl rfl rfl rfl hcB) rfl rfl ?_)|(refine qA ?_;first|refine ZL (k:=c.length) (j:=0) zh rfl rfl rfl rfl rfl gz rfl rfl rfl rfl rfl ?_)|refine sK ?_|refine sC (fun _=>?_) (fun _=>?_)|fail)
      have ht:tl.length=mid.length:=by have:=congrArg List.length hz;simp at this;omega
      have hcc:Zp (l.take (i + (k + 1)))=c++[x]:=hcs'
      have hnew:B.set c.length (yg x)=(Zp (l.take (i + (k + 1)))++(tl++l.drop (i + (k + 1) - 1))).map yg:=by
       rw [hcc,hB2,List.set_append_right _ _ (by simp)];simp
      have e5:IntKind.i64.wrap (((c.length:Nat):Int) + 1)=(((Zp (l.take (i + (k + 1)))).length:Nat):Int):=by rw [wrap_in (by omega) (by omega),hcc];simp
      have e7:IntKind.i64.wrap (((k:Nat):Int) + 1)=((k + 1:Nat):Int):=by rw [wrap_in (by omega) (by omega)];omega
      exact ⟨(k + 1,tl),⟨by show 1≤k + 1;omega,by show i + (k + 1)≤l.length;omega,by show (Zp (l.take (i + (k + 1)))).length + tl.length=i + (k + 1) - 1;rw [hcc,ht];simp;omega⟩,by show l.length - (k + 1) < l.length - k;omega,by repeat (first|exact yu|refine zY rfl ?_|(refine qK rfl ?_ ?_;· first|exact e5|exact e7)),⟨qE rfl hnew (by repeat (first|exact zk|refine zi rfl ?_)),rfl⟩⟩
     ·rw [hs2] at cb hcs'
      repeat' (first|refine zo rfl (zha (j:=20) zh rfl rfl rfl rfl rfl hB0) rfl rfl ?_|refine zo rfl (YP (j:=20) zh (k) rfl rfl rfl rfl rfl rfl rfl rfl rfl hk1 hh) rfl rfl ?_|refine AD.step _ _ _ _ _ rfl (YP (j:=20) zh (k) rfl rfl rfl rfl rfl rfl rfl rfl rfl hk1 hh) rfl rfl ?_|refine zo rfl (YP (j:=20) zh (k - 1) rfl rfl rfl rfl rfl rfl rfl rfl hkx hk2 hh) rfl rfl ?_|refine AD.step _ _ _ _ _ rfl (YP (j:=20) zh (k - 1) rfl rfl rfl rfl rfl rfl rfl rfl hkx hk2 hh) rfl rfl ?_|refine zo rfl (zN (k:=i + k) (j:=0) zh rfl rfl rfl rfl gx rfl) rfl rfl ?_|refine AD.step _ _ _ _ _ rfl (zN (k:=i + k) (j:=0) zh rfl rfl rfl rfl gx rfl) rfl rfl ?_|refine zo rfl (zN (k:=i + (k - 1)) (j:=0) zh rfl rfl rfl rfl gy rfl) rfl rfl ?_|refine AD.step _ _ _ _ _ rfl (zN (k:=i + (k - 1)) (j:=0) zh rfl rfl rfl rfl gy rfl) rfl rfl ?_|(refine shC ?_;first|refine qV (cb) ?_)|refine sK ?_|refine sC (fun _=>?_) (fun _=>?_)|fail)
      have hcc:Zp (l.take (i + (k + 1)))=c:=by rw [show i + (k + 1)=i + k + 1 by omega,hcs'];simp
      have hnew:B=(Zp (l.take (i + (k + 1)))++((mid++[y])++l.drop (i + (k + 1) - 1))).map yg:=by
       rw [hcc,hB,hdr];simp
      have e5:((c.length:Nat):Int)=(((Zp (l.take (i + (k + 1)))).length:Nat):Int):=by rw [hcc]
      have e7:IntKind.i64.wrap (((k:Nat):Int) + 1)=((k + 1:Nat):Int):=by rw [wrap_in (by omega) (by omega)];omega
      exact ⟨(k + 1,mid++[y]),⟨by show 1≤k + 1;omega,by show i + (k + 1)≤l.length;omega,by show (Zp (l.take (i + (k + 1)))).length + (mid++[y]).length=i + (k + 1) - 1;rw [hcc];simp;omega⟩,by show l.length - (k + 1) < l.length - k;omega,by repeat (first|exact yu|refine zY rfl ?_|(refine qK rfl ?_ ?_;· first|exact e5|exact e7)),⟨qE rfl hnew (by repeat (first|exact zk|refine zi rfl ?_)),rfl⟩⟩
    ·have hd2:decide (((k:Nat):Int) < (((l.map yg).length - i:Nat):Int))=false:=decide_eq_false (by simp;omega)
     have hcB:c.length < B.length:=by omega
     have hcl:c=Zp l:=by rw [hc,List.take_of_length_le (by omega)]
     have hfin:(B.take c.length++List.replicate (B.length - c.length) zPt++B.drop (c.length + (B.length - c.length))).take c.length=(Zp l).map yg:=by
      rw [List.append_assoc,List.take_append_of_le_length (by simp;omega),List.take_take,Nat.min_self,hB,←hcl];simp
     repeat' (first|refine zo rfl (zha (j:=20) zh rfl rfl rfl rfl rfl hB0) rfl rfl ?_|refine zeR zh 0 21 rfl rfl rfl rfl rfl rfl rfl rfl rfl (by omega) (by omega) (by omega) (by omega) rfl rfl rfl (fun u2=>?_)|refine zeR zh 0 22 rfl rfl rfl rfl rfl rfl rfl rfl rfl (by omega) (by omega) (by simp only [List.length_append,List.length_take,List.length_replicate,List.length_drop,Int.toNat_natCast];omega) (by simp only [List.length_append,List.length_take,List.length_replicate,List.length_drop,Int.toNat_natCast];omega) rfl rfl rfl (fun u3=>?_)|refine znR (t:=4) (i:=0) (j:=22) rfl rfl rfl rfl (by simp only [List.length_append,List.length_take,List.length_replicate,List.length_drop,Int.toNat_natCast];omega) (by simp only [List.length_append,List.length_take,List.length_replicate,List.length_drop,Int.toNat_natCast];omega) ?_|(refine zL ?_;first|refine zoK (j:=21) zh rfl rfl rfl rfl rfl rfl (Nat.le_of_lt hcB) (Nat.le_refl _) hB0 rfl rfl rfl rfl ?_)|refine sK ?_|refine sC (fun _=>?_) (fun _=>?_)|fail)
     exact ⟨.inr rfl,.inl ⟨_,rfl,by rw [pts,←hfin];rfl,tH⟩⟩
  ·have hd':decide (((i:Nat):Int) < (((l.map yg).length:Nat):Int))=false:=decide_eq_false (by simp;omega)
   have hcp:Zp l=l:=by rw [List.take_of_length_le (by omega)] at hci;exact hci
   repeat' (first|refine zdu (t:=4) (i:=0) rfl rfl ?_|(refine zL ?_;first|refine zcr zh rfl rfl rfl rfl rfl rfl rfl ?_)|refine sA ?_|refine sC (fun _=>?_) (fun _=>?_)|fail)
   exact ⟨.inr rfl,.inl ⟨_,rfl,by rw [hcp];rfl,tH⟩⟩
end Go.Cg
