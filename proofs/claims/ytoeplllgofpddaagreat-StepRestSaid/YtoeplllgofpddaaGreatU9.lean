/- A part of the walks by abstract values: no statement of its own. -/
import Derived.Test.YtoeplllgofpddaaGreatU8
set_option linter.unusedVariables false
set_option linter.unusedSimpArgs false
namespace Go.Cg
open Go.Proofs
set_option maxHeartbeats 20000000
abbrev zjl (l:List Int):PV:=.slc 1 (l.map fun n=>.base (.int .u8 n)) true
theorem ze2 (k b i d:Int) (hk:k=2∧b=8∨k=3∧b=10∨k=4∧b=28) (hd:d=0∨d=1∨d=2∨d=3):ACall Tryz.prog 271 [zjl [6],yJ ⟨k,i,d,false⟩] (u8s (6::(List.replicate d.toNat 29++[b]))):=by
 have c1:=zcc 29 d (by omega) (by omega)
 rcases hd with rfl|rfl|rfl|rfl
 all_goals rcases hk with ⟨rfl,rfl⟩|⟨rfl,rfl⟩|⟨rfl,rfl⟩
 all_goals
  refine zh zf Tryz.func271 rfl (by kernel_rfl) Tryz.ntmps271 (by simp) _ rfl (fun hw gB hgB=>?_)
  repeat' (first|(refine shC ?_;first|refine qC c1 ?_)|(refine yH ?_;first|refine zB rfl (zbj zf rfl rfl rfl rfl rfl) rfl rfl ?_|refine yU zf rfl rfl rfl rfl rfl rfl rfl (by show _ * 1≤_;simp [List.replicate]) (by simp [List.replicate]) rfl rfl ?_|refine QW 0 zf rfl rfl rfl (.inl rfl) rfl (by simp [List.replicate]) rfl (by show _ * 1≤_;simp [List.replicate]) (by simp [List.replicate]) rfl rfl rfl ?_)|refine sA ?_|refine sC (fun _=>?_) (fun _=>?_)|fail)
  exact retq rfl rfl
theorem zpC (i d:Int) (hi0:0≤i) (hi1:i≤7) (hd:d=0∨d=1∨d=2∨d=3):∃ bs:List Int,ACall Tryz.prog 271 [zjl [6],yJ ⟨7,i,d,false⟩] (u8s bs):=by
 have c1:=zcc 29 d (by omega) (by omega)
 obtain ⟨bs,cp⟩:=ziY (6::(List.replicate d.toNat 29++[19])) (by simp) (by simp;omega) i hi0 (by omega)
 refine ⟨6::(List.replicate d.toNat 29++[19])++bs,?_⟩
 have hneg:decide (i < 0)=false:=by simp;omega
 rcases hd with rfl|rfl|rfl|rfl
 all_goals
  refine zh zf Tryz.func271 rfl (by kernel_rfl) Tryz.ntmps271 (by simp) _ rfl (fun hw gB hgB=>?_)
  repeat' (first|(refine shC ?_;first|refine qC c1 ?_|refine qC cp ?_)|(refine yH ?_;first|refine zB rfl (zbj zf rfl rfl rfl rfl rfl) rfl rfl ?_|refine yU zf rfl rfl rfl rfl rfl rfl rfl (by show _ * 1≤_;simp [List.replicate]) (by simp [List.replicate]) rfl rfl ?_|refine QW 0 zf rfl rfl rfl (.inl rfl) rfl (by simp [List.replicate]) rfl (by show _ * 1≤_;simp [List.replicate]) (by simp [List.replicate]) rfl rfl rfl ?_)|refine sK ?_|refine sC (fun _=>?_) (fun _=>?_)|fail)
  exact retq rfl rfl
theorem ziQ (k b i d:Int) (hk:k=5∧b=18∨k=6∧b=17) (hi0:0≤i) (hi1:i≤31) (hd:d=0∨d=1∨d=2∨d=3):∃ bs:List Int,ACall Tryz.prog 271 [zjl [6],yJ ⟨k,i,d,false⟩] (u8s bs):=by
 have c1:=zcc 29 d (by omega) (by omega)
 obtain ⟨bs,cp⟩:=ziY (6::(List.replicate d.toNat 29++[b])) (by simp) (by simp;omega) (4 * (i + 1)) (by omega) (by omega)
 have hw:IntKind.i64.wrap (i + 1)=i + 1:=wrap_in (by omega) (by omega)
 have cc:=zpl (i + 1) (by omega) (by omega)
 rw [←hw] at cc
 have hneg:decide (4 * IntKind.i64.wrap (i + 1) < 0)=false:=by rw [hw];simp;omega
 rw [show 4 * (i + 1)=4 * IntKind.i64.wrap (i + 1) by rw [hw]] at cp
 refine ⟨6::(List.replicate d.toNat 29++[b])++bs,?_⟩
 rcases hd with rfl|rfl|rfl|rfl
 all_goals rcases hk with ⟨rfl,rfl⟩|⟨rfl,rfl⟩
 all_goals
  refine zh zf Tryz.func271 rfl (by kernel_rfl) Tryz.ntmps271 (by simp) _ rfl (fun hw gB hgB=>?_)
  repeat' (first|(refine shC ?_;first|refine qC c1 ?_|refine qC cp ?_|refine qC cc ?_)|(refine yH ?_;first|refine zB rfl (zbj zf rfl rfl rfl rfl rfl) rfl rfl ?_|refine yU zf rfl rfl rfl rfl rfl rfl rfl (by show _ * 1≤_;simp [List.replicate]) (by simp [List.replicate]) rfl rfl ?_|refine QW 0 zf rfl rfl rfl (.inl rfl) rfl (by simp [List.replicate]) rfl (by show _ * 1≤_;simp [List.replicate]) (by simp [List.replicate]) rfl rfl rfl ?_)|refine sK ?_|refine sC (fun _=>?_) (fun _=>?_)|fail)
  exact retq rfl rfl
set_option maxHeartbeats 20000000
structure Pt where
 c:Int
 p:Int
 f:Int
 t:Int
 deriving Inhabited
def Qb (x:Pt):PV:=.agg [pi x.c,pi x.p,pi x.f,pi x.t]
def zre (f t:Int):PV:=.agg [pi f,pi t]
def pts (l:List Pt):PV:=.slc 4 (l.map Qb) false
def yX (k:Int) (c:Cl):List Pt:=[⟨k,1,c.tf,c.tt⟩,⟨k,2,c.hf,c.ht⟩]++(if c.kind==2 then [⟨k,3,c.filter,c.hf⟩] else [])
theorem zdY (f t n:Int):ACall Tryz.prog 286 [zre f t,pi n] (pb (decide (0≤f)&&decide (f < t)&&decide (t≤n))):=by
 refine zh zf Tryz.func286 rfl (by kernel_rfl) Tryz.ntmps286 (by simp) _ rfl (fun hw gB hgB=>?_)
 repeat' (first|refine sA ?_|refine sC (fun _=>?_) (fun _=>?_)|fail)
 all_goals first|(refine retq rfl ?_;first|(simp only [zk,BL,List.length_map] at *;simp only [*,BL,List.length_map];done)|(simp_all [zk];done)|(simp_all [zk];omega)|(simp_all [zk];intros;omega))|(refine ZN rfl ?_;first|(simp only [zk,BL,List.length_map] at *;simp only [*,BL,List.length_map];done)|(simp_all [zk];done)|(simp_all [zk];omega)|(simp_all [zk];intros;omega))|skip
def QB (a b:Pt):Bool:=!(a.f==b.f&&(a.t==b.t&&true))&&decide (b.f≤a.f)&&decide (a.t≤b.t)
theorem zji (a b:Pt):ACall Tryz.prog 292 [zre a.f a.t,zre b.f b.t] (pb (QB a b)):=by
 refine zh zf Tryz.func292 rfl (by kernel_rfl) Tryz.ntmps292 (by simp) _ rfl (fun hw gB hgB=>?_)
 repeat' (first|refine sA ?_|refine sC (fun _=>?_) (fun _=>?_)|fail)
 all_goals (refine retq rfl ?_;first|(simp only [zk,QB, *];done)|(simp only [zk,QB, *];rfl)|(simp_all [zk,QB];done))
def Yu (a b:Pt):Bool:=decide (a.f < b.t)&&decide (b.f < a.t)
theorem zlC (a b:Pt):ACall Tryz.prog 304 [zre a.f a.t,zre b.f b.t] (pb (Yu a b)):=by
 refine zh zf Tryz.func304 rfl (by kernel_rfl) Tryz.ntmps304 (by simp) _ rfl (fun hw gB hgB=>?_)
 repeat' (first|refine sA ?_|refine sC (fun _=>?_) (fun _=>?_)|fail)
 all_goals (refine retq rfl ?_;first|(simp only [zk,Yu, *];done)|(simp only [zk,Yu, *];rfl)|(simp_all [zk,Yu];done))
def zqx (l:List Pt) (p:Pt→Bool):Int:=if l.any p then ((l.findIdx p:Nat):Int) else -1
theorem zf4 (l:List Pt) (p:Pt→Bool) (f:FuncId) (first cap:List PV) (hp:∀ x∈l,ACall Tryz.prog f (first++[Qb x]++cap) (pb (p x))):ACall Tryz.prog 305 [pts l,.fn (.func f) first cap] (pi (zqx l p)):=by
 refine zh zf Tryz.func305 rfl (by kernel_rfl) Tryz.ntmps305 (by simp) _ rfl (fun hw gB hgB=>?_)
 have hl:l.length≤9223372036854775807:=by have:=hw.1;simp [pts,PV.lenOk,maxLen] at this;exact this.1
 repeat' (first|refine sA ?_|refine sC (fun _=>?_) (fun _=>?_)|fail)
 refine zJ (fun k:Nat=>[(0,.pv (pts l)),(1,.pv (.fn (.func f) first cap)),(7,.pv (pi l.length)),(8,.pv (pi k))]) (fun _=>[]) (fun k=>k≤l.length∧∀ j (h:j < k) (h2:j < l.length),p l[j]=false) (fun k=>l.length - k) 0 ⟨by omega,fun j h=>by omega⟩ (tS) tH ?_
 rintro k ⟨hk,hno⟩
 by_cases hlt:k < l.length
 ·have he:=yu (f:=Qb) hlt
  have c1:=hp _ (List.getElem_mem hlt)
  cases hpx:p l[k]
  ·rw [hpx] at c1
   repeat' (first|(refine shC ?_;first|refine qV (c1) ?_)|(refine shX ?_;first|refine qX he ?_)|refine sK ?_|refine sC (fun _=>?_) (fun _=>?_)|fail)
   exact ⟨k + 1,⟨hlt,fun j hj h2=>by
    by_cases e:j=k
    ·subst e;exact hpx
    ·exact hno j (by omega) h2⟩,tD,tS,tH⟩
  ·rw [hpx] at c1
   have hi:l.findIdx p=k:=by
    rw [List.findIdx_eq hlt]
    exact ⟨hpx,fun j hj=>hno j hj (by omega)⟩
   have ha:l.any p=true:=List.any_eq_true.2 ⟨_,List.getElem_mem hlt,hpx⟩
   repeat' (first|(refine shC ?_;first|refine qV (c1) ?_)|(refine shX ?_;first|refine qX he ?_)|refine sK ?_|refine sC (fun _=>?_) (fun _=>?_)|fail)
   exact retq rfl (by simp [zk,zqx,ha,hi])
 ·have ha:l.any p=false:=by
   rw [List.any_eq_false]
   intro x hx
   obtain ⟨j,hj,rfl⟩:=List.getElem_of_mem hx
   simp [hno j (by omega) hj]
  repeat' (first|refine sK ?_|refine sC (fun _=>?_) (fun _=>?_)|fail)
  exact retq rfl (by simp [zk,zqx,ha])
theorem YX (l:List Pt) (p:Pt→Bool) (f:FuncId) (first cap:List PV) (hp:∀ x∈l,ACall Tryz.prog f (first++[Qb x]++cap) (pb (p x))):ACall Tryz.prog 290 [pts l,.fn (.func f) first cap] (pb (l.any p)):=by
 refine zh zf Tryz.func290 rfl (by kernel_rfl) Tryz.ntmps290 (by simp) _ rfl (fun hw gB hgB=>?_)
 have c1:=zf4 l p f first cap hp
 repeat' (first|(refine shC ?_;first|refine qC c1 ?_)|refine sA ?_|refine sC (fun _=>?_) (fun _=>?_)|fail)
 refine retq rfl ?_
 have:decide (0≤zqx l p)=l.any p:=by
  unfold zqx
  cases h:l.any p <;> simp
 simp [zk,this]
theorem zjY (a b:Pt) (may:Pt→Pt→Bool) (mf:FuncId) (hm:∀ x y,ACall Tryz.prog mf [Qb x,Qb y] (pb (may x y))):ACall Tryz.prog 303 [Qb b,.ptr (Qb a) 0,.ptr (.fn (.func mf) [] []) 0] (pb (Yu a b&&!may a b)):=by
 refine zh zf Tryz.func303 rfl (by kernel_rfl) Tryz.ntmps303 (by simp) _ rfl (fun hw gB hgB=>?_)
 repeat' (first|(refine shC ?_;first|refine qC (zlC a b) ?_|refine qV (hm a b) ?_)|refine sA ?_|refine sC (fun _=>?_) (fun _=>?_)|fail)
 all_goals (refine retq rfl ?_;simp_all [zk];done)
theorem zkZ (a:Pt) (m:List Pt) (may:Pt→Pt→Bool) (mf:FuncId) (hm:∀ x y,ACall Tryz.prog mf [Qb x,Qb y] (pb (may x y))):ACall Tryz.prog 302 [Qb a,.ptr (pts m) 0,.ptr (.fn (.func mf) [] []) 0] (pb (m.any fun b=>Yu a b&&!may a b)):=by
 refine zh zf Tryz.func302 rfl (by kernel_rfl) Tryz.ntmps302 (by simp) _ rfl (fun hw gB hgB=>?_)
 have c1:=YX m (fun b=>Yu a b&&!may a b) 303 [] [.ptr (Qb a) 0,.ptr (.fn (.func mf) [] []) 0] (fun b _=>zjY a b may mf hm)
 repeat' (first|(refine shC ?_;first|refine qC c1 ?_)|refine sA ?_|refine sC (fun _=>?_) (fun _=>?_)|fail)
 exact retq rfl rfl
def zcP (l m:List Pt) (may:Pt→Pt→Bool):Bool:=l.any fun a=>m.any fun b=>Yu a b&&!may a b
theorem zdA (l m:List Pt) (may:Pt→Pt→Bool) (mf:FuncId) (hm:∀ x y,ACall Tryz.prog mf [Qb x,Qb y] (pb (may x y))):ACall Tryz.prog 287 [pts l,pts m,.fn (.func mf) [] []] (pb (zcP l m may)):=by
 refine zh zf Tryz.func287 rfl (by kernel_rfl) Tryz.ntmps287 (by simp) _ rfl (fun hw gB hgB=>?_)
 have c1:=YX l (fun a=>m.any fun b=>Yu a b&&!may a b) 302 [] [.ptr (pts m) 0,.ptr (.fn (.func mf) [] []) 0] (fun a _=>zkZ a m may mf hm)
 repeat' (first|(refine shC ?_;first|refine qC c1 ?_)|refine sA ?_|refine sC (fun _=>?_) (fun _=>?_)|fail)
 exact retq rfl rfl
theorem zcN (k:Int) (c:Cl):ACall Tryz.prog 288 [pi k,ZB c] (pts (yX k c)):=by
 refine zh zf Tryz.func288 rfl (by kernel_rfl) Tryz.ntmps288 (by simp) _ rfl (fun hw gB hgB=>?_)
 rcases Bool.eq_false_or_eq_true (c.kind==2) with hk|hk
 ·have e:pts (yX k c)=.slc 4 [Qb ⟨k,1,c.tf,c.tt⟩,Qb ⟨k,2,c.hf,c.ht⟩,Qb ⟨k,3,c.filter,c.hf⟩] false:=by simp [pts,yX,hk]
  repeat' (first|(refine yH ?_;first|refine zB rfl (Qq zf rfl rfl (.inl rfl) rfl rfl (by show _ * 32≤_;simp) (by simp)) rfl rfl ?_)|refine sK ?_|refine sC (fun _=>?_) (fun _=>?_)|fail)
  exact retq rfl (by rw [e];rfl)
 ·have e:pts (yX k c)=.slc 4 [Qb ⟨k,1,c.tf,c.tt⟩,Qb ⟨k,2,c.hf,c.ht⟩] false:=by simp [pts,yX,hk]
  repeat' (first|refine sK ?_|refine sC (fun _=>?_) (fun _=>?_)|fail)
  exact zcp (t:=4) (a:=.pv (.slc 4 [Qb ⟨k,1,c.tf,c.tt⟩,Qb ⟨k,2,c.hf,c.ht⟩] true)) (b:=.pv (pts (yX k c))) (ps:=[pts (yX k c)]) rfl (by rw [e];exact zdH 4 _ true) rfl rfl
theorem zlY (a b:Pt):ACall Tryz.prog 289 [Qb a,Qb b] (pb (a.c==b.c&&(a.p==b.p&&true))):=by
 refine zh zf Tryz.func289 rfl (by kernel_rfl) Tryz.ntmps289 (by simp) _ rfl (fun hw gB hgB=>?_)
 repeat' (first|refine sA ?_|refine sC (fun _=>?_) (fun _=>?_)|fail)
 exact retq rfl rfl
theorem zm9 (y x:Pt):ACall Tryz.prog 291 [Qb y,.ptr (Qb x) 0] (pb (!QB y x)):=by
 refine zh zf Tryz.func291 rfl (by kernel_rfl) Tryz.ntmps291 (by simp) _ rfl (fun hw gB hgB=>?_)
 repeat' (first|(refine shC ?_;first|refine qC (zji y x) ?_)|refine sA ?_|refine sC (fun _=>?_) (fun _=>?_)|fail)
 exact retq rfl rfl
theorem znp (y x:Pt):ACall Tryz.prog 293 [Qb y,.ptr (Qb x) 0] (pb (y.p != 1&&y.f==x.f)):=by
 refine zh zf Tryz.func293 rfl (by kernel_rfl) Tryz.ntmps293 (by simp) _ rfl (fun hw gB hgB=>?_)
 repeat' (first|refine sA ?_|refine sC (fun _=>?_) (fun _=>?_)|fail)
 all_goals (refine retq rfl ?_;simp_all [zk];done)
theorem zmJ (x y:Pt):ACall Tryz.prog 294 [Qb x,Qb y] (pb (x.p==1&&y.p==1)):=by
 refine zh zf Tryz.func294 rfl (by kernel_rfl) Tryz.ntmps294 (by simp) _ rfl (fun hw gB hgB=>?_)
 repeat' (first|refine sA ?_|refine sC (fun _=>?_) (fun _=>?_)|fail)
 all_goals (refine retq rfl ?_;simp_all [zk];done)
theorem zmR (x y:Pt):ACall Tryz.prog 295 [Qb x,Qb y] (pb false):=by
 refine zh zf Tryz.func295 rfl (by kernel_rfl) Tryz.ntmps295 (by simp) _ rfl (fun hw gB hgB=>?_)
 repeat' (first|refine sA ?_|refine sC (fun _=>?_) (fun _=>?_)|fail)
 exact retq rfl rfl
def zqf (a b:Pt):Bool:=a.c==b.c&&(a.p==b.p&&true)
def zqP (x y:Pt):Bool:=x.p==1&&y.p==1
def zbn (n:Int) (c:Cl):Int :=
 if decide (c.kind < 1)||decide (4 < c.kind)||!zay n c||!zcQ n c then 3
 else if c.kind==2&&(decide (c.filter < 0)||decide (c.hf≤c.filter))||c.kind != 2&&c.filter != -1 then 3
 else if zcP (yX 0 c) (yX 0 c) zqf then 12
 else 0
set_option maxHeartbeats 4000000 in
theorem zl0 (n:Int) (c:Cl):ACall Tryz.prog 275 [pi n,ZB c] (pi (zbn n c)):=by
 refine zh zf Tryz.func275 rfl (by kernel_rfl) Tryz.ntmps275 (by simp) _ rfl (fun hw gB hgB=>?_)
 have c1:=zdY c.tf c.tt n
 have c2:=zdY c.hf c.ht n
 have c3:=zdA (yX 0 c) (yX 0 c) zqf 289 zlY
 have e1:(decide (0≤c.tf)&&decide (c.tf < c.tt)&&decide (c.tt≤n))=zay n c:=rfl
 have e2:(decide (0≤c.hf)&&decide (c.hf < c.ht)&&decide (c.ht≤n))=zcQ n c:=rfl
 rw [e1] at c1
 rw [e2] at c2
 repeat' (first|(refine shC ?_;first|refine qC c1 ?_|refine qC c2 ?_|refine qC (zcN 0 c) ?_|refine qC c3 ?_)|refine sA ?_|refine sC (fun _=>?_) (fun _=>?_)|fail)
 all_goals (refine retq rfl ?_;first|(simp only [zk,zbn, *];done)|(simp only [zk,zbn, *];rfl)|(simp_all [zk,zbn];done)|(simp_all [zk,zbn];omega))
def WR (a:Cl) (x:Pt):Bool:=!((yX 0 a).any fun y=>!QB y x)
def zee (a:Cl) (x:Pt):Bool:=(yX 0 a).any fun y=>y.p != 1&&y.f==x.f
def zgg (a b:Cl):Bool :=
 if a.tf==b.tf&&(a.tt==b.tt&&true) then !zcP (yX 0 a) (yX 1 b) zqP else !zcP (yX 0 a) (yX 1 b) (fun _ _=>false)
def zdL (a b:Cl):List Pt→Bool
 | []=>zgg a b
 | x::l=>if WR a x then x.p==1||!zee a x else zdL a b l
def zg5 (a b:Cl):Bool:=zdL a b (yX 1 b)
set_option maxHeartbeats 2000000 in
theorem zmT (a b:Cl):ACall Tryz.prog 276 [ZB a,ZB b] (pb (zg5 a b)):=by
 refine zh zf Tryz.func276 rfl (by kernel_rfl) Tryz.ntmps276 (by simp) _ rfl (fun hw gB hgB=>?_)
 have hlen:(yX 1 b).length≤3:=by unfold yX;split <;> simp
 have h0a:((yX 0 a).map Qb)[(0:Int).toNat]?=some (Qb ⟨0,1,a.tf,a.tt⟩):=by simp [yX]
 have h0b:((yX 1 b).map Qb)[(0:Int).toNat]?=some (Qb ⟨1,1,b.tf,b.tt⟩):=by simp [yX]
 have ce:=zdA (yX 0 a) (yX 1 b) zqP 294 zmJ
 have cf:=zdA (yX 0 a) (yX 1 b) (fun _ _=>false) 295 zmR
 repeat' (first|(refine shC ?_;first|refine qC (zcN 0 a) ?_|refine qC (zcN 1 b) ?_)|refine sA ?_|refine sC (fun _=>?_) (fun _=>?_)|fail)
 refine zJ (fun k:Nat=>[(5,.pv (pts (yX 0 a))),(6,.pv (pts (yX 1 b))),(14,.pv (pts (yX 1 b))),(15,.pv (pi (yX 1 b).length)),(16,.pv (pi k))]) (fun _=>[]) (fun k=>k≤(yX 1 b).length∧zg5 a b=zdL a b ((yX 1 b).drop k)) (fun k=>(yX 1 b).length - k) 0 ⟨by omega,rfl⟩ (tS) tH ?_
 rintro k ⟨hk,hr⟩
 by_cases hlt:k < (yX 1 b).length
 ·have he:=yu (f:=Qb) hlt
  rw [drop_cons hlt,zdL] at hr
  generalize (yX 1 b)[k]=x at he hr
  have c1:=YX (yX 0 a) (fun y=>!QB y x) 291 [] [.ptr (Qb x) 0] (fun y _=>zm9 y x)
  have c2:=YX (yX 0 a) (fun y=>y.p != 1&&y.f==x.f) 293 [] [.ptr (Qb x) 0] (fun y _=>znp y x)
  cases ha:(yX 0 a).any fun y=>!QB y x
  ·rw [ha] at c1
   rw [show WR a x=true by rw [WR,ha];rfl,if_pos rfl] at hr
   repeat' (first|refine XW (t:=8) rfl rfl rfl ?_|(refine shC ?_;first|refine qC c1 ?_|refine qC c2 ?_)|(refine shX ?_;first|refine qX he ?_)|refine sK ?_|refine sC (fun _=>?_) (fun _=>?_)|fail)
   all_goals (refine retq rfl ?_;rw [hr];simp_all [zk,zee];done)
  ·rw [ha] at c1
   rw [show WR a x=false by rw [WR,ha];rfl,if_neg (by simp)] at hr
   repeat' (first|refine XW (t:=8) rfl rfl rfl ?_|(refine shC ?_;first|refine qC c1 ?_)|(refine shX ?_;first|refine qX he ?_)|refine sK ?_|refine sC (fun _=>?_) (fun _=>?_)|fail)
   exact ⟨k + 1,⟨hlt,hr⟩,tD,tS,tH⟩
 ·rw [drop_end (by omega),zdL,zgg] at hr
  repeat' (first|(refine shC ?_;first|refine qC ce ?_|refine qC cf ?_)|(refine shX ?_;first|refine qX h0a ?_|refine qX h0b ?_)|refine sK ?_|refine sC (fun _=>?_) (fun _=>?_)|fail)
  all_goals (refine retq rfl ?_;rw [hr];simp_all [zk];done)
structure OkC (c:Cl):Prop where
 t:c.tf < c.tt
 h:c.hf < c.ht
 h0:0≤c.hf
 t0:0≤c.tf
 f:c.kind=2→0≤c.filter∧c.filter < c.hf
theorem zk8 {n:Int} {c:Cl} (h:XE n c=0):OkC c:=by
 unfold XE at h
 split at h
 ·simp at h
 ·split at h
  ·simp at h
  ·rename_i h1 h2
   simp [zay,zcQ] at h1 h2
   exact ⟨by omega,by omega,by omega,by omega,fun hk=>by simp [hk] at h2;omega⟩
theorem VA {a b:Cl} {p q:Int} {x y:Pt} (hx:bounds a p=(x.f,x.t)) (hy:bounds b q=(y.f,y.t)) (h1:x.f < x.t) (h2:y.f < y.t):meet a p b q=Yu x y:=by
 simp [meet,Yu,hx,hy,h1,h2]
theorem zok {a b:Cl} {p q:Int} (h:¬ (bounds a p).1 < (bounds a p).2∨¬ (bounds b q).1 < (bounds b q).2):meet a p b q=false:=by
 simp only [meet,Bool.and_eq_false_iff,decide_eq_false_iff_not]
 rcases h with h|h
 ·exact .inl (.inr h)
 ·exact .inr h
theorem zeM {a b:Cl} {p q:Int} {x y:Pt} (hx:bounds a p=(x.f,x.t)) (hy:bounds b q=(y.f,y.t)) (h1:x.f < x.t):within a p b q=QB x y:=by
 rw [Bool.eq_iff_iff]
 simp [within,QB,hx,hy]
 omega
theorem zlt {a b:Cl} {q:Int} (h:a.kind≠2):within a 3 b q=true:=by simp [within,bounds,h]
theorem zmM {n:Int} {c:Cl}:zbn n c=XE n c:=by
 unfold zbn XE
 split
 ·rfl
 ·split
  ·rfl
  ·rename_i h1 h2
   have hok:OkC c:=by
    simp [zay,zcQ] at h1 h2
    exact ⟨by omega,by omega,by omega,by omega,fun hk=>by simp [hk] at h2;omega⟩
   have e:zcP (yX 0 c) (yX 0 c) zqf=(meet c 1 c 2||meet c 1 c 3||meet c 2 c 3):=by
    obtain ⟨g1,g2,g3,g4,g5⟩:=hok
    rw [Bool.eq_iff_iff]
    by_cases hk:c.kind=2
    ·have:=g5 hk
     simp [zcP,yX,hk,zqf,Yu,meet,bounds]
     omega
    ·simp [zcP,yX,hk,zqf,Yu,meet,bounds]
     omega
   rw [e]
theorem zcx {a b:Cl} (ha:OkC a) {q:Int} {x:Pt} (hy:bounds b q=(x.f,x.t)) (h2:x.f < x.t):WR a x=ZV a b q:=by
 have w1:within a 1 b q=QB ⟨0,1,a.tf,a.tt⟩ x:=zeM (by simp [bounds]) hy ha.t
 have w2:within a 2 b q=QB ⟨0,2,a.hf,a.ht⟩ x:=zeM (by simp [bounds]) hy ha.h
 by_cases hk:a.kind=2
 ·have w3:within a 3 b q=QB ⟨0,3,a.filter,a.hf⟩ x:=zeM (by simp [bounds,hk]) hy (ha.f hk).2
  simp [WR,yX,ZV,w1,w2,w3,hk,hy,h2,Bool.and_assoc]
 ·have w3:=zlt (b:=b) (q:=q) hk
  simp [WR,yX,ZV,w1,w2,w3,hk,hy,h2]
theorem zfl (a:Cl) (x:Pt):zee a x=(a.hf==x.f||a.kind==2&&a.filter==x.f):=by
 by_cases hk:a.kind=2 <;> simp [zee,yX,hk]
theorem zrj {a b:Cl} (h:b.kind≠2):ZV a b 3=false:=by simp [ZV,bounds,h]
theorem zhR {a b:Cl} (ha:OkC a) (hb:OkC b):zgg a b=!(badM a b 1 1||badM a b 1 2||badM a b 1 3||badM a b 2 1||badM a b 2 2||badM a b 2 3||badM a b 3 1||badM a b 3 2||badM a b 3 3):=by
 have m11:meet a 1 b 1=Yu ⟨0,1,a.tf,a.tt⟩ ⟨1,1,b.tf,b.tt⟩:=VA (by simp [bounds]) (by simp [bounds]) ha.t hb.t
 have m12:meet a 1 b 2=Yu ⟨0,1,a.tf,a.tt⟩ ⟨1,2,b.hf,b.ht⟩:=VA (by simp [bounds]) (by simp [bounds]) ha.t hb.h
 have m21:meet a 2 b 1=Yu ⟨0,2,a.hf,a.ht⟩ ⟨1,1,b.tf,b.tt⟩:=VA (by simp [bounds]) (by simp [bounds]) ha.h hb.t
 have m22:meet a 2 b 2=Yu ⟨0,2,a.hf,a.ht⟩ ⟨1,2,b.hf,b.ht⟩:=VA (by simp [bounds]) (by simp [bounds]) ha.h hb.h
 have ra:(yX 0 a)=[⟨0,1,a.tf,a.tt⟩,⟨0,2,a.hf,a.ht⟩]++(if a.kind==2 then [⟨0,3,a.filter,a.hf⟩] else []):=rfl
 have rb:(yX 1 b)=[⟨1,1,b.tf,b.tt⟩,⟨1,2,b.hf,b.ht⟩]++(if b.kind==2 then [⟨1,3,b.filter,b.hf⟩] else []):=rfl
 have n3:b.kind≠2→∀ p,meet a p b 3=false:=fun h p=>zok (.inr (by simp [bounds,h]))
 have n3':a.kind≠2→∀ q,meet a 3 b q=false:=fun h q=>zok (.inl (by simp [bounds,h]))
 have m13:b.kind=2→meet a 1 b 3=Yu ⟨0,1,a.tf,a.tt⟩ ⟨1,3,b.filter,b.hf⟩:=fun h=>VA (by simp [bounds]) (by simp [bounds,h]) ha.t (hb.f h).2
 have m23:b.kind=2→meet a 2 b 3=Yu ⟨0,2,a.hf,a.ht⟩ ⟨1,3,b.filter,b.hf⟩:=fun h=>VA (by simp [bounds]) (by simp [bounds,h]) ha.h (hb.f h).2
 have m31:a.kind=2→meet a 3 b 1=Yu ⟨0,3,a.filter,a.hf⟩ ⟨1,1,b.tf,b.tt⟩:=fun h=>VA (by simp [bounds,h]) (by simp [bounds]) (ha.f h).2 hb.t
 have m32:a.kind=2→meet a 3 b 2=Yu ⟨0,3,a.filter,a.hf⟩ ⟨1,2,b.hf,b.ht⟩:=fun h=>VA (by simp [bounds,h]) (by simp [bounds]) (ha.f h).2 hb.h
 have m33:a.kind=2→b.kind=2→meet a 3 b 3=Yu ⟨0,3,a.filter,a.hf⟩ ⟨1,3,b.filter,b.hf⟩:=fun h h'=>VA (by simp [bounds,h]) (by simp [bounds,h']) (ha.f h).2 (hb.f h').2
 unfold zgg badM
 cases hs1:a.tf==b.tf <;> cases hs2:a.tt==b.tt <;> by_cases hka:a.kind=2 <;> by_cases hkb:b.kind=2 <;>
  simp [zcP,ra,rb,hka,hkb,zqP,m11,m12,m21,m22,n3,n3',m13,m23,m31,m32,m33,Bool.and_assoc,Bool.or_assoc]
theorem zpD {a b:Cl} (ha:OkC a) (hb:OkC b):zg5 a b=XG a b:=by
 have e1:=zcx (a:=a) (b:=b) ha (q:=1) (x:=⟨1,1,b.tf,b.tt⟩) (by simp [bounds]) hb.t
 have e2:=zcx (a:=a) (b:=b) ha (q:=2) (x:=⟨1,2,b.hf,b.ht⟩) (by simp [bounds]) hb.h
 have b1:(bounds b 1)=(b.tf,b.tt):=by simp [bounds]
 have b2:(bounds b 2)=(b.hf,b.ht):=by simp [bounds]
 by_cases hk:b.kind=2
 ·have e3:=zcx (a:=a) (b:=b) ha (q:=3) (x:=⟨1,3,b.filter,b.hf⟩) (by simp [bounds,hk]) (hb.f hk).2
  have b3:(bounds b 3)=(b.filter,b.hf):=by simp [bounds,hk]
  rw [zg5,show yX 1 b=[⟨1,1,b.tf,b.tt⟩,⟨1,2,b.hf,b.ht⟩,⟨1,3,b.filter,b.hf⟩] by simp [yX,hk]]
  simp only [zdL,e1,e2,e3,zfl,XG,zky,b1,b2,b3,zhR ha hb]
 ·rw [zg5,show yX 1 b=[⟨1,1,b.tf,b.tt⟩,⟨1,2,b.hf,b.ht⟩] by simp [yX,hk]]
  have c3:=zrj (a:=a) hk
  simp only [zdL,e1,e2,zfl,XG,zky,b1,b2,c3,zhR ha hb]
  simp
theorem zpo {n:Int} {l:List Cl} {k:Nat} (h:Qn n l k=0):XE n (l.getD k default)=0:=by
 unfold Qn at h
 split at h
 ·exact h
 ·rename_i h1;simpa using h1
set_option maxHeartbeats 1000000 in
theorem zi7 (n:Int) (l:List Cl):ACall Tryz.prog 256 [pi n,cls l] (.tup [pi (QJ n l).1,pi (QJ n l).2]):=by
 refine zh zf Tryz.func256 rfl (by kernel_rfl) Tryz.ntmps256 (by simp) _ rfl (fun hw gB hgB=>?_)
 have hl:=zn8 hw.2.1
 by_cases h6:6 < l.length
 ·repeat' (first|refine sK ?_|refine sC (fun _=>?_) (fun _=>?_)|fail)
  exact retq rfl (by simp [zk,QJ,h6])
 ·repeat' (first|refine sK ?_|refine sC (fun _=>?_) (fun _=>?_)|fail)
  refine zJ (fun k:Nat=>[(0,.pv (pi n)),(1,.pv (cls l)),(14,.pv (cls l)),(15,.pv (pi l.length)),(16,.pv (pi k))]) (fun _=>[]) (fun k=>k≤l.length∧∀ j,j < k→Qn n l j=0) (fun k=>l.length - k) 0 ⟨by omega,fun j h=>by omega⟩ (tS) tH ?_
  rintro k ⟨hk,hno⟩
  by_cases hlt:k < l.length
  ·have he:=zj6 hlt
   have ca:=zl0 n (l.getD k default)
   rw [zmM] at ca
   cases ha:(XE n (l.getD k default) != 0)
   ·have hokk:OkC (l.getD k default):=zk8 (n:=n) (by simpa using ha)
    repeat' (first|refine zB rfl (Xn (xs:=l) (f:=ZB) 0 k zf rfl rfl rfl rfl rfl rfl rfl (by omega) (by omega)) rfl rfl ?_|(refine shC ?_;first|refine qC ca ?_)|(refine shX ?_;first|refine qX he ?_)|refine sK ?_|refine sC (fun _=>?_) (fun _=>?_)|fail)
    refine zJ (fun m:Nat=>[(0,.pv (pi n)),(1,.pv (cls l)),(6,.pv (pi k)),(7,.box 0 0),(14,.pv (cls l)),(15,.pv (pi l.length)),(16,.pv (pi k)),(30,.pv (cls (l.take k))),(31,.pv (pi k)),(32,.pv (pi m))]) (fun _=>[(0,.cell (.pv (ZB (l.getD k default))))]) (fun m=>m≤k∧Xg l k m=false) (fun m=>k - m) 0 ⟨by omega,rfl⟩ (by repeat (first|exact yS|refine yG rfl ?_|(refine Zc rfl ?_ ?_;· (simp;omega)))) tH ?_
    rintro m ⟨hm,hpb⟩
    by_cases hltm:m < k
    ·have hem:((l.take k).map ZB)[((m:Nat):Int).toNat]?=some (ZB (l.getD m default)):=by
      simp [List.getElem?_take,hltm,show m < l.length by omega]
     have hps:=zdX l k m
     have hokm:OkC (l.getD m default):=zk8 (n:=n) (zpo (hno m hltm))
     have cf:=zmT (l.getD m default) (l.getD k default)
     rw [zpD hokm hokk] at cf
     cases hf:XG (l.getD m default) (l.getD k default)
     ·have hat:Qn n l k=12:=by
       have:Xg l k k=true:=by
        simp only [Xg,List.any_eq_true,List.mem_range]
        exact ⟨m,hltm,by rw [hf];rfl⟩
       unfold Qn;rw [ha];simp [this]
      have hfin:=zbM h6 hlt hno (by rw [hat];decide)
      clear hps
      rw [hf] at cf
      repeat' (first|(refine shC ?_;first|refine qC cf ?_)|(refine shX ?_;first|refine qX hem ?_)|refine sK ?_|refine sC (fun _=>?_) (fun _=>?_)|fail)
      exact retq rfl (by simp [zk,hfin,hat])
     ·have hpm:Xg l k (m + 1)=false:=by rw [hps,hpb,hf];rfl
      clear hps
      rw [hf] at cf
      repeat' (first|(refine shC ?_;first|refine qC cf ?_)|(refine shX ?_;first|refine qX hem ?_)|refine sK ?_|refine sC (fun _=>?_) (fun _=>?_)|fail)
      exact ⟨m + 1,⟨by omega,hpm⟩,tD,tS,tH⟩
    ·repeat' (first|refine sK ?_|refine sC (fun _=>?_) (fun _=>?_)|fail)
     have:m=k:=by omega
     subst this
     have hat:Qn n l m=0:=by unfold Qn;rw [ha];simp [hpb]
     exact ⟨m + 1,⟨by omega,fun j hj=>by
      by_cases e:j=m
      ·subst e;exact hat
      ·exact hno j (by omega)⟩,tD,tS,tH⟩
   ·have hat:Qn n l k=XE n (l.getD k default):=by unfold Qn;rw [ha];simp
    have hfin:=zbM h6 hlt hno (by rw [hat];simpa using ha)
    repeat' (first|(refine shC ?_;first|refine qC ca ?_)|(refine shX ?_;first|refine qX he ?_)|refine sK ?_|refine sC (fun _=>?_) (fun _=>?_)|fail)
    exact retq rfl (by simp [zk,hfin,hat])
  ·repeat' (first|refine sK ?_|refine sC (fun _=>?_) (fun _=>?_)|fail)
   have:k=l.length:=by omega
   subst this
   exact retq rfl (by simp [zk,zgM h6 hno])
set_option maxHeartbeats 20000000
theorem zo0 (t:Ty) (h:Zy t 1=true):∃ bs:List Int,ACall Tryz.prog 271 [zjl [6],yJ t] (u8s bs):=by
 obtain ⟨k,i,d,r⟩:=t
 have hr:r=false:=by
  cases r with
  | false=>rfl
  | true=>simp [Zy] at h
 subst hr
 have hp:Zw ⟨k,i,d,false⟩=true∧k≠1:=by
  simp only [Zy] at h
  cases hp:Zw ⟨k,i,d,false⟩ with
  | false=>rw [hp] at h;simp at h
  | true=>rw [hp] at h;simp at h;exact ⟨rfl,h⟩
 obtain ⟨hp,hk1⟩:=hp
 simp only [Zw] at hp
 split at hp
 ·simp at hp
 ·rename_i hb
  simp at hb
  have hd:d=0∨d=1∨d=2∨d=3:=by omega
  by_cases h2:k=2
  ·exact ⟨_,ze2 k 8 i d (.inl ⟨h2,rfl⟩) hd⟩
  ·by_cases h3:k=3
   ·exact ⟨_,ze2 k 10 i d (.inr (.inl ⟨h3,rfl⟩)) hd⟩
   ·by_cases h4:k=4
    ·exact ⟨_,ze2 k 28 i d (.inr (.inr ⟨h4,rfl⟩)) hd⟩
    ·by_cases h5:k=5
     ·exact ziQ k 18 i d (.inl ⟨h5,rfl⟩) (by omega) (by simp [h5] at hp;omega) hd
     ·by_cases h6:k=6
      ·exact ziQ k 17 i d (.inr ⟨h6,rfl⟩) (by omega) (by simp [h6] at hp;omega) hd
      ·by_cases h7:k=7
       ·subst h7
        exact zpC i d (by omega) (by simp at hp;omega) hd
       ·simp [hk1,h2,h3,h4,h5,h6,h7] at hp
theorem zeJ (t:Ty) (h:Zy t 1=false):ACall Tryz.prog 245 [yJ t] (.tup [.base (.slice none 0 0),pi 17]):=by
 refine zh zf Tryz.func245 rfl (by kernel_rfl) Tryz.ntmps245 (by simp) _ rfl (fun hw gB hgB=>?_)
 have c1:=zfC t
 rw [h] at c1
 repeat' (first|(refine shC ?_;first|refine qC c1 ?_)|refine sA ?_|refine sC (fun _=>?_) (fun _=>?_)|fail)
 exact retq rfl rfl
theorem zic (t:Ty) (h:Zy t 1=true):∃ bs:List Int,ACall Tryz.prog 245 [yJ t] (.tup [u8s bs,pi 0]):=by
 obtain ⟨bs,cp⟩:=zo0 t h
 refine ⟨bs,?_⟩
 refine zh zf Tryz.func245 rfl (by kernel_rfl) Tryz.ntmps245 (by simp) _ rfl (fun hw gB hgB=>?_)
 have c1:=zfC t
 rw [h] at c1
 repeat' (first|(refine shC ?_;first|refine qC c1 ?_|refine qC cp ?_)|refine sA ?_|refine sC (fun _=>?_) (fun _=>?_)|fail)
 exact retq rfl rfl
theorem zcG (t:Ty) (n:Int):ACall Tryz.prog 224 [yJ t,pi n] (pb (QG t 1 n)):=by
 refine zh zf Tryz.func224 rfl (by kernel_rfl) Tryz.ntmps224 (by simp) _ rfl (fun hw gB hgB=>?_)
 cases h:Zy t 1
 ·repeat' (first|(refine shC ?_;first|refine qC (zeJ t h) ?_|refine qC (zbb t n) ?_)|refine sA ?_|refine sC (fun _=>?_) (fun _=>?_)|fail)
  all_goals (refine retq rfl ?_;simp_all [zk,QG];done)
 ·obtain ⟨bs,cp⟩:=zic t h
  repeat' (first|(refine shC ?_;first|refine qC cp ?_|refine qC (zbb t n) ?_)|refine sA ?_|refine sC (fun _=>?_) (fun _=>?_)|fail)
  all_goals (refine retq rfl ?_;simp_all [zk,QG];done)
theorem zjd (c:Cl) (g:Img):ACall Tryz.prog 255 [ZB c,pi (g.types.length:Nat)] (pb (Zr g c)):=by
 refine zh zf Tryz.func255 rfl (by kernel_rfl) Tryz.ntmps255 (by simp) _ rfl (fun hw gB hgB=>?_)
 by_cases hk:c.kind=1
 ·have hb:(c.kind != 1)=false:=by simp [hk]
  repeat' (first|(refine shC ?_;first|refine qC (zcG _ _) ?_)|refine sK ?_|refine sC (fun _=>?_) (fun _=>?_)|fail)
  exact retq rfl (by simp [zk,Zr,hk])
 ·have hb:(c.kind != 1)=true:=by simp [hk]
  repeat' (first|(refine shC ?_;first|refine qC (zcG _ _) ?_)|refine sK ?_|refine sC (fun _=>?_) (fun _=>?_)|fail)
  have h1:(c.kind==1)=false:=by simp [hk]
  exact retq rfl (by simp only [zk,Zr,h1,hb,zaA];simp)
set_option maxHeartbeats 20000000
def zkg (l:List Ty) (p:Ty→Bool):Int:=if l.any p then ((l.findIdx p:Nat):Int) else -1
theorem zeX (l:List Ty) (p:Ty→Bool) (f:FuncId) (first cap:List PV) (hp:∀ x∈l,ACall Tryz.prog f (first++[yJ x]++cap) (pb (p x))):ACall Tryz.prog 162 [.slc 4 (l.map yJ) false,.fn (.func f) first cap] (pi (zkg l p)):=by
 refine zh zf Tryz.func162 rfl (by kernel_rfl) Tryz.ntmps162 (by simp) _ rfl (fun hw gB hgB=>?_)
 have hl:l.length≤9223372036854775807:=by have:=hw.1;simp [PV.lenOk,lensOk,maxLen] at this;exact this.1
 repeat' (first|refine sA ?_|refine sC (fun _=>?_) (fun _=>?_)|fail)
 refine zJ (fun k:Nat=>[(0,.pv (.slc 4 (l.map yJ) false)),(1,.pv (.fn (.func f) first cap)),(7,.pv (pi l.length)),(8,.pv (pi k))]) (fun _=>[]) (fun k=>k≤l.length∧∀ j (h:j < k) (h2:j < l.length),p l[j]=false) (fun k=>l.length - k) 0 ⟨by omega,fun j h=>by omega⟩ (tS) tH ?_
 rintro k ⟨hk,hno⟩
 by_cases hlt:k < l.length
 ·have he:=yu (f:=yJ) hlt
  have c1:=hp _ (List.getElem_mem hlt)
  cases hpx:p l[k]
  ·rw [hpx] at c1
   repeat' (first|(refine shC ?_;first|refine qV (c1) ?_)|(refine shX ?_;first|refine qX he ?_)|refine sK ?_|refine sC (fun _=>?_) (fun _=>?_)|fail)
   exact ⟨k + 1,⟨hlt,fun j hj h2=>by
    by_cases e:j=k
    ·subst e;exact hpx
    ·exact hno j (by omega) h2⟩,tD,tS,tH⟩
  ·rw [hpx] at c1
   have hi:l.findIdx p=k:=by
    rw [List.findIdx_eq hlt]
    exact ⟨hpx,fun j hj=>hno j hj (by omega)⟩
   have ha:l.any p=true:=List.any_eq_true.2 ⟨_,List.getElem_mem hlt,hpx⟩
   repeat' (first|(refine shC ?_;first|refine qV (c1) ?_)|(refine shX ?_;first|refine qX he ?_)|refine sK ?_|refine sC (fun _=>?_) (fun _=>?_)|fail)
   exact retq rfl (by simp [zk,zkg,ha,hi])
 ·have ha:l.any p=false:=by
   rw [List.any_eq_false]
   intro x hx
   obtain ⟨j,hj,rfl⟩:=List.getElem_of_mem hx
   simp [hno j (by omega) hj]
  repeat' (first|refine sK ?_|refine sC (fun _=>?_) (fun _=>?_)|fail)
  exact retq rfl (by simp [zk,zkg,ha])
theorem QM (l:List Ty) (p:Ty→Bool) (f:FuncId) (first cap:List PV) (hp:∀ x∈l,ACall Tryz.prog f (first++[yJ x]++cap) (pb (p x))):ACall Tryz.prog 116 [.slc 4 (l.map yJ) false,.fn (.func f) first cap] (pb (l.any p)):=by
 refine zh zf Tryz.func116 rfl (by kernel_rfl) Tryz.ntmps116 (by simp) _ rfl (fun hw gB hgB=>?_)
 have c1:=zeX l p f first cap hp
 repeat' (first|(refine shC ?_;first|refine qC c1 ?_)|refine sA ?_|refine sC (fun _=>?_) (fun _=>?_)|fail)
 refine retq rfl ?_
 have:decide (0≤zkg l p)=l.any p:=by
  unfold zkg
  cases h:l.any p <;> simp
 simp [zk,this]
def zhh (l:List Ins) (p:Ins→Bool):Int:=if l.any p then ((l.findIdx p:Nat):Int) else -1
theorem zdQ (l:List Ins) (p:Ins→Bool) (f:FuncId) (first cap:List PV) (hp:∀ x∈l,ACall Tryz.prog f (first++[ZP x]++cap) (pb (p x))):ACall Tryz.prog 272 [.slc 6 (l.map ZP) false,.fn (.func f) first cap] (pi (zhh l p)):=by
 refine zh zf Tryz.func272 rfl (by kernel_rfl) Tryz.ntmps272 (by simp) _ rfl (fun hw gB hgB=>?_)
 have hl:l.length≤9223372036854775807:=by have:=hw.1;simp [PV.lenOk,lensOk,maxLen] at this;exact this.1
 repeat' (first|refine sA ?_|refine sC (fun _=>?_) (fun _=>?_)|fail)
 refine zJ (fun k:Nat=>[(0,.pv (.slc 6 (l.map ZP) false)),(1,.pv (.fn (.func f) first cap)),(7,.pv (pi l.length)),(8,.pv (pi k))]) (fun _=>[]) (fun k=>k≤l.length∧∀ j (h:j < k) (h2:j < l.length),p l[j]=false) (fun k=>l.length - k) 0 ⟨by omega,fun j h=>by omega⟩ (tS) tH ?_
 rintro k ⟨hk,hno⟩
 by_cases hlt:k < l.length
 ·have he:=yu (f:=ZP) hlt
  have c1:=hp _ (List.getElem_mem hlt)
  cases hpx:p l[k]
  ·rw [hpx] at c1
   repeat' (first|(refine shC ?_;first|refine qV (c1) ?_)|(refine shX ?_;first|refine qX he ?_)|refine sK ?_|refine sC (fun _=>?_) (fun _=>?_)|fail)
   exact ⟨k + 1,⟨hlt,fun j hj h2=>by
    by_cases e:j=k
    ·subst e;exact hpx
    ·exact hno j (by omega) h2⟩,tD,tS,tH⟩
  ·rw [hpx] at c1
   have hi:l.findIdx p=k:=by
    rw [List.findIdx_eq hlt]
    exact ⟨hpx,fun j hj=>hno j hj (by omega)⟩
   have ha:l.any p=true:=List.any_eq_true.2 ⟨_,List.getElem_mem hlt,hpx⟩
   repeat' (first|(refine shC ?_;first|refine qV (c1) ?_)|(refine shX ?_;first|refine qX he ?_)|refine sK ?_|refine sC (fun _=>?_) (fun _=>?_)|fail)
   exact retq rfl (by simp [zk,zhh,ha,hi])
 ·have ha:l.any p=false:=by
   rw [List.any_eq_false]
   intro x hx
   obtain ⟨j,hj,rfl⟩:=List.getElem_of_mem hx
   simp [hno j (by omega) hj]
  repeat' (first|refine sK ?_|refine sC (fun _=>?_) (fun _=>?_)|fail)
  exact retq rfl (by simp [zk,zhh,ha])
theorem zct (l:List Ins) (p:Ins→Bool) (f:FuncId) (first cap:List PV) (hp:∀ x∈l,ACall Tryz.prog f (first++[ZP x]++cap) (pb (p x))):ACall Tryz.prog 250 [.slc 6 (l.map ZP) false,.fn (.func f) first cap] (pb (l.any p)):=by
 refine zh zf Tryz.func250 rfl (by kernel_rfl) Tryz.ntmps250 (by simp) _ rfl (fun hw gB hgB=>?_)
 have c1:=zdQ l p f first cap hp
 repeat' (first|(refine shC ?_;first|refine qC c1 ?_)|refine sA ?_|refine sC (fun _=>?_) (fun _=>?_)|fail)
 refine retq rfl ?_
 have:decide (0≤zhh l p)=l.any p:=by
  unfold zhh
  cases h:l.any p <;> simp
 simp [zk,this]
def zlb (l:List Cl) (p:Cl→Bool):Int:=if l.any p then ((l.findIdx p:Nat):Int) else -1
theorem zeK (l:List Cl) (p:Cl→Bool) (f:FuncId) (first cap:List PV) (hp:∀ x∈l,ACall Tryz.prog f (first++[ZB x]++cap) (pb (p x))):ACall Tryz.prog 274 [.slc 10 (l.map ZB) false,.fn (.func f) first cap] (pi (zlb l p)):=by
 refine zh zf Tryz.func274 rfl (by kernel_rfl) Tryz.ntmps274 (by simp) _ rfl (fun hw gB hgB=>?_)
 have hl:l.length≤9223372036854775807:=by have:=hw.1;simp [PV.lenOk,lensOk,maxLen] at this;exact this.1
 repeat' (first|refine sA ?_|refine sC (fun _=>?_) (fun _=>?_)|fail)
 refine zJ (fun k:Nat=>[(0,.pv (.slc 10 (l.map ZB) false)),(1,.pv (.fn (.func f) first cap)),(7,.pv (pi l.length)),(8,.pv (pi k))]) (fun _=>[]) (fun k=>k≤l.length∧∀ j (h:j < k) (h2:j < l.length),p l[j]=false) (fun k=>l.length - k) 0 ⟨by omega,fun j h=>by omega⟩ (tS) tH ?_
 rintro k ⟨hk,hno⟩
 by_cases hlt:k < l.length
 ·have he:=yu (f:=ZB) hlt
  have c1:=hp _ (List.getElem_mem hlt)
  cases hpx:p l[k]
  ·rw [hpx] at c1
   repeat' (first|(refine shC ?_;first|refine qV (c1) ?_)|(refine shX ?_;first|refine qX he ?_)|refine sK ?_|refine sC (fun _=>?_) (fun _=>?_)|fail)
   exact ⟨k + 1,⟨hlt,fun j hj h2=>by
    by_cases e:j=k
    ·subst e;exact hpx
    ·exact hno j (by omega) h2⟩,tD,tS,tH⟩
  ·rw [hpx] at c1
   have hi:l.findIdx p=k:=by
    rw [List.findIdx_eq hlt]
    exact ⟨hpx,fun j hj=>hno j hj (by omega)⟩
   have ha:l.any p=true:=List.any_eq_true.2 ⟨_,List.getElem_mem hlt,hpx⟩
   repeat' (first|(refine shC ?_;first|refine qV (c1) ?_)|(refine shX ?_;first|refine qX he ?_)|refine sK ?_|refine sC (fun _=>?_) (fun _=>?_)|fail)
   exact retq rfl (by simp [zk,zlb,ha,hi])
 ·have ha:l.any p=false:=by
   rw [List.any_eq_false]
   intro x hx
   obtain ⟨j,hj,rfl⟩:=List.getElem_of_mem hx
   simp [hno j (by omega) hj]
  repeat' (first|refine sK ?_|refine sC (fun _=>?_) (fun _=>?_)|fail)
  exact retq rfl (by simp [zk,zlb,ha])
theorem zdc (l:List Cl) (p:Cl→Bool) (f:FuncId) (first cap:List PV) (hp:∀ x∈l,ACall Tryz.prog f (first++[ZB x]++cap) (pb (p x))):ACall Tryz.prog 253 [.slc 10 (l.map ZB) false,.fn (.func f) first cap] (pb (l.any p)):=by
 refine zh zf Tryz.func253 rfl (by kernel_rfl) Tryz.ntmps253 (by simp) _ rfl (fun hw gB hgB=>?_)
 have c1:=zeK l p f first cap hp
 repeat' (first|(refine shC ?_;first|refine qC c1 ?_)|refine sA ?_|refine sC (fun _=>?_) (fun _=>?_)|fail)
 refine retq rfl ?_
 have:decide (0≤zlb l p)=l.any p:=by
  unfold zlb
  cases h:l.any p <;> simp
 simp [zk,this]
theorem zd6 (t:Ty) (n:Int):ACall Tryz.prog 247 [yJ t,.ptr (pi n) 0] (pb (!QG t 2 n)):=by
 refine zh zf Tryz.func247 rfl (by kernel_rfl) Tryz.ntmps247 (by simp) _ rfl (fun hw gB hgB=>?_)
 repeat' (first|(refine shC ?_;first|refine qC (zkD t n) ?_)|refine sA ?_|refine sC (fun _=>?_) (fun _=>?_)|fail)
 exact retq rfl rfl
theorem zjz (x:Ins) (g:Img) (m:Me) (hx:zeA x):ACall Tryz.prog 251 [ZP x,.ptr (zH g) 0,.ptr (yL m) 0] (pb (!codeOk g m x)):=by
 refine zh zf Tryz.func251 rfl (by kernel_rfl) Tryz.ntmps251 (by simp) _ rfl (fun hw gB hgB=>?_)
 have c1:=znP x g m hx
 rw [show m.code.length=(m.code.map ZP).length by simp] at c1
 repeat' (first|(refine shC ?_;first|refine qC c1 ?_)|refine sA ?_|refine sC (fun _=>?_) (fun _=>?_)|fail)
 exact retq rfl rfl
theorem zjN (c:Cl) (g:Img):ACall Tryz.prog 254 [ZB c,.ptr (pi (g.types.length:Nat)) 0] (pb (!Zr g c)):=by
 refine zh zf Tryz.func254 rfl (by kernel_rfl) Tryz.ntmps254 (by simp) _ rfl (fun hw gB hgB=>?_)
 repeat' (first|(refine shC ?_;first|refine qC (zjd c g) ?_)|refine sA ?_|refine sC (fun _=>?_) (fun _=>?_)|fail)
 exact retq rfl rfl
set_option maxHeartbeats 4000000 in
theorem zjo (m:Me) (g:Img) (hx:∀ x∈m.code,zeA x):ACall Tryz.prog 225 [yL m,zH g] (pb (qL g m)):=by
 refine zh zf Tryz.func225 rfl (by kernel_rfl) Tryz.ntmps225 (by simp) _ rfl (fun hw gB hgB=>?_)
 have cP:=QM m.params (fun t=>!QG t 2 ((g.types.map ZA).length:Nat)) 247 [] [.ptr (pi ((g.types.map ZA).length:Nat)) 0] (fun t _=>zd6 t _)
 have cL:=QM m.locals (fun t=>!QG t 2 ((g.types.map ZA).length:Nat)) 247 [] [.ptr (pi ((g.types.map ZA).length:Nat)) 0] (fun t _=>zd6 t _)
 have cC:=zct m.code (fun x=>!codeOk g m x) 251 [] [.ptr (zH g) 0,.ptr (yL m) 0] (fun x h=>zjz x g m (hx x h))
 have cK:=zdc m.clauses (fun c=>!Zr g c) 254 [] [.ptr (pi ((g.types.map ZA).length:Nat)) 0] (fun c _=>by have:=zjN c g;rwa [show g.types.length=(g.types.map ZA).length by simp] at this)
 have cR:=zi7 ((m.code.map ZP).length:Nat) m.clauses
 rw [←List.not_all_eq_any_not] at cP cL cC cK
 have hfm:qL g m=(Vm m.name&&decide (0≤m.flags)&&decide (m.flags≤31)&&decide (0≤m.max)&&decide (m.max≤12)&&decide ((((m.params.map yJ).length:Nat):Int)≤6)&&decide ((((m.locals.map yJ).length:Nat):Int)≤12)&&QG m.ret 3 ((g.types.map ZA).length:Nat)
   && (m.params.all fun t=>QG t 2 ((g.types.map ZA).length:Nat))&&(m.locals.all fun t=>QG t 2 ((g.types.map ZA).length:Nat))&&(decide ((((m.code.map ZP).length:Nat):Int)≤160)&&m.code.all (codeOk g m)&&m.clauses.all (Zr g)&&((QJ ((m.code.map ZP).length:Nat) m.clauses).2==0))):=by
  simp only [qL,ZL,zaI,List.length_map]
 generalize (m.params.all fun t=>QG t 2 ((g.types.map ZA).length:Nat))=bP at cP hfm
 generalize (m.locals.all fun t=>QG t 2 ((g.types.map ZA).length:Nat))=bL at cL hfm
 generalize m.code.all (codeOk g m)=bC at cC hfm
 generalize m.clauses.all (Zr g)=bK at cK hfm
 repeat' (first|refine XW (t:=5) rfl rfl rfl ?_|(refine shC ?_;first|refine qC (zdN _) ?_|refine qC (zjG m.ret _) ?_|refine qC cP ?_|refine qC cL ?_|refine qC cC ?_|refine qC cK ?_|refine qC cR ?_)|refine sA ?_|refine sC (fun _=>?_) (fun _=>?_)|fail)
 all_goals (refine retq rfl ?_;rw [hfm];first|(simp_all [zk];done)|(simp_all [zk];omega))
set_option maxHeartbeats 20000000
def zej (g:Img) (k:Nat):Int:=if k=0 then 0 else (g.fields.getD (k - 1) default).owner
def zez (g:Img):Bool:=(List.range g.fields.length).all (zer g)&&decide (((g.fields.map ZK).length:Nat)≤(64:Int))
theorem zm2 {g:Img} {k:Nat} (h:k < g.fields.length):zej g (k + 1)=g.fields[k].owner:=by
 rw [zej,if_neg (by omega),Nat.add_sub_cancel,zL h]
theorem znL {g:Img} {k:Nat} (h:k < g.fields.length) (hl:0≤zej g k):zer g k=(Vm g.fields[k].name&&!decide (g.fields[k].owner < zej g k)&&!decide ((((g.types.map ZA).length:Nat):Int)≤g.fields[k].owner)&&QG g.fields[k].ty 1 ((g.types.map ZA).length:Nat)):=by
 rw [zer]
 simp only [zL h,List.length_map]
 generalize Vm g.fields[k].name=bf
 generalize QG g.fields[k].ty 1 g.types.length=bm
 unfold zej at hl ⊢
 by_cases hk:k=0
 ·subst hk
  rw [Bool.eq_iff_iff];simp
 ·have e:(k==0)=false:=by simp [hk]
  rw [if_neg hk] at hl ⊢
  rw [e,Bool.eq_iff_iff]
  simp only [List.getD_eq_getElem?_getD] at hl ⊢
  simp
  intro _
  constructor
  ·rintro ⟨⟨⟨a,b⟩,c⟩,d⟩;exact ⟨⟨a,d⟩,c⟩
  ·rintro ⟨⟨a,d⟩,c⟩;exact ⟨⟨⟨a,by omega⟩,c⟩,d⟩
theorem zj1 (g:Img):ACall Tryz.prog 203 [zH g] (pb (zez g)):=by
 refine zh zf Tryz.func203 rfl (by kernel_rfl) Tryz.ntmps203 (by simp) _ rfl (fun hw gB hgB=>?_)
 have hlen:=(zjj hw.1).2.1
 repeat' (first|refine sA ?_|refine sC (fun _=>?_) (fun _=>?_)|fail)
 refine zJ (fun k:Nat=>[(1,.pv (.ptr (zH g) 0)),(3,.pv (pi (zej g k))),(7,.pv (.slc 7 (g.fields.map ZK) false)),(8,.pv (pi g.fields.length)),(9,.pv (pi k))]) (fun _=>[]) (fun k=>k≤g.fields.length∧0≤zej g k∧zez g=(((List.range g.fields.length).drop k).all (zer g)&&decide (((g.fields.map ZK).length:Nat)≤(64:Int)))) (fun k=>g.fields.length - k) 0 ⟨by omega,by simp [zej],rfl⟩ (tS) tH ?_
 rintro k ⟨hk,hl0,hr⟩
 by_cases hlt:k < g.fields.length
 ·have he:=yu (f:=ZK) hlt
  have hls:=zm2 hlt
  rw [qF hlt,znL hlt hl0] at hr
  generalize g.fields[k]=f at he hr hls
  generalize hL:zej g k=L at hr hl0
  repeat' (first|(refine shC ?_;first|refine qC (zdN _) ?_|refine qC (zcG _ _) ?_)|(refine shX ?_;first|refine qX he ?_)|refine sK ?_|refine sC (fun _=>?_) (fun _=>?_)|fail)
  all_goals first
   | (refine retq rfl ?_;rw [hr];simp_all [zk];done)
   | (refine ⟨k + 1,⟨hlt,by rw [hls];simp_all;omega,by rw [hr,Bool.eq_iff_iff];simp_all⟩,tD,by repeat (first|exact yS|refine yG rfl ?_|(refine Zc rfl ?_ ?_;· (first|exact hls.symm|(rw [wrap_in (by omega) (by omega)] <;> omega)))),tH⟩)
 ·rw [drop_end (by simp;omega)] at hr
  repeat' (first|refine sK ?_|refine sC (fun _=>?_) (fun _=>?_)|fail)
  exact retq rfl (by rw [hr];simp [zk])
def zek (g:Img) (k:Nat):Int:=if k=0 then 0 else (g.methods.getD (k - 1) default).owner
def zch (g:Img):Bool:=(List.range g.methods.length).all (zb8 g)&&decide (((g.methods.map yL).length:Nat)≤(64:Int))
theorem zm3 {g:Img} {k:Nat} (h:k < g.methods.length):zek g (k + 1)=g.methods[k].owner:=by
 rw [zek,if_neg (by omega),Nat.add_sub_cancel,zL h]
theorem znK {g:Img} {k:Nat} (h:k < g.methods.length) (hl:0≤zek g k):zb8 g k=(!decide (g.methods[k].owner < zek g k)&&!decide ((((g.types.map ZA).length:Nat):Int)≤g.methods[k].owner)&&qL g g.methods[k]):=by
 rw [zb8]
 simp only [zL h,List.length_map]
 generalize qL g g.methods[k]=bm
 unfold zek at hl ⊢
 by_cases hk:k=0
 ·subst hk
  rw [Bool.eq_iff_iff];simp
 ·have e:(k==0)=false:=by simp [hk]
  rw [if_neg hk] at hl ⊢
  rw [e,Bool.eq_iff_iff]
  simp only [List.getD_eq_getElem?_getD] at hl ⊢
  simp
  intro _
  constructor
  ·rintro ⟨⟨a,b⟩,d⟩;exact ⟨d,b⟩
  ·rintro ⟨d,c⟩;exact ⟨⟨by omega,c⟩,d⟩
theorem zh2 (g:Img) (hx:∀ m∈g.methods,∀ x∈m.code,zeA x):ACall Tryz.prog 204 [zH g] (pb (zch g)):=by
 refine zh zf Tryz.func204 rfl (by kernel_rfl) Tryz.ntmps204 (by simp) _ rfl (fun hw gB hgB=>?_)
 have hlen:=(zjj hw.1).2.2
 repeat' (first|refine sA ?_|refine sC (fun _=>?_) (fun _=>?_)|fail)
 refine zJ (fun k:Nat=>[(1,.pv (.ptr (zH g) 0)),(3,.pv (pi (zek g k))),(7,.pv (.slc 12 (g.methods.map yL) false)),(8,.pv (pi g.methods.length)),(9,.pv (pi k))]) (fun _=>[]) (fun k=>k≤g.methods.length∧0≤zek g k∧zch g=(((List.range g.methods.length).drop k).all (zb8 g)&&decide (((g.methods.map yL).length:Nat)≤(64:Int)))) (fun k=>g.methods.length - k) 0 ⟨by omega,by simp [zek],rfl⟩ (tS) tH ?_
 rintro k ⟨hk,hl0,hr⟩
 by_cases hlt:k < g.methods.length
 ·have he:=yu (f:=yL) hlt
  have hls:=zm3 hlt
  have cm:=zjo g.methods[k] g (hx _ (List.getElem_mem hlt))
  rw [qF hlt,znK hlt hl0] at hr
  generalize g.methods[k]=f at he hr hls cm
  generalize hL:zek g k=L at hr hl0
  repeat' (first|(refine shC ?_;first|refine qC cm ?_)|(refine shX ?_;first|refine qX he ?_)|refine sK ?_|refine sC (fun _=>?_) (fun _=>?_)|fail)
  all_goals first
   | (refine retq rfl ?_;rw [hr];simp_all [zk];done)
   | (refine ⟨k + 1,⟨hlt,by rw [hls];simp_all;omega,by rw [hr,Bool.eq_iff_iff];simp_all⟩,tD,by repeat (first|exact yS|refine yG rfl ?_|(refine Zc rfl ?_ ?_;· (first|exact hls.symm|(rw [wrap_in (by omega) (by omega)] <;> omega)))),tH⟩)
 ·rw [drop_end (by simp;omega)] at hr
  repeat' (first|refine sK ?_|refine sC (fun _=>?_) (fun _=>?_)|fail)
  exact retq rfl (by rw [hr];simp [zk])
theorem zjy (g:Img) (hx:∀ m∈g.methods,∀ x∈m.code,zeA x):ACall Tryz.prog 176 [zH g] (pb (yg g)):=by
 refine zh zf Tryz.func176 rfl (by kernel_rfl) Tryz.ntmps176 (by simp) _ rfl (fun hw gB hgB=>?_)
 have c1:=zmF g
 have c2:=zj1 g
 have c3:=zh2 g hx
 have hfm:yg g=(Vd g&&zez g&&zch g&&decide (-1≤g.entry)&&decide (g.entry < ((g.methods.map yL).length:Nat))):=by
  rw [yg,Vd,zez,zch,Bool.eq_iff_iff]
  simp only [List.length_map,Bool.and_eq_true]
  constructor <;> (intro h;simp only [h,and_self])
 generalize Vd g=b1 at c1 hfm
 generalize zez g=b2 at c2 hfm
 generalize zch g=b3 at c3 hfm
 repeat' (first|(refine shC ?_;first|refine qC c1 ?_|refine qC c2 ?_|refine qC c3 ?_)|refine sA ?_|refine sC (fun _=>?_) (fun _=>?_)|fail)
 all_goals (refine retq rfl ?_;rw [hfm];first|(simp_all [zk];done)|(simp_all [zk];omega))
set_option maxHeartbeats 20000000
theorem Xd (td:TD) (b:Int):ACall Tryz.prog 205 [pi b,.ptr (ZA td) 0] (pb (qK td.flags b)):=by
 refine zh zf Tryz.func205 rfl (by kernel_rfl) Tryz.ntmps205 (by simp) _ rfl (fun hw gB hgB=>?_)
 repeat' (first|refine sA ?_|refine sC (fun _=>?_) (fun _=>?_)|fail)
 exact retq rfl rfl
def Yz (td:TD):Bool :=
 if zfq td.flags==2 then qK td.flags 4&&!qK td.flags 1&&!qK td.flags 8&&!qK td.flags 16&&td.ext == -1
 else if zfq td.flags==1 then qK td.flags 8&&!qK td.flags 4&&!qK td.flags 16&&td.ext == -1
 else if zfq td.flags==3 then qK td.flags 8&&!qK td.flags 4&&td.ext == -1&&((td.faces.length:Int)==0)
 else true
theorem zh8 (td:TD):ACall Tryz.prog 177 [ZA td] (pb (Yz td)):=by
 refine zh zf Tryz.func177 rfl (by kernel_rfl) Tryz.ntmps177 (by simp) _ rfl (fun hw gB hgB=>?_)
 repeat' (first|(refine shC ?_;first|refine qC (zeU td) ?_|refine qV (Xd td 1) ?_|refine qV (Xd td 4) ?_|refine qV (Xd td 8) ?_|refine qV (Xd td 16) ?_)|refine sA ?_|refine sC (fun _=>?_) (fun _=>?_)|fail)
 all_goals first|(refine retq rfl ?_;first|(simp only [zk,Yz,BL,List.length_map] at *;simp only [*,BL,List.length_map];done)|(simp_all [zk,Yz];done)|(simp_all [zk,Yz];omega)|(simp_all [zk,Yz];intros;omega))|(refine ZN rfl ?_;first|(simp only [zk,Yz,BL,List.length_map] at *;simp only [*,BL,List.length_map];done)|(simp_all [zk,Yz];done)|(simp_all [zk,Yz];omega)|(simp_all [zk,Yz];intros;omega))|skip
def zii (g:Img) (t:Int) (td:TD):Bool:=td.ext == -1||(Yt g td.ext==0&&!qK (XB g td.ext) 8&&Vg g t == -1)
theorem zhY (g:Img) (t:Int) (td:TD) (htd:typeAt g t=some td) (hg:g.types.length≤1000):ACall Tryz.prog 178 [zH g,pi t] (pb (zii g t td)):=by
 refine zh zf Tryz.func178 rfl (by kernel_rfl) Tryz.ntmps178 (by simp) _ rfl (fun hw gB hgB=>?_)
 obtain ⟨h0,he⟩:=qA htd
 have hui:=XY g t
 have hul:=Zu _ _ hui.1 hui.2
 obtain ⟨ur,hur⟩:=zec htd
 have hpos:0 < (up g t).length:=by rw [hur];simp
 have hlast:(up g t)[(up g t).length - 1]?=some ((up g t).getLastD 0):=by
  rw [hur];simp [List.getLastD_eq_getLast?,List.getLast?_eq_getElem?]
 have hlt:(up g t).length - 1 < (up g t).length:=by omega
 obtain ⟨tl,htl⟩:=ZX (g:=g) (t:=(up g t).getLastD 0) (hui.2 _ (List.mem_of_getElem? hlast))
 obtain ⟨hl0,hel⟩:=qA htl
 have hw1:IntKind.i64.wrap (((up g t).map pi).length - 1:Int)=(((up g t).length - 1:Nat):Int):=by rw [List.length_map,wrap_in (by omega) (by omega)];omega
 have heU:((up g t).map pi)[(IntKind.i64.wrap (((up g t).map pi).length - 1:Int)).toNat]?=some (pi ((up g t).getLastD 0)):=by rw [hw1];simp [hlast]
 have htop:Vg g t=tl.ext:=by rw [Vg,htl]
 by_cases h1:td.ext = -1
 ·have h1b:(td.ext == -1)=true:=by simp [h1]
  repeat' (first|(refine shX ?_;first|refine zB rfl (zl zf rfl rfl rfl rfl rfl rfl h0 he) rfl rfl ?_|refine AD.step _ _ _ _ _ rfl (zl zf rfl rfl rfl rfl rfl rfl h0 he) rfl rfl ?_)|refine sK ?_|refine sC (fun _=>?_) (fun _=>?_)|fail)
  exact retq rfl (by simp [zk,zii,h1])
 ·have h1b:(td.ext == -1)=false:=by simp [h1]
  have c1:=Qz g td.ext
  by_cases hk:Yt g td.ext=0
  ·rw [hk] at c1
   obtain ⟨te,hte⟩:∃ te,typeAt g td.ext=some te:=by
    rw [Yt] at hk
    cases h:typeAt g td.ext with
    | none=>rw [h] at hk;simp at hk
    | some te=>exact ⟨te,rfl⟩
   obtain ⟨he0,hee⟩:=qA hte
   have hfa:XB g td.ext=te.flags:=by rw [XB,hte]
   have hres:zii g t td=(!qK te.flags 8&&tl.ext == -1):=by rw [zii,h1b,hk,hfa,htop];rfl
   repeat' (first|(refine shC ?_;first|refine qC c1 ?_|refine qC (Qa g t hg) ?_)|(refine shX ?_;first|refine zB rfl (zl zf rfl rfl rfl rfl rfl rfl h0 he) rfl rfl ?_|refine AD.step _ _ _ _ _ rfl (zl zf rfl rfl rfl rfl rfl rfl h0 he) rfl rfl ?_|refine zB rfl (zl zf rfl rfl rfl rfl rfl rfl he0 hee) rfl rfl ?_|refine AD.step _ _ _ _ _ rfl (zl zf rfl rfl rfl rfl rfl rfl he0 hee) rfl rfl ?_|refine zB rfl (zl zf rfl rfl rfl rfl rfl rfl (by rw [hw1];omega) heU) rfl rfl ?_|refine AD.step _ _ _ _ _ rfl (zl zf rfl rfl rfl rfl rfl rfl (by rw [hw1];omega) heU) rfl rfl ?_|refine zB rfl (zl zf rfl rfl rfl rfl rfl rfl hl0 hel) rfl rfl ?_|refine AD.step _ _ _ _ _ rfl (zl zf rfl rfl rfl rfl rfl rfl hl0 hel) rfl rfl ?_)|refine sA ?_|refine sC (fun _=>?_) (fun _=>?_)|fail)
   all_goals (refine retq rfl ?_;rw [hres];simp_all [zk,qK])
  ·have hkb:(Yt g td.ext==0)=false:=by simp [hk]
   repeat' (first|(refine shC ?_;first|refine qC c1 ?_|refine qC (Qa g t hg) ?_)|(refine shX ?_;first|refine zB rfl (zl zf rfl rfl rfl rfl rfl rfl h0 he) rfl rfl ?_|refine AD.step _ _ _ _ _ rfl (zl zf rfl rfl rfl rfl rfl rfl h0 he) rfl rfl ?_)|refine sK ?_|refine sC (fun _=>?_) (fun _=>?_)|fail)
   all_goals (refine retq rfl ?_;simp [zk,zii,h1b,hkb])
def ztX (n:UInt8) (e:Int):TD:=⟨⟨#[n]⟩,0,e,[]⟩
abbrev wTD (n:UInt8) (e:Int):PV:=.agg [.base (.string ⟨#[n]⟩),pi 0,pi e,.base (.slice none 0 0)]
theorem zo9 (n:UInt8) (e:Int):PTL (wTD n e).cells (ZA (ztX n e)).cells :=
 yY (.refl _) (yY (.refl _) (yY (.refl _) (yY (zht 1 false) zbP)))
end Go.Cg
namespace Go.Cg
inductive Rch (step:Int→List Int) (l:List Int):Int→Prop where
 | base (x:Int):x∈l→Rch step l x
 | step (x y:Int):Rch step l x→y∈step x→Rch step l y
theorem zqR {met:List Int} {x y:Int}:y∈Yi met x↔y∈met∨y=x:=by
 unfold Yi
 split
 ·rename_i h
  constructor
  ·exact .inl
  ·rintro (h1|rfl)
   ·exact h1
   ·exact h
 ·simp
theorem XF {y:Int}:∀ {l met:List Int},y∈l.foldl Yi met↔y∈met∨y∈l
 | [],met=>by simp
 | x::l,met=>by
  rw [List.foldl_cons,XF (l:=l),zqR]
  simp only [List.mem_cons]
  constructor
  ·rintro ((h|h)|h)
   ·exact .inl h
   ·exact .inr (.inl h)
   ·exact .inr (.inr h)
  ·rintro (h|h|h)
   ·exact .inl (.inl h)
   ·exact .inl (.inr h)
   ·exact .inr h
theorem zgu:∀ (l met:List Int),∃ r,l.foldl Yi met=met++r
 | [],met=>⟨[],by simp⟩
 | x::l,met=>by
  obtain ⟨r,hr⟩:=zgu l (Yi met x)
  rw [List.foldl_cons,hr]
  unfold Yi
  split
  ·exact ⟨r,rfl⟩
  ·exact ⟨x::r,by simp⟩
theorem zep {N:Nat} {step:Int→List Int} (hs:∀ x:Int,0≤x→x < N→∀ y∈step x,0≤y∧y < N):∀ (n i:Nat) (met:List Int),NInv N met→i≤met.length→N + 1≤n + i →
  (∀ j (h:j < i) (h2:j < met.length),∀ y∈step met[j],y∈met) →
  (∀ x∈met,x∈Xe step n i met)∧(∀ u∈Xe step n i met,∀ y∈step u,y∈Xe step n i met)∧(∀ x∈Xe step n i met,Rch step met x)∧NInv N (Xe step n i met)
 | 0,i,met,hm,hi,hn,hc=>by
  have:=hm.len;omega
 | n + 1,i,met,hm,hi,hn,hc=>by
  rw [Xe]
  by_cases hlt:i < met.length
  ·rw [List.getElem?_eq_getElem hlt]
   simp only
   obtain ⟨h0,h1⟩:=hm.2 _ (List.getElem_mem hlt)
   have hst:=hs _ h0 h1
   have hm2:=NInv.fold _ hm hst
   obtain ⟨r,hr⟩:=zgu (step met[i]) met
   have hl:met.length≤((step met[i]).foldl Yi met).length:=by rw [hr];simp
   obtain ⟨q1,q2,q3,q4⟩:=zep hs n (i + 1) ((step met[i]).foldl Yi met) hm2 (by omega) (by omega) (by
    intro j hj hj2 y hy
    rw [XF]
    have hjm:j < met.length:=by omega
    have e:((step met[i]).foldl Yi met)[j]=met[j]:=by simp only [hr];rw [List.getElem_append_left hjm]
    rw [e] at hy
    by_cases hji:j=i
    ·subst hji;exact .inr hy
    ·exact .inl (hc j (by omega) hjm y hy))
   refine ⟨fun x hx=>q1 x (XF.2 (.inl hx)),q2,fun x hx=>?_,q4⟩
   have:=q3 x hx
   clear q1 q2 q3 q4 hx
   induction this with
   | base x hx =>
    rcases XF.1 hx with h|h
    ·exact .base x h
    ·exact .step _ x (.base _ (List.getElem_mem hlt)) h
   | step x y _ hy ih=>exact .step x y ih hy
  ·rw [List.getElem?_eq_none (by omega)]
   simp only
   refine ⟨fun x hx=>hx,fun u hu y hy=>?_,fun x hx=>.base x hx,hm⟩
   obtain ⟨j,hj,rfl⟩:=List.getElem_of_mem hu
   exact hc j (by omega) hj y hy
theorem zcI {N:Nat} {step:Int→List Int} {l:List Int} (hs:∀ x:Int,0≤x→x < N→∀ y∈step x,0≤y∧y < N) (hl:∀ x∈l,0≤x∧x < N):(∀ x,x∈Xj N step l↔Rch step l x)∧NInv N (Xj N step l):=by
 have hm:NInv N (l.foldl Yi []):=NInv.fold l ⟨by simp,by simp⟩ hl
 obtain ⟨q1,q2,q3,q4⟩:=zep hs (N + 1) 0 (l.foldl Yi []) hm (by omega) (by omega) (fun j h=>by omega)
 refine ⟨fun x=>⟨fun hx=>?_,fun hx=>?_⟩,q4⟩
 ·have:=q3 x hx
  clear hx
  induction this with
  | base x hx=>exact .base x (by simpa using XF.1 hx)
  | step x y _ hy ih=>exact .step x y ih hy
 ·induction hx with
  | base x hx=>exact q1 x (XF.2 (.inr hx))
  | step x y _ hy ih=>exact q2 x ih y hy
def RF (g:Img) (t f:Int):Prop:=Rch (yQ g) ((up g t).flatMap (yQ g)) f
theorem zr5 {g:Img} (hF:Fm g) (t:Int):∀ x∈(up g t).flatMap (yQ g),0≤x∧x < g.types.length:=by
 intro x hx
 obtain ⟨u,_,h⟩:=List.mem_flatMap.1 hx
 exact (hF.at u).2 x h
theorem zhy {g:Img} (hF:Fm g) (t:Int):(∀ x,x∈Xj g.types.length (yQ g) ((up g t).flatMap (yQ g))↔Rch (yQ g) ((up g t).flatMap (yQ g)) x)∧NInv g.types.length (Xj g.types.length (yQ g) ((up g t).flatMap (yQ g))):=zcI (N:=g.types.length) (step:=yQ g) (l:=(up g t).flatMap (yQ g)) (fun x _ _=>(hF.at x).2) (zr5 hF t)
theorem zbu {g:Img} (hF:Fm g) {t f:Int}:f∈YC g t↔RF g t f:=by
 rw [YC,ze8];exact (zhy hF t).1 f
theorem zr4 {g:Img} {met:List Int} {f:Int} (h:there g f=true):za9 g met f=Yi met f:=by
 unfold za9 Yi
 by_cases hm:f∈met
 ·simp [hm]
 ·simp [hm,h]
theorem zkW {g:Img}:∀ (l met:List Int),(∀ f∈l,there g f=true)→l.foldl (za9 g) met=l.foldl Yi met
 | [],met,_=>rfl
 | f::l,met,h=>by
  rw [List.foldl_cons,List.foldl_cons,zr4 (h f (by simp))]
  exact zkW l _ fun x hx=>h x (by simp [hx])
theorem zhH {g:Img} (hF:Fm g) (met:List Int) (u:Int):Vx g met u=(yQ g u).foldl Yi met :=
 zkW _ _ fun f hf=>WW ((hF.at u).2 f hf)
theorem zkP {g:Img} (hF:Fm g):∀ (us met:List Int),us.foldl (Vx g) met=(us.flatMap (yQ g)).foldl Yi met
 | [],met=>rfl
 | u::us,met=>by rw [List.foldl_cons,zhH hF,List.flatMap_cons,List.foldl_append];exact zkP hF us _
theorem zlM {g:Img} (hF:Fm g):∀ (n i:Nat) (met:List Int),ziy g n i met=Xe (yQ g) n i met
 | 0,_,_=>rfl
 | n + 1,i,met=>by
  rw [ziy,Xe]
  cases met[i]? with
  | none=>rfl
  | some u=>simp only;rw [zhH hF];exact zlM hF n _ _
theorem zr1 {g:Img} (hF:Fm g) (t:Int):znl g t=Xj g.types.length (yQ g) ((up g t).flatMap (yQ g)):=by
 rw [znl,zlM hF,zrl,zkP hF];rfl
theorem zhM {n:Nat} {x:Int}:x∈nums n↔0≤x∧x < n:=by
 simp only [nums,List.mem_map,List.mem_range]
 constructor
 ·rintro ⟨k,hk,rfl⟩;omega
 ·intro h;exact ⟨x.toNat,by omega,by omega⟩
theorem zbB {g:Img} (hF:Fm g) {t f:Int}:f∈Zz g t↔RF g t f:=by
 rw [Zz,List.mem_filter,zr1 hF,zhM]
 simp only [decide_eq_true_eq]
 rw [(zhy hF t).1 f]
 exact ⟨fun h=>h.2,fun h=>⟨(zhy hF t).2.2 f (((zhy hF t).1 f).2 h),h⟩⟩
structure Wl (g:Img):Prop where
 fm:Fm g
 ext:∀ t td,typeAt g t=some td → -1≤td.ext∧td.ext < g.types.length
 flags:∀ t td,typeAt g t=some td→0≤td.flags∧td.flags≤31
 flag:∀ t td,typeAt g t=some td→qP td=true
 hang:∀ t td,typeAt g t=some td→QT g t td=true
theorem Vu {g:Img} (h:Yq g=true):Wl g:=by
 have hf:=Yc h
 have hb:=(zW hf).2.2.2
 have hck:∀ j,j < g.types.length→Zk g j=0:=by
  intro j hj
  refine Classical.byContradiction fun hne=>?_
  have hex:∃ k,k < g.types.length∧Zk g k≠0∧∀ i,i < k→Zk g i=0:=by
   induction j using Nat.strongRecOn with
   | _ j ih =>
    by_cases hmin:∀ i,i < j→Zk g i=0
    ·exact ⟨j,hj,hne,hmin⟩
    ·rcases Classical.not_forall.1 hmin with ⟨i,hi⟩
     have hij:i < j:=Classical.byContradiction fun h=>hi (fun h'=>(h h').elim)
     exact ih i hij (by omega) (fun e=>hi fun _=>e)
  obtain ⟨k,hk,hk1,hk2⟩:=hex
  have:=zhb hf hk hk2 hk1
  rw [Yq,this] at h
  simp at h;exact hk1 h
 have htd:∀ t td,typeAt g t=some td→∃ k:Nat,t=k∧∃ h:k < g.types.length,g.types[k]=td:=by
  intro t td ht
  have hlt:=Wh ht
  refine ⟨t.toNat,by omega,by omega,?_⟩
  have:=zbm (g:=g) (k:=t.toNat) (by omega)
  rw [Int.toNat_of_nonneg hlt.1,ht] at this
  exact (Option.some.inj this).symm
 have hcases:∀ t td,typeAt g t=some td→qP td=true∧QT g t td=true:=by
  intro t td ht
  obtain ⟨k,rfl,hk,rfl⟩:=htd t td ht
  have:=hck k hk
  rw [zbC hk] at this
  cases h1:qP g.types[k] <;> cases h2:QT g k g.types[k] <;> simp [h1,h2] at this ⊢
 refine ⟨zcq hf,?_,?_,fun t td ht=>(hcases t td ht).1,fun t td ht=>(hcases t td ht).2⟩
 ·intro t td ht
  obtain ⟨_,_,h3,h4,_⟩:=Ye (hb td (zaf ht));exact ⟨h3,h4⟩
 ·intro t td ht
  obtain ⟨h1,h2,_⟩:=Ye (hb td (zaf ht));exact ⟨h1,h2⟩
def zc8 (g:Img):Int→List Int→Prop
 | _,[]=>True
 | t,x::l=>x=t∧∃ td,typeAt g t=some td∧zc8 g td.ext l
theorem zhx {g:Img}:∀ (n:Nat) (t:Int) (out:List Int),∃ l,zba g n t out=out++l∧zc8 g t l
 | 0,t,out=>⟨[],by simp [zba],trivial⟩
 | n + 1,t,out=>by
  rw [zba]
  cases ht:typeAt g t with
  | none=>exact ⟨[],by simp,trivial⟩
  | some td =>
   by_cases hm:t∈out
   ·exact ⟨[],by simp [hm],trivial⟩
   ·obtain ⟨l,h1,h2⟩:=zhx n td.ext (out++[t])
    exact ⟨t::l,by simp only [hm,if_false];rw [h1];simp,rfl,td,ht,h2⟩
theorem zl9 (g:Img) (t:Int):zc8 g t (up g t):=by
 obtain ⟨l,h1,h2⟩:=zhx (g:=g) (g.types.length + 1) t []
 rw [up,h1];exact h2
def ch (g:Img):Nat→Int→List Int
 | 0,_=>[]
 | n + 1,t=>match typeAt g t with|some td=>t::ch g n td.ext|none=>[]
def zk1 (g:Img) (t:Int):Int:=match typeAt g t with|some td=>td.ext|none => -1
theorem zeO {g:Img}:∀ (l:List Int) (t:Int),zc8 g t l→l≠[]→typeAt g (zk1 g (l.getLastD 0))=none→∀ m,l.length≤m→ch g m t=l
 | [],t,_,hne,_,_,_=>(hne rfl).elim
 | x::l,t,hc,_,he,m,hm=>by
  obtain ⟨rfl,td,htd,hc'⟩:=hc
  obtain ⟨m,rfl⟩:∃ m',m=m' + 1:=⟨m - 1,by simp at hm;omega⟩
  rw [ch,htd]
  simp only
  cases l with
  | nil =>
   simp only [List.getLastD_cons,List.getLastD_nil,zk1,htd] at he
   cases m with
   | zero=>rfl
   | succ m=>rw [ch,he]
  | cons y l =>
   rw [zeO (y::l) td.ext hc' (by simp) (by simpa [List.getLastD_cons] using he) m (by simp at hm ⊢;omega)]
theorem up_nil {g:Img} {t:Int} (h:typeAt g t=none):up g t=[]:=by rw [up,zba,h]
theorem Wl.top {g:Img} (hW:Wl g) {t:Int} {td:TD} (ht:typeAt g t=some td):typeAt g (zk1 g ((up g t).getLastD 0))=none:=by
 obtain ⟨r,hr⟩:=zec ht
 have hh:=hW.hang t td ht
 simp only [QT,Bool.and_eq_true,XU,Bool.or_eq_true,Bool.not_eq_true',decide_eq_false_iff_not,beq_iff_eq,decide_eq_true_eq] at hh
 obtain ⟨⟨h1,_⟩,_⟩:=hh
 have hneg:∀ x:Int,x < 0→typeAt g x=none:=by
  intro x hx;rw [typeAt,if_neg (by omega)]
 by_cases hx:0≤td.ext
 ·rcases h1 with h1|h1
  ·exact (h1 hx).elim
  ·have h3:Vg g t < 0:=h1.2
   have:Vg g t=zk1 g ((up g t).getLastD 0):=rfl
   rw [←this]
   exact hneg _ h3
 ·have hu:up g t=[t]:=by
   rw [up,zba,ht]
   simp only [List.not_mem_nil,if_false,List.nil_append]
   cases g.types.length with
   | zero=>rfl
   | succ n=>rw [zba,hneg _ (by omega)]
  rw [hu]
  simp only [List.getLastD_cons,List.getLastD_nil,zk1,ht]
  exact hneg _ (by omega)
theorem Wl.up_eq {g:Img} (hW:Wl g) (t:Int):up g t=ch g (g.types.length + 1) t:=by
 cases ht:typeAt g t with
 | none=>rw [up_nil ht,ch,ht]
 | some td =>
  obtain ⟨r,hr⟩:=zec ht
  have hui:=XY g t
  have hul:=Zu _ _ hui.1 hui.2
  exact (zeO _ t (zl9 g t) (by rw [hr];simp) (hW.top ht) _ (by omega)).symm
theorem Wl.up_cons {g:Img} (hW:Wl g) {t:Int} {td:TD} (ht:typeAt g t=some td):up g t=t::up g td.ext:=by
 obtain ⟨r,hr⟩:=zec ht
 have hui:=XY g t
 have hul:=Zu _ _ hui.1 hui.2
 have h1:=zeO _ t (zl9 g t) (by rw [hr];simp) (hW.top ht) (g.types.length + 2) (by omega)
 rw [←h1,ch,ht,hW.up_eq]
theorem Wl.up_len {g:Img} (hW:Wl g):∀ (n:Nat) (a b:Int),(up g a).length≤n→b∈up g a→(∀ x∈up g b,x∈up g a)∧(b=a∨(up g b).length < (up g a).length)
 | 0,a,b,hn,hb=>by
  have:up g a=[]:=List.eq_nil_of_length_eq_zero (by omega)
  rw [this] at hb;simp at hb
 | n + 1,a,b,hn,hb=>by
  cases ha:typeAt g a with
  | none=>rw [up_nil ha] at hb;simp at hb
  | some td =>
   have e:=hW.up_cons ha
   rw [e] at hb hn ⊢
   rcases List.mem_cons.1 hb with rfl|hb
   ·rw [e];exact ⟨fun x hx=>hx,.inl rfl⟩
   ·obtain ⟨h1,h2⟩:=hW.up_len n td.ext b (by simp at hn;omega) hb
    refine ⟨fun x hx=>List.mem_cons_of_mem _ (h1 x hx),.inr ?_⟩
    rcases h2 with rfl|h2
    ·simp
    ·simp;omega
theorem Wl.up_trans {g:Img} (hW:Wl g) {a b c:Int} (h1:b∈up g a) (h2:c∈up g b):c∈up g a:=(hW.up_len _ a b (Nat.le_refl _) h1).1 c h2
theorem Wl.face_kind {g:Img} (hW:Wl g) {u f:Int} (h:f∈yQ g u):zN g f=2:=by
 unfold yQ at h
 cases hu:typeAt g u with
 | none=>rw [hu] at h;simp at h
 | some td =>
  rw [hu] at h
  simp only at h
  have hh:=hW.hang u td hu
  simp only [QT,Bool.and_eq_true,List.all_eq_true,List.mem_range,zbZ,beq_iff_eq] at hh
  obtain ⟨⟨_,h2⟩,_⟩:=hh
  obtain ⟨j,hj,rfl⟩:=List.getElem_of_mem h
  have:=(h2 j hj).1
  rwa [zL hj] at this
theorem Wl.rf_kind {g:Img} (hW:Wl g) {t f:Int} (h:RF g t f):zN g f=2:=by
 cases h with
 | base _ hx=>obtain ⟨u,_,h⟩:=List.mem_flatMap.1 hx;exact hW.face_kind h
 | step x _ _ hy=>exact hW.face_kind hy
theorem zgU {g:Img} {t k:Int} (h:zN g t=k) (hk:0≤k):∃ td,typeAt g t=some td∧XV td.flags=k:=by
 unfold zN at h
 cases ht:typeAt g t with
 | none=>rw [ht] at h;simp at h;omega
 | some td=>rw [ht] at h;exact ⟨td,rfl,h⟩
theorem Wl.face_up {g:Img} (hW:Wl g) {t:Int} (h:zN g t=2):up g t=[t]:=by
 obtain ⟨td,ht,hk⟩:=zgU h (by omega)
 have hfl:=hW.flag t td ht
 have hext:td.ext = -1:=by
  simp [qP,hk] at hfl
  exact hfl.1.1.1.1
 rw [hW.up_cons ht,hext,up_nil (by rw [typeAt,if_neg (by omega)])]
theorem RF.up {g:Img} (hW:Wl g) {a b f:Int} (h:b∈up g a) (hf:RF g b f):RF g a f:=by
 induction hf with
 | base x hx =>
  obtain ⟨u,hu,hxu⟩:=List.mem_flatMap.1 hx
  exact .base x (List.mem_flatMap.2 ⟨u,hW.up_trans h hu,hxu⟩)
 | step x y _ hy ih=>exact .step x y ih hy
theorem RF.trans {g:Img} (hW:Wl g) {a b f:Int} (h:RF g a b) (hf:RF g b f):RF g a f:=by
 have hu:=hW.face_up (hW.rf_kind h)
 induction hf with
 | base x hx =>
  obtain ⟨u,hu',hxu⟩:=List.mem_flatMap.1 hx
  rw [hu] at hu'
  simp at hu'
  subst hu'
  exact .step _ x h hxu
 | step x y _ hy ih=>exact .step x y ih hy
def Bl (g:Img) (a b:Int):Prop:=b∈up g a∨RF g a b
theorem zgT {g:Img} (hF:Fm g) {a b:Int}:Xk g a b=true↔Bl g a b:=by
 simp only [Xk,Bool.or_eq_true,decide_eq_true_eq,zbu hF,Bl]
theorem Wl.trans {g:Img} (hW:Wl g) {a b c:Int} (h1:Bl g a b) (h2:Bl g b c):Bl g a c:=by
 rcases h1 with h1|h1 <;> rcases h2 with h2|h2
 ·exact .inl (hW.up_trans h1 h2)
 ·exact .inr (h2.up hW h1)
 ·rw [hW.face_up (hW.rf_kind h1)] at h2
  simp at h2;subst h2;exact .inr h1
 ·exact .inr (RF.trans hW h1 h2)
end Go.Cg
namespace Go.Cg
open Go.Proofs
def Vb (g:Img) (a b:Int):Bool:=decide (b∈up g a)||decide (b∈Zz g a)
set_option maxHeartbeats 1000000 in
theorem zkt (g:Img) (a b:Int) (hF:Fm g):ACall Tryz.prog 66 [zH g,pi a,pi b] (pb (Vb g a b)):=by
 refine zh zf Tryz.func66 rfl (by kernel_rfl) Tryz.ntmps66 (by simp) _ rfl (fun hw gB hgB=>?_)
 have hn:=hF.n
 repeat' (first|(refine shC ?_;first|refine zB rfl (zG rfl rfl (Xz g a (by omega))) rfl rfl ?_|refine AD.step _ _ _ _ _ rfl (zG rfl rfl (Xz g a (by omega))) rfl rfl ?_|refine qC (Qu _ _) ?_|refine zB rfl (zG rfl rfl (zaF g a (by omega) (fun td h=>by have:=(hF.faces td h).1;omega))) rfl rfl ?_|refine AD.step _ _ _ _ _ rfl (zG rfl rfl (zaF g a (by omega) (fun td h=>by have:=(hF.faces td h).1;omega))) rfl rfl ?_)|refine sA ?_|refine sC (fun _=>?_) (fun _=>?_)|fail)
 all_goals first|(refine retq rfl ?_;first|(simp only [zk,Vb,BL,List.length_map] at *;simp only [*,BL,List.length_map];done)|(simp_all [zk,Vb];done)|(simp_all [zk,Vb];omega)|(simp_all [zk,Vb];intros;omega))|(refine ZN rfl ?_;first|(simp only [zk,Vb,BL,List.length_map] at *;simp only [*,BL,List.length_map];done)|(simp_all [zk,Vb];done)|(simp_all [zk,Vb];omega)|(simp_all [zk,Vb];intros;omega))|skip
theorem zoR {g:Img} (hF:Fm g) (a b:Int):Vb g a b=Xk g a b:=by
 rw [Vb,Xk]
 congr 1
 rw [Bool.eq_iff_iff,decide_eq_true_eq,decide_eq_true_eq,zbB hF,zbu hF]
theorem Wl.extk {g:Img} (hW:Wl g) {t:Int} {td:TD} (h:typeAt g t=some td):td.ext = -1∨zN g td.ext=0:=by
 have hh:=hW.hang t td h
 simp only [QT,Bool.and_eq_true,XU,Bool.or_eq_true,Bool.not_eq_true',decide_eq_false_iff_not,beq_iff_eq,decide_eq_true_eq] at hh
 obtain ⟨⟨h1,_⟩,_⟩:=hh
 have:=hW.ext t td h
 rcases h1 with h1|h1
 ·exact .inl (by omega)
 ·exact .inr h1.1.1
end Go.Cg
