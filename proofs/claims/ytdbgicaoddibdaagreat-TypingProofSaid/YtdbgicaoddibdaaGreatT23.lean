/- A part of the walks by abstract values: no statement of its own. -/
import Derived.Test.YtdbgicaoddibdaaGreatT21
set_option linter.unusedVariables false
set_option linter.unusedSimpArgs false
namespace Go.Cg
open Go.Proofs
set_option maxHeartbeats 20000000
structure Pt where
 c:Int
 p:Int
 f:Int
 t:Int
 deriving Inhabited
def yP (x:Pt):PV:=.agg [pi x.c,pi x.p,pi x.f,pi x.t]
def zs9 (f t:Int):PV:=.agg [pi f,pi t]
def pts (l:List Pt):PV:=.slc 4 (l.map yP) false
def yE (k:Int) (c:Cl):List Pt:=[⟨k,1,c.tf,c.tt⟩,⟨k,2,c.hf,c.ht⟩]++(if c.kind==2 then [⟨k,3,c.filter,c.hf⟩] else [])
theorem zeT (f t n:Int):ACall Tryz.prog 261 [zs9 f t,pi n] (pb (decide (0≤f)&&decide (f < t)&&decide (t≤n))):=by
 refine zi zf Tryz.func261 rfl zws Tryz.ntmps261 zwy63 _ rfl (fun hw gB hgB=>?_)
 repeat' (first|refine sA ?_|refine sC (fun _=>?_) (fun _=>?_)|fail)
 all_goals first|(refine ay ?_;first|(simp only [zC,BL,List.length_map] at *;simp only [*,BL,List.length_map];done)|(simp_all [zC];done)|(simp_all [zC];omega)|(simp_all [zC];intros;omega))|(refine zbf rfl ?_;first|(simp only [zC,BL,List.length_map] at *;simp only [*,BL,List.length_map];done)|(simp_all [zC];done)|(simp_all [zC];omega)|(simp_all [zC];intros;omega))|skip
def Xf (a b:Pt):Bool:=!(a.f==b.f&&(a.t==b.t&&true))&&decide (b.f≤a.f)&&decide (a.t≤b.t)
theorem zlM (a b:Pt):ACall Tryz.prog 266 [zs9 a.f a.t,zs9 b.f b.t] (pb (Xf a b)):=by
 refine zi zf Tryz.func266 rfl zws Tryz.ntmps266 zwy63 _ rfl (fun hw gB hgB=>?_)
 repeat' (first|refine sA ?_|refine sC (fun _=>?_) (fun _=>?_)|fail)
 all_goals (refine ay ?_;first|(simp only [zC,Xf, *];done)|(simp only [zC,Xf, *];rfl)|(simp_all [zC,Xf];done))
def Yt (a b:Pt):Bool:=decide (a.f < b.t)&&decide (b.f < a.t)
theorem zoe (a b:Pt):ACall Tryz.prog 276 [zs9 a.f a.t,zs9 b.f b.t] (pb (Yt a b)):=by
 refine zi zf Tryz.func276 rfl zws Tryz.ntmps276 zwy63 _ rfl (fun hw gB hgB=>?_)
 repeat' (first|refine sA ?_|refine sC (fun _=>?_) (fun _=>?_)|fail)
 all_goals (refine ay ?_;first|(simp only [zC,Yt, *];done)|(simp only [zC,Yt, *];rfl)|(simp_all [zC,Yt];done))
def zsM (l:List Pt) (p:Pt→Bool):Int:=if l.any p then ((l.findIdx p:Nat):Int) else -1
theorem zhn (l:List Pt) (p:Pt→Bool) (f:FuncId) (first cap:List PV) (hp:∀ x∈l,ACall Tryz.prog f (first++[yP x]++cap) (pb (p x))):ACall Tryz.prog 277 [pts l,.fn (.func f) first cap] (pi (zsM l p)):=by
 refine zi zf Tryz.func277 rfl zws Tryz.ntmps277 zwy63 _ rfl (fun hw gB hgB=>?_);have hl:l.length≤9223372036854775807:=by have:=hw.1;simp [pts,PV.lenOk,maxLen] at this;exact this.1
 repeat' (first|refine sA ?_|refine sC (fun _=>?_) (fun _=>?_)|fail)
 refine zW (fun k:Nat=>[(0,.pv (pts l)),(1,.pv (.fn (.func f) first cap)),(7,.pv (pi l.length)),(8,.pv (pi k))]) (fun _=>[]) (fun k=>k≤l.length∧∀ j (h:j < k) (h2:j < l.length),p l[j]=false) (fun k=>l.length - k) 0 ⟨by omega,fun j h=>by omega⟩ (tS) tH ?_;rintro k ⟨hk,hno⟩;by_cases hlt:k < l.length
 ·have he:=zY (f:=yP) hlt;have c1:=hp _ (List.getElem_mem hlt);cases hpx:p l[k]
  ·rw [hpx] at c1
   repeat' (first|(refine shC ?_;first|refine qV (c1) ?_)|(refine shX ?_;first|refine qX he ?_)|refine sK ?_|refine sC (fun _=>?_) (fun _=>?_)|fail)
   exact ⟨k + 1,⟨hlt,fun j hj h2=>by
    by_cases e:j=k
    ·subst e;exact hpx
    ·exact hno j zwy62 h2⟩,tD,tS,tH⟩
  ·rw [hpx] at c1;have hi:l.findIdx p=k:=by
    rw [List.findIdx_eq hlt];exact ⟨hpx,fun j hj=>hno j hj zwy62⟩
   have ha:l.any p=true:=List.any_eq_true.2 ⟨_,List.getElem_mem hlt,hpx⟩
   repeat' (first|(refine shC ?_;first|refine qV (c1) ?_)|(refine shX ?_;first|refine qX he ?_)|refine sK ?_|refine sC (fun _=>?_) (fun _=>?_)|fail)
   exact retq rfl (by simp [zC,zsM,ha,hi])
 ·have ha:l.any p=false:=by
   rw [List.any_eq_false];intro x hx;obtain ⟨j,hj,rfl⟩:=List.getElem_of_mem hx;simp [hno j zwy62 hj]
  repeat' (first|refine sK ?_|refine sC (fun _=>?_) (fun _=>?_)|fail)
  exact retq rfl (by simp [zC,zsM,ha])
theorem Qa (l:List Pt) (p:Pt→Bool) (f:FuncId) (first cap:List PV) (hp:∀ x∈l,ACall Tryz.prog f (first++[yP x]++cap) (pb (p x))):ACall Tryz.prog 264 [pts l,.fn (.func f) first cap] (pb (l.any p)):=by
 refine zi zf Tryz.func264 rfl zws Tryz.ntmps264 zwy63 _ rfl (fun hw gB hgB=>?_);have c1:=zhn l p f first cap hp
 repeat' (first|(refine shC ?_;first|refine qC c1 ?_)|refine sA ?_|refine sC (fun _=>?_) (fun _=>?_)|fail)
 refine ay ?_;have:decide (0≤zsM l p)=l.any p:=by
  unfold zsM;cases h:l.any p <;> simp
 simp [zC,this]
theorem zlh (a b:Pt) (may:Pt→Pt→Bool) (mf:FuncId) (hm:∀ x y,ACall Tryz.prog mf [yP x,yP y] (pb (may x y))):ACall Tryz.prog 275 [yP b,.ptr (yP a) 0,.ptr (.fn (.func mf) [] []) 0] (pb (Yt a b&&!may a b)):=by
 refine zi zf Tryz.func275 rfl zws Tryz.ntmps275 zwy63 _ rfl (fun hw gB hgB=>?_)
 repeat' (first|(refine shC ?_;first|refine qC (zoe a b) ?_|refine qV (hm a b) ?_)|refine sA ?_|refine sC (fun _=>?_) (fun _=>?_)|fail)
 all_goals (refine ay ?_;simp_all [zC];done)
theorem zmJ (a:Pt) (m:List Pt) (may:Pt→Pt→Bool) (mf:FuncId) (hm:∀ x y,ACall Tryz.prog mf [yP x,yP y] (pb (may x y))):ACall Tryz.prog 274 [yP a,.ptr (pts m) 0,.ptr (.fn (.func mf) [] []) 0] (pb (m.any fun b=>Yt a b&&!may a b)):=by
 refine zi zf Tryz.func274 rfl zws Tryz.ntmps274 zwy63 _ rfl (fun hw gB hgB=>?_);have c1:=Qa m (fun b=>Yt a b&&!may a b) 275 [] [.ptr (yP a) 0,.ptr (.fn (.func mf) [] []) 0] (fun b _=>zlh a b may mf hm)
 repeat' (first|(refine shC ?_;first|refine qC c1 ?_)|refine sA ?_|refine sC (fun _=>?_) (fun _=>?_)|fail)
 exact retq rfl rfl
def zcZ (l m:List Pt) (may:Pt→Pt→Bool):Bool:=l.any fun a=>m.any fun b=>Yt a b&&!may a b
theorem zel (l m:List Pt) (may:Pt→Pt→Bool) (mf:FuncId) (hm:∀ x y,ACall Tryz.prog mf [yP x,yP y] (pb (may x y))):ACall Tryz.prog 262 [pts l,pts m,.fn (.func mf) [] []] (pb (zcZ l m may)):=by
 refine zi zf Tryz.func262 rfl zws Tryz.ntmps262 zwy63 _ rfl (fun hw gB hgB=>?_);have c1:=Qa l (fun a=>m.any fun b=>Yt a b&&!may a b) 274 [] [.ptr (pts m) 0,.ptr (.fn (.func mf) [] []) 0] (fun a _=>zmJ a m may mf hm)
 repeat' (first|(refine shC ?_;first|refine qC c1 ?_)|refine sA ?_|refine sC (fun _=>?_) (fun _=>?_)|fail)
 exact retq rfl rfl
theorem za5 (k:Int) (c:Cl):ACall Tryz.prog 175 [pi k,Zg c] (pts (yE k c)):=by
 refine zi zf Tryz.func175 rfl zws Tryz.ntmps175 zwy63 _ rfl (fun hw gB hgB=>?_);rcases Bool.eq_false_or_eq_true (c.kind==2) with hk|hk
 ·have e:pts (yE k c)=.slc 4 [yP ⟨k,1,c.tf,c.tt⟩,yP ⟨k,2,c.hf,c.ht⟩,yP ⟨k,3,c.filter,c.hf⟩] false:=by simp [pts,yE,hk]
  repeat' (first|(refine yC ?_;first|refine zy rfl (Wu zf rfl rfl (.inl rfl) rfl rfl (by show _ * 32≤_;simp) zwy63) rfl rfl ?_)|refine sK ?_|refine sC (fun _=>?_) (fun _=>?_)|fail)
  exact retq rfl (by rw [e];rfl)
 ·have e:pts (yE k c)=.slc 4 [yP ⟨k,1,c.tf,c.tt⟩,yP ⟨k,2,c.hf,c.ht⟩] false:=by simp [pts,yE,hk]
  repeat' (first|refine sK ?_|refine sC (fun _=>?_) (fun _=>?_)|fail)
  exact zbl (t:=4) (a:=.pv (.slc 4 [yP ⟨k,1,c.tf,c.tt⟩,yP ⟨k,2,c.hf,c.ht⟩] true)) (b:=.pv (pts (yE k c))) (ps:=[pts (yE k c)]) rfl (by rw [e];exact zd3 4 _ true) rfl rfl
theorem zm8 (a b:Pt):ACall Tryz.prog 263 [yP a,yP b] (pb (a.c==b.c&&(a.p==b.p&&true))):=by
 refine zi zf Tryz.func263 rfl zws Tryz.ntmps263 zwy63 _ rfl (fun hw gB hgB=>?_)
 repeat' (first|refine sA ?_|refine sC (fun _=>?_) (fun _=>?_)|fail)
 exact retq rfl rfl
theorem zpR (y x:Pt):ACall Tryz.prog 265 [yP y,.ptr (yP x) 0] (pb (!Xf y x)):=by
 refine zi zf Tryz.func265 rfl zws Tryz.ntmps265 zwy63 _ rfl (fun hw gB hgB=>?_)
 repeat' (first|(refine shC ?_;first|refine qC (zlM y x) ?_)|refine sA ?_|refine sC (fun _=>?_) (fun _=>?_)|fail)
 exact retq rfl rfl
theorem zpF (y x:Pt):ACall Tryz.prog 267 [yP y,.ptr (yP x) 0] (pb (y.p != 1&&y.f==x.f)):=by
 refine zi zf Tryz.func267 rfl zws Tryz.ntmps267 zwy63 _ rfl (fun hw gB hgB=>?_)
 repeat' (first|refine sA ?_|refine sC (fun _=>?_) (fun _=>?_)|fail)
 all_goals (refine ay ?_;simp_all [zC];done)
theorem zoC (x y:Pt):ACall Tryz.prog 268 [yP x,yP y] (pb (x.p==1&&y.p==1)):=by
 refine zi zf Tryz.func268 rfl zws Tryz.ntmps268 zwy63 _ rfl (fun hw gB hgB=>?_)
 repeat' (first|refine sA ?_|refine sC (fun _=>?_) (fun _=>?_)|fail)
 all_goals (refine ay ?_;simp_all [zC];done)
theorem zoU (x y:Pt):ACall Tryz.prog 269 [yP x,yP y] (pb false):=by
 refine zi zf Tryz.func269 rfl zws Tryz.ntmps269 zwy63 _ rfl (fun hw gB hgB=>?_)
 repeat' (first|refine sA ?_|refine sC (fun _=>?_) (fun _=>?_)|fail)
 exact retq rfl rfl
def zuC (a b:Pt):Bool:=a.c==b.c&&(a.p==b.p&&true)
def zuO (x y:Pt):Bool:=x.p==1&&y.p==1
def zbS (n:Int) (c:Cl):Int :=
 if decide (c.kind < 1)||decide (4 < c.kind)||!zgh n c||!zf0 n c then 3
 else if c.kind==2&&(decide (c.filter < 0)||decide (c.hf≤c.filter))||c.kind != 2&&c.filter != -1 then 3
 else if zcZ (yE 0 c) (yE 0 c) zuC then 12
 else 0
set_option maxHeartbeats 4000000 in
theorem zm4 (n:Int) (c:Cl):ACall Tryz.prog 254 [pi n,Zg c] (pi (zbS n c)):=by
 refine zi zf Tryz.func254 rfl zws Tryz.ntmps254 zwy63 _ rfl (fun hw gB hgB=>?_);have c1:=zeT c.tf c.tt n;have c2:=zeT c.hf c.ht n;have c3:=zel (yE 0 c) (yE 0 c) zuC 263 zm8;have e1:(decide (0≤c.tf)&&decide (c.tf < c.tt)&&decide (c.tt≤n))=zgh n c:=rfl;have e2:(decide (0≤c.hf)&&decide (c.hf < c.ht)&&decide (c.ht≤n))=zf0 n c:=rfl;rw [e1] at c1;rw [e2] at c2
 repeat' (first|(refine shC ?_;first|refine qC c1 ?_|refine qC c2 ?_|refine qC (za5 0 c) ?_|refine qC c3 ?_)|refine sA ?_|refine sC (fun _=>?_) (fun _=>?_)|fail)
 all_goals (refine ay ?_;first|(simp only [zC,zbS, *];done)|(simp only [zC,zbS, *];rfl)|(simp_all [zC,zbS];done)|(simp_all [zC,zbS];omega))
def Vk (a:Cl) (x:Pt):Bool:=!((yE 0 a).any fun y=>!Xf y x)
def zfn (a:Cl) (x:Pt):Bool:=(yE 0 a).any fun y=>y.p != 1&&y.f==x.f
def zhA (a b:Cl):Bool :=
 if a.tf==b.tf&&(a.tt==b.tt&&true) then !zcZ (yE 0 a) (yE 1 b) zuO else !zcZ (yE 0 a) (yE 1 b) (fun _ _=>false)
def zeh (a b:Cl):List Pt→Bool
 | []=>zhA a b
 | x::l=>if Vk a x then x.p==1||!zfn a x else zeh a b l
def zi5 (a b:Cl):Bool:=zeh a b (yE 1 b)
set_option maxHeartbeats 2000000 in
theorem zoB (a b:Cl):ACall Tryz.prog 255 [Zg a,Zg b] (pb (zi5 a b)):=by
 refine zi zf Tryz.func255 rfl zws Tryz.ntmps255 zwy63 _ rfl (fun hw gB hgB=>?_);have hlen:(yE 1 b).length≤3:=by unfold yE;split <;> simp
 have h0a:((yE 0 a).map yP)[(0:Int).toNat]?=some (yP ⟨0,1,a.tf,a.tt⟩):=by simp [yE]
 have h0b:((yE 1 b).map yP)[(0:Int).toNat]?=some (yP ⟨1,1,b.tf,b.tt⟩):=by simp [yE]
 have ce:=zel (yE 0 a) (yE 1 b) zuO 268 zoC;have cf:=zel (yE 0 a) (yE 1 b) (fun _ _=>false) 269 zoU
 repeat' (first|(refine shC ?_;first|refine qC (za5 0 a) ?_|refine qC (za5 1 b) ?_)|refine sA ?_|refine sC (fun _=>?_) (fun _=>?_)|fail)
 refine zW (fun k:Nat=>[(5,.pv (pts (yE 0 a))),(6,.pv (pts (yE 1 b))),(14,.pv (pts (yE 1 b))),(15,.pv (pi (yE 1 b).length)),(16,.pv (pi k))]) (fun _=>[]) (fun k=>k≤(yE 1 b).length∧zi5 a b=zeh a b ((yE 1 b).drop k)) (fun k=>(yE 1 b).length - k) 0 ⟨by omega,rfl⟩ (tS) tH ?_;rintro k ⟨hk,hr⟩;by_cases hlt:k < (yE 1 b).length
 ·have he:=zY (f:=yP) hlt;rw [drop_cons hlt,zeh] at hr;generalize (yE 1 b)[k]=x at he hr;have c1:=Qa (yE 0 a) (fun y=>!Xf y x) 265 [] [.ptr (yP x) 0] (fun y _=>zpR y x);have c2:=Qa (yE 0 a) (fun y=>y.p != 1&&y.f==x.f) 267 [] [.ptr (yP x) 0] (fun y _=>zpF y x);cases ha:(yE 0 a).any fun y=>!Xf y x
  ·rw [ha] at c1;rw [show Vk a x=true by rw [Vk,ha];rfl,if_pos rfl] at hr
   repeat' (first|refine QW (t:=8) rfl rfl rfl ?_|(refine shC ?_;first|refine qC c1 ?_|refine qC c2 ?_)|(refine shX ?_;first|refine qX he ?_)|refine sK ?_|refine sC (fun _=>?_) (fun _=>?_)|fail)
   all_goals (refine ay ?_;rw [hr];simp_all [zC,zfn];done)
  ·rw [ha] at c1;rw [show Vk a x=false by rw [Vk,ha];rfl,if_neg zwy63] at hr
   repeat' (first|refine QW (t:=8) rfl rfl rfl ?_|(refine shC ?_;first|refine qC c1 ?_)|(refine shX ?_;first|refine qX he ?_)|refine sK ?_|refine sC (fun _=>?_) (fun _=>?_)|fail)
   exact ⟨k + 1,⟨hlt,hr⟩,tD,tS,tH⟩
 ·rw [drop_end zwy62,zeh,zhA] at hr
  repeat' (first|(refine shC ?_;first|refine qC ce ?_|refine qC cf ?_)|(refine shX ?_;first|refine qX h0a ?_|refine qX h0b ?_)|refine sK ?_|refine sC (fun _=>?_) (fun _=>?_)|fail)
  all_goals (refine ay ?_;rw [hr];simp_all [zC];done)
structure OkC (c:Cl):Prop where
 t:c.tf < c.tt
 h:c.hf < c.ht
 h0:0≤c.hf
 t0:0≤c.tf
 f:c.kind=2→0≤c.filter∧c.filter < c.hf
theorem zcN {n:Int} {c:Cl} (h:WL n c=0):OkC c:=by
 unfold WL at h;split at h
 ·simp at h
 ·split at h
  ·simp at h
  ·rename_i h1 h2;simp [zgh,zf0] at h1 h2;exact ⟨by omega,by omega,by omega,by omega,fun hk=>by simp [hk] at h2;omega⟩
theorem VZ {a b:Cl} {p q:Int} {x y:Pt} (hx:bounds a p=(x.f,x.t)) (hy:bounds b q=(y.f,y.t)) (h1:x.f < x.t) (h2:y.f < y.t):meet a p b q=Yt x y:=by
 simp [meet,Yt,hx,hy,h1,h2]
theorem zqa {a b:Cl} {p q:Int} (h:¬ (bounds a p).1 < (bounds a p).2∨¬ (bounds b q).1 < (bounds b q).2):meet a p b q=false:=by
 simp only [meet,Bool.and_eq_false_iff,decide_eq_false_iff_not];rcases h with h|h
 ·exact .inl (.inr h)
 ·exact .inr h
theorem zfX {a b:Cl} {p q:Int} {x y:Pt} (hx:bounds a p=(x.f,x.t)) (hy:bounds b q=(y.f,y.t)) (h1:x.f < x.t):within a p b q=Xf x y:=by
 rw [Bool.eq_iff_iff];simp [within,Xf,hx,hy];omega
theorem znc {a b:Cl} {q:Int} (h:a.kind≠2):within a 3 b q=true:=by simp [within,bounds,h]
theorem zoF {n:Int} {c:Cl}:zbS n c=WL n c:=by
 unfold zbS WL;split
 ·rfl
 ·split
  ·rfl
  ·rename_i h1 h2;have hok:OkC c:=by
    simp [zgh,zf0] at h1 h2;exact ⟨by omega,by omega,by omega,by omega,fun hk=>by simp [hk] at h2;omega⟩
   have e:zcZ (yE 0 c) (yE 0 c) zuC=(meet c 1 c 2||meet c 1 c 3||meet c 2 c 3):=by
    obtain ⟨g1,g2,g3,g4,g5⟩:=hok;rw [Bool.eq_iff_iff];by_cases hk:c.kind=2
    ·have:=g5 hk;simp [zcZ,yE,hk,zuC,Yt,meet,bounds];omega
    ·simp [zcZ,yE,hk,zuC,Yt,meet,bounds];omega
   rw [e]
theorem zcR {a b:Cl} (ha:OkC a) {q:Int} {x:Pt} (hy:bounds b q=(x.f,x.t)) (h2:x.f < x.t):Vk a x=zgK a b q:=by
 have w1:within a 1 b q=Xf ⟨0,1,a.tf,a.tt⟩ x:=zfX zwy78 hy ha.t;have w2:within a 2 b q=Xf ⟨0,2,a.hf,a.ht⟩ x:=zfX zwy78 hy ha.h;by_cases hk:a.kind=2
 ·have w3:within a 3 b q=Xf ⟨0,3,a.filter,a.hf⟩ x:=zfX (by simp [bounds,hk]) hy (ha.f hk).2;simp [Vk,yE,zgK,w1,w2,w3,hk,hy,h2,Bool.and_assoc]
 ·have w3:=znc (b:=b) (q:=q) hk;simp [Vk,yE,zgK,w1,w2,w3,hk,hy,h2]
theorem zhe (a:Cl) (x:Pt):zfn a x=(a.hf==x.f||a.kind==2&&a.filter==x.f):=by
 by_cases hk:a.kind=2 <;> simp [zfn,yE,hk]
theorem ztY {a b:Cl} (h:b.kind≠2):zgK a b 3=false:=by simp [zgK,bounds,h]
theorem zh8 {a b:Cl} (ha:OkC a) (hb:OkC b):zhA a b=!(badM a b 1 1||badM a b 1 2||badM a b 1 3||badM a b 2 1||badM a b 2 2||badM a b 2 3||badM a b 3 1||badM a b 3 2||badM a b 3 3):=by
 have m11:meet a 1 b 1=Yt ⟨0,1,a.tf,a.tt⟩ ⟨1,1,b.tf,b.tt⟩:=VZ zwy78 zwy78 ha.t hb.t;have m12:meet a 1 b 2=Yt ⟨0,1,a.tf,a.tt⟩ ⟨1,2,b.hf,b.ht⟩:=VZ zwy78 zwy78 ha.t hb.h;have m21:meet a 2 b 1=Yt ⟨0,2,a.hf,a.ht⟩ ⟨1,1,b.tf,b.tt⟩:=VZ zwy78 zwy78 ha.h hb.t;have m22:meet a 2 b 2=Yt ⟨0,2,a.hf,a.ht⟩ ⟨1,2,b.hf,b.ht⟩:=VZ zwy78 zwy78 ha.h hb.h;have ra:(yE 0 a)=[⟨0,1,a.tf,a.tt⟩,⟨0,2,a.hf,a.ht⟩]++(if a.kind==2 then [⟨0,3,a.filter,a.hf⟩] else []):=rfl;have rb:(yE 1 b)=[⟨1,1,b.tf,b.tt⟩,⟨1,2,b.hf,b.ht⟩]++(if b.kind==2 then [⟨1,3,b.filter,b.hf⟩] else []):=rfl;have n3:b.kind≠2→∀ p,meet a p b 3=false:=fun h p=>zqa (.inr zwy111)
 have n3':a.kind≠2→∀ q,meet a 3 b q=false:=fun h q=>zqa (.inl zwy111)
 have m13:b.kind=2→meet a 1 b 3=Yt ⟨0,1,a.tf,a.tt⟩ ⟨1,3,b.filter,b.hf⟩:=fun h=>VZ zwy78 zwy111 ha.t (hb.f h).2
 have m23:b.kind=2→meet a 2 b 3=Yt ⟨0,2,a.hf,a.ht⟩ ⟨1,3,b.filter,b.hf⟩:=fun h=>VZ zwy78 zwy111 ha.h (hb.f h).2
 have m31:a.kind=2→meet a 3 b 1=Yt ⟨0,3,a.filter,a.hf⟩ ⟨1,1,b.tf,b.tt⟩:=fun h=>VZ zwy111 zwy78 (ha.f h).2 hb.t
 have m32:a.kind=2→meet a 3 b 2=Yt ⟨0,3,a.filter,a.hf⟩ ⟨1,2,b.hf,b.ht⟩:=fun h=>VZ zwy111 zwy78 (ha.f h).2 hb.h
 have m33:a.kind=2→b.kind=2→meet a 3 b 3=Yt ⟨0,3,a.filter,a.hf⟩ ⟨1,3,b.filter,b.hf⟩:=fun h h'=>VZ zwy111 (by simp [bounds,h']) (ha.f h).2 (hb.f h').2
 unfold zhA badM;cases hs1:a.tf==b.tf <;> cases hs2:a.tt==b.tt <;> by_cases hka:a.kind=2 <;> by_cases hkb:b.kind=2 <;>
  simp [zcZ,ra,rb,hka,hkb,zuO,m11,m12,m21,m22,n3,n3',m13,m23,m31,m32,m33,Bool.and_assoc,Bool.or_assoc]
theorem zr4 {a b:Cl} (ha:OkC a) (hb:OkC b):zi5 a b=zem a b:=by
 have e1:=zcR (a:=a) (b:=b) ha (q:=1) (x:=⟨1,1,b.tf,b.tt⟩) zwy78 hb.t;have e2:=zcR (a:=a) (b:=b) ha (q:=2) (x:=⟨1,2,b.hf,b.ht⟩) zwy78 hb.h;have b1:(bounds b 1)=(b.tf,b.tt):=by simp [bounds]
 have b2:(bounds b 2)=(b.hf,b.ht):=by simp [bounds]
 by_cases hk:b.kind=2
 ·have e3:=zcR (a:=a) (b:=b) ha (q:=3) (x:=⟨1,3,b.filter,b.hf⟩) (by simp [bounds,hk]) (hb.f hk).2;have b3:(bounds b 3)=(b.filter,b.hf):=by simp [bounds,hk]
  rw [zi5,show yE 1 b=[⟨1,1,b.tf,b.tt⟩,⟨1,2,b.hf,b.ht⟩,⟨1,3,b.filter,b.hf⟩] by simp [yE,hk]];simp only [zeh,e1,e2,e3,zhe,zem,zto,b1,b2,b3,zh8 ha hb]
 ·rw [zi5,show yE 1 b=[⟨1,1,b.tf,b.tt⟩,⟨1,2,b.hf,b.ht⟩] by simp [yE,hk]];have c3:=ztY (a:=a) hk;simp only [zeh,e1,e2,zhe,zem,zto,b1,b2,c3,zh8 ha hb];simp
theorem zf9 {n:Int} {l:List Cl} {k:Nat} (h:Wh n l k=0):WL n (l.getD k default)=0:=by
 unfold Wh at h;split at h
 ·exact h
 ·rename_i h1;simpa using h1
theorem zwk5 {G:Prop} (h:G:=by repeat' (first|(refine shC ?_;first|(have:=b0;refine qC cf ?_)|(have:=b1;refine qC ca ?_))|(refine shX ?_;first|(have:=b0;refine qX hem ?_)|(have:=b1;refine qX he ?_))|refine sK ?_|refine sC (fun _=>?_) (fun _=>?_)|(have:=b2;exact retq rfl (by simp [zC,Qm,h6]))|(have:=b3;exact retq rfl (by simp [zC,hfin,hat]))|(have:=b4;exact ⟨m + 1,⟨by omega,hpm⟩,tD,tS,tH⟩)|fail)):G:=h
set_option maxHeartbeats 1000000 in
theorem zk8 (n:Int) (l:List Cl):ACall Tryz.prog 247 [pi n,cls l] (.tup [pi (Qm n l).1,pi (Qm n l).2]):=by
 refine zi zf Tryz.func247 rfl zws Tryz.ntmps247 zwy63 _ rfl (fun hw gB hgB=>?_);have hl:=zqh hw.2.1;by_cases h6:6 < l.length
 ·have b2:=();exact zwk5
 ·repeat' (first|refine sK ?_|refine sC (fun _=>?_) (fun _=>?_)|fail)
  refine zW (fun k:Nat=>[(0,.pv (pi n)),(1,.pv (cls l)),(14,.pv (cls l)),(15,.pv (pi l.length)),(16,.pv (pi k))]) (fun _=>[]) (fun k=>k≤l.length∧∀ j,j < k→Wh n l j=0) (fun k=>l.length - k) 0 ⟨by omega,fun j h=>by omega⟩ (tS) tH ?_;rintro k ⟨hk,hno⟩;by_cases hlt:k < l.length
  ·have he:=zdE hlt;have ca:=zm4 n (l.getD k default);rw [zoF] at ca;cases ha:(WL n (l.getD k default) != 0)
   ·have hokk:OkC (l.getD k default):=zcN (n:=n) (by simpa using ha)
    repeat' (first|refine zy rfl (ZK (xs:=l) (f:=Zg) 0 k zf rfl rfl rfl rfl rfl rfl rfl zwy62 zwy62) rfl rfl ?_|(refine shC ?_;first|refine qC ca ?_)|(refine shX ?_;first|refine qX he ?_)|refine sK ?_|refine sC (fun _=>?_) (fun _=>?_)|fail)
    refine zW (fun m:Nat=>[(0,.pv (pi n)),(1,.pv (cls l)),(6,.pv (pi k)),(7,.box 0 0),(14,.pv (cls l)),(15,.pv (pi l.length)),(16,.pv (pi k)),(30,.pv (cls (l.take k))),(31,.pv (pi k)),(32,.pv (pi m))]) (fun _=>[(0,.cell (.pv (Zg (l.getD k default))))]) (fun m=>m≤k∧zab l k m=false) (fun m=>k - m) 0 ⟨by omega,rfl⟩ (by repeat (first|exact qh|refine yU rfl ?_|(refine ZF rfl ?_ ?_;· (simp;omega)))) tH ?_;rintro m ⟨hm,hpb⟩;by_cases hltm:m < k
    ·have hem:((l.take k).map Zg)[((m:Nat):Int).toNat]?=some (Zg (l.getD m default)):=by
      simp [List.getElem?_take,hltm,show m < l.length by omega]
     have hps:=zlr l k m;have hokm:OkC (l.getD m default):=zcN (n:=n) (zf9 (hno m hltm));have cf:=zoB (l.getD m default) (l.getD k default);rw [zr4 hokm hokk] at cf;cases hf:zem (l.getD m default) (l.getD k default)
     ·have hat:Wh n l k=12:=by
       have:zab l k k=true:=by
        simp only [zab,List.any_eq_true,List.mem_range];exact ⟨m,hltm,by rw [hf];rfl⟩
       unfold Wh;rw [ha];simp [this]
      have hfin:=zio h6 hlt hno (by rw [hat];decide);clear hps;rw [hf] at cf;have b0:=();have b3:=();exact zwk5
     ·have hpm:zab l k (m + 1)=false:=by rw [hps,hpb,hf];rfl
      clear hps;rw [hf] at cf;have b0:=();have b4:=();exact zwk5
    ·repeat' (first|refine sK ?_|refine sC (fun _=>?_) (fun _=>?_)|fail)
     have:m=k:=by omega
     subst this;have hat:Wh n l m=0:=by unfold Wh;rw [ha];simp [hpb]
     exact ⟨m + 1,⟨by omega,fun j hj=>by
      by_cases e:j=m
      ·subst e;exact hat
      ·exact hno j zwy62⟩,tD,tS,tH⟩
   ·have hat:Wh n l k=WL n (l.getD k default):=by unfold Wh;rw [ha];simp
    have hfin:=zio h6 hlt hno (by rw [hat];simpa using ha);have b1:=();have b3:=();exact zwk5
  ·repeat' (first|refine sK ?_|refine sC (fun _=>?_) (fun _=>?_)|fail)
   have:k=l.length:=by omega
   subst this;exact retq rfl (by simp [zC,zpY h6 hno])
end Go.Cg
