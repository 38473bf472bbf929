/- A part of the walks by abstract values: no statement of its own. -/
import Derived.Test.YtmgdpkcmbnlklaaGreatA16
import Derived.Test.YtmgdpkcmbnlklaaGreatA8
import Derived.Test.YtmgdpkcmbnlklaaGreatA13
import Derived.Test.YtmgdpkcmbnlklaaGreatA7
set_option linter.unusedVariables false
set_option linter.unusedSimpArgs false
namespace Go.Cg
open Go.Proofs
set_option maxHeartbeats 20000000
abbrev hR (met:List Int):HEnv:=[(0,.cell (.own 2)),(1,.cell (.own 3)),(2,.obj (MapSet Tryz.prog 3 3 met)),(3,.row 3 1 (met.map pi))]
structure GOk (G:HEnv):Prop where
 kill:Zf 3 G=G
 ids:∀ i h,HEnv.get G i=some h→4≤i
 inn:∀ met,hIn (hR met++G) G=true
theorem zli {met:List Int} {G:HEnv} {i:Nat} (h:4≤i):HEnv.get (hR met++G) i=HEnv.get G i:=by
 rw [get_append]
 have:HEnv.get (hR met) i=none:=by
  simp only [hR,HEnv.get_cons,HEnv.get_nil]
  rw [if_neg (by omega),if_neg (by omega),if_neg (by omega),if_neg (by omega)]
 rw [this]
theorem GOk.killHE {G:HEnv} (hG:GOk G) {i:Nat} {h:HE} (hg:HEnv.get G i=some h):Cg.killHE 3 h=h:=by
 have:=qB 3 G i
 rw [hG.kill,hg] at this
 simpa using this.symm
theorem zjo {H:HEnv} {met:List Int} {G:HEnv} {env':Env} (hG:GOk G) (h0:H.get 0=some (.cell (.own 2))) (h1:H.get 1=some (.cell (.own 3))) (h2:H.get 2=some (.obj (MapSet Tryz.prog 3 3 met))) (h3:H.get 3=some (.row 3 1 (met.map pi)))
  (hr:∀ i h,4≤i→HEnv.get G i=some h→H.get i=some h) (he:Zz (hR met++G) env'=true):Xr H (hR met++G) env':=by
 refine ⟨fun i h hi=>?_,?_⟩
 ·by_cases h4:4≤i
  ·rw [zli h4] at hi;exact hr i h h4 hi
  ·have:i=0∨i=1∨i=2∨i=3:=by omega
   rw [get_append] at hi
   rcases this with rfl|rfl|rfl|rfl
   ·rw [h0];exact hi
   ·rw [h1];exact hi
   ·rw [h2];exact hi
   ·rw [h3];exact hi
 ·rw [he,Bool.true_and]
  show (true&&(true&&hIn (hR met++G) G))=true
  rw [hG.inn];rfl
theorem zfH {i:Nat} (h:HE) (met:List Int) (G:HEnv) (h4:4≤i) (hg:HEnv.get G i=some h):HEnv.get (hR met++G) i=some h:=by rw [zli h4];exact hg
theorem zk8 {x:Int} (h:0≤x∧x < 100000):(Lit.int .i64 x).wf=true:=by
 simp [Lit.wf,IntKind.has,IntKind.min,IntKind.max,IntKind.bits,IntKind.signed];omega
theorem zhj (l met:List Int) (G:HEnv) (hG:GOk G) (hx:∀ x∈l,0≤x∧x < 100000) (hlen:met.length + l.length≤100000) :
  ACallH Tryz.prog 97 [.pv (ints l),.box 0 0,.box 1 0] (hR met++G) (hR (l.foldl qU met)++G):=by
 refine zgj Tryz.func97 rfl (by kernel_rfl) Tryz.ntmps97 (by simp) rfl (fun gB hgB=>?_)
 repeat' (first|refine sA ?_|refine sC (fun _=>?_) (fun _=>?_)|fail)
 refine zI (fun x:Nat × List Int=>[(1,.box 0 0),(2,.box 1 0),(6,.pv (ints l)),(7,.pv (pi l.length)),(8,.pv (pi x.1))]) (fun x=>hR x.2++G)
  (fun x=>x.1≤l.length∧x.2.length≤met.length + x.1∧(l.drop x.1).foldl qU x.2=l.foldl qU met) (fun x=>l.length - x.1) (0,met) ⟨by simp,by simp,rfl⟩ (tS) (zjo hG rfl rfl rfl rfl (fun i h h4 hg=>zfH h met G h4 hg) rfl) ?_
 rintro ⟨k,m⟩ ⟨hk,hml,hr⟩
 simp only at hk hml hr
 by_cases hlt:k < l.length
 ·have he:=ZR hlt
  rw [zaz hlt] at hr
  have hwf:=zk8 (hx _ (List.getElem_mem hlt))
  by_cases hm:l[k]∈m
  ·rw [show qU m l[k]=m by simp [qU,hm]] at hr
   repeat' (first|refine zy rfl (ze1 (c:=1) (if_pos hm) zk rfl rfl rfl rfl rfl rfl rfl rfl hwf) rfl rfl ?_|(refine shX ?_;first|refine qX he ?_)|refine sK ?_|refine sC (fun _=>?_) (fun _=>?_)|fail)
   refine ⟨(k + 1,m),⟨hlt,by simp;omega,hr⟩,tD,tS,zjo hG rfl rfl rfl rfl (fun i h h4 hg=>zfH h m G h4 hg) rfl⟩
  ·rw [show qU m l[k]=m++[l[k]] by simp [qU,hm]] at hr
   repeat' (first|refine zy rfl (ze1 (c:=0) (if_neg hm) zk rfl rfl rfl rfl rfl rfl rfl rfl hwf) rfl rfl ?_|refine zf3 hgB.1 zk rfl rfl rfl rfl rfl rfl rfl rfl rfl hwf (by simp [maxLen];omega) rfl ?_|(refine shX ?_;first|refine qX he ?_)|(refine yC ?_;first|refine qw zk rfl rfl rfl rfl rfl rfl rfl (by show _ * 8≤_;simp;omega) (by simp;omega) rfl rfl ?_)|refine sK ?_|refine sC (fun _=>?_) (fun _=>?_)|fail)
   refine ⟨(k + 1,m++[l[k]]),⟨hlt,by simp;omega,hr⟩,tD,tS,zjo hG rfl rfl rfl (by show some (HE.row 3 1 _)=_;simp) (fun i h h4 hg=>?_) rfl⟩
   rw [HEnv.get_cons,if_neg (by omega),HEnv.get_cons,if_neg (by omega),qB,HEnv.get_cons,if_neg (by omega),zli h4,hg]
   simp [hG.killHE hg]
 ·rw [drop_end (by omega)] at hr
  simp only [List.foldl_nil] at hr
  subst hr
  repeat' (first|refine sK ?_|refine sC (fun _=>?_) (fun _=>?_)|fail)
  exact ⟨.inl rfl,zjo hG rfl rfl rfl rfl (fun i h h4 hg=>zfH h _ G h4 hg) rfl⟩
def Yb (step:Int→List Int):Nat→Nat→List Int→List Int
 | 0,_,met=>met
 | n + 1,i,met=>match met[i]? with|some u=>Yb step n (i + 1) ((step u).foldl qU met)|none=>met
def Ym (N:Nat) (step:Int→List Int) (l:List Int):List Int:=Yb step (N + 1) 0 (l.foldl qU [])
def NInv (N:Nat) (met:List Int):Prop:=met.Nodup∧∀ y∈met,0≤y∧y < N
theorem NInv.len {N:Nat} {met:List Int} (h:NInv N met):met.length≤N:=ZA _ _ h.1 h.2
theorem NInv.add {N:Nat} {met:List Int} (h:NInv N met) {x:Int} (hx:0≤x∧x < N):NInv N (qU met x):=by
 unfold qU
 split
 ·exact h
 ·rename_i hn
  refine ⟨?_,?_⟩
  ·rw [List.nodup_append];simp [h.1];intro b hb e;subst e;exact hn hb
  ·intro y hy
   simp only [List.mem_append,List.mem_singleton] at hy
   rcases hy with hy|rfl
   ·exact h.2 y hy
   ·exact hx
theorem NInv.fold {N:Nat}:∀ (l:List Int) {met:List Int},NInv N met→(∀ x∈l,0≤x∧x < N)→NInv N (l.foldl qU met)
 | [],_,h,_=>h
 | f::l,_,h,hl=>NInv.fold l (h.add (hl f (by simp))) fun x hx=>hl x (by simp [hx])
theorem zam:∀ (l met:List Int),met.length≤(l.foldl qU met).length
 | [],met=>Nat.le_refl _
 | x::l,met=>by
  refine Nat.le_trans ?_ (zam l (qU met x))
  unfold qU;split <;> simp
theorem zg2 {us:Nat→Value} {env2:Env} (h1:Zf 3 (qW us 100 env2)=qW us 100 env2) (h2:∀ met,hIn (hR met++qW us 100 env2) (qW us 100 env2)=true):GOk (qW us 100 env2) :=
 ⟨h1,fun i h hg=>by have:=(Vt hg).1;omega,h2⟩
theorem zed (N:Nat) (hN:N≤1000) (l:List Int) (step:Int→List Int) (f:FuncId) (first cap:List PV) (hl:∀ x∈l,0≤x∧x < N) (hll:l.length≤10000)
  (hs:∀ x:Int,0≤x→x < (N:Int)→ACall Tryz.prog f (first++[pi x]++cap) (ints (step x))) (hst:∀ x:Int,0≤x→x < (N:Int)→(step x).length≤10000∧∀ y∈step x,0≤y∧y < N) :
  ACall Tryz.prog 78 [ints l,.fn (.func f) first cap] (ints (sortL (Ym N step l))):=by
 refine zf zk Tryz.func78 rfl (by kernel_rfl) Tryz.ntmps78 (by simp) _ rfl (fun hw gB hgB=>?_)
 have hm0:NInv N (l.foldl qU []):=NInv.fold l ⟨by simp,by simp⟩ hl
 repeat' (first|refine zdW (kt:=3) (et:=3) 2 rfl rfl rfl rfl rfl ?_|refine zcO 1 3 3 1 (by decide) rfl rfl ?_|refine sA ?_|refine sC (fun _=>?_) (fun _=>?_)|fail)
 refine zl6 [(0,.pv (ints l)),(1,.pv (.fn (.func f) first cap)),(5,.box 0 0),(6,.box 1 0),(7,.fn (.func 97) [] [.box 0 0,.box 1 0]),(11,.fn (.func 97) [] [.box 0 0,.box 1 0]),(12,.pv (ints l))] (hR []) (tS)
  ⟨by repeat (first|exact zi|refine zh rfl ?_),rfl⟩ ?_
 refine zgA [(1,.pv (.fn (.func f) first cap)),(5,.box 0 0),(6,.box 1 0),(7,.fn (.func 97) [] [.box 0 0,.box 1 0])] (hR (l.foldl qU [])) 100 hgB rfl rfl rfl rfl (tS) rfl rfl rfl rfl rfl rfl
  (fun us=>zhj l [] _ (zg2 rfl (fun _=>rfl)) (fun x hx=>by have:=hl x hx;omega) (by simp;omega)) ?_
 repeat' (first|refine sA ?_|refine sC (fun _=>?_) (fun _=>?_)|fail)
 refine zI (fun x:Nat × List Int=>[(1,.pv (.fn (.func f) first cap)),(5,.box 0 0),(6,.box 1 0),(7,.fn (.func 97) [] [.box 0 0,.box 1 0]),(8,.pv (pi x.1))]) (fun x=>hR x.2)
  (fun x=>x.1≤x.2.length∧NInv N x.2∧Yb step (N + 1 - x.1) x.1 x.2=Ym N step l) (fun x=>N + 1 - x.1) (0,l.foldl qU []) ⟨by simp,hm0,rfl⟩ (tS) ⟨by repeat (first|exact zi|refine zh rfl ?_),rfl⟩ ?_
 rintro ⟨i,met⟩ ⟨hi,hmi,hr⟩
 simp only at hi hmi hr
 have hml:=hmi.len
 rw [show N + 1 - i=(N - i) + 1 by omega,Yb] at hr
 by_cases hlt:i < met.length
 ·have heU:=ZR hlt
  rw [List.getElem?_eq_getElem hlt] at hr
  simp only at hr
  obtain ⟨hu0,hu1⟩:=hmi.2 _ (List.getElem_mem hlt)
  obtain ⟨hs1,hs2⟩:=hst _ hu0 hu1
  have c1:=hs _ hu0 hu1
  repeat' (first|(refine shC ?_;first|refine qV (c1) ?_)|(refine shX ?_;first|refine qX heU ?_)|refine sK ?_|refine sC (fun _=>?_) (fun _=>?_)|fail)
  refine zgA [(1,.pv (.fn (.func f) first cap)),(5,.box 0 0),(6,.box 1 0),(7,.fn (.func 97) [] [.box 0 0,.box 1 0]),(8,.pv (pi i))] (hR ((step met[i]).foldl qU met)) 100 hgB rfl rfl rfl rfl (tS) rfl rfl rfl rfl rfl rfl
   (fun us=>zhj _ met _ (zg2 rfl (fun _=>rfl)) (fun x hx=>by have:=hs2 x hx;omega) (by omega)) ?_
  repeat' (first|refine sK ?_|refine sC (fun _=>?_) (fun _=>?_)|fail)
  have hmi2:=NInv.fold _ hmi hs2
  refine ⟨(i + 1,(step met[i]).foldl qU met),⟨?_,hmi2,?_⟩,by simp only;omega,tS,⟨by repeat (first|exact zi|refine zh rfl ?_),rfl⟩⟩
  ·have:=zam (step met[i]) met
   simp only;omega
  ·simp only
   rw [show N + 1 - (i + 1)=N - i by omega];exact hr
 ·rw [List.getElem?_eq_none (by omega)] at hr
  simp only at hr
  subst hr
  repeat' (first|refine zlW [(6,.box 1 0)] hgB rfl rfl ⟨Tryz.f98,Tryz.func98,rfl,by kernel_rfl⟩ rfl rfl (by simp only;omega) (tS) rfl rfl rfl rfl ?_|refine sK ?_|refine sC (fun _=>?_) (fun _=>?_)|fail)
  exact retq rfl rfl
structure Fm (g:Img):Prop where
 n:g.types.length≤32
 faces:∀ td∈g.types,td.faces.length≤4∧∀ f∈td.faces,0≤f∧f < g.types.length
theorem zla {g:Img} (h:zW g=true):Fm g :=
 ⟨(zS h).1,fun td hm=>let ⟨_,_,_,_,h5,h6⟩:=Xv ((zS h).2.2.2 td hm);⟨h5,h6⟩⟩
theorem zar {g:Img} {t:Int} {td:TD} (h:typeAt g t=some td):td∈g.types:=by
 unfold typeAt at h
 split at h
 ·exact List.mem_of_getElem? h
 ·cases h
theorem Fm.at {g:Img} (h:Fm g) (t:Int):(zX g t).length≤4∧∀ f∈zX g t,0≤f∧f < g.types.length:=by
 unfold zX
 cases ht:typeAt g t with
 | none=>simp
 | some td=>exact h.faces td (zar ht)
theorem WW {g:Img} {t:Int} (h:0≤t∧t < g.types.length):there g t=true:=by
 obtain ⟨td,htd⟩:=zbv h;exact (Yg g t).2 ⟨td,htd⟩
set_option maxHeartbeats 20000000
theorem zas (s:ByteArray):ACall Tryz.prog 91 [ps s] (pb (XR s)):=by
 refine zf zk Tryz.func91 rfl (by kernel_rfl) Tryz.ntmps91 (by simp) _ rfl (fun hw gB hgB=>?_)
 have hl:=zlM hw.1
 have he:(s.toList==(⟨#[]⟩:ByteArray).toList)=decide (s.size=0):=by
  rw [ByteArray.toList_eq,ByteArray.toList_eq]
  have hs:s.size=s.data.toList.length:=by simp
  rw [hs]
  cases s.data.toList <;> simp
 have hfin:s.size≠0→s.size≤24→XR s=s.data.toList.all zk3:=fun a b=>by
  unfold XR;rw [decide_eq_true (by omega),decide_eq_true (by omega)];simp
 repeat' (first|refine sK ?_|refine sC (fun _=>?_) (fun _=>?_)|fail)
 all_goals first
  | (refine retq rfl ?_;simp_all [zl,XR];done)
  | (refine retq rfl ?_;simp_all [zl,XR];omega)
  | skip
 refine zI (fun k:Nat=>[(0,.pv (ps s)),(12,.pv (pi s.size)),(13,.pv (pi k))]) (fun _=>[]) (fun k=>k≤s.size∧XR s=(s.data.toList.drop k).all zk3) (fun k=>s.size - k) 0 ⟨by simp,by rw [hfin (by simp_all) (by simp_all <;> omega)];simp⟩ (tS) tH ?_
 rintro k ⟨hk,hr⟩
 by_cases hlt:k < s.size
 ·have hb:=zlL hlt
  rw [zev (by simpa using hlt)] at hr
  repeat' (first|(refine shI ?_;first|refine zy rfl (zjF zk rfl rfl rfl rfl (by omega) hb) rfl rfl ?_|refine AD.step _ _ _ _ _ rfl (zjF zk rfl rfl rfl rfl (by omega) hb) rfl rfl ?_)|refine sK ?_|refine sC (fun _=>?_) (fun _=>?_)|fail)
  all_goals first
   | exact ⟨k + 1,⟨by omega,by simp_all [zk3]⟩,tD,tS,tH⟩
   | (refine retq rfl ?_;simp_all [zl,zk3];done)
 ·rw [drop_end (by simp;omega)] at hr
  repeat' (first|refine sK ?_|refine sC (fun _=>?_) (fun _=>?_)|fail)
  all_goals (refine retq rfl ?_;simp_all [zl];done)
theorem zd7 (n x:Int):ACall Tryz.prog 90 [pi x,.ptr (pi n) 0] (pb (!zaK n x)):=by
 refine zf zk Tryz.func90 rfl (by kernel_rfl) Tryz.ntmps90 (by simp) _ rfl (fun hw gB hgB=>?_)
 repeat' (first|refine sA ?_|refine sC (fun _=>?_) (fun _=>?_)|fail)
 all_goals (refine retq rfl ?_;simp only [zl,List.cons.injEq,PV.base.injEq,Value.bool.injEq];rw [Bool.eq_iff_iff];simp_all [zaK] <;> omega)
theorem QF (l:List Int) (p:Int→Bool) (f:FuncId) (first cap:List PV) (hp:∀ x∈l,ACall Tryz.prog f (first++[pi x]++cap) (pb (p x))):ACall Tryz.prog 89 [ints l,.fn (.func f) first cap] (pb (l.any p)):=by
 refine zf zk Tryz.func89 rfl (by kernel_rfl) Tryz.ntmps89 (by simp) _ rfl (fun hw gB hgB=>?_)
 have c1:=VH l p f first cap hp
 repeat' (first|(refine shC ?_;first|refine qC c1 ?_)|refine sA ?_|refine sC (fun _=>?_) (fun _=>?_)|fail)
 refine retq rfl ?_
 have:decide (0≤zh5 l p)=l.any p:=by
  unfold zh5
  cases h:l.any p <;> simp
 simp [zl,this]
def zkt (l:List TD) (p:TD→Bool):Int:=if l.any p then ((l.findIdx p:Nat):Int) else -1
theorem zcR (l:List TD) (p:TD→Bool) (f:FuncId) (first cap:List PV) (hp:∀ x∈l,ACall Tryz.prog f (first++[ZE x]++cap) (pb (p x))):ACall Tryz.prog 100 [.slc 4 (l.map ZE) false,.fn (.func f) first cap] (pi (zkt l p)):=by
 refine zf zk Tryz.func100 rfl (by kernel_rfl) Tryz.ntmps100 (by simp) _ rfl (fun hw gB hgB=>?_)
 have hl:l.length≤9223372036854775807:=by have:=hw.1;simp [PV.lenOk,lensOk,maxLen] at this;exact this.1
 repeat' (first|refine sA ?_|refine sC (fun _=>?_) (fun _=>?_)|fail)
 refine zI (fun k:Nat=>[(0,.pv (.slc 4 (l.map ZE) false)),(1,.pv (.fn (.func f) first cap)),(7,.pv (pi l.length)),(8,.pv (pi k))]) (fun _=>[]) (fun k=>k≤l.length∧∀ j (h:j < k) (h2:j < l.length),p l[j]=false) (fun k=>l.length - k) 0 ⟨by omega,fun j h=>by omega⟩ (tS) tH ?_
 rintro k ⟨hk,hno⟩
 by_cases hlt:k < l.length
 ·have he:=qQ (f:=ZE) hlt
  have c1:=hp _ (List.getElem_mem hlt)
  cases hpx:p l[k]
  ·rw [hpx] at c1
   repeat' (first|(refine shC ?_;first|refine qV (c1) ?_)|(refine shX ?_;first|refine qX he ?_)|refine sK ?_|refine sC (fun _=>?_) (fun _=>?_)|fail)
   exact ⟨k + 1,⟨hlt,fun j hj h2=>by
    by_cases e:j=k
    ·subst e;exact hpx
    ·exact hno j (by omega) h2⟩,tD,tS,tH⟩
  ·rw [hpx] at c1
   have hi:l.findIdx p=k:=by
    rw [List.findIdx_eq hlt]
    exact ⟨hpx,fun j hj=>hno j hj (by omega)⟩
   have ha:l.any p=true:=List.any_eq_true.2 ⟨_,List.getElem_mem hlt,hpx⟩
   repeat' (first|(refine shC ?_;first|refine qV (c1) ?_)|(refine shX ?_;first|refine qX he ?_)|refine sK ?_|refine sC (fun _=>?_) (fun _=>?_)|fail)
   exact retq rfl (by simp [zl,zkt,ha,hi])
 ·have ha:l.any p=false:=by
   rw [List.any_eq_false]
   intro x hx
   obtain ⟨j,hj,rfl⟩:=List.getElem_of_mem hx
   simp [hno j (by omega) hj]
  repeat' (first|refine sK ?_|refine sC (fun _=>?_) (fun _=>?_)|fail)
  exact retq rfl (by simp [zl,zkt,ha])
theorem zaF (l:List TD) (p:TD→Bool) (f:FuncId) (first cap:List PV) (hp:∀ x∈l,ACall Tryz.prog f (first++[ZE x]++cap) (pb (p x))):ACall Tryz.prog 87 [.slc 4 (l.map ZE) false,.fn (.func f) first cap] (pb (l.any p)):=by
 refine zf zk Tryz.func87 rfl (by kernel_rfl) Tryz.ntmps87 (by simp) _ rfl (fun hw gB hgB=>?_)
 have c1:=zcR l p f first cap hp
 repeat' (first|(refine shC ?_;first|refine qC c1 ?_)|refine sA ?_|refine sC (fun _=>?_) (fun _=>?_)|fail)
 refine retq rfl ?_
 have:decide (0≤zkt l p)=l.any p:=by
  unfold zkt
  cases h:l.any p <;> simp
 simp [zl,this]
theorem zhR (t:TD) (n:Int):ACall Tryz.prog 88 [ZE t,.ptr (pi n) 0] (pb (!Zi t n)):=by
 refine zf zk Tryz.func88 rfl (by kernel_rfl) Tryz.ntmps88 (by simp) _ rfl (fun hw gB hgB=>?_)
 have c1:=QF t.faces (fun x=>!zaK n x) 90 [] [.ptr (pi n) 0] (fun x _=>zd7 n x)
 have ha:t.faces.any (fun x=>!zaK n x)=!t.faces.all (zaK n):=by rw [List.not_all_eq_any_not]
 rw [ha] at c1
 repeat' (first|(refine shC ?_;first|refine qC c1 ?_|refine qC (zas _) ?_)|refine sA ?_|refine sC (fun _=>?_) (fun _=>?_)|fail)
 all_goals first|(refine retq rfl ?_;first|(simp only [zl,Zi,BL,List.length_map] at *;simp only [*,BL,List.length_map];done)|(simp_all [zl,Zi];done)|(simp_all [zl,Zi];omega)|(simp_all [zl,Zi];intros;omega))|(refine retn rfl ?_;first|(simp only [zl,Zi,BL,List.length_map] at *;simp only [*,BL,List.length_map];done)|(simp_all [zl,Zi];done)|(simp_all [zl,Zi];omega)|(simp_all [zl,Zi];intros;omega))|skip
def YZ (g:Img):Bool:=decide ((g.types.length:Int)≤32)&&g.types.all (fun t=>Zi t g.types.length)
theorem zh7 (g:Img):ACall Tryz.prog 72 [zO g] (pb (YZ g)):=by
 refine zf zk Tryz.func72 rfl (by kernel_rfl) Tryz.ntmps72 (by simp) _ rfl (fun hw gB hgB=>?_)
 have c1:=zaF g.types (fun t=>!Zi t ((g.types.map ZE).length:Nat)) 88 [] [.ptr (pi ((g.types.map ZE).length:Nat)) 0] (fun x _=>zhR x _)
 rw [←List.not_all_eq_any_not] at c1
 repeat' (first|refine XF (t:=3) rfl rfl rfl ?_|(refine shC ?_;first|refine qC c1 ?_)|refine sA ?_|refine sC (fun _=>?_) (fun _=>?_)|fail)
 all_goals first|(refine retq rfl ?_;first|(simp only [zl,YZ,BL,List.length_map] at *;simp only [*,BL,List.length_map];done)|(simp_all [zl,YZ];done)|(simp_all [zl,YZ];omega)|(simp_all [zl,YZ];intros;omega))|(refine retn rfl ?_;first|(simp only [zl,YZ,BL,List.length_map] at *;simp only [*,BL,List.length_map];done)|(simp_all [zl,YZ];done)|(simp_all [zl,YZ];omega)|(simp_all [zl,YZ];intros;omega))|skip
set_option maxHeartbeats 20000000
def zaa (op:Int):ByteArray × Int × Int :=
 if op==62 then (⟨#[98,111,120]⟩,8,0)
 else if op==63 then (⟨#[117,110,98,111,120]⟩,8,0)
 else if op==64 then (⟨#[117,110,98,111,120,97,110,121]⟩,8,0)
 else if op==65 then (⟨#[99,97,115,116,99,108,97,115,115]⟩,8,0)
 else if op==66 then (⟨#[105,115,105,110,115,116]⟩,8,0)
 else if op==67 then (⟨#[108,100,102,116,110]⟩,6,0)
 else if op==68 then (⟨#[110,101,119,100,101,108]⟩,8,0)
 else if op==69 then (⟨#[116,104,114,111,119]⟩,0,3)
 else if op==70 then (⟨#[114,101,116,104,114,111,119]⟩,0,3)
 else if op==71 then (⟨#[108,101,97,118,101]⟩,5,4)
 else if op==72 then (⟨#[101,110,100,102,105,110,97,108,108,121]⟩,0,5)
 else if op==73 then (⟨#[101,110,100,102,105,108,116,101,114]⟩,0,5)
 else if op==74 then (⟨#[105,110]⟩,0,0)
 else if op==75 then (⟨#[111,117,116]⟩,0,0)
 else (⟨#[]⟩,0,0)
theorem zgg (op:Int):ACall Tryz.prog 173 [pi op] (zat (zaa op).1 (zaa op).2.1 (zaa op).2.2):=by
 refine zf zk Tryz.func173 rfl (by kernel_rfl) Tryz.ntmps173 (by simp) _ rfl (fun hw gB hgB=>?_)
 repeat' (first|refine sA ?_|refine sC (fun _=>?_) (fun _=>?_)|fail)
 all_goals (refine retq rfl ?_;simp only [zl,zaa, *];rfl)
def VO (op:Int):ByteArray × Int × Int :=
 if op==48 then (⟨#[108,100,102,108,100]⟩,7,0)
 else if op==49 then (⟨#[115,116,102,108,100]⟩,7,0)
 else if op==50 then (⟨#[108,100,102,108,100,97]⟩,7,0)
 else if op==51 then (⟨#[108,100,115,102,108,100]⟩,7,0)
 else if op==52 then (⟨#[115,116,115,102,108,100]⟩,7,0)
 else if op==53 then (⟨#[108,100,115,102,108,100,97]⟩,7,0)
 else if op==54 then (⟨#[108,100,111,98,106]⟩,8,0)
 else if op==55 then (⟨#[115,116,111,98,106]⟩,8,0)
 else if op==56 then (⟨#[105,110,105,116,111,98,106]⟩,8,0)
 else if op==57 then (⟨#[110,101,119,97,114,114]⟩,8,0)
 else if op==58 then (⟨#[108,100,108,101,110]⟩,0,0)
 else if op==59 then (⟨#[108,100,101,108,101,109]⟩,8,0)
 else if op==60 then (⟨#[115,116,101,108,101,109]⟩,8,0)
 else if op==61 then (⟨#[108,100,101,108,101,109,97]⟩,8,0)
 else zaa op
theorem zfD (op:Int):ACall Tryz.prog 172 [pi op] (zat (VO op).1 (VO op).2.1 (VO op).2.2):=by
 refine zf zk Tryz.func172 rfl (by kernel_rfl) Tryz.ntmps172 (by simp) _ rfl (fun hw gB hgB=>?_)
 repeat' (first|(refine shC ?_;first|refine qC (zgg op) ?_)|refine sA ?_|refine sC (fun _=>?_) (fun _=>?_)|fail)
 all_goals (refine retq rfl ?_;simp only [zl,VO, *];rfl)
def zbS (op:Int):ByteArray × Int × Int :=
 if op==34 then (⟨#[98,114]⟩,5,1)
 else if op==35 then (⟨#[98,114,116,114,117,101]⟩,5,2)
 else if op==36 then (⟨#[98,114,102,97,108,115,101]⟩,5,2)
 else if op==37 then (⟨#[98,101,113]⟩,5,2)
 else if op==38 then (⟨#[98,103,101]⟩,5,2)
 else if op==39 then (⟨#[98,103,116]⟩,5,2)
 else if op==40 then (⟨#[98,108,101]⟩,5,2)
 else if op==41 then (⟨#[98,108,116]⟩,5,2)
 else if op==42 then (⟨#[98,110,101]⟩,5,2)
 else if op==43 then (⟨#[99,97,108,108]⟩,6,0)
 else if op==44 then (⟨#[99,97,108,108,118,105,114,116]⟩,6,0)
 else if op==45 then (⟨#[110,101,119,111,98,106]⟩,6,0)
 else if op==46 then (⟨#[114,101,116]⟩,0,3)
 else if op==47 then (⟨#[116,97,105,108]⟩,0,0)
 else VO op
theorem zgU (op:Int):ACall Tryz.prog 171 [pi op] (zat (zbS op).1 (zbS op).2.1 (zbS op).2.2):=by
 refine zf zk Tryz.func171 rfl (by kernel_rfl) Tryz.ntmps171 (by simp) _ rfl (fun hw gB hgB=>?_)
 repeat' (first|(refine shC ?_;first|refine qC (zfD op) ?_)|refine sA ?_|refine sC (fun _=>?_) (fun _=>?_)|fail)
 all_goals (refine retq rfl ?_;simp only [zl,zbS, *];rfl)
def zfp (op:Int):ByteArray × Int × Int :=
 if op==13 then (⟨#[97,100,100]⟩,0,0)
 else if op==14 then (⟨#[115,117,98]⟩,0,0)
 else if op==15 then (⟨#[109,117,108]⟩,0,0)
 else if op==16 then (⟨#[100,105,118]⟩,0,0)
 else if op==17 then (⟨#[114,101,109]⟩,0,0)
 else if op==18 then (⟨#[97,110,100]⟩,0,0)
 else if op==19 then (⟨#[111,114]⟩,0,0)
 else if op==20 then (⟨#[120,111,114]⟩,0,0)
 else if op==21 then (⟨#[115,104,108]⟩,0,0)
 else if op==22 then (⟨#[115,104,114]⟩,0,0)
 else if op==23 then (⟨#[110,101,103]⟩,0,0)
 else if op==24 then (⟨#[110,111,116]⟩,0,0)
 else if op==25 then (⟨#[97,100,100,111,118,102]⟩,0,0)
 else if op==26 then (⟨#[115,117,98,111,118,102]⟩,0,0)
 else if op==27 then (⟨#[109,117,108,111,118,102]⟩,0,0)
 else if op==28 then (⟨#[99,111,110,118,52]⟩,0,0)
 else if op==29 then (⟨#[99,111,110,118,56]⟩,0,0)
 else if op==30 then (⟨#[99,111,110,118,111,118,102,52]⟩,0,0)
 else if op==31 then (⟨#[99,101,113]⟩,0,0)
 else if op==32 then (⟨#[99,103,116]⟩,0,0)
 else if op==33 then (⟨#[99,108,116]⟩,0,0)
 else zbS op
theorem ziA (op:Int):ACall Tryz.prog 163 [pi op] (zat (zfp op).1 (zfp op).2.1 (zfp op).2.2):=by
 refine zf zk Tryz.func163 rfl (by kernel_rfl) Tryz.ntmps163 (by simp) _ rfl (fun hw gB hgB=>?_)
 repeat' (first|(refine shC ?_;first|refine qC (zgU op) ?_)|refine sA ?_|refine sC (fun _=>?_) (fun _=>?_)|fail)
 all_goals (refine retq rfl ?_;simp only [zl,zfp, *];rfl)
def ofI (op:Int):ByteArray × Int × Int :=
 if op==1 then (⟨#[110,111,112]⟩,0,0)
 else if op==2 then (⟨#[108,100,97,114,103]⟩,4,0)
 else if op==3 then (⟨#[115,116,97,114,103]⟩,4,0)
 else if op==4 then (⟨#[108,100,97,114,103,97]⟩,4,0)
 else if op==5 then (⟨#[108,100,108,111,99]⟩,3,0)
 else if op==6 then (⟨#[115,116,108,111,99]⟩,3,0)
 else if op==7 then (⟨#[108,100,108,111,99,97]⟩,3,0)
 else if op==8 then (⟨#[108,100,99,52]⟩,1,0)
 else if op==9 then (⟨#[108,100,99,56]⟩,2,0)
 else if op==10 then (⟨#[108,100,110,117,108,108]⟩,0,0)
 else if op==11 then (⟨#[100,117,112]⟩,0,0)
 else if op==12 then (⟨#[112,111,112]⟩,0,0)
 else zfp op
theorem zgy (op:Int):ACall Tryz.prog 142 [pi op] (zat (ofI op).1 (ofI op).2.1 (ofI op).2.2):=by
 refine zf zk Tryz.func142 rfl (by kernel_rfl) Tryz.ntmps142 (by simp) _ rfl (fun hw gB hgB=>?_)
 repeat' (first|(refine shC ?_;first|refine qC (ziA op) ?_)|refine sA ?_|refine sC (fun _=>?_) (fun _=>?_)|fail)
 all_goals (refine retq rfl ?_;simp only [zl,ofI, *];rfl)
set_option maxHeartbeats 20000000
def zbH (t:Ty):Bool :=
 if t.kind==1 then t.index==0&&(t.dims==0&&(t.ref==false&&true))
 else if t.kind==2||t.kind==3||t.kind==4 then decide (0≤t.index)&&decide (t.index≤0)&&decide (0≤t.dims)&&decide (t.dims≤3)
 else if t.kind==5||t.kind==6 then decide (0≤t.index)&&decide (t.index≤31)&&decide (0≤t.dims)&&decide (t.dims≤3)
 else if t.kind==7 then decide (0≤t.index)&&decide (t.index≤7)&&decide (0≤t.dims)&&decide (t.dims≤3)
 else false
theorem ze4 (t:Ty):zbH t=Yy t:=by
 rw [Bool.eq_iff_iff,zbH,Yy]
 by_cases h1:t.kind=1
 ·cases hr:t.ref <;> simp [h1] <;> omega
 ·by_cases h2:t.kind=2
  ·simp [h2];omega
  ·by_cases h3:t.kind=3
   ·simp [h3];omega
   ·by_cases h4:t.kind=4
    ·simp [h4];omega
    ·by_cases h5:t.kind=5
     ·simp [h5];omega
     ·by_cases h6:t.kind=6
      ·simp [h6];omega
      ·by_cases h7:t.kind=7
       ·simp [h7];omega
       ·simp [h1,h2,h3,h4,h5,h6,h7]
theorem zcF (t:Ty):ACall Tryz.prog 68 [yZ t] (pb (zbH t)):=by
 refine zf zk Tryz.func68 rfl (by kernel_rfl) Tryz.ntmps68 (by simp) _ rfl (fun hw gB hgB=>?_)
 repeat' (first|refine sA ?_|refine sC (fun _=>?_) (fun _=>?_)|fail)
 all_goals first|(refine retq rfl ?_;first|(simp only [zl,zbH, *];done)|(simp only [zl,zbH, *];rfl)|(simp_all [zl,zbH];done))|(trace "LEFT";trace_state)
theorem Xq (t:Ty):ACall Tryz.prog 56 [yZ t] (pb (Yy t)):=by
 refine zf zk Tryz.func56 rfl (by kernel_rfl) Tryz.ntmps56 (by simp) _ rfl (fun hw gB hgB=>?_)
 have c1:=zcF t
 rw [ze4] at c1
 repeat' (first|(refine shC ?_;first|refine qC c1 ?_)|refine sA ?_|refine sC (fun _=>?_) (fun _=>?_)|fail)
 exact retq rfl rfl
theorem zgZ (t:Ty):ACall Tryz.prog 137 [yZ t] (pb (Zw t 2)):=by
 refine zf zk Tryz.func137 rfl (by kernel_rfl) Tryz.ntmps137 (by simp) _ rfl (fun hw gB hgB=>?_)
 have c1:=zcF t
 rw [ze4] at c1
 repeat' (first|(refine shC ?_;first|refine qC c1 ?_)|refine sA ?_|refine sC (fun _=>?_) (fun _=>?_)|fail)
 all_goals (refine retq rfl ?_;simp_all [zl,Zw];done)
theorem zcL (t:Ty):ACall Tryz.prog 117 [yZ t] (pb (Zw t 1)):=by
 refine zf zk Tryz.func117 rfl (by kernel_rfl) Tryz.ntmps117 (by simp) _ rfl (fun hw gB hgB=>?_)
 have c1:=zgZ t
 have e:(Zw t 2&&!t.ref)=Zw t 1:=by
  simp only [Zw];cases Yy t <;> simp
 repeat' (first|(refine shC ?_;first|refine qC c1 ?_)|refine sA ?_|refine sC (fun _=>?_) (fun _=>?_)|fail)
 all_goals (refine retq rfl ?_;rw [←e];simp_all [zl];done)
theorem XQ (t:Ty) (n:Int):ACall Tryz.prog 103 [yZ t,pi n] (pb (zjP t n)):=by
 refine zf zk Tryz.func103 rfl (by kernel_rfl) Tryz.ntmps103 (by simp) _ rfl (fun hw gB hgB=>?_)
 repeat' (first|refine sA ?_|refine sC (fun _=>?_) (fun _=>?_)|fail)
 all_goals (first|refine retq rfl ?_|refine retn rfl ?_)
 all_goals (first|(simp_all [zl,zjP];done)|(simp_all [zl,zjP];omega))
theorem zgu (t:Ty) (n:Int):ACall Tryz.prog 105 [yZ t,pi n] (pb (Qv t 2 n)):=by
 refine zf zk Tryz.func105 rfl (by kernel_rfl) Tryz.ntmps105 (by simp) _ rfl (fun hw gB hgB=>?_)
 repeat' (first|(refine shC ?_;first|refine qC (Xq t) ?_|refine qC (XQ t n) ?_)|refine sA ?_|refine sC (fun _=>?_) (fun _=>?_)|fail)
 all_goals (refine retq rfl ?_;simp_all [zl,Qv,Zw];done)
theorem zfR (t:Ty) (n:Int):ACall Tryz.prog 106 [yZ t,pi n] (pb (Qv t 3 n)):=by
 refine zf zk Tryz.func106 rfl (by kernel_rfl) Tryz.ntmps106 (by simp) _ rfl (fun hw gB hgB=>?_)
 repeat' (first|(refine shC ?_;first|refine qC (Xq t) ?_|refine qC (XQ t n) ?_)|refine sA ?_|refine sC (fun _=>?_) (fun _=>?_)|fail)
 all_goals (refine retq rfl ?_;simp_all [zl,Qv,Zw];done)
set_option maxHeartbeats 20000000
theorem ziV (op:Int) (h1:1≤op) (h2:op≤75):(ofI op).1.size≠0∧(ofI op).2.1=yG op:=by
 have h:∀ n:Fin 76,1≤n.val→(ofI (n.val:Int)).1.size≠0∧(ofI (n.val:Int)).2.1=yG (n.val:Int):=by decide +kernel
 have:=h ⟨op.toNat,by omega⟩ (by simp;omega)
 simpa [Int.toNat_of_nonneg (show 0≤op by omega)] using this
theorem zlU (op:Int) (h:op < 1∨75 < op):ofI op=(⟨#[]⟩,0,0):=by
 have e:∀ k:Int,1≤k→k≤75→(op==k)=false:=fun k h1 h2=>by rw [beq_eq_false_iff_ne];omega
 simp [ofI,zfp,zbS,VO,zaa,e]
theorem zjJ (s:ByteArray):(s.toList==(⟨#[]⟩:ByteArray).toList)=decide (s.size=0):=by
 rw [ByteArray.toList_eq,ByteArray.toList_eq]
 have hs:s.size=s.data.toList.length:=by simp
 rw [hs]
 cases s.data.toList <;> simp
theorem zhh (op:Int) (h1:1≤op) (h2:op≤75):ACall Tryz.prog 122 [pi op] (.tup [zat (ofI op).1 (ofI op).2.1 (ofI op).2.2,pi 0]):=by
 refine zf zk Tryz.func122 rfl (by kernel_rfl) Tryz.ntmps122 (by simp) _ rfl (fun hw gB hgB=>?_)
 have c1:=zgy op
 have hn:=(ziV op h1 h2).1
 generalize ofI op=x at c1 hn
 have he:(x.1.toList==(⟨#[]⟩:ByteArray).toList)=false:=by rw [zjJ];simp [hn]
 repeat' (first|(refine shC ?_;first|refine qC c1 ?_)|refine sK ?_|refine sC (fun _=>?_) (fun _=>?_)|fail)
 all_goals exact retq rfl rfl
theorem zgO (op:Int) (h:op < 1∨75 < op):ACall Tryz.prog 122 [pi op] (.tup [zat ⟨#[]⟩ 0 0,pi 3]):=by
 refine zf zk Tryz.func122 rfl (by kernel_rfl) Tryz.ntmps122 (by simp) _ rfl (fun hw gB hgB=>?_)
 have c1:=zgy op
 rw [zlU op h] at c1
 have he:((⟨#[]⟩:ByteArray).toList==(⟨#[]⟩:ByteArray).toList)=true:=by simp
 repeat' (first|(refine shC ?_;first|refine qC c1 ?_)|refine sK ?_|refine sC (fun _=>?_) (fun _=>?_)|fail)
 all_goals exact retq rfl rfl
theorem zhc (x b:Int):ACall Tryz.prog 162 [.base (.int .i64 x),.base (.int .i64 b)] (pb (decide (0≤x)&&decide (x < b))):=by
 refine zf zk Tryz.func162 rfl (by kernel_rfl) Tryz.ntmps162 (by simp) _ rfl (fun hw gB hgB=>?_)
 repeat' (first|refine sA ?_|refine sC (fun _=>?_) (fun _=>?_)|fail)
 all_goals (refine retq rfl ?_;first|(simp_all [zl];done)|(simp_all [zl];omega))
def zep (x:Ins) (k:Int):Bool :=
 if k==0 then zbb x.t&&x.arg==0
 else if k==1 then zbb x.t&&decide (-2147483648≤x.arg)&&decide (x.arg < 2147483648)
 else if k==2 then zbb x.t
 else if k==3 then zbb x.t&&(decide (0≤x.arg)&&decide (x.arg < 12))
 else if k==4 then zbb x.t&&(decide (0≤x.arg)&&decide (x.arg < 7))
 else if k==5 then zbb x.t&&(decide (0≤x.arg)&&decide (x.arg < 160))
 else if k==6 then zbb x.t&&(decide (0≤x.arg)&&decide (x.arg < 64))
 else if k==7 then zbb x.t&&(decide (0≤x.arg)&&decide (x.arg < 64))
 else x.arg==0&&Yy x.t&&x.t.kind != 1&&!x.t.ref
theorem zh4 (x:Ins) (k:Int):ACall Tryz.prog 141 [YU x,pi k] (pb (zep x k)):=by
 refine zf zk Tryz.func141 rfl (by kernel_rfl) Tryz.ntmps141 (by simp) _ rfl (fun hw gB hgB=>?_)
 repeat' (first|(refine shC ?_;first|refine qC (zhc _ _) ?_|refine qC (Xq _) ?_)|refine sA ?_|refine sC (fun _=>?_) (fun _=>?_)|fail)
 all_goals first|(refine retq rfl ?_;first|(simp only [zl,zep,zbb, *];done)|(simp only [zl,zep,zbb, *];rfl)|(simp_all [zl,zep,zbb];done))|(trace "LEFT";trace_state)
set_option maxHeartbeats 20000000
def zen (x:Ins):Int:=if x.op < 1∨75 < x.op then 3 else if zep x (yG x.op) then 0 else 17
theorem ziG (x:Ins):ACall Tryz.prog 121 [YU x] (pi (zen x)):=by
 refine zf zk Tryz.func121 rfl (by kernel_rfl) Tryz.ntmps121 (by simp) _ rfl (fun hw gB hgB=>?_)
 by_cases hop:x.op < 1∨75 < x.op
 ·have c1:=zgO x.op hop
  repeat' (first|(refine shC ?_;first|refine qC c1 ?_)|refine sK ?_|refine sC (fun _=>?_) (fun _=>?_)|fail)
  all_goals exact retq rfl (by simp [zl,zen,hop])
 ·have c1:=zhh x.op (by omega) (by omega)
  rw [(ziV x.op (by omega) (by omega)).2] at c1
  repeat' (first|(refine shC ?_;first|refine qC c1 ?_|refine qC (zh4 _ _) ?_)|refine sA ?_|refine sC (fun _=>?_) (fun _=>?_)|fail)
  all_goals (refine retq rfl ?_;simp_all [zl,zen];done)
theorem zcU (op:Int) (h1:1≤op) (h2:op≤75):0≤yG op∧yG op≤8:=by
 have h:∀ n:Fin 76,1≤n.val→0≤yG (n.val:Int)∧yG (n.val:Int)≤8:=by decide +kernel
 have:=h ⟨op.toNat,by omega⟩ (by simp;omega)
 simpa [Int.toNat_of_nonneg (show 0≤op by omega)] using this
def za9 (x:Ins):Prop := -9223372036854775808≤x.arg∧x.arg≤9223372036854775807
theorem zhE (t:Ty):zbb t=decide (t=ty0):=zd8 t ty0
theorem zkc (x:Ins) (hx:za9 x):zen x=zaL x:=by
 unfold zen zaL
 obtain ⟨hx1,hx2⟩:=hx
 by_cases hop:x.op < 1∨75 < x.op
 ·rw [if_pos hop,if_pos hop]
 ·rw [if_neg hop,if_neg hop]
  obtain ⟨r1,r2⟩:=zcU x.op (by omega) (by omega)
  generalize yG x.op=k at r1 r2
  have hk:k=0∨k=1∨k=2∨k=3∨k=4∨k=5∨k=6∨k=7∨k=8:=by omega
  by_cases ht:x.t=ty0
  ·rcases hk with rfl|rfl|rfl|rfl|rfl|rfl|rfl|rfl|rfl <;> simp only [zep,zfL,zhE,ht] <;> simp [ty0,Yy,Zw] <;> (first|omega|(split <;> split <;> first|rfl|omega))
  ·rcases hk with rfl|rfl|rfl|rfl|rfl|rfl|rfl|rfl|rfl <;> simp only [zep,zfL,zhE,ht] <;> simp [ht,Zw] <;> (first|omega|(by_cases ha:x.arg=0 <;> cases hp:Yy x.t <;> by_cases hk1:x.t.kind=1 <;> cases hr:x.t.ref <;> simp_all <;> omega))
theorem zib (x:Ins) (g:Img) (m:Me) (hx:za9 x):ACall Tryz.prog 110 [YU x,zO g,pi m.code.length] (pb (codeOk g m x)):=by
 refine zf zk Tryz.func110 rfl (by kernel_rfl) Tryz.ntmps110 (by simp) _ rfl (fun hw gB hgB=>?_)
 have c0:=ziG x
 rw [zkc x hx] at c0
 by_cases hf:zaL x=0
 ·have hop:¬ (x.op < 1∨75 < x.op):=by
   intro h;rw [zaL,if_pos h] at hf;simp at hf
  have c1:=zhh x.op (by omega) (by omega)
  rw [(ziV x.op (by omega) (by omega)).2] at c1
  rw [hf] at c0
  have hown:yG x.op≠8→x.t=ty0:=by
   intro h8
   rw [zaL,if_neg hop] at hf
   split at hf
   ·simp at hf
   ·split at hf
    ·simp at hf
    ·rename_i h;exact Classical.byContradiction fun h9=>h ⟨h8,h9⟩
  repeat' (first|(refine shC ?_;first|refine qC c0 ?_|refine qC c1 ?_|refine qC (XQ _ _) ?_)|refine sA ?_|refine sC (fun _=>?_) (fun _=>?_)|fail)
  all_goals (refine retq rfl ?_)
  all_goals simp only [zl,List.length_map,codeOk,hf, *]
  ·rfl
  ·rfl
  ·rfl
  ·by_cases h8:yG x.op=8
   ·simp [h8]
   ·simp [h8,hown h8,zjP,ty0]
 ·have hfb:(zaL x != 0)=true:=by simp [hf]
  repeat' (first|(refine shC ?_;first|refine qC c0 ?_)|refine sK ?_|refine sC (fun _=>?_) (fun _=>?_)|fail)
  all_goals exact retq rfl (by simp [zl,codeOk,hf])
set_option maxHeartbeats 20000000
structure Pt where
 c:Int
 p:Int
 f:Int
 t:Int
 deriving Inhabited
def Zp (x:Pt):PV:=.agg [pi x.c,pi x.p,pi x.f,pi x.t]
def zkF (f t:Int):PV:=.agg [pi f,pi t]
def pts (l:List Pt):PV:=.slc 4 (l.map Zp) false
def zQ (k:Int) (c:Cl):List Pt:=[⟨k,1,c.tf,c.tt⟩,⟨k,2,c.hf,c.ht⟩]++(if c.kind==2 then [⟨k,3,c.filter,c.hf⟩] else [])
theorem zbj (f t n:Int):ACall Tryz.prog 143 [zkF f t,pi n] (pb (decide (0≤f)&&decide (f < t)&&decide (t≤n))):=by
 refine zf zk Tryz.func143 rfl (by kernel_rfl) Tryz.ntmps143 (by simp) _ rfl (fun hw gB hgB=>?_)
 repeat' (first|refine sA ?_|refine sC (fun _=>?_) (fun _=>?_)|fail)
 all_goals first|(refine retq rfl ?_;first|(simp only [zl,BL,List.length_map] at *;simp only [*,BL,List.length_map];done)|(simp_all [zl];done)|(simp_all [zl];omega)|(simp_all [zl];intros;omega))|(refine retn rfl ?_;first|(simp only [zl,BL,List.length_map] at *;simp only [*,BL,List.length_map];done)|(simp_all [zl];done)|(simp_all [zl];omega)|(simp_all [zl];intros;omega))|skip
def ZI (a b:Pt):Bool:=!(a.f==b.f&&(a.t==b.t&&true))&&decide (b.f≤a.f)&&decide (a.t≤b.t)
theorem zgh (a b:Pt):ACall Tryz.prog 149 [zkF a.f a.t,zkF b.f b.t] (pb (ZI a b)):=by
 refine zf zk Tryz.func149 rfl (by kernel_rfl) Tryz.ntmps149 (by simp) _ rfl (fun hw gB hgB=>?_)
 repeat' (first|refine sA ?_|refine sC (fun _=>?_) (fun _=>?_)|fail)
 all_goals (refine retq rfl ?_;first|(simp only [zl,ZI, *];done)|(simp only [zl,ZI, *];rfl)|(simp_all [zl,ZI];done))
def qI (a b:Pt):Bool:=decide (a.f < b.t)&&decide (b.f < a.t)
theorem zhw (a b:Pt):ACall Tryz.prog 166 [zkF a.f a.t,zkF b.f b.t] (pb (qI a b)):=by
 refine zf zk Tryz.func166 rfl (by kernel_rfl) Tryz.ntmps166 (by simp) _ rfl (fun hw gB hgB=>?_)
 repeat' (first|refine sA ?_|refine sC (fun _=>?_) (fun _=>?_)|fail)
 all_goals (refine retq rfl ?_;first|(simp only [zl,qI, *];done)|(simp only [zl,qI, *];rfl)|(simp_all [zl,qI];done))
def zkI (l:List Pt) (p:Pt→Bool):Int:=if l.any p then ((l.findIdx p:Nat):Int) else -1
theorem zcM (l:List Pt) (p:Pt→Bool) (f:FuncId) (first cap:List PV) (hp:∀ x∈l,ACall Tryz.prog f (first++[Zp x]++cap) (pb (p x))):ACall Tryz.prog 167 [pts l,.fn (.func f) first cap] (pi (zkI l p)):=by
 refine zf zk Tryz.func167 rfl (by kernel_rfl) Tryz.ntmps167 (by simp) _ rfl (fun hw gB hgB=>?_)
 have hl:l.length≤9223372036854775807:=by have:=hw.1;simp [pts,PV.lenOk,maxLen] at this;exact this.1
 repeat' (first|refine sA ?_|refine sC (fun _=>?_) (fun _=>?_)|fail)
 refine zI (fun k:Nat=>[(0,.pv (pts l)),(1,.pv (.fn (.func f) first cap)),(7,.pv (pi l.length)),(8,.pv (pi k))]) (fun _=>[]) (fun k=>k≤l.length∧∀ j (h:j < k) (h2:j < l.length),p l[j]=false) (fun k=>l.length - k) 0 ⟨by omega,fun j h=>by omega⟩ (tS) tH ?_
 rintro k ⟨hk,hno⟩
 by_cases hlt:k < l.length
 ·have he:=qQ (f:=Zp) hlt
  have c1:=hp _ (List.getElem_mem hlt)
  cases hpx:p l[k]
  ·rw [hpx] at c1
   repeat' (first|(refine shC ?_;first|refine qV (c1) ?_)|(refine shX ?_;first|refine qX he ?_)|refine sK ?_|refine sC (fun _=>?_) (fun _=>?_)|fail)
   exact ⟨k + 1,⟨hlt,fun j hj h2=>by
    by_cases e:j=k
    ·subst e;exact hpx
    ·exact hno j (by omega) h2⟩,tD,tS,tH⟩
  ·rw [hpx] at c1
   have hi:l.findIdx p=k:=by
    rw [List.findIdx_eq hlt]
    exact ⟨hpx,fun j hj=>hno j hj (by omega)⟩
   have ha:l.any p=true:=List.any_eq_true.2 ⟨_,List.getElem_mem hlt,hpx⟩
   repeat' (first|(refine shC ?_;first|refine qV (c1) ?_)|(refine shX ?_;first|refine qX he ?_)|refine sK ?_|refine sC (fun _=>?_) (fun _=>?_)|fail)
   exact retq rfl (by simp [zl,zkI,ha,hi])
 ·have ha:l.any p=false:=by
   rw [List.any_eq_false]
   intro x hx
   obtain ⟨j,hj,rfl⟩:=List.getElem_of_mem hx
   simp [hno j (by omega) hj]
  repeat' (first|refine sK ?_|refine sC (fun _=>?_) (fun _=>?_)|fail)
  exact retq rfl (by simp [zl,zkI,ha])
theorem Zn (l:List Pt) (p:Pt→Bool) (f:FuncId) (first cap:List PV) (hp:∀ x∈l,ACall Tryz.prog f (first++[Zp x]++cap) (pb (p x))):ACall Tryz.prog 147 [pts l,.fn (.func f) first cap] (pb (l.any p)):=by
 refine zf zk Tryz.func147 rfl (by kernel_rfl) Tryz.ntmps147 (by simp) _ rfl (fun hw gB hgB=>?_)
 have c1:=zcM l p f first cap hp
 repeat' (first|(refine shC ?_;first|refine qC c1 ?_)|refine sA ?_|refine sC (fun _=>?_) (fun _=>?_)|fail)
 refine retq rfl ?_
 have:decide (0≤zkI l p)=l.any p:=by
  unfold zkI
  cases h:l.any p <;> simp
 simp [zl,this]
theorem zgm (a b:Pt) (may:Pt→Pt→Bool) (mf:FuncId) (hm:∀ x y,ACall Tryz.prog mf [Zp x,Zp y] (pb (may x y))):ACall Tryz.prog 165 [Zp b,.ptr (Zp a) 0,.ptr (.fn (.func mf) [] []) 0] (pb (qI a b&&!may a b)):=by
 refine zf zk Tryz.func165 rfl (by kernel_rfl) Tryz.ntmps165 (by simp) _ rfl (fun hw gB hgB=>?_)
 repeat' (first|(refine shC ?_;first|refine qC (zhw a b) ?_|refine qV (hm a b) ?_)|refine sA ?_|refine sC (fun _=>?_) (fun _=>?_)|fail)
 all_goals (refine retq rfl ?_;simp_all [zl];done)
theorem zh2 (a:Pt) (m:List Pt) (may:Pt→Pt→Bool) (mf:FuncId) (hm:∀ x y,ACall Tryz.prog mf [Zp x,Zp y] (pb (may x y))):ACall Tryz.prog 164 [Zp a,.ptr (pts m) 0,.ptr (.fn (.func mf) [] []) 0] (pb (m.any fun b=>qI a b&&!may a b)):=by
 refine zf zk Tryz.func164 rfl (by kernel_rfl) Tryz.ntmps164 (by simp) _ rfl (fun hw gB hgB=>?_)
 have c1:=Zn m (fun b=>qI a b&&!may a b) 165 [] [.ptr (Zp a) 0,.ptr (.fn (.func mf) [] []) 0] (fun b _=>zgm a b may mf hm)
 repeat' (first|(refine shC ?_;first|refine qC c1 ?_)|refine sA ?_|refine sC (fun _=>?_) (fun _=>?_)|fail)
 exact retq rfl rfl
def Vq (l m:List Pt) (may:Pt→Pt→Bool):Bool:=l.any fun a=>m.any fun b=>qI a b&&!may a b
theorem zaJ (l m:List Pt) (may:Pt→Pt→Bool) (mf:FuncId) (hm:∀ x y,ACall Tryz.prog mf [Zp x,Zp y] (pb (may x y))):ACall Tryz.prog 144 [pts l,pts m,.fn (.func mf) [] []] (pb (Vq l m may)):=by
 refine zf zk Tryz.func144 rfl (by kernel_rfl) Tryz.ntmps144 (by simp) _ rfl (fun hw gB hgB=>?_)
 have c1:=Zn l (fun a=>m.any fun b=>qI a b&&!may a b) 164 [] [.ptr (pts m) 0,.ptr (.fn (.func mf) [] []) 0] (fun a _=>zh2 a m may mf hm)
 repeat' (first|(refine shC ?_;first|refine qC c1 ?_)|refine sA ?_|refine sC (fun _=>?_) (fun _=>?_)|fail)
 exact retq rfl rfl
theorem Vb (k:Int) (c:Cl):ACall Tryz.prog 145 [pi k,QY c] (pts (zQ k c)):=by
 refine zf zk Tryz.func145 rfl (by kernel_rfl) Tryz.ntmps145 (by simp) _ rfl (fun hw gB hgB=>?_)
 rcases Bool.eq_false_or_eq_true (c.kind==2) with hk|hk
 ·have e:pts (zQ k c)=.slc 4 [Zp ⟨k,1,c.tf,c.tt⟩,Zp ⟨k,2,c.hf,c.ht⟩,Zp ⟨k,3,c.filter,c.hf⟩] false:=by simp [pts,zQ,hk]
  repeat' (first|(refine yC ?_;first|refine zy rfl (zbt zk rfl rfl (.inl rfl) rfl rfl (by show _ * 32≤_;simp) (by simp)) rfl rfl ?_)|refine sK ?_|refine sC (fun _=>?_) (fun _=>?_)|fail)
  exact retq rfl (by rw [e];rfl)
 ·have e:pts (zQ k c)=.slc 4 [Zp ⟨k,1,c.tf,c.tt⟩,Zp ⟨k,2,c.hf,c.ht⟩] false:=by simp [pts,zQ,hk]
  repeat' (first|refine sK ?_|refine sC (fun _=>?_) (fun _=>?_)|fail)
  exact Wq (t:=4) (a:=.pv (.slc 4 [Zp ⟨k,1,c.tf,c.tt⟩,Zp ⟨k,2,c.hf,c.ht⟩] true)) (b:=.pv (pts (zQ k c))) (ps:=[pts (zQ k c)]) rfl (by rw [e];exact YC 4 _ true) rfl rfl
theorem zh1 (a b:Pt):ACall Tryz.prog 146 [Zp a,Zp b] (pb (a.c==b.c&&(a.p==b.p&&true))):=by
 refine zf zk Tryz.func146 rfl (by kernel_rfl) Tryz.ntmps146 (by simp) _ rfl (fun hw gB hgB=>?_)
 repeat' (first|refine sA ?_|refine sC (fun _=>?_) (fun _=>?_)|fail)
 exact retq rfl rfl
theorem ziM (y x:Pt):ACall Tryz.prog 148 [Zp y,.ptr (Zp x) 0] (pb (!ZI y x)):=by
 refine zf zk Tryz.func148 rfl (by kernel_rfl) Tryz.ntmps148 (by simp) _ rfl (fun hw gB hgB=>?_)
 repeat' (first|(refine shC ?_;first|refine qC (zgh y x) ?_)|refine sA ?_|refine sC (fun _=>?_) (fun _=>?_)|fail)
 exact retq rfl rfl
theorem ziv (y x:Pt):ACall Tryz.prog 150 [Zp y,.ptr (Zp x) 0] (pb (y.p != 1&&y.f==x.f)):=by
 refine zf zk Tryz.func150 rfl (by kernel_rfl) Tryz.ntmps150 (by simp) _ rfl (fun hw gB hgB=>?_)
 repeat' (first|refine sA ?_|refine sC (fun _=>?_) (fun _=>?_)|fail)
 all_goals (refine retq rfl ?_;simp_all [zl];done)
theorem ziq (x y:Pt):ACall Tryz.prog 151 [Zp x,Zp y] (pb (x.p==1&&y.p==1)):=by
 refine zf zk Tryz.func151 rfl (by kernel_rfl) Tryz.ntmps151 (by simp) _ rfl (fun hw gB hgB=>?_)
 repeat' (first|refine sA ?_|refine sC (fun _=>?_) (fun _=>?_)|fail)
 all_goals (refine retq rfl ?_;simp_all [zl];done)
theorem zh8 (x y:Pt):ACall Tryz.prog 152 [Zp x,Zp y] (pb false):=by
 refine zf zk Tryz.func152 rfl (by kernel_rfl) Tryz.ntmps152 (by simp) _ rfl (fun hw gB hgB=>?_)
 repeat' (first|refine sA ?_|refine sC (fun _=>?_) (fun _=>?_)|fail)
 exact retq rfl rfl
def zkH (a b:Pt):Bool:=a.c==b.c&&(a.p==b.p&&true)
def zkX (x y:Pt):Bool:=x.p==1&&y.p==1
def WB (n:Int) (c:Cl):Int :=
 if decide (c.kind < 1)||decide (4 < c.kind)||!zdA n c||!zef n c then 3
 else if c.kind==2&&(decide (c.filter < 0)||decide (c.hf≤c.filter))||c.kind != 2&&c.filter != -1 then 3
 else if Vq (zQ 0 c) (zQ 0 c) zkH then 12
 else 0
set_option maxHeartbeats 4000000 in
theorem zhp (n:Int) (c:Cl):ACall Tryz.prog 124 [pi n,QY c] (pi (WB n c)):=by
 refine zf zk Tryz.func124 rfl (by kernel_rfl) Tryz.ntmps124 (by simp) _ rfl (fun hw gB hgB=>?_)
 have c1:=zbj c.tf c.tt n
 have c2:=zbj c.hf c.ht n
 have c3:=zaJ (zQ 0 c) (zQ 0 c) zkH 146 zh1
 have e1:(decide (0≤c.tf)&&decide (c.tf < c.tt)&&decide (c.tt≤n))=zdA n c:=rfl
 have e2:(decide (0≤c.hf)&&decide (c.hf < c.ht)&&decide (c.ht≤n))=zef n c:=rfl
 rw [e1] at c1
 rw [e2] at c2
 repeat' (first|(refine shC ?_;first|refine qC c1 ?_|refine qC c2 ?_|refine qC (Vb 0 c) ?_|refine qC c3 ?_)|refine sA ?_|refine sC (fun _=>?_) (fun _=>?_)|fail)
 all_goals (refine retq rfl ?_;first|(simp only [zl,WB, *];done)|(simp only [zl,WB, *];rfl)|(simp_all [zl,WB];done)|(simp_all [zl,WB];omega))
def YR (a:Cl) (x:Pt):Bool:=!((zQ 0 a).any fun y=>!ZI y x)
def zbq (a:Cl) (x:Pt):Bool:=(zQ 0 a).any fun y=>y.p != 1&&y.f==x.f
def zcZ (a b:Cl):Bool :=
 if a.tf==b.tf&&(a.tt==b.tt&&true) then !Vq (zQ 0 a) (zQ 1 b) zkX else !Vq (zQ 0 a) (zQ 1 b) (fun _ _=>false)
def zau (a b:Cl):List Pt→Bool
 | []=>zcZ a b
 | x::l=>if YR a x then x.p==1||!zbq a x else zau a b l
def zdO (a b:Cl):Bool:=zau a b (zQ 1 b)
set_option maxHeartbeats 2000000 in
theorem zin (a b:Cl):ACall Tryz.prog 125 [QY a,QY b] (pb (zdO a b)):=by
 refine zf zk Tryz.func125 rfl (by kernel_rfl) Tryz.ntmps125 (by simp) _ rfl (fun hw gB hgB=>?_)
 have hlen:(zQ 1 b).length≤3:=by unfold zQ;split <;> simp
 have h0a:((zQ 0 a).map Zp)[(0:Int).toNat]?=some (Zp ⟨0,1,a.tf,a.tt⟩):=by simp [zQ]
 have h0b:((zQ 1 b).map Zp)[(0:Int).toNat]?=some (Zp ⟨1,1,b.tf,b.tt⟩):=by simp [zQ]
 have ce:=zaJ (zQ 0 a) (zQ 1 b) zkX 151 ziq
 have cf:=zaJ (zQ 0 a) (zQ 1 b) (fun _ _=>false) 152 zh8
 repeat' (first|(refine shC ?_;first|refine qC (Vb 0 a) ?_|refine qC (Vb 1 b) ?_)|refine sA ?_|refine sC (fun _=>?_) (fun _=>?_)|fail)
 refine zI (fun k:Nat=>[(5,.pv (pts (zQ 0 a))),(6,.pv (pts (zQ 1 b))),(14,.pv (pts (zQ 1 b))),(15,.pv (pi (zQ 1 b).length)),(16,.pv (pi k))]) (fun _=>[]) (fun k=>k≤(zQ 1 b).length∧zdO a b=zau a b ((zQ 1 b).drop k)) (fun k=>(zQ 1 b).length - k) 0 ⟨by omega,rfl⟩ (tS) tH ?_
 rintro k ⟨hk,hr⟩
 by_cases hlt:k < (zQ 1 b).length
 ·have he:=qQ (f:=Zp) hlt
  rw [drop_cons hlt,zau] at hr
  generalize (zQ 1 b)[k]=x at he hr
  have c1:=Zn (zQ 0 a) (fun y=>!ZI y x) 148 [] [.ptr (Zp x) 0] (fun y _=>ziM y x)
  have c2:=Zn (zQ 0 a) (fun y=>y.p != 1&&y.f==x.f) 150 [] [.ptr (Zp x) 0] (fun y _=>ziv y x)
  cases ha:(zQ 0 a).any fun y=>!ZI y x
  ·rw [ha] at c1
   rw [show YR a x=true by rw [YR,ha];rfl,if_pos rfl] at hr
   repeat' (first|refine XF (t:=8) rfl rfl rfl ?_|(refine shC ?_;first|refine qC c1 ?_|refine qC c2 ?_)|(refine shX ?_;first|refine qX he ?_)|refine sK ?_|refine sC (fun _=>?_) (fun _=>?_)|fail)
   all_goals (refine retq rfl ?_;rw [hr];simp_all [zl,zbq];done)
  ·rw [ha] at c1
   rw [show YR a x=false by rw [YR,ha];rfl,if_neg (by simp)] at hr
   repeat' (first|refine XF (t:=8) rfl rfl rfl ?_|(refine shC ?_;first|refine qC c1 ?_)|(refine shX ?_;first|refine qX he ?_)|refine sK ?_|refine sC (fun _=>?_) (fun _=>?_)|fail)
   exact ⟨k + 1,⟨hlt,hr⟩,tD,tS,tH⟩
 ·rw [drop_end (by omega),zau,zcZ] at hr
  repeat' (first|(refine shC ?_;first|refine qC ce ?_|refine qC cf ?_)|(refine shX ?_;first|refine qX h0a ?_|refine qX h0b ?_)|refine sK ?_|refine sC (fun _=>?_) (fun _=>?_)|fail)
  all_goals (refine retq rfl ?_;rw [hr];simp_all [zl];done)
structure OkC (c:Cl):Prop where
 t:c.tf < c.tt
 h:c.hf < c.ht
 h0:0≤c.hf
 t0:0≤c.tf
 f:c.kind=2→0≤c.filter∧c.filter < c.hf
theorem zhZ {n:Int} {c:Cl} (h:WI n c=0):OkC c:=by
 unfold WI at h
 split at h
 ·simp at h
 ·split at h
  ·simp at h
  ·rename_i h1 h2
   simp [zdA,zef] at h1 h2
   exact ⟨by omega,by omega,by omega,by omega,fun hk=>by simp [hk] at h2;omega⟩
theorem Qn {a b:Cl} {p q:Int} {x y:Pt} (hx:bounds a p=(x.f,x.t)) (hy:bounds b q=(y.f,y.t)) (h1:x.f < x.t) (h2:y.f < y.t):meet a p b q=qI x y:=by
 simp [meet,qI,hx,hy,h1,h2]
theorem zjm {a b:Cl} {p q:Int} (h:¬ (bounds a p).1 < (bounds a p).2∨¬ (bounds b q).1 < (bounds b q).2):meet a p b q=false:=by
 simp only [meet,Bool.and_eq_false_iff,decide_eq_false_iff_not]
 rcases h with h|h
 ·exact .inl (.inr h)
 ·exact .inr h
theorem zcd {a b:Cl} {p q:Int} {x y:Pt} (hx:bounds a p=(x.f,x.t)) (hy:bounds b q=(y.f,y.t)) (h1:x.f < x.t):within a p b q=ZI x y:=by
 rw [Bool.eq_iff_iff]
 simp [within,ZI,hx,hy]
 omega
theorem zhb {a b:Cl} {q:Int} (h:a.kind≠2):within a 3 b q=true:=by simp [within,bounds,h]
theorem zia {n:Int} {c:Cl}:WB n c=WI n c:=by
 unfold WB WI
 split
 ·rfl
 ·split
  ·rfl
  ·rename_i h1 h2
   have hok:OkC c:=by
    simp [zdA,zef] at h1 h2
    exact ⟨by omega,by omega,by omega,by omega,fun hk=>by simp [hk] at h2;omega⟩
   have e:Vq (zQ 0 c) (zQ 0 c) zkH=(meet c 1 c 2||meet c 1 c 3||meet c 2 c 3):=by
    obtain ⟨g1,g2,g3,g4,g5⟩:=hok
    rw [Bool.eq_iff_iff]
    by_cases hk:c.kind=2
    ·have:=g5 hk
     simp [Vq,zQ,hk,zkH,qI,meet,bounds]
     omega
    ·simp [Vq,zQ,hk,zkH,qI,meet,bounds]
     omega
   rw [e]
theorem Vo {a b:Cl} (ha:OkC a) {q:Int} {x:Pt} (hy:bounds b q=(x.f,x.t)) (h2:x.f < x.t):YR a x=zcn a b q:=by
 have w1:within a 1 b q=ZI ⟨0,1,a.tf,a.tt⟩ x:=zcd (by simp [bounds]) hy ha.t
 have w2:within a 2 b q=ZI ⟨0,2,a.hf,a.ht⟩ x:=zcd (by simp [bounds]) hy ha.h
 by_cases hk:a.kind=2
 ·have w3:within a 3 b q=ZI ⟨0,3,a.filter,a.hf⟩ x:=zcd (by simp [bounds,hk]) hy (ha.f hk).2
  simp [YR,zQ,zcn,w1,w2,w3,hk,hy,h2,Bool.and_assoc]
 ·have w3:=zhb (b:=b) (q:=q) hk
  simp [YR,zQ,zcn,w1,w2,w3,hk,hy,h2]
theorem zcp (a:Cl) (x:Pt):zbq a x=(a.hf==x.f||a.kind==2&&a.filter==x.f):=by
 by_cases hk:a.kind=2 <;> simp [zbq,zQ,hk]
theorem zks {a b:Cl} (h:b.kind≠2):zcn a b 3=false:=by simp [zcn,bounds,h]
theorem zc9 {a b:Cl} (ha:OkC a) (hb:OkC b):zcZ a b=!(badM a b 1 1||badM a b 1 2||badM a b 1 3||badM a b 2 1||badM a b 2 2||badM a b 2 3||badM a b 3 1||badM a b 3 2||badM a b 3 3):=by
 have m11:meet a 1 b 1=qI ⟨0,1,a.tf,a.tt⟩ ⟨1,1,b.tf,b.tt⟩:=Qn (by simp [bounds]) (by simp [bounds]) ha.t hb.t
 have m12:meet a 1 b 2=qI ⟨0,1,a.tf,a.tt⟩ ⟨1,2,b.hf,b.ht⟩:=Qn (by simp [bounds]) (by simp [bounds]) ha.t hb.h
 have m21:meet a 2 b 1=qI ⟨0,2,a.hf,a.ht⟩ ⟨1,1,b.tf,b.tt⟩:=Qn (by simp [bounds]) (by simp [bounds]) ha.h hb.t
 have m22:meet a 2 b 2=qI ⟨0,2,a.hf,a.ht⟩ ⟨1,2,b.hf,b.ht⟩:=Qn (by simp [bounds]) (by simp [bounds]) ha.h hb.h
 have ra:(zQ 0 a)=[⟨0,1,a.tf,a.tt⟩,⟨0,2,a.hf,a.ht⟩]++(if a.kind==2 then [⟨0,3,a.filter,a.hf⟩] else []):=rfl
 have rb:(zQ 1 b)=[⟨1,1,b.tf,b.tt⟩,⟨1,2,b.hf,b.ht⟩]++(if b.kind==2 then [⟨1,3,b.filter,b.hf⟩] else []):=rfl
 have n3:b.kind≠2→∀ p,meet a p b 3=false:=fun h p=>zjm (.inr (by simp [bounds,h]))
 have n3':a.kind≠2→∀ q,meet a 3 b q=false:=fun h q=>zjm (.inl (by simp [bounds,h]))
 have m13:b.kind=2→meet a 1 b 3=qI ⟨0,1,a.tf,a.tt⟩ ⟨1,3,b.filter,b.hf⟩:=fun h=>Qn (by simp [bounds]) (by simp [bounds,h]) ha.t (hb.f h).2
 have m23:b.kind=2→meet a 2 b 3=qI ⟨0,2,a.hf,a.ht⟩ ⟨1,3,b.filter,b.hf⟩:=fun h=>Qn (by simp [bounds]) (by simp [bounds,h]) ha.h (hb.f h).2
 have m31:a.kind=2→meet a 3 b 1=qI ⟨0,3,a.filter,a.hf⟩ ⟨1,1,b.tf,b.tt⟩:=fun h=>Qn (by simp [bounds,h]) (by simp [bounds]) (ha.f h).2 hb.t
 have m32:a.kind=2→meet a 3 b 2=qI ⟨0,3,a.filter,a.hf⟩ ⟨1,2,b.hf,b.ht⟩:=fun h=>Qn (by simp [bounds,h]) (by simp [bounds]) (ha.f h).2 hb.h
 have m33:a.kind=2→b.kind=2→meet a 3 b 3=qI ⟨0,3,a.filter,a.hf⟩ ⟨1,3,b.filter,b.hf⟩:=fun h h'=>Qn (by simp [bounds,h]) (by simp [bounds,h']) (ha.f h).2 (hb.f h').2
 unfold zcZ badM
 cases hs1:a.tf==b.tf <;> cases hs2:a.tt==b.tt <;> by_cases hka:a.kind=2 <;> by_cases hkb:b.kind=2 <;>
  simp [Vq,ra,rb,hka,hkb,zkX,m11,m12,m21,m22,n3,n3',m13,m23,m31,m32,m33,Bool.and_assoc,Bool.or_assoc]
theorem zjM {a b:Cl} (ha:OkC a) (hb:OkC b):zdO a b=zb5 a b:=by
 have e1:=Vo (a:=a) (b:=b) ha (q:=1) (x:=⟨1,1,b.tf,b.tt⟩) (by simp [bounds]) hb.t
 have e2:=Vo (a:=a) (b:=b) ha (q:=2) (x:=⟨1,2,b.hf,b.ht⟩) (by simp [bounds]) hb.h
 have b1:(bounds b 1)=(b.tf,b.tt):=by simp [bounds]
 have b2:(bounds b 2)=(b.hf,b.ht):=by simp [bounds]
 by_cases hk:b.kind=2
 ·have e3:=Vo (a:=a) (b:=b) ha (q:=3) (x:=⟨1,3,b.filter,b.hf⟩) (by simp [bounds,hk]) (hb.f hk).2
  have b3:(bounds b 3)=(b.filter,b.hf):=by simp [bounds,hk]
  rw [zdO,show zQ 1 b=[⟨1,1,b.tf,b.tt⟩,⟨1,2,b.hf,b.ht⟩,⟨1,3,b.filter,b.hf⟩] by simp [zQ,hk]]
  simp only [zau,e1,e2,e3,zcp,zb5,zkC,b1,b2,b3,zc9 ha hb]
 ·rw [zdO,show zQ 1 b=[⟨1,1,b.tf,b.tt⟩,⟨1,2,b.hf,b.ht⟩] by simp [zQ,hk]]
  have c3:=zks (a:=a) hk
  simp only [zau,e1,e2,zcp,zb5,zkC,b1,b2,c3,zc9 ha hb]
  simp
theorem zjX {n:Int} {l:List Cl} {k:Nat} (h:YW n l k=0):WI n (l.getD k default)=0:=by
 unfold YW at h
 split at h
 ·exact h
 ·rename_i h1;simpa using h1
set_option maxHeartbeats 1000000 in
theorem zge (n:Int) (l:List Cl):ACall Tryz.prog 114 [pi n,cls l] (.tup [pi (Ql n l).1,pi (Ql n l).2]):=by
 refine zf zk Tryz.func114 rfl (by kernel_rfl) Tryz.ntmps114 (by simp) _ rfl (fun hw gB hgB=>?_)
 have hl:=zl1 hw.2.1
 by_cases h6:6 < l.length
 ·repeat' (first|refine sK ?_|refine sC (fun _=>?_) (fun _=>?_)|fail)
  exact retq rfl (by simp [zl,Ql,h6])
 ·repeat' (first|refine sK ?_|refine sC (fun _=>?_) (fun _=>?_)|fail)
  refine zI (fun k:Nat=>[(0,.pv (pi n)),(1,.pv (cls l)),(14,.pv (cls l)),(15,.pv (pi l.length)),(16,.pv (pi k))]) (fun _=>[]) (fun k=>k≤l.length∧∀ j,j < k→YW n l j=0) (fun k=>l.length - k) 0 ⟨by omega,fun j h=>by omega⟩ (tS) tH ?_
  rintro k ⟨hk,hno⟩
  by_cases hlt:k < l.length
  ·have he:=zlB hlt
   have ca:=zhp n (l.getD k default)
   rw [zia] at ca
   cases ha:(WI n (l.getD k default) != 0)
   ·have hokk:OkC (l.getD k default):=zhZ (n:=n) (by simpa using ha)
    repeat' (first|refine zy rfl (Xk (xs:=l) (f:=QY) 0 k zk rfl rfl rfl rfl rfl rfl rfl (by omega) (by omega)) rfl rfl ?_|(refine shC ?_;first|refine qC ca ?_)|(refine shX ?_;first|refine qX he ?_)|refine sK ?_|refine sC (fun _=>?_) (fun _=>?_)|fail)
    refine zI (fun m:Nat=>[(0,.pv (pi n)),(1,.pv (cls l)),(6,.pv (pi k)),(7,.box 0 0),(14,.pv (cls l)),(15,.pv (pi l.length)),(16,.pv (pi k)),(30,.pv (cls (l.take k))),(31,.pv (pi k)),(32,.pv (pi m))]) (fun _=>[(0,.cell (.pv (QY (l.getD k default))))]) (fun m=>m≤k∧Xf l k m=false) (fun m=>k - m) 0 ⟨by omega,rfl⟩ (by repeat (first|exact qO|refine qE rfl ?_|(refine Xl rfl ?_ ?_;· (simp;omega)))) tH ?_
    rintro m ⟨hm,hpb⟩
    by_cases hltm:m < k
    ·have hem:((l.take k).map QY)[((m:Nat):Int).toNat]?=some (QY (l.getD m default)):=by
      simp [List.getElem?_take,hltm,show m < l.length by omega]
     have hps:=zfz l k m
     have hokm:OkC (l.getD m default):=zhZ (n:=n) (zjX (hno m hltm))
     have cf:=zin (l.getD m default) (l.getD k default)
     rw [zjM hokm hokk] at cf
     cases hf:zb5 (l.getD m default) (l.getD k default)
     ·have hat:YW n l k=12:=by
       have:Xf l k k=true:=by
        simp only [Xf,List.any_eq_true,List.mem_range]
        exact ⟨m,hltm,by rw [hf];rfl⟩
       unfold YW;rw [ha];simp [this]
      have hfin:=zet h6 hlt hno (by rw [hat];decide)
      clear hps
      rw [hf] at cf
      repeat' (first|(refine shC ?_;first|refine qC cf ?_)|(refine shX ?_;first|refine qX hem ?_)|refine sK ?_|refine sC (fun _=>?_) (fun _=>?_)|fail)
      exact retq rfl (by simp [zl,hfin,hat])
     ·have hpm:Xf l k (m + 1)=false:=by rw [hps,hpb,hf];rfl
      clear hps
      rw [hf] at cf
      repeat' (first|(refine shC ?_;first|refine qC cf ?_)|(refine shX ?_;first|refine qX hem ?_)|refine sK ?_|refine sC (fun _=>?_) (fun _=>?_)|fail)
      exact ⟨m + 1,⟨by omega,hpm⟩,tD,tS,tH⟩
    ·repeat' (first|refine sK ?_|refine sC (fun _=>?_) (fun _=>?_)|fail)
     have:m=k:=by omega
     subst this
     have hat:YW n l m=0:=by unfold YW;rw [ha];simp [hpb]
     exact ⟨m + 1,⟨by omega,fun j hj=>by
      by_cases e:j=m
      ·subst e;exact hat
      ·exact hno j (by omega)⟩,tD,tS,tH⟩
   ·have hat:YW n l k=WI n (l.getD k default):=by unfold YW;rw [ha];simp
    have hfin:=zet h6 hlt hno (by rw [hat];simpa using ha)
    repeat' (first|(refine shC ?_;first|refine qC ca ?_)|(refine shX ?_;first|refine qX he ?_)|refine sK ?_|refine sC (fun _=>?_) (fun _=>?_)|fail)
    exact retq rfl (by simp [zl,hfin,hat])
  ·repeat' (first|refine sK ?_|refine sC (fun _=>?_) (fun _=>?_)|fail)
   have:k=l.length:=by omega
   subst this
   exact retq rfl (by simp [zl,zid h6 hno])
set_option maxHeartbeats 20000000
theorem ZX (td:TD) (b:Int):ACall Tryz.prog 75 [pi b,.ptr (ZE td) 0] (pb (Qe td.flags b)):=by
 refine zf zk Tryz.func75 rfl (by kernel_rfl) Tryz.ntmps75 (by simp) _ rfl (fun hw gB hgB=>?_)
 repeat' (first|refine sA ?_|refine sC (fun _=>?_) (fun _=>?_)|fail)
 exact retq rfl rfl
def qP (td:TD):Bool :=
 if zcr td.flags==2 then Qe td.flags 4&&!Qe td.flags 1&&!Qe td.flags 8&&!Qe td.flags 16&&td.ext == -1
 else if zcr td.flags==1 then Qe td.flags 8&&!Qe td.flags 4&&!Qe td.flags 16&&td.ext == -1
 else if zcr td.flags==3 then Qe td.flags 8&&!Qe td.flags 4&&td.ext == -1&&((td.faces.length:Int)==0)
 else true
theorem zeC (td:TD):ACall Tryz.prog 63 [ZE td] (pb (qP td)):=by
 refine zf zk Tryz.func63 rfl (by kernel_rfl) Tryz.ntmps63 (by simp) _ rfl (fun hw gB hgB=>?_)
 repeat' (first|(refine shC ?_;first|refine qC (zbI td) ?_|refine qV (ZX td 1) ?_|refine qV (ZX td 4) ?_|refine qV (ZX td 8) ?_|refine qV (ZX td 16) ?_)|refine sA ?_|refine sC (fun _=>?_) (fun _=>?_)|fail)
 all_goals first|(refine retq rfl ?_;first|(simp only [zl,qP,BL,List.length_map] at *;simp only [*,BL,List.length_map];done)|(simp_all [zl,qP];done)|(simp_all [zl,qP];omega)|(simp_all [zl,qP];intros;omega))|(refine retn rfl ?_;first|(simp only [zl,qP,BL,List.length_map] at *;simp only [*,BL,List.length_map];done)|(simp_all [zl,qP];done)|(simp_all [zl,qP];omega)|(simp_all [zl,qP];intros;omega))|skip
def zeD (g:Img) (t:Int) (td:TD):Bool:=td.ext == -1||(zaR g td.ext==0&&!Qe (XZ g td.ext) 8&&Xt g t == -1)
theorem zeQ (g:Img) (t:Int) (td:TD) (htd:typeAt g t=some td) (hg:g.types.length≤1000):ACall Tryz.prog 64 [zO g,pi t] (pb (zeD g t td)):=by
 refine zf zk Tryz.func64 rfl (by kernel_rfl) Tryz.ntmps64 (by simp) _ rfl (fun hw gB hgB=>?_)
 obtain ⟨h0,he⟩:=Zk htd
 have hui:=zf1 g t
 have hul:=ZA _ _ hui.1 hui.2
 obtain ⟨ur,hur⟩:=zc7 htd
 have hpos:0 < (up g t).length:=by rw [hur];simp
 have hlast:(up g t)[(up g t).length - 1]?=some ((up g t).getLastD 0):=by
  rw [hur];simp [List.getLastD_eq_getLast?,List.getLast?_eq_getElem?]
 have hlt:(up g t).length - 1 < (up g t).length:=by omega
 obtain ⟨tl,htl⟩:=zbv (g:=g) (t:=(up g t).getLastD 0) (hui.2 _ (List.mem_of_getElem? hlast))
 obtain ⟨hl0,hel⟩:=Zk htl
 have hw1:IntKind.i64.wrap (((up g t).map pi).length - 1:Int)=(((up g t).length - 1:Nat):Int):=by rw [List.length_map,wrap_in (by omega) (by omega)];omega
 have heU:((up g t).map pi)[(IntKind.i64.wrap (((up g t).map pi).length - 1:Int)).toNat]?=some (pi ((up g t).getLastD 0)):=by rw [hw1];simp [hlast]
 have htop:Xt g t=tl.ext:=by rw [Xt,htl]
 by_cases h1:td.ext = -1
 ·have h1b:(td.ext == -1)=true:=by simp [h1]
  repeat' (first|(refine shX ?_;first|refine zy rfl (zL zk rfl rfl rfl rfl rfl rfl h0 he) rfl rfl ?_|refine AD.step _ _ _ _ _ rfl (zL zk rfl rfl rfl rfl rfl rfl h0 he) rfl rfl ?_)|refine sK ?_|refine sC (fun _=>?_) (fun _=>?_)|fail)
  exact retq rfl (by simp [zl,zeD,h1])
 ·have h1b:(td.ext == -1)=false:=by simp [h1]
  have c1:=zdi g td.ext
  by_cases hk:zaR g td.ext=0
  ·rw [hk] at c1
   obtain ⟨te,hte⟩:∃ te,typeAt g td.ext=some te:=by
    rw [zaR] at hk
    cases h:typeAt g td.ext with
    | none=>rw [h] at hk;simp at hk
    | some te=>exact ⟨te,rfl⟩
   obtain ⟨he0,hee⟩:=Zk hte
   have hfa:XZ g td.ext=te.flags:=by rw [XZ,hte]
   have hres:zeD g t td=(!Qe te.flags 8&&tl.ext == -1):=by rw [zeD,h1b,hk,hfa,htop];rfl
   repeat' (first|(refine shC ?_;first|refine qC c1 ?_|refine qC (za5 g t hg) ?_)|(refine shX ?_;first|refine zy rfl (zL zk rfl rfl rfl rfl rfl rfl h0 he) rfl rfl ?_|refine AD.step _ _ _ _ _ rfl (zL zk rfl rfl rfl rfl rfl rfl h0 he) rfl rfl ?_|refine zy rfl (zL zk rfl rfl rfl rfl rfl rfl he0 hee) rfl rfl ?_|refine AD.step _ _ _ _ _ rfl (zL zk rfl rfl rfl rfl rfl rfl he0 hee) rfl rfl ?_|refine zy rfl (zL zk rfl rfl rfl rfl rfl rfl (by rw [hw1];omega) heU) rfl rfl ?_|refine AD.step _ _ _ _ _ rfl (zL zk rfl rfl rfl rfl rfl rfl (by rw [hw1];omega) heU) rfl rfl ?_|refine zy rfl (zL zk rfl rfl rfl rfl rfl rfl hl0 hel) rfl rfl ?_|refine AD.step _ _ _ _ _ rfl (zL zk rfl rfl rfl rfl rfl rfl hl0 hel) rfl rfl ?_)|refine sA ?_|refine sC (fun _=>?_) (fun _=>?_)|fail)
   all_goals (refine retq rfl ?_;rw [hres];simp_all [zl,Qe])
  ·have hkb:(zaR g td.ext==0)=false:=by simp [hk]
   repeat' (first|(refine shC ?_;first|refine qC c1 ?_|refine qC (za5 g t hg) ?_)|(refine shX ?_;first|refine zy rfl (zL zk rfl rfl rfl rfl rfl rfl h0 he) rfl rfl ?_|refine AD.step _ _ _ _ _ rfl (zL zk rfl rfl rfl rfl rfl rfl h0 he) rfl rfl ?_)|refine sK ?_|refine sC (fun _=>?_) (fun _=>?_)|fail)
   all_goals (refine retq rfl ?_;simp [zl,zeD,h1b,hkb])
end Go.Cg
