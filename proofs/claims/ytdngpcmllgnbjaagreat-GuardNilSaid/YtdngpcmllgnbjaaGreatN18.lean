/- A part of the walks by abstract values: no statement of its own. -/
import Derived.Test.YtdngpcmllgnbjaaGreatN16
import Derived.Test.YtdngpcmllgnbjaaGreatN8
set_option linter.unusedVariables false
set_option linter.unusedSimpArgs false
namespace Go.Cg
open Go.Proofs
set_option maxHeartbeats 20000000
abbrev hR (met:List Int):HEnv:=[(0,.cell (.own 2)),(1,.cell (.own 3)),(2,.obj (MapSet Tryz.prog 3 3 met)),(3,.row 3 1 (met.map pi))]
structure GOk (G:HEnv):Prop where
 kill:ZC 3 G=G
 ids:∀ i h,HEnv.get G i=some h→4≤i
 inn:∀ met,hIn (hR met++G) G=true
theorem zng {met:List Int} {G:HEnv} {i:Nat} (h:4≤i):HEnv.get (hR met++G) i=HEnv.get G i:=by
 rw [get_append]
 have:HEnv.get (hR met) i=none:=by
  simp only [hR,HEnv.get_cons,HEnv.get_nil]
  rw [if_neg (by omega),if_neg (by omega),if_neg (by omega),if_neg (by omega)]
 rw [this]
theorem GOk.killHE {G:HEnv} (hG:GOk G) {i:Nat} {h:HE} (hg:HEnv.get G i=some h):Cg.killHE 3 h=h:=by
 have:=qR 3 G i
 rw [hG.kill,hg] at this
 simpa using this.symm
theorem zlo {H:HEnv} {met:List Int} {G:HEnv} {env':Env} (hG:GOk G) (h0:H.get 0=some (.cell (.own 2))) (h1:H.get 1=some (.cell (.own 3))) (h2:H.get 2=some (.obj (MapSet Tryz.prog 3 3 met))) (h3:H.get 3=some (.row 3 1 (met.map pi)))
  (hr:∀ i h,4≤i→HEnv.get G i=some h→H.get i=some h) (he:XP (hR met++G) env'=true):YO H (hR met++G) env':=by
 refine ⟨fun i h hi=>?_,?_⟩
 ·by_cases h4:4≤i
  ·rw [zng h4] at hi;exact hr i h h4 hi
  ·have:i=0∨i=1∨i=2∨i=3:=by omega
   rw [get_append] at hi
   rcases this with rfl|rfl|rfl|rfl
   ·rw [h0];exact hi
   ·rw [h1];exact hi
   ·rw [h2];exact hi
   ·rw [h3];exact hi
 ·rw [he,Bool.true_and]
  show (true&&(true&&hIn (hR met++G) G))=true
  rw [hG.inn];rfl
theorem zhW {i:Nat} (h:HE) (met:List Int) (G:HEnv) (h4:4≤i) (hg:HEnv.get G i=some h):HEnv.get (hR met++G) i=some h:=by rw [zng h4];exact hg
theorem znE {x:Int} (h:0≤x∧x < 100000):(Lit.int .i64 x).wf=true:=by
 simp [Lit.wf,IntKind.has,IntKind.min,IntKind.max,IntKind.bits,IntKind.signed];omega
theorem zik (l met:List Int) (G:HEnv) (hG:GOk G) (hx:∀ x∈l,0≤x∧x < 100000) (hlen:met.length + l.length≤100000) :
  ACallH Tryz.prog 393 [.pv (ints l),.box 0 0,.box 1 0] (hR met++G) (hR (l.foldl Zp met)++G):=by
 refine zgY Tryz.func393 rfl (by kernel_rfl) Tryz.ntmps393 (by simp) rfl (fun gB hgB=>?_)
 repeat' (first|refine sA ?_|refine sC (fun _=>?_) (fun _=>?_)|fail)
 refine zA (fun x:Nat × List Int=>[(1,.box 0 0),(2,.box 1 0),(6,.pv (ints l)),(7,.pv (pi l.length)),(8,.pv (pi x.1))]) (fun x=>hR x.2++G)
  (fun x=>x.1≤l.length∧x.2.length≤met.length + x.1∧(l.drop x.1).foldl Zp x.2=l.foldl Zp met) (fun x=>l.length - x.1) (0,met) ⟨by simp,by simp,rfl⟩ (tS) (zlo hG rfl rfl rfl rfl (fun i h h4 hg=>zhW h met G h4 hg) rfl) ?_
 rintro ⟨k,m⟩ ⟨hk,hml,hr⟩
 simp only at hk hml hr
 by_cases hlt:k < l.length
 ·have he:=Yd hlt
  rw [zbI hlt] at hr
  have hwf:=znE (hx _ (List.getElem_mem hlt))
  by_cases hm:l[k]∈m
  ·rw [show Zp m l[k]=m by simp [Zp,hm]] at hr
   repeat' (first|refine zq rfl (zgi (c:=1) (if_pos hm) zh rfl rfl rfl rfl rfl rfl rfl rfl hwf) rfl rfl ?_|(refine shX ?_;first|refine qX he ?_)|refine sK ?_|refine sC (fun _=>?_) (fun _=>?_)|fail)
   refine ⟨(k + 1,m),⟨hlt,by simp;omega,hr⟩,tD,tS,zlo hG rfl rfl rfl rfl (fun i h h4 hg=>zhW h m G h4 hg) rfl⟩
  ·rw [show Zp m l[k]=m++[l[k]] by simp [Zp,hm]] at hr
   repeat' (first|refine zq rfl (zgi (c:=0) (if_neg hm) zh rfl rfl rfl rfl rfl rfl rfl rfl hwf) rfl rfl ?_|refine zhl hgB.1 zh rfl rfl rfl rfl rfl rfl rfl rfl rfl hwf (by simp [maxLen];omega) rfl ?_|(refine shX ?_;first|refine qX he ?_)|(refine zI ?_;first|refine yg zh rfl rfl rfl rfl rfl rfl rfl (by show _ * 8≤_;simp;omega) (by simp;omega) rfl rfl ?_)|refine sK ?_|refine sC (fun _=>?_) (fun _=>?_)|fail)
   refine ⟨(k + 1,m++[l[k]]),⟨hlt,by simp;omega,hr⟩,tD,tS,zlo hG rfl rfl rfl (by show some (HE.row 3 1 _)=_;simp) (fun i h h4 hg=>?_) rfl⟩
   rw [HEnv.get_cons,if_neg (by omega),HEnv.get_cons,if_neg (by omega),qR,HEnv.get_cons,if_neg (by omega),zng h4,hg]
   simp [hG.killHE hg]
 ·rw [drop_end (by omega)] at hr
  simp only [List.foldl_nil] at hr
  subst hr
  repeat' (first|refine sK ?_|refine sC (fun _=>?_) (fun _=>?_)|fail)
  exact ⟨.inl rfl,zlo hG rfl rfl rfl rfl (fun i h h4 hg=>zhW h _ G h4 hg) rfl⟩
def YD (step:Int→List Int):Nat→Nat→List Int→List Int
 | 0,_,met=>met
 | n + 1,i,met=>match met[i]? with|some u=>YD step n (i + 1) ((step u).foldl Zp met)|none=>met
def YF (N:Nat) (step:Int→List Int) (l:List Int):List Int:=YD step (N + 1) 0 (l.foldl Zp [])
def NInv (N:Nat) (met:List Int):Prop:=met.Nodup∧∀ y∈met,0≤y∧y < N
theorem NInv.len {N:Nat} {met:List Int} (h:NInv N met):met.length≤N:=qU _ _ h.1 h.2
theorem NInv.add {N:Nat} {met:List Int} (h:NInv N met) {x:Int} (hx:0≤x∧x < N):NInv N (Zp met x):=by
 unfold Zp
 split
 ·exact h
 ·rename_i hn
  refine ⟨?_,?_⟩
  ·rw [List.nodup_append];simp [h.1];intro b hb e;subst e;exact hn hb
  ·intro y hy
   simp only [List.mem_append,List.mem_singleton] at hy
   rcases hy with hy|rfl
   ·exact h.2 y hy
   ·exact hx
theorem NInv.fold {N:Nat}:∀ (l:List Int) {met:List Int},NInv N met→(∀ x∈l,0≤x∧x < N)→NInv N (l.foldl Zp met)
 | [],_,h,_=>h
 | f::l,_,h,hl=>NInv.fold l (h.add (hl f (by simp))) fun x hx=>hl x (by simp [hx])
theorem zbo:∀ (l met:List Int),met.length≤(l.foldl Zp met).length
 | [],met=>Nat.le_refl _
 | x::l,met=>by
  refine Nat.le_trans ?_ (zbo l (Zp met x))
  unfold Zp;split <;> simp
theorem zi0 {us:Nat→Value} {env2:Env} (h1:ZC 3 (yF us 100 env2)=yF us 100 env2) (h2:∀ met,hIn (hR met++yF us 100 env2) (yF us 100 env2)=true):GOk (yF us 100 env2) :=
 ⟨h1,fun i h hg=>by have:=(XR hg).1;omega,h2⟩
theorem zbx (N:Nat) (hN:N≤1000) (l:List Int) (step:Int→List Int) (f:FuncId) (first cap:List PV) (hl:∀ x∈l,0≤x∧x < N) (hll:l.length≤10000)
  (hs:∀ x:Int,0≤x→x < (N:Int)→ACall Tryz.prog f (first++[pi x]++cap) (ints (step x))) (hst:∀ x:Int,0≤x→x < (N:Int)→(step x).length≤10000∧∀ y∈step x,0≤y∧y < N) :
  ACall Tryz.prog 346 [ints l,.fn (.func f) first cap] (ints (sortL (YF N step l))):=by
 refine zf zh Tryz.func346 rfl (by kernel_rfl) Tryz.ntmps346 (by simp) _ rfl (fun hw gB hgB=>?_)
 have hm0:NInv N (l.foldl Zp []):=NInv.fold l ⟨by simp,by simp⟩ hl
 repeat' (first|refine zkl (kt:=3) (et:=3) 2 rfl rfl rfl rfl rfl ?_|refine zad 1 3 3 1 (by decide) rfl rfl ?_|refine sA ?_|refine sC (fun _=>?_) (fun _=>?_)|fail)
 refine zpg [(0,.pv (ints l)),(1,.pv (.fn (.func f) first cap)),(5,.box 0 0),(6,.box 1 0),(7,.fn (.func 393) [] [.box 0 0,.box 1 0]),(11,.fn (.func 393) [] [.box 0 0,.box 1 0]),(12,.pv (ints l))] (hR []) (tS)
  ⟨by repeat (first|exact zk|refine zi rfl ?_),rfl⟩ ?_
 refine zi6 [(1,.pv (.fn (.func f) first cap)),(5,.box 0 0),(6,.box 1 0),(7,.fn (.func 393) [] [.box 0 0,.box 1 0])] (hR (l.foldl Zp [])) 100 hgB rfl rfl rfl rfl (tS) rfl rfl rfl rfl rfl rfl
  (fun us=>zik l [] _ (zi0 rfl (fun _=>rfl)) (fun x hx=>by have:=hl x hx;omega) (by simp;omega)) ?_
 repeat' (first|refine sA ?_|refine sC (fun _=>?_) (fun _=>?_)|fail)
 refine zA (fun x:Nat × List Int=>[(1,.pv (.fn (.func f) first cap)),(5,.box 0 0),(6,.box 1 0),(7,.fn (.func 393) [] [.box 0 0,.box 1 0]),(8,.pv (pi x.1))]) (fun x=>hR x.2)
  (fun x=>x.1≤x.2.length∧NInv N x.2∧YD step (N + 1 - x.1) x.1 x.2=YF N step l) (fun x=>N + 1 - x.1) (0,l.foldl Zp []) ⟨by simp,hm0,rfl⟩ (tS) ⟨by repeat (first|exact zk|refine zi rfl ?_),rfl⟩ ?_
 rintro ⟨i,met⟩ ⟨hi,hmi,hr⟩
 simp only at hi hmi hr
 have hml:=hmi.len
 rw [show N + 1 - i=(N - i) + 1 by omega,YD] at hr
 by_cases hlt:i < met.length
 ·have heU:=Yd hlt
  rw [List.getElem?_eq_getElem hlt] at hr
  simp only at hr
  obtain ⟨hu0,hu1⟩:=hmi.2 _ (List.getElem_mem hlt)
  obtain ⟨hs1,hs2⟩:=hst _ hu0 hu1
  have c1:=hs _ hu0 hu1
  repeat' (first|(refine shC ?_;first|refine qV (c1) ?_)|(refine shX ?_;first|refine qX heU ?_)|refine sK ?_|refine sC (fun _=>?_) (fun _=>?_)|fail)
  refine zi6 [(1,.pv (.fn (.func f) first cap)),(5,.box 0 0),(6,.box 1 0),(7,.fn (.func 393) [] [.box 0 0,.box 1 0]),(8,.pv (pi i))] (hR ((step met[i]).foldl Zp met)) 100 hgB rfl rfl rfl rfl (tS) rfl rfl rfl rfl rfl rfl
   (fun us=>zik _ met _ (zi0 rfl (fun _=>rfl)) (fun x hx=>by have:=hs2 x hx;omega) (by omega)) ?_
  repeat' (first|refine sK ?_|refine sC (fun _=>?_) (fun _=>?_)|fail)
  have hmi2:=NInv.fold _ hmi hs2
  refine ⟨(i + 1,(step met[i]).foldl Zp met),⟨?_,hmi2,?_⟩,by simp only;omega,tS,⟨by repeat (first|exact zk|refine zi rfl ?_),rfl⟩⟩
  ·have:=zbo (step met[i]) met
   simp only;omega
  ·simp only
   rw [show N + 1 - (i + 1)=N - i by omega];exact hr
 ·rw [List.getElem?_eq_none (by omega)] at hr
  simp only at hr
  subst hr
  repeat' (first|refine zo0 [(6,.box 1 0)] hgB rfl rfl ⟨Tryz.f394,Tryz.func394,rfl,by kernel_rfl⟩ rfl rfl (by simp only;omega) (tS) rfl rfl rfl rfl ?_|refine sK ?_|refine sC (fun _=>?_) (fun _=>?_)|fail)
  exact retq rfl rfl
end Go.Cg
