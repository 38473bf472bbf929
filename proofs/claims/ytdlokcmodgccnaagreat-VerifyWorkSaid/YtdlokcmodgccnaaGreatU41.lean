/- A part of the walks by abstract values: no statement of its own. -/
import Derived.Test.YtdlokcmodgccnaaGreatU35
import Derived.Test.YtdlokcmodgccnaaGreatU28
import Derived.Test.YtdlokcmodgccnaaGreatU39
set_option linter.unusedVariables false
set_option linter.unusedSimpArgs false
namespace Go.Cg
open Go.Proofs
set_option maxHeartbeats 20000000
theorem zfR (l:List Cl) (p:Cl→Bool) (f:FuncId) (first cap:List PV) (hp:∀ x∈l,ACall Tryz.prog f (first++[ZX x]++cap) (pb (p x))):ACall Tryz.prog 210 [cls l,.fn (.func f) first cap] (pi (if l.any p then ((l.findIdx p:Nat):Int) else -1)):=by
 refine zi zf Tryz.func210 rfl (by kernel_rfl) Tryz.ntmps210 (by simp) _ rfl (fun hw gB hgB=>?_)
 have hl:l.length≤9223372036854775807:=znA hw.1
 repeat' (first|refine sA ?_|refine sC (fun _=>?_) (fun _=>?_)|fail)
 refine zW (fun k:Nat=>[(0,.pv (cls l)),(1,.pv (.fn (.func f) first cap)),(7,.pv (pi l.length)),(8,.pv (pi k))]) (fun _=>[]) (fun k=>k≤l.length∧∀ j (h:j < k) (h2:j < l.length),p l[j]=false) (fun k=>l.length - k) 0 ⟨by omega,fun j h=>by omega⟩ (tS) tH ?_
 rintro k ⟨hk,hno⟩
 by_cases hlt:k < l.length
 ·have he:=yj (f:=ZX) hlt
  have c1:=hp _ (List.getElem_mem hlt)
  cases hpx:p l[k]
  ·rw [hpx] at c1
   repeat' (first|(refine shC ?_;first|refine qV (c1) ?_)|(refine shX ?_;first|refine qX he ?_)|refine sK ?_|refine sC (fun _=>?_) (fun _=>?_)|fail)
   exact ⟨k + 1,⟨hlt,fun j hj h2=>by
    by_cases e:j=k
    ·subst e;exact hpx
    ·exact hno j (by omega) h2⟩,tD,tS,tH⟩
  ·rw [hpx] at c1
   have hi:l.findIdx p=k:=by
    rw [List.findIdx_eq hlt]
    exact ⟨hpx,fun j hj=>hno j hj (by omega)⟩
   have ha:l.any p=true:=List.any_eq_true.2 ⟨_,List.getElem_mem hlt,hpx⟩
   repeat' (first|(refine shC ?_;first|refine qV (c1) ?_)|(refine shX ?_;first|refine qX he ?_)|refine sK ?_|refine sC (fun _=>?_) (fun _=>?_)|fail)
   exact retq rfl (by simp [zy,ha,hi])
 ·have ha:l.any p=false:=by
   rw [List.any_eq_false]
   intro x hx
   obtain ⟨j,hj,rfl⟩:=List.getElem_of_mem hx
   simp [hno j (by omega) hj]
  repeat' (first|refine sK ?_|refine sC (fun _=>?_) (fun _=>?_)|fail)
  exact retq rfl (by simp [zy,ha])
theorem zdk (l:List Cl) (p:Cl→Bool) (f:FuncId) (first cap:List PV) (hp:∀ x∈l,ACall Tryz.prog f (first++[ZX x]++cap) (pb (p x))):ACall Tryz.prog 163 [cls l,.fn (.func f) first cap] (pb (l.any p)):=by
 refine zi zf Tryz.func163 rfl (by kernel_rfl) Tryz.ntmps163 (by simp) _ rfl (fun hw gB hgB=>?_)
 have c1:=zfR l p f first cap hp
 repeat' (first|(refine shC ?_;first|refine qC c1 ?_)|refine sA ?_|refine sC (fun _=>?_) (fun _=>?_)|fail)
 refine retq rfl ?_
 cases h:l.any p <;> simp [zy]
theorem zju (c:Cl) (i to:Int):ACall Tryz.prog 164 [ZX c,.ptr (pi to) 0,.ptr (pi i) 0] (pb (c.tf==to&&(decide (i < c.tf)||decide (c.tt≤i)))):=by
 rcases Bool.eq_false_or_eq_true (c.tf==to) with h0|h0 <;> rcases Bool.eq_false_or_eq_true (decide (i < c.tf)) with h1|h1 <;> (
  refine zi zf Tryz.func164 rfl (by kernel_rfl) Tryz.ntmps164 (by simp) _ rfl (fun hw gB hgB=>?_)
  repeat' (first|refine sK ?_|refine sC (fun _=>?_) (fun _=>?_)|fail)
  exact retq rfl (by simp [zy,h0,h1]))
abbrev rnC (g:Img) (m:Me) (k wk:Int):AV:=.agg [.pv (.slc 4 (g.types.map Zl) false),.pv (.slc 7 (g.fields.map Yb) false),.pv (.slc 12 (g.methods.map yB) false),.pv (pi g.entry),.pv (ps m.name),.pv (pi m.owner),.pv (pi m.flags),.pv (tys m.params),.pv (pi m.ret.kind),.pv (pi m.ret.index),.pv (pi m.ret.dims),.pv (pb m.ret.ref),.pv (tys m.locals),.pv (pi m.max),.pv (.slc 6 (m.code.map qj) false),.pv (.slc 10 (m.clauses.map ZX) false),.pv (pi k),.pv (.ptr (zT g) 0),.own 11,.pv (pi wk),.own 12]
abbrev rnH (g:Img) (m:Me) (k:Int) (s:VS):HEnv:=[(10,.cell (rnC g m k s.wk)),(11,.mrow 40 1 (s.st.map tys)),(12,.mrow 4 1 (s.kn.map pb))]
def bgH (g:Img) (m:Me) (k:Int) (s:VS) (us:Nat→Value) (i:Nat) (l:List Ty):Nat→HEnv
 | 0=>rnH g m k s++qx us [10]
 | 1=>(11,.mrow 40 1 ((s.st.map tys).set i (tys l)))::(rnH g m k s++qx us [10])
 | _=>(12,.mrow 4 1 ((s.kn.map pb).set i (pb true)))::(11,.mrow 40 1 ((s.st.map tys).set i (tys l)))::(rnH g m k s++qx us [10])
abbrev bgT (g:Img) (m:Me) (k:Int) (s:VS) (us:Nat→Value):HEnv:=[(10,.cell (rnC g m k s.wk)),(11,.dead),(12,.dead),(1010,.pin (.own 10) (us 10))]
theorem zqM (g:Img) (m:Me) (k:Int) (s:VS) (us:Nat→Value) (i:Nat) (l:List Ty):∀ p,p < 3→qO (bgH g m k s us i l p) (bgT g m k s us)=true∧qO (bgT g m k s us) (bgH g m k s us i l p)=true:=by
 intro p h
 have hp:p=0∨p=1∨p=2:=by omega
 rcases hp with rfl|rfl|rfl <;> exact ⟨rfl,rfl⟩
theorem zqK (g:Img) (m:Me) (k:Int) (s:VS) (us:Nat→Value) (i:Nat) (l:List Ty) {gB:Base}:∀ p,p≤2→∀ K ρ w,FS gB K ρ (bgH g m k s us i l p) w→FS gB K ρ (bgT g m k s us) w:=by
 intro p h K ρ w hf
 have hp:p=0∨p=1∨p=2:=by omega
 rcases hp with rfl|rfl|rfl <;> exact ((hf.kill 11).kill 12).narrow (e:=[]) tH
theorem zcT (g:Img) (m:Me) (k:Int) (s:VS) (i:Int) (h0:0≤i) (h1:i.toNat < s.st.length) (h2:s.kn.length=s.st.length) (l:List Ty) (us:Nat→Value) :
  ACallM Tryz.prog 39 [.box 10 0,.pv (pi i),.pv (tys l)] (rnH g m k s++qx us [10]) (.pv (.tup [])) (rnH g m k (qL i l s)++qx us [10]):=by
 obtain ⟨j,hj⟩:∃ j,j=i.toNat:=⟨_,rfl⟩
 have hij:i=(j:Int):=by omega
 have e1:(s.st.map tys)[j]?=some (tys (s.st[j]'(by omega))):=yj (by omega)
 have e2:(s.kn.map pb)[j]?=some (pb (s.kn[j]'(by omega))):=yj (by omega)
 have l1:j < (s.st.map tys).length:=by rw [List.length_map];omega
 have l2:j < (s.kn.map pb).length:=by rw [List.length_map];omega
 refine qZ zf Tryz.func39 rfl (by kernel_rfl) Tryz.ntmps39 (by simp) _ rfl (fun gB hw1=>?_)
 repeat' (first|refine Xp 16 16 [13,15] [[18],[19]] (bgH g m k s us j l) (fun _=>bgT g m k s us) (bgT g m k s us) none rfl (by kernel_rfl) (by kernel_rfl) (by kernel_rfl) (by kernel_rfl) (by kernel_rfl) (by kernel_rfl) (by kernel_rfl) (fun p hp=>zqM g m k s us j l p (by simp at hp;omega)) rfl (fun p hp=>zqK g m k s us j l p hp) rfl (fun _ _ _ _=>rfl) (fun _ _=>rfl) tH rfl (fun v hv=>by cases hv) ?_|refine zbq 0 1 [0,2] rfl rfl (by kernel_rfl) ?_|refine zaN 12 [1,3] rfl rfl ?_|refine QE [1] (.pv (.tup [])) rfl rfl rfl ?_|refine zbq 1 1 [0] rfl rfl (by kernel_rfl) ?_|refine QE [] (.pv (.tup [])) rfl rfl rfl ?_|refine QG ?_|refine ⟨⟨rfl,ZP (k:=j) (j:=0) zf rfl rfl rfl rfl e1 rfl rfl rfl rfl,.inl rfl⟩,?_⟩|refine ⟨⟨rfl,ZP (k:=j) (j:=0) zf rfl rfl rfl rfl e2 rfl rfl rfl rfl,.inl rfl⟩,?_⟩|intro _|refine XO ?_|(refine shX ?_;first|refine zx rfl (zK (k:=j) zf rfl rfl rfl rfl rfl rfl rfl hij l1) rfl rfl ?_|refine AD.step _ _ _ _ _ rfl (zK (k:=j) zf rfl rfl rfl rfl rfl rfl rfl hij l1) rfl rfl ?_|refine zx rfl (zK (k:=j) zf rfl rfl rfl rfl rfl rfl rfl hij l2) rfl rfl ?_|refine AD.step _ _ _ _ _ rfl (zK (k:=j) zf rfl rfl rfl rfl rfl rfl rfl hij l2) rfl rfl ?_)|refine sK ?_|refine sC (fun _=>?_) (fun _=>?_)|fail)
 exact ⟨.inl rfl,.inl ⟨[],rfl,rfl,⟨zD rfl (Zp rfl (by rw [hj];exact (List.map_set ..).symm) (Zp rfl (by rw [hj];exact (List.map_set ..).symm) (zD rfl zG))),rfl⟩⟩⟩
set_option maxHeartbeats 20000000
structure LenV (n:Nat) (s:VS):Prop where
 st:s.st.length=n
 kn:s.kn.length=n
theorem YU {n:Nat} {s:VS} (h:LenV n s) (i:Int) (l:List Ty):LenV n (qL i l s):=⟨by simp [qL,h.st],by simp [qL,h.kn]⟩
theorem zom {n:Nat} {s:VS} (h:LenV n s) (c:Cl):LenV n (YW s c):=by
 unfold YW
 split
 ·exact YU h _ _
 ·split
  ·exact YU (YU h _ _) _ _
  ·exact YU h _ _
theorem zdb {n:Nat}:∀ (l:List Cl) {s:VS},LenV n s→LenV n (l.foldl YW s)
 | [],_,h=>h
 | c::l,_,h=>zdb l (zom h c)
theorem Qj (g:Img) (m:Me) (k:Int) {n:Nat} {s:VS} (hs:LenV n s) (i:Int) (hi:0≤i∧i.toNat < n) (l:List Ty) (q:PV) (hq:PTells q (tys l)) (us:Nat→Value) :
  ACallM Tryz.prog 39 [.box 10 0,.pv (pi i),.pv q] (rnH g m k s++qx us [10]) (.pv (.tup [])) (rnH g m k (qL i l s)++qx us [10]) :=
 (zcT g m k s i hi.1 (by rw [hs.st];exact hi.2) (by rw [hs.st,hs.kn]) l us).tells rfl fun k c c' h1 h2=>by
  match k,h1,h2 with
  | 0,h1,h2=>simp at h1 h2;exact .inl (h2.symm.trans h1)
  | 1,h1,h2=>simp at h1 h2;exact .inl (h2.symm.trans h1)
  | 2,h1,h2=>simp at h1 h2;exact .inr ⟨_,_,h1.symm,h2.symm,hq⟩
theorem zga:∀ l:List PV,PTL l l
 | []=>zbb
 | _::l=>qy (.refl _) (zga l)
theorem znF (a:Ty):PTells (.slc 4 [yM a] true) (tys [a]):=zgG (zaS (zga _) zdz)
def zsX (n:Nat) (c:Cl):Prop:=(0≤c.hf∧c.hf.toNat < n)∧(c.kind=2→0≤c.filter∧c.filter.toNat < n)
abbrev zc2:Ty:=⟨4,0,0,false⟩
theorem zaF (g:Img) (m:Me) (k:Int) {n:Nat} (s:VS) (hs:LenV n s) (hin:∀ c∈m.clauses,zsX n c) (hcl:m.clauses.length≤1000) (us:Nat→Value) :
  ACallM Tryz.prog 40 [.box 10 0] (rnH g m k s++qx us [10]) (.pv (.tup [])) (rnH g m k (m.clauses.foldl YW s)++qx us [10]):=by
 refine qZ zf Tryz.func40 rfl (by kernel_rfl) Tryz.ntmps40 (by simp) _ rfl (fun gB hw1=>?_)
 repeat' (first|refine sK ?_|refine sC (fun _=>?_) (fun _=>?_)|fail)
 refine zW (fun j:Nat=>[(0,.box 10 0),(2,.box 0 0),(11,.pv (cls m.clauses)),(12,.pv (pi m.clauses.length)),(13,.pv (pi j))]) (fun j=>rnH g m k ((m.clauses.take j).foldl YW s)++qx us [10]++[(0,.cell (.pv (yM zc2)))]) (fun j=>j≤m.clauses.length) (fun j=>m.clauses.length - j) 0 (by omega) (tS) tH ?_
 intro j hj
 by_cases hlt:j < m.clauses.length
 ·have he:=yj (f:=ZX) hlt
  have hc:=hin _ (List.getElem_mem hlt)
  obtain ⟨S,hS⟩:∃ S,S=(m.clauses.take j).foldl YW s:=⟨_,rfl⟩
  have hn:(m.clauses.take (j + 1)).foldl YW s=YW S m.clauses[j]:=by rw [List.take_succ_eq_append_getElem hlt,List.foldl_append,hS];rfl
  have hl:LenV n S:=by rw [hS];exact zdb _ hs
  rw [←hS]
  generalize m.clauses[j]=c at he hc hn
  rcases Bool.eq_false_or_eq_true (c.kind==1) with h1|h1
  ·have hh:YW S c=qL c.hf [c.t] S:=by rw [YW,if_pos h1]
   repeat' (first|(refine shX ?_;first|refine qX he ?_)|(refine zn ?_;first|(refine yD (rnH g m k S) (rnH g m k (qL c.hf [c.t] S)) [(1010,.pin (.own 10) (us 10)),(0,.cell (.pv (yM zc2)))] [(0,.box 10 0),(2,.box 0 0),(11,.pv (cls m.clauses)),(12,.pv (pi m.clauses.length)),(13,.pv (pi j))] [10] zh rfl rfl rfl ?_ tS rfl rfl rfl (fun us=>Qj g m k hl c.hf hc.1 [c.t] _ (znF c.t) us) ?_;· (repeat (first|exact zG|refine zD rfl ?_))))|refine sK ?_|refine sC (fun _=>?_) (fun _=>?_)|fail)
   exact ⟨j + 1,hlt,tD,tS,by dsimp only;rw [hn,hh];exact tH⟩
  ·rcases Bool.eq_false_or_eq_true (c.kind==2) with h2|h2
   ·have hh:YW S c=qL c.filter [zc2] (qL c.hf [zc2] S):=by rw [YW,if_neg (by rw [h1];simp),if_pos h2]
    have hf:=hc.2 (by simpa using h2)
    repeat' (first|(refine shX ?_;first|refine qX he ?_)|(refine zn ?_;first|(refine yD (rnH g m k S) (rnH g m k (qL c.hf [zc2] S)) [(1010,.pin (.own 10) (us 10)),(0,.cell (.pv (yM zc2))),(1,.cell (.pv (ZX c)))] [(0,.box 10 0),(2,.box 0 0),(11,.pv (cls m.clauses)),(12,.pv (pi m.clauses.length)),(13,.pv (pi j)),(4,.box 1 0)] [10] zh rfl rfl rfl ?_ tS rfl rfl rfl (fun us=>Qj g m k hl c.hf hc.1 [zc2] _ (znF zc2) us) ?_;· (repeat (first|exact zG|refine zD rfl ?_)))|(refine yD (rnH g m k (qL c.hf [zc2] S)) (rnH g m k (qL c.filter [zc2] (qL c.hf [zc2] S))) [(1010,.pin (.own 10) (us 10)),(0,.cell (.pv (yM zc2)))] [(0,.box 10 0),(2,.box 0 0),(11,.pv (cls m.clauses)),(12,.pv (pi m.clauses.length)),(13,.pv (pi j))] [10] zh rfl rfl rfl ?_ tS rfl rfl rfl (fun us=>Qj g m k (YU hl _ _) c.filter hf [zc2] _ (znF zc2) us) ?_;· (repeat (first|exact zG|refine zD rfl ?_))))|refine sK ?_|refine sC (fun _=>?_) (fun _=>?_)|fail)
    exact ⟨j + 1,hlt,tD,tS,by dsimp only;rw [hn,hh];exact tH⟩
   ·have hh:YW S c=qL c.hf [] S:=by rw [YW,if_neg (by rw [h1];simp),if_neg (by rw [h2];simp)]
    repeat' (first|(refine shX ?_;first|refine qX he ?_)|(refine zn ?_;first|(refine yD (rnH g m k S) (rnH g m k (qL c.hf [] S)) [(1010,.pin (.own 10) (us 10)),(0,.cell (.pv (yM zc2)))] [(0,.box 10 0),(2,.box 0 0),(11,.pv (cls m.clauses)),(12,.pv (pi m.clauses.length)),(13,.pv (pi j))] [10] zh rfl rfl rfl ?_ tS rfl rfl rfl (fun us=>Qj g m k hl c.hf hc.1 [] _ (zaC 4 false) us) ?_;· (repeat (first|exact zG|refine zD rfl ?_))))|refine sK ?_|refine sC (fun _=>?_) (fun _=>?_)|fail)
    exact ⟨j + 1,hlt,tD,tS,by dsimp only;rw [hn,hh];exact tH⟩
 ·repeat' (first|refine sK ?_|refine sC (fun _=>?_) (fun _=>?_)|fail)
  exact ⟨.inl rfl,.inl ⟨[],rfl,rfl,by rw [List.take_of_length_le (by omega)];exact ⟨by repeat (first|exact zG|refine zD rfl ?_),rfl⟩⟩⟩
theorem zlh (g:Img) (m:Me) (k:Int) (s:VS) (i t:Int) (us:Nat→Value) :
  ACallM Tryz.prog 117 [.box 10 0,.pv (pi i),.pv (pi t)] (rnH g m k s++qx us [10]) (.pv (pb (zf5 m i t))) (rnH g m k s++qx us [10]):=by
 have cc:=zdk m.clauses (fun c=>c.tf==t&&(decide (i < c.tf)||decide (c.tt≤i))) 164 [] [.ptr (pi t) 0,.ptr (pi i) 0] (fun c _=>zju c i t)
 refine qZ zf Tryz.func117 rfl (by kernel_rfl) Tryz.ntmps117 (by simp) _ rfl (fun gB hw1=>?_)
 repeat' (first|(refine shC ?_;first|refine qC cc ?_)|refine sK ?_|refine sC (fun _=>?_) (fun _=>?_)|fail)
 exact ⟨.inr rfl,.inl ⟨_,rfl,rfl,⟨by repeat (first|exact zG|refine zD rfl ?_),rfl⟩⟩⟩
def outT (g:Img) (m:Me) (k:Int) (us:Nat→Value):Except Int VS→Out
 | .ok s=>.ret (.pv (.tup [])) (rnH g m k s++qx us [10])
 | .error e=>.pan (zfY e)
theorem zcq {g:Img} {m:Me} {k:Int} {us:Nat→Value} {r:Except Int VS} {s:VS} {tb:Tab} {ex:Exit} {env:Env} {H:HEnv} (h:r=.ok s) (he:ex=.normal∨ex=.ret) (hf:Qo H (rnH g m k s++qx us [10]) []):zjw tb [] (outT g m k us r) ex env H:=by
 rw [h];exact ⟨he,.inl ⟨[],rfl,rfl,hf⟩⟩
theorem zbT {g:Img} {m:Me} {k:Int} {us:Nat→Value} {r:Except Int VS} {e:Int} {tb:Tab} {rs:List ResultVar} {env:Env} {H:HEnv} (h:r=.error e):zjw tb rs (outT g m k us r) (.panic [{ v:=zfY e,recovered:=false }]) env H:=by
 rw [h];rfl
abbrev wkT (s:VS) (l:List Ty):Int:=IntKind.i64.wrap (s.wk + IntKind.i64.wrap (1 + (((l.map yM).length:Nat):Int)))
set_option maxHeartbeats 8000000 in
theorem znT {g:Img} (hF:Fm g) (m:Me) (k:Int) {n:Nat} {s:VS} (hs:LenV n s) (i t:Int) (hst:(WI s t).length≤1000) (hwk:0≤s.wk∧s.wk≤1000000) (ht0:0≤t) (ht1:t.toNat < n) (l:List Ty) (hll:l.length≤1000) (us:Nat→Value) :
  YQ Tryz.prog 78 [.box 10 0,.pv (pi i),.pv (pi t),.pv (tys l)] (rnH g m k s++qx us [10]) (outT g m k us (toV g m i t l s)):=by
 have hW:s.wk + (1 + (l.length:Int))=wkT s l:=by
  rw [wkT,List.length_map,wrap_in (a:=1 + (l.length:Int)) (by omega) (by omega),wrap_in (by omega) (by omega)]
 have hT:toV g m i t l s=if !(l.isEmpty||!zf5 m i t) then .error 9
   else if decide (t≤i) then (if zeV g l (WI s t) then .ok ⟨s.st,s.kn,wkT s l⟩ else .error 14)
   else if !s.kn.getD t.toNat false then .ok (qL t l ⟨s.st,s.kn,wkT s l⟩)
   else if (YB g (WI s t) l).2==0 then .ok ⟨s.st.set t.toNat (YB g (WI s t) l).1,s.kn,wkT s l⟩ else .error (YB g (WI s t) l).2:=by
  rw [toV,hW]
 have hent:=zlh g m k ⟨s.st,s.kn,wkT s l⟩ i t
 have hE:l.isEmpty=((((l.map yM).length:Nat):Int)==0):=by
  rw [List.length_map];cases l <;> simp;omega
 obtain ⟨j,hj⟩:∃ j,j=t.toNat:=⟨_,rfl⟩
 have hij:t=(j:Int):=by omega
 have h1:=hs.st
 have h2:=hs.kn
 have e1:(s.st.map tys)[j]?=some (tys (WI s t)):=by rw [WI,←hj,zQ (by omega)];exact yj (by omega)
 have e2:(s.kn.map pb)[j]?=some (pb (s.kn.getD t.toNat false)):=by rw [←hj,zQ (by omega)];exact yj (by omega)
 have l1:j < (s.st.map tys).length:=by rw [List.length_map];omega
 have l2:j < (s.kn.map pb).length:=by rw [List.length_map];omega
 have cf:=zgk g l (WI s t) hF
 have cm:=zje g (WI s t) l hF hst
 rw [hE] at hT
 generalize s.kn.getD t.toNat false=kb at e2 hT
 generalize WI s t=a at e1 hT cf cm
 generalize zf5 m i t=eb at hT hent
 have go:((((l.map yM).length:Nat):Int)==0)=true∨eb=false→YQ Tryz.prog 78 [.box 10 0,.pv (pi i),.pv (pi t),.pv (tys l)] (rnH g m k s++qx us [10]) (outT g m k us (toV g m i t l s)):=by
  intro hg
  rw [if_neg (by rcases hg with h|h <;> rw [h] <;> simp)] at hT
  refine zH zf Tryz.func78 rfl (by kernel_rfl) Tryz.ntmps78 (by simp) _ rfl (fun gB hw1=>?_)
  by_cases hti:t≤i
  ·have d1:decide (t≤i)=true:=decide_eq_true hti
   rw [if_pos d1] at hT
   generalize zeV g l a=fb at hT cf
   cases fb
   ·rw [if_neg (by simp)] at hT
    rcases Bool.eq_false_or_eq_true ((((l.map yM).length:Nat):Int)==0) with hl0|hl0
    ·repeat' (first|refine zx rfl (zk (ps:=(zZ g)) zf rfl rfl rfl rfl rfl) rfl rfl ?_|refine AD.step _ _ _ _ _ rfl (zk (ps:=(zZ g)) zf rfl rfl rfl rfl rfl) rfl rfl ?_|refine zx rfl (zS (k:=j) (j:=0) zf rfl rfl rfl rfl e1 rfl) rfl rfl ?_|refine AD.step _ _ _ _ _ rfl (zS (k:=j) (j:=0) zf rfl rfl rfl rfl e1 rfl) rfl rfl ?_|refine zx rfl (zS (k:=j) (j:=0) zf rfl rfl rfl rfl e2 rfl) rfl rfl ?_|refine AD.step _ _ _ _ _ rfl (zS (k:=j) (j:=0) zf rfl rfl rfl rfl e2 rfl) rfl rfl ?_|refine yU 16 15 rfl (by kernel_rfl) (by kernel_rfl) (by kernel_rfl) (by kernel_rfl) (by kernel_rfl) ?_|refine zA ([]) zh rfl rfl rfl tH (yX rfl 14) ?_|(refine shC ?_;first|refine qC (yC rfl 9) ?_|refine qC cf ?_)|(refine shX ?_;first|refine zx rfl (zK (k:=j) zf rfl rfl rfl rfl rfl rfl rfl hij l1) rfl rfl ?_|refine AD.step _ _ _ _ _ rfl (zK (k:=j) zf rfl rfl rfl rfl rfl rfl rfl hij l1) rfl rfl ?_|refine zx rfl (zK (k:=j) zf rfl rfl rfl rfl rfl rfl rfl hij l2) rfl rfl ?_|refine AD.step _ _ _ _ _ rfl (zK (k:=j) zf rfl rfl rfl rfl rfl rfl rfl hij l2) rfl rfl ?_)|(refine zn ?_;first|(refine yD (rnH g m k ⟨s.st,s.kn,wkT s l⟩) (rnH g m k ⟨s.st,s.kn,wkT s l⟩) [(1010,.pin (.own 10) (us 10))] [(0,.box 10 0),(1,.pv (pi i)),(2,.pv (pi t)),(3,.pv (tys l)),(25,.pv (pb false))] [10] zh rfl rfl rfl ?_ tS rfl rfl rfl hent ?_;· (repeat (first|exact zG|refine zD rfl ?_))))|refine sK ?_|refine sC (fun _=>?_) (fun _=>?_)|fail)
     exact zbT hT
    ·obtain rfl:eb=false:=by (rcases hg with h|h;· rw [h] at hl0;cases hl0);· exact h
     repeat' (first|refine zx rfl (zk (ps:=(zZ g)) zf rfl rfl rfl rfl rfl) rfl rfl ?_|refine AD.step _ _ _ _ _ rfl (zk (ps:=(zZ g)) zf rfl rfl rfl rfl rfl) rfl rfl ?_|refine zx rfl (zS (k:=j) (j:=0) zf rfl rfl rfl rfl e1 rfl) rfl rfl ?_|refine AD.step _ _ _ _ _ rfl (zS (k:=j) (j:=0) zf rfl rfl rfl rfl e1 rfl) rfl rfl ?_|refine zx rfl (zS (k:=j) (j:=0) zf rfl rfl rfl rfl e2 rfl) rfl rfl ?_|refine AD.step _ _ _ _ _ rfl (zS (k:=j) (j:=0) zf rfl rfl rfl rfl e2 rfl) rfl rfl ?_|refine yU 16 15 rfl (by kernel_rfl) (by kernel_rfl) (by kernel_rfl) (by kernel_rfl) (by kernel_rfl) ?_|refine zA ([]) zh rfl rfl rfl tH (yX rfl 14) ?_|(refine shC ?_;first|refine qC (yC rfl 9) ?_|refine qC cf ?_)|(refine shX ?_;first|refine zx rfl (zK (k:=j) zf rfl rfl rfl rfl rfl rfl rfl hij l1) rfl rfl ?_|refine AD.step _ _ _ _ _ rfl (zK (k:=j) zf rfl rfl rfl rfl rfl rfl rfl hij l1) rfl rfl ?_|refine zx rfl (zK (k:=j) zf rfl rfl rfl rfl rfl rfl rfl hij l2) rfl rfl ?_|refine AD.step _ _ _ _ _ rfl (zK (k:=j) zf rfl rfl rfl rfl rfl rfl rfl hij l2) rfl rfl ?_)|(refine zn ?_;first|(refine yD (rnH g m k ⟨s.st,s.kn,wkT s l⟩) (rnH g m k ⟨s.st,s.kn,wkT s l⟩) [(1010,.pin (.own 10) (us 10))] [(0,.box 10 0),(1,.pv (pi i)),(2,.pv (pi t)),(3,.pv (tys l)),(25,.pv (pb false))] [10] zh rfl rfl rfl ?_ tS rfl rfl rfl hent ?_;· (repeat (first|exact zG|refine zD rfl ?_))))|refine sK ?_|refine sC (fun _=>?_) (fun _=>?_)|fail)
     exact zbT hT
   ·rw [if_pos rfl] at hT
    rcases Bool.eq_false_or_eq_true ((((l.map yM).length:Nat):Int)==0) with hl0|hl0
    ·repeat' (first|refine zx rfl (zk (ps:=(zZ g)) zf rfl rfl rfl rfl rfl) rfl rfl ?_|refine AD.step _ _ _ _ _ rfl (zk (ps:=(zZ g)) zf rfl rfl rfl rfl rfl) rfl rfl ?_|refine zx rfl (zS (k:=j) (j:=0) zf rfl rfl rfl rfl e1 rfl) rfl rfl ?_|refine AD.step _ _ _ _ _ rfl (zS (k:=j) (j:=0) zf rfl rfl rfl rfl e1 rfl) rfl rfl ?_|refine zx rfl (zS (k:=j) (j:=0) zf rfl rfl rfl rfl e2 rfl) rfl rfl ?_|refine AD.step _ _ _ _ _ rfl (zS (k:=j) (j:=0) zf rfl rfl rfl rfl e2 rfl) rfl rfl ?_|(refine shC ?_;first|refine qC (yC rfl 9) ?_|refine qC cf ?_|refine qC (yC rfl 14) ?_)|(refine shX ?_;first|refine zx rfl (zK (k:=j) zf rfl rfl rfl rfl rfl rfl rfl hij l1) rfl rfl ?_|refine AD.step _ _ _ _ _ rfl (zK (k:=j) zf rfl rfl rfl rfl rfl rfl rfl hij l1) rfl rfl ?_|refine zx rfl (zK (k:=j) zf rfl rfl rfl rfl rfl rfl rfl hij l2) rfl rfl ?_|refine AD.step _ _ _ _ _ rfl (zK (k:=j) zf rfl rfl rfl rfl rfl rfl rfl hij l2) rfl rfl ?_)|(refine zn ?_;first|(refine yD (rnH g m k ⟨s.st,s.kn,wkT s l⟩) (rnH g m k ⟨s.st,s.kn,wkT s l⟩) [(1010,.pin (.own 10) (us 10))] [(0,.box 10 0),(1,.pv (pi i)),(2,.pv (pi t)),(3,.pv (tys l)),(25,.pv (pb false))] [10] zh rfl rfl rfl ?_ tS rfl rfl rfl hent ?_;· (repeat (first|exact zG|refine zD rfl ?_))))|refine sK ?_|refine sC (fun _=>?_) (fun _=>?_)|fail)
     exact zcq hT (.inl rfl) ⟨by repeat (first|exact zG|refine zD rfl ?_),rfl⟩
    ·obtain rfl:eb=false:=by (rcases hg with h|h;· rw [h] at hl0;cases hl0);· exact h
     repeat' (first|refine zx rfl (zk (ps:=(zZ g)) zf rfl rfl rfl rfl rfl) rfl rfl ?_|refine AD.step _ _ _ _ _ rfl (zk (ps:=(zZ g)) zf rfl rfl rfl rfl rfl) rfl rfl ?_|refine zx rfl (zS (k:=j) (j:=0) zf rfl rfl rfl rfl e1 rfl) rfl rfl ?_|refine AD.step _ _ _ _ _ rfl (zS (k:=j) (j:=0) zf rfl rfl rfl rfl e1 rfl) rfl rfl ?_|refine zx rfl (zS (k:=j) (j:=0) zf rfl rfl rfl rfl e2 rfl) rfl rfl ?_|refine AD.step _ _ _ _ _ rfl (zS (k:=j) (j:=0) zf rfl rfl rfl rfl e2 rfl) rfl rfl ?_|(refine shC ?_;first|refine qC (yC rfl 9) ?_|refine qC cf ?_|refine qC (yC rfl 14) ?_)|(refine shX ?_;first|refine zx rfl (zK (k:=j) zf rfl rfl rfl rfl rfl rfl rfl hij l1) rfl rfl ?_|refine AD.step _ _ _ _ _ rfl (zK (k:=j) zf rfl rfl rfl rfl rfl rfl rfl hij l1) rfl rfl ?_|refine zx rfl (zK (k:=j) zf rfl rfl rfl rfl rfl rfl rfl hij l2) rfl rfl ?_|refine AD.step _ _ _ _ _ rfl (zK (k:=j) zf rfl rfl rfl rfl rfl rfl rfl hij l2) rfl rfl ?_)|(refine zn ?_;first|(refine yD (rnH g m k ⟨s.st,s.kn,wkT s l⟩) (rnH g m k ⟨s.st,s.kn,wkT s l⟩) [(1010,.pin (.own 10) (us 10))] [(0,.box 10 0),(1,.pv (pi i)),(2,.pv (pi t)),(3,.pv (tys l)),(25,.pv (pb false))] [10] zh rfl rfl rfl ?_ tS rfl rfl rfl hent ?_;· (repeat (first|exact zG|refine zD rfl ?_))))|refine sK ?_|refine sC (fun _=>?_) (fun _=>?_)|fail)
     exact zcq hT (.inl rfl) ⟨by repeat (first|exact zG|refine zD rfl ?_),rfl⟩
  ·have d1:decide (t≤i)=false:=decide_eq_false hti
   rw [if_neg (by rw [d1];simp)] at hT
   cases kb
   ·rw [if_pos (show (!false)=true from rfl)] at hT
    rcases Bool.eq_false_or_eq_true ((((l.map yM).length:Nat):Int)==0) with hl0|hl0
    ·repeat' (first|refine zx rfl (zk (ps:=(zZ g)) zf rfl rfl rfl rfl rfl) rfl rfl ?_|refine AD.step _ _ _ _ _ rfl (zk (ps:=(zZ g)) zf rfl rfl rfl rfl rfl) rfl rfl ?_|refine zx rfl (zS (k:=j) (j:=0) zf rfl rfl rfl rfl e1 rfl) rfl rfl ?_|refine AD.step _ _ _ _ _ rfl (zS (k:=j) (j:=0) zf rfl rfl rfl rfl e1 rfl) rfl rfl ?_|refine zx rfl (zS (k:=j) (j:=0) zf rfl rfl rfl rfl e2 rfl) rfl rfl ?_|refine AD.step _ _ _ _ _ rfl (zS (k:=j) (j:=0) zf rfl rfl rfl rfl e2 rfl) rfl rfl ?_|(refine shC ?_;first|refine qC (yC rfl 9) ?_)|(refine shX ?_;first|refine zx rfl (zK (k:=j) zf rfl rfl rfl rfl rfl rfl rfl hij l1) rfl rfl ?_|refine AD.step _ _ _ _ _ rfl (zK (k:=j) zf rfl rfl rfl rfl rfl rfl rfl hij l1) rfl rfl ?_|refine zx rfl (zK (k:=j) zf rfl rfl rfl rfl rfl rfl rfl hij l2) rfl rfl ?_|refine AD.step _ _ _ _ _ rfl (zK (k:=j) zf rfl rfl rfl rfl rfl rfl rfl hij l2) rfl rfl ?_)|(refine zn ?_;first|(refine yD (rnH g m k ⟨s.st,s.kn,wkT s l⟩) (rnH g m k ⟨s.st,s.kn,wkT s l⟩) [(1010,.pin (.own 10) (us 10))] [(0,.box 10 0),(1,.pv (pi i)),(2,.pv (pi t)),(3,.pv (tys l)),(25,.pv (pb false))] [10] zh rfl rfl rfl ?_ tS rfl rfl rfl hent ?_;· (repeat (first|exact zG|refine zD rfl ?_)))|(refine yD (rnH g m k ⟨s.st,s.kn,wkT s l⟩) (rnH g m k (qL t l ⟨s.st,s.kn,wkT s l⟩)) [(1010,.pin (.own 10) (us 10))] [] [10] zh rfl rfl rfl ?_ tS rfl rfl rfl (fun us=>zcT g m k ⟨s.st,s.kn,wkT s l⟩ t ht0 (by show t.toNat < s.st.length;omega) (by show s.kn.length=s.st.length;omega) l us) ?_;· (repeat (first|exact zG|refine zD rfl ?_))))|refine sK ?_|refine sC (fun _=>?_) (fun _=>?_)|fail)
     exact zcq hT (.inl rfl) ⟨by repeat (first|exact zG|refine zD rfl ?_),rfl⟩
    ·obtain rfl:eb=false:=by (rcases hg with h|h;· rw [h] at hl0;cases hl0);· exact h
     repeat' (first|refine zx rfl (zk (ps:=(zZ g)) zf rfl rfl rfl rfl rfl) rfl rfl ?_|refine AD.step _ _ _ _ _ rfl (zk (ps:=(zZ g)) zf rfl rfl rfl rfl rfl) rfl rfl ?_|refine zx rfl (zS (k:=j) (j:=0) zf rfl rfl rfl rfl e1 rfl) rfl rfl ?_|refine AD.step _ _ _ _ _ rfl (zS (k:=j) (j:=0) zf rfl rfl rfl rfl e1 rfl) rfl rfl ?_|refine zx rfl (zS (k:=j) (j:=0) zf rfl rfl rfl rfl e2 rfl) rfl rfl ?_|refine AD.step _ _ _ _ _ rfl (zS (k:=j) (j:=0) zf rfl rfl rfl rfl e2 rfl) rfl rfl ?_|(refine shC ?_;first|refine qC (yC rfl 9) ?_)|(refine shX ?_;first|refine zx rfl (zK (k:=j) zf rfl rfl rfl rfl rfl rfl rfl hij l1) rfl rfl ?_|refine AD.step _ _ _ _ _ rfl (zK (k:=j) zf rfl rfl rfl rfl rfl rfl rfl hij l1) rfl rfl ?_|refine zx rfl (zK (k:=j) zf rfl rfl rfl rfl rfl rfl rfl hij l2) rfl rfl ?_|refine AD.step _ _ _ _ _ rfl (zK (k:=j) zf rfl rfl rfl rfl rfl rfl rfl hij l2) rfl rfl ?_)|(refine zn ?_;first|(refine yD (rnH g m k ⟨s.st,s.kn,wkT s l⟩) (rnH g m k ⟨s.st,s.kn,wkT s l⟩) [(1010,.pin (.own 10) (us 10))] [(0,.box 10 0),(1,.pv (pi i)),(2,.pv (pi t)),(3,.pv (tys l)),(25,.pv (pb false))] [10] zh rfl rfl rfl ?_ tS rfl rfl rfl hent ?_;· (repeat (first|exact zG|refine zD rfl ?_)))|(refine yD (rnH g m k ⟨s.st,s.kn,wkT s l⟩) (rnH g m k (qL t l ⟨s.st,s.kn,wkT s l⟩)) [(1010,.pin (.own 10) (us 10))] [] [10] zh rfl rfl rfl ?_ tS rfl rfl rfl (fun us=>zcT g m k ⟨s.st,s.kn,wkT s l⟩ t ht0 (by show t.toNat < s.st.length;omega) (by show s.kn.length=s.st.length;omega) l us) ?_;· (repeat (first|exact zG|refine zD rfl ?_))))|refine sK ?_|refine sC (fun _=>?_) (fun _=>?_)|fail)
     exact zcq hT (.inl rfl) ⟨by repeat (first|exact zG|refine zD rfl ?_),rfl⟩
   ·rw [if_neg (by simp)] at hT
    generalize YB g a l=r at hT cm
    obtain ⟨rl,re⟩:=r
    simp only at hT cm
    rcases Bool.eq_false_or_eq_true (re==0) with hr|hr
    ·rw [if_pos hr] at hT
     rcases Bool.eq_false_or_eq_true ((((l.map yM).length:Nat):Int)==0) with hl0|hl0
     ·repeat' (first|refine zx rfl (zk (ps:=(zZ g)) zf rfl rfl rfl rfl rfl) rfl rfl ?_|refine AD.step _ _ _ _ _ rfl (zk (ps:=(zZ g)) zf rfl rfl rfl rfl rfl) rfl rfl ?_|refine zx rfl (zS (k:=j) (j:=0) zf rfl rfl rfl rfl e1 rfl) rfl rfl ?_|refine AD.step _ _ _ _ _ rfl (zS (k:=j) (j:=0) zf rfl rfl rfl rfl e1 rfl) rfl rfl ?_|refine zx rfl (zS (k:=j) (j:=0) zf rfl rfl rfl rfl e2 rfl) rfl rfl ?_|refine AD.step _ _ _ _ _ rfl (zS (k:=j) (j:=0) zf rfl rfl rfl rfl e2 rfl) rfl rfl ?_|(refine shC ?_;first|refine qC (yC rfl 9) ?_|refine qC cm ?_|refine qC (yC hr re) ?_)|(refine shX ?_;first|refine zx rfl (zK (k:=j) zf rfl rfl rfl rfl rfl rfl rfl hij l1) rfl rfl ?_|refine AD.step _ _ _ _ _ rfl (zK (k:=j) zf rfl rfl rfl rfl rfl rfl rfl hij l1) rfl rfl ?_|refine zx rfl (zK (k:=j) zf rfl rfl rfl rfl rfl rfl rfl hij l2) rfl rfl ?_|refine AD.step _ _ _ _ _ rfl (zK (k:=j) zf rfl rfl rfl rfl rfl rfl rfl hij l2) rfl rfl ?_)|(refine zn ?_;first|(refine yD (rnH g m k ⟨s.st,s.kn,wkT s l⟩) (rnH g m k ⟨s.st,s.kn,wkT s l⟩) [(1010,.pin (.own 10) (us 10))] [(0,.box 10 0),(1,.pv (pi i)),(2,.pv (pi t)),(3,.pv (tys l)),(25,.pv (pb false))] [10] zh rfl rfl rfl ?_ tS rfl rfl rfl hent ?_;· (repeat (first|exact zG|refine zD rfl ?_))))|(refine Yo ?_;first|refine XE (k:=j) (j:=0) zf rfl rfl rfl rfl rfl e1 rfl rfl rfl rfl rfl ?_)|refine sK ?_|refine sC (fun _=>?_) (fun _=>?_)|fail)
      exact zcq hT (.inl rfl) ⟨zD rfl (Zp rfl (by rw [hj];exact (List.map_set ..).symm) (zD rfl (zD rfl zG))),rfl⟩
     ·obtain rfl:eb=false:=by (rcases hg with h|h;· rw [h] at hl0;cases hl0);· exact h
      repeat' (first|refine zx rfl (zk (ps:=(zZ g)) zf rfl rfl rfl rfl rfl) rfl rfl ?_|refine AD.step _ _ _ _ _ rfl (zk (ps:=(zZ g)) zf rfl rfl rfl rfl rfl) rfl rfl ?_|refine zx rfl (zS (k:=j) (j:=0) zf rfl rfl rfl rfl e1 rfl) rfl rfl ?_|refine AD.step _ _ _ _ _ rfl (zS (k:=j) (j:=0) zf rfl rfl rfl rfl e1 rfl) rfl rfl ?_|refine zx rfl (zS (k:=j) (j:=0) zf rfl rfl rfl rfl e2 rfl) rfl rfl ?_|refine AD.step _ _ _ _ _ rfl (zS (k:=j) (j:=0) zf rfl rfl rfl rfl e2 rfl) rfl rfl ?_|(refine shC ?_;first|refine qC (yC rfl 9) ?_|refine qC cm ?_|refine qC (yC hr re) ?_)|(refine shX ?_;first|refine zx rfl (zK (k:=j) zf rfl rfl rfl rfl rfl rfl rfl hij l1) rfl rfl ?_|refine AD.step _ _ _ _ _ rfl (zK (k:=j) zf rfl rfl rfl rfl rfl rfl rfl hij l1) rfl rfl ?_|refine zx rfl (zK (k:=j) zf rfl rfl rfl rfl rfl rfl rfl hij l2) rfl rfl ?_|refine AD.step _ _ _ _ _ rfl (zK (k:=j) zf rfl rfl rfl rfl rfl rfl rfl hij l2) rfl rfl ?_)|(refine zn ?_;first|(refine yD (rnH g m k ⟨s.st,s.kn,wkT s l⟩) (rnH g m k ⟨s.st,s.kn,wkT s l⟩) [(1010,.pin (.own 10) (us 10))] [(0,.box 10 0),(1,.pv (pi i)),(2,.pv (pi t)),(3,.pv (tys l)),(25,.pv (pb false))] [10] zh rfl rfl rfl ?_ tS rfl rfl rfl hent ?_;· (repeat (first|exact zG|refine zD rfl ?_))))|(refine Yo ?_;first|refine XE (k:=j) (j:=0) zf rfl rfl rfl rfl rfl e1 rfl rfl rfl rfl rfl ?_)|refine sK ?_|refine sC (fun _=>?_) (fun _=>?_)|fail)
      exact zcq hT (.inl rfl) ⟨zD rfl (Zp rfl (by rw [hj];exact (List.map_set ..).symm) (zD rfl (zD rfl zG))),rfl⟩
    ·rw [if_neg (by rw [hr];simp)] at hT
     rcases Bool.eq_false_or_eq_true ((((l.map yM).length:Nat):Int)==0) with hl0|hl0
     ·repeat' (first|refine zx rfl (zk (ps:=(zZ g)) zf rfl rfl rfl rfl rfl) rfl rfl ?_|refine AD.step _ _ _ _ _ rfl (zk (ps:=(zZ g)) zf rfl rfl rfl rfl rfl) rfl rfl ?_|refine zx rfl (zS (k:=j) (j:=0) zf rfl rfl rfl rfl e1 rfl) rfl rfl ?_|refine AD.step _ _ _ _ _ rfl (zS (k:=j) (j:=0) zf rfl rfl rfl rfl e1 rfl) rfl rfl ?_|refine zx rfl (zS (k:=j) (j:=0) zf rfl rfl rfl rfl e2 rfl) rfl rfl ?_|refine AD.step _ _ _ _ _ rfl (zS (k:=j) (j:=0) zf rfl rfl rfl rfl e2 rfl) rfl rfl ?_|refine zl 3 3 rfl rfl rfl ?_|refine zA ([]) zh rfl rfl rfl tH (yX hr re) ?_|(refine shC ?_;first|refine qC (yC rfl 9) ?_|refine qC cm ?_)|(refine shX ?_;first|refine zx rfl (zK (k:=j) zf rfl rfl rfl rfl rfl rfl rfl hij l1) rfl rfl ?_|refine AD.step _ _ _ _ _ rfl (zK (k:=j) zf rfl rfl rfl rfl rfl rfl rfl hij l1) rfl rfl ?_|refine zx rfl (zK (k:=j) zf rfl rfl rfl rfl rfl rfl rfl hij l2) rfl rfl ?_|refine AD.step _ _ _ _ _ rfl (zK (k:=j) zf rfl rfl rfl rfl rfl rfl rfl hij l2) rfl rfl ?_)|(refine zn ?_;first|(refine yD (rnH g m k ⟨s.st,s.kn,wkT s l⟩) (rnH g m k ⟨s.st,s.kn,wkT s l⟩) [(1010,.pin (.own 10) (us 10))] [(0,.box 10 0),(1,.pv (pi i)),(2,.pv (pi t)),(3,.pv (tys l)),(25,.pv (pb false))] [10] zh rfl rfl rfl ?_ tS rfl rfl rfl hent ?_;· (repeat (first|exact zG|refine zD rfl ?_))))|refine sK ?_|refine sC (fun _=>?_) (fun _=>?_)|fail)
      exact zbT hT
     ·obtain rfl:eb=false:=by (rcases hg with h|h;· rw [h] at hl0;cases hl0);· exact h
      repeat' (first|refine zx rfl (zk (ps:=(zZ g)) zf rfl rfl rfl rfl rfl) rfl rfl ?_|refine AD.step _ _ _ _ _ rfl (zk (ps:=(zZ g)) zf rfl rfl rfl rfl rfl) rfl rfl ?_|refine zx rfl (zS (k:=j) (j:=0) zf rfl rfl rfl rfl e1 rfl) rfl rfl ?_|refine AD.step _ _ _ _ _ rfl (zS (k:=j) (j:=0) zf rfl rfl rfl rfl e1 rfl) rfl rfl ?_|refine zx rfl (zS (k:=j) (j:=0) zf rfl rfl rfl rfl e2 rfl) rfl rfl ?_|refine AD.step _ _ _ _ _ rfl (zS (k:=j) (j:=0) zf rfl rfl rfl rfl e2 rfl) rfl rfl ?_|refine zl 3 3 rfl rfl rfl ?_|refine zA ([]) zh rfl rfl rfl tH (yX hr re) ?_|(refine shC ?_;first|refine qC (yC rfl 9) ?_|refine qC cm ?_)|(refine shX ?_;first|refine zx rfl (zK (k:=j) zf rfl rfl rfl rfl rfl rfl rfl hij l1) rfl rfl ?_|refine AD.step _ _ _ _ _ rfl (zK (k:=j) zf rfl rfl rfl rfl rfl rfl rfl hij l1) rfl rfl ?_|refine zx rfl (zK (k:=j) zf rfl rfl rfl rfl rfl rfl rfl hij l2) rfl rfl ?_|refine AD.step _ _ _ _ _ rfl (zK (k:=j) zf rfl rfl rfl rfl rfl rfl rfl hij l2) rfl rfl ?_)|(refine zn ?_;first|(refine yD (rnH g m k ⟨s.st,s.kn,wkT s l⟩) (rnH g m k ⟨s.st,s.kn,wkT s l⟩) [(1010,.pin (.own 10) (us 10))] [(0,.box 10 0),(1,.pv (pi i)),(2,.pv (pi t)),(3,.pv (tys l)),(25,.pv (pb false))] [10] zh rfl rfl rfl ?_ tS rfl rfl rfl hent ?_;· (repeat (first|exact zG|refine zD rfl ?_))))|refine sK ?_|refine sC (fun _=>?_) (fun _=>?_)|fail)
      exact zbT hT
 rcases Bool.eq_false_or_eq_true ((((l.map yM).length:Nat):Int)==0) with hl0|hl0
 ·exact go (.inl hl0)
 ·cases eb
  ·exact go (.inr rfl)
  ·rw [if_pos (by rw [hl0];rfl)] at hT
   refine zH zf Tryz.func78 rfl (by kernel_rfl) Tryz.ntmps78 (by simp) _ rfl (fun gB hw1=>?_)
   repeat' (first|refine zx rfl (zk (ps:=(zZ g)) zf rfl rfl rfl rfl rfl) rfl rfl ?_|refine AD.step _ _ _ _ _ rfl (zk (ps:=(zZ g)) zf rfl rfl rfl rfl rfl) rfl rfl ?_|refine zx rfl (zS (k:=j) (j:=0) zf rfl rfl rfl rfl e1 rfl) rfl rfl ?_|refine AD.step _ _ _ _ _ rfl (zS (k:=j) (j:=0) zf rfl rfl rfl rfl e1 rfl) rfl rfl ?_|refine zx rfl (zS (k:=j) (j:=0) zf rfl rfl rfl rfl e2 rfl) rfl rfl ?_|refine AD.step _ _ _ _ _ rfl (zS (k:=j) (j:=0) zf rfl rfl rfl rfl e2 rfl) rfl rfl ?_|refine zl 1 10 rfl rfl rfl ?_|refine zA ([]) zh rfl rfl rfl tH (yX rfl 9) ?_|(refine shX ?_;first|refine zx rfl (zK (k:=j) zf rfl rfl rfl rfl rfl rfl rfl hij l1) rfl rfl ?_|refine AD.step _ _ _ _ _ rfl (zK (k:=j) zf rfl rfl rfl rfl rfl rfl rfl hij l1) rfl rfl ?_|refine zx rfl (zK (k:=j) zf rfl rfl rfl rfl rfl rfl rfl hij l2) rfl rfl ?_|refine AD.step _ _ _ _ _ rfl (zK (k:=j) zf rfl rfl rfl rfl rfl rfl rfl hij l2) rfl rfl ?_)|(refine zn ?_;first|(refine yD (rnH g m k ⟨s.st,s.kn,wkT s l⟩) (rnH g m k ⟨s.st,s.kn,wkT s l⟩) [(1010,.pin (.own 10) (us 10))] [(0,.box 10 0),(1,.pv (pi i)),(2,.pv (pi t)),(3,.pv (tys l)),(25,.pv (pb false))] [10] zh rfl rfl rfl ?_ tS rfl rfl rfl hent ?_;· (repeat (first|exact zG|refine zD rfl ?_))))|refine sK ?_|refine sC (fun _=>?_) (fun _=>?_)|fail)
   exact zbT hT
end Go.Cg
