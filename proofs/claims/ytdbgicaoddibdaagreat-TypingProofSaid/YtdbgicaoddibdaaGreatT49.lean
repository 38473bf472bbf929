/- A part of the walks by abstract values: no statement of its own. -/
import Derived.Test.YtdbgicaoddibdaaGreatT45
import Derived.Test.YtdbgicaoddibdaaGreatT47
import Derived.Test.YtdbgicaoddibdaaGreatT29
import Derived.Test.YtdbgicaoddibdaaGreatT42
set_option linter.unusedVariables false
set_option linter.unusedSimpArgs false
namespace Go.Cg
open Go.Proofs
set_option maxHeartbeats 20000000
theorem zhu (l:List Cl) (p:Cl→Bool) (f:FuncId) (first cap:List PV) (hp:∀ x∈l,ACall Tryz.prog f (first++[Zg x]++cap) (pb (p x))):ACall Tryz.prog 88 [cls l,.fn (.func f) first cap] (pi (if l.any p then ((l.findIdx p:Nat):Int) else -1)):=by
 refine zi zf Tryz.func88 rfl zws Tryz.ntmps88 zwy63 _ rfl (fun hw gB hgB=>?_);have hl:l.length≤9223372036854775807:=zqh hw.1
 repeat' (first|refine sA ?_|refine sC (fun _=>?_) (fun _=>?_)|fail)
 refine zW (fun k:Nat=>[(0,.pv (cls l)),(1,.pv (.fn (.func f) first cap)),(7,.pv (pi l.length)),(8,.pv (pi k))]) (fun _=>[]) (fun k=>k≤l.length∧∀ j (h:j < k) (h2:j < l.length),p l[j]=false) (fun k=>l.length - k) 0 ⟨by omega,fun j h=>by omega⟩ (tS) tH ?_;rintro k ⟨hk,hno⟩;by_cases hlt:k < l.length
 ·have he:=zY (f:=Zg) hlt;have c1:=hp _ (List.getElem_mem hlt);cases hpx:p l[k]
  ·rw [hpx] at c1
   repeat' (first|(refine shC ?_;first|refine qV (c1) ?_)|(refine shX ?_;first|refine qX he ?_)|refine sK ?_|refine sC (fun _=>?_) (fun _=>?_)|fail)
   exact ⟨k + 1,⟨hlt,fun j hj h2=>by
    by_cases e:j=k
    ·subst e;exact hpx
    ·exact hno j zwy62 h2⟩,tD,tS,tH⟩
  ·rw [hpx] at c1;have hi:l.findIdx p=k:=by
    rw [List.findIdx_eq hlt];exact ⟨hpx,fun j hj=>hno j hj zwy62⟩
   have ha:l.any p=true:=List.any_eq_true.2 ⟨_,List.getElem_mem hlt,hpx⟩
   repeat' (first|(refine shC ?_;first|refine qV (c1) ?_)|(refine shX ?_;first|refine qX he ?_)|refine sK ?_|refine sC (fun _=>?_) (fun _=>?_)|fail)
   exact retq rfl (by simp [zC,ha,hi])
 ·have ha:l.any p=false:=by
   rw [List.any_eq_false];intro x hx;obtain ⟨j,hj,rfl⟩:=List.getElem_of_mem hx;simp [hno j zwy62 hj]
  repeat' (first|refine sK ?_|refine sC (fun _=>?_) (fun _=>?_)|fail)
  exact retq rfl (by simp [zC,ha])
theorem zaC (l:List Cl) (p:Cl→Bool) (f:FuncId) (first cap:List PV) (hp:∀ x∈l,ACall Tryz.prog f (first++[Zg x]++cap) (pb (p x))):ACall Tryz.prog 46 [cls l,.fn (.func f) first cap] (pb (l.any p)):=by
 refine zi zf Tryz.func46 rfl zws Tryz.ntmps46 zwy63 _ rfl (fun hw gB hgB=>?_);have c1:=zhu l p f first cap hp
 repeat' (first|(refine shC ?_;first|refine qC c1 ?_)|refine sA ?_|refine sC (fun _=>?_) (fun _=>?_)|fail)
 refine ay ?_;cases h:l.any p <;> simp [zC]
theorem zlU (c:Cl) (i to:Int):ACall Tryz.prog 154 [Zg c,.ptr (pi to) 0,.ptr (pi i) 0] (pb (c.tf==to&&(decide (i < c.tf)||decide (c.tt≤i)))):=by
 rcases Bool.eq_false_or_eq_true (c.tf==to) with h0|h0 <;> rcases Bool.eq_false_or_eq_true (decide (i < c.tf)) with h1|h1 <;> (
  refine zi zf Tryz.func154 rfl zws Tryz.ntmps154 zwy63 _ rfl (fun hw gB hgB=>?_)
  repeat' (first|refine sK ?_|refine sC (fun _=>?_) (fun _=>?_)|fail)
  exact retq rfl (by simp [zC,h0,h1]))
abbrev rnC (g:Img) (m:Me) (k wk:Int):AV:=.agg [.pv (.slc 4 (g.types.map ZB) false),.pv (.slc 7 (g.fields.map Yo) false),.pv (.slc 12 (g.methods.map yh) false),.pv (pi g.entry),.pv (ps m.name),.pv (pi m.owner),.pv (pi m.flags),.pv (tys m.params),.pv (pi m.ret.kind),.pv (pi m.ret.index),.pv (pi m.ret.dims),.pv (pb m.ret.ref),.pv (tys m.locals),.pv (pi m.max),.pv (.slc 6 (m.code.map qx) false),.pv (.slc 10 (m.clauses.map Zg) false),.pv (pi k),.pv (.ptr (zO g) 0),.own 11,.pv (pi wk),.own 12]
abbrev rnH (g:Img) (m:Me) (k:Int) (s:VS):HEnv:=[(10,.cell (rnC g m k s.wk)),(11,.mrow 47 1 (s.st.map tys)),(12,.mrow 4 1 (s.kn.map pb))]
def bgH (g:Img) (m:Me) (k:Int) (s:VS) (us:Nat→Value) (i:Nat) (l:List Ty):Nat→HEnv
 | 0=>rnH g m k s++qE us [10]
 | 1=>(11,.mrow 47 1 ((s.st.map tys).set i (tys l)))::(rnH g m k s++qE us [10])
 | _=>(12,.mrow 4 1 ((s.kn.map pb).set i (pb true)))::(11,.mrow 47 1 ((s.st.map tys).set i (tys l)))::(rnH g m k s++qE us [10])
abbrev bgT (g:Img) (m:Me) (k:Int) (s:VS) (us:Nat→Value):HEnv:=[(10,.cell (rnC g m k s.wk)),(11,.dead),(12,.dead),(1010,.pin (.own 10) (us 10))]
theorem zs8 (g:Img) (m:Me) (k:Int) (s:VS) (us:Nat→Value) (i:Nat) (l:List Ty):∀ p,p < 3→qg (bgH g m k s us i l p) (bgT g m k s us)=true∧qg (bgT g m k s us) (bgH g m k s us i l p)=true:=by
 intro p h;have hp:p=0∨p=1∨p=2:=by omega
 rcases hp with rfl|rfl|rfl <;> exact ⟨rfl,rfl⟩
theorem zuW (g:Img) (m:Me) (k:Int) (s:VS) (us:Nat→Value) (i:Nat) (l:List Ty) {gB:Base}:∀ p,p≤2→∀ K ρ w,FS gB K ρ (bgH g m k s us i l p) w→FS gB K ρ (bgT g m k s us) w:=by
 intro p h K ρ w hf;have hp:p=0∨p=1∨p=2:=by omega
 rcases hp with rfl|rfl|rfl <;> exact ((hf.kill 11).kill 12).narrow (e:=[]) tH
theorem zd7 (g:Img) (m:Me) (k:Int) (s:VS) (i:Int) (h0:0≤i) (h1:i.toNat < s.st.length) (h2:s.kn.length=s.st.length) (l:List Ty) (us:Nat→Value) :
  ACallM Tryz.prog 33 [.box 10 0,.pv (pi i),.pv (tys l)] (rnH g m k s++qE us [10]) (.pv (.tup [])) (rnH g m k (qo i l s)++qE us [10]):=by
 obtain ⟨j,hj⟩:∃ j,j=i.toNat:=⟨_,rfl⟩
 have hij:i=(j:Int):=by omega
 have e1:(s.st.map tys)[j]?=some (tys (s.st[j]'zwy62)):=zY zwy62;have e2:(s.kn.map pb)[j]?=some (pb (s.kn[j]'zwy62)):=zY zwy62;have l1:j < (s.st.map tys).length:=by rw [List.length_map];omega
 have l2:j < (s.kn.map pb).length:=by rw [List.length_map];omega
 refine yB zf Tryz.func33 rfl zws Tryz.ntmps33 zwy63 _ rfl (fun gB hw1=>?_)
 repeat' (first|refine Zr 16 16 [13,15] [[18],[19]] (bgH g m k s us j l) (fun _=>bgT g m k s us) (bgT g m k s us) none rfl zws zws zws zws zws zws zws (fun p hp=>zs8 g m k s us j l p zwy107) rfl (fun p hp=>zuW g m k s us j l p hp) rfl (fun _ _ _ _=>rfl) (fun _ _=>rfl) tH rfl (fun v hv=>by cases hv) ?_|refine QF 0 1 [0,2] rfl rfl zws ?_|refine Qp 12 [1,3] rfl rfl ?_|refine Zt [1] (.pv (.tup [])) rfl rfl rfl ?_|refine QF 1 1 [0] rfl rfl zws ?_|refine Zt [] (.pv (.tup [])) rfl rfl rfl ?_|refine ZV ?_|refine ⟨⟨rfl,qB (k:=j) (j:=0) zf rfl rfl rfl rfl e1 rfl rfl rfl rfl,.inl rfl⟩,?_⟩|refine ⟨⟨rfl,qB (k:=j) (j:=0) zf rfl rfl rfl rfl e2 rfl rfl rfl rfl,.inl rfl⟩,?_⟩|intro _|refine QL ?_|(refine shX ?_;first|refine zy rfl (zK (k:=j) zf rfl rfl rfl rfl rfl rfl rfl hij l1) rfl rfl ?_|refine zq rfl (zK (k:=j) zf rfl rfl rfl rfl rfl rfl rfl hij l1) rfl rfl ?_|refine zy rfl (zK (k:=j) zf rfl rfl rfl rfl rfl rfl rfl hij l2) rfl rfl ?_|refine zq rfl (zK (k:=j) zf rfl rfl rfl rfl rfl rfl rfl hij l2) rfl rfl ?_)|refine sK ?_|refine sC (fun _=>?_) (fun _=>?_)|fail)
 exact ⟨.inl rfl,.inl ⟨[],rfl,rfl,⟨zx rfl (Zh rfl (by rw [hj];exact (List.map_set ..).symm) (Zh rfl (by rw [hj];exact (List.map_set ..).symm) (aB zA))),rfl⟩⟩⟩
set_option maxHeartbeats 20000000
structure LenV (n:Nat) (s:VS):Prop where
 st:s.st.length=n
 kn:s.kn.length=n
theorem Qg {n:Nat} {s:VS} (h:LenV n s) (i:Int) (l:List Ty):LenV n (qo i l s):=⟨by simp [qo,h.st],by simp [qo,h.kn]⟩
theorem zsl {n:Nat} {s:VS} (h:LenV n s) (c:Cl):LenV n (YK s c):=by
 unfold YK;split
 ·exact Qg h _ _
 ·split
  ·exact Qg (Qg h _ _) _ _
  ·exact Qg h _ _
theorem zee {n:Nat}:∀ (l:List Cl) {s:VS},LenV n s→LenV n (l.foldl YK s)
 | [],_,h=>h
 | c::l,_,h=>zee l (zsl h c)
theorem QI (g:Img) (m:Me) (k:Int) {n:Nat} {s:VS} (hs:LenV n s) (i:Int) (hi:0≤i∧i.toNat < n) (l:List Ty) (q:PV) (hq:PTells q (tys l)) (us:Nat→Value) :
  ACallM Tryz.prog 33 [.box 10 0,.pv (pi i),.pv q] (rnH g m k s++qE us [10]) (.pv (.tup [])) (rnH g m k (qo i l s)++qE us [10]) :=
 (zd7 g m k s i hi.1 (by rw [hs.st];exact hi.2) (by rw [hs.st,hs.kn]) l us).tells rfl fun k c c' h1 h2=>by
  match k,h1,h2 with
  | 0,h1,h2=>simp at h1 h2;exact .inl (h2.symm.trans h1)
  | 1,h1,h2=>simp at h1 h2;exact .inl (h2.symm.trans h1)
  | 2,h1,h2=>simp at h1 h2;exact .inr ⟨_,_,h1.symm,h2.symm,hq⟩
theorem zhJ:∀ l:List PV,PTL l l
 | []=>XR
 | _::l=>ql (.refl _) (zhJ l)
theorem zqE (a:Ty):PTells (.slc 4 [yJ a] true) (tys [a]):=zdT (Xq (zhJ _) zcg)
def zw1 (n:Nat) (c:Cl):Prop:=(0≤c.hf∧c.hf.toNat < n)∧(c.kind=2→0≤c.filter∧c.filter.toNat < n)
abbrev zdW:Ty:=⟨4,0,0,false⟩
theorem zwk18 {G:Prop} (h:G:=by repeat' (first|(refine shX ?_;first|(have:=b0;refine qX he ?_))|(have:=b1;refine zn ?_;first|(refine yD (rnH g m k S) (rnH g m k (qo c.hf [c.t] S)) [(1010,.pin (.own 10) (us 10)),(0,.cell (.pv (yJ zdW)))] [(0,.box 10 0),(2,.box 0 0),(11,.pv (cls m.clauses)),(12,.pv (pi m.clauses.length)),(13,.pv (pi j))] [10] zh rfl rfl rfl ?_ tS rfl rfl rfl (fun us=>QI g m k hl c.hf hc.1 [c.t] _ (zqE c.t) us) ?_;· (repeat (first|exact zA|refine aB ?_))))|(have:=b2;refine zn ?_;first|(refine yD (rnH g m k S) (rnH g m k (qo c.hf [zdW] S)) [(1010,.pin (.own 10) (us 10)),(0,.cell (.pv (yJ zdW))),(1,.cell (.pv (Zg c)))] [(0,.box 10 0),(2,.box 0 0),(11,.pv (cls m.clauses)),(12,.pv (pi m.clauses.length)),(13,.pv (pi j)),(4,.box 1 0)] [10] zh rfl rfl rfl ?_ tS rfl rfl rfl (fun us=>QI g m k hl c.hf hc.1 [zdW] _ (zqE zdW) us) ?_;· (repeat (first|exact zA|refine aB ?_)))|(refine yD (rnH g m k (qo c.hf [zdW] S)) (rnH g m k (qo c.filter [zdW] (qo c.hf [zdW] S))) [(1010,.pin (.own 10) (us 10)),(0,.cell (.pv (yJ zdW)))] [(0,.box 10 0),(2,.box 0 0),(11,.pv (cls m.clauses)),(12,.pv (pi m.clauses.length)),(13,.pv (pi j))] [10] zh rfl rfl rfl ?_ tS rfl rfl rfl (fun us=>QI g m k (Qg hl _ _) c.filter hf [zdW] _ (zqE zdW) us) ?_;· (repeat (first|exact zA|refine aB ?_))))|(have:=b3;refine zn ?_;first|(refine yD (rnH g m k S) (rnH g m k (qo c.hf [] S)) [(1010,.pin (.own 10) (us 10)),(0,.cell (.pv (yJ zdW)))] [(0,.box 10 0),(2,.box 0 0),(11,.pv (cls m.clauses)),(12,.pv (pi m.clauses.length)),(13,.pv (pi j))] [10] zh rfl rfl rfl ?_ tS rfl rfl rfl (fun us=>QI g m k hl c.hf hc.1 [] _ (Qz 4 false) us) ?_;· (repeat (first|exact zA|refine aB ?_))))|refine sK ?_|refine sC (fun _=>?_) (fun _=>?_)|(have:=b0;exact ⟨j + 1,hlt,tD,tS,by dsimp only;rw [hn,hh];exact tH⟩)|(have:=b4;exact ⟨.inl rfl,.inl ⟨[],rfl,rfl,by rw [List.take_of_length_le zwy62];exact ⟨by repeat (first|exact zA|refine aB ?_),rfl⟩⟩⟩)|fail)):G:=h
theorem zbe (g:Img) (m:Me) (k:Int) {n:Nat} (s:VS) (hs:LenV n s) (hin:∀ c∈m.clauses,zw1 n c) (hcl:m.clauses.length≤1000) (us:Nat→Value) :
  ACallM Tryz.prog 34 [.box 10 0] (rnH g m k s++qE us [10]) (.pv (.tup [])) (rnH g m k (m.clauses.foldl YK s)++qE us [10]):=by
 refine yB zf Tryz.func34 rfl zws Tryz.ntmps34 zwy63 _ rfl (fun gB hw1=>?_)
 repeat' (first|refine sK ?_|refine sC (fun _=>?_) (fun _=>?_)|fail)
 refine zW (fun j:Nat=>[(0,.box 10 0),(2,.box 0 0),(11,.pv (cls m.clauses)),(12,.pv (pi m.clauses.length)),(13,.pv (pi j))]) (fun j=>rnH g m k ((m.clauses.take j).foldl YK s)++qE us [10]++[(0,.cell (.pv (yJ zdW)))]) (fun j=>j≤m.clauses.length) (fun j=>m.clauses.length - j) 0 zwy62 (tS) tH ?_;intro j hj;by_cases hlt:j < m.clauses.length
 ·have he:=zY (f:=Zg) hlt;have hc:=hin _ (List.getElem_mem hlt);obtain ⟨S,hS⟩:∃ S,S=(m.clauses.take j).foldl YK s:=⟨_,rfl⟩
  have hn:(m.clauses.take (j + 1)).foldl YK s=YK S m.clauses[j]:=by rw [List.take_succ_eq_append_getElem hlt,List.foldl_append,hS];rfl
  have hl:LenV n S:=by rw [hS];exact zee _ hs
  rw [←hS];generalize m.clauses[j]=c at he hc hn;rcases Bool.eq_false_or_eq_true (c.kind==1) with h1|h1
  ·have hh:YK S c=qo c.hf [c.t] S:=by rw [YK,if_pos h1]
   have b0:=();have b1:=();exact zwk18
  ·rcases Bool.eq_false_or_eq_true (c.kind==2) with h2|h2
   ·have hh:YK S c=qo c.filter [zdW] (qo c.hf [zdW] S):=by rw [YK,if_neg (by rw [h1];simp),if_pos h2]
    have hf:=hc.2 (by simpa using h2);have b0:=();have b2:=();exact zwk18
   ·have hh:YK S c=qo c.hf [] S:=by rw [YK,if_neg (by rw [h1];simp),if_neg (by rw [h2];simp)]
    have b0:=();have b3:=();exact zwk18
 ·have b4:=();exact zwk18
theorem znQ (g:Img) (m:Me) (k:Int) (s:VS) (i t:Int) (us:Nat→Value) :
  ACallM Tryz.prog 110 [.box 10 0,.pv (pi i),.pv (pi t)] (rnH g m k s++qE us [10]) (.pv (pb (XA m i t))) (rnH g m k s++qE us [10]):=by
 have cc:=zaC m.clauses (fun c=>c.tf==t&&(decide (i < c.tf)||decide (c.tt≤i))) 154 [] [.ptr (pi t) 0,.ptr (pi i) 0] (fun c _=>zlU c i t);refine yB zf Tryz.func110 rfl zws Tryz.ntmps110 zwy63 _ rfl (fun gB hw1=>?_)
 repeat' (first|(refine shC ?_;first|refine qC cc ?_)|refine sK ?_|refine sC (fun _=>?_) (fun _=>?_)|fail)
 exact ⟨.inr rfl,.inl ⟨_,rfl,rfl,⟨by repeat (first|exact zA|refine aB ?_),rfl⟩⟩⟩
def outT (g:Img) (m:Me) (k:Int) (us:Nat→Value):Except Int VS→Out
 | .ok s=>.ret (.pv (.tup [])) (rnH g m k s++qE us [10])
 | .error e=>.pan (zhq e)
theorem zdl {g:Img} {m:Me} {k:Int} {us:Nat→Value} {r:Except Int VS} {s:VS} {tb:Tab} {ex:Exit} {env:Env} {H:HEnv} (h:r=.ok s) (he:ex=.normal∨ex=.ret) (hf:Yj H (rnH g m k s++qE us [10]) []):zla tb [] (outT g m k us r) ex env H:=by
 rw [h];exact ⟨he,.inl ⟨[],rfl,rfl,hf⟩⟩
theorem zcP {g:Img} {m:Me} {k:Int} {us:Nat→Value} {r:Except Int VS} {e:Int} {tb:Tab} {rs:List ResultVar} {env:Env} {H:HEnv} (h:r=.error e):zla tb rs (outT g m k us r) (.panic [{ v:=zhq e,recovered:=false }]) env H:=by
 rw [h];rfl
abbrev wkT (s:VS) (l:List Ty):Int:=IntKind.i64.wrap (s.wk + IntKind.i64.wrap (1 + (((l.map yJ).length:Nat):Int)))
theorem zwk19 {G:Prop} (h:G:=by repeat' (first|refine zy rfl (aj (ps:=(zZ g))) rfl rfl ?_|refine zq rfl (aj (ps:=(zZ g))) rfl rfl ?_|refine zy rfl (au (k:=j) (j:=0) e1) rfl rfl ?_|refine zq rfl (au (k:=j) (j:=0) e1) rfl rfl ?_|refine zy rfl (au (k:=j) (j:=0) e2) rfl rfl ?_|refine zq rfl (au (k:=j) (j:=0) e2) rfl rfl ?_|(have:=b0;refine yV 16 15 rfl zws zws zws zws zws ?_)|(have:=b0;refine zD ([]) zh rfl rfl rfl tH (yY rfl 14) ?_)|(have:=b1;refine zl 3 3 rfl rfl rfl ?_)|(have:=b1;refine zD ([]) zh rfl rfl rfl tH (yY hr re) ?_)|(refine shC ?_;first|(have:=b2;refine qC (yx rfl 9) ?_)|(have:=b3;refine qC cf ?_)|(have:=b4;refine qC (yx rfl 14) ?_)|(have:=b5;refine qC cm ?_)|(have:=b6;refine qC (yx hr re) ?_))|(have:=b7;refine zl 1 10 rfl rfl rfl ?_)|(have:=b7;refine zD ([]) zh rfl rfl rfl tH (yY rfl 9) ?_)|(refine shX ?_;first|refine zy rfl (zK (k:=j) zf rfl rfl rfl rfl rfl rfl rfl hij l1) rfl rfl ?_|refine zq rfl (zK (k:=j) zf rfl rfl rfl rfl rfl rfl rfl hij l1) rfl rfl ?_|refine zy rfl (zK (k:=j) zf rfl rfl rfl rfl rfl rfl rfl hij l2) rfl rfl ?_|refine zq rfl (zK (k:=j) zf rfl rfl rfl rfl rfl rfl rfl hij l2) rfl rfl ?_)|(have:=b8;refine zn ?_;first|(refine yD (rnH g m k ⟨s.st,s.kn,wkT s l⟩) (rnH g m k ⟨s.st,s.kn,wkT s l⟩) [(1010,.pin (.own 10) (us 10))] [(0,.box 10 0),(1,.pv (pi i)),(2,.pv (pi t)),(3,.pv (tys l)),(25,.pv (pb false))] [10] zh rfl rfl rfl ?_ tS rfl rfl rfl hent ?_;· (repeat (first|exact zA|refine aB ?_))))|(have:=b9;refine zn ?_;first|(refine yD (rnH g m k ⟨s.st,s.kn,wkT s l⟩) (rnH g m k ⟨s.st,s.kn,wkT s l⟩) [(1010,.pin (.own 10) (us 10))] [(0,.box 10 0),(1,.pv (pi i)),(2,.pv (pi t)),(3,.pv (tys l)),(25,.pv (pb false))] [10] zh rfl rfl rfl ?_ tS rfl rfl rfl hent ?_;· (repeat (first|exact zA|refine aB ?_)))|(refine yD (rnH g m k ⟨s.st,s.kn,wkT s l⟩) (rnH g m k (qo t l ⟨s.st,s.kn,wkT s l⟩)) [(1010,.pin (.own 10) (us 10))] [] [10] zh rfl rfl rfl ?_ tS rfl rfl rfl (fun us=>zd7 g m k ⟨s.st,s.kn,wkT s l⟩ t ht0 (by show t.toNat < s.st.length;omega) (by show s.kn.length=s.st.length;omega) l us) ?_;· (repeat (first|exact zA|refine aB ?_))))|(have:=b6;refine Yd ?_;first|refine XP (k:=j) (j:=0) zf rfl rfl rfl rfl rfl e1 rfl rfl rfl rfl rfl ?_)|refine sK ?_|refine sC (fun _=>?_) (fun _=>?_)|(have:=b10;exact zdl hT (.inl rfl) ⟨by repeat (first|exact zA|refine aB ?_),rfl⟩)|(have:=b6;exact zdl hT (.inl rfl) ⟨zx rfl (Zh rfl (by rw [hj];exact (List.map_set ..).symm) (zx rfl (aB zA))),rfl⟩)|exact zcP hT|fail)):G:=h
set_option maxHeartbeats 8000000 in
theorem zqI {g:Img} (hF:Fm g) (m:Me) (k:Int) {n:Nat} {s:VS} (hs:LenV n s) (i t:Int) (hst:(YM s t).length≤1000) (hwk:0≤s.wk∧s.wk≤1000000) (ht0:0≤t) (ht1:t.toNat < n) (l:List Ty) (hll:l.length≤1000) (us:Nat→Value) :
  Qe Tryz.prog 69 [.box 10 0,.pv (pi i),.pv (pi t),.pv (tys l)] (rnH g m k s++qE us [10]) (outT g m k us (toV g m i t l s)):=by
 have hW:s.wk + (1 + (l.length:Int))=wkT s l:=by
  rw [wkT,List.length_map,wrap_in (a:=1 + (l.length:Int)) zwy62 zwy62,wrap_in zwy62 zwy62]
 have hT:toV g m i t l s=if !(l.isEmpty||!XA m i t) then .error 9
   else if decide (t≤i) then (if Zl g l (YM s t) then .ok ⟨s.st,s.kn,wkT s l⟩ else .error 14)
   else if !s.kn.getD t.toNat false then .ok (qo t l ⟨s.st,s.kn,wkT s l⟩)
   else if (Zp g (YM s t) l).2==0 then .ok ⟨s.st.set t.toNat (Zp g (YM s t) l).1,s.kn,wkT s l⟩ else .error (Zp g (YM s t) l).2:=by
  rw [toV,hW]
 have hent:=znQ g m k ⟨s.st,s.kn,wkT s l⟩ i t;have hE:l.isEmpty=((((l.map yJ).length:Nat):Int)==0):=by
  rw [List.length_map];cases l <;> simp;omega
 obtain ⟨j,hj⟩:∃ j,j=t.toNat:=⟨_,rfl⟩
 have hij:t=(j:Int):=by omega
 have h1:=hs.st;have h2:=hs.kn;have e1:(s.st.map tys)[j]?=some (tys (YM s t)):=by rw [YM,←hj,zT zwy62];exact zY zwy62
 have e2:(s.kn.map pb)[j]?=some (pb (s.kn.getD t.toNat false)):=by rw [←hj,zT zwy62];exact zY zwy62
 have l1:j < (s.st.map tys).length:=by rw [List.length_map];omega
 have l2:j < (s.kn.map pb).length:=by rw [List.length_map];omega
 have cf:=XE g l (YM s t) hF;have cm:=zlF g (YM s t) l hF hst;rw [hE] at hT;generalize s.kn.getD t.toNat false=kb at e2 hT;generalize YM s t=a at e1 hT cf cm;generalize XA m i t=eb at hT hent;have go:((((l.map yJ).length:Nat):Int)==0)=true∨eb=false→Qe Tryz.prog 69 [.box 10 0,.pv (pi i),.pv (pi t),.pv (tys l)] (rnH g m k s++qE us [10]) (outT g m k us (toV g m i t l s)):=by
  intro hg;rw [if_neg (by rcases hg with h|h <;> rw [h] <;> simp)] at hT;refine zI zf Tryz.func69 rfl zws Tryz.ntmps69 zwy63 _ rfl (fun gB hw1=>?_);by_cases hti:t≤i
  ·have d1:decide (t≤i)=true:=decide_eq_true hti;rw [if_pos d1] at hT;generalize Zl g l a=fb at hT cf;cases fb
   ·rw [if_neg zwy63] at hT;rcases Bool.eq_false_or_eq_true ((((l.map yJ).length:Nat):Int)==0) with hl0|hl0
    ·have b0:=();have b2:=();have b3:=();have b8:=();exact zwk19
    ·obtain rfl:eb=false:=by (rcases hg with h|h;· rw [h] at hl0;cases hl0);· exact h
     have b0:=();have b2:=();have b3:=();have b8:=();exact zwk19
   ·rw [if_pos rfl] at hT;rcases Bool.eq_false_or_eq_true ((((l.map yJ).length:Nat):Int)==0) with hl0|hl0
    ·have b2:=();have b3:=();have b4:=();have b8:=();have b10:=();exact zwk19
    ·obtain rfl:eb=false:=by (rcases hg with h|h;· rw [h] at hl0;cases hl0);· exact h
     have b2:=();have b3:=();have b4:=();have b8:=();have b10:=();exact zwk19
  ·have d1:decide (t≤i)=false:=decide_eq_false hti;rw [if_neg (by rw [d1];simp)] at hT;cases kb
   ·rw [if_pos (show (!false)=true from rfl)] at hT;rcases Bool.eq_false_or_eq_true ((((l.map yJ).length:Nat):Int)==0) with hl0|hl0
    ·have b2:=();have b9:=();have b10:=();exact zwk19
    ·obtain rfl:eb=false:=by (rcases hg with h|h;· rw [h] at hl0;cases hl0);· exact h
     have b2:=();have b9:=();have b10:=();exact zwk19
   ·rw [if_neg zwy63] at hT;generalize Zp g a l=r at hT cm;obtain ⟨rl,re⟩:=r;simp only at hT cm;rcases Bool.eq_false_or_eq_true (re==0) with hr|hr
    ·rw [if_pos hr] at hT;rcases Bool.eq_false_or_eq_true ((((l.map yJ).length:Nat):Int)==0) with hl0|hl0
     ·have b2:=();have b5:=();have b6:=();have b8:=();exact zwk19
     ·obtain rfl:eb=false:=by (rcases hg with h|h;· rw [h] at hl0;cases hl0);· exact h
      have b2:=();have b5:=();have b6:=();have b8:=();exact zwk19
    ·rw [if_neg (by rw [hr];simp)] at hT;rcases Bool.eq_false_or_eq_true ((((l.map yJ).length:Nat):Int)==0) with hl0|hl0
     ·have b1:=();have b2:=();have b5:=();have b8:=();exact zwk19
     ·obtain rfl:eb=false:=by (rcases hg with h|h;· rw [h] at hl0;cases hl0);· exact h
      have b1:=();have b2:=();have b5:=();have b8:=();exact zwk19
 rcases Bool.eq_false_or_eq_true ((((l.map yJ).length:Nat):Int)==0) with hl0|hl0
 ·exact go (.inl hl0)
 ·cases eb
  ·exact go (.inr rfl)
  ·rw [if_pos (by rw [hl0];rfl)] at hT;refine zI zf Tryz.func69 rfl zws Tryz.ntmps69 zwy63 _ rfl (fun gB hw1=>?_);have b7:=();have b8:=();exact zwk19
end Go.Cg
