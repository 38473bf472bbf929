/- A part of the walks by abstract values: no statement of its own. -/
import Derived.Test.YtdngpcmllgnbjaaGreatE42
import Derived.Test.YtdngpcmllgnbjaaGreatE34
import Derived.Test.YtdngpcmllgnbjaaGreatE30
import Derived.Test.YtdngpcmllgnbjaaGreatE40
set_option linter.unusedVariables false
set_option linter.unusedSimpArgs false
namespace Go.Cg
open Go.Proofs
set_option maxHeartbeats 20000000
theorem zgj (l:List Cl) (p:Cl→Bool) (f:FuncId) (first cap:List PV) (hp:∀ x∈l,ACall Tryz.prog f (first++[ZJ x]++cap) (pb (p x))):ACall Tryz.prog 164 [cls l,.fn (.func f) first cap] (pi (if l.any p then ((l.findIdx p:Nat):Int) else -1)):=by
 refine zf zh Tryz.func164 rfl (by kernel_rfl) Tryz.ntmps164 (by simp) _ rfl (fun hw gB hgB=>?_)
 have hl:l.length≤9223372036854775807:=zpD hw.1
 repeat' (first|refine sA ?_|refine sC (fun _=>?_) (fun _=>?_)|fail)
 refine zB (fun k:Nat=>[(0,.pv (cls l)),(1,.pv (.fn (.func f) first cap)),(7,.pv (pi l.length)),(8,.pv (pi k))]) (fun _=>[]) (fun k=>k≤l.length∧∀ j (h:j < k) (h2:j < l.length),p l[j]=false) (fun k=>l.length - k) 0 ⟨by omega,fun j h=>by omega⟩ (tS) tH ?_
 rintro k ⟨hk,hno⟩
 by_cases hlt:k < l.length
 ·have he:=yc (f:=ZJ) hlt
  have c1:=hp _ (List.getElem_mem hlt)
  cases hpx:p l[k]
  ·rw [hpx] at c1
   repeat' (first|(refine shC ?_;first|refine qV (c1) ?_)|(refine shX ?_;first|refine qX he ?_)|refine sK ?_|refine sC (fun _=>?_) (fun _=>?_)|fail)
   exact ⟨k + 1,⟨hlt,fun j hj h2=>by
    by_cases e:j=k
    ·subst e;exact hpx
    ·exact hno j (by omega) h2⟩,tD,tS,tH⟩
  ·rw [hpx] at c1
   have hi:l.findIdx p=k:=by
    rw [List.findIdx_eq hlt]
    exact ⟨hpx,fun j hj=>hno j hj (by omega)⟩
   have ha:l.any p=true:=List.any_eq_true.2 ⟨_,List.getElem_mem hlt,hpx⟩
   repeat' (first|(refine shC ?_;first|refine qV (c1) ?_)|(refine shX ?_;first|refine qX he ?_)|refine sK ?_|refine sC (fun _=>?_) (fun _=>?_)|fail)
   exact retq rfl (by simp [zn,ha,hi])
 ·have ha:l.any p=false:=by
   rw [List.any_eq_false]
   intro x hx
   obtain ⟨j,hj,rfl⟩:=List.getElem_of_mem hx
   simp [hno j (by omega) hj]
  repeat' (first|refine sK ?_|refine sC (fun _=>?_) (fun _=>?_)|fail)
  exact retq rfl (by simp [zn,ha])
theorem zdo (l:List Cl) (p:Cl→Bool) (f:FuncId) (first cap:List PV) (hp:∀ x∈l,ACall Tryz.prog f (first++[ZJ x]++cap) (pb (p x))):ACall Tryz.prog 82 [cls l,.fn (.func f) first cap] (pb (l.any p)):=by
 refine zf zh Tryz.func82 rfl (by kernel_rfl) Tryz.ntmps82 (by simp) _ rfl (fun hw gB hgB=>?_)
 have c1:=zgj l p f first cap hp
 repeat' (first|(refine shC ?_;first|refine qC c1 ?_)|refine sA ?_|refine sC (fun _=>?_) (fun _=>?_)|fail)
 refine retq rfl ?_
 cases h:l.any p <;> simp [zn]
theorem zkQ (c:Cl) (i to:Int):ACall Tryz.prog 353 [ZJ c,.ptr (pi to) 0,.ptr (pi i) 0] (pb (c.tf==to&&(decide (i < c.tf)||decide (c.tt≤i)))):=by
 rcases Bool.eq_false_or_eq_true (c.tf==to) with h0|h0 <;> rcases Bool.eq_false_or_eq_true (decide (i < c.tf)) with h1|h1 <;> (
  refine zf zh Tryz.func353 rfl (by kernel_rfl) Tryz.ntmps353 (by simp) _ rfl (fun hw gB hgB=>?_)
  repeat' (first|refine sK ?_|refine sC (fun _=>?_) (fun _=>?_)|fail)
  exact retq rfl (by simp [zn,h0,h1]))
abbrev rnC (g:Img) (m:Me) (k wk:Int):AV:=.agg [.pv (.slc 4 (g.types.map qU) false),.pv (.slc 7 (g.fields.map ZI) false),.pv (.slc 12 (g.methods.map zG) false),.pv (pi g.entry),.pv (ps m.name),.pv (pi m.owner),.pv (pi m.flags),.pv (tys m.params),.pv (pi m.ret.kind),.pv (pi m.ret.index),.pv (pi m.ret.dims),.pv (pb m.ret.ref),.pv (tys m.locals),.pv (pi m.max),.pv (.slc 6 (m.code.map yR) false),.pv (.slc 10 (m.clauses.map ZJ) false),.pv (pi k),.pv (.ptr (zx g) 0),.own 11,.pv (pi wk),.own 12]
abbrev rnH (g:Img) (m:Me) (k:Int) (s:VS):HEnv:=[(10,.cell (rnC g m k s.wk)),(11,.mrow 65 1 (s.st.map tys)),(12,.mrow 4 1 (s.kn.map pb))]
def bgH (g:Img) (m:Me) (k:Int) (s:VS) (us:Nat→Value) (i:Nat) (l:List Ty):Nat→HEnv
 | 0=>rnH g m k s++zJ us [10]
 | 1=>(11,.mrow 65 1 ((s.st.map tys).set i (tys l)))::(rnH g m k s++zJ us [10])
 | _=>(12,.mrow 4 1 ((s.kn.map pb).set i (pb true)))::(11,.mrow 65 1 ((s.st.map tys).set i (tys l)))::(rnH g m k s++zJ us [10])
abbrev bgT (g:Img) (m:Me) (k:Int) (s:VS) (us:Nat→Value):HEnv:=[(10,.cell (rnC g m k s.wk)),(11,.dead),(12,.dead),(1010,.pin (.own 10) (us 10))]
theorem zsm (g:Img) (m:Me) (k:Int) (s:VS) (us:Nat→Value) (i:Nat) (l:List Ty):∀ p,p < 3→yQ (bgH g m k s us i l p) (bgT g m k s us)=true∧yQ (bgT g m k s us) (bgH g m k s us i l p)=true:=by
 intro p h
 have hp:p=0∨p=1∨p=2:=by omega
 rcases hp with rfl|rfl|rfl <;> exact ⟨rfl,rfl⟩
theorem zrJ (g:Img) (m:Me) (k:Int) (s:VS) (us:Nat→Value) (i:Nat) (l:List Ty) {gB:Base}:∀ p,p≤2→∀ K ρ w,FS gB K ρ (bgH g m k s us i l p) w→FS gB K ρ (bgT g m k s us) w:=by
 intro p h K ρ w hf
 have hp:p=0∨p=1∨p=2:=by omega
 rcases hp with rfl|rfl|rfl <;> exact ((hf.kill 11).kill 12).narrow (e:=[]) tH
theorem zhL (g:Img) (m:Me) (k:Int) (s:VS) (i:Int) (h0:0≤i) (h1:i.toNat < s.st.length) (h2:s.kn.length=s.st.length) (l:List Ty) (us:Nat→Value) :
  ACallM Tryz.prog 69 [.box 10 0,.pv (pi i),.pv (tys l)] (rnH g m k s++zJ us [10]) (.pv (.tup [])) (rnH g m k (qI i l s)++zJ us [10]):=by
 obtain ⟨j,hj⟩:∃ j,j=i.toNat:=⟨_,rfl⟩
 have hij:i=(j:Int):=by omega
 have e1:(s.st.map tys)[j]?=some (tys (s.st[j]'(by omega))):=yc (by omega)
 have e2:(s.kn.map pb)[j]?=some (pb (s.kn[j]'(by omega))):=yc (by omega)
 have l1:j < (s.st.map tys).length:=by rw [List.length_map];omega
 have l2:j < (s.kn.map pb).length:=by rw [List.length_map];omega
 refine zC zh Tryz.func69 rfl (by kernel_rfl) Tryz.ntmps69 (by simp) _ rfl (fun gB hw1=>?_)
 repeat' (first|refine ZV 16 16 [13,15] [[18],[19]] (bgH g m k s us j l) (fun _=>bgT g m k s us) (bgT g m k s us) none rfl (by kernel_rfl) (by kernel_rfl) (by kernel_rfl) (by kernel_rfl) (by kernel_rfl) (by kernel_rfl) (by kernel_rfl) (fun p hp=>zsm g m k s us j l p (by simp at hp;omega)) rfl (fun p hp=>zrJ g m k s us j l p hp) rfl (fun _ _ _ _=>rfl) (fun _ _=>rfl) tH rfl (fun v hv=>by cases hv) ?_|refine WM 0 1 [0,2] rfl rfl (by kernel_rfl) ?_|refine YL 12 [1,3] rfl rfl ?_|refine Yk [1] (.pv (.tup [])) rfl rfl rfl ?_|refine WM 1 1 [0] rfl rfl (by kernel_rfl) ?_|refine Yk [] (.pv (.tup [])) rfl rfl rfl ?_|refine ZG ?_|refine ⟨⟨rfl,ql (k:=j) (j:=0) zh rfl rfl rfl rfl e1 rfl rfl rfl rfl,.inl rfl⟩,?_⟩|refine ⟨⟨rfl,ql (k:=j) (j:=0) zh rfl rfl rfl rfl e2 rfl rfl rfl rfl,.inl rfl⟩,?_⟩|intro _|refine YE ?_|(refine shX ?_;first|refine zo rfl (zK (k:=j) zh rfl rfl rfl rfl rfl rfl rfl hij l1) rfl rfl ?_|refine AD.step _ _ _ _ _ rfl (zK (k:=j) zh rfl rfl rfl rfl rfl rfl rfl hij l1) rfl rfl ?_|refine zo rfl (zK (k:=j) zh rfl rfl rfl rfl rfl rfl rfl hij l2) rfl rfl ?_|refine AD.step _ _ _ _ _ rfl (zK (k:=j) zh rfl rfl rfl rfl rfl rfl rfl hij l2) rfl rfl ?_)|refine sK ?_|refine sC (fun _=>?_) (fun _=>?_)|fail)
 exact ⟨.inl rfl,.inl ⟨[],rfl,rfl,⟨zi rfl (qE rfl (by rw [hj];exact (List.map_set ..).symm) (qE rfl (by rw [hj];exact (List.map_set ..).symm) (zi rfl zk))),rfl⟩⟩⟩
set_option maxHeartbeats 20000000
structure LenV (n:Nat) (s:VS):Prop where
 st:s.st.length=n
 kn:s.kn.length=n
theorem zoo {n:Nat} {s:VS} (h:LenV n s) (i:Int) (l:List Ty):LenV n (qI i l s):=⟨by simp [qI,h.st],by simp [qI,h.kn]⟩
theorem zb6 (g:Img) (m:Me) (k:Int) {n:Nat} {s:VS} (hs:LenV n s) (i:Int) (hi:0≤i∧i.toNat < n) (l:List Ty) (q:PV) (hq:PTells q (tys l)) (us:Nat→Value) :
  ACallM Tryz.prog 69 [.box 10 0,.pv (pi i),.pv q] (rnH g m k s++zJ us [10]) (.pv (.tup [])) (rnH g m k (qI i l s)++zJ us [10]) :=
 (zhL g m k s i hi.1 (by rw [hs.st];exact hi.2) (by rw [hs.st,hs.kn]) l us).tells rfl fun k c c' h1 h2=>by
  match k,h1,h2 with
  | 0,h1,h2=>simp at h1 h2;exact .inl (h2.symm.trans h1)
  | 1,h1,h2=>simp at h1 h2;exact .inl (h2.symm.trans h1)
  | 2,h1,h2=>simp at h1 h2;exact .inr ⟨_,_,h1.symm,h2.symm,hq⟩
abbrev zvQ:Ty:=⟨4,0,0,false⟩
theorem zae (g:Img) (m:Me) (k:Int) (s:VS) (hcl:m.clauses=[]) (us:Nat→Value) :
  ACallM Tryz.prog 70 [.box 10 0] (rnH g m k s++zJ us [10]) (.pv (.tup [])) (rnH g m k s++zJ us [10]):=by
 have d1:decide (((0:Nat):Int) < ((m.clauses.length:Nat):Int))=false:=by rw [hcl];rfl
 refine zC zh Tryz.func70 rfl (by kernel_rfl) Tryz.ntmps70 (by simp) _ rfl (fun gB hw1=>?_)
 repeat' (first|refine sK ?_|refine sC (fun _=>?_) (fun _=>?_)|fail)
 refine zB (fun j:Nat=>[(0,.box 10 0),(2,.box 0 0),(11,.pv (cls m.clauses)),(12,.pv (pi m.clauses.length)),(13,.pv (pi j))]) (fun _=>rnH g m k s++zJ us [10]++[(0,.cell (.pv (yK zvQ)))]) (fun j=>j=0) (fun _=>0) 0 rfl (tS) tH ?_
 rintro _ rfl
 repeat' (first|refine sK ?_|refine sC (fun _=>?_) (fun _=>?_)|fail)
 exact ⟨.inl rfl,.inl ⟨[],rfl,rfl,⟨by repeat (first|exact zk|refine zi rfl ?_),rfl⟩⟩⟩
theorem zlZ (g:Img) (m:Me) (k:Int) (s:VS) (i t:Int) (us:Nat→Value) :
  ACallM Tryz.prog 266 [.box 10 0,.pv (pi i),.pv (pi t)] (rnH g m k s++zJ us [10]) (.pv (pb (zcF m i t))) (rnH g m k s++zJ us [10]):=by
 have cc:=zdo m.clauses (fun c=>c.tf==t&&(decide (i < c.tf)||decide (c.tt≤i))) 353 [] [.ptr (pi t) 0,.ptr (pi i) 0] (fun c _=>zkQ c i t)
 refine zC zh Tryz.func266 rfl (by kernel_rfl) Tryz.ntmps266 (by simp) _ rfl (fun gB hw1=>?_)
 repeat' (first|(refine shC ?_;first|refine qC cc ?_)|refine sK ?_|refine sC (fun _=>?_) (fun _=>?_)|fail)
 exact ⟨.inr rfl,.inl ⟨_,rfl,rfl,⟨by repeat (first|exact zk|refine zi rfl ?_),rfl⟩⟩⟩
def outT (g:Img) (m:Me) (k:Int) (us:Nat→Value):Except Int VS→Out
 | .ok s=>.ret (.pv (.tup [])) (rnH g m k s++zJ us [10])
 | .error e=>.pan (zhV e)
theorem ztV {g:Img} {m:Me} {k:Int} {us:Nat→Value} {r:Except Int VS} {s:VS} {tb:Tab} {ex:Exit} {env:Env} {H:HEnv} (h:r=.ok s) (he:ex=.normal∨ex=.ret) (hf:Ye H (rnH g m k s++zJ us [10]) []):zlH tb [] (outT g m k us r) ex env H:=by
 rw [h];exact ⟨he,.inl ⟨[],rfl,rfl,hf⟩⟩
abbrev wkT (s:VS) (l:List Ty):Int:=IntKind.i64.wrap (s.wk + IntKind.i64.wrap (1 + (((l.map yK).length:Nat):Int)))
theorem toL {g:Img} {m:Me} {i t:Int} {l:List Ty} {s:VS} (hti:¬ t≤i) (hk0:s.kn.getD t.toNat false=false) (hen:zcF m i t=false):toV g m i t l s=.ok (qI t l ⟨s.st,s.kn,s.wk + (1 + l.length)⟩):=by
 rw [toV,hen,decide_eq_false hti,hk0];simp
set_option maxHeartbeats 8000000 in
theorem ztB {g:Img} (m:Me) (k:Int) {n:Nat} {s:VS} (hs:LenV n s) (i t:Int) (hwk:0≤s.wk∧s.wk≤1000000) (ht0:0≤t) (ht1:t.toNat < n) (l:List Ty) (hll:l.length≤1000) (hti:¬ t≤i) (hk0:s.kn.getD t.toNat false=false) (hen:zcF m i t=false) (us:Nat→Value) :
  QU Tryz.prog 145 [.box 10 0,.pv (pi i),.pv (pi t),.pv (tys l)] (rnH g m k s++zJ us [10]) (outT g m k us (toV g m i t l s)):=by
 have hW:s.wk + (1 + (l.length:Int))=wkT s l:=by
  rw [wkT,List.length_map,wrap_in (a:=1 + (l.length:Int)) (by omega) (by omega),wrap_in (by omega) (by omega)]
 have hT:toV g m i t l s=.ok (qI t l ⟨s.st,s.kn,wkT s l⟩):=by rw [toL hti hk0 hen,hW]
 have hent:=zlZ g m k ⟨s.st,s.kn,wkT s l⟩ i t
 rw [hen] at hent
 obtain ⟨j,hj⟩:∃ j,j=t.toNat:=⟨_,rfl⟩
 have hij:t=(j:Int):=by omega
 have h1:=hs.st
 have h2:=hs.kn
 have e2:(s.kn.map pb)[j]?=some (pb false):=by rw [←hk0,←hj,zM (by omega)];exact yc (by omega)
 have l2:j < (s.kn.map pb).length:=by rw [List.length_map];omega
 have d1:decide (t≤i)=false:=decide_eq_false hti
 clear hk0 hen
 rcases Bool.eq_false_or_eq_true ((((l.map yK).length:Nat):Int)==0) with hl0|hl0
 all_goals
  refine yY zh Tryz.func145 rfl (by kernel_rfl) Tryz.ntmps145 (by simp) _ rfl (fun gB hw1=>?_)
  repeat' (first|refine zo rfl (zS (ps:=(QD g)) zh rfl rfl rfl rfl rfl) rfl rfl ?_|refine AD.step _ _ _ _ _ rfl (zS (ps:=(QD g)) zh rfl rfl rfl rfl rfl) rfl rfl ?_|refine zo rfl (zN (k:=j) (j:=0) zh rfl rfl rfl rfl e2 rfl) rfl rfl ?_|refine AD.step _ _ _ _ _ rfl (zN (k:=j) (j:=0) zh rfl rfl rfl rfl e2 rfl) rfl rfl ?_|(refine shC ?_;first|refine qC (yC rfl 9) ?_)|(refine shX ?_;first|refine zo rfl (zK (k:=j) zh rfl rfl rfl rfl rfl rfl rfl hij l2) rfl rfl ?_|refine AD.step _ _ _ _ _ rfl (zK (k:=j) zh rfl rfl rfl rfl rfl rfl rfl hij l2) rfl rfl ?_)|(refine zy ?_;first|(refine yx (rnH g m k ⟨s.st,s.kn,wkT s l⟩) (rnH g m k ⟨s.st,s.kn,wkT s l⟩) [(1010,.pin (.own 10) (us 10))] [(0,.box 10 0),(1,.pv (pi i)),(2,.pv (pi t)),(3,.pv (tys l)),(25,.pv (pb false))] [10] zq rfl rfl rfl ?_ tS rfl rfl rfl hent ?_;· (repeat (first|exact zk|refine zi rfl ?_)))|(refine yx (rnH g m k ⟨s.st,s.kn,wkT s l⟩) (rnH g m k (qI t l ⟨s.st,s.kn,wkT s l⟩)) [(1010,.pin (.own 10) (us 10))] [] [10] zq rfl rfl rfl ?_ tS rfl rfl rfl (fun us=>zhL g m k ⟨s.st,s.kn,wkT s l⟩ t ht0 (by show t.toNat < s.st.length;omega) (by show s.kn.length=s.st.length;omega) l us) ?_;· (repeat (first|exact zk|refine zi rfl ?_))))|refine sK ?_|refine sC (fun _=>?_) (fun _=>?_)|fail)
  exact ztV hT (.inl rfl) ⟨by repeat (first|exact zk|refine zi rfl ?_),rfl⟩
end Go.Cg
