/- A part of the walks by abstract values: no statement of its own. -/
import Derived.Test.YtdlokcmodgccnaaGreatF36
import Derived.Test.YtdlokcmodgccnaaGreatF27
import Derived.Test.YtdlokcmodgccnaaGreatF26
import Derived.Test.YtdlokcmodgccnaaGreatF33
import Derived.Test.YtdlokcmodgccnaaGreatF22
import Derived.Test.YtdlokcmodgccnaaGreatF39
import Derived.Test.YtdlokcmodgccnaaGreatF16
import Derived.Test.YtdlokcmodgccnaaGreatF11
import Derived.Test.YtdlokcmodgccnaaGreatF21
import Derived.Test.YtdlokcmodgccnaaGreatF12
set_option linter.unusedVariables false
set_option linter.unusedSimpArgs false
namespace Go.Cg
open Go.Proofs
set_option maxHeartbeats 20000000
theorem zgw (l:List Cl) (p:Cl→Bool) (f:FuncId) (first cap:List PV) (hp:∀ x∈l,ACall Tryz.prog f (first++[yI x]++cap) (pb (p x))):ACall Tryz.prog 210 [cls l,.fn (.func f) first cap] (pi (if l.any p then ((l.findIdx p:Nat):Int) else -1)):=by
 refine zf zh Tryz.func210 rfl (by kernel_rfl) Tryz.ntmps210 (by simp) _ rfl (fun hw gB hgB=>?_)
 have hl:l.length≤9223372036854775807:=zkq hw.1
 repeat' (first|refine sA ?_|refine sC (fun _=>?_) (fun _=>?_)|fail)
 refine zo (fun k:Nat=>[(0,.pv (cls l)),(1,.pv (.fn (.func f) first cap)),(7,.pv (pi l.length)),(8,.pv (pi k))]) (fun _=>[]) (fun k=>k≤l.length∧∀ j (h:j < k) (h2:j < l.length),p l[j]=false) (fun k=>l.length - k) 0 ⟨by omega,fun j h=>by omega⟩ (tS) tH ?_
 rintro k ⟨hk,hno⟩
 by_cases hlt:k < l.length
 ·have he:=zA (f:=yI) hlt
  have c1:=hp _ (List.getElem_mem hlt)
  cases hpx:p l[k]
  ·rw [hpx] at c1
   repeat' (first|(refine shC ?_;first|refine qV (c1) ?_)|(refine shX ?_;first|refine qX he ?_)|refine sK ?_|refine sC (fun _=>?_) (fun _=>?_)|fail)
   exact ⟨k + 1,⟨hlt,fun j hj h2=>by
    by_cases e:j=k
    ·subst e;exact hpx
    ·exact hno j (by omega) h2⟩,tD,tS,tH⟩
  ·rw [hpx] at c1
   have hi:l.findIdx p=k:=by
    rw [List.findIdx_eq hlt]
    exact ⟨hpx,fun j hj=>hno j hj (by omega)⟩
   have ha:l.any p=true:=List.any_eq_true.2 ⟨_,List.getElem_mem hlt,hpx⟩
   repeat' (first|(refine shC ?_;first|refine qV (c1) ?_)|(refine shX ?_;first|refine qX he ?_)|refine sK ?_|refine sC (fun _=>?_) (fun _=>?_)|fail)
   exact retq rfl (by simp [zi,ha,hi])
 ·have ha:l.any p=false:=by
   rw [List.any_eq_false]
   intro x hx
   obtain ⟨j,hj,rfl⟩:=List.getElem_of_mem hx
   simp [hno j (by omega) hj]
  repeat' (first|refine sK ?_|refine sC (fun _=>?_) (fun _=>?_)|fail)
  exact retq rfl (by simp [zi,ha])
theorem zdp (l:List Cl) (p:Cl→Bool) (f:FuncId) (first cap:List PV) (hp:∀ x∈l,ACall Tryz.prog f (first++[yI x]++cap) (pb (p x))):ACall Tryz.prog 163 [cls l,.fn (.func f) first cap] (pb (l.any p)):=by
 refine zf zh Tryz.func163 rfl (by kernel_rfl) Tryz.ntmps163 (by simp) _ rfl (fun hw gB hgB=>?_)
 have c1:=zgw l p f first cap hp
 repeat' (first|(refine shC ?_;first|refine qC c1 ?_)|refine sA ?_|refine sC (fun _=>?_) (fun _=>?_)|fail)
 refine retq rfl ?_
 cases h:l.any p <;> simp [zi]
theorem zjW (c:Cl) (i to:Int):ACall Tryz.prog 164 [yI c,.ptr (pi to) 0,.ptr (pi i) 0] (pb (c.tf==to&&(decide (i < c.tf)||decide (c.tt≤i)))):=by
 rcases Bool.eq_false_or_eq_true (c.tf==to) with h0|h0 <;> rcases Bool.eq_false_or_eq_true (decide (i < c.tf)) with h1|h1 <;> (
  refine zf zh Tryz.func164 rfl (by kernel_rfl) Tryz.ntmps164 (by simp) _ rfl (fun hw gB hgB=>?_)
  repeat' (first|refine sK ?_|refine sC (fun _=>?_) (fun _=>?_)|fail)
  exact retq rfl (by simp [zi,h0,h1]))
abbrev rnC (g:Img) (m:Me) (k wk:Int):AV:=.agg [.pv (.slc 4 (g.types.map Zb) false),.pv (.slc 7 (g.fields.map Yc) false),.pv (.slc 12 (g.methods.map zG) false),.pv (pi g.entry),.pv (ps m.name),.pv (pi m.owner),.pv (pi m.flags),.pv (tys m.params),.pv (pi m.ret.kind),.pv (pi m.ret.index),.pv (pi m.ret.dims),.pv (pb m.ret.ref),.pv (tys m.locals),.pv (pi m.max),.pv (.slc 6 (m.code.map zY) false),.pv (.slc 10 (m.clauses.map yI) false),.pv (pi k),.pv (.ptr (zq g) 0),.own 11,.pv (pi wk),.own 12]
abbrev rnH (g:Img) (m:Me) (k:Int) (s:VS):HEnv:=[(10,.cell (rnC g m k s.wk)),(11,.mrow 40 1 (s.st.map tys)),(12,.mrow 4 1 (s.kn.map pb))]
def bgH (g:Img) (m:Me) (k:Int) (s:VS) (us:Nat→Value) (i:Nat) (l:List Ty):Nat→HEnv
 | 0=>rnH g m k s++yP us [10]
 | 1=>(11,.mrow 40 1 ((s.st.map tys).set i (tys l)))::(rnH g m k s++yP us [10])
 | _=>(12,.mrow 4 1 ((s.kn.map pb).set i (pb true)))::(11,.mrow 40 1 ((s.st.map tys).set i (tys l)))::(rnH g m k s++yP us [10])
abbrev bgT (g:Img) (m:Me) (k:Int) (s:VS) (us:Nat→Value):HEnv:=[(10,.cell (rnC g m k s.wk)),(11,.dead),(12,.dead),(1010,.pin (.own 10) (us 10))]
theorem zrz (g:Img) (m:Me) (k:Int) (s:VS) (us:Nat→Value) (i:Nat) (l:List Ty):∀ p,p < 3→yR (bgH g m k s us i l p) (bgT g m k s us)=true∧yR (bgT g m k s us) (bgH g m k s us i l p)=true:=by
 intro p h
 have hp:p=0∨p=1∨p=2:=by omega
 rcases hp with rfl|rfl|rfl <;> exact ⟨rfl,rfl⟩
theorem zsh (g:Img) (m:Me) (k:Int) (s:VS) (us:Nat→Value) (i:Nat) (l:List Ty) {gB:Base}:∀ p,p≤2→∀ K ρ w,FS gB K ρ (bgH g m k s us i l p) w→FS gB K ρ (bgT g m k s us) w:=by
 intro p h K ρ w hf
 have hp:p=0∨p=1∨p=2:=by omega
 rcases hp with rfl|rfl|rfl <;> exact ((hf.kill 11).kill 12).narrow (e:=[]) tH
theorem zg0 (g:Img) (m:Me) (k:Int) (s:VS) (i:Int) (h0:0≤i) (h1:i.toNat < s.st.length) (h2:s.kn.length=s.st.length) (l:List Ty) (us:Nat→Value) :
  ACallM Tryz.prog 39 [.box 10 0,.pv (pi i),.pv (tys l)] (rnH g m k s++yP us [10]) (.pv (.tup [])) (rnH g m k (qM i l s)++yP us [10]):=by
 obtain ⟨j,hj⟩:∃ j,j=i.toNat:=⟨_,rfl⟩
 have hij:i=(j:Int):=by omega
 have e1:(s.st.map tys)[j]?=some (tys (s.st[j]'(by omega))):=zA (by omega)
 have e2:(s.kn.map pb)[j]?=some (pb (s.kn[j]'(by omega))):=zA (by omega)
 have l1:j < (s.st.map tys).length:=by rw [List.length_map];omega
 have l2:j < (s.kn.map pb).length:=by rw [List.length_map];omega
 refine qA zh Tryz.func39 rfl (by kernel_rfl) Tryz.ntmps39 (by simp) _ rfl (fun gB hw1=>?_)
 repeat' (first|refine Qr 16 16 [13,15] [[18],[19]] (bgH g m k s us j l) (fun _=>bgT g m k s us) (bgT g m k s us) none rfl (by kernel_rfl) (by kernel_rfl) (by kernel_rfl) (by kernel_rfl) (by kernel_rfl) (by kernel_rfl) (by kernel_rfl) (fun p hp=>zrz g m k s us j l p (by simp at hp;omega)) rfl (fun p hp=>zsh g m k s us j l p hp) rfl (fun _ _ _ _=>rfl) (fun _ _=>rfl) tH rfl (fun v hv=>by cases hv) ?_|refine zbz 0 1 [0,2] rfl rfl (by kernel_rfl) ?_|refine VK 12 [1,3] rfl rfl ?_|refine Qd [1] (.pv (.tup [])) rfl rfl rfl ?_|refine zbz 1 1 [0] rfl rfl (by kernel_rfl) ?_|refine Qd [] (.pv (.tup [])) rfl rfl rfl ?_|refine Qc ?_|refine ⟨⟨rfl,ZG (k:=j) (j:=0) zh rfl rfl rfl rfl e1 rfl rfl rfl rfl,.inl rfl⟩,?_⟩|refine ⟨⟨rfl,ZG (k:=j) (j:=0) zh rfl rfl rfl rfl e2 rfl rfl rfl rfl,.inl rfl⟩,?_⟩|intro _|refine zaS ?_|(refine shX ?_;first|refine zu rfl (zQ (k:=j) zh rfl rfl rfl rfl rfl rfl rfl hij l1) rfl rfl ?_|refine AD.step _ _ _ _ _ rfl (zQ (k:=j) zh rfl rfl rfl rfl rfl rfl rfl hij l1) rfl rfl ?_|refine zu rfl (zQ (k:=j) zh rfl rfl rfl rfl rfl rfl rfl hij l2) rfl rfl ?_|refine AD.step _ _ _ _ _ rfl (zQ (k:=j) zh rfl rfl rfl rfl rfl rfl rfl hij l2) rfl rfl ?_)|refine sK ?_|refine sC (fun _=>?_) (fun _=>?_)|fail)
 exact ⟨.inl rfl,.inl ⟨[],rfl,rfl,⟨zn rfl (qO rfl (by rw [hj];exact (List.map_set ..).symm) (qO rfl (by rw [hj];exact (List.map_set ..).symm) (zn rfl zl))),rfl⟩⟩⟩
set_option maxHeartbeats 20000000
structure LenV (n:Nat) (s:VS):Prop where
 st:s.st.length=n
 kn:s.kn.length=n
theorem zof {n:Nat} {s:VS} (h:LenV n s) (i:Int) (l:List Ty):LenV n (qM i l s):=⟨by simp [qM,h.st],by simp [qM,h.kn]⟩
theorem zcf (g:Img) (m:Me) (k:Int) {n:Nat} {s:VS} (hs:LenV n s) (i:Int) (hi:0≤i∧i.toNat < n) (l:List Ty) (q:PV) (hq:PTells q (tys l)) (us:Nat→Value) :
  ACallM Tryz.prog 39 [.box 10 0,.pv (pi i),.pv q] (rnH g m k s++yP us [10]) (.pv (.tup [])) (rnH g m k (qM i l s)++yP us [10]) :=
 (zg0 g m k s i hi.1 (by rw [hs.st];exact hi.2) (by rw [hs.st,hs.kn]) l us).tells rfl fun k c c' h1 h2=>by
  match k,h1,h2 with
  | 0,h1,h2=>simp at h1 h2;exact .inl (h2.symm.trans h1)
  | 1,h1,h2=>simp at h1 h2;exact .inl (h2.symm.trans h1)
  | 2,h1,h2=>simp at h1 h2;exact .inr ⟨_,_,h1.symm,h2.symm,hq⟩
theorem zgT:∀ l:List PV,PTL l l
 | []=>zbm
 | _::l=>yJ (.refl _) (zgT l)
theorem zuC (a:Ty):PTells (.slc 4 [yK a] true) (tys [a]):=zg4 (zbe (zgT _) zeF)
abbrev zve:Ty:=⟨4,0,0,false⟩
theorem zaG (g:Img) (m:Me) (k:Int) (s:VS) (hcl:m.clauses=[]) (us:Nat→Value) :
  ACallM Tryz.prog 40 [.box 10 0] (rnH g m k s++yP us [10]) (.pv (.tup [])) (rnH g m k s++yP us [10]):=by
 have d1:decide (((0:Nat):Int) < ((m.clauses.length:Nat):Int))=false:=by rw [hcl];rfl
 refine qA zh Tryz.func40 rfl (by kernel_rfl) Tryz.ntmps40 (by simp) _ rfl (fun gB hw1=>?_)
 repeat' (first|refine sK ?_|refine sC (fun _=>?_) (fun _=>?_)|fail)
 refine zo (fun j:Nat=>[(0,.box 10 0),(2,.box 0 0),(11,.pv (cls m.clauses)),(12,.pv (pi m.clauses.length)),(13,.pv (pi j))]) (fun _=>rnH g m k s++yP us [10]++[(0,.cell (.pv (yK zve)))]) (fun j=>j=0) (fun _=>0) 0 rfl (tS) tH ?_
 rintro _ rfl
 repeat' (first|refine sK ?_|refine sC (fun _=>?_) (fun _=>?_)|fail)
 exact ⟨.inl rfl,.inl ⟨[],rfl,rfl,⟨by repeat (first|exact zl|refine zn rfl ?_),rfl⟩⟩⟩
theorem zli (g:Img) (m:Me) (k:Int) (s:VS) (i t:Int) (us:Nat→Value) :
  ACallM Tryz.prog 117 [.box 10 0,.pv (pi i),.pv (pi t)] (rnH g m k s++yP us [10]) (.pv (pb (zcP m i t))) (rnH g m k s++yP us [10]):=by
 have cc:=zdp m.clauses (fun c=>c.tf==t&&(decide (i < c.tf)||decide (c.tt≤i))) 164 [] [.ptr (pi t) 0,.ptr (pi i) 0] (fun c _=>zjW c i t)
 refine qA zh Tryz.func117 rfl (by kernel_rfl) Tryz.ntmps117 (by simp) _ rfl (fun gB hw1=>?_)
 repeat' (first|(refine shC ?_;first|refine qC cc ?_)|refine sK ?_|refine sC (fun _=>?_) (fun _=>?_)|fail)
 exact ⟨.inr rfl,.inl ⟨_,rfl,rfl,⟨by repeat (first|exact zl|refine zn rfl ?_),rfl⟩⟩⟩
def outT (g:Img) (m:Me) (k:Int) (us:Nat→Value):Except Int VS→Out
 | .ok s=>.ret (.pv (.tup [])) (rnH g m k s++yP us [10])
 | .error e=>.pan (zhr e)
theorem zty {g:Img} {m:Me} {k:Int} {us:Nat→Value} {r:Except Int VS} {s:VS} {tb:Tab} {ex:Exit} {env:Env} {H:HEnv} (h:r=.ok s) (he:ex=.normal∨ex=.ret) (hf:Qa H (rnH g m k s++yP us [10]) []):zkW tb [] (outT g m k us r) ex env H:=by
 rw [h];exact ⟨he,.inl ⟨[],rfl,rfl,hf⟩⟩
abbrev wkT (s:VS) (l:List Ty):Int:=IntKind.i64.wrap (s.wk + IntKind.i64.wrap (1 + (((l.map yK).length:Nat):Int)))
theorem toL {g:Img} {m:Me} {i t:Int} {l:List Ty} {s:VS} (hti:¬ t≤i) (hk0:s.kn.getD t.toNat false=false) (hen:zcP m i t=false):toV g m i t l s=.ok (qM t l ⟨s.st,s.kn,s.wk + (1 + l.length)⟩):=by
 rw [toV,hen,decide_eq_false hti,hk0];simp
set_option maxHeartbeats 8000000 in
theorem ztI {g:Img} (m:Me) (k:Int) {n:Nat} {s:VS} (hs:LenV n s) (i t:Int) (hwk:0≤s.wk∧s.wk≤1000000) (ht0:0≤t) (ht1:t.toNat < n) (l:List Ty) (hll:l.length≤1000) (hti:¬ t≤i) (hk0:s.kn.getD t.toNat false=false) (hen:zcP m i t=false) (us:Nat→Value) :
  Xp Tryz.prog 78 [.box 10 0,.pv (pi i),.pv (pi t),.pv (tys l)] (rnH g m k s++yP us [10]) (outT g m k us (toV g m i t l s)):=by
 have hW:s.wk + (1 + (l.length:Int))=wkT s l:=by
  rw [wkT,List.length_map,wrap_in (a:=1 + (l.length:Int)) (by omega) (by omega),wrap_in (by omega) (by omega)]
 have hT:toV g m i t l s=.ok (qM t l ⟨s.st,s.kn,wkT s l⟩):=by rw [toL hti hk0 hen,hW]
 have hent:=zli g m k ⟨s.st,s.kn,wkT s l⟩ i t
 rw [hen] at hent
 obtain ⟨j,hj⟩:∃ j,j=t.toNat:=⟨_,rfl⟩
 have hij:t=(j:Int):=by omega
 have h1:=hs.st
 have h2:=hs.kn
 have e2:(s.kn.map pb)[j]?=some (pb false):=by rw [←hk0,←hj,zx (by omega)];exact zA (by omega)
 have l2:j < (s.kn.map pb).length:=by rw [List.length_map];omega
 have d1:decide (t≤i)=false:=decide_eq_false hti
 clear hk0 hen
 rcases Bool.eq_false_or_eq_true ((((l.map yK).length:Nat):Int)==0) with hl0|hl0
 all_goals
  refine yO zh Tryz.func78 rfl (by kernel_rfl) Tryz.ntmps78 (by simp) _ rfl (fun gB hw1=>?_)
  repeat' (first|refine zu rfl (zU (ps:=(Xf g)) zh rfl rfl rfl rfl rfl) rfl rfl ?_|refine AD.step _ _ _ _ _ rfl (zU (ps:=(Xf g)) zh rfl rfl rfl rfl rfl) rfl rfl ?_|refine zu rfl (yj (k:=j) (j:=0) zh rfl rfl rfl rfl e2 rfl) rfl rfl ?_|refine AD.step _ _ _ _ _ rfl (yj (k:=j) (j:=0) zh rfl rfl rfl rfl e2 rfl) rfl rfl ?_|(refine shC ?_;first|refine qC (yu rfl 9) ?_)|(refine shX ?_;first|refine zu rfl (zQ (k:=j) zh rfl rfl rfl rfl rfl rfl rfl hij l2) rfl rfl ?_|refine AD.step _ _ _ _ _ rfl (zQ (k:=j) zh rfl rfl rfl rfl rfl rfl rfl hij l2) rfl rfl ?_)|(refine zL ?_;first|(refine yA (rnH g m k ⟨s.st,s.kn,wkT s l⟩) (rnH g m k ⟨s.st,s.kn,wkT s l⟩) [(1010,.pin (.own 10) (us 10))] [(0,.box 10 0),(1,.pv (pi i)),(2,.pv (pi t)),(3,.pv (tys l)),(25,.pv (pb false))] [10] zy rfl rfl rfl ?_ tS rfl rfl rfl hent ?_;· (repeat (first|exact zl|refine zn rfl ?_)))|(refine yA (rnH g m k ⟨s.st,s.kn,wkT s l⟩) (rnH g m k (qM t l ⟨s.st,s.kn,wkT s l⟩)) [(1010,.pin (.own 10) (us 10))] [] [10] zy rfl rfl rfl ?_ tS rfl rfl rfl (fun us=>zg0 g m k ⟨s.st,s.kn,wkT s l⟩ t ht0 (by show t.toNat < s.st.length;omega) (by show s.kn.length=s.st.length;omega) l us) ?_;· (repeat (first|exact zl|refine zn rfl ?_))))|refine sK ?_|refine sC (fun _=>?_) (fun _=>?_)|fail)
  exact zty hT (.inl rfl) ⟨by repeat (first|exact zl|refine zn rfl ?_),rfl⟩
set_option maxHeartbeats 20000000
abbrev zgz (g:Img) (m:Me):List PV:=[.slc 4 (g.types.map Zb) false,.slc 7 (g.fields.map Yc) false,.slc 12 (g.methods.map zG) false,pi g.entry,ps m.name,pi m.owner,pi m.flags,tys m.params,pi m.ret.kind,pi m.ret.index,pi m.ret.dims,pb m.ret.ref,tys m.locals,pi m.max,.slc 6 (m.code.map zY) false,.slc 10 (m.clauses.map yI) false]
theorem tHR {P:Prop} (h:P:=by repeat (first|exact zl|refine zn rfl ?_)):P:=h
theorem ztA (p1:Value) (e0 e:Int):DCall Tryz.prog 76 (lbH (pi e0) p1) [.box 1 0] (.panicking [{ v:=zhr e,recovered:=false }]) (.panicking [{ v:=zhr e,recovered:=true }]) (lbH (pi e) p1):=by
 refine QY Tryz.func76 rfl (by kernel_rfl) rfl (fun g K ρ w vs hds hf hv c₀ cs hu=>?_)
 obtain ⟨v1,rfl⟩:=List.length_eq_one_iff.1 hv.1
 have r1:=hv.2 0 _ v1 rfl rfl
 refine wpS_seq ?_
 refine wpS_region ?_
 have h1:=VX (P:=Tryz.prog) (xt:=20) (v:=.int .i64 e) (w:=w) Tryz.underlying93
 simp [wpOpsS,go_sem,recoverD,hu,Tryz.ntmps76,Exit.thenS,zhr,h1]
 refine zeV (n:=10) (g:=g) (env:=[(0,.box 1 0),(1,.pv (pi e)),(2,.pv (pb true))]) (H:=lbH (pi e0) p1) (QQ:=zp3 (lbH (pi e) p1)) ?_
  ⟨by simp,by rw [hds],K,ρ,hf,ZL (v:=v1) (by simp) r1 (ZL (v:=.int .i64 e) (by simp) (.pv _ _ (.base _ rfl)) (ZL (v:=.bool true) (by simp) (.pv _ _ (.base _ rfl)) za1))⟩
  (fun ex a' w' env' H' hi hq=>⟨hq.1,hi.defers.trans hds,rfl,zeR hi hq.2⟩)
 repeat' (first|refine sK ?_|refine sC (fun _=>?_) (fun _=>?_)|fail)
 exact ⟨.inl rfl,tH⟩
abbrev zmS (g:Img) (m:Me) (k:Int) (s:VS) (us:Nat→Value) (e:PV) (p1:Value):HEnv:=lbH e p1++(rnH g m k s++yP us [10])
theorem zlG (g:Img) (m:Me) (k:Int) (s:VS) (us:Nat→Value) (e:PV) (p1:Value):DCall Tryz.prog 76 (zmS g m k s us e p1) [.box 1 0] .returning .returning (zmS g m k s us e p1):=by
 refine QY Tryz.func76 rfl (by kernel_rfl) rfl (fun g1 K ρ w vs hds hf hv c₀ cs hu=>?_)
 obtain ⟨v1,rfl⟩:=List.length_eq_one_iff.1 hv.1
 refine wpS_seq ?_
 refine wpS_region ?_
 have hz:=zh9 (P:=Tryz.prog) (w:=w) (z:=.int .i64 0) zh (ty:=93) rfl
 have h1:=WW (P:=Tryz.prog) (xt:=20) (w:=w) Tryz.underlying93 hz
 simp [wpOpsS,go_sem,recoverD,hu,Tryz.ntmps76,Exit.thenS,h1]
 refine zeV (n:=10) (g:=g1) (env:=[(2,.pv (pb false))]) (H:=zmS g m k s us e p1) (QQ:=zp3 (zmS g m k s us e p1)) ?_
  ⟨by simp,by rw [hds],K,ρ,hf,ZL (v:=.bool false) (by simp) (.pv _ _ (.base _ rfl)) za1⟩
  (fun ex a' w' env' H' hi hq=>⟨hq.1,hi.defers.trans hds,by cases c₀;simp_all,zeR hi hq.2⟩)
 repeat' (first|refine sK ?_|refine sC (fun _=>?_) (fun _=>?_)|fail)
 exact ⟨.inl rfl,tH⟩
theorem zoR {g:Img} {m:Me} {i t:Int} {l:List Ty} {n:Nat} {s s':VS} (h:LenV n s) (ht:toV g m i t l s=.ok s'):LenV n s':=by
 unfold toV at ht
 split at ht
 ·cases ht
 ·split at ht
  ·split at ht
   ·cases ht;exact ⟨h.st,h.kn⟩
   ·cases ht
  ·split at ht
   ·cases ht;exact ⟨by simp [qM,h.st],by simp [qM,h.kn]⟩
   ·split at ht
    ·cases ht;exact ⟨by simp [h.st],h.kn⟩
    ·cases ht
theorem zjf {m:Me} {i:Int} (h:zg3 (zX m i)):YC (QX m i)=false:=by
 unfold QX
 rcases h with h|h|h <;> rw [h] <;> decide
theorem zih {m:Me} {i t:Int} (h:m.clauses=[]):zcP m i t=false:=by rw [zcP,h];rfl
theorem zqi {g:Img} {k:Int} {i:Nat} {s s':VS} (hL:zg3 (zX (mAt g k) (i:Int))) (hcl:(mAt g k).clauses=[]) (hfr:∀ j,i < j→s.kn.getD j false=false) (h:zek g k i s=.ok s'):∀ j,i + 1 < j→s'.kn.getD j false=false:=by
 have hset:∀ (l:List Bool) (q j:Nat),q≠j→(l.set q true).getD j false=l.getD j false:=fun l q j hq=>by
  rw [List.getD_eq_getElem?_getD,List.getElem?_set_ne hq,←List.getD_eq_getElem?_getD]
 intro j hj
 unfold zek at h
 split at h
 ·cases h
 rw [zfZ,zjf hL] at h
 cases hn:Yy (QX (mAt g k) i)
 ·rw [hn] at h
  simp only [Bool.false_eq_true,if_false] at h
  cases h
  show (s.kn.set (i:Int).toNat true).getD j false=false
  rw [hset _ _ _ (by omega)];exact hfr j (by omega)
 ·rw [hn,if_pos rfl,toL (by omega) (by show (s.kn.set (i:Int).toNat true).getD _ false=false;rw [hset _ _ _ (by omega)];exact hfr _ (by omega)) (zih hcl)] at h
  simp only [Bool.false_eq_true,if_false] at h
  cases h
  show ((s.kn.set (i:Int).toNat true).set ((i:Int) + 1).toNat true).getD j false=false
  rw [hset _ _ _ (by omega),hset _ _ _ (by omega)];exact hfr j (by omega)
def zva:Except Int VS→Int
 | .ok _=>0
 | .error e=>e
def zu5 (g:Img) (m:Me) (k:Int) (us:Nat→Value):Except Int VS→HEnv
 | .ok s=>rnH g m k s++yP us [10]
 | .error _=>[]
theorem zrK {g:Img} (hc:(yC g).2=0) {k:Int} (hm:mOk g k) {s:VS} (hs:LenV (mAt g k).code.length s) (hok:OkV (mAt g k).code.length s) (hwk:0≤s.wk∧s.wk≤900000) (i:Nat) (hi:i < (mAt g k).code.length)
  (hon:onV (mAt g k) i=0) (hL:zg3 (zX (mAt g k) (i:Int))) (hcl:(mAt g k).clauses=[]) (hfr:s.kn.getD (i + 1) false=false) (us:Nat→Value) :
  ACallM Tryz.prog 41 [.box 10 0,.pv (pi (i:Int))] (rnH g (mAt g k) k s++yP us [10]) (.pv (pi (zva (zek g k i s)))) (zu5 g (mAt g k) k us (zek g k i s)):=by
 have hF:=(Xk (Xr hc).1).formed
 have hM:=(YV hF hm).small
 have hit:((i:Nat):Int).toNat < (mAt g k).code.length:=by omega
 have cs:=zod g hc hm (a:=i) (by omega) hit hL (zdx s i) (by have:=zgO hok i;omega)
 have hW:s.wk + 1=IntKind.i64.wrap (s.wk + 1):=by rw [wrap_in (by omega) (by omega)]
 have hW0:0≤IntKind.i64.wrap (s.wk + 1)∧IntKind.i64.wrap (s.wk + 1)≤900001:=by rw [←hW];omega
 have hV:zek g k i s=match stepS g k i (zdx s i) with
   | .error e=>.error e
   | .ok p=>zfZ g (mAt g k) i p.2 ⟨s.st,s.kn.set i true,IntKind.i64.wrap (s.wk + 1)⟩:=by
  rw [zek,←hW];rfl
 have hnx:Yy (QX (mAt g k) i)=true→(i:Int) + 1 < (mAt g k).code.length:=fun h=>by
  rw [onV,h] at hon
  apply Classical.byContradiction
  intro hn
  rw [decide_eq_false hn] at hon
  simp at hon
 have hpl:=zjf hL
 have hen:=fun t=>zih (i:=(i:Int)) (t:=t) hcl
 have hei:((mAt g k).code.map zY)[((i:Nat):Int).toNat]?=some (zY (zX (mAt g k) i)):=by rw [zX,zx hit];exact zA hit
 have cw:=zmy g (mAt g k) i (by omega) hit
 have cg:=goes_call (QX (mAt g k) i)
 have h1:=hs.st
 have h2:=hs.kn
 have e1:(s.st.map tys)[i]?=some (tys (zdx s i)):=by
  have:zdx s i=s.st[i]'(by omega):=by rw [zdx];exact zx (by omega)
  rw [this];exact zA (by omega)
 have e2:(s.kn.map pb)[i]?=some (pb (s.kn[i]'(by omega))):=zA (by omega)
 have l1:i < (s.st.map tys).length:=by rw [List.length_map];omega
 have l2:i < (s.kn.map pb).length:=by rw [List.length_map];omega
 have hb2:∀ p,stepS g k i (zdx s i)=.ok p→p.2.length≤12:=fun p hp=>by
  have hb:=(ztY g (Xc g (mAt g k)) (mAt g k) (zX (mAt g k) i) _ _ _ hp).1
  have hg:=zgO hok i
  rcases hb with hb|hb <;> omega
 have hnz:=fun e (h:stepS g k i (zdx s i)=.error e)=>zoM h
 obtain ⟨s1,hs1⟩:∃ s1:VS,s1=⟨s.st,s.kn.set i true,IntKind.i64.wrap (s.wk + 1)⟩:=⟨_,rfl⟩
 generalize stepS g k i (zdx s i)=r at cs hV hb2 hnz
 refine znY zh Tryz.func41 rfl (by kernel_rfl) Tryz.ntmps41 (by simp) _ rfl ?_
 refine zay (zal fun gB=>?_)
 repeat' (first|refine Zh zh 1 rfl rfl rfl rfl rfl rfl rfl ?_|refine sK ?_|refine sC (fun _=>?_) (fun _=>?_)|fail)
 refine zgI 1 2001 rfl rfl fun p1=>?_
 refine zay (zeY (k:=1) rfl rfl rfl rfl rfl fun gB=>?_)
 repeat' (first|refine sK ?_|refine sC (fun _=>?_) (fun _=>?_)|fail)
 refine ⟨_,_,[p1],rfl,⟨⟨2001,rfl⟩,trivial⟩,?_⟩
 refine zal fun gB=>?_
 cases r with
 | error e =>
  simp only at hV
  have he:=hnz e rfl
  have he0:(e==0)=false:=by simpa using he
  rw [hV]
  repeat' (first|refine zu rfl (yj (k:=i) (j:=0) zh rfl rfl rfl rfl e1 rfl) rfl rfl ?_|refine AD.step _ _ _ _ _ rfl (yj (k:=i) (j:=0) zh rfl rfl rfl rfl e1 rfl) rfl rfl ?_|refine YQ 23 22 rfl (by kernel_rfl) (by kernel_rfl) (by kernel_rfl) (by kernel_rfl) (by kernel_rfl) ?_|refine zu rfl (zU (ps:=(zgz g (mAt g k))) zh rfl rfl rfl rfl rfl) rfl rfl ?_|refine AD.step _ _ _ _ _ rfl (zU (ps:=(zgz g (mAt g k))) zh rfl rfl rfl rfl rfl) rfl rfl ?_|refine zD 5 3 rfl rfl rfl ?_|refine zaY [] (lbH (pi e) p1) zy rfl rfl rfl (by repeat (first|exact zl|refine zn rfl ?_)) rfl (yH he0 e) ?_|(refine shC ?_;first|refine qC cs ?_)|(refine shX ?_;first|refine zu rfl (zQ (k:=i) zh rfl rfl rfl rfl rfl rfl rfl rfl l1) rfl rfl ?_|refine AD.step _ _ _ _ _ rfl (zQ (k:=i) zh rfl rfl rfl rfl rfl rfl rfl rfl l1) rfl rfl ?_|refine zu rfl (zQ (k:=i) zh rfl rfl rfl rfl rfl rfl rfl rfl l2) rfl rfl ?_|refine AD.step _ _ _ _ _ rfl (zQ (k:=i) zh rfl rfl rfl rfl rfl rfl rfl rfl l2) rfl rfl ?_)|(refine Yw ?_;first|refine VB (k:=i) (j:=0) zh rfl rfl rfl rfl rfl e2 rfl rfl rfl rfl rfl ?_)|refine sK ?_|refine sC (fun _=>?_) (fun _=>?_)|fail)
  exact ⟨_,_,_,[4],[.box 1 0],[p1],lbH (pi e) p1,lbH (pi e) p1,[pi e],rfl,rfl,tH,⟨⟨2001,rfl⟩,trivial⟩,⟨⟨2001,rfl⟩,trivial⟩,ztA p1 _ e,rfl,rfl,by decide,tS,rfl,rfl,⟨zl,rfl⟩⟩
 | ok p =>
  obtain ⟨⟨⟩,l⟩:=p
  have hl12:l.length≤1000:=by have:=hb2 _ rfl;simp only at this;omega
  have hl13:l.length≤12:=hb2 _ rfl
  simp only at hV
  have hs1:LenV (mAt g k).code.length ⟨s.st,s.kn.set i true,IntKind.i64.wrap (s.wk + 1)⟩:=⟨h1,by simp [h2]⟩
  have ok1:OkV (mAt g k).code.length ⟨s.st,s.kn.set i true,IntKind.i64.wrap (s.wk + 1)⟩:=⟨hok.len,hok.st⟩
  have ow1:0≤(⟨s.st,s.kn.set i true,IntKind.i64.wrap (s.wk + 1)⟩:VS).wk∧(⟨s.st,s.kn.set i true,IntKind.i64.wrap (s.wk + 1)⟩:VS).wk≤900001:=hW0
  have hwi:IntKind.i64.wrap ((i:Int) + 1)=(i:Int) + 1:=wrap_in (by omega) (by omega)
  rw [zfZ] at hV
  repeat' (first|refine zu rfl (yj (k:=i) (j:=0) zh rfl rfl rfl rfl e1 rfl) rfl rfl ?_|refine AD.step _ _ _ _ _ rfl (yj (k:=i) (j:=0) zh rfl rfl rfl rfl e1 rfl) rfl rfl ?_|refine YQ 23 22 rfl (by kernel_rfl) (by kernel_rfl) (by kernel_rfl) (by kernel_rfl) (by kernel_rfl) ?_|refine zu rfl (zU (ps:=(zgz g (mAt g k))) zh rfl rfl rfl rfl rfl) rfl rfl ?_|refine AD.step _ _ _ _ _ rfl (zU (ps:=(zgz g (mAt g k))) zh rfl rfl rfl rfl rfl) rfl rfl ?_|(refine shC ?_;first|refine qC cs ?_|refine qC (yu rfl 0) ?_|refine qC cw ?_|refine qC cg ?_)|(refine shX ?_;first|refine zu rfl (zQ (k:=i) zh rfl rfl rfl rfl rfl rfl rfl rfl l1) rfl rfl ?_|refine AD.step _ _ _ _ _ rfl (zQ (k:=i) zh rfl rfl rfl rfl rfl rfl rfl rfl l1) rfl rfl ?_|refine zu rfl (zQ (k:=i) zh rfl rfl rfl rfl rfl rfl rfl rfl l2) rfl rfl ?_|refine AD.step _ _ _ _ _ rfl (zQ (k:=i) zh rfl rfl rfl rfl rfl rfl rfl rfl l2) rfl rfl ?_)|(refine Yw ?_;first|refine VB (k:=i) (j:=0) zh rfl rfl rfl rfl rfl e2 rfl rfl rfl rfl rfl ?_)|refine sA ?_|fail)
  refine zkG 12 rfl (List.map_set ..).symm ?_
  generalize Yy (QX (mAt g k) i)=nx at *
  rw [hpl] at hV
  rw [hpl]
  cases nx
  ·simp only [Bool.false_eq_true,if_false] at hV
   rw [hV]
   repeat' (first|refine sK ?_|refine sC (fun _=>?_) (fun _=>?_)|fail)
   exact ⟨_,_,_,[4],[.box 1 0],[p1],zmS g (mAt g k) k (⟨s.st,s.kn.set i true,IntKind.i64.wrap (s.wk + 1)⟩) us (pi 0) p1,zmS g (mAt g k) k (⟨s.st,s.kn.set i true,IntKind.i64.wrap (s.wk + 1)⟩) us (pi 0) p1,[pi 0],rfl,rfl,tH,⟨⟨2001,rfl⟩,trivial⟩,⟨⟨2001,rfl⟩,trivial⟩,zlG g (mAt g k) k _ us _ p1,rfl,rfl,by decide,tS,rfl,rfl,tH⟩
  ·simp only [if_true] at hV
   have hi1:=hnx rfl
   have hkn:(s.kn.set i true).getD ((i:Int) + 1).toNat false=false:=by rw [show ((i:Int) + 1).toNat=i + 1 by omega,List.getD_eq_getElem?_getD,List.getElem?_set_ne (by omega),←List.getD_eq_getElem?_getD];exact hfr
   have hti:¬ (i:Int) + 1≤i:=by omega
   have cN:∀ us,Xp Tryz.prog 78 [.box 10 0,.pv (pi i),.pv (pi (IntKind.i64.wrap ((i:Int) + 1))),.pv (tys l)] (rnH g (mAt g k) k ⟨s.st,s.kn.set i true,IntKind.i64.wrap (s.wk + 1)⟩++yP us [10]) (outT g (mAt g k) k us (toV g (mAt g k) i ((i:Int) + 1) l ⟨s.st,s.kn.set i true,IntKind.i64.wrap (s.wk + 1)⟩)) :=
    fun us=>by rw [hwi];exact ztI (mAt g k) k hs1 i _ ⟨ow1.1,by have:=ow1.2;omega⟩ (by omega) (by omega) l hl12 hti hkn (hen _) us
   have hn:=toL (g:=g) (l:=l) (s:=⟨s.st,s.kn.set i true,IntKind.i64.wrap (s.wk + 1)⟩) hti hkn (hen _)
   rw [hn] at hV cN
   generalize qM ((i:Int) + 1) l _=s2 at hV cN
   simp only at hV
   rw [hV]
   repeat' (first|refine zri (rnH g (mAt g k) k (⟨s.st,s.kn.set i true,IntKind.i64.wrap (s.wk + 1)⟩)) (rnH g (mAt g k) k (s2)) [(1,.cell (.pv (pi 0))),(2001,.pin (.box 1 0) p1),(1010,.pin (.own 10) (us 10))] [(0,.box 10 0),(1,.pv (pi i)),(4,.box 1 0),(5,.pv (tys l)),(6,.fn (.func 78) [.box 10 0] []),(8,.pv (pb false))] [10] zy rfl rfl rfl rfl tHR tS rfl rfl rfl (fun us=>cN us) ?_|refine sK ?_|refine sC (fun _=>?_) (fun _=>?_)|fail)
   exact ⟨_,_,_,[4],[.box 1 0],[p1],zmS g (mAt g k) k (s2) us (pi 0) p1,zmS g (mAt g k) k (s2) us (pi 0) p1,[pi 0],rfl,rfl,tH,⟨⟨2001,rfl⟩,trivial⟩,⟨⟨2001,rfl⟩,trivial⟩,zlG g (mAt g k) k _ us _ p1,rfl,rfl,by decide,tS,rfl,rfl,tH⟩
def zsf (r:Except (Int × Int) VS):PV:=match r with
 | .ok s=>.tup [.agg [.slc 1 (s.st.map tys) false,pi s.wk],pi 0,pi 0]
 | .error e=>.tup [.agg [.base (.slice none 0 0),pi 0],pi e.1,pi e.2]
abbrev mkB (g:Img) (m:Me):HEnv:=[(1,.cell (.pv (Qs g m))),(0,.cell (.pv (.agg [.base (.slice none 0 0),pi 0])))]
abbrev mkS (n:Nat):Nat × HE:=(11,.mrow 40 1 (List.replicate n (.base (.slice none 0 0))))
abbrev mkK (n:Nat):Nat × HE:=(12,.mrow 4 1 (List.replicate n (pb false)))
theorem zkd (n:Nat):PCL (List.replicate n (.base (.slice none 0 0))) ((List.replicate n []).map tys):=by
 refine ⟨by simp,fun k c d hc hd=>?_⟩
 rw [List.map_replicate] at hd
 obtain rfl:=List.eq_of_mem_replicate (List.mem_of_getElem? hc)
 obtain rfl:=List.eq_of_mem_replicate (List.mem_of_getElem? hd)
 exact yJ (zbj 4 false) zbm
theorem zqK {g:Img} {m:Me} (h:(Vm g m).2=0) {i:Nat} (hi:i < m.code.length):onV m i=0:=by
 unfold Vm at h
 split at h
 ·rename_i j hj
  have:=List.find?_some hj
  simp at this
  exact absurd h this
 ·rename_i hj
  rw [List.find?_eq_none] at hj
  have:=hj i (List.mem_range.2 hi)
  simp only [bne_iff_ne,ne_eq,Decidable.not_not] at this
  unfold Qu at this
  apply Classical.byContradiction
  intro hn
  rw [if_pos (by simpa using hn)] at this
  exact hn this
theorem zrf {g:Img} {k i:Int} {n:Nat} {s s':VS} (h:LenV n s) (ht:zek g k i s=.ok s'):LenV n s':=by
 unfold zek at ht
 split at ht
 ·cases ht
 ·unfold zfZ at ht
  split at ht
  ·cases ht
  ·rename_i s1 h1
   have k1:LenV n s1:=by
    split at h1
    ·exact zoR (show LenV n { s with kn:=s.kn.set i.toNat true,wk:=s.wk + 1 } from ⟨h.st,by simp [h.kn]⟩) h1
    ·cases h1;exact ⟨h.st,by simp [h.kn]⟩
   split at ht
   ·exact zoR k1 ht
   ·cases ht;exact k1
theorem ztT {g:Img} {m:Me} {i t:Int} {l:List Ty} {s:VS} {e:Int} (ht:toV g m i t l s=.error e):e≠0:=by
 unfold toV at ht
 split at ht
 ·cases ht;decide
 ·split at ht
  ·split at ht
   ·cases ht
   ·cases ht;decide
  ·split at ht
   ·cases ht
   ·split at ht
    ·cases ht
    ·rename_i h;cases ht;simpa using h
theorem zus {g:Img} {k i:Int} {s:VS} {e:Int} (ht:zek g k i s=.error e):e≠0:=by
 unfold zek at ht
 split at ht
 ·rename_i h;cases ht;exact zoM h
 ·unfold zfZ at ht
  split at ht
  ·rename_i h1
   cases ht
   split at h1
   ·exact ztT h1
   ·cases h1
  ·split at ht
   ·exact ztT ht
   ·cases ht
set_option maxHeartbeats 8000000 in
theorem zkJ {g:Img} (hc:(yC g).2=0) {k:Int} (hm:mOk g k) (hcode:0 < (mAt g k).code.length) (hL:∀ i:Nat,i < (mAt g k).code.length→zg3 (zX (mAt g k) (i:Int))) (hcx:(mAt g k).clauses=[]) (ha:(Vm g (mAt g k)).2=0):ACall Tryz.prog 25 [zq g,pi k,.ptr (zq g) 0] (zsf (zc3 g k)):=by
 have hF:=(Xk (Xr hc).1).formed
 have hM:=YV hF hm
 have hs:=hM.small
 have cf:=zjv hc hm
 have he:(g.methods.map zG)[k.toNat]?=some (zG (mAt g k)):=by rw [mAt,zx hm.2];exact zA hm.2
 have hk0:=hm.1
 have e0:((Vm g (mAt g k)).2 != 0)=false:=by simp [ha]
 have hV:zc3 g k=goV g k (mAt g k).code.length 0 (zbw (mAt g k)):=by rw [zc3,e0,if_neg (by simp)]
 rw [hV]
 obtain ⟨n,hn⟩:∃ n,n=(mAt g k).code.length:=⟨_,rfl⟩
 have hnl:(((((mAt g k).code.map zY).length:Nat):Int))=((n:Nat):Int):=by rw [List.length_map,hn]
 have hs0:LenV n ⟨List.replicate n [],List.replicate n false,0⟩:=⟨by simp,by simp⟩
 have hst:zbw (mAt g k)=qM 0 [] ⟨List.replicate n [],List.replicate n false,0⟩:=by rw [zbw,←hn,hcx];rfl
 have hso:=zsv (mAt g k)
 rw [←hn] at hso
 rw [←hn]
 have hfr0:∀ j,0 < j→(qM 0 [] ⟨List.replicate n [],List.replicate n false,0⟩:VS).kn.getD j false=false:=fun j hj=>by
  show ((List.replicate n false).set (0:Int).toNat true).getD j false=false
  rw [List.getD_eq_getElem?_getD,List.getElem?_set_ne (by show 0≠j;omega),List.getElem?_replicate]
  split <;> rfl
 refine zf zh Tryz.func25 rfl (by kernel_rfl) Tryz.ntmps25 (by simp) _ rfl (fun hw gB hgB=>?_)
 repeat' (first|refine yE 1 7 0 zh rfl (by kernel_rfl) (by kernel_rfl) (by kernel_rfl) rfl rfl rfl rfl rfl rfl rfl rfl rfl rfl rfl rfl rfl rfl (fun _=>rfl) rfl rfl rfl ?_|refine ⟨_,_,rfl,rfl,rfl,?_⟩|refine zu rfl (zU (ps:=(zgz g (mAt g k))) zh rfl rfl rfl rfl rfl) rfl rfl ?_|refine AD.step _ _ _ _ _ rfl (zU (ps:=(zgz g (mAt g k))) zh rfl rfl rfl rfl rfl) rfl rfl ?_|refine zmo (id:=6) rfl ?_|(refine shC ?_;first|refine qC cf ?_)|(refine shX ?_;first|refine zu rfl (zk zh rfl rfl rfl rfl rfl rfl hk0 he) rfl rfl ?_|refine AD.step _ _ _ _ _ rfl (zk zh rfl rfl rfl rfl rfl rfl hk0 he) rfl rfl ?_)|refine sA ?_|fail)
 refine zfs 4 7 [0,1,2,3,4,5,6,7,8,9,10] [0,1,2,3,4,5,6,7,8,9,10] [0,1,2,6,7,3,4,5,8,9,10] [0,1,2,5,6,7,3,4,8,9,10] rfl (by kernel_rfl) (by kernel_rfl) (zfs 5 7 [0,1,2,3,4,5,6,7,8,9,10] [0,1,2,3,4,5,6,7,8,9,10] [0,1,2,3,4,6,7,5,8,9,10] [0,1,2,3,4,7,5,6,8,9,10] rfl (by kernel_rfl) (by kernel_rfl) (zmE (by kernel_rfl) ?_) (zmE (by kernel_rfl) ?_)) (zmE (by kernel_rfl) ?_)
 focus
  refine zc0 11 8 [4,5,7] [] (mkL [mkB g (mAt g k),mkS n::mkB g (mAt g k),mkS n::mkB g (mAt g k),mkK n::mkS n::mkB g (mAt g k)]) (mkL [mkB g (mAt g k),mkS n::mkB g (mAt g k),mkS n::mkB g (mAt g k),mkK n::mkS n::mkB g (mAt g k)]) (mkB g (mAt g k)) none rfl (by kernel_rfl) (by kernel_rfl) (by kernel_rfl) (by kernel_rfl) (by kernel_rfl) (by kernel_rfl) (fun p hp=>by simp at hp) rfl (VN rfl ⟨tH,tH,tH,tH,trivial⟩) rfl (Yr rfl rfl) (fun q h=>Yr rfl rfl q 3 h (Nat.le_refl 3)) tH rfl (fun v hv=>by cases hv) ?_
  repeat' (first|refine ZQ 4 [0,2] (.own 11) rfl rfl rfl rfl rfl ?_|refine ZQ 0 [1] (.agg [.own 11,.pv (pi 0)]) rfl rfl rfl rfl rfl ?_|refine ZQ 1 [] (.own 12) rfl rfl rfl rfl rfl ?_|refine ⟨⟨rfl,Xd (m:=n) (sz:=1) zh 11 rfl rfl rfl rfl hnl rfl rfl (by show 24 * _≤_;omega) (by simp [maxLen];omega) rfl rfl rfl,.inr (by kernel_rfl)⟩,?_⟩|refine ⟨⟨rfl,Xd (m:=n) (sz:=1) zh 12 rfl rfl rfl rfl hnl rfl rfl (by show 1 * _≤_;omega) (by simp [maxLen];omega) rfl rfl rfl,.inr (by kernel_rfl)⟩,?_⟩|refine ⟨⟨rfl,zhl (VL zh rfl ⟨_,rfl⟩ rfl rfl rfl rfl rfl rfl),.inr (by kernel_rfl)⟩,?_⟩|refine Qc ?_|intro _|refine zaS ?_|refine zu rfl (VL zh rfl ⟨_,rfl⟩ rfl rfl rfl rfl rfl rfl) rfl rfl ?_|refine zu rfl (zU (ps:=(zgz g (mAt g k))) zh rfl rfl rfl rfl rfl) rfl rfl ?_|refine AD.step _ _ _ _ _ rfl (zU (ps:=(zgz g (mAt g k))) zh rfl rfl rfl rfl rfl) rfl rfl ?_|refine zeN (es:=List.replicate n (.base (.slice none 0 0))) 11 rfl (zkd n) ?_|refine zkG (es:=List.replicate n (pb false)) 12 rfl (List.map_replicate ..).symm ?_|(refine Xg ?_;first|refine zar 10 rfl rfl rfl rfl rfl rfl ?_)|(refine zL ?_;first|(refine yA (rnH g (mAt g k) k ⟨List.replicate n [],List.replicate n false,0⟩) (rnH g (mAt g k) k (qM 0 [] ⟨List.replicate n [],List.replicate n false,0⟩)) [(0,.cell (.pv (.agg [.base (.slice none 0 0),pi 0])))] [(6,.box 0 0),(12,.pv (pi (((mAt g k).code.map zY).length:Nat))),(13,.box 10 0)] [10] zy rfl rfl rfl ?_ tS rfl rfl rfl (fun us=>zcf g (mAt g k) k hs0 0 ⟨Int.le_refl 0,by show (0:Int).toNat < n;omega⟩ [] _ (zbj 4 false) us) ?_;· (repeat (first|exact zl|refine zn rfl ?_)))|(refine yA (rnH g (mAt g k) k (qM 0 [] ⟨List.replicate n [],List.replicate n false,0⟩)) (rnH g (mAt g k) k (qM 0 [] ⟨List.replicate n [],List.replicate n false,0⟩)) [(0,.cell (.pv (.agg [.base (.slice none 0 0),pi 0])))] [(6,.box 0 0),(12,.pv (pi (((mAt g k).code.map zY).length:Nat))),(13,.box 10 0)] [10] zy rfl rfl rfl ?_ tS rfl rfl rfl (fun us=>zaG g (mAt g k) k _ hcx us) ?_;· (repeat (first|exact zl|refine zn rfl ?_))))|refine sK ?_|refine sC (fun _=>?_) (fun _=>?_)|fail)
 rotate_left
 focus
  refine zc0 11 8 [4,6,7] [] (mkL [mkB g (mAt g k),mkS n::mkB g (mAt g k),mkK n::mkS n::mkB g (mAt g k),mkK n::mkS n::mkB g (mAt g k)]) (mkL [mkB g (mAt g k),mkS n::mkB g (mAt g k),mkK n::mkS n::mkB g (mAt g k),mkK n::mkS n::mkB g (mAt g k)]) (mkB g (mAt g k)) none rfl (by kernel_rfl) (by kernel_rfl) (by kernel_rfl) (by kernel_rfl) (by kernel_rfl) (by kernel_rfl) (fun p hp=>by simp at hp) rfl (VN rfl ⟨tH,tH,tH,tH,trivial⟩) rfl (Yr rfl rfl) (fun q h=>Yr rfl rfl q 3 h (Nat.le_refl 3)) tH rfl (fun v hv=>by cases hv) ?_
  repeat' (first|refine ZQ 4 [1,2] (.own 11) rfl rfl rfl rfl rfl ?_|refine ZQ 1 [0] (.own 12) rfl rfl rfl rfl rfl ?_|refine ZQ 0 [] (.agg [.own 11,.pv (pi 0)]) rfl rfl rfl rfl rfl ?_|refine ⟨⟨rfl,Xd (m:=n) (sz:=1) zh 11 rfl rfl rfl rfl hnl rfl rfl (by show 24 * _≤_;omega) (by simp [maxLen];omega) rfl rfl rfl,.inr (by kernel_rfl)⟩,?_⟩|refine ⟨⟨rfl,Xd (m:=n) (sz:=1) zh 12 rfl rfl rfl rfl hnl rfl rfl (by show 1 * _≤_;omega) (by simp [maxLen];omega) rfl rfl rfl,.inr (by kernel_rfl)⟩,?_⟩|refine ⟨⟨rfl,zhl (VL zh rfl ⟨_,rfl⟩ rfl rfl rfl rfl rfl rfl),.inr (by kernel_rfl)⟩,?_⟩|refine Qc ?_|intro _|refine zaS ?_|refine zu rfl (VL zh rfl ⟨_,rfl⟩ rfl rfl rfl rfl rfl rfl) rfl rfl ?_|refine zu rfl (zU (ps:=(zgz g (mAt g k))) zh rfl rfl rfl rfl rfl) rfl rfl ?_|refine AD.step _ _ _ _ _ rfl (zU (ps:=(zgz g (mAt g k))) zh rfl rfl rfl rfl rfl) rfl rfl ?_|refine zeN (es:=List.replicate n (.base (.slice none 0 0))) 11 rfl (zkd n) ?_|refine zkG (es:=List.replicate n (pb false)) 12 rfl (List.map_replicate ..).symm ?_|(refine Xg ?_;first|refine zar 10 rfl rfl rfl rfl rfl rfl ?_)|(refine zL ?_;first|(refine yA (rnH g (mAt g k) k ⟨List.replicate n [],List.replicate n false,0⟩) (rnH g (mAt g k) k (qM 0 [] ⟨List.replicate n [],List.replicate n false,0⟩)) [(0,.cell (.pv (.agg [.base (.slice none 0 0),pi 0])))] [(6,.box 0 0),(12,.pv (pi (((mAt g k).code.map zY).length:Nat))),(13,.box 10 0)] [10] zy rfl rfl rfl ?_ tS rfl rfl rfl (fun us=>zcf g (mAt g k) k hs0 0 ⟨Int.le_refl 0,by show (0:Int).toNat < n;omega⟩ [] _ (zbj 4 false) us) ?_;· (repeat (first|exact zl|refine zn rfl ?_)))|(refine yA (rnH g (mAt g k) k (qM 0 [] ⟨List.replicate n [],List.replicate n false,0⟩)) (rnH g (mAt g k) k (qM 0 [] ⟨List.replicate n [],List.replicate n false,0⟩)) [(0,.cell (.pv (.agg [.base (.slice none 0 0),pi 0])))] [(6,.box 0 0),(12,.pv (pi (((mAt g k).code.map zY).length:Nat))),(13,.box 10 0)] [10] zy rfl rfl rfl ?_ tS rfl rfl rfl (fun us=>zaG g (mAt g k) k _ hcx us) ?_;· (repeat (first|exact zl|refine zn rfl ?_))))|refine sK ?_|refine sC (fun _=>?_) (fun _=>?_)|fail)
 rotate_left
 focus
  refine zc0 11 8 [4,6,7] [] (mkL [mkB g (mAt g k),mkK n::mkB g (mAt g k),mkS n::mkK n::mkB g (mAt g k),mkS n::mkK n::mkB g (mAt g k)]) (mkL [mkB g (mAt g k),mkK n::mkB g (mAt g k),mkS n::mkK n::mkB g (mAt g k),mkS n::mkK n::mkB g (mAt g k)]) (mkB g (mAt g k)) none rfl (by kernel_rfl) (by kernel_rfl) (by kernel_rfl) (by kernel_rfl) (by kernel_rfl) (by kernel_rfl) (fun p hp=>by simp at hp) rfl (VN rfl ⟨tH,tH,tH,tH,trivial⟩) rfl (Yr rfl rfl) (fun q h=>Yr rfl rfl q 3 h (Nat.le_refl 3)) tH rfl (fun v hv=>by cases hv) ?_
  repeat' (first|refine ZQ 4 [1,2] (.own 12) rfl rfl rfl rfl rfl ?_|refine ZQ 1 [0] (.own 11) rfl rfl rfl rfl rfl ?_|refine ZQ 0 [] (.agg [.own 11,.pv (pi 0)]) rfl rfl rfl rfl rfl ?_|refine ⟨⟨rfl,Xd (m:=n) (sz:=1) zh 11 rfl rfl rfl rfl hnl rfl rfl (by show 24 * _≤_;omega) (by simp [maxLen];omega) rfl rfl rfl,.inr (by kernel_rfl)⟩,?_⟩|refine ⟨⟨rfl,Xd (m:=n) (sz:=1) zh 12 rfl rfl rfl rfl hnl rfl rfl (by show 1 * _≤_;omega) (by simp [maxLen];omega) rfl rfl rfl,.inr (by kernel_rfl)⟩,?_⟩|refine ⟨⟨rfl,zhl (VL zh rfl ⟨_,rfl⟩ rfl rfl rfl rfl rfl rfl),.inr (by kernel_rfl)⟩,?_⟩|refine Qc ?_|intro _|refine zaS ?_|refine zu rfl (VL zh rfl ⟨_,rfl⟩ rfl rfl rfl rfl rfl rfl) rfl rfl ?_|refine zu rfl (zU (ps:=(zgz g (mAt g k))) zh rfl rfl rfl rfl rfl) rfl rfl ?_|refine AD.step _ _ _ _ _ rfl (zU (ps:=(zgz g (mAt g k))) zh rfl rfl rfl rfl rfl) rfl rfl ?_|refine zeN (es:=List.replicate n (.base (.slice none 0 0))) 11 rfl (zkd n) ?_|refine zkG (es:=List.replicate n (pb false)) 12 rfl (List.map_replicate ..).symm ?_|(refine Xg ?_;first|refine zar 10 rfl rfl rfl rfl rfl rfl ?_)|(refine zL ?_;first|(refine yA (rnH g (mAt g k) k ⟨List.replicate n [],List.replicate n false,0⟩) (rnH g (mAt g k) k (qM 0 [] ⟨List.replicate n [],List.replicate n false,0⟩)) [(0,.cell (.pv (.agg [.base (.slice none 0 0),pi 0])))] [(6,.box 0 0),(12,.pv (pi (((mAt g k).code.map zY).length:Nat))),(13,.box 10 0)] [10] zy rfl rfl rfl ?_ tS rfl rfl rfl (fun us=>zcf g (mAt g k) k hs0 0 ⟨Int.le_refl 0,by show (0:Int).toNat < n;omega⟩ [] _ (zbj 4 false) us) ?_;· (repeat (first|exact zl|refine zn rfl ?_)))|(refine yA (rnH g (mAt g k) k (qM 0 [] ⟨List.replicate n [],List.replicate n false,0⟩)) (rnH g (mAt g k) k (qM 0 [] ⟨List.replicate n [],List.replicate n false,0⟩)) [(0,.cell (.pv (.agg [.base (.slice none 0 0),pi 0])))] [(6,.box 0 0),(12,.pv (pi (((mAt g k).code.map zY).length:Nat))),(13,.box 10 0)] [10] zy rfl rfl rfl ?_ tS rfl rfl rfl (fun us=>zaG g (mAt g k) k _ hcx us) ?_;· (repeat (first|exact zl|refine zn rfl ?_))))|refine sK ?_|refine sC (fun _=>?_) (fun _=>?_)|fail)
 rotate_left
 all_goals
  refine zo (fun x:Nat × VS=>[(6,.box 0 0),(13,.box 10 0),(51,.pv (pi (((mAt g k).code.map zY).length:Nat))),(52,.pv (pi x.1))]) (fun x=>rnH g (mAt g k) k x.2++[(0,.cell (.pv (.agg [.base (.slice none 0 0),pi 0])))]) (fun x=>x.1≤n∧goV g k (n - x.1) x.1 x.2=goV g k n 0 (zbw (mAt g k))∧LenV n x.2∧OkV n x.2∧0≤x.2.wk∧x.2.wk≤27 * (x.1:Int)∧∀ j,x.1 < j→x.2.kn.getD j false=false) (fun x=>n - x.1) (0,qM 0 [] ⟨List.replicate n [],List.replicate n false,0⟩)
   ⟨by omega,by rw [←hst];rfl,zof hs0 0 [],by rw [←hst];exact hso.1,by rw [←hst,hso.2];exact Int.le_refl 0,by rw [←hst,hso.2];exact Int.le_refl 0,hfr0⟩ tS tH ?_
  rintro ⟨i,s⟩ ⟨hin,hgo,hl,hok,w0,w1,hfr⟩
  dsimp only at hin hgo hl hok w0 w1 hfr ⊢
  by_cases hlt:i < n
  ·have hd:decide (((i:Nat):Int) < (((mAt g k).code.map zY).length:Nat))=true:=decide_eq_true (by rw [hnl];omega)
   have c1:=fun us=>zrK hc hm (s:=s) (by rw [←hn];exact hl) (by rw [←hn];exact hok) ⟨w0,by omega⟩ i (by omega) (zqK ha (by omega)) (hL i (by omega)) hcx (hfr _ (by omega)) us
   rw [show n - i=(n - (i + 1)) + 1 by omega,goV] at hgo
   cases hr:zek g k i s with
   | ok s' =>
    rw [hr] at hgo
    have ho:=zt0 hs.2.2.2.2.2 hok hr
    repeat' (first|(refine zL ?_;first|(refine yA (rnH g (mAt g k) k s) (rnH g (mAt g k) k s') [(0,.cell (.pv (.agg [.base (.slice none 0 0),pi 0])))] [(6,.box 0 0),(13,.box 10 0),(51,.pv (pi (((mAt g k).code.map zY).length:Nat))),(52,.pv (pi i))] [10] zy rfl rfl rfl ?_ tS rfl rfl rfl (fun us=>by have h:=c1 us;rw [hr] at h;exact h) ?_;· (repeat (first|exact zl|refine zn rfl ?_))))|refine sK ?_|refine sC (fun _=>?_) (fun _=>?_)|fail)
    exact ⟨(i + 1,s'),⟨hlt,hgo,zrf hl hr,ho.1,by have:=ho.2.1;show 0≤s'.wk;omega,by have:=ho.2.2;show s'.wk≤27 * ((i + 1:Nat):Int);omega,zqi (hL i (by omega)) hcx hfr hr⟩,tD,tS,tH⟩
   | error e =>
    rw [hr] at hgo
    have hnz:(e != 0)=true:=by simpa using zus hr
    repeat' (first|(refine zL ?_;first|(refine yA (rnH g (mAt g k) k s) ([]) [(0,.cell (.pv (.agg [.base (.slice none 0 0),pi 0])))] [(6,.box 0 0),(14,.pv (pi i))] [] zy rfl rfl rfl ?_ tS rfl rfl rfl (fun _=>zly [10] rfl fun us=>by have h:=c1 us;rw [hr] at h;exact h) ?_;· (repeat (first|exact zl|refine zn rfl ?_))))|refine sK ?_|refine sC (fun _=>?_) (fun _=>?_)|fail)
    exact retq rfl (by rw [←hgo];rfl)
  ·have hd:decide (((i:Nat):Int) < (((mAt g k).code.map zY).length:Nat))=false:=decide_eq_false (by rw [hnl];omega)
   have hgo2:goV g k n 0 (zbw (mAt g k))=.ok s:=by rw [←hgo,show n - i=0 by omega];rfl
   repeat' (first|refine zaa 11 rfl ?_|refine zh2 10 11 18 rfl rfl rfl ?_|refine zu rfl (zU (ps:=[.slc 1 (s.st.map tys) false,pi s.wk]) zh rfl rfl rfl rfl rfl) rfl rfl ?_|refine AD.step _ _ _ _ _ rfl (zU (ps:=[.slc 1 (s.st.map tys) false,pi s.wk]) zh rfl rfl rfl rfl rfl) rfl rfl ?_|refine sK ?_|refine sC (fun _=>?_) (fun _=>?_)|fail)
   exact retq rfl (by rw [hgo2];rfl)
set_option maxHeartbeats 20000000
theorem zmn (g:Img) (hx:OkA g) (hc:((yC g).2==0)=false):ACall Tryz.prog 24 [zq g] (.base (.pointer none)):=by
 have c1:=zcz g hx
 rw [zeJ] at c1
 have hc2:((yC g).2 != 0)=true:=by rw [bne,hc];rfl
 generalize (yC g).2=e at c1 hc hc2
 refine zf zh Tryz.func24 rfl (by kernel_rfl) Tryz.ntmps24 (by simp) _ rfl (fun hw gB hgB=>?_)
 repeat' (first|(refine shC ?_;first|refine qC c1 ?_)|refine sK ?_|refine sC (fun _=>?_) (fun _=>?_)|fail)
 exact retq rfl rfl
def zcl (g:Img) (m:Int):Except (Int × Int) VS:=if WE g&&XA g m then zc3 g m else .error (0,17)
theorem zf7 (g:Img) (hx:OkA g) (hL:∀ y∈g.methods,∀ x∈y.code,zg3 x) (hcx:∀ y∈g.methods,y.clauses=[]) (m:Int) (ha:(Vm g (mAt g m)).2=0):ACall Tryz.prog 12 [zq g,pi m] (zsf (zcl g m)):=by
 have c2:ACall Tryz.prog 19 [zq g,pi m] (pb (XA g m)):=zh6 g m
 cases hwl:WE g
 ·have hV:zcl g m=.error (0,17):=by rw [zcl,hwl];rfl
  have c1:=zmn g hx hwl
  rw [hV]
  refine zf zh Tryz.func12 rfl (by kernel_rfl) Tryz.ntmps12 (by simp) _ rfl (fun hw gB hgB=>?_)
  repeat' (first|refine zu rfl (Wx (b:=true) rfl Tryz.underlying64 rfl rfl) rfl rfl ?_|refine AD.step _ _ _ _ _ rfl (Wx (b:=true) rfl Tryz.underlying64 rfl rfl) rfl rfl ?_|(refine shC ?_;first|refine qC c1 ?_)|refine sK ?_|refine sC (fun _=>?_) (fun _=>?_)|fail)
  exact retq rfl rfl
 ·have hc:(yC g).2=0:=by simpa [WE] using hwl
  have c1:=zkN g hx hc
  cases hk:XA g m
  ·rw [hk] at c2
   have hV:zcl g m=.error (0,17):=by rw [zcl,hwl,hk];rfl
   rw [hV]
   refine zf zh Tryz.func12 rfl (by kernel_rfl) Tryz.ntmps12 (by simp) _ rfl (fun hw gB hgB=>?_)
   repeat' (first|refine zu rfl (Wx (b:=false) rfl Tryz.underlying64 rfl rfl) rfl rfl ?_|refine AD.step _ _ _ _ _ rfl (Wx (b:=false) rfl Tryz.underlying64 rfl rfl) rfl rfl ?_|(refine shC ?_;first|refine qC c1 ?_|refine qC c2 ?_)|refine sK ?_|refine sC (fun _=>?_) (fun _=>?_)|fail)
   exact retq rfl rfl
  ·rw [hk] at c2
   have hV:zcl g m=zc3 g m:=by rw [zcl,hwl,hk];rfl
   have hk2:=hk
   simp only [XA,Bool.and_eq_true,decide_eq_true_eq] at hk2
   have hm:mOk g m:=⟨hk2.1.1,by omega⟩
   have hl2:∀ i:Nat,i < (mAt g m).code.length→zg3 (zX (mAt g m) (i:Int)):=fun i hi=>by
    have h2:((i:Nat):Int).toNat < (mAt g m).code.length:=by omega
    refine hL (mAt g m) (by rw [mAt,zx hm.2];exact List.getElem_mem hm.2) _ ?_
    rw [zX,zx h2];exact List.getElem_mem h2
   have c3:=zkJ hc hm hk2.2 hl2 (hcx _ (by rw [mAt,zx hm.2];exact List.getElem_mem hm.2)) ha
   rw [hV]
   generalize zc3 g m=r at c3 ⊢
   cases r with
   | ok s =>
    refine zf zh Tryz.func12 rfl (by kernel_rfl) Tryz.ntmps12 (by simp) _ rfl (fun hw gB hgB=>?_)
    repeat' (first|refine zu rfl (Wx (b:=false) rfl Tryz.underlying64 rfl rfl) rfl rfl ?_|refine AD.step _ _ _ _ _ rfl (Wx (b:=false) rfl Tryz.underlying64 rfl rfl) rfl rfl ?_|(refine shC ?_;first|refine qC c1 ?_|refine qC c2 ?_|refine qC c3 ?_)|refine sK ?_|refine sC (fun _=>?_) (fun _=>?_)|fail)
    exact retq rfl rfl
   | error e =>
    refine zf zh Tryz.func12 rfl (by kernel_rfl) Tryz.ntmps12 (by simp) _ rfl (fun hw gB hgB=>?_)
    repeat' (first|refine zu rfl (Wx (b:=false) rfl Tryz.underlying64 rfl rfl) rfl rfl ?_|refine AD.step _ _ _ _ _ rfl (Wx (b:=false) rfl Tryz.underlying64 rfl rfl) rfl rfl ?_|(refine shC ?_;first|refine qC c1 ?_|refine qC c2 ?_|refine qC c3 ?_)|refine sK ?_|refine sC (fun _=>?_) (fun _=>?_)|fail)
    exact retq rfl rfl
set_option maxHeartbeats 20000000
abbrev zht:List Ins:=[⟨8,0,⟨0,0,0,false⟩⟩,⟨46,0,⟨0,0,0,false⟩⟩]
abbrev zh5:List Ins:=[⟨13,0,⟨0,0,0,false⟩⟩,⟨46,0,⟨0,0,0,false⟩⟩]
abbrev meE (c:List Ins):Me:=⟨⟨#[109]⟩,0,1,[],⟨2,0,0,false⟩,[],2,c,[]⟩
abbrev gE (c:List Ins):Img:=⟨[⟨⟨#[65]⟩,0,-1,[]⟩],[],[meE c],-1⟩
abbrev zu0 (q:PV):PV:=.agg [.slc 4 [wTD 65 (-1)] true,.base (.slice none 0 0),.slc 12 [.agg [.base (.string ⟨#[109]⟩),pi 0,pi 1,.base (.slice none 0 0),pi 2,pi 0,pi 0,pb false,.base (.slice none 0 0),pi 2,q,.base (.slice none 0 0)]] true,pi (-1)]
theorem zhH (x y:Ins):ACall Tryz.prog 15 [.slc 6 [zY x,zY y] true] (zu0 (.slc 6 [zY x,zY y] true)):=by
 refine zf zh Tryz.func15 rfl (by kernel_rfl) Tryz.ntmps15 (by simp) _ rfl (fun hw gB hgB=>?_)
 repeat' (first|refine sK ?_|refine sC (fun _=>?_) (fun _=>?_)|fail)
 exact retq rfl rfl
theorem zgY (x y:Ins):PTells (zu0 (.slc 6 [zY x,zY y] true)) (zq (gE [x,y])) :=
 zur (yJ (zg4 (zbe (zpW 65 (-1)) zeF)) (yJ (zbj 7 false) (yJ (zg4 (zbe
  (yJ (.refl _) (yJ (.refl _) (yJ (.refl _) (yJ (zbj 4 false) (yJ (.refl _) (yJ (.refl _) (yJ (.refl _) (yJ (.refl _) (yJ (zbj 4 false) (yJ (.refl _)
   (yJ (zg4 (zbe (zgT _) (zbe (zgT _) zeF))) (yJ (zbj 10 false) zbm))))))))))))
  zeF)) (yJ (.refl _) zbm))))
theorem zmv {c:List Ins} (h:c=zht∨c=zh5):(yC (gE c)).2=0:=by
 have h1:ZU (gE c)=true:=by rcases h with rfl|rfl <;> decide +kernel
 have h2:ZC (gE c)=true:=by rcases h with rfl|rfl <;> decide +kernel
 have h3:∀ j,j < (gE c).types.length→Yk (gE c) j=false:=by
  intro j hj
  have:j=0:=by have:(gE c).types.length=1:=rfl;omega
  subst this;rcases h with rfl|rfl <;> decide +kernel
 rw [yC,show zcm (gE c)=true by rw [zcm,zdk h1 h2 h3];rfl]
 show (stM (gE c) (List.range (gE c).methods.length)).2=0
 rcases h with rfl|rfl <;> decide +kernel
theorem okE {c:List Ins} (h:c=zht∨c=zh5):OkA (gE c):=by
 intro m hm x hx
 have hm2:m=meE c:=by simpa [gE] using hm
 rw [hm2] at hx
 have hx2:x∈c:=hx
 rcases h with rfl|rfl <;> simp at hx2 <;> rcases hx2 with rfl|rfl <;> exact ⟨by decide,by decide⟩
theorem zuF {c:List Ins} (h:c=zht∨c=zh5):∀ y∈(gE c).methods,∀ x∈y.code,zg3 x:=by
 intro m hm x hx
 have hm2:m=meE c:=by simpa [gE] using hm
 rw [hm2] at hx
 have hx2:x∈c:=hx
 rcases h with rfl|rfl <;> simp at hx2 <;> rcases hx2 with rfl|rfl <;> simp [zg3]
theorem zuS {c:List Ins}:∀ y∈(gE c).methods,y.clauses=[]:=by
 intro m hm
 have hm2:m=meE c:=by simpa [gE] using hm
 rw [hm2]
theorem flE {c:List Ins} (h:c=zht∨c=zh5):(Vm (gE c) (mAt (gE c) 0)).2=0:=by rcases h with rfl|rfl <;> decide +kernel
theorem zuO:zcl (gE zht) 0=.ok ⟨[[],[⟨2,0,0,false⟩]],[true,true],4⟩:=by
 rw [zcl,show WE (gE zht)=true by rw [WE,zmv (.inl rfl)];rfl];rfl
theorem zuX:zcl (gE zh5) 0=.error (0,9):=by
 rw [zcl,show WE (gE zh5)=true by rw [WE,zmv (.inr rfl)];rfl];rfl
theorem zbF:ACall Tryz.prog 7 [] (pb true):=by
 have cA:=zf7 (gE zht) (okE (.inl rfl)) (zuF (.inl rfl)) zuS 0 (flE (.inl rfl))
 have cB:=zf7 (gE zh5) (okE (.inr rfl)) (zuF (.inr rfl)) zuS 0 (flE (.inr rfl))
 rw [zuO] at cA
 rw [zuX] at cB
 have o1:=zhH ⟨8,0,⟨0,0,0,false⟩⟩ ⟨46,0,⟨0,0,0,false⟩⟩
 have o2:=zhH ⟨13,0,⟨0,0,0,false⟩⟩ ⟨46,0,⟨0,0,0,false⟩⟩
 have cs:=zca [⟨2,0,0,false⟩] [⟨2,0,0,false⟩]
 rw [decide_eq_true rfl] at cs
 refine zf zh Tryz.func7 rfl (by kernel_rfl) Tryz.ntmps7 (by simp) _ rfl (fun hw gB hgB=>?_)
 repeat' (first|refine zd1 11 (zgY ⟨8,0,⟨0,0,0,false⟩⟩ ⟨46,0,⟨0,0,0,false⟩⟩) rfl ?_|refine zd1 20 (zgY ⟨13,0,⟨0,0,0,false⟩⟩ ⟨46,0,⟨0,0,0,false⟩⟩) rfl ?_|refine zd1 47 (zuC ⟨2,0,0,false⟩) rfl ?_|(refine shC ?_;first|refine qC o1 ?_|refine qC o2 ?_|refine qC cA ?_|refine qC cB ?_|refine qC cs ?_)|(refine shX ?_;first|refine zu rfl (zk zh rfl rfl rfl rfl rfl rfl (by decide) rfl) rfl rfl ?_|refine AD.step _ _ _ _ _ rfl (zk zh rfl rfl rfl rfl rfl rfl (by decide) rfl) rfl rfl ?_)|refine sK ?_|refine sC (fun _=>?_) (fun _=>?_)|fail)
 exact retq rfl rfl
def zpQ (g:Img):Nat→Int
 | 0=>0
 | k + 1=>IntKind.i64.wrap (zpQ g k + ((g.methods.getD k default).code.length:Int))
def zg1 (g:Img):Bool:=zaE g||decide (24 < (g.methods.length:Int))||decide (400 < zpQ g g.methods.length)
theorem zkK (g:Img):ACall Tryz.prog 8 [zq g] (pb (zg1 g)):=by
 have c1:=zp7 g
 cases hl:zaE g
 ·rw [hl] at c1
  by_cases h24:24 < (g.methods.length:Int)
  ·have d:decide (24 < (((g.methods.map zG).length:Nat):Int))=true:=decide_eq_true (by rw [List.length_map];exact h24)
   refine zf zh Tryz.func8 rfl (by kernel_rfl) Tryz.ntmps8 (by simp) _ rfl (fun hw gB hgB=>?_)
   repeat' (first|(refine shC ?_;first|refine qC c1 ?_)|refine sK ?_|refine sC (fun _=>?_) (fun _=>?_)|fail)
   exact retq rfl (by simp [zi,zg1,h24])
  ·have d:decide (24 < (((g.methods.map zG).length:Nat):Int))=false:=decide_eq_false (by rw [List.length_map];exact h24)
   refine zf zh Tryz.func8 rfl (by kernel_rfl) Tryz.ntmps8 (by simp) _ rfl (fun hw gB hgB=>?_)
   repeat' (first|(refine shC ?_;first|refine qC c1 ?_)|refine sK ?_|refine sC (fun _=>?_) (fun _=>?_)|fail)
   refine zo (fun k:Nat=>[(1,.pv (.ptr (zq g) 0)),(3,.pv (pi (zpQ g k))),(15,.pv (pi (((g.methods.map zG).length:Nat)))),(16,.pv (pi k))]) (fun _=>[]) (fun k=>k≤g.methods.length) (fun k=>g.methods.length - k) 0 (by omega) (tS) tH ?_
   intro k hk
   by_cases hlt:k < g.methods.length
   ·have he:=zA (f:=zG) hlt
    have dl:decide ((k:Int) < (((g.methods.map zG).length:Nat):Int))=true:=decide_eq_true (by rw [List.length_map];omega)
    have hs:zpQ g (k + 1)=IntKind.i64.wrap (zpQ g k + ((g.methods[k].code.map zY).length:Nat)):=by rw [zpQ,zx hlt,List.length_map]
    repeat' (first|(refine shX ?_;first|refine qX he ?_)|refine sK ?_|refine sC (fun _=>?_) (fun _=>?_)|fail)
    exact ⟨k + 1,hlt,by show g.methods.length - (k + 1) < g.methods.length - k;omega,zM rfl (qg rfl hs.symm (zM rfl (tS))),tH⟩
   ·have dl:decide ((k:Int) < (((g.methods.map zG).length:Nat):Int))=false:=decide_eq_false (by rw [List.length_map];omega)
    have hk2:k=g.methods.length:=by omega
    repeat' (first|refine sK ?_|refine sC (fun _=>?_) (fun _=>?_)|fail)
    exact retq rfl (by simp [zi,zg1,hl,h24,hk2])
 ·rw [hl] at c1
  refine zf zh Tryz.func8 rfl (by kernel_rfl) Tryz.ntmps8 (by simp) _ rfl (fun hw gB hgB=>?_)
  repeat' (first|(refine shC ?_;first|refine qC c1 ?_)|refine sK ?_|refine sC (fun _=>?_) (fun _=>?_)|fail)
  exact retq rfl (by simp [zi,zg1,hl])
end Go.Cg
