/- A part of the walks by abstract values: no statement of its own. -/
import Derived.Test.YtoeplllgofpddaaGreatU12
import Derived.Test.YtoeplllgofpddaaGreatU11
set_option linter.unusedVariables false
set_option linter.unusedSimpArgs false
namespace Go.Cg
open Go.RowKit
structure EStepN (P:Program) (g:Base) (H0 H1 N N1:HEnv) (o:Oper) (e:Env) (r:AV) (pan:Option Value):Prop where
 go:∀ (K:KK) (ρ:Nat→Value) (a:Act) (w:World),FS g K ρ H0 w→(∀ x∈o.op.operands,∀ av,e.val x=some av→ARel K w ρ N av (a.eval x)) →
  (∃ f vs,(execOp a.eval o).run P w=.ok (.enter f vs) w∧Calls P f vs w fun ex w' =>
   match pan with
   | none=>∃ v K' ρ',ex=.returned v∧FS g K' ρ' H1 w'∧Later K K' w w'∧(∀ j,(N.get j).isSome=true→ρ' j=ρ j)∧ARel K' w' ρ' N1 r v
   | some v=>ex=.panicked [{ v:=v,recovered:=false }]∧∃ K' ρ',FS g K' ρ' [] w') ∨
  (pan=none∧∃ v w' K' ρ',(execOp a.eval o).run P w=.ok (.value v) w'∧FS g K' ρ' H1 w'∧Later K K' w w'∧(∀ j,(N.get j).isSome=true→ρ' j=ρ j)∧ARel K' w' ρ' N1 r v)
def lvl:List Nat→Nat→Nat
 | [],_=>0
 | j::E,i=>if i=j then 1 else match lvl E i with|0=>0|q + 1=>q + 2
theorem zaT {i:Nat}:∀ {E:List Nat},i∉E→lvl E i=0
 | [],_=>rfl
 | j::E,h=>by
  rw [List.mem_cons,not_or] at h
  rw [lvl,if_neg h.1,zaT h.2]
theorem zcH {i:Nat}:∀ {E:List Nat} {p:Nat},E.Nodup→E[p]?=some i→lvl E i=p + 1
 | [],p,_,h=>by simp at h
 | j::E,0,_,h=>by simp at h;subst h;simp [lvl]
 | j::E,p + 1,hn,h=>by
  rw [List.nodup_cons] at hn
  have h':E[p]?=some i:=by simpa using h
  have hm:i∈E:=List.mem_of_getElem? h'
  rw [lvl,if_neg (fun e=>hn.1 (by rw [←e];exact hm)),zcH hn.2 h']
theorem Qv {l:List Oper} {E:List Nat} (hc:YA l E=true):E.Nodup:=by
 have h:E.Pairwise (· < ·):=by
  rw [List.pairwise_iff_getElem]
  intro i j hi hj hij
  exact zbR hc hij (List.getElem?_eq_getElem hi) (List.getElem?_eq_getElem hj)
 exact h.imp (fun h=>Nat.ne_of_lt h)
section
variable {P:Program} {n:Nat} {g:Base} {K:KK} {w:World} {ρ:Nat→Value} {H:HEnv} {env:Env} {a:Act} {ops l:List Oper} {Q:Env→Prop} {E:List Nat}
theorem zrb {listed:Array Bool} (hc:YA l E=true) (hcl:∀ (i:Nat) (o:Oper),l[i]?=some o→listed.getD i true=true→∀ j,yD o j=true→listed.getD j false=true) {i:Nat} {o:Oper} (hi:l[i]?=some o) (hli:listed.getD i true=true):lvl E i≤phase E listed:=by
 by_cases hm:i∈E
 ·obtain ⟨p,hp⟩:=List.getElem?_of_mem hm
  rw [zcH (Qv hc) hp]
  have hlow:=zi0 (listed:=listed) hc hcl hi (fun j hj=>hcl i o hi hli j hj) hp
  have hplt:=(List.getElem?_eq_some_iff.1 hp).1
  unfold phase
  have e:E=E.take (p + 1)++E.drop (p + 1):=(List.take_append_drop _ E).symm
  rw [e,List.filter_append,List.length_append]
  have h1:(E.take (p + 1)).filter (fun j=>listed.getD j true)=E.take (p + 1):=by
   rw [List.filter_eq_self]
   intro x hx
   obtain ⟨q,hq⟩:=List.getElem?_of_mem hx
   rw [List.getElem?_take] at hq
   split at hq
   ·rename_i hlt
    by_cases e:q=p
    ·subst e;rw [hp] at hq;cases hq;exact hli
    ·exact hlow q x (by omega) hq
   ·cases hq
  rw [h1]
  simp;omega
 ·rw [zaT hm];exact Nat.zero_le _
structure MidN {P:Program} {n:Nat} {g:Base} {H:HEnv} {ops l:List Oper} {E:List Nat} {env:Env} {Q:Env→Prop} (Hs Nm:Nat→HEnv) (pan:Option Value) (s:ScriptM P n g H ops l E env Q) (listed:Array Bool) (a:Act) (w:World):Prop where
 size:a.tmps.size=n
 defers:a.defers=g.ds
 lsize:listed.size=ops.length
 llen:l.length≤ops.length
 notail:∀ j,l.length≤j→j < ops.length→listed.getD j true=false
 closed:∀ (i:Nat) (o:Oper),l[i]?=some o→listed.getD i true=true→∀ j,yD o j=true→listed.getD j false=true
 nopan:phase E listed=E.length→pan=none
 st:∃ K ρ,FS g K ρ (Hs (phase E listed)) w ∧
  (∀ (i:Nat) (o:Oper) (ri:AV) (t:Nat),l[i]?=some o→listed.getD i true=true→s.r[i]?=some ri→o.dst=some t→∃ v,a.tmps[t]?=some v∧ARel K w ρ (Nm (lvl E i)) ri v) ∧
  (∀ (t:Nat) (av:AV),env.get t=some av→(∀ (i:Nat) (o:Oper),l[i]?=some o→listed.getD i true=true→o.dst≠some t)→∃ v,a.tmps[t]?=some v∧ARel K w ρ H av v)
variable {pan:Option Value} {Hs Nm:Nat→HEnv}
theorem MidN.next {s:ScriptM P n g H ops l E env Q} {listed:Array Bool} (hch:YA l E=true) (hN0:Nm 0=H) (hB:ZW ops l=true) (hm:MidN Hs Nm pan s listed a w) {j:Nat} {o:Oper} {rj:AV} {t:Nat} (ho:l[j]?=some o) (hr:s.r[j]?=some rj) (hd:o.dst=some t) (ht:t < n)
  (hun:listed.getD j true=false) (hready:∀ i,yD o i=true→listed.getD i false=true) {K':KK} {ρ':Nat→Value} {w':World} {v:Value} {K0:KK} {ρ0:Nat→Value}
  (hpn:phase E (listed.setIfInBounds j true)=E.length→pan=none)
  (hf':FS g K' ρ' (Hs (phase E (listed.setIfInBounds j true))) w')
  (htr:∀ q,q≤phase E listed→∀ av u,ARel K0 w ρ0 (Nm q) av u→ARel K' w' ρ' (Nm q) av u)
  (hl:∀ (i:Nat) (o:Oper) (ri:AV) (t:Nat),l[i]?=some o→listed.getD i true=true→s.r[i]?=some ri→o.dst=some t→∃ v,a.tmps[t]?=some v∧ARel K0 w ρ0 (Nm (lvl E i)) ri v)
  (he:∀ (t:Nat) (av:AV),env.get t=some av→(∀ (i:Nat) (o:Oper),l[i]?=some o→listed.getD i true=true→o.dst≠some t)→∃ v,a.tmps[t]?=some v∧ARel K0 w ρ0 H av v)
  (hv:ARel K' w' ρ' (Nm (lvl E j)) rj v):MidN Hs Nm pan s (listed.setIfInBounds j true) (a.put o.dst v) w':=by
 have hjlt:j < listed.size:=by rw [hm.lsize];exact Nat.lt_of_lt_of_le (List.getElem?_eq_some_iff.1 ho).1 hm.llen
 obtain ⟨_,_,hdst,_⟩:=Yj hB ho
 refine ⟨Zg hm.size,put_defers hm.defers,by simp [hm.lsize],hm.llen,fun k h1 h2=>by rw [zU (by have:=(List.getElem?_eq_some_iff.1 ho).1;omega)];exact hm.notail k h1 h2,?_,fun hh=>?_,K',ρ',hf',?_,?_⟩
 ·intro i o' ho' hli k hk
  by_cases hij:i=j
  ·subst hij
   rw [ho] at ho';cases ho'
   have:=hready k hk
   by_cases hkj:k=i
   ·subst hkj;exact qh hjlt
   ·rw [zU hkj];exact this
  ·rw [zU hij] at hli
   have:=hm.closed i o' ho' hli k hk
   by_cases hkj:k=j
   ·subst hkj;exact qh hjlt
   ·rw [zU hkj];exact this
 ·exact hpn hh
 ·intro i o' ri t' ho' hli hri hd'
  rw [hd]
  by_cases hij:i=j
  ·subst hij
   rw [ho] at ho';cases ho'
   rw [hr] at hri;cases hri
   rw [hd] at hd';cases hd'
   exact ⟨v,by simp only [Act.put];rw [Array.getElem?_setIfInBounds_self_of_lt (by rw [hm.size];exact ht)],hv⟩
  ·rw [zU hij] at hli
   obtain ⟨u,h1,h2⟩:=hl i o' ri t' ho' hli hri hd'
   have hne:t≠t':=by
    rintro rfl
    exact hdst i o' ho' hij (by rw [hd',hd])
   exact ⟨u,by simp only [Act.put];rw [Array.getElem?_setIfInBounds_ne hne];exact h1,htr _ (zrb hch hm.closed ho' hli) _ _ h2⟩
 ·intro t' av hav hno
  rw [hd]
  have hne:t≠t':=by
   rintro rfl
   exact hno j o ho (qh hjlt) hd
  obtain ⟨u,h1,h2⟩:=he t' av hav (fun i o' ho' hli hd'=>by
   by_cases hij:i=j
   ·subst hij;rw [hun] at hli;cases hli
   ·exact hno i o' ho' (by rw [zU hij];exact hli) hd')
  exact ⟨u,by simp only [Act.put];rw [Array.getElem?_setIfInBounds_ne hne];exact h1,by rw [←hN0] at h2 ⊢;exact htr 0 (Nat.zero_le _) _ _ h2⟩
theorem MidN.reads {s:ScriptM P n g H ops l E env Q} {listed:Array Bool} (hch:YA l E=true) (hB:ZW ops l=true) (hm:MidN Hs Nm pan s listed a w) {j:Nat} {o:Oper} {ej:Env} (ho:l[j]?=some o) (hej:s.e[j]?=some ej)
  (hN0:Nm 0=H) (hmono:∀ q p,q≤p→p≤E.length→YQ (Nm q) (Nm p)=true) (hrd2:∀ (p i:Nat) (oc:Oper) (tc:Nat) (rc:AV),E[p]?=some i→l[i]?=some oc→oc.dst=some tc→s.r[i]?=some rc→Yn H rc=true∨∀ (x:Nat) (o:Oper),l[x]?=some o→x∈E∨tc∉readsOf ops o) (hun:listed.getD j true=false) (hready:∀ i,yD o i=true→listed.getD i false=true) {K0:KK} {ρ0:Nat→Value}
  (hl:∀ (i:Nat) (o:Oper) (ri:AV) (t:Nat),l[i]?=some o→listed.getD i true=true→s.r[i]?=some ri→o.dst=some t→∃ v,a.tmps[t]?=some v∧ARel K0 w ρ0 (Nm (lvl E i)) ri v)
  (he:∀ (t:Nat) (av:AV),env.get t=some av→(∀ (i:Nat) (o:Oper),l[i]?=some o→listed.getD i true=true→o.dst≠some t)→∃ v,a.tmps[t]?=some v∧ARel K0 w ρ0 H av v) :
  ∀ t∈readsOf ops o,∀ av,ej.get t=some av→∃ v,a.tmps[t]?=some v∧ARel K0 w ρ0 (Nm (lvl E j - 1)) av v:=by
 intro t ht av hav
 obtain ⟨_,_,_,hrd⟩:=Yj hB ho
 have hlf:∀ i,listed.getD i false=true→listed.getD i true=true:=by
  intro i hi
  rw [Array.getD_eq_getD_getElem?] at hi ⊢
  cases h:listed[i]? with
  | none=>rfl
  | some b=>rw [h] at hi;exact hi
 have hjl:listed.getD j false=false:=by
  cases hb:listed.getD j false
  ·rfl
  ·rw [hlf j hb] at hun;cases hun
 have hlj:lvl E j - 1≤E.length:=by
  by_cases hm':j∈E
  ·obtain ⟨p,hp⟩:=List.getElem?_of_mem hm'
   have:=(List.getElem?_eq_some_iff.1 hp).1
   rw [zcH (Qv hch) hp];omega
  ·rw [zaT hm'];omega
 have up:∀ q,q≤lvl E j - 1→∀ {av:AV} {v:Value},ARel K0 w ρ0 (Nm q) av v→ARel K0 w ρ0 (Nm (lvl E j - 1)) av v:=fun q hq _ _ h=>h.keeps (.refl K0 w) fun i hi=>⟨Qw (hmono q _ hq hlj) i hi,rfl⟩
 have hsrc:=s.src j ej (by rw [List.getElem?_append_left (List.getElem?_eq_some_iff.1 hej).1];exact hej) t av hav
 rcases hsrc with ⟨i,o',ri,h1,h2,h3,h4,h5,_⟩|⟨h1,av0,h2,h3⟩
 ·rcases hrd i o' t h2 h3 ht with ⟨_,hedge⟩|⟨hlt,_⟩
  ·obtain ⟨v,v1,v2⟩:=hl i o' ri t h2 (hlf i (hready i hedge)) h4 h3
   refine ⟨v,v1,h5 _ _ _ _ _ ?_⟩
   by_cases hm':i∈E
   ·obtain ⟨p,hp⟩:=List.getElem?_of_mem hm'
    rcases hrd2 p i o' t ri hp h2 h3 h4 with hh|hh
    ·exact up 0 (Nat.zero_le _) (by rw [hN0];exact v2.refs hh)
    ·rcases hh j o ho with hjE|hh
     ·obtain ⟨q,hq⟩:=List.getElem?_of_mem hjE
      have hpq:p < q:=by
       rcases Nat.lt_or_ge p q with h|h
       ·exact h
       ·rcases Nat.lt_or_ge q p with h'|h'
        ·have:=zbR hch h' hq hp;omega
        ·have:p=q:=by omega
         subst this;rw [hp] at hq;cases hq;omega
      rw [zcH (Qv hch) hp] at v2
      exact up (p + 1) (by rw [zcH (Qv hch) hq];omega) v2
     ·exact absurd ht hh
   ·rw [zaT hm'] at v2;exact up 0 (Nat.zero_le _) v2
  ·omega
 ·obtain ⟨v,v1,v2⟩:=he t av0 h2 (fun i o' ho' hli hd'=>by
   rcases hrd i o' t ho' hd' ht with ⟨hlt,_⟩|⟨hlt,hedge⟩
   ·exact h1 i o' hlt ho' hd'
   ·have:=hm.closed i o' ho' hli j hedge
    rw [hjl] at this;cases this)
  exact ⟨v,v1,h3 _ _ _ _ _ (up 0 (Nat.zero_le _) (by rw [hN0];exact v2))⟩
theorem zmy {R:Exit→Act→World→Prop} (hl0:l=ops.take l.length) (s:ScriptM P n g H ops l E env Q) (hch:YA l E=true) (hE:∀ p j,E[p]?=some j→zl3 n ops (fun p oc ec rc=>EStepN P g (Hs p) (Hs (p + 1)) (Nm p) (Nm (p + 1)) oc ec rc (if p + 1=E.length then pan else none)) l s.r s.e p j) (hN0:Nm 0=H) (hrd2:∀ (p i:Nat) (oc:Oper) (tc:Nat) (rc:AV),E[p]?=some i→l[i]?=some oc→oc.dst=some tc→s.r[i]?=some rc→Yn H rc=true∨∀ (x:Nat) (o:Oper),l[x]?=some o→x∈E∨tc∉readsOf ops o) (hmono:∀ q p,q≤p→p≤E.length→YQ (Nm q) (Nm p)=true)
  (hw:∀ p,p≤E.length→∀ K ρ w,FS g K ρ (Hs p) w→FS g K ρ H w) (hkeys:∀ q,q≤E.length→YQ (Nm q) (Hs E.length)=true) (hB:ZW ops l=true) (hT:XK ops l.length=true)
  (hq:pan=none→∀ env' a w,Q env'→Inv n g env' (Hs E.length) a w→wpList P ops.toArray R (ops.drop l.length) a w)
  (hp':∀ v,pan=some v→∀ a w,Inv n g [] [] a w→R (.panic [{ v:=v,recovered:=false }]) a w):∀ (fuel:Nat) (listed:Array Bool) (a:Act) (w:World),(listed.toList.filter (! ·)).length=fuel→MidN Hs Nm pan s listed a w →
  wpAny P .any ops.toArray R fuel listed a w:=by
 have hget:∀ j,j < l.length→l[j]?=ops[j]?:=by
  intro j hj
  have:=congrArg (fun x=>x[j]?) hl0
  simp only [List.getElem?_take,if_pos hj] at this
  exact this
 have hlen:l.length≤ops.length:=by
  have:=congrArg List.length hl0
  simp at this;omega
 have done:∀ (listed:Array Bool) (a:Act) (w:World),(∀ j,j < l.length→listed.getD j true=true)→MidN Hs Nm pan s listed a w→pan=none∧∃ env',Q env'∧Inv n g env' (Hs E.length) a w:=by
  intro listed a w hall hm
  obtain ⟨K,ρ,hf,hl,he⟩:=hm.st
  have hph:phase E listed=E.length:=by
   unfold phase
   rw [List.filter_eq_self.2]
   intro x hx
   obtain ⟨q,hq⟩:=List.getElem?_of_mem hx
   exact hall x (zhT hch hq)
  rw [hph] at hf
  refine ⟨hm.nopan hph,s.last,s.fin,⟨hm.size,hm.defers,K,ρ,hf,fun t av hav=>?_⟩⟩
  have hkk:∀ q,q≤E.length→∀ j,(HEnv.get (Nm q) j).isSome=true→(HEnv.get (Hs E.length) j).isSome=true∧ρ j=ρ j:=fun q hq j hj=>⟨Qw (hkeys q hq) j hj,rfl⟩
  have hll:∀ i o,l[i]?=some o→lvl E i≤E.length:=fun i o ho=>Nat.le_trans (zrb hch hm.closed ho (hall i (List.getElem?_eq_some_iff.1 ho).1)) (List.length_filter_le _ _)
  have hlast:(s.e++[s.last])[l.length]?=some s.last:=by rw [List.getElem?_append_right (by rw [s.lene];exact Nat.le_refl _),s.lene];simp
  rcases s.src l.length s.last hlast t av hav with ⟨i,o,ri,h1,h2,h3,h4,h5,_⟩|⟨h1,av0,h2,h3⟩
  ·obtain ⟨v,v1,v2⟩:=hl i o ri t h2 (hall i h1) h4 h3
   exact ⟨v,v1,(h5 _ _ _ _ _ v2).keeps (.refl K w) (hkk _ (hll i o h2))⟩
  ·obtain ⟨v,v1,v2⟩:=he t av0 h2 (fun i o ho _=>h1 i o (List.getElem?_eq_some_iff.1 ho).1 ho)
   exact ⟨v,v1,((h3 _ _ _ _ _ v2).keeps (.refl K w) (by rw [←hN0];exact hkk 0 (Nat.zero_le _)))⟩
 intro fuel
 induction fuel with
 | zero =>
  intro listed a w hc hm
  have hall:∀ j,j < ops.length→listed.getD j true=true:=by
   intro j hj
   have hn:=List.filter_eq_nil_iff.1 (List.eq_nil_of_length_eq_zero hc)
   have hlt:j < listed.size:=by rw [hm.lsize];exact hj
   have:=hn listed[j] (by simp)
   simp only [Bool.not_eq_true',Bool.not_eq_false] at this
   rw [Array.getD_eq_getD_getElem?,Array.getElem?_eq_getElem hlt]
   simpa using this
  have hkl:l.length=ops.length:=by
   rcases Nat.lt_or_ge l.length ops.length with h|h
   ·have:=hm.notail l.length (Nat.le_refl _) h
    rw [hall _ h] at this;cases this
   ·omega
  obtain ⟨hpn,env',h1,h2⟩:=done listed a w (fun j hj=>hall j (by omega)) hm
  refine Wi hT 0 l.length listed a w (Nat.le_refl _) (by omega) hm.lsize (fun i hi=>?_) (hq hpn env' a w h1 h2)
  rw [hall i hi];simp;omega
 | succ fuel ih =>
  intro listed a w hc hm
  by_cases hall:∀ j,j < l.length→listed.getD j true=true
  ·obtain ⟨hpn,env',h1,h2⟩:=done listed a w hall hm
   have hex:∀ i,i < ops.length→listed.getD i true=decide (i < l.length):=by
    intro i hi
    by_cases h:i < l.length
    ·rw [hall i h];simp [h]
    ·rw [hm.notail i (by omega) hi];simp [h]
   have hcnt:l.length + (fuel + 1)=ops.length:=by
    have e1:listed.toList=List.replicate l.length true++List.replicate (ops.length - l.length) false:=by
     apply List.ext_getElem
     ·simp [hm.lsize];omega
     ·intro i h1 h2
      have hi:i < ops.length:=by simpa [hm.lsize] using h1
      have:=hex i hi
      rw [Array.getD_eq_getD_getElem?,Array.getElem?_eq_getElem (by rw [hm.lsize];exact hi)] at this
      simp only [Option.getD_some] at this
      simp only [Array.getElem_toList,this,List.getElem_append,List.length_replicate,List.getElem_replicate]
      by_cases hil:i < l.length
      ·rw [dif_pos hil,decide_eq_true hil]
      ·rw [dif_neg hil,decide_eq_false hil]
    rw [e1] at hc
    simp only [List.filter_append,List.filter_replicate,Bool.not_true,Bool.false_eq_true,if_false,Bool.not_false,if_true,List.nil_append,List.length_replicate] at hc
    omega
   exact Wi hT (fuel + 1) l.length listed a w (Nat.le_refl _) hcnt hm.lsize hex (hq hpn env' a w h1 h2)
  have hlf:∀ i,i < ops.length→listed.getD i false=listed.getD i true:=by
   intro i hi
   rw [Array.getD_eq_getD_getElem?,Array.getD_eq_getD_getElem?,Array.getElem?_eq_getElem (by rw [hm.lsize];exact hi)];rfl
  have hex:∃ j,j < l.length∧listed.getD j true=false∧∀ i,i < j→listed.getD i true=true:=by
   have hex0:∃ j,j < l.length∧listed.getD j true=false:=by
    rcases Classical.not_forall.1 hall with ⟨j,hj⟩
    exact ⟨j,Classical.byContradiction fun h=>hj (fun h'=>(h h').elim),by
     cases hb:listed.getD j true
     ·rfl
     ·exact (hj (fun _=>hb)).elim⟩
   obtain ⟨j,hj⟩:=hex0
   induction j using Nat.strongRecOn with
   | _ j ihj =>
    by_cases hmin:∀ i,i < j→listed.getD i true=true
    ·exact ⟨j,hj.1,hj.2,hmin⟩
    ·rcases Classical.not_forall.1 hmin with ⟨i,hi⟩
     have hij:i < j:=Classical.byContradiction fun h=>hi (fun h'=>(h h').elim)
     exact ihj i hij ⟨by omega,by
      cases hb:listed.getD i true
      ·rfl
      ·exact (hi (fun _=>hb)).elim⟩
  obtain ⟨j0,hj0,hun0,hmin0⟩:=hex
  refine ⟨fun h0=>?_,fun j hj=>?_⟩
  ·have:j0∈Region.ready .any ops.toArray listed:=yV.2 ⟨l[j0],by rw [←hget j0 hj0];exact List.getElem?_eq_getElem hj0,hun0,fun i hi=>by
    have:=(Yj hB (List.getElem?_eq_getElem hj0)).2.1 i hi
    rw [hlf i (by omega)];exact hmin0 i this⟩
   rw [h0] at this;cases this
  obtain ⟨o,ho',hun,hready⟩:=yV.1 hj
  have hjlt:=(List.getElem?_eq_some_iff.1 ho').1
  have hjl:j < l.length:=by
   rcases Nat.lt_or_ge j l.length with h|h
   ·exact h
   ·have hmem:(o,j)∈ops.zipIdx.drop l.length:=by
     rw [List.mem_drop_iff_getElem]
     refine ⟨j - l.length,by simp;omega,?_⟩
     simp only [List.getElem_zipIdx,Nat.zero_add]
     have:l.length + (j - l.length)=j:=by omega
     simp only [this]
     rw [(List.getElem?_eq_some_iff.1 ho').2]
    have h1:=List.all_eq_true.1 hT (o,j) hmem
    simp only [Bool.and_eq_true] at h1
    have:=hready j0 (List.all_eq_true.1 h1.1 j0 (List.mem_range.2 (by omega)))
    rw [hlf j0 (by omega),hun0] at this;cases this
  have ho:l[j]?=some o:=by rw [hget j hjl];exact ho'
  have hrj:s.r[j]?=some (s.r[j]'(by rw [s.lenr];exact hjl)):=List.getElem?_eq_getElem _
  have hej:s.e[j]?=some (s.e[j]'(by rw [s.lene];exact hjl)):=List.getElem?_eq_getElem _
  generalize s.r[j]'(by rw [s.lenr];exact hjl)=rj at hrj
  generalize s.e[j]'(by rw [s.lene];exact hjl)=ej at hej
  obtain ⟨K,ρ,hf,hl,he⟩:=hm.st
  have hphle:phase E listed≤E.length:=List.length_filter_le _ _
  have hreads:=hm.reads hch hB ho hej hN0 hmono hrd2 hun hready hl he
  have hcount:((listed.setIfInBounds j true).toList.filter (! ·)).length=fuel:=by
   have hlt:j < listed.toList.length:=by simpa [hm.lsize] using hjlt
   have hjf:listed.toList[j]=false:=by
    rw [Array.getD_eq_getD_getElem?,Array.getElem?_eq_getElem (by simpa using hlt)] at hun
    simpa using hun
   have e1:listed.toList=listed.toList.take j++false::listed.toList.drop (j + 1):=by
    rw [←hjf,List.getElem_cons_drop,List.take_append_drop]
   rw [Array.toList_setIfInBounds,List.set_eq_take_append_cons_drop,if_pos hlt]
   rw [e1] at hc
   simp only [List.filter_append,List.length_append,List.filter_cons,Bool.not_false,if_true,List.length_cons,Bool.not_true,Bool.false_eq_true,if_false] at hc ⊢
   omega
  have hwanted:∀ b,guardE ops ej o=some b→Region.wanted o (yielded ops.toArray a.tmps)=b:=by
   intro b hgb
   unfold guardE Zf at hgb
   cases hg:o.guard with
   | none=>simp [hg] at hgb;subst hgb;simp [Region.wanted,hg]
   | some x =>
    obtain ⟨jj,want⟩:=x
    simp only [hg] at hgb
    cases hjj:ops[jj]? with
    | none=>simp [hjj] at hgb
    | some o' =>
     simp only [hjj] at hgb
     cases hd':o'.dst with
     | none=>simp [hd'] at hgb
     | some t' =>
      simp only [hd'] at hgb
      split at hgb
      ·rename_i bb hbb
       simp only [Option.some.injEq] at hgb;subst hgb
       obtain ⟨v,v1,v2⟩:=hreads t' (by simp [readsOf,Zf,hg,hjj,hd']) _ hbb
       cases v2 with
       | pv _ _ hp=>cases hp;simp only [Region.wanted,hg,yielded,List.getElem?_toArray,hjj,Option.bind_some,hd',v1];cases bb <;> cases want <;> rfl
      ·rename_i vs hbb
       simp only [Option.some.injEq] at hgb;subst hgb
       obtain ⟨v,v1,v2⟩:=hreads t' (by simp [readsOf,Zf,hg,hjj,hd']) _ hbb
       cases v2 with
       | pv _ _ hp=>cases hp;simp only [Region.wanted,hg,yielded,List.getElem?_toArray,hjj,Option.bind_some,hd',v1];cases want <;> rfl
      ·cases hgb
  unfold wpOp
  simp only [List.getElem?_toArray,ho']
  have hops:∀ x∈o.op.operands,∀ av,ej.val x=some av→ARel K w ρ (Nm (lvl E j - 1)) av (a.eval x):=fun x hx av hxv=>by
   cases x with
   | tmp t' =>
    obtain ⟨v,v1,v2⟩:=hreads t' (by
     unfold readsOf
     exact List.mem_append_left _ (YR (Array.mem_toList_iff.2 hx))) av hxv
    simpa [Act.eval,Array.getD_eq_getD_getElem?,v1] using v2
   | const v =>
    simp only [Env.val] at hxv
    split at hxv
    ·rename_i h1;simp only [Option.some.injEq] at hxv;subst hxv;exact .pv _ _ (.base v h1)
    ·cases hxv
   | func f =>
    simp only [Env.val,Option.some.injEq] at hxv;subst hxv
    exact .pv _ _ (.fn (.func f) [] [] [] [] rfl rfl (by simp) (by simp))
   | global gg =>
    simp only [Env.val,Option.some.injEq] at hxv;subst hxv
    exact .pv _ _ (.base _ rfl)
  by_cases hjj:j∈E
  ·obtain ⟨p,hp⟩:=List.getElem?_of_mem hjj
   obtain ⟨oc,tc,rc,ec,hjc,hdc,htc,hrc,hec,hgc,hES⟩:=hE p j hp
   rw [hjc] at ho;cases ho
   rw [hrc] at hrj;cases hrj
   rw [hec] at hej;cases hej
   have hlow:=zi0 hch hm.closed hjc hready hp
   have hhigh:=zne hch hm.closed hun hp
   have hplt:=(List.getElem?_eq_some_iff.1 hp).1
   have hph:phase E listed=p:=zg7 (by omega) hlow hhigh
   have hjlt2:j < listed.size:=by rw [hm.lsize];exact hjlt
   have hph2:phase E (listed.setIfInBounds j true)=p + 1:=zg7 (by omega) (fun q i hq hi=>by
     by_cases e:i=j
     ·subst e;exact qh hjlt2
     ·rw [zU e]
      rcases Nat.lt_or_ge q p with h|h
      ·exact hlow q i h hi
      ·have:q=p:=by omega
       subst this;rw [hp] at hi;cases hi;exact absurd rfl e) (fun q i hq hi=>by
     have hne:i≠j:=by have:=zbR hch (show p < q by omega) hp hi;omega
     rw [zU hne];exact hhigh q i (by omega) hi)
   rw [hwanted true hgc,if_pos rfl]
   refine .inl ?_
   unfold Oper.wp
   rw [hph] at hf
   rw [zcH (Qv hch) hp] at hops
   rcases hES.go K ρ a w hf hops with ⟨f,vs,hrun,hcall⟩|⟨hpn,v,w'',K',ρ',hrun,hf',hlat,hps,hv⟩
   rotate_left 1
   ·rw [hrun]
    simp only [Oper.upon]
    refine ih _ _ _ hcount (hm.next hch hN0 hB hjc hrc hdc htc hun hready (fun h=>?_) ?_ (fun q hq av u hu=>hu.keeps hlat fun i hi=>⟨hi,hps i (Qw (hmono q p (by rw [hph] at hq;exact hq) (by omega)) i hi)⟩) hl he (by rw [zcH (Qv hch) hp];exact hv))
    ·rw [hph2] at h;rw [if_pos h] at hpn;exact hpn
    ·rw [hph2];exact hf'
   rw [hrun]
   simp only [Oper.upon]
   refine hcall.mono fun ex w'' hex=>?_
   cases hpan:(if p + 1=E.length then pan else none) with
   | none =>
    rw [hpan] at hex
    obtain ⟨v,K',ρ',rfl,hf',hlat,hps,hv⟩:=hex
    refine ih _ _ _ hcount (hm.next hch hN0 hB hjc hrc hdc htc hun hready (fun h=>?_) ?_ (fun q hq av u hu=>hu.keeps hlat fun i hi=>⟨hi,hps i (Qw (hmono q p (by rw [hph] at hq;exact hq) (by omega)) i hi)⟩) hl he (by rw [zcH (Qv hch) hp];exact hv))
    ·rw [hph2] at h;rw [if_pos h] at hpan;exact hpan
    ·rw [hph2];exact hf'
   | some v =>
    rw [hpan] at hex
    obtain ⟨rfl,K',ρ',hf'⟩:=hex
    have:pan=some v:=by
     split at hpan
     ·exact hpan
     ·cases hpan
    exact hp' v this _ _ ⟨hm.size,hm.defers,K',ρ',hf',fun t av ht=>by simp [Env.get_nil] at ht⟩
  obtain ⟨t,hd,ht,hor⟩:=s.ok j o rj ej hjj ho hrj hej
  have hff:FS g K ρ H w:=hw _ hphle _ _ _ hf
  have hsame:phase E (listed.setIfInBounds j true)=phase E listed:=by
   unfold phase
   congr 1
   refine List.filter_congr fun x hx=>?_
   rw [zU (fun e=>hjj (by rw [←e];exact hx))]
  rcases hor with ⟨hgt,hqs⟩|⟨hgf,rfl⟩
  ·rw [hwanted true hgt,if_pos rfl]
   refine .inl ?_
   unfold Oper.wp
   rw [zaT hjj,hN0] at hops
   have hqr:=hqs.go K ρ a w hff hops
   generalize (execOp a.eval o).run P w=res at hqr
   cases res with
   | halt x w'=>simp only [zdu] at hqr
   | ok nx w' =>
    cases nx <;> simp only [zdu] at hqr <;> simp only [Oper.upon]
    case value v =>
     obtain ⟨K',hev,hv⟩:=hqr
     exact ih _ _ _ hcount (hm.next hch hN0 hB ho hrj hd ht hun hready (fun h=>hm.nopan (by rw [←hsame];exact h)) (by rw [hsame];exact hf.evo hev) (fun _ _ av u hu=>hu.later (hev.later hff.lt)) hl he (by rw [zaT hjj,hN0];exact hv))
    case enter f args =>
     obtain ⟨rfl,hc'⟩:=hqr
     refine hc'.mono fun e w'' ⟨v,K',he',hev,hv⟩=>?_
     subst he'
     exact ih _ _ _ hcount (hm.next hch hN0 hB ho hrj hd ht hun hready (fun h=>hm.nopan (by rw [←hsame];exact h)) (by rw [hsame];exact hf.evo hev) (fun _ _ av u hu=>hu.later (hev.later hff.lt)) hl he (by rw [zaT hjj,hN0];exact hv))
  ·rw [hwanted false hgf,if_neg (by simp)]
   exact ih _ _ _ hcount (hm.next hch hN0 hB ho hrj hd ht hun hready (fun h=>hm.nopan (by rw [←hsame];exact h)) (by rw [hsame];exact hf) (fun _ _ av u hu=>hu) hl he (by rw [zaT hjj,hN0];exact VQ))
theorem zbt {QQ:QC} {id:Nat} (L k:Nat) (E:List Nat) (Hs Nm:Nat→HEnv) (Ht:HEnv) (pan:Option Value) (_:ops.length=L) (hok:WE ops k=true) (hm:P.follows .mixedOrders=true) (hB:ZW (zQ k ops 0) ((zQ k ops 0).take k)=true) (hT:XK (zQ k ops 0) k=true) (hk:Nat.ble k (zQ k ops 0).length=true)
  (hch:YA ((zQ k ops 0).take k) E=true) (hne:E.isEmpty=false)
  (hw:∀ p,p≤E.length→∀ K ρ w,FS g K ρ (Hs p) w→FS g K ρ Ht w) (hN0:Nm 0=Ht) (hmono:∀ q p,q≤p→p≤E.length→YQ (Nm q) (Nm p)=true) (hkeys:∀ q,q≤E.length→YQ (Nm q) (Hs E.length)=true) (hH:Wn H (Hs 0) env) (hke:zas Ht env=true)
  (hp:∀ v,pan=some v→QQ (.panic [{ v:=v,recovered:=false }]) [] [])
  (h:zeN P n g Ht (zQ k ops 0) (fun env'=>pan=none→AOX P n g (zQ k ops 0).toArray ((zQ k ops 0).drop k) env' (Hs E.length) QQ) (fun p oc ec rc=>EStepN P g (Hs p) (Hs (p + 1)) (Nm p) (Nm (p + 1)) oc ec rc (if p + 1=E.length then pan else none)∧(Yn Ht rc=true∨((zQ k ops 0).take k).zipIdx.all (fun x=>E.contains x.2||match oc.dst with|some tc=>!(readsOf (zQ k ops 0) x.1).contains tc|none=>false)=true)) E ((zQ k ops 0).take k) env)
  (hnd:Zj ops=true:=by kernel_rfl):AW P n g (.region id ops.toArray true) env H QQ:=by
 obtain ⟨s,hE0⟩:=h
 refine ⟨fun a w hi rr dd=>?_⟩
 refine zfn hnd hm ?_
 have hlen:=QZ k ops 0
 refine zao hok _ _ _ _ (by simp) ?_ ?_
 ·intro j o ho hl
  have hlt:=(List.getElem?_eq_some_iff.1 ho).1
  simp [Array.getD_eq_getD_getElem?,hlt] at hl
 obtain ⟨h1,h2,K,ρ,hf,he⟩:=hi.hsub hH
 have hev:Evo K K w { w with drawn:=w.drawn + 1 }:=(Evo.refl hf.lt).drew
 have hkl:=Nat.le_of_ble_eq_true hk
 have hlk:((zQ k ops 0).take k).length=k:=by simp;omega
 have hsz:ops.toArray.size=(zQ k ops 0).length:=by simp [hlen]
 rw [hsz]
 generalize zQ k ops 0=ops' at *
 have hE:∀ p j,E[p]?=some j→zl3 n ops' (fun p oc ec rc=>EStepN P g (Hs p) (Hs (p + 1)) (Nm p) (Nm (p + 1)) oc ec rc (if p + 1=E.length then pan else none)) (ops'.take k) s.r s.e p j:=fun p j hp=>by
  obtain ⟨oc,tc,rc,ec,x1,x2,x3,x4,x5,x6,x7,_⟩:=hE0 p j hp
  exact ⟨oc,tc,rc,ec,x1,x2,x3,x4,x5,x6,x7⟩
 have hrd2:∀ (p i:Nat) (oc:Oper) (tc:Nat) (rc:AV),E[p]?=some i→(ops'.take k)[i]?=some oc→oc.dst=some tc→s.r[i]?=some rc→Yn Ht rc=true∨∀ (x:Nat) (o:Oper),(ops'.take k)[x]?=some o→x∈E∨tc∉readsOf ops' o:=by
  intro p i oc tc rc hp h1 h2 h3
  obtain ⟨oc',tc',rc',ec,x1,x2,x3,x4,x5,x6,_,x8⟩:=hE0 p i hp
  rw [h1] at x1;cases x1
  rw [h3] at x4;cases x4
  refine x8.imp (fun h=>h) fun hall x o ho=>?_
  have:=List.all_eq_true.1 hall (o,x) (Qr ho)
  rw [h2] at this
  simpa using this
 have hEl:0 < E.length:=by cases E with|nil=>simp at hne|cons=>simp
 have hph0:phase E (Array.replicate ops'.length false)=0:=zg7 (by omega) (fun q i hq _=>by omega) (fun q i _ hi=>by
  have:=zhT hch hi
  rw [hlk] at this
  simp [Array.getD_eq_getD_getElem?,show i < ops'.length by omega])
 refine zmy (l:=ops'.take k) (by rw [hlk]) s hch hE hN0 hrd2 hmono hw hkeys hB (by rw [hlk];exact hT) (fun hpn env' a' w' hQ hi'=>?_) (fun v hv a' w' hi'=>⟨[],[],hi',.inr ⟨_,rfl⟩,hp v hv⟩) _ _ _ _ (by simp)
  ⟨h1,h2,by simp,by rw [hlk];exact hkl,?_,?_,fun h=>by rw [hph0] at h;omega,K,ρ,by rw [hph0];exact hf.evo hev,?_,?_⟩
 ·rw [hlk]
  exact (hQ hpn).go a' w' hi'
 ·intro j _ hj
  simp [Array.getD_eq_getD_getElem?,hj]
 ·intro i o ho hli
  have hlt:=(List.getElem?_eq_some_iff.1 ho).1
  have:i < ops'.length:=by simp at hlt;omega
  simp [Array.getD_eq_getD_getElem?,this] at hli
 ·intro i o ri t ho hli
  have hlt:=(List.getElem?_eq_some_iff.1 ho).1
  have:i < ops'.length:=by simp at hlt;omega
  simp [Array.getD_eq_getD_getElem?,this] at hli
 ·intro t av hav _
  obtain ⟨v,v1,v2⟩:=he t av hav
  exact ⟨v,v1,(v2.later (hev.later hf.lt)).refs (zcZ hke t av hav)⟩
theorem zfE:∀ (A B:HEnv),YQ A (B++A)=true
 | [],_=>rfl
 | (i,x)::A,B=>by
  rw [YQ,List.all_cons,Bool.and_eq_true]
  refine ⟨?_,by have:=zfE A (B++[(i,x)]);rwa [List.append_assoc] at this⟩
  induction B with
  | nil=>rw [List.nil_append,HEnv.get_cons,if_pos rfl];rfl
  | cons y B ih =>
   obtain ⟨j,z⟩:=y
   rw [List.cons_append,HEnv.get_cons]
   split
   ·rfl
   ·exact ih
theorem zkU {QQ:QC} {id:Nat} (L k jc:Nat) (H0 H1 Ht:HEnv) {oc:Oper} {tc:Nat} (rc:AV) (pan:Option Value) (hL:ops.length=L) (hok:WE ops k=true) (hm:P.follows .mixedOrders=true) (hB:ZW (zQ k ops 0) ((zQ k ops 0).take k)=true) (hT:XK (zQ k ops 0) k=true) (hk:Nat.ble k (zQ k ops 0).length=true)
  (hsp:(zQ k ops 0).take k=(zQ k ops 0).take jc++oc::((zQ k ops 0).take k).drop (jc + 1)) (hjl:Nat.ble jc (zQ k ops 0).length=true) (hd:oc.dst=some tc) (htc:Nat.blt tc n=true)
  (w0:∀ K ρ w,FS g K ρ H0 w→FS g K ρ Ht w) (w1:∀ K ρ w,FS g K ρ H1 w→FS g K ρ Ht w) (hkeys:YQ Ht H1=true) (hH:Wn H H0 env) (hke:zas Ht env=true) (hr:Yn Ht rc=true)
  (hp:∀ v,pan=some v→QQ (.panic [{ v:=v,recovered:=false }]) [] [])
  (h:AD P n g Ht (zQ k ops 0) (fun env1=>(guardE (zQ k ops 0) env1 oc=some true∧EStep P g H0 H1 Ht oc env1 rc pan)∧AD P n g Ht (zQ k ops 0) (fun env'=>pan=none→AOX P n g (zQ k ops 0).toArray ((zQ k ops 0).drop k) env' H1 QQ) (((zQ k ops 0).take k).drop (jc + 1)) ((tc,rc)::env1)) ((zQ k ops 0).take jc) env)
  (hnd:Zj ops=true:=by kernel_rfl):AW P n g (.region id ops.toArray true) env H QQ:=by
 have hjk:jc < k:=by
  have h1:=congrArg List.length hsp
  have h2:=Nat.le_of_ble_eq_true hjl
  have h3:=Nat.le_of_ble_eq_true hk
  simp only [List.length_append,List.length_take,List.length_cons,List.length_drop] at h1
  omega
 have htt:((zQ k ops 0).take k).take jc=(zQ k ops 0).take jc:=by rw [List.take_take,Nat.min_eq_left (by omega)]
 have hll:((zQ k ops 0).take k).length=k:=by have:=Nat.le_of_ble_eq_true hk;simp;omega
 have hgj:((zQ k ops 0).take k)[jc]?=some oc:=by
  rw [hsp,List.getElem?_append_right (by simp;omega)]
  have:=Nat.le_of_ble_eq_true hjl
  simp [Nat.min_eq_left this]
 refine zbt L k [jc] (fun p=>match p with|0=>H0|_ + 1=>H1) (fun _=>Ht) Ht pan hL hok hm hB hT hk (by rw [YA,hgj];rfl) rfl
  (fun p _=>by cases p <;> assumption) rfl (fun _ _ _ _=>zfE Ht []) (fun _ _=>hkeys) hH hke hp ?_ hnd
 refine zbL jc [] rc (by rw [htt];exact hsp) (Nat.ble_eq_true_of_le (by omega)) rfl hd htc ?_
 rw [htt]
 exact zgr (fun _ ⟨⟨x1,x2⟩,x3⟩=>⟨⟨x1,⟨fun K ρ a w hf hv=>.inl (x2.go K ρ a w hf hv)⟩,.inl hr⟩,zgB x3⟩) h
theorem zdR {r:AV} {f:FuncId} {o:Oper} {xs:Array Operand} {ts:Array TypeId} {ars:List AV} {N N1:HEnv} {e:Env} (Hc Hc' R:HEnv) {lone:Bool} (ps:List Nat) (hw1:lone=true→g.w1.heap.size=0)
  (hop:o.op=.call { callee:=.value (.func f),args:=xs,argTypes:=ts }) (hargs:avs e xs.toList=some ars) (hsub:HSub H (Hc++R)) (hk:YQ N H=true) (hk2:YQ N (R++Vo ps)=true)
  (hr:Yn N1 r=true) (hchk:Vt Hc Hc' R ps ars [] r=true) (hc:∀ us,ACallM P f ars (Hc++ZT us ps) r (Hc'++ZT us ps) lone):EStepN P g H (Hc'++R) N N1 o e r none:=by
 refine ⟨fun K ρ a w hf hv=>?_⟩
 have hrun:(execOp a.eval o).run P w=.ok (.enter f (xs.toList.map a.eval).toArray) w:=by
  have e:(xs.toList.map a.eval).toArray=xs.map a.eval:=by rw [←Array.toList_map,Array.toArray_toList]
  rw [e]
  simp [execOp,hop,resolve,Act.eval,Deferred.ofValue,invoke,ZU (hc ρ).stands]
 refine .inl ⟨f,_,hrun,?_⟩
 have hpa:YZ K w ρ N ars (xs.toList.map a.eval):=zeB (fun x hx=>hv x (by rw [hop];simp [Op.operands,Call.operands];exact .inr (by simpa using hx))) hargs
 have hall:YZ K w ρ H ars (xs.toList.map a.eval):=⟨hpa.1,fun k c v hc hv=>(hpa.2 k c v hc hv).keeps (.refl K w) fun j hj=>⟨Qw hk j hj,rfl⟩⟩
 refine (zfb Hc Hc' R ps hw1 hsub hchk hc hf hall).mono fun ex w' ⟨v,K',ρ2,e1,hf',hv,hlat,hps⟩=>?_
 exact ⟨v,K',ρ2,e1,hf',hlat,fun j hj=>(hps j (Qw hk2 j hj)).2,hv.refs hr⟩
theorem zfJ {N N1:HEnv} {f:FuncId} {args:List PV} {r:PV} {o:Oper} {e:Env} {xs:Array Operand} {ts:Array TypeId} (hop:o.op=.call { callee:=.value (.func f),args:=xs,argTypes:=ts }) (hargs:pvs e N xs.toList=some args) (hw:∀ K ρ w,FS g K ρ H w→FS g K ρ N w)
  (hc:ACall P f args r):EStepN P g H H N N1 o e (.pv r) none:=by
 refine ⟨fun K ρ a w hf hv=>?_⟩
 have hp:=zcT (hw K ρ w hf) (a:=a) (xs:=xs.toList) (fun x hx=>hv x (by rw [hop];simp [Op.operands,Call.operands];exact .inr (by simpa using hx))) hargs
 have hrun:(execOp a.eval o).run P w=.ok (.enter f (xs.toList.map a.eval).toArray) w:=by
  have e:(xs.toList.map a.eval).toArray=xs.map a.eval:=by rw [←Array.toList_map,Array.toArray_toList]
  rw [e]
  simp [execOp,hop,resolve,Act.eval,Deferred.ofValue,invoke,ZU hc.stands]
 refine .inl ⟨f,_,hrun,(hc.calls K w _ hf.lt hp).mono fun ex w' ⟨v,K',h1,h2,h3⟩=>?_⟩
 exact ⟨v,K',ρ,h1,hf.evo h2,h2.later hf.lt,fun _ _=>rfl,.pv _ _ h3⟩
theorem zpg {i:Nat} {t sz:Nat} (hi:H.get i=some (.row t sz [])) (h:Inv n g env H a w):Inv n g env ((i,.mrow t sz [])::H) a w:=by
 obtain ⟨g1,g2,K,ρ,hf,he⟩:=h
 have hk:∀ j,(H.get j).isSome=true→(HEnv.get ((i,HE.mrow t sz [])::H) j).isSome=true∧ρ j=ρ j:=fun j hj=>⟨by
  rw [HEnv.get_cons];split <;> first|rfl|exact hj,rfl⟩
 have hold:∀ j x,HEnv.get ((i,HE.mrow t sz [])::H) j=some x→x.live=true→∃ y,H.get j=some y∧y.live=true:=fun j x hj hl=>by
  rw [HEnv.get_cons] at hj
  split at hj
  ·rename_i e;subst e;exact ⟨_,hi,rfl⟩
  ·exact ⟨x,hj,hl⟩
 refine ⟨g1,g2,K,ρ,⟨hf.below,hf.old,hf.new,hf.lt,hf.others,hf.pt,fun j x b hj hl hb=>?_,fun j x hj=>?_,fun j j' x x' b hjj hj hj' hl hl' hb hb'=>?_⟩,he.keeps (.refl K w) hk⟩
 ·obtain ⟨y,y1,y2⟩:=hold j x hj hl
  exact hf.away j y b y1 y2 hb
 ·rw [HEnv.get_cons] at hj
  split at hj
  ·rename_i e;subst e
   simp only [Option.some.injEq] at hj;subst hj
   obtain ⟨xs,q1,q2,q3,q4⟩:=hf.heap.ok i _ hi
   exact ⟨xs,q1,q2,q3,fun b hb o hk=>by have:=(q4 b hb o).1 hk;simp at this⟩
  ·exact (hf.heap.ok j x hj).keeps (.refl hf.lt) hf.lt hk
 ·obtain ⟨y,y1,y2⟩:=hold j x hj hl
  obtain ⟨y',y3,y4⟩:=hold j' x' hj' hl'
  exact hf.heap.apart j j' y y' b hjj y1 y3 y2 y4 hb hb'
theorem zkG {Q:Env→HEnv→Prop} {l:List Oper} (i:Nat) {t sz:Nat} (hi:H.get i=some (.row t sz [])) (k:AO P n g ops.toArray l env ((i,.mrow t sz [])::H) Q):AO P n g ops.toArray l env H Q:=⟨fun a w hinv=>k.go a w (zpg hi hinv)⟩
theorem zfH {QQ:QC} {t:Nat} (i:Nat) (e:TypeId) (sz:Nat) (hsz:0 < sz) (ht:env.get t=some (.pv (.base (.slice none 0 0)))) (hi:H.get i=none) (h:QQ .ret ((t,.own i)::env) ((i,.mrow e sz [])::H)):AW P n g .ret env H QQ:=zfr i e sz hsz ht hi (zmD h)
end
end Go.Cg
namespace Go.Cg
open Go.Proofs
set_option maxHeartbeats 20000000
theorem Zv (l:List Ty):Yk l=.error 9∨∃ t l',Yk l=.ok (t,l')∧l=l'++[t]:=by
 by_cases h:l.length < 1
 ·exact .inl (by rw [Yk,if_pos h])
 ·refine .inr ?_
  have hd:(l.drop (l.length - 1)).length=1:=by simp;omega
  obtain ⟨t,ht⟩:=List.length_eq_one_iff.1 hd
  refine ⟨t,l.take (l.length - 1),by rw [Yk,if_neg h,ht];rfl,?_⟩
  rw [←ht,List.take_append_drop]
theorem zhk {l l':List Ty} {t:Ty} (h:Yk l=.ok (t,l')):l.length=l'.length + 1:=by
 rcases Zv l with e|⟨t2,l2,e,e2⟩
 ·rw [e] at h;cases h
 ·rw [e] at h;cases h;rw [e2];simp
theorem zog (sz:Nat) (es:List PV) (f:Bool):PTells (.slc sz es f) (.slc sz es false):=fun K w v h=>by
 cases h with
 | nil=>exact .nil sz false
 | emp _ _ a=>exact .emp sz false a
 | slc _ _ _ b o cap vss h0 h1 h2 h3 h4 h5 h6=>exact .slc sz es false b o cap vss h0 h1 (by simp) h3 h4 h5 h6
theorem ACall.tells {P:Program} {f:FuncId} {args args':List PV} {r:PV} (h:ACall P f args r) (ht:PTL args' args):ACall P f args' r :=
 ⟨h.stands,fun K w vs hl hv=>h.calls K w vs hl ⟨by rw [hv.1,ht.1],fun k c v hc hvv=>by
  have hlt:k < args'.length:=by rw [ht.1];exact (List.getElem?_eq_some_iff.1 hc).1
  exact ht.2 k _ c (List.getElem?_eq_getElem hlt) hc _ _ _ (hv.2 k _ v (List.getElem?_eq_getElem hlt) hvv)⟩⟩
abbrev tsV (ts:List Ty):AV:=.pv (.slc 4 (ts.map yJ) true)
theorem zS (c:RC) (ts l:List Ty) (hl:l.length≤200) (ht:ts.length≤200):XC 125 [tsV ts] c (yR c.m.max ts) uV l:=by
 intro u;refine zF zf Tryz.func125 rfl (by kernel_rfl) Tryz.ntmps125 (by simp) _ rfl (fun gB hw1=>?_)
 have htl:PTL [tys l,pi c.m.max,.slc 4 (ts.map yJ) true] [tys l,pi c.m.max,tys ts]:=yY (.refl _) (yY (.refl _) (yY (zog _ _ _) zbP))
 by_cases h:((l.length:Int) + (ts.length:Int))≤c.m.max
 ·have hp:yR c.m.max ts l=.ok ((),l++ts):=by rw [yR,if_pos h]
  have cp:=(zoV l ts c.m.max hl ht h).tells htl
  repeat' (first|(refine shC ?_;first|refine qC cp ?_|refine qC (zC rfl 0) ?_)|refine sK ?_|refine sC (fun _=>?_) (fun _=>?_)|fail)
  exact zV hp (yC (.inl rfl) tH)
 ·have hp:yR c.m.max ts l=.error 9:=by rw [yR,if_neg h]
  have cp:=(zjb l ts c.m.max hl ht (by omega)).tells htl
  repeat' (first|refine zq 1 3 rfl rfl rfl ?_|refine zD ([]) zi rfl rfl rfl tH (zZ rfl 9) ?_|(refine shC ?_;first|refine qC cp ?_)|refine sK ?_|refine sC (fun _=>?_) (fun _=>?_)|fail)
  exact zy hp
theorem zsM {K:KK} {w:World} {sz:Nat} {es:List PV} {f:Bool} {v:Value} (h:PRel K w (.slc sz es f) v):v.cells=#[v]∧v.oneCell'=true:=by
 cases h <;> exact ⟨rfl,rfl⟩
theorem zly (c:RC) (l:List Ty):Tells (.agg ((yA c.g++(zf8 c.m++(tys c.ar::(zb5 c.x++[tys l])))).map .pv)) (.agg ((yA c.g++(zf8 c.m++(tys c.ar::zb5 c.x))).map .pv++[.any1])):=fun K w ρ H v h=>by
 cases h with
 | agg _ vs h1 h2 h3 =>
  refine .agg _ vs (by simpa using h1) h2 fun k a v ha hv=>?_
  have hk:k < 24:=by have:=(List.getElem?_eq_some_iff.1 ha).1;simpa using this
  by_cases h23:k=23
  ·subst h23
   have:=h3 23 (.pv (tys l)) v rfl hv
   have e:a=.any1:=by simpa using ha.symm
   subst e
   cases this with
   | pv _ _ hp =>
    obtain ⟨q1,q2⟩:=zsM hp
    exact .any1 _ q1 q2
  ·have e:((yA c.g++(zf8 c.m++(tys c.ar::(zb5 c.x++[tys l])))).map AV.pv)[k]?=some a:=by
    rw [←ha,show yA c.g++(zf8 c.m++(tys c.ar::(zb5 c.x++[tys l])))=(yA c.g++(zf8 c.m++(tys c.ar::zb5 c.x)))++[tys l] by simp,List.map_append,List.getElem?_append_left (by simp;omega),List.getElem?_append_left (by simp;omega)]
   exact h3 k a v e hv
section
variable {P:Program} {n:Nat} {g:Base} {H:HEnv} {env:Env} {ops:List Oper}
theorem Yd {QQ:QC} {id:Nat} (L k jc:Nat) (R:HEnv) (c:RC) (l l':List Ty) {oc:Oper} {tc:Nat} (rc:AV) (pan:Option Value) (hL:ops.length=L) (hok:WE ops k=true) (hm:P.follows .mixedOrders=true) (hB:ZW (zQ k ops 0) ((zQ k ops 0).take k)=true) (hT:XK (zQ k ops 0) k=true) (hk:Nat.ble k (zQ k ops 0).length=true)
  (hsp:(zQ k ops 0).take k=(zQ k ops 0).take jc++oc::((zQ k ops 0).take k).drop (jc + 1)) (hjl:Nat.ble jc (zQ k ops 0).length=true) (hd:oc.dst=some tc) (htc:Nat.blt tc n=true)
  (hH:Wn H ((0,Xt c l)::R) env) (hke:zas ((0,Ve c)::R) env=true) (hkk:YQ ((0,Ve c)::R) ((0,Xt c l')::R)=true)
  (hp:∀ v,pan=some v→QQ (.panic [{ v:=v,recovered:=false }]) [] [])
  (h:AD P n g ((0,Ve c)::R) (zQ k ops 0) (fun env1=>(guardE (zQ k ops 0) env1 oc=some true∧EStep P g ((0,Xt c l)::R) ((0,Xt c l')::R) ((0,Ve c)::R) oc env1 rc pan)∧AD P n g ((0,Ve c)::R) (zQ k ops 0) (fun env'=>pan=none→AOX P n g (zQ k ops 0).toArray ((zQ k ops 0).drop k) env' ((0,Xt c l')::R) QQ) (((zQ k ops 0).take k).drop (jc + 1)) ((tc,rc)::env1)) ((zQ k ops 0).take jc) env)
  (hnd:Zj ops=true:=by kernel_rfl) (hr:Yn ((0,Ve c)::R) rc=true:=by rfl):AW P n g (.region id ops.toArray true) env H QQ :=
 zkU L k jc ((0,Xt c l)::R) ((0,Xt c l')::R) ((0,Ve c)::R) rc pan hL hok hm hB hT hk hsp hjl hd htc (fun _ _ _ hf=>zgp hf (zly c l)) (fun _ _ _ hf=>zgp hf (zly c l')) hkk hH hke hr hp h hnd
end
theorem VZ {α:Type} {g:Base} {f:FuncId} {args:List AV} {R:HEnv} {c:RC} {act:SM α} {val:α→AV} {l l':List Ty} {a:α} {o:Oper} {e:Env} {xs:Array Operand} {ts:Array TypeId} (h:XC f args c act val l) (he:act l=.ok (a,l'))
  (hop:o.op=.call { callee:=.value (.func f),args:=xs,argTypes:=ts }) (hargs:avs e xs.toList=some (.box 0 0::args)) (hk:YQ ((0,Ve c)::R) ((0,Xt c l)::R)=true) (hk2:YQ ((0,Ve c)::R) (R++Vo [0])=true) (hr:Yn ((0,Ve c)::R) (val a)=true) (hchk:Vt [(0,Xt c l)] [(0,Xt c l')] R [0] (.box 0 0::args) [] (val a)=true) :
  EStep Tryz.prog g ((0,Xt c l)::R) ((0,Xt c l')::R) ((0,Ve c)::R) o e (val a) none :=
 zlu [(0,Xt c l)] [(0,Xt c l')] R [0] zi hop hargs (fun _ _ h=>h) hk hk2 hr hchk (h.ok he)
theorem zeL {α:Type} {g:Base} {f:FuncId} {args:List AV} {u:Value} {R:HEnv} {c:RC} {act:SM α} {val:α→AV} {l:List Ty} {H1:HEnv} {er:Int} {r:AV} {o:Oper} {e:Env} {xs:Array Operand} {ts:Array TypeId} (h:XC f args c act val l) (he:act l=.error er)
  (hop:o.op=.call { callee:=.value (.func f),args:=xs,argTypes:=ts }) (hargs:avs e xs.toList=some (.box 0 0::args)) (hfit:Wn ((0,Xt c l)::R) (yN u c l) []) (hin:Ql (yN u c l) (.box 0 0::args)=true) :
  EStep Tryz.prog g ((0,Xt c l)::R) H1 ((0,Ve c)::R) o e r (some (flt er)) :=
 zpJ (yN u c l) zi hop hargs hfit hin (h.bad he u)
theorem qj (c:RC) (hF:Fm c.g) (t:Ty) (l:List Ty) (hl:l.length≤200):XC 126 [tV t] c (Yo c.g t) uV l:=by
 intro u;refine zF zf Tryz.func126 rfl (by kernel_rfl) Tryz.ntmps126 (by simp) _ rfl (fun gB hw1=>?_)
 have cp:=yj c l (by omega)
 rcases Zv l with hp|⟨x,l',hp,_⟩
 ·have hw:Yo c.g t l=.error 9:=zeY hp
  repeat' (first|refine Yd 9 8 5 (zgd u) c l l (tV t) (some (flt 9)) rfl (by kernel_rfl) (by kernel_rfl) (by kernel_rfl) (by kernel_rfl) (by kernel_rfl) rfl (by kernel_rfl) rfl rfl tH rfl rfl (fun v hv=>by cases hv;exact zy hw) ?_|refine ⟨⟨rfl,zeL (u:=u) cp hp rfl rfl tH rfl⟩,?_⟩|refine zB rfl (zn (ps:=(yA c.g)) zf rfl rfl rfl rfl rfl) rfl rfl ?_|refine AD.step _ _ _ _ _ rfl (zn (ps:=(yA c.g)) zf rfl rfl rfl rfl rfl) rfl rfl ?_|(intro h;cases h)|(refine shC ?_;first|refine qC (zaa c.g t t hF) ?_)|refine sK ?_|refine sC (fun _=>?_) (fun _=>?_)|fail)
 ·have cf:=zaa c.g x t hF
  cases hf:Zx c.g x t
  ·have hw:Yo c.g t l=.error 10:=by simp [Yo,zx,hp,zI,hf]
   repeat' (first|refine Yd 9 8 5 (zgd u) c l l' (tV x) none rfl (by kernel_rfl) (by kernel_rfl) (by kernel_rfl) (by kernel_rfl) (by kernel_rfl) rfl (by kernel_rfl) rfl rfl tH rfl rfl (fun v hv=>by cases hv) ?_|refine ⟨⟨rfl,VZ cp hp rfl rfl rfl rfl rfl rfl⟩,?_⟩|refine zB rfl (zn (ps:=(yA c.g)) zf rfl rfl rfl rfl rfl) rfl rfl ?_|refine AD.step _ _ _ _ _ rfl (zn (ps:=(yA c.g)) zf rfl rfl rfl rfl rfl) rfl rfl ?_|intro _|refine zD [] zi rfl rfl rfl tH (zZ hf 10) ?_|(refine shC ?_;first|refine qC cf ?_)|refine sK ?_|refine sC (fun _=>?_) (fun _=>?_)|fail)
   exact zy hw
  ·have hw:Yo c.g t l=.ok ((),l'):=by simp [Yo,zx,hp,zI,hf]
   repeat' (first|refine Yd 9 8 5 (zgd u) c l l' (tV x) none rfl (by kernel_rfl) (by kernel_rfl) (by kernel_rfl) (by kernel_rfl) (by kernel_rfl) rfl (by kernel_rfl) rfl rfl tH rfl rfl (fun v hv=>by cases hv) ?_|refine ⟨⟨rfl,VZ cp hp rfl rfl rfl rfl rfl rfl⟩,?_⟩|refine zB rfl (zn (ps:=(yA c.g)) zf rfl rfl rfl rfl rfl) rfl rfl ?_|refine AD.step _ _ _ _ _ rfl (zn (ps:=(yA c.g)) zf rfl rfl rfl rfl rfl) rfl rfl ?_|intro _|refine zfi ?_|(refine shC ?_;first|refine qC cf ?_|refine qC (zC hf 10) ?_)|refine sK ?_|refine sC (fun _=>?_) (fun _=>?_)|fail)
   exact zV hw (yC (.inl rfl) tH)
set_option maxHeartbeats 20000000
theorem Yx (c:RC) (l:List Ty) (hl:l.length≤1000):XC 128 [] c qU tV l:=by
 intro u;refine zF zf Tryz.func128 rfl (by kernel_rfl) Tryz.ntmps128 (by simp) _ rfl (fun gB hw1=>?_)
 have c1:=yj c l hl
 rcases Zv l with hp|⟨b,l1,hp,e1⟩
 ·have hw:qU l=.error 9:=zeY hp
  repeat' (first|refine zq 1 1 rfl rfl rfl ?_|refine zD ((yN u c l)) zi rfl rfl rfl tH (c1.bad hp u) ?_|refine sK ?_|refine sC (fun _=>?_) (fun _=>?_)|fail)
  exact zy hw
 ·have hl1:l1.length≤1000:=by have:=zhk hp;omega
  have c2:=yj c l1 hl1
  rcases Zv l1 with hp2|⟨a,l2,hp2,e2⟩
  ·have hw:qU l=.error 9:=by simp [qU,zx,hp,hp2]
   repeat' (first|refine zq 1 3 rfl rfl rfl ?_|refine zD ((yN u c l1)) zi rfl rfl rfl tH (c2.bad hp2 u) ?_|(refine zu ?_;first|(refine zo 0 zi rfl rfl (c1.ok hp) rfl rfl rfl rfl rfl ?_))|refine sK ?_|refine sC (fun _=>?_) (fun _=>?_)|fail)
   exact zy hw
  ·have cn:=zbc a
   cases hab:tyB a b
   ·have hab':(a.kind==b.kind&&(a.index==b.index&&(a.dims==b.dims&&(a.ref==b.ref&&true))))=false:=hab
    have hw:qU l=.error 10:=by simp [qU,zx,hp,hp2,zI,hab]
    repeat' (first|refine zq 2 7 rfl rfl rfl ?_|refine zD ([]) zi rfl rfl rfl tH (zZ rfl 10) ?_|(refine zu ?_;first|(refine zo 0 zi rfl rfl (c1.ok hp) rfl rfl rfl rfl rfl ?_)|(refine zo 0 zi rfl rfl (c2.ok hp2) rfl rfl rfl rfl rfl ?_))|refine sK ?_|refine sC (fun _=>?_) (fun _=>?_)|fail)
    exact zy hw
   ·have hab':(a.kind==b.kind&&(a.index==b.index&&(a.dims==b.dims&&(a.ref==b.ref&&true))))=true:=hab
    cases hn:nuT a
    ·rw [hn] at cn
     have hw:qU l=.error 10:=by simp [qU,zx,hp,hp2,zI,hab,hn]
     repeat' (first|refine zq 2 7 rfl rfl rfl ?_|refine zD ([]) zi rfl rfl rfl tH (zZ rfl 10) ?_|(refine shC ?_;first|refine qC cn ?_)|(refine zu ?_;first|(refine zo 0 zi rfl rfl (c1.ok hp) rfl rfl rfl rfl rfl ?_)|(refine zo 0 zi rfl rfl (c2.ok hp2) rfl rfl rfl rfl rfl ?_))|refine sK ?_|refine sC (fun _=>?_) (fun _=>?_)|fail)
     exact zy hw
    ·rw [hn] at cn
     have hw:qU l=.ok (a,l2):=by simp [qU,zx,zA,hp,hp2,zI,hab,hn]
     repeat' (first|(refine shC ?_;first|refine qC cn ?_|refine qC (zC rfl 10) ?_)|(refine zu ?_;first|(refine zo 0 zi rfl rfl (c1.ok hp) rfl rfl rfl rfl rfl ?_)|(refine zo 0 zi rfl rfl (c2.ok hp2) rfl rfl rfl rfl rfl ?_))|refine sK ?_|refine sC (fun _=>?_) (fun _=>?_)|fail)
     exact zV hw (zje rfl tH)
theorem Yv (c:RC) (l:List Ty) (hl:l.length≤1000):XC 130 [] c za3 tV l:=by
 intro u;refine zF zf Tryz.func130 rfl (by kernel_rfl) Tryz.ntmps130 (by simp) _ rfl (fun gB hw1=>?_)
 have c1:=yj c l hl
 rcases Zv l with hp|⟨t,l1,hp,e1⟩
 ·have hw:za3 l=.error 9:=zeY hp
  repeat' (first|refine zq 1 1 rfl rfl rfl ?_|refine zD ((yN u c l)) zi rfl rfl rfl tH (c1.bad hp u) ?_|refine sK ?_|refine sC (fun _=>?_) (fun _=>?_)|fail)
  exact zy hw
 ·have cn:=zbc t
  cases hn:nuT t
  ·have hw:za3 l=.error 10:=by simp [za3,zx,hp,zI,hn]
   repeat' (first|refine zq 2 2 rfl rfl rfl ?_|refine zD ([]) zi rfl rfl rfl tH (zZ hn 10) ?_|(refine shC ?_;first|refine qC cn ?_)|(refine zu ?_;first|(refine zo 0 zi rfl rfl (c1.ok hp) rfl rfl rfl rfl rfl ?_))|refine sK ?_|refine sC (fun _=>?_) (fun _=>?_)|fail)
   exact zy hw
  ·have hw:za3 l=.ok (t,l1):=by simp [za3,zx,zA,hp,zI,hn]
   repeat' (first|(refine shC ?_;first|refine qC cn ?_|refine qC (zC hn 10) ?_)|(refine zu ?_;first|(refine zo 0 zi rfl rfl (c1.ok hp) rfl rfl rfl rfl rfl ?_))|refine sK ?_|refine sC (fun _=>?_) (fun _=>?_)|fail)
   exact zV hw (zje rfl tH)
theorem WV (c:RC) (l:List Ty) (hl:l.length≤1000):XC 131 [] c qN uV l:=by
 intro u;refine zF zf Tryz.func131 rfl (by kernel_rfl) Tryz.ntmps131 (by simp) _ rfl (fun gB hw1=>?_)
 have c1:=yj c l hl
 rcases Zv l with hp|⟨b,l1,hp,e1⟩
 ·have hw:qN l=.error 9:=zeY hp
  repeat' (first|refine zq 0 1 rfl rfl rfl ?_|refine zD ((yN u c l)) zi rfl rfl rfl tH (c1.bad hp u) ?_|refine sK ?_|refine sC (fun _=>?_) (fun _=>?_)|fail)
  exact zy hw
 ·have hl1:l1.length≤1000:=by have:=zhk hp;omega
  have c2:=yj c l1 hl1
  rcases Zv l1 with hp2|⟨a,l2,hp2,e2⟩
  ·have hw:qN l=.error 9:=by simp [qN,zx,hp,hp2]
   repeat' (first|refine zq 0 3 rfl rfl rfl ?_|refine zD ((yN u c l1)) zi rfl rfl rfl tH (c2.bad hp2 u) ?_|(refine zu ?_;first|(refine zo 0 zi rfl rfl (c1.ok hp) rfl rfl rfl rfl rfl ?_))|refine sK ?_|refine sC (fun _=>?_) (fun _=>?_)|fail)
   exact zy hw
  ·have cn:=zbc a
   have co:=Za a
   have co2:=Za b
   cases hab:tyB a b
   ·have hab':(a.kind==b.kind&&(a.index==b.index&&(a.dims==b.dims&&(a.ref==b.ref&&true))))=false:=hab
    cases ho:object a
    ·rw [ho] at co
     have hw:qN l=.error 10:=by simp [qN,zx,hp,hp2,zI,hab,ho]
     repeat' (first|refine zq 1 15 rfl rfl rfl ?_|refine zD ([]) zi rfl rfl rfl tH (zZ rfl 10) ?_|(refine shC ?_;first|refine qC co ?_)|(refine zu ?_;first|(refine zo 0 zi rfl rfl (c1.ok hp) rfl rfl rfl rfl rfl ?_)|(refine zo 0 zi rfl rfl (c2.ok hp2) rfl rfl rfl rfl rfl ?_))|refine sK ?_|refine sC (fun _=>?_) (fun _=>?_)|fail)
     exact zy hw
    ·rw [ho] at co
     cases ho2:object b
     ·rw [ho2] at co2
      have hw:qN l=.error 10:=by simp [qN,zx,hp,hp2,zI,hab,ho,ho2]
      repeat' (first|refine zq 1 15 rfl rfl rfl ?_|refine zD ([]) zi rfl rfl rfl tH (zZ rfl 10) ?_|(refine shC ?_;first|refine qC co ?_|refine qC co2 ?_)|(refine zu ?_;first|(refine zo 0 zi rfl rfl (c1.ok hp) rfl rfl rfl rfl rfl ?_)|(refine zo 0 zi rfl rfl (c2.ok hp2) rfl rfl rfl rfl rfl ?_))|refine sK ?_|refine sC (fun _=>?_) (fun _=>?_)|fail)
      exact zy hw
     ·rw [ho2] at co2
      have hw:qN l=.ok ((),l2):=by simp [qN,zx,hp,hp2,zI,hab,ho,ho2]
      repeat' (first|(refine shC ?_;first|refine qC co ?_|refine qC co2 ?_|refine qC (zC rfl 10) ?_)|(refine zu ?_;first|(refine zo 0 zi rfl rfl (c1.ok hp) rfl rfl rfl rfl rfl ?_)|(refine zo 0 zi rfl rfl (c2.ok hp2) rfl rfl rfl rfl rfl ?_))|refine sK ?_|refine sC (fun _=>?_) (fun _=>?_)|fail)
      exact zV hw (yC (.inl rfl) tH)
   ·have hab':(a.kind==b.kind&&(a.index==b.index&&(a.dims==b.dims&&(a.ref==b.ref&&true))))=true:=hab
    cases hn:nuT a
    ·rw [hn] at cn
     cases ho:object a
     ·rw [ho] at co
      have hw:qN l=.error 10:=by simp [qN,zx,hp,hp2,zI,hab,hn,ho]
      repeat' (first|refine zq 1 15 rfl rfl rfl ?_|refine zD ([]) zi rfl rfl rfl tH (zZ rfl 10) ?_|(refine shC ?_;first|refine qC cn ?_|refine qC co ?_)|(refine zu ?_;first|(refine zo 0 zi rfl rfl (c1.ok hp) rfl rfl rfl rfl rfl ?_)|(refine zo 0 zi rfl rfl (c2.ok hp2) rfl rfl rfl rfl rfl ?_))|refine sK ?_|refine sC (fun _=>?_) (fun _=>?_)|fail)
      exact zy hw
     ·rw [ho] at co
      cases ho2:object b
      ·rw [ho2] at co2
       have hw:qN l=.error 10:=by simp [qN,zx,hp,hp2,zI,hab,hn,ho,ho2]
       repeat' (first|refine zq 1 15 rfl rfl rfl ?_|refine zD ([]) zi rfl rfl rfl tH (zZ rfl 10) ?_|(refine shC ?_;first|refine qC cn ?_|refine qC co ?_|refine qC co2 ?_)|(refine zu ?_;first|(refine zo 0 zi rfl rfl (c1.ok hp) rfl rfl rfl rfl rfl ?_)|(refine zo 0 zi rfl rfl (c2.ok hp2) rfl rfl rfl rfl rfl ?_))|refine sK ?_|refine sC (fun _=>?_) (fun _=>?_)|fail)
       exact zy hw
      ·rw [ho2] at co2
       have hw:qN l=.ok ((),l2):=by simp [qN,zx,hp,hp2,zI,hab,hn,ho,ho2]
       repeat' (first|(refine shC ?_;first|refine qC cn ?_|refine qC co ?_|refine qC co2 ?_|refine qC (zC rfl 10) ?_)|(refine zu ?_;first|(refine zo 0 zi rfl rfl (c1.ok hp) rfl rfl rfl rfl rfl ?_)|(refine zo 0 zi rfl rfl (c2.ok hp2) rfl rfl rfl rfl rfl ?_))|refine sK ?_|refine sC (fun _=>?_) (fun _=>?_)|fail)
       exact zV hw (yC (.inl rfl) tH)
    ·rw [hn] at cn
     have hw:qN l=.ok ((),l2):=by simp [qN,zx,hp,hp2,zI,hab,hn]
     repeat' (first|(refine shC ?_;first|refine qC cn ?_|refine qC (zC rfl 10) ?_)|(refine zu ?_;first|(refine zo 0 zi rfl rfl (c1.ok hp) rfl rfl rfl rfl rfl ?_)|(refine zo 0 zi rfl rfl (c2.ok hp2) rfl rfl rfl rfl rfl ?_))|refine sK ?_|refine sC (fun _=>?_) (fun _=>?_)|fail)
     exact zV hw (yC (.inl rfl) tH)
theorem YE (c:RC) (hF:Fm c.g) (ls l:List Ty) (hl:l.length≤1000):XC 138 [.pv (tys ls)] c (Zh c.g ls) uV l:=by
 intro u;refine zF zf Tryz.func138 rfl (by kernel_rfl) Tryz.ntmps138 (by simp) _ rfl (fun gB hw1=>?_)
 by_cases h:l.length < ls.length
 ·have hw:Zh c.g ls l=.error 9:=by rw [Zh,if_pos h]
  repeat' (first|refine zq 1 3 rfl rfl rfl ?_|refine zD ([]) zi rfl rfl rfl tH (zZ rfl 9) ?_|(refine shC ?_;first|refine zB rfl (zG rfl rfl (zaB l ((ls.map yJ).length:Int) (.inr (by simp;omega)))) rfl rfl ?_|refine AD.step _ _ _ _ _ rfl (zG rfl rfl (zaB l ((ls.map yJ).length:Int) (.inr (by simp;omega)))) rfl rfl ?_)|refine sK ?_|refine sC (fun _=>?_) (fun _=>?_)|fail)
  exact zy hw
 ·have cp:=zlG l ((ls.map yJ).length:Int) hl (by omega) (by simp;omega)
  rw [show (((ls.map yJ).length:Nat):Int).toNat=ls.length by simp] at cp
  have cf:=zmv c.g (l.drop (l.length - ls.length)) ls hF
  cases hf:ZG c.g (l.drop (l.length - ls.length)) ls
  ·have hw:Zh c.g ls l=.error 10:=by rw [Zh,if_neg h,hf];rfl
   repeat' (first|refine zq 2 7 rfl rfl rfl ?_|refine zD ([]) zi rfl rfl rfl tH (zZ hf 10) ?_|refine zB rfl (zn (ps:=(yA c.g)) zf rfl rfl rfl rfl rfl) rfl rfl ?_|refine AD.step _ _ _ _ _ rfl (zn (ps:=(yA c.g)) zf rfl rfl rfl rfl rfl) rfl rfl ?_|(refine shC ?_;first|refine qC cp ?_|refine qC (zC rfl 0) ?_|refine qC cf ?_)|refine sK ?_|refine sC (fun _=>?_) (fun _=>?_)|fail)
   exact zy hw
  ·have hw:Zh c.g ls l=.ok ((),l.take (l.length - ls.length)):=by rw [Zh,if_neg h,hf];rfl
   repeat' (first|refine zB rfl (zn (ps:=(yA c.g)) zf rfl rfl rfl rfl rfl) rfl rfl ?_|refine AD.step _ _ _ _ _ rfl (zn (ps:=(yA c.g)) zf rfl rfl rfl rfl rfl) rfl rfl ?_|(refine shC ?_;first|refine qC cp ?_|refine qC (zC rfl 0) ?_|refine qC (zC hf 10) ?_|refine qC cf ?_)|refine sK ?_|refine sC (fun _=>?_) (fun _=>?_)|fail)
   exact zV hw (yC (.inl rfl) tH)
theorem Zd (c:RC) (ls l:List Ty) (h0:0≤c.x.arg):XC 124 [.pv (tys ls)] c (XR c.x ls) tV l:=by
 intro u;refine zF zf Tryz.func124 rfl (by kernel_rfl) Tryz.ntmps124 (by simp) _ rfl (fun gB hw1=>?_)
 by_cases h:c.x.arg < ls.length
 ·have hw:XR c.x ls l=.ok (ls.getD c.x.arg.toNat default,l):=by simp [XR,zx,zA,zI,h]
  have hlt:c.x.arg.toNat < ls.length:=by omega
  have he:(ls.map yJ)[c.x.arg.toNat]?=some (yJ (ls.getD c.x.arg.toNat default)):=by rw [zL hlt];exact yu hlt
  repeat' (first|(refine shC ?_;first|refine zB rfl (zG rfl rfl (zC (by simp;omega) 3)) rfl rfl ?_|refine AD.step _ _ _ _ _ rfl (zG rfl rfl (zC (by simp;omega) 3)) rfl rfl ?_)|(refine shX ?_;first|refine zB rfl (zl zf rfl rfl rfl rfl rfl rfl h0 he) rfl rfl ?_|refine AD.step _ _ _ _ _ rfl (zl zf rfl rfl rfl rfl rfl rfl h0 he) rfl rfl ?_)|refine sK ?_|refine sC (fun _=>?_) (fun _=>?_)|fail)
  exact zV hw (zje rfl tH)
 ·have hw:XR c.x ls l=.error 3:=by simp [XR,zx,zI,h]
  repeat' (first|refine zq 1 8 rfl rfl rfl ?_|refine zD ([]) zi rfl rfl rfl tH (zZ (by simp;omega) 3) ?_|refine sK ?_|refine sC (fun _=>?_) (fun _=>?_)|fail)
  exact zy hw
theorem VB (c:RC) (t:Ty) (l:List Ty) (hl:l.length≤200):XC 127 [tV t] c (Ym c.m.max t) uV l:=by
 intro u;refine zF zf Tryz.func127 rfl (by kernel_rfl) Tryz.ntmps127 (by simp) _ rfl (fun gB hw1=>?_)
 have cr:=ZR t
 have cp:=zS c [rfT t] l hl (by simp)
 cases h:t.ref
 ·cases hp:yR c.m.max [rfT t] l with
  | error e =>
   have hw:Ym c.m.max t l=.error e:=by simp [Ym,zx,zI,h,hp]
   repeat' (first|refine zq 2 4 rfl rfl rfl ?_|refine zD ((yN u c l)) zi rfl rfl rfl tH (cp.bad hp u) ?_|(refine shC ?_;first|refine zB rfl (zG rfl rfl (zC (by simp [h]) 13)) rfl rfl ?_|refine AD.step _ _ _ _ _ rfl (zG rfl rfl (zC (by simp [h]) 13)) rfl rfl ?_|refine qC cr ?_)|refine sK ?_|refine sC (fun _=>?_) (fun _=>?_)|fail)
   exact zy hw
  | ok p =>
   obtain ⟨⟨⟩,l'⟩:=p
   have hw:Ym c.m.max t l=.ok ((),l'):=by simp [Ym,zx,zI,h,hp]
   repeat' (first|(refine shC ?_;first|refine zB rfl (zG rfl rfl (zC (by simp [h]) 13)) rfl rfl ?_|refine AD.step _ _ _ _ _ rfl (zG rfl rfl (zC (by simp [h]) 13)) rfl rfl ?_|refine qC cr ?_)|(refine zu ?_;first|(refine zo 0 zi rfl rfl (cp.ok hp) rfl rfl rfl rfl rfl ?_))|refine sK ?_|refine sC (fun _=>?_) (fun _=>?_)|fail)
   exact zV hw (yC (.inl rfl) tH)
 ·have hw:Ym c.m.max t l=.error 13:=by simp [Ym,zx,zI,h]
  repeat' (first|refine zq 1 3 rfl rfl rfl ?_|refine zD ([]) zi rfl rfl rfl tH (zZ (by simp [h]) 13) ?_|refine sK ?_|refine sC (fun _=>?_) (fun _=>?_)|fail)
  exact zy hw
theorem zaM (c:RC) (d:Me) (l:List Ty) (hl:l.length≤200):XC 139 [.pv (yL d)] c (ZY c.m.max d) uV l:=by
 intro u;refine zF zf Tryz.func139 rfl (by kernel_rfl) Tryz.ntmps139 (by simp) _ rfl (fun gB hw1=>?_)
 have cp:=zS c [d.ret] l hl (by simp)
 cases h:(d.ret.kind != 1)
 ·have hw:ZY c.m.max d l=.ok ((),l):=by simp [ZY,h,zA]
  repeat' (first|refine sK ?_|refine sC (fun _=>?_) (fun _=>?_)|fail)
  exact zV hw (yC (.inl rfl) tH)
 ·cases hp:yR c.m.max [d.ret] l with
  | error e =>
   have hw:ZY c.m.max d l=.error e:=by simp [ZY,h,hp]
   repeat' (first|refine zq 2 4 rfl rfl rfl ?_|refine zD ((yN u c l)) zi rfl rfl rfl tH (cp.bad hp u) ?_|refine sK ?_|refine sC (fun _=>?_) (fun _=>?_)|fail)
   exact zy hw
  | ok p =>
   obtain ⟨⟨⟩,l'⟩:=p
   have hw:ZY c.m.max d l=.ok ((),l'):=by simp [ZY,h,hp]
   repeat' (first|(refine zu ?_;first|(refine zo 0 zi rfl rfl (cp.ok hp) rfl rfl rfl rfl rfl ?_))|refine sK ?_|refine sC (fun _=>?_) (fun _=>?_)|fail)
   exact zV hw (yC (.inl rfl) tH)
theorem zsE {tb:Tab} {u:Value} {c:RC} {l:List Ty} {t:Ty} {p:PV} {rs:List ResultVar} {env:Env} {H:HEnv} (hr:zaJ tb H env rs=some [p]) (e:p=yJ t) (h:Wn H (yN u c l) []):zie tb rs (tV t) (yN u c l) .ret env H:=⟨.inr rfl,.inl ⟨_,hr,by rw [e];rfl,h⟩⟩
theorem Zi (c:RC) (l:List Ty) (h0:0≤c.x.t.dims) (h1:c.x.t.dims≤100):XC 142 [] c (QO c.x) tV l:=by
 intro u;refine zF zf Tryz.func142 rfl (by kernel_rfl) Tryz.ntmps142 (by simp) _ rfl (fun gB hw1=>?_)
 have hwr:IntKind.i64.wrap (c.x.t.dims + 1)=c.x.t.dims + 1:=wrap_in (by omega) (by omega)
 by_cases h:c.x.t.dims + 1≤3
 ·have hw:QO c.x l=.ok (⟨c.x.t.kind,c.x.t.index,c.x.t.dims + 1,c.x.t.ref⟩,l):=by simp [QO,zx,zA,zI,h]
  repeat' (first|refine zB rfl (zn (ps:=(yO c.x.t)) zf rfl rfl rfl rfl rfl) rfl rfl ?_|refine AD.step _ _ _ _ _ rfl (zn (ps:=(yO c.x.t)) zf rfl rfl rfl rfl rfl) rfl rfl ?_|(refine shC ?_;first|refine zB rfl (zG rfl rfl (zC (by rw [hwr];simpa using h) 6)) rfl rfl ?_|refine AD.step _ _ _ _ _ rfl (zG rfl rfl (zC (by rw [hwr];simpa using h) 6)) rfl rfl ?_)|refine sK ?_|refine sC (fun _=>?_) (fun _=>?_)|fail)
  exact zV hw (zsE rfl (by simp only [yJ];congr 1;simp [hwr,AV.flat]) tH)
 ·have hw:QO c.x l=.error 6:=by simp [QO,zx,zI,h]
  repeat' (first|refine zB rfl (zn (ps:=(yO c.x.t)) zf rfl rfl rfl rfl rfl) rfl rfl ?_|refine AD.step _ _ _ _ _ rfl (zn (ps:=(yO c.x.t)) zf rfl rfl rfl rfl rfl) rfl rfl ?_|refine zq 3 3 rfl rfl rfl ?_|refine zD ([]) zi rfl rfl rfl tH (zZ (by rw [hwr];simpa using h) 6) ?_|refine sK ?_|refine sC (fun _=>?_) (fun _=>?_)|fail)
  exact zy hw
set_option maxHeartbeats 20000000
theorem ztt {tb:Tab} {u:Value} {c:RC} {l:List Ty} {d:Me} {rs:List ResultVar} {env:Env} {H:HEnv} (hr:zaJ tb H env rs=some [yL d]) (h:Wn H (yN u c l) []):zie tb rs (.pv (yL d)) (yN u c l) .ret env H:=⟨.inr rfl,.inl ⟨_,hr,rfl,h⟩⟩
theorem zaD (c:RC) (l:List Ty) (h0:0≤c.x.arg) (h1:c.x.arg.toNat < c.g.methods.length):XC 136 [] c (pure (mAt c.g c.x.arg):SM Me) (fun d=>.pv (yL d)) l:=by
 intro u;refine zF zf Tryz.func136 rfl (by kernel_rfl) Tryz.ntmps136 (by simp) _ rfl (fun gB hw1=>?_)
 have he:(c.g.methods.map yL)[c.x.arg.toNat]?=some (yL (mAt c.g c.x.arg)):=by rw [mAt,zL h1];exact yu h1
 repeat' (first|refine zX 13 12 rfl (by kernel_rfl) (by kernel_rfl) (by kernel_rfl) (by kernel_rfl) (by kernel_rfl) ?_|(refine shX ?_;first|refine zB rfl (zl zf rfl rfl rfl rfl rfl rfl h0 he) rfl rfl ?_|refine AD.step _ _ _ _ _ rfl (zl zf rfl rfl rfl rfl rfl rfl h0 he) rfl rfl ?_)|refine sK ?_|refine sC (fun _=>?_) (fun _=>?_)|fail)
 exact zV (val:=fun d=>.pv (yL d)) (act:=(pure (mAt c.g c.x.arg):SM Me)) (a:=mAt c.g c.x.arg) (l':=l) rfl (ztt (d:=mAt c.g c.x.arg) (c:=c) (l:=l) rfl tH)
abbrev ztE (o:Int):Ty:=⟨5,o,0,false⟩
abbrev ztc (o:Int):Ty:=⟨6,o,0,false⟩
theorem YP (c:RC) (hF:Fm c.g) (f:Fd) (it:Bool) (l:List Ty) (hl:l.length≤1000):XC 140 [.pv (ZK f),.pv (pb it)] c (Zb c.g f it) uV l:=by
 intro u;refine zF zf Tryz.func140 rfl (by kernel_rfl) Tryz.ntmps140 (by simp) _ rfl (fun gB hw1=>?_)
 have c1:=yj c l hl
 rcases Zv l with hp|⟨t,l1,hp,e1⟩
 ·have hw:Zb c.g f it l=.error 9:=zeY hp
  repeat' (first|refine zq 1 1 rfl rfl rfl ?_|refine zD ((yN u c l)) zi rfl rfl rfl tH (c1.bad hp u) ?_|refine sK ?_|refine sC (fun _=>?_) (fun _=>?_)|fail)
  exact zy hw
 ·have ck:=Qz c.g f.owner
  by_cases hk:Yt c.g f.owner=1
  ·rw [hk] at ck
   have cr:=ZR (ztc f.owner)
   cases ha:tyB t (rfT (ztc f.owner))
   ·have ha':(t.kind==6&&(t.index==f.owner&&(t.dims==0&&(t.ref==true&&true))))=false:=ha
    cases it
    ·have hw:Zb c.g f false l=.error 10:=by simp [Zb,zx,hp,zI,hk,ha]
     repeat' (first|refine zB rfl (zn (ps:=(yA c.g)) zf rfl rfl rfl rfl rfl) rfl rfl ?_|refine AD.step _ _ _ _ _ rfl (zn (ps:=(yA c.g)) zf rfl rfl rfl rfl rfl) rfl rfl ?_|refine Zo 13 12 rfl (by kernel_rfl) (by kernel_rfl) (by kernel_rfl) (by kernel_rfl) (by kernel_rfl) ?_|refine zD ([]) zi rfl rfl rfl tH (zZ rfl 10) ?_|(refine shC ?_;first|refine qC ck ?_|refine qC cr ?_)|(refine zu ?_;first|(refine zo 0 zi rfl rfl (c1.ok hp) rfl rfl rfl rfl rfl ?_))|refine sK ?_|refine sC (fun _=>?_) (fun _=>?_)|fail)
     exact zy hw
    ·cases hb:tyB t (ztc f.owner)
     ·have hb':(t.kind==6&&(t.index==f.owner&&(t.dims==0&&(t.ref==false&&true))))=false:=hb
      have hw:Zb c.g f true l=.error 10:=by simp [Zb,zx,hp,zI,hk,ha,hb]
      repeat' (first|refine zB rfl (zn (ps:=(yA c.g)) zf rfl rfl rfl rfl rfl) rfl rfl ?_|refine AD.step _ _ _ _ _ rfl (zn (ps:=(yA c.g)) zf rfl rfl rfl rfl rfl) rfl rfl ?_|refine Zo 13 12 rfl (by kernel_rfl) (by kernel_rfl) (by kernel_rfl) (by kernel_rfl) (by kernel_rfl) ?_|refine zD ([]) zi rfl rfl rfl tH (zZ hb 10) ?_|(refine shC ?_;first|refine qC ck ?_|refine qC cr ?_)|(refine zu ?_;first|(refine zo 0 zi rfl rfl (c1.ok hp) rfl rfl rfl rfl rfl ?_))|refine sK ?_|refine sC (fun _=>?_) (fun _=>?_)|fail)
      exact zy hw
     ·have hb':(t.kind==6&&(t.index==f.owner&&(t.dims==0&&(t.ref==false&&true))))=true:=hb
      have hw:Zb c.g f true l=.ok ((),l1):=by simp [Zb,zx,hp,zI,hk,ha,hb]
      repeat' (first|refine zB rfl (zn (ps:=(yA c.g)) zf rfl rfl rfl rfl rfl) rfl rfl ?_|refine AD.step _ _ _ _ _ rfl (zn (ps:=(yA c.g)) zf rfl rfl rfl rfl rfl) rfl rfl ?_|(refine shC ?_;first|refine qC ck ?_|refine qC cr ?_|refine qC (zC hb 10) ?_)|(refine zu ?_;first|(refine zo 0 zi rfl rfl (c1.ok hp) rfl rfl rfl rfl rfl ?_))|refine sK ?_|refine sC (fun _=>?_) (fun _=>?_)|fail)
      exact zV hw (yC (.inr rfl) tH)
   ·have ha':(t.kind==6&&(t.index==f.owner&&(t.dims==0&&(t.ref==true&&true))))=true:=ha
    have hw:Zb c.g f it l=.ok ((),l1):=by simp [Zb,zx,hp,zI,hk,ha]
    repeat' (first|refine zB rfl (zn (ps:=(yA c.g)) zf rfl rfl rfl rfl rfl) rfl rfl ?_|refine AD.step _ _ _ _ _ rfl (zn (ps:=(yA c.g)) zf rfl rfl rfl rfl rfl) rfl rfl ?_|(refine shC ?_;first|refine qC ck ?_|refine qC cr ?_|refine qC (zC rfl 10) ?_)|(refine zu ?_;first|(refine zo 0 zi rfl rfl (c1.ok hp) rfl rfl rfl rfl rfl ?_))|refine sK ?_|refine sC (fun _=>?_) (fun _=>?_)|fail)
    exact zV hw (yC (.inr rfl) tH)
  ·have hk':(Yt c.g f.owner==1)=false:=beq_eq_false_iff_ne.2 hk
   have cf:=zaa c.g t (ztE f.owner) hF
   cases hf:Zx c.g t (ztE f.owner)
   ·have hw:Zb c.g f it l=.error 10:=by simp [Zb,zx,hp,zI,hk,hf]
    repeat' (first|refine zB rfl (zn (ps:=(yA c.g)) zf rfl rfl rfl rfl rfl) rfl rfl ?_|refine AD.step _ _ _ _ _ rfl (zn (ps:=(yA c.g)) zf rfl rfl rfl rfl rfl) rfl rfl ?_|refine Zo 10 9 rfl (by kernel_rfl) (by kernel_rfl) (by kernel_rfl) (by kernel_rfl) (by kernel_rfl) ?_|refine zD ([]) zi rfl rfl rfl tH (zZ hf 10) ?_|(refine shC ?_;first|refine qC ck ?_|refine qC cf ?_)|(refine zu ?_;first|(refine zo 0 zi rfl rfl (c1.ok hp) rfl rfl rfl rfl rfl ?_))|refine sK ?_|refine sC (fun _=>?_) (fun _=>?_)|fail)
    exact zy hw
   ·have hw:Zb c.g f it l=.ok ((),l1):=by simp [Zb,zx,hp,zI,hk,hf]
    repeat' (first|refine zB rfl (zn (ps:=(yA c.g)) zf rfl rfl rfl rfl rfl) rfl rfl ?_|refine AD.step _ _ _ _ _ rfl (zn (ps:=(yA c.g)) zf rfl rfl rfl rfl rfl) rfl rfl ?_|(refine shC ?_;first|refine qC ck ?_|refine qC cf ?_|refine qC (zC hf 10) ?_)|(refine zu ?_;first|(refine zo 0 zi rfl rfl (c1.ok hp) rfl rfl rfl rfl rfl ?_))|refine sK ?_|refine sC (fun _=>?_) (fun _=>?_)|fail)
    exact zV hw (yC (.inl rfl) tH)
def LeS {α:Type} (act:SM α):Prop:=∀ l a l',act l=.ok (a,l')→l'.length≤l.length
theorem Xw {α β:Type} {x:SM α} {f:α→SM β} (hx:LeS x) (hf:∀ a,LeS (f a)):LeS (x >>= f):=fun l b l' h=>by
 rw [zx] at h
 cases hxl:x l with
 | error e=>rw [hxl] at h;cases h
 | ok p =>
  obtain ⟨a,l1⟩:=p
  rw [hxl] at h
  exact Nat.le_trans (hf a l1 b l' h) (hx l a l1 hxl)
theorem zbH {α:Type} (a:α):LeS (pure a:SM α):=fun l b l' h=>by rw [zA] at h;cases h;exact Nat.le_refl _
theorem WG (b:Bool) (e:Int):LeS (zI b e):=fun l a l' h=>by
 unfold zI at h;split at h
 ·cases h;exact Nat.le_refl _
 ·cases h
theorem empty_le (e:Int):LeS (emptyS e):=fun l a l' h=>by
 unfold emptyS at h;split at h
 ·cases h;exact Nat.le_refl _
 ·cases h
theorem zaW:LeS Yk:=fun l a l' h=>by have:=zhk h;omega
theorem zjg (g:Img) (t:Ty):LeS (Yo g t):=Xw zaW fun _=>WG _ _
theorem zg6 (g:Img) (ls:List Ty):LeS (Zh g ls):=fun l a l' h=>by
 unfold Zh at h;split at h
 ·cases h
 ·split at h
  ·cases h;simp
  ·cases h
theorem Xb {l l':List Ty} {a:Ty} (h:Yk l=.ok (a,l')):l'.length≤l.length:=zaW l a l' h
theorem zae {x:Ins} {ls l l':List Ty} {a:Ty} (h:XR x ls l=.ok (a,l')):l'.length≤l.length:=Xw (WG _ _) (fun _=>zbH _) l a l' h
theorem zaL {l l':List Ty} {a:Ty} (h:qU l=.ok (a,l')):l'.length≤l.length:=Xw zaW (fun _=>Xw zaW fun _=>Xw (WG _ _) fun _=>zbH _) l a l' h
theorem zd1 {l l':List Ty} {a:Ty} (h:za3 l=.ok (a,l')):l'.length≤l.length:=Xw zaW (fun _=>Xw (WG _ _) fun _=>zbH _) l a l' h
theorem zdv {l l':List Ty} (h:qN l=.ok ((),l')):l'.length≤l.length:=Xw zaW (fun _=>Xw zaW fun _=>WG _ _) l () l' h
theorem WO {g:Img} {t:Ty} {l l':List Ty} (h:Yo g t l=.ok ((),l')):l'.length≤l.length:=zjg g t l () l' h
theorem Wu {g:Img} {ls:List Ty} {l l':List Ty} (h:Zh g ls l=.ok ((),l')):l'.length≤l.length:=zg6 g ls l () l' h
theorem zbO {g:Img} {f:Fd} {it:Bool} {l l':List Ty} (h:Zb g f it l=.ok ((),l')):l'.length≤l.length:=Xw zaW (fun _=>by split <;> exact WG _ _) l () l' h
theorem zbi {x:Ins} {l l':List Ty} {a:Ty} (h:QO x l=.ok (a,l')):l'.length≤l.length:=Xw (WG _ _) (fun _=>zbH _) l a l' h
theorem XC.tells {α:Type} {f:FuncId} {c:RC} {act:SM α} {val:α→AV} {l:List Ty} {p p':PV} (h:XC f [.pv p] c act val l) (ht:PTells p' p):XC f [.pv p'] c act val l:=fun u=>by
 have key:∀ {K:KK} {w:World} {ρ:Nat→Value} {H:HEnv} {vs:List Value},YZ K w ρ H [.box 0 0,.pv p'] vs→YZ K w ρ H [.box 0 0,.pv p] vs:=fun hv=>⟨hv.1,fun k c v hc hvv=>by
  match k with
  | 0=>exact hv.2 0 c v hc hvv
  | 1 =>
   simp at hc;subst hc
   have:=hv.2 1 (.pv p') v rfl hvv
   cases this with|pv _ _ hp=>exact .pv _ _ (ht _ _ _ hp)
  | k + 2=>simp at hc⟩
 have hu:=h u
 cases ho:zrZ u c val (act l) with
 | ret r H' =>
  rw [ho] at hu
  exact ⟨hu.stands,fun g K ρ w vs hw1 hf hv=>hu.calls g K ρ w vs hw1 hf (key hv)⟩
 | pan v =>
  rw [ho] at hu
  exact ⟨hu.stands,fun g K ρ w vs hw1 hf hv=>hu.calls g K ρ w vs hw1 hf (key hv)⟩
theorem Yb (c:RC) (hF:Fm c.g) (ls l:List Ty) (hl:l.length≤1000):XC 138 [tsV ls] c (Zh c.g ls) uV l:=(YE c hF ls l hl).tells (zog _ _ _)
abbrev ztq (c:RC):HE:=.cell (.agg ((yA c.g++(zf8 c.m++(tys c.ar::(zb5 c.x++[.base (.slice none 0 0)])))).map .pv))
abbrev rHN (u:Value) (c:RC):HEnv:=(0,ztq c)::zgd u
def zmz (u:Value) (c:RC):Except Int (Unit × List Ty)→Out
 | .error e=>.pan (flt e)
 | .ok _=>.ret (.pv (.tup [])) (rHN u c)
theorem zd7 {tb:Tab} {rs:List ResultVar} {u:Value} {c:RC} {act:SM Unit} {l:List Ty} {p:Unit × List Ty} {ex:Exit} {env:Env} {H:HEnv} (h:act l=.ok p) (hr:zie tb rs (.pv (.tup [])) (rHN u c) ex env H):zp9 tb rs (zmz u c (act l)) ex env H:=by
 rw [h];exact hr
theorem zaw {tb:Tab} {rs:List ResultVar} {u:Value} {c:RC} {act:SM Unit} {l:List Ty} {e:Int} {env:Env} {H:HEnv} (h:act l=.error e):zp9 tb rs (zmz u c (act l)) (.panic [{ v:=flt e,recovered:=false }]) env H:=by
 rw [h];rfl
theorem zgX {tb:Tab} {u:Value} {c:RC} {ex:Exit} {env:Env} {H:HEnv} (he:ex=.normal∨ex=.ret) (h:Wn H (rHN u c) []):zie tb [] (.pv (.tup [])) (rHN u c) ex env H:=⟨he,.inl ⟨[],rfl,rfl,h⟩⟩
theorem zro (c:RC):Tells (.agg ((yA c.g++(zf8 c.m++(tys c.ar::(zb5 c.x++[.base (.slice none 0 0)])))).map .pv)) (.agg ((yA c.g++(zf8 c.m++(tys c.ar::(zb5 c.x++[tys []])))).map .pv)):=fun K w ρ H v h=>by
 cases h with
 | agg _ vs h1 h2 h3 =>
  refine .agg _ vs (by simpa using h1) h2 fun k a v ha hv=>?_
  have hk:k < 24:=by have:=(List.getElem?_eq_some_iff.1 ha).1;simpa using this
  by_cases h23:k=23
  ·subst h23
   have:=h3 23 (.pv (.base (.slice none 0 0))) v rfl hv
   have e:a=.pv (tys []):=by simpa using ha.symm
   subst e
   exact Xp 4 false _ _ _ _ _ this
  ·have e1:∀ x:PV,yA c.g++(zf8 c.m++(tys c.ar::(zb5 c.x++[x])))=(yA c.g++(zf8 c.m++(tys c.ar::zb5 c.x)))++[x]:=fun x=>by simp
   rw [e1,List.map_append,List.getElem?_append_left (by simp;omega)] at ha
   refine h3 k a v ?_ hv
   rw [e1,List.map_append,List.getElem?_append_left (by simp;omega)];exact ha
theorem zgt {f:FuncId} {c:RC} {act:SM Unit} {l:List Ty} (hn:∀ p,act l=.ok p→p.2=[]) (h:∀ u,zdy Tryz.prog f [.box 0 0] (yN u c l) (zmz u c (act l))):XC f [] c act uV l:=fun u=>by
 have hu:=h u
 cases ho:act l with
 | error e=>rw [ho] at hu;exact hu
 | ok p =>
  rw [ho] at hu
  have hp:=hn p ho
  obtain ⟨⟨⟩,l'⟩:=p
  simp only at hp;subst hp
  exact ⟨hu.stands,fun g K ρ w vs hw1 hf hv=>(hu.calls g K ρ w vs hw1 hf hv).mono fun e w' ⟨v,K',ρ',e1,hf',hr⟩=>⟨v,K',ρ',e1,zgp hf' (zro c),by
   cases hr with|pv _ _ hp=>exact .pv _ _ hp⟩⟩
end Go.Cg
