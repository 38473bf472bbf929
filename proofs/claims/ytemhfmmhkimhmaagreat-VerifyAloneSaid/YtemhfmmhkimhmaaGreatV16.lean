/- A part of the walks by abstract values: no statement of its own. -/
import Derived.Test.YtemhfmmhkimhmaaGreatV14
import Derived.Test.YtemhfmmhkimhmaaGreatV8
import Derived.Test.YtemhfmmhkimhmaaGreatV6
import Derived.Test.YtemhfmmhkimhmaaGreatV4
set_option linter.unusedVariables false
set_option linter.unusedSimpArgs false
namespace Go.Cg
open Go.RowKit
structure EStepN (P:Program) (g:Base) (H0 H1 N N1:HEnv) (o:Oper) (e:Env) (r:AV) (pan:Option Value):Prop where
 go:∀ (K:KK) (ρ:Nat->Value) (a:Act) (w:World),FS g K ρ H0 w->(∀ x∈o.op.operands,∀ av,e.val x=some av->ARel K w ρ N av (a.eval x)) ->
  (∃ f vs,(execOp a.eval o).run P w=.ok (.enter f vs) w/\Calls P f vs w fun ex w' =>
   match pan with
   | none=>∃ v K' ρ',ex=.returned v/\FS g K' ρ' H1 w'/\Later K K' w w'/\(∀ j,(N.get j).isSome=true->ρ' j=ρ j)/\ARel K' w' ρ' N1 r v
   | some v=>ex=.panicked [{ v:=v,recovered:=false }]/\∃ K' ρ',FS g K' ρ' [] w') \/
  (pan=none/\∃ v w' K' ρ',((execOp a.eval o).run P w=.ok (.value v) w'\/(execOp a.eval o).run P w=.ok .skip w'/\v=undef)/\FS g K' ρ' H1 w'/\Later K K' w w'/\(∀ j,(N.get j).isSome=true->ρ' j=ρ j)/\ARel K' w' ρ' N1 r v)
def lvl:List Nat->Nat->Nat
 | [],_=>0
 | j::E,i=>if i=j then 1 else match lvl E i with|0=>0|q + 1=>q + 2
theorem zbq {i:Nat}:∀ {E:List Nat},i∉E->lvl E i=0
 | [],_=>rfl
 | j::E,h=>by
  rw [List.mem_cons,not_or] at h;rw [lvl,if_neg h.1,zbq h.2]
theorem zdD {i:Nat}:∀ {E:List Nat} {p:Nat},E.Nodup->E[p]?=some i->lvl E i=p + 1
 | [],p,_,h=>by simp at h
 | j::E,0,_,h=>by simp at h;subst h;simp [lvl]
 | j::E,p + 1,hn,h=>by
  rw [List.nodup_cons] at hn;have h':E[p]?=some i:=by simpa using h
  have hm:i∈E:=List.mem_of_getElem? h';rw [lvl,if_neg (fun e=>hn.1 (by rw [<-e];exact hm)),zdD hn.2 h']
theorem Xo {l:List Oper} {E:List Nat} (hc:ZU l E=true):E.Nodup:=by
 have h:E.Pairwise (· < ·):=by
  rw [List.pairwise_iff_getElem];intro i j hi hj hij;exact zcH hc hij (List.getElem?_eq_getElem hi) (List.getElem?_eq_getElem hj)
 exact h.imp (fun h=>Nat.ne_of_lt h)
section
variable {P:Program} {n:Nat} {g:Base} {K:KK} {w:World} {ρ:Nat->Value} {H:HEnv} {Hp:Nat->HEnv} {ET:List (List Nat)} {env:Env} {a:Act} {ops l:List Oper} {Q:Env->Prop} {E:List Nat}
theorem zsI {listed:Array Bool} (hc:ZU l E=true) (hcl:∀ (i:Nat) (o:Oper),l[i]?=some o->listed.getD i true=true->∀ j,qc o j=true->listed.getD j false=true) {i:Nat} {o:Oper} (hi:l[i]?=some o) (hli:listed.getD i true=true):lvl E i<=phase E listed:=by
 by_cases hm:i∈E
 ·obtain ⟨p,hp⟩:=List.getElem?_of_mem hm;rw [zdD (Xo hc) hp];have hlow:=zdO (listed:=listed) hc hcl hi (fun j hj=>hcl i o hi hli j hj) hp;have hplt:=(List.getElem?_eq_some_iff.1 hp).1;unfold phase;have e:E=E.take (p + 1)++E.drop (p + 1):=(List.take_append_drop _ E).symm;rw [e,List.filter_append,List.length_append];have h1:(E.take (p + 1)).filter (fun j=>listed.getD j true)=E.take (p + 1):=by
   rw [List.filter_eq_self];intro x hx;obtain ⟨q,hq⟩:=List.getElem?_of_mem hx;rw [List.getElem?_take] at hq;split at hq
   ·rename_i hlt;by_cases e:q=p
    ·subst e;rw [hp] at hq;cases hq;exact hli
    ·exact hlow q x zwy62 hq
   ·cases hq
  rw [h1];simp;omega
 ·rw [zbq hm];exact Nat.zero_le _
structure MidN {P:Program} {n:Nat} {g:Base} {H:HEnv} {Hp:Nat->HEnv} {ET:List (List Nat)} {ops l:List Oper} {E:List Nat} {env:Env} {Q:Env->Prop} (Hs Nm:Nat->HEnv) (pan:Option Value) (s:ScriptM P n g H Hp ET ops l E env Q) (listed:Array Bool) (a:Act) (w:World):Prop where
 size:a.tmps.size=n
 defers:a.defers=g.ds
 lsize:listed.size=ops.length
 llen:l.length<=ops.length
 notail:∀ j,l.length<=j->j < ops.length->listed.getD j true=false
 closed:∀ (i:Nat) (o:Oper),l[i]?=some o->listed.getD i true=true->∀ j,qc o j=true->listed.getD j false=true
 nopan:phase E listed=E.length->pan=none
 st:∃ K ρ,FS g K ρ (Hs (phase E listed)) w /\
  (∀ (i:Nat) (o:Oper) (ri:AV) (t:Nat),l[i]?=some o->listed.getD i true=true->s.r[i]?=some ri->o.dst=some t->∃ v,a.tmps[t]?=some v/\ARel K w ρ (Nm (lvl E i)) ri v) /\
  (∀ (t:Nat) (av:AV),env.get t=some av->(∀ (i:Nat) (o:Oper),l[i]?=some o->listed.getD i true=true->o.dst≠some t)->∃ v,a.tmps[t]?=some v/\ARel K w ρ H av v)
variable {pan:Option Value} {Hs Nm:Nat->HEnv}
theorem MidN.next {s:ScriptM P n g H Hp ET ops l E env Q} {listed:Array Bool} (hch:ZU l E=true) (hN0:Nm 0=H) (hB:Qo ops l=true) (hm:MidN Hs Nm pan s listed a w) {j:Nat} {o:Oper} {rj:AV} (ho:l[j]?=some o) (hr:s.r[j]?=some rj) (hdt:∀ t,o.dst=some t->t < n)
  (hun:listed.getD j true=false) (hready:∀ i,qc o i=true->listed.getD i false=true) {K':KK} {ρ':Nat->Value} {w':World} {v:Value} {K0:KK} {ρ0:Nat->Value}
  (hpn:phase E (listed.setIfInBounds j true)=E.length->pan=none)
  (hf':FS g K' ρ' (Hs (phase E (listed.setIfInBounds j true))) w')
  (htr:∀ q,q<=phase E listed->∀ av u,ARel K0 w ρ0 (Nm q) av u->ARel K' w' ρ' (Nm q) av u)
  (hl:∀ (i:Nat) (o:Oper) (ri:AV) (t:Nat),l[i]?=some o->listed.getD i true=true->s.r[i]?=some ri->o.dst=some t->∃ v,a.tmps[t]?=some v/\ARel K0 w ρ0 (Nm (lvl E i)) ri v)
  (he:∀ (t:Nat) (av:AV),env.get t=some av->(∀ (i:Nat) (o:Oper),l[i]?=some o->listed.getD i true=true->o.dst≠some t)->∃ v,a.tmps[t]?=some v/\ARel K0 w ρ0 H av v)
  (hv:ARel K' w' ρ' (Nm (lvl E j)) rj v):MidN Hs Nm pan s (listed.setIfInBounds j true) (a.put o.dst v) w':=by
 have hjlt:j < listed.size:=by rw [hm.lsize];exact Nat.lt_of_lt_of_le (List.getElem?_eq_some_iff.1 ho).1 hm.llen
 obtain ⟨_,hdst,_⟩:=zaP hB ho;refine ⟨Zm hm.size,put_defers hm.defers,by simp [hm.lsize],hm.llen,fun k h1 h2=>by rw [yO (by have:=(List.getElem?_eq_some_iff.1 ho).1;omega)];exact hm.notail k h1 h2,?_,fun hh=>?_,K',ρ',hf',?_,?_⟩
 ·intro i o' ho' hli k hk;by_cases hij:i=j
  ·subst hij;rw [ho] at ho';cases ho';have:=hready k hk;by_cases hkj:k=i
   ·subst hkj;exact Zh hjlt
   ·rw [yO hkj];exact this
  ·rw [yO hij] at hli;have:=hm.closed i o' ho' hli k hk;by_cases hkj:k=j
   ·subst hkj;exact Zh hjlt
   ·rw [yO hkj];exact this
 ·exact hpn hh
 ·intro i o' ri t' ho' hli hri hd';by_cases hij:i=j
  ·subst hij;rw [ho] at ho';cases ho';rw [hr] at hri;cases hri;exact ⟨v,by rw [hd'];simp only [Act.put];rw [Array.getElem?_setIfInBounds_self_of_lt (by rw [hm.size];exact hdt _ hd')],hv⟩
  ·rw [yO hij] at hli;obtain ⟨u,h1,h2⟩:=hl i o' ri t' ho' hli hri hd';refine ⟨u,?_,htr _ (zsI hch hm.closed ho' hli) _ _ h2⟩;cases hd:o.dst with
   | none=>simpa only [Act.put] using h1
   | some t =>
    have hne:t≠t':=by
     rintro rfl;exact hdst i o' t ho' hd' hij hd
    simp only [Act.put];rw [Array.getElem?_setIfInBounds_ne hne];exact h1
 ·intro t' av hav hno;obtain ⟨u,h1,h2⟩:=he t' av hav (fun i o' ho' hli hd'=>by
   by_cases hij:i=j
   ·subst hij;rw [hun] at hli;cases hli
   ·exact hno i o' ho' (by rw [yO hij];exact hli) hd')
  refine ⟨u,?_,by rw [<-hN0] at h2 ⊢;exact htr 0 (Nat.zero_le _) _ _ h2⟩;cases hd:o.dst with
  | none=>simpa only [Act.put] using h1
  | some t =>
   have hne:t≠t':=by
    rintro rfl;exact hno j o ho (Zh hjlt) hd
   simp only [Act.put];rw [Array.getElem?_setIfInBounds_ne hne];exact h1
theorem MidN.reads {s:ScriptM P n g H Hp ET ops l E env Q} {listed:Array Bool} (hch:ZU l E=true) (hB:Qo ops l=true) (hm:MidN Hs Nm pan s listed a w) {j:Nat} {o:Oper} {ej:Env} (ho:l[j]?=some o) (hej:s.e[j]?=some ej)
  (hN0:Nm 0=H) (hmono:∀ q p,q<=p->p<=E.length->qM (Nm q) (Nm p)=true) (hrd2:∀ (p i:Nat) (oc:Oper) (tc:Nat) (rc:AV),E[p]?=some i->l[i]?=some oc->oc.dst=some tc->s.r[i]?=some rc->ZX H rc=true\/∀ (x:Nat) (o:Oper),l[x]?=some o->x∈E\/tc∉readsOf ops o) (hun:listed.getD j true=false) (hready:∀ i,qc o i=true->listed.getD i false=true) {K0:KK} {ρ0:Nat->Value}
  (hl:∀ (i:Nat) (o:Oper) (ri:AV) (t:Nat),l[i]?=some o->listed.getD i true=true->s.r[i]?=some ri->o.dst=some t->∃ v,a.tmps[t]?=some v/\ARel K0 w ρ0 (Nm (lvl E i)) ri v)
  (he:∀ (t:Nat) (av:AV),env.get t=some av->(∀ (i:Nat) (o:Oper),l[i]?=some o->listed.getD i true=true->o.dst≠some t)->∃ v,a.tmps[t]?=some v/\ARel K0 w ρ0 H av v) :
  ∀ t∈readsOf ops o,∀ av,ej.get t=some av->∃ v,a.tmps[t]?=some v/\ARel K0 w ρ0 (Nm (lvl E j - 1)) av v:=by
 intro t ht av hav;obtain ⟨_,_,hrd⟩:=zaP hB ho;have hlf:∀ i,listed.getD i false=true->listed.getD i true=true:=by
  intro i hi;rw [Array.getD_eq_getD_getElem?] at hi ⊢;cases h:listed[i]? with
  | none=>rfl
  | some b=>rw [h] at hi;exact hi
 have hjl:listed.getD j false=false:=by
  cases hb:listed.getD j false
  ·rfl
  ·rw [hlf j hb] at hun;cases hun
 have hlj:lvl E j - 1<=E.length:=by
  by_cases hm':j∈E
  ·obtain ⟨p,hp⟩:=List.getElem?_of_mem hm';have:=(List.getElem?_eq_some_iff.1 hp).1;rw [zdD (Xo hch) hp];omega
  ·rw [zbq hm'];omega
 have up:∀ q,q<=lvl E j - 1->∀ {av:AV} {v:Value},ARel K0 w ρ0 (Nm q) av v->ARel K0 w ρ0 (Nm (lvl E j - 1)) av v:=fun q hq _ _ h=>h.keeps (.refl K0 w) fun i hi=>⟨YH (hmono q _ hq hlj) i hi,rfl⟩
 have hsrc:=s.src j ej (by rw [List.getElem?_append_left (List.getElem?_eq_some_iff.1 hej).1];exact hej) t av hav;rcases hsrc with ⟨i,o',ri,h1,h2,h3,h4,h5,_⟩|⟨h1,av0,h2,h3⟩
 ·rcases hrd i o' t h2 h3 ht with ⟨_,hedge⟩|⟨hlt,_⟩
  ·obtain ⟨v,v1,v2⟩:=hl i o' ri t h2 (hlf i (hready i hedge)) h4 h3;refine ⟨v,v1,h5 _ _ _ _ _ ?_⟩;by_cases hm':i∈E
   ·obtain ⟨p,hp⟩:=List.getElem?_of_mem hm';rcases hrd2 p i o' t ri hp h2 h3 h4 with hh|hh
    ·exact up 0 (Nat.zero_le _) (by rw [hN0];exact v2.refs hh)
    ·rcases hh j o ho with hjE|hh
     ·obtain ⟨q,hq⟩:=List.getElem?_of_mem hjE;have hpq:p < q:=by
       rcases Nat.lt_or_ge p q with h|h
       ·exact h
       ·rcases Nat.lt_or_ge q p with h'|h'
        ·have:=zcH hch h' hq hp;omega
        ·have:p=q:=by omega
         subst this;rw [hp] at hq;cases hq;omega
      rw [zdD (Xo hch) hp] at v2;exact up (p + 1) (by rw [zdD (Xo hch) hq];omega) v2
     ·exact absurd ht hh
   ·rw [zbq hm'] at v2;exact up 0 (Nat.zero_le _) v2
  ·omega
 ·obtain ⟨v,v1,v2⟩:=he t av0 h2 (fun i o' ho' hli hd'=>by
   rcases hrd i o' t ho' hd' ht with ⟨hlt,_⟩|⟨hlt,hedge⟩
   ·exact h1 i o' hlt ho' hd'
   ·have:=hm.closed i o' ho' hli j hedge;rw [hjl] at this;cases this)
  exact ⟨v,v1,h3 _ _ _ _ _ (up 0 (Nat.zero_le _) (by rw [hN0];exact v2))⟩
theorem zo3 {R:Exit->Act->World->Prop} (hHp:Hp=Hs) (hET:zhC l E ET=true) (hkp:∀ p,p < ET.length->qM (Hs p) H=true/\qM H (Hs p)=true) (hl0:l=ops.take l.length) (s:ScriptM P n g H Hp ET ops l E env Q) (hch:ZU l E=true) (hE:∀ p j,E[p]?=some j->zmr n ops (fun p oc ec rc=>EStepN P g (Hs p) (Hs (p + 1)) (Nm p) (Nm (p + 1)) oc ec rc (if p + 1=E.length then pan else none)) l s.r s.e p j) (hN0:Nm 0=H) (hrd2:∀ (p i:Nat) (oc:Oper) (tc:Nat) (rc:AV),E[p]?=some i->l[i]?=some oc->oc.dst=some tc->s.r[i]?=some rc->ZX H rc=true\/∀ (x:Nat) (o:Oper),l[x]?=some o->x∈E\/tc∉readsOf ops o) (hmono:∀ q p,q<=p->p<=E.length->qM (Nm q) (Nm p)=true)
  (hw:∀ p,p<=E.length->∀ K ρ w,FS g K ρ (Hs p) w->FS g K ρ H w) (hkeys:∀ q,q<=E.length->qM (Nm q) (Hs E.length)=true) (hB:Qo ops l=true) (hT:Wp ops l.length=true)
  (hq:pan=none->∀ env' a w,Q env'->Inv n g env' (Hs E.length) a w->wpList P ops.toArray R (ops.drop l.length) a w)
  (hp':∀ v,pan=some v->∀ a w,Inv n g [] [] a w->R (.panic [{ v:=v,recovered:=false }]) a w):∀ (fuel:Nat) (listed:Array Bool) (a:Act) (w:World),(listed.toList.filter (! ·)).length=fuel->MidN Hs Nm pan s listed a w ->
  wpAny P .any ops.toArray R fuel listed a w:=by
 have hget:∀ j,j < l.length->l[j]?=ops[j]?:=by
  intro j hj;have:=congrArg (fun x=>x[j]?) hl0;simp only [List.getElem?_take,if_pos hj] at this;exact this
 have hlen:l.length<=ops.length:=by
  have:=congrArg List.length hl0;simp at this;omega
 have done:∀ (listed:Array Bool) (a:Act) (w:World),(∀ j,j < l.length->listed.getD j true=true)->MidN Hs Nm pan s listed a w->pan=none/\∃ env',Q env'/\Inv n g env' (Hs E.length) a w:=by
  intro listed a w hall hm;obtain ⟨K,ρ,hf,hl,he⟩:=hm.st;have hph:phase E listed=E.length:=by
   unfold phase;rw [List.filter_eq_self.2];intro x hx;obtain ⟨q,hq⟩:=List.getElem?_of_mem hx;exact hall x (zbe hch hq)
  rw [hph] at hf;refine ⟨hm.nopan hph,s.last,s.fin,⟨hm.size,hm.defers,K,ρ,hf,fun t av hav=>?_⟩⟩;have hkk:∀ q,q<=E.length->∀ j,(HEnv.get (Nm q) j).isSome=true->(HEnv.get (Hs E.length) j).isSome=true/\ρ j=ρ j:=fun q hq j hj=>⟨YH (hkeys q hq) j hj,rfl⟩
  have hll:∀ i o,l[i]?=some o->lvl E i<=E.length:=fun i o ho=>Nat.le_trans (zsI hch hm.closed ho (hall i (List.getElem?_eq_some_iff.1 ho).1)) (List.length_filter_le _ _)
  have hlast:(s.e++[s.last])[l.length]?=some s.last:=by rw [List.getElem?_append_right (by rw [s.lene];exact Nat.le_refl _),s.lene];simp
  rcases s.src l.length s.last hlast t av hav with ⟨i,o,ri,h1,h2,h3,h4,h5,_⟩|⟨h1,av0,h2,h3⟩
  ·obtain ⟨v,v1,v2⟩:=hl i o ri t h2 (hall i h1) h4 h3;exact ⟨v,v1,(h5 _ _ _ _ _ v2).keeps (.refl K w) (hkk _ (hll i o h2))⟩
  ·obtain ⟨v,v1,v2⟩:=he t av0 h2 (fun i o ho _=>h1 i o (List.getElem?_eq_some_iff.1 ho).1 ho);exact ⟨v,v1,((h3 _ _ _ _ _ v2).keeps (.refl K w) (by rw [<-hN0];exact hkk 0 (Nat.zero_le _)))⟩
 intro fuel;induction fuel with
 | zero =>
  intro listed a w hc hm;have hall:∀ j,j < ops.length->listed.getD j true=true:=by
   intro j hj;have hn:=List.filter_eq_nil_iff.1 (List.eq_nil_of_length_eq_zero hc);have hlt:j < listed.size:=by rw [hm.lsize];exact hj
   have:=hn listed[j] zwy63;simp only [Bool.not_eq_true',Bool.not_eq_false] at this;rw [Array.getD_eq_getD_getElem?,Array.getElem?_eq_getElem hlt];simpa using this
  have hkl:l.length=ops.length:=by
   rcases Nat.lt_or_ge l.length ops.length with h|h
   ·have:=hm.notail l.length (Nat.le_refl _) h;rw [hall _ h] at this;cases this
   ·omega
  obtain ⟨hpn,env',h1,h2⟩:=done listed a w (fun j hj=>hall j zwy62) hm;refine zcE hT 0 l.length listed a w (Nat.le_refl _) zwy62 hm.lsize (fun i hi=>?_) (hq hpn env' a w h1 h2);rw [hall i hi];simp;omega
 | succ fuel ih =>
  intro listed a w hc hm;by_cases hall:∀ j,j < l.length->listed.getD j true=true
  ·obtain ⟨hpn,env',h1,h2⟩:=done listed a w hall hm;have hex:∀ i,i < ops.length->listed.getD i true=decide (i < l.length):=by
    intro i hi;by_cases h:i < l.length
    ·rw [hall i h];simp [h]
    ·rw [hm.notail i zwy62 hi];simp [h]
   have hcnt:l.length + (fuel + 1)=ops.length:=by
    have e1:listed.toList=List.replicate l.length true++List.replicate (ops.length - l.length) false:=by
     apply List.ext_getElem
     ·simp [hm.lsize];omega
     ·intro i h1 h2;have hi:i < ops.length:=by simpa [hm.lsize] using h1
      have:=hex i hi;rw [Array.getD_eq_getD_getElem?,Array.getElem?_eq_getElem (by rw [hm.lsize];exact hi)] at this;simp only [Option.getD_some] at this;simp only [Array.getElem_toList,this,List.getElem_append,List.length_replicate,List.getElem_replicate];by_cases hil:i < l.length
      ·rw [dif_pos hil,decide_eq_true hil]
      ·rw [dif_neg hil,decide_eq_false hil]
    rw [e1] at hc;simp only [List.filter_append,List.filter_replicate,Bool.not_true,Bool.false_eq_true,if_false,Bool.not_false,if_true,List.nil_append,List.length_replicate] at hc;omega
   exact zcE hT (fuel + 1) l.length listed a w (Nat.le_refl _) hcnt hm.lsize hex (hq hpn env' a w h1 h2)
  have hlf:∀ i,i < ops.length->listed.getD i false=listed.getD i true:=by
   intro i hi;rw [Array.getD_eq_getD_getElem?,Array.getD_eq_getD_getElem?,Array.getElem?_eq_getElem (by rw [hm.lsize];exact hi)];rfl
  have hex:∃ j,j < l.length/\listed.getD j true=false/\∀ i,i < j->listed.getD i true=true:=by
   have hex0:∃ j,j < l.length/\listed.getD j true=false:=by
    rcases Classical.not_forall.1 hall with ⟨j,hj⟩
    exact ⟨j,Classical.byContradiction fun h=>hj (fun h'=>(h h').elim),by
     cases hb:listed.getD j true
     ·rfl
     ·exact (hj (fun _=>hb)).elim⟩
   obtain ⟨j,hj⟩:=hex0;induction j using Nat.strongRecOn with
   | _ j ihj =>
    by_cases hmin:∀ i,i < j->listed.getD i true=true
    ·exact ⟨j,hj.1,hj.2,hmin⟩
    ·rcases Classical.not_forall.1 hmin with ⟨i,hi⟩
     have hij:i < j:=Classical.byContradiction fun h=>hi (fun h'=>(h h').elim)
     exact ihj i hij ⟨by omega,by
      cases hb:listed.getD i true
      ·rfl
      ·exact (hi (fun _=>hb)).elim⟩
  obtain ⟨j0,hj0,hun0,hmin0⟩:=hex;refine ⟨fun h0=>?_,fun j hj=>?_⟩
  ·have:j0∈Region.ready .any ops.toArray listed:=qH.2 ⟨l[j0],by rw [<-hget j0 hj0];exact List.getElem?_eq_getElem hj0,hun0,fun i hi=>by
    have:=(zaP hB (List.getElem?_eq_getElem hj0)).1 i hi;rw [hlf i zwy62];exact hmin0 i this⟩
   rw [h0] at this;cases this
  obtain ⟨o,ho',hun,hready⟩:=qH.1 hj;have hjlt:=(List.getElem?_eq_some_iff.1 ho').1;have hjl:j < l.length:=by
   rcases Nat.lt_or_ge j l.length with h|h
   ·exact h
   ·have hmem:(o,j)∈ops.zipIdx.drop l.length:=by
     rw [List.mem_drop_iff_getElem];refine ⟨j - l.length,by simp;omega,?_⟩;simp only [List.getElem_zipIdx,Nat.zero_add];have:l.length + (j - l.length)=j:=by omega
     simp only [this];rw [(List.getElem?_eq_some_iff.1 ho').2]
    have h1:=List.all_eq_true.1 hT (o,j) hmem;simp only [Bool.and_eq_true] at h1;have:=hready j0 (List.all_eq_true.1 h1.1 j0 (List.mem_range.2 zwy62));rw [hlf j0 zwy62,hun0] at this;cases this
  have ho:l[j]?=some o:=by rw [hget j hjl];exact ho'
  have hrj:s.r[j]?=some (s.r[j]'(by rw [s.lenr];exact hjl)):=List.getElem?_eq_getElem _;have hej:s.e[j]?=some (s.e[j]'(by rw [s.lene];exact hjl)):=List.getElem?_eq_getElem _;generalize s.r[j]'(by rw [s.lenr];exact hjl)=rj at hrj;generalize s.e[j]'(by rw [s.lene];exact hjl)=ej at hej;obtain ⟨K,ρ,hf,hl,he⟩:=hm.st;have hphle:phase E listed<=E.length:=List.length_filter_le _ _;have hreads:=hm.reads hch hB ho hej hN0 hmono hrd2 hun hready hl he;have hcount:((listed.setIfInBounds j true).toList.filter (! ·)).length=fuel:=by
   have hlt:j < listed.toList.length:=by simpa [hm.lsize] using hjlt
   have hjf:listed.toList[j]=false:=by
    rw [Array.getD_eq_getD_getElem?,Array.getElem?_eq_getElem zwy80] at hun;simpa using hun
   have e1:listed.toList=listed.toList.take j++false::listed.toList.drop (j + 1):=by
    rw [<-hjf,List.getElem_cons_drop,List.take_append_drop]
   rw [Array.toList_setIfInBounds,List.set_eq_take_append_cons_drop,if_pos hlt];rw [e1] at hc;simp only [List.filter_append,List.length_append,List.filter_cons,Bool.not_false,if_true,List.length_cons,Bool.not_true,Bool.false_eq_true,if_false] at hc ⊢;omega
  have hwanted:∀ b,guardE ops ej o=some b->Region.wanted o (yielded ops.toArray a.tmps)=b:=by
   intro b hgb;unfold guardE Qq at hgb;cases hg:o.guard with
   | none=>simp [hg] at hgb;subst hgb;simp [Region.wanted,hg]
   | some x =>
    obtain ⟨jj,want⟩:=x;simp only [hg] at hgb;cases hjj:ops[jj]? with
    | none=>simp [hjj] at hgb
    | some o' =>
     simp only [hjj] at hgb;cases hd':o'.dst with
     | none=>simp [hd'] at hgb
     | some t' =>
      simp only [hd'] at hgb;split at hgb
      ·rename_i bb hbb;simp only [Option.some.injEq] at hgb;subst hgb;obtain ⟨v,v1,v2⟩:=hreads t' zwy117 _ hbb;cases v2 with
       | pv _ _ hp=>cases hp;simp only [Region.wanted,hg,yielded,List.getElem?_toArray,hjj,Option.bind_some,hd',v1];cases bb <;> cases want <;> rfl
      ·rename_i vs hbb;simp only [Option.some.injEq] at hgb;subst hgb;obtain ⟨v,v1,v2⟩:=hreads t' zwy117 _ hbb;cases v2 with
       | pv _ _ hp=>cases hp;simp only [Region.wanted,hg,yielded,List.getElem?_toArray,hjj,Option.bind_some,hd',v1];cases want <;> rfl
      ·cases hgb
  unfold wpOp;simp only [List.getElem?_toArray,ho'];have hops:∀ x∈o.op.operands,∀ av,ej.val x=some av->ARel K w ρ (Nm (lvl E j - 1)) av (a.eval x):=fun x hx av hxv=>by
   cases x with
   | tmp t' =>
    obtain ⟨v,v1,v2⟩:=hreads t' (by
     unfold readsOf;exact List.mem_append_left _ (Vf (Array.mem_toList_iff.2 hx))) av hxv
    simpa [Act.eval,Array.getD_eq_getD_getElem?,v1] using v2
   | const v =>
    simp only [Env.val] at hxv;split at hxv
    ·rename_i h1;simp only [Option.some.injEq] at hxv;subst hxv;exact .pv _ _ (.base v h1)
    ·cases hxv
   | func f =>
    simp only [Env.val,Option.some.injEq] at hxv;subst hxv;exact .pv _ _ (.fn (.func f) [] [] [] [] rfl rfl zwy63 zwy63)
   | global gg =>
    simp only [Env.val,Option.some.injEq] at hxv;subst hxv;exact .pv _ _ (.base _ rfl)
  by_cases hjj:j∈E
  ·obtain ⟨p,hp⟩:=List.getElem?_of_mem hjj;obtain ⟨oc,rc,ec,hjc,hdc,hrc,hec,hgc,hES⟩:=hE p j hp;rw [hjc] at ho;cases ho;rw [hrc] at hrj;cases hrj;rw [hec] at hej;cases hej;have hlow:=zdO hch hm.closed hjc hready hp;have hhigh:=zpA hch hm.closed hun hp;have hplt:=(List.getElem?_eq_some_iff.1 hp).1;have hph:phase E listed=p:=zeZ zwy62 hlow hhigh;have hjlt2:j < listed.size:=by rw [hm.lsize];exact hjlt
   have hph2:phase E (listed.setIfInBounds j true)=p + 1:=zeZ zwy62 (fun q i hq hi=>by
     by_cases e:i=j
     ·subst e;exact Zh hjlt2
     ·rw [yO e];rcases Nat.lt_or_ge q p with h|h
      ·exact hlow q i h hi
      ·have:q=p:=by omega
       subst this;rw [hp] at hi;cases hi;exact absurd rfl e) (fun q i hq hi=>by
     have hne:i≠j:=by have:=zcH hch (show p < q by omega) hp hi;omega
     rw [yO hne];exact hhigh q i zwy62 hi)
   rw [hwanted true hgc,if_pos rfl];refine .inl ?_;unfold Oper.wp;rw [hph] at hf;rw [zdD (Xo hch) hp] at hops;rcases hES.go K ρ a w hf hops with ⟨f,vs,hrun,hcall⟩|⟨hpn,v,w'',K',ρ',hrun,hf',hlat,hps,hv⟩
   rotate_left 1
   ·have hgo:∀ {X:Act->World->Prop} {Y},X (a.put o.dst v) w''->Oper.upon P o a X Y ((execOp a.eval o).run P w):=fun h=>by rcases hrun with hr|⟨hr,rfl⟩ <;> (rw [hr];exact h)
    refine hgo ?_;refine ih _ _ _ hcount (hm.next hch hN0 hB hjc hrc hdc hun hready (fun h=>?_) ?_ (fun q hq av u hu=>hu.keeps hlat fun i hi=>⟨hi,hps i (YH (hmono q p (by rw [hph] at hq;exact hq) zwy62) i hi)⟩) hl he (by rw [zdD (Xo hch) hp];exact hv))
    ·rw [hph2] at h;rw [if_pos h] at hpn;exact hpn
    ·rw [hph2];exact hf'
   rw [hrun];simp only [Oper.upon];refine hcall.mono fun ex w'' hex=>?_
   cases hpan:(if p + 1=E.length then pan else none) with
   | none =>
    rw [hpan] at hex;obtain ⟨v,K',ρ',rfl,hf',hlat,hps,hv⟩:=hex;refine ih _ _ _ hcount (hm.next hch hN0 hB hjc hrc hdc hun hready (fun h=>?_) ?_ (fun q hq av u hu=>hu.keeps hlat fun i hi=>⟨hi,hps i (YH (hmono q p (by rw [hph] at hq;exact hq) zwy62) i hi)⟩) hl he (by rw [zdD (Xo hch) hp];exact hv))
    ·rw [hph2] at h;rw [if_pos h] at hpan;exact hpan
    ·rw [hph2];exact hf'
   | some v =>
    rw [hpan] at hex;obtain ⟨rfl,K',ρ',hf'⟩:=hex;have:pan=some v:=by
     split at hpan
     ·exact hpan
     ·cases hpan
    exact hp' v this _ _ ⟨hm.size,hm.defers,K',ρ',hf',fun t av ht=>by simp [Env.get_nil] at ht⟩
  obtain ⟨t,hd,ht,hor⟩:=s.ok j o rj ej hjj ho hrj hej;have hdt:∀ t,o.dst=some t->t < n:=fun t' h=>by rw [hd] at h;cases h;exact ht
  have hff:FS g K ρ H w:=hw _ hphle _ _ _ hf;have hsame:phase E (listed.setIfInBounds j true)=phase E listed:=by
   unfold phase;congr 1;refine List.filter_congr fun x hx=>?_
   rw [yO (fun e=>hjj (by rw [<-e];exact hx))]
  rcases hor with ⟨hgt,hqs⟩|⟨hgf,rfl⟩
  ·rw [hwanted true hgt,if_pos rfl];refine .inl ?_;unfold Oper.wp;rw [zbq hjj,hN0] at hops;have hqr:zhu P K ρ H w rj ((execOp a.eval o).run P w):=by
    rcases hqs with hqs|⟨p,hea,hqs⟩
    ·exact hqs.go K ρ a w hff hops
    ·have hpl:p < ET.length:=Classical.byContradiction fun h=>by
      rw [List.getD_eq_getElem?_getD,List.getElem?_eq_none zwy62] at hea;unfold early at hea;split at hea <;> simp at hea
     obtain ⟨k1,k2⟩:=hkp p hpl;have hmem:(ET.getD p [],p)∈ET.zipIdx:=by
      rw [List.getD_eq_getElem?_getD,List.getElem?_eq_getElem hpl];have:=List.mem_zipIdx_iff_getElem?.2 (show ET[(ET[p],p).2]?=some (ET[p],p).1 from List.getElem?_eq_getElem hpl);exact this
     have hok:=List.all_eq_true.1 (List.all_eq_true.1 hET _ hmem) (o,j) (Xe ho);simp only [hea,Bool.not_true,Bool.false_or,Bool.and_eq_true] at hok;have hclo:=hm.closed;have hlf':∀ i,listed.getD i false=true->listed.getD i true=true:=fun i hi=>by
      rw [Array.getD_eq_getD_getElem?] at hi ⊢;cases h:listed[i]? with
      | none=>rfl
      | some b=>rw [h] at hi;exact hi
     have hlow:∀ q i,q < p->E[q]?=some i->listed.getD i true=true:=fun q i hq hi=>by
      cases p with
      | zero=>omega
      | succ p' =>
       simp only at hok;cases hE':E[p']? with
       | none=>rw [hE'] at hok;simp at hok
       | some e =>
        rw [hE'] at hok;have he:=hlf' e (zkp hclo hlf' ho hready hok.1);by_cases hqp:q=p'
        ·subst hqp;rw [hE'] at hi;cases hi;exact he
        ·obtain ⟨o',ho'⟩:∃ o',l[e]?=some o':=⟨_,List.getElem?_eq_getElem (zbe hch hE')⟩
         exact zdO hch hclo ho' (fun x hx=>hclo e o' ho' he x hx) hE' q i zwy62 hi
     have hhigh:∀ q i,p<=q->E[q]?=some i->listed.getD i true=false:=fun q i hq hi=>by
      cases hb:listed.getD i true with
      | false=>rfl
      | true =>
       obtain ⟨o',ho'⟩:∃ o',l[i]?=some o':=⟨_,List.getElem?_eq_getElem (zbe hch hi)⟩
       cases hE':E[p]? with
       | none=>have:=(List.getElem?_eq_some_iff.1 hi).1;rw [List.getElem?_eq_none_iff] at hE';omega
       | some e =>
        have he:listed.getD e true=true:=by
         by_cases hqp:q=p
         ·subst hqp;rw [hE'] at hi;cases hi;exact hb
         ·exact zdO hch hclo ho' (fun x hx=>hclo i o' ho' hb x hx) hi p e zwy62 hE'
        have h2:=hok.2;simp only [hE'] at h2;obtain ⟨o2,ho2⟩:∃ o',l[e]?=some o':=⟨_,List.getElem?_eq_getElem (zbe hch hE')⟩
        have:=zkp hclo hlf' ho2 (fun m hm=>hclo e o2 ho2 he m hm) h2;rw [hlf j hjlt,hun] at this;cases this
     have hpe:p<=E.length:=by
      have h2:=hok.2;cases hE':E[p]? with
      | none=>simp only [hE',decide_eq_true_eq] at h2;omega
      | some e=>have:=(List.getElem?_eq_some_iff.1 hE').1;omega
     have hph:phase E listed=p:=zeZ hpe hlow hhigh;rw [hHp] at hqs;rw [hph] at hf;have hr:=hqs.go K ρ a w hf (fun x hx av hxv=>(hops x hx av hxv).keeps (.refl K w) fun i hi=>⟨YH k2 i hi,rfl⟩);generalize (execOp a.eval o).run P w=res at hr ⊢;have up:∀ {K':KK} {w':World} {v:Value},ARel K' w' ρ (Hs p) rj v->ARel K' w' ρ H rj v:=fun h=>h.keeps (.refl _ _) fun i hi=>⟨YH k1 i hi,rfl⟩
     cases res with
     | halt x w'=>exact hr
     | ok nx w' =>
      cases nx <;> simp only [zhu] at hr ⊢
      case value v=>exact hr.imp fun K' h=>⟨h.1,up h.2⟩
      case enter f vs=>exact ⟨hr.1,hr.2.mono fun e w'' ⟨v,K',h1,h2,h3⟩=>⟨v,K',h1,h2,up h3⟩⟩
   generalize (execOp a.eval o).run P w=res at hqr;cases res with
   | halt x w'=>simp only [zhu] at hqr
   | ok nx w' =>
    cases nx <;> simp only [zhu] at hqr <;> simp only [Oper.upon]
    case value v =>
     obtain ⟨K',hev,hv⟩:=hqr;exact ih _ _ _ hcount (hm.next hch hN0 hB ho hrj hdt hun hready (fun h=>hm.nopan (by rw [<-hsame];exact h)) (by rw [hsame];exact hf.evo hev) (fun _ _ av u hu=>hu.later (hev.later hff.lt)) hl he (by rw [zbq hjj,hN0];exact hv))
    case enter f args =>
     obtain ⟨rfl,hc'⟩:=hqr;refine hc'.mono fun e w'' ⟨v,K',he',hev,hv⟩=>?_
     subst he';exact ih _ _ _ hcount (hm.next hch hN0 hB ho hrj hdt hun hready (fun h=>hm.nopan (by rw [<-hsame];exact h)) (by rw [hsame];exact hf.evo hev) (fun _ _ av u hu=>hu.later (hev.later hff.lt)) hl he (by rw [zbq hjj,hN0];exact hv))
  ·rw [hwanted false hgf,if_neg zwy63];exact ih _ _ _ hcount (hm.next hch hN0 hB ho hrj hdt hun hready (fun h=>hm.nopan (by rw [<-hsame];exact h)) (by rw [hsame];exact hf) (fun _ _ av u hu=>hu) hl he (by rw [zbq hjj,hN0];exact zbZ))
structure DR (P:Program) (n:Nat) (g:Base) (ops:List Oper) (env:Env) (H:HEnv) (QQ:QC):Prop where
 go:∀ a w,Inv n g env H a w->wpAny P .any ops.toArray (fun e a w=>∃ env' H',Inv n g env' H' a w/\(e=.normal\/∃ ch,e=.panic ch)/\QQ e env' H') ops.toArray.size (Array.replicate ops.toArray.size false) a { w with drawn:=w.drawn + 1 }
theorem zug {QQ:QC} {id:Nat} (hm:P.follows .mixedOrders=true) (h:DR P n g ops env H QQ) (hnd:Zr ops=true:=by kernel_rfl):AW P n g (.region id ops.toArray true) env H QQ:=⟨fun a w hi _ _=>zgQ hnd hm (h.go a w hi)⟩
theorem zdY {QQ:QC} (L k:Nat) (E:List Nat) (ET:List (List Nat)) (Hs Nm:Nat->HEnv) (Ht:HEnv) (pan:Option Value) (_:ops.length=L) (hok:XY ops k=true) (hB:Qo (zS k ops 0) ((zS k ops 0).take k)=true) (hT:Wp (zS k ops 0) k=true) (hk:Nat.ble k (zS k ops 0).length=true)
  (hch:ZU ((zS k ops 0).take k) E=true) (hET:zhC ((zS k ops 0).take k) E ET=true) (hkp:∀ p,p < ET.length->qM (Hs p) Ht=true/\qM Ht (Hs p)=true) (hne:E.isEmpty=false)
  (hw:∀ p,p<=E.length->∀ K ρ w,FS g K ρ (Hs p) w->FS g K ρ Ht w) (hN0:Nm 0=Ht) (hmono:∀ q p,q<=p->p<=E.length->qM (Nm q) (Nm p)=true) (hkeys:∀ q,q<=E.length->qM (Nm q) (Hs E.length)=true) (hH:QM H (Hs 0) env) (hke:Xm Ht env=true)
  (hp:∀ v,pan=some v->QQ (.panic [{ v:=v,recovered:=false }]) [] [])
  (h:VU P n g Ht Hs ET (zS k ops 0) (fun env'=>pan=none->AOX P n g (zS k ops 0).toArray ((zS k ops 0).drop k) env' (Hs E.length) QQ) (fun p oc ec rc=>EStepN P g (Hs p) (Hs (p + 1)) (Nm p) (Nm (p + 1)) oc ec rc (if p + 1=E.length then pan else none)/\(ZX Ht rc=true\/((zS k ops 0).take k).zipIdx.all (fun x=>E.contains x.2||match oc.dst with|some tc=>!(readsOf (zS k ops 0) x.1).contains tc|none=>true)=true)) E ((zS k ops 0).take k) env):DR P n g ops env H QQ:=by
 obtain ⟨s,hE0⟩:=h;refine ⟨fun a w hi=>?_⟩;have hlen:=VI k ops 0;refine zcK hok _ _ _ _ zwy63 ?_ ?_
 ·intro j o ho hl;have hlt:=(List.getElem?_eq_some_iff.1 ho).1;simp [Array.getD_eq_getD_getElem?,hlt] at hl
 obtain ⟨h1,h2,K,ρ,hf,he⟩:=hi.hsub hH;have hev:Evo K K w { w with drawn:=w.drawn + 1 }:=(Evo.refl hf.lt).drew;have hkl:=Nat.le_of_ble_eq_true hk;have hlk:((zS k ops 0).take k).length=k:=by simp;omega
 have hsz:ops.toArray.size=(zS k ops 0).length:=by simp [hlen]
 rw [hsz];generalize zS k ops 0=ops' at *;have hE:∀ p j,E[p]?=some j->zmr n ops' (fun p oc ec rc=>EStepN P g (Hs p) (Hs (p + 1)) (Nm p) (Nm (p + 1)) oc ec rc (if p + 1=E.length then pan else none)) (ops'.take k) s.r s.e p j:=fun p j hp=>by
  obtain ⟨oc,rc,ec,x1,x2,x4,x5,x6,x7,_⟩:=hE0 p j hp;exact ⟨oc,rc,ec,x1,x2,x4,x5,x6,x7⟩
 have hrd2:∀ (p i:Nat) (oc:Oper) (tc:Nat) (rc:AV),E[p]?=some i->(ops'.take k)[i]?=some oc->oc.dst=some tc->s.r[i]?=some rc->ZX Ht rc=true\/∀ (x:Nat) (o:Oper),(ops'.take k)[x]?=some o->x∈E\/tc∉readsOf ops' o:=by
  intro p i oc tc rc hp h1 h2 h3;obtain ⟨oc',rc',ec,x1,x2,x4,x5,x6,_,x8⟩:=hE0 p i hp;rw [h1] at x1;cases x1;rw [h3] at x4;cases x4;refine x8.imp (fun h=>h) fun hall x o ho=>?_
  have:=List.all_eq_true.1 hall (o,x) (Xe ho);rw [h2] at this;simpa using this
 have hEl:0 < E.length:=by cases E with|nil=>simp at hne|cons=>simp
 have hph0:phase E (Array.replicate ops'.length false)=0:=zeZ zwy62 (fun q i hq _=>by omega) (fun q i _ hi=>by
  have:=zbe hch hi;rw [hlk] at this;simp [Array.getD_eq_getD_getElem?,show i < ops'.length by omega])
 refine zo3 (l:=ops'.take k) rfl hET hkp (by rw [hlk]) s hch hE hN0 hrd2 hmono hw hkeys hB (by rw [hlk];exact hT) (fun hpn env' a' w' hQ hi'=>?_) (fun v hv a' w' hi'=>⟨[],[],hi',.inr ⟨_,rfl⟩,hp v hv⟩) _ _ _ _ zwy63
  ⟨h1,h2,by simp,by rw [hlk];exact hkl,?_,?_,fun h=>by rw [hph0] at h;omega,K,ρ,by rw [hph0];exact hf.evo hev,?_,?_⟩
 ·rw [hlk];exact (hQ hpn).go a' w' hi'
 ·intro j _ hj;simp [Array.getD_eq_getD_getElem?,hj]
 ·intro i o ho hli;have hlt:=(List.getElem?_eq_some_iff.1 ho).1;have:i < ops'.length:=by simp at hlt;omega
  simp [Array.getD_eq_getD_getElem?,this] at hli
 ·intro i o ri t ho hli;have hlt:=(List.getElem?_eq_some_iff.1 ho).1;have:i < ops'.length:=by simp at hlt;omega
  simp [Array.getD_eq_getD_getElem?,this] at hli
 ·intro t av hav _;obtain ⟨v,v1,v2⟩:=he t av hav;exact ⟨v,v1,(v2.later (hev.later hf.lt)).refs (zch hke t av hav)⟩
theorem XG {QQ:QC} {id:Nat} (L k:Nat) (E:List Nat) (ET:List (List Nat)) (Hs Nm:Nat->HEnv) (Ht:HEnv) (pan:Option Value) (hL:ops.length=L) (hok:XY ops k=true) (hm:P.follows .mixedOrders=true) (hB:Qo (zS k ops 0) ((zS k ops 0).take k)=true) (hT:Wp (zS k ops 0) k=true) (hk:Nat.ble k (zS k ops 0).length=true)
  (hch:ZU ((zS k ops 0).take k) E=true) (hET:zhC ((zS k ops 0).take k) E ET=true) (hkp:∀ p,p < ET.length->qM (Hs p) Ht=true/\qM Ht (Hs p)=true) (hne:E.isEmpty=false)
  (hw:∀ p,p<=E.length->∀ K ρ w,FS g K ρ (Hs p) w->FS g K ρ Ht w) (hN0:Nm 0=Ht) (hmono:∀ q p,q<=p->p<=E.length->qM (Nm q) (Nm p)=true) (hkeys:∀ q,q<=E.length->qM (Nm q) (Hs E.length)=true) (hH:QM H (Hs 0) env) (hke:Xm Ht env=true)
  (hp:∀ v,pan=some v->QQ (.panic [{ v:=v,recovered:=false }]) [] [])
  (h:VU P n g Ht Hs ET (zS k ops 0) (fun env'=>pan=none->AOX P n g (zS k ops 0).toArray ((zS k ops 0).drop k) env' (Hs E.length) QQ) (fun p oc ec rc=>EStepN P g (Hs p) (Hs (p + 1)) (Nm p) (Nm (p + 1)) oc ec rc (if p + 1=E.length then pan else none)/\(ZX Ht rc=true\/((zS k ops 0).take k).zipIdx.all (fun x=>E.contains x.2||match oc.dst with|some tc=>!(readsOf (zS k ops 0) x.1).contains tc|none=>true)=true)) E ((zS k ops 0).take k) env)
  (hnd:Zr ops=true:=by kernel_rfl):AW P n g (.region id ops.toArray true) env H QQ :=
 zug hm (zdY L k E ET Hs Nm Ht pan hL hok hB hT hk hch hET hkp hne hw hN0 hmono hkeys hH hke hp h) hnd
theorem zfk {QQ:QC} {id:Nat} (L k:Nat) (E:List Nat) (Hs Nm:Nat->HEnv) (Ht:HEnv) (pan:Option Value) (hL:ops.length=L) (hok:XY ops k=true) (hm:P.follows .mixedOrders=true) (hB:Qo (zS k ops 0) ((zS k ops 0).take k)=true) (hT:Wp (zS k ops 0) k=true) (hk:Nat.ble k (zS k ops 0).length=true)
  (hch:ZU ((zS k ops 0).take k) E=true) (hne:E.isEmpty=false)
  (hw:∀ p,p<=E.length->∀ K ρ w,FS g K ρ (Hs p) w->FS g K ρ Ht w) (hN0:Nm 0=Ht) (hmono:∀ q p,q<=p->p<=E.length->qM (Nm q) (Nm p)=true) (hkeys:∀ q,q<=E.length->qM (Nm q) (Hs E.length)=true) (hH:QM H (Hs 0) env) (hke:Xm Ht env=true)
  (hp:∀ v,pan=some v->QQ (.panic [{ v:=v,recovered:=false }]) [] [])
  (h:VU P n g Ht Hs [] (zS k ops 0) (fun env'=>pan=none->AOX P n g (zS k ops 0).toArray ((zS k ops 0).drop k) env' (Hs E.length) QQ) (fun p oc ec rc=>EStepN P g (Hs p) (Hs (p + 1)) (Nm p) (Nm (p + 1)) oc ec rc (if p + 1=E.length then pan else none)/\(ZX Ht rc=true\/((zS k ops 0).take k).zipIdx.all (fun x=>E.contains x.2||match oc.dst with|some tc=>!(readsOf (zS k ops 0) x.1).contains tc|none=>true)=true)) E ((zS k ops 0).take k) env)
  (hnd:Zr ops=true:=by kernel_rfl):AW P n g (.region id ops.toArray true) env H QQ :=
 XG L k E [] Hs Nm Ht pan hL hok hm hB hT hk hch rfl (fun p hp=>by simp at hp) hne hw hN0 hmono hkeys hH hke hp h hnd
theorem Zu:∀ (A B:HEnv),qM A (B++A)=true
 | [],_=>rfl
 | (i,x)::A,B=>by
  rw [qM,List.all_cons,Bool.and_eq_true];refine ⟨?_,by have:=Zu A (B++[(i,x)]);rwa [List.append_assoc] at this⟩;induction B with
  | nil=>rw [List.nil_append,HEnv.get_cons,if_pos rfl];rfl
  | cons y B ih =>
   obtain ⟨j,z⟩:=y;rw [List.cons_append,HEnv.get_cons];split
   ·rfl
   ·exact ih
theorem znG {QQ:QC} {id:Nat} (L k jc:Nat) (H0 H1 Ht:HEnv) {oc:Oper} {tc:Nat} (rc:AV) (pan:Option Value) (hL:ops.length=L) (hok:XY ops k=true) (hm:P.follows .mixedOrders=true) (hB:Qo (zS k ops 0) ((zS k ops 0).take k)=true) (hT:Wp (zS k ops 0) k=true) (hk:Nat.ble k (zS k ops 0).length=true)
  (hsp:(zS k ops 0).take k=(zS k ops 0).take jc++oc::((zS k ops 0).take k).drop (jc + 1)) (hjl:Nat.ble jc (zS k ops 0).length=true) (hd:oc.dst=some tc) (htc:Nat.blt tc n=true)
  (w0:∀ K ρ w,FS g K ρ H0 w->FS g K ρ Ht w) (w1:∀ K ρ w,FS g K ρ H1 w->FS g K ρ Ht w) (hkeys:qM Ht H1=true) (hH:QM H H0 env) (hke:Xm Ht env=true) (hr:ZX Ht rc=true)
  (hp:∀ v,pan=some v->QQ (.panic [{ v:=v,recovered:=false }]) [] [])
  (h:AD P n g Ht (zS k ops 0) (fun env1=>(guardE (zS k ops 0) env1 oc=some true/\EStep P g H0 H1 Ht oc env1 rc pan)/\AD P n g Ht (zS k ops 0) (fun env'=>pan=none->AOX P n g (zS k ops 0).toArray ((zS k ops 0).drop k) env' H1 QQ) (((zS k ops 0).take k).drop (jc + 1)) ((tc,rc)::env1)) ((zS k ops 0).take jc) env)
  (hnd:Zr ops=true:=by kernel_rfl):AW P n g (.region id ops.toArray true) env H QQ:=by
 have hjk:jc < k:=by
  have h1:=congrArg List.length hsp;have h2:=Nat.le_of_ble_eq_true hjl;have h3:=Nat.le_of_ble_eq_true hk;simp only [List.length_append,List.length_take,List.length_cons,List.length_drop] at h1;omega
 have htt:((zS k ops 0).take k).take jc=(zS k ops 0).take jc:=by rw [List.take_take,Nat.min_eq_left zwy62]
 have hll:((zS k ops 0).take k).length=k:=by have:=Nat.le_of_ble_eq_true hk;simp;omega
 have hgj:((zS k ops 0).take k)[jc]?=some oc:=by
  rw [hsp,List.getElem?_append_right zwy64];have:=Nat.le_of_ble_eq_true hjl;simp [Nat.min_eq_left this]
 refine zfk L k [jc] (fun p=>match p with|0=>H0|_ + 1=>H1) (fun _=>Ht) Ht pan hL hok hm hB hT hk (by rw [ZU,hgj];rfl) rfl
  (fun p _=>by cases p <;> assumption) rfl (fun _ _ _ _=>Zu Ht []) (fun _ _=>hkeys) hH hke hp ?_ hnd
 refine YL jc [] rc (by rw [htt];exact hsp) (Nat.ble_eq_true_of_le zwy62) rfl hd htc ?_;rw [htt];exact zaE (fun _ ⟨⟨x1,x2⟩,x3⟩=>⟨⟨x1,⟨fun K ρ a w hf hv=>.inl (x2.go K ρ a w hf hv)⟩,.inl hr⟩,Xf x3⟩) h
theorem zfh {r:AV} {f:FuncId} {o:Oper} {xs:Array Operand} {ts:Array TypeId} {ars:List AV} {N N1:HEnv} {e:Env} (Hc Hc' R:HEnv) {lone:Bool} (ps:List Nat) (hw1:lone=true->g.w1.heap.size=0)
  (hop:o.op=.call { callee:=.value (.func f),args:=xs,argTypes:=ts }) (hargs:avs e xs.toList=some ars) (hsub:HSub H (Hc++R)) (hk:qM N H=true) (hk2:qM N (R++VQ ps)=true)
  (hr:ZX N1 r=true) (hchk:XU Hc Hc' R ps ars [] r=true) (hc:∀ us,ACallM P f ars (Hc++qB us ps) r (Hc'++qB us ps) lone):EStepN P g H (Hc'++R) N N1 o e r none:=by
 refine ⟨fun K ρ a w hf hv=>?_⟩;have hrun:(execOp a.eval o).run P w=.ok (.enter f (xs.toList.map a.eval).toArray) w:=by
  have e:(xs.toList.map a.eval).toArray=xs.map a.eval:=by rw [<-Array.toList_map,Array.toArray_toList]
  rw [e];simp [execOp,hop,resolve,Act.eval,Deferred.ofValue,invoke,ZK (hc ρ).stands]
 refine .inl ⟨f,_,hrun,?_⟩;have hpa:Qd K w ρ N ars (xs.toList.map a.eval):=ze0 (fun x hx=>hv x zwy75) hargs;have hall:Qd K w ρ H ars (xs.toList.map a.eval):=⟨hpa.1,fun k c v hc hv=>(hpa.2 k c v hc hv).keeps (.refl K w) fun j hj=>⟨YH hk j hj,rfl⟩⟩
 refine (zf5 Hc Hc' R ps hw1 hsub hchk hc hf hall).mono fun ex w' ⟨v,K',ρ2,e1,hf',hv,hlat,hps⟩=>?_
 exact ⟨v,K',ρ2,e1,hf',hlat,fun j hj=>(hps j (YH hk2 j hj)).2,hv.refs hr⟩
theorem zm4 {N N1:HEnv} {f:FuncId} {args:List PV} {r:PV} {o:Oper} {e:Env} {xs:Array Operand} {ts:Array TypeId} (hop:o.op=.call { callee:=.value (.func f),args:=xs,argTypes:=ts }) (hargs:pvs e N xs.toList=some args) (hw:∀ K ρ w,FS g K ρ H w->FS g K ρ N w)
  (hc:ACall P f args r):EStepN P g H H N N1 o e (.pv r) none:=by
 refine ⟨fun K ρ a w hf hv=>?_⟩;have hp:=zdU (hw K ρ w hf) (a:=a) (xs:=xs.toList) (fun x hx=>hv x zwy75) hargs;have hrun:(execOp a.eval o).run P w=.ok (.enter f (xs.toList.map a.eval).toArray) w:=by
  have e:(xs.toList.map a.eval).toArray=xs.map a.eval:=by rw [<-Array.toList_map,Array.toArray_toList]
  rw [e];simp [execOp,hop,resolve,Act.eval,Deferred.ofValue,invoke,ZK hc.stands]
 refine .inl ⟨f,_,hrun,(hc.calls K w _ hf.lt hp).mono fun ex w' ⟨v,K',h1,h2,h3⟩=>?_⟩;exact ⟨v,K',ρ,h1,hf.evo h2,h2.later hf.lt,fun _ _=>rfl,.pv _ _ h3⟩
theorem zqr {i:Nat} {t sz:Nat} (hi:H.get i=some (.row t sz [])) (h:Inv n g env H a w):Inv n g env ((i,.mrow t sz [])::H) a w:=by
 obtain ⟨g1,g2,K,ρ,hf,he⟩:=h;have hk:∀ j,(H.get j).isSome=true->(HEnv.get ((i,HE.mrow t sz [])::H) j).isSome=true/\ρ j=ρ j:=fun j hj=>⟨by
  rw [HEnv.get_cons];split <;> first|rfl|exact hj,rfl⟩
 have hold:∀ j x,HEnv.get ((i,HE.mrow t sz [])::H) j=some x->x.live=true->∃ y,H.get j=some y/\y.live=true:=fun j x hj hl=>by
  rw [HEnv.get_cons] at hj;split at hj
  ·rename_i e;subst e;exact ⟨_,hi,rfl⟩
  ·exact ⟨x,hj,hl⟩
 refine ⟨g1,g2,K,ρ,⟨hf.below,hf.old,hf.new,hf.lt,hf.others,hf.pt,fun j x b hj hl hb=>?_,fun j x hj=>?_,fun j j' x x' b hjj hj hj' hl hl' hb hb'=>?_⟩,he.keeps (.refl K w) hk⟩
 ·obtain ⟨y,y1,y2⟩:=hold j x hj hl;exact hf.away j y b y1 y2 hb
 ·rw [HEnv.get_cons] at hj;split at hj
  ·rename_i e;subst e;simp only [Option.some.injEq] at hj;subst hj;obtain ⟨xs,q1,q2,q3,q4⟩:=hf.heap.ok i _ hi;exact ⟨xs,q1,q2,q3,fun b hb o hk=>by have:=(q4 b hb o).1 hk;simp at this⟩
  ·exact (hf.heap.ok j x hj).keeps (.refl hf.lt) hf.lt hk
 ·obtain ⟨y,y1,y2⟩:=hold j x hj hl;obtain ⟨y',y3,y4⟩:=hold j' x' hj' hl';exact hf.heap.apart j j' y y' b hjj y1 y3 y2 y4 hb hb'
theorem znU {Q:Env->HEnv->Prop} {l:List Oper} (i:Nat) {t sz:Nat} (hi:H.get i=some (.row t sz [])) (k:AO P n g ops.toArray l env ((i,.mrow t sz [])::H) Q):AO P n g ops.toArray l env H Q:=⟨fun a w hinv=>k.go a w (zqr hi hinv)⟩
theorem zhg {QQ:QC} {t:Nat} (i:Nat) (e:TypeId) (sz:Nat) (hsz:0 < sz) (ht:env.get t=some (.pv (.base (.slice none 0 0)))) (hi:H.get i=none) (h:QQ .ret ((t,.own i)::env) ((i,.mrow e sz [])::H)):AW P n g .ret env H QQ:=zdc i e sz hsz ht hi (ziv h)
end
section
variable {P:Program} {tb:Tab} {g:Base} {K:KK} {w:World} {ρ:Nat->Value} {H:HEnv} {env:Env} {a:Act} {o:Oper}
theorem Yu (htb:qm P tb) {ty:Nat} {x y:Operand} {i k j sz off e:Nat} {N N1:HEnv} {es:List PV} {p q p':PV} (hop:o.op=.store ty x y) (hx:env.val x=some (.ad i off)) (hi:H.get i=some (.mrow e sz es)) (hoff:off=k * sz + j)
  (hp:es[k]?=some p) (hy:env.val y=some (.pv q)) (hnt:q.notTup=true) (hs:zjd p j (tb.size ty) q=some p') (hk:tb.known ty=true):EStepN P g H ((i,.mrow e sz (es.set k p'))::H) N N1 o env (.pv (.tup [])) none:=by
 refine ⟨fun K ρ a w hf hv=>.inr ⟨rfl,?_⟩⟩;obtain ⟨w',hrun,hf',hlat⟩:=zh7 (a:=a) htb hop hi hoff hp hnt hs hk hf (hv x zwy68 _ hx) (by
  have:=hv y zwy68 _ hy;cases this with|pv _ _ h=>exact h)
 exact ⟨undef,w',K,ρ,.inr ⟨hrun,rfl⟩,hf',hlat,fun _ _=>rfl,zbZ⟩
end
def zbR (q:List Nat) (x:Nat) (b:Bool) (o:Oper):Oper:={ o with after:=(o.after.toList.map (fun e=>(⟨q.getD e.on e.on,e.ground⟩:Edge))++(if b then [(⟨q.getD x x,.phase⟩:Edge)] else [])).toArray }
def Wi (p q:List Nat) (x y:Nat) (ops:List Oper):List Oper:=p.filterMap fun k=>(ops[k]?).map fun o=>zbR q x (Nat.beq k y) o
def zbO (p q:List Nat) (x y:Nat) (ops:List Oper):Bool :=
 Nat.beq p.length ops.length&&Nat.beq q.length ops.length&&(List.range ops.length).all (fun k=>Nat.beq (q.getD (p.getD k 0) 0) k&&Nat.beq (p.getD (q.getD k 0) 0) k&&Nat.blt (p.getD k 0) ops.length&&Nat.blt (q.getD k 0) ops.length)
 && ops.all (fun o=>o.guard.isNone&&o.after.toList.all fun e=>Nat.blt e.on ops.length)&&Nat.blt x ops.length&&Nat.blt y ops.length
def Lin (ops:Array Oper):Nat->Array Bool->List Nat->Prop
 | 0,_,L=>L=[]
 | _ + 1,listed,[]=>Region.ready .any ops listed=[]
 | f + 1,listed,j::L=>j∈Region.ready .any ops listed/\Lin ops f (listed.setIfInBounds j true) L
theorem zvY (ops:Array Oper):∀ (fuel t:Nat) (listed:Array Bool),Lin ops fuel listed (Region.linearise.go .any ops fuel t listed []):=by
 intro fuel;induction fuel with
 | zero=>intro t listed;simp [Region.linearise.go,Lin]
 | succ fuel ih =>
  intro t listed;simp only [Region.linearise.go];change Lin ops (fuel + 1) listed (match (Region.ready .any ops listed)[t % (Region.ready .any ops listed).length]? with
   | some i=>Region.linearise.go .any ops fuel (t / (Region.ready .any ops listed).length) (listed.setIfInBounds i true) [i]
   | none=>[].reverse)
  cases hi:(Region.ready .any ops listed)[t % (Region.ready .any ops listed).length]? with
  | none =>
   have hnil:Region.ready .any ops listed=[]:=by
    cases hr:Region.ready .any ops listed with
    | nil=>rfl
    | cons x xs =>
     rw [hr] at hi;have hlt:t % (x::xs).length < (x::xs).length:=Nat.mod_lt _ zwy63;simp at hi;simp at hlt;omega
   exact hnil
  | some i =>
   simp only [];rw [linearise_go_acc,List.reverse_singleton,List.singleton_append];exact ⟨List.mem_of_getElem? hi,ih _ _⟩
def Ahead (x y:Nat) (L:List Nat):Prop:=∀ A B,L=A++y::B->x∈A
theorem zod {x y:Nat} (hne:x≠y):∀ L:List Nat,Ahead x y L\/Ahead y x L
 | []=>.inl fun A B h=>by cases A <;> simp at h
 | z::L=>by
  by_cases hx:z=x
  ·refine .inl fun A B h=>?_
   cases A with
   | nil=>simp at h;exact absurd (hx.symm.trans h.1) hne
   | cons a A=>simp at h;rw [<-h.1,hx];simp
  ·by_cases hy:z=y
   ·refine .inr fun A B h=>?_
    cases A with
    | nil=>simp at h;exact absurd (h.1.symm.trans hy) hne
    | cons a A=>simp at h;rw [<-h.1,hy];simp
   ·rcases zod hne L with h|h
    ·refine .inl fun A B e=>?_
     cases A with
     | nil=>simp at e;exact absurd e.1 hy
     | cons a A=>simp at e;exact List.mem_cons_of_mem _ (h A B e.2)
    ·refine .inr fun A B e=>?_
     cases A with
     | nil=>simp at e;exact absurd e.1 hx
     | cons a A=>simp at e;exact List.mem_cons_of_mem _ (h A B e.2)
section
variable {F:Fence} {n:Nat} {P:Program} {Q:Exit->Act->World->Prop} {ops:List Oper} {p q:List Nat} {x y:Nat}
theorem ze8 {l:Array Bool} {k:Nat} (h:k < l.size):l.getD k false=l.getD k true:=by
 rw [Array.getD_eq_getD_getElem?,Array.getD_eq_getD_getElem?,Array.getElem?_eq_getElem h];rfl
theorem zbH (hok:zbO p q x y ops=true):(Wi p q x y ops).length=ops.length/\∀ k,k < ops.length->(Wi p q x y ops)[k]?=(ops[p.getD k 0]?).map (zbR q x (Nat.beq (p.getD k 0) y)):=by
 simp only [zbO,Bool.and_eq_true,List.all_eq_true,List.mem_range] at hok;obtain ⟨⟨⟨⟨⟨h1,h2⟩,h3⟩,h4⟩,h5⟩,h6⟩:=hok;have h1:=Nat.eq_of_beq_eq_true h1;have hs:∀ k∈p,k < ops.length:=fun k hk=>by
  obtain ⟨i,hi⟩:=List.getElem?_of_mem hk;have hlt:=(List.getElem?_eq_some_iff.1 hi).1;have:=(h3 i zwy62).1.2;rw [List.getD_eq_getElem?_getD,hi] at this;exact Nat.le_of_ble_eq_true this
 have key:∀ l:List Nat,(∀ k∈l,k < ops.length)->(l.filterMap fun k=>(ops[k]?).map fun o=>zbR q x (Nat.beq k y) o).length=l.length /\
   ∀ i,i < l.length->(l.filterMap fun k=>(ops[k]?).map fun o=>zbR q x (Nat.beq k y) o)[i]?=(ops[l.getD i 0]?).map (zbR q x (Nat.beq (l.getD i 0) y)):=by
  intro l;induction l with
  | nil=>intro _;exact ⟨rfl,fun i hi=>by simp at hi⟩
  | cons k l ih =>
   intro hl;obtain ⟨i1,i2⟩:=ih fun z hz=>hl z (List.mem_cons_of_mem _ hz)
   have hk:=hl k zwy63;rw [List.filterMap_cons,List.getElem?_eq_getElem hk];simp only [Option.map_some];refine ⟨by simp [i1],fun i hi=>?_⟩;cases i with
   | zero=>simp [List.getElem?_eq_getElem hk]
   | succ i=>simpa using i2 i (by simpa using hi)
 obtain ⟨k1,k2⟩:=key p hs;exact ⟨by rw [Wi,k1,h1],fun k hk=>k2 k zwy62⟩
theorem zgY {b:Bool} {o:Oper} {i:Nat}:qc (zbR q x b o) i=(o.after.toList.any (fun e=>Region.binds .any e&&q.getD e.on e.on==i)||(b&&q.getD x x==i)):=by
 unfold qc zbR;cases b <;> simp [List.any_map,Function.comp_def,Region.binds]
theorem zpz (hok:zbO p q x y ops=true) {listed l':Array Bool} (hs:listed.size=ops.length) (hs':l'.size=ops.length) (hr:∀ k,k < ops.length->l'.getD k true=listed.getD (p.getD k 0) true) :
  (∀ j,j∈Region.ready .any ops.toArray listed->(j=y->listed.getD x true=true)->q.getD j 0∈Region.ready .any (Wi p q x y ops).toArray l')/\(∀ k,k∈Region.ready .any (Wi p q x y ops).toArray l'->p.getD k 0∈Region.ready .any ops.toArray listed):=by
 have hP:=zbH hok;simp only [zbO,Bool.and_eq_true,List.all_eq_true,List.mem_range] at hok;obtain ⟨⟨⟨⟨⟨h1,h2⟩,h3⟩,h4⟩,h5⟩,h6⟩:=hok;have h1:=Nat.eq_of_beq_eq_true h1;have h2:=Nat.eq_of_beq_eq_true h2;have h5:x < ops.length:=Nat.le_of_ble_eq_true h5;have pq:∀ k,k < ops.length->p.getD (q.getD k 0) 0=k:=fun k hk=>Nat.eq_of_beq_eq_true (h3 k hk).1.1.2
 have plt:∀ k,k < ops.length->p.getD k 0 < ops.length:=fun k hk=>Nat.le_of_ble_eq_true (h3 k hk).1.2
 have qlt:∀ k,k < ops.length->q.getD k 0 < ops.length:=fun k hk=>Nat.le_of_ble_eq_true (h3 k hk).2
 have qd:∀ k,k < ops.length->q.getD k k=q.getD k 0:=fun k hk=>by
  rw [List.getD_eq_getElem?_getD,List.getD_eq_getElem?_getD,List.getElem?_eq_getElem zwy62];rfl
 have edge:∀ o∈ops,∀ e∈o.after.toList,e.on < ops.length:=fun o ho e he=>Nat.le_of_ble_eq_true ((h4 o ho).2 e he)
 constructor
 ·intro j hj hy;obtain ⟨o,ho,hun,hall⟩:=qH.1 hj;have hjl:=(List.getElem?_eq_some_iff.1 ho).1;refine qH.2 ⟨zbR q x (Nat.beq j y) o,?_,?_,fun i hi=>?_⟩
  ·rw [hP.2 _ (qlt j hjl),pq j hjl,ho];rfl
  ·rw [hr _ (qlt j hjl),pq j hjl];exact hun
  ·rw [zgY,Bool.or_eq_true] at hi;rcases hi with hi|hi
   ·obtain ⟨e,he,hb⟩:=List.any_eq_true.1 hi;rw [Bool.and_eq_true,beq_iff_eq] at hb;have hlt:=edge o (List.mem_of_getElem? ho) e he;have:=hall e.on (List.any_eq_true.2 ⟨e,he,by simp [hb.1]⟩);rw [<-hb.2,qd _ hlt,ze8 (by rw [hs'];exact qlt _ hlt),hr _ (qlt _ hlt),pq _ hlt,<-ze8 zwy62];exact this
   ·rw [Bool.and_eq_true,beq_iff_eq] at hi;rw [<-hi.2,qd _ h5,ze8 (by rw [hs'];exact qlt _ h5),hr _ (qlt _ h5),pq _ h5];exact hy (Nat.eq_of_beq_eq_true hi.1)
 ·intro k hk;obtain ⟨o',ho',hun,hall⟩:=qH.1 hk;have hkl:k < ops.length:=by rw [<-hP.1];exact (List.getElem?_eq_some_iff.1 ho').1
  rw [hP.2 k hkl] at ho';cases ho:ops[p.getD k 0]? with
  | none =>
   have h1:=plt k hkl;rw [List.getElem?_eq_none_iff] at ho;omega
  | some o =>
   simp only [ho,Option.map_some,Option.some.injEq] at ho';subst ho';refine qH.2 ⟨o,ho,by rw [<-hr k hkl];exact hun,fun i hi=>?_⟩;obtain ⟨e,he,hb⟩:=List.any_eq_true.1 hi;rw [Bool.and_eq_true,beq_iff_eq] at hb;have hlt:=edge o (List.mem_of_getElem? ho) e he;have:=hall (q.getD e.on 0) (by rw [zgY,Bool.or_eq_true];exact .inl (List.any_eq_true.2 ⟨e,he,by rw [Bool.and_eq_true,beq_iff_eq];exact ⟨hb.1,qd _ hlt⟩⟩));rw [ze8 (by rw [hs'];exact qlt _ hlt),hr _ (qlt _ hlt),pq _ hlt] at this;rw [<-hb.2,ze8 zwy62];exact this
theorem zmW (hok:zbO p q x y ops=true):∀ (fuel:Nat) (listed l':Array Bool) (L:List Nat),listed.size=ops.length->l'.size=ops.length->(∀ k,k < ops.length->l'.getD k true=listed.getD (p.getD k 0) true) ->
  Lin ops.toArray fuel listed L->(listed.getD x true=true\/Ahead x y L)->Lin (Wi p q x y ops).toArray fuel l' (L.map fun k=>q.getD k 0)/\∀ a w,wpOpsIn F n P (Wi p q x y ops).toArray Q (L.map fun k=>q.getD k 0) a w->wpOpsIn F n P ops.toArray Q L a w:=by
 have hP:=zbH hok;have hR:=fun {listed l':Array Bool}=>zpz (listed:=listed) (l':=l') hok
 simp only [zbO,Bool.and_eq_true,List.all_eq_true,List.mem_range] at hok;obtain ⟨⟨⟨⟨⟨h1,h2⟩,h3⟩,h4⟩,h5⟩,h6⟩:=hok;have h5:x < ops.length:=Nat.le_of_ble_eq_true h5;have pq:∀ k,k < ops.length->p.getD (q.getD k 0) 0=k:=fun k hk=>Nat.eq_of_beq_eq_true (h3 k hk).1.1.2
 have qp:∀ k,k < ops.length->q.getD (p.getD k 0) 0=k:=fun k hk=>Nat.eq_of_beq_eq_true (h3 k hk).1.1.1
 have qlt:∀ k,k < ops.length->q.getD k 0 < ops.length:=fun k hk=>Nat.le_of_ble_eq_true (h3 k hk).2
 intro fuel;induction fuel with
 | zero =>
  intro listed l' L _ _ _ hL _;have hL:L=[]:=hL;subst hL;exact ⟨rfl,fun a w h=>h⟩
 | succ fuel ih =>
  intro listed l' L hs hs' hr hL hA;cases L with
  | nil =>
   have hL:Region.ready .any ops.toArray listed=[]:=hL;refine ⟨?_,fun a w h=>h⟩;show Region.ready .any (Wi p q x y ops).toArray l'=[]
   rw [List.eq_nil_iff_forall_not_mem];intro k hk;have:=(hR hs hs' hr).2 k hk;rw [hL] at this;cases this
  | cons j L =>
   obtain ⟨hj,hL⟩:=hL;obtain ⟨o,ho,hun,hall⟩:=qH.1 hj;have hjl:=(List.getElem?_eq_some_iff.1 ho).1;have hj':=(hR hs hs' hr).1 j hj (fun e=>by
    rcases hA with hA|hA
    ·exact hA
    ·have:=hA [] L (by rw [e];rfl);simp at this)
   have hgn:o.guard=none:=by have:=(h4 o (List.mem_of_getElem? ho)).1;simpa using this
   obtain ⟨k1,k2⟩:=ih (listed.setIfInBounds j true) (l'.setIfInBounds (q.getD j 0) true) L (by simp [hs]) (by simp [hs']) (fun k hk=>by
    by_cases e:k=q.getD j 0
    ·subst e;rw [Zh (by rw [hs'];exact qlt j hjl),pq j hjl,Zh zwy62]
    ·rw [yO e,yO (fun e2=>e (by rw [<-e2,qp k hk])),hr k hk]) hL (by
    rcases hA with hA|hA
    ·left;by_cases e:x=j
     ·subst e;exact Zh zwy62
     ·rw [yO e];exact hA
    ·by_cases e:x=j
     ·subst e;exact .inl (Zh zwy62)
     ·right;intro A B hAB;have:=hA (j::A) B (by rw [hAB];rfl);rcases List.mem_cons.1 this with h|h
      ·exact absurd h e
      ·exact h)
   refine ⟨⟨hj',k1⟩,fun a w h=>?_⟩;rw [List.map_cons,wpOpsIn_cons] at h;rw [wpOpsIn_cons];unfold wpOpIn at h ⊢;have ho':(Wi p q x y ops).toArray[q.getD j 0]?=some (zbR q x (Nat.beq j y) o):=by
    rw [List.getElem?_toArray,hP.2 _ (qlt j hjl),pq j hjl,ho];rfl
   rw [ho'] at h;rw [List.getElem?_toArray,ho];simp only at h ⊢;have w1:Region.wanted o (yielded ops.toArray a.tmps)=true:=by simp [Region.wanted,hgn]
   have w2:Region.wanted (zbR q x (Nat.beq j y) o) (yielded (Wi p q x y ops).toArray a.tmps)=true:=by
    show Region.wanted { o with after:=_ } _=true
    simp [Region.wanted,hgn]
   rw [if_pos w1];rw [if_pos w2] at h;exact Oper.wpIn_mono k2 h
theorem zqb:∀ (fuel:Nat) (listed:Array Bool) (L:List Nat) (a:Act) (w:World),Lin ops.toArray fuel listed L->wpAnyIn F n P .any ops.toArray Q fuel listed a w->wpOpsIn F n P ops.toArray Q L a w
 | 0,_,L,a,w,hL,h=>by
  have hL:L=[]:=hL;subst hL;exact h.2
 | fuel + 1,listed,[],a,w,hL,h=>h.1 hL
 | fuel + 1,listed,j::L,a,w,hL,h=>by
  rw [wpOpsIn_cons];exact wpOpIn_mono (fun a w hh=>zqb fuel _ L a w hL.2 hh) (h.2 j hL.1)
end
section
variable {P:Program} {n:Nat} {g:Base} {K:KK} {w:World} {ρ:Nat->Value} {H:HEnv} {env:Env} {a:Act} {ops:List Oper} {tb:Tab} {o:Oper}
structure DL (P:Program) (n:Nat) (g:Base) (ops:List Oper) (env:Env) (H:HEnv) (QQ:QC):Prop where
 go:∀ a w,Inv n g env H a w->∀ (r:Option Nat) (d:Nat) (L:List Nat),Lin ops.toArray ops.length (Array.replicate ops.length false) L->wpOpsIn (zbA r) d P ops.toArray (fun e a w=>∃ env' H',Inv n g env' H' a w/\(e=.normal\/∃ ch,e=.panic ch)/\QQ e env' H') L a { w with drawn:=w.drawn + 1 }
theorem zmC {QQ:QC} (hnd:Zr ops=true) (h:DR P n g ops env H QQ):DL P n g ops env H QQ :=
 ⟨fun a w hi r d L hL=>zqb _ _ _ _ _ hL (zaK zid (by simpa using hnd) _ _ _ _ (by have:=h.go a w hi;simpa using this))⟩
theorem znb {QQ:QC} {id:Nat} (hm:P.follows .mixedOrders=true) (h:DL P n g ops env H QQ):AW P n g (.region id ops.toArray true) env H QQ:=by
 refine ⟨fun a w hi r d=>?_⟩
 suffices hh:(Code.region id ops.toArray true).wpIn (zbA r) d P (fun e a w=>∃ env' H',Inv n g env' H' a w/\(e=.normal\/∃ ch,e=.panic ch)/\QQ e env' H') a w from wpIn_mono hh (fun e a' w' ⟨env',H',h1,_,h3⟩=>⟨env',H',h1,h3⟩)
 refine wpIn_region_draw fun t=>?_
 simp only [Region.schedule,hm,Bool.true_or,if_true];have hl:=zvY ops.toArray ops.length t (Array.replicate ops.length false);have e0:ops.toArray.size=ops.length:=by simp
 show wpOpsIn _ _ P ops.toArray _ (Region.linearise.go .any ops.toArray ops.toArray.size t (Array.replicate ops.toArray.size false) []) a _
 rw [e0];exact h.go a w hi r d _ hl
theorem zfZ {QQ:QC} (x y:Nat) (p q p2 q2:List Nat) (hne:Nat.beq x y=false) (ok1:zbO p q x y ops=true) (ok2:zbO p2 q2 y x ops=true) (h1:DL P n g (Wi p q x y ops) env H QQ) (h2:DL P n g (Wi p2 q2 y x ops) env H QQ):DL P n g ops env H QQ:=by
 refine ⟨fun a w hi r d L hL=>?_⟩;have key:∀ {p q:List Nat} {x y:Nat},zbO p q x y ops=true->∀ k,k < ops.length->(Array.replicate ops.length false).getD k true=(Array.replicate ops.length false).getD (p.getD k 0) true:=by
  intro p q x y hok k hk;simp only [zbO,Bool.and_eq_true,List.all_eq_true,List.mem_range] at hok;have:p.getD k 0 < ops.length:=Nat.le_of_ble_eq_true (hok.1.1.1.2 k hk).1.2;have r:∀ i,i < ops.length->(Array.replicate ops.length false).getD i true=false:=fun i hi=>by
   rw [Array.getD_eq_getD_getElem?,Array.getElem?_replicate,if_pos hi];rfl
  rw [r k hk,r _ this]
 rcases zod (Nat.ne_of_beq_eq_false hne) L with hA|hA
 ·obtain ⟨k1,k2⟩:=zmW (F:=zbA r) (n:=d) (P:=P) (Q:=fun e a w=>∃ env' H',Inv n g env' H' a w/\(e=.normal\/∃ ch,e=.panic ch)/\QQ e env' H') ok1 _ _ _ L zwy63 zwy63 (key ok1) hL (.inr hA);exact k2 _ _ (h1.go a w hi r d _ (by rw [(zbH ok1).1];exact k1))
 ·obtain ⟨k1,k2⟩:=zmW (F:=zbA r) (n:=d) (P:=P) (Q:=fun e a w=>∃ env' H',Inv n g env' H' a w/\(e=.normal\/∃ ch,e=.panic ch)/\QQ e env' H') ok2 _ _ _ L zwy63 zwy63 (key ok2) hL (.inr hA);exact k2 _ _ (h2.go a w hi r d _ (by rw [(zbH ok2).1];exact k1))
theorem WB (htb:qm P tb) {ty e m:Nat} {x y:Operand} {sz:Nat} {z:PV} {mi:Int} {N:HEnv} (i:Nat) (hop:o.op=.makeSlice ty x y) (hk:tb.k ty=.sl e) (hx:env.pv H x=some (.base (.int .i64 mi))) (hy:env.pv H y=some (.base (.int .i64 mi))) (hmi:mi=((m:Nat):Int))
  (hz:(match tb.zero e with|some v=>zfP v|none=>none)=some z) (hzz:(match tb.get e with|some ti=>(match ti.zero with|some zv=>ti.size==sz&&zv.cells.size==sz&&Nat.blt 0 sz|none=>false)|none=>false)=true)
  (hb:(match tb.get e with|some ti=>ti.bytes|none=>0) * m<=281474976710656) (hm:m<=maxLen) (hi:H.get i=none) (hk1:qM N H=true) (hi1:HEnv.get N i=none) :
  EStepN P g H ((i,.mrow e sz (List.replicate m z))::H) N ((i,.mrow e sz (List.replicate m z))::N) o env (.own i) none:=by
 refine ⟨fun K ρ a w hf hv=>.inr ⟨rfl,?_⟩⟩;obtain ⟨v,w',hrun,hev,hf'⟩:=ztI (a:=a) htb i hop hk hx hy hmi hz hzz hb hm hi hf fun z hz av ha=>(hv z hz av ha).keeps (.refl K w) fun j hj=>⟨YH hk1 j hj,rfl⟩
 refine ⟨v,w',K,_,.inl hrun,hf',hev.later hf.lt,fun j hj=>?_,?_⟩
 ·have hne:j≠i:=by rintro rfl;rw [hi1] at hj;cases hj
  simp [hne]
 ·have:=ARel.own (K:=K) (w:=w') (ρ:=fun j=>if j=i then v else ρ j) (H:=(i,HE.mrow e sz (List.replicate m z))::N) i (by simp [HEnv.get_cons]);simpa using this
end
end Go.Cg
