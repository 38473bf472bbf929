/- A part of the walks by abstract values: no statement of its own. -/
import Derived.Test.YtemhfmmhkimhmaaGreatV12
import Derived.Defers
import Derived.Recover
set_option linter.unusedVariables false
set_option linter.unusedSimpArgs false
namespace Go.Cg
open Go.RowKit
def early (ET:List Nat) (o:Oper):Bool:=match o.dst with|some t=>ET.contains t|none=>false
def SQ (P:Program) (g:Base) (H:HEnv) (Hp:Nat->HEnv) (ET:List (List Nat)) (o:Oper) (e:Env) (r:AV):Prop:=QStep P g H o e r\/∃ p,early (ET.getD p []) o=true/\QStep P g (Hp p) o e r
def zts (l:List Oper):List (List Nat) :=
 l.zipIdx.foldl (fun acc x=>acc++[(List.range x.2).filter fun j=>qc x.1 j||(List.range x.2).any fun m=>qc x.1 m&&(acc.getD m []).contains j]) []
theorem zkp {l:List Oper} {listed:Array Bool} (hcl:∀ (i:Nat) (o:Oper),l[i]?=some o->listed.getD i true=true->∀ j,qc o j=true->listed.getD j false=true) (hlf:∀ i,listed.getD i false=true->listed.getD i true=true) {i j:Nat} {o:Oper} (hi:l[i]?=some o) (hpr:∀ m,qc o m=true->listed.getD m false=true)
  (hj:(zts l).getD i [] |>.contains j):listed.getD j false=true:=by
 have key:∀ (xs:List (Oper × Nat)) (pre:List Oper) (acc:List (List Nat)),l=pre++xs.map (·.1)->xs=(xs.map (·.1)).zipIdx pre.length->acc.length=pre.length ->
   (∀ i o j,l[i]?=some o->j∈acc.getD i []->(∀ m,qc o m=true->listed.getD m false=true)->listed.getD j false=true) ->
   ∀ i o j,l[i]?=some o->j∈(xs.foldl (fun acc x=>acc++[(List.range x.2).filter fun j=>qc x.1 j||(List.range x.2).any fun m=>qc x.1 m&&(acc.getD m []).contains j]) acc).getD i []->(∀ m,qc o m=true->listed.getD m false=true)->listed.getD j false=true:=by
  intro xs;induction xs with
  | nil=>intro pre acc _ _ _ h;exact h
  | cons x xs ih =>
   intro pre acc h1 h2 h3 h;rw [List.map_cons,List.zipIdx_cons,List.cons.injEq] at h2;have hx2:x.2=pre.length:=by rw [h2.1]
   refine ih (pre++[x.1]) _ zwy98 (by simpa using h2.2) (by simp [h3]) ?_;intro i o j hi hj hpr;rw [List.getD_eq_getElem?_getD] at hj;by_cases hlt:i < acc.length
   ·rw [List.getElem?_append_left hlt,<-List.getD_eq_getElem?_getD] at hj;exact h i o j hi hj hpr
   ·by_cases he:i=acc.length
    ·subst he;rw [List.getElem?_append_right (Nat.le_refl _)] at hj;simp only [Nat.sub_self,List.getElem?_cons_zero,Option.getD_some,List.mem_filter,Bool.or_eq_true] at hj;have ho:x.1=o:=by
      rw [h1,List.map_cons,h3,List.getElem?_append_right (Nat.le_refl _)] at hi;simpa using hi
     subst ho;rcases hj.2 with hj2|hj2
     ·exact hpr j hj2
     ·obtain ⟨m,hm1,hm2⟩:=List.any_eq_true.1 hj2;simp only [Bool.and_eq_true] at hm2;have hm:=hpr m hm2.1;have hml:m < acc.length:=by have:=List.mem_range.1 hm1;rw [hx2] at this;omega
      have hmo:m < l.length:=by rw [h1];simp;omega
      exact h m l[m] j (List.getElem?_eq_getElem hmo) (List.contains_iff_mem.1 hm2.2) (hcl m l[m] (List.getElem?_eq_getElem hmo) (hlf m hm))
    ·rw [List.getElem?_eq_none zwy64] at hj;simp at hj
 exact key l.zipIdx [] [] zwy63 zwy63 rfl zwy63 i o j hi (List.contains_iff_mem.1 hj) hpr
def zhC (l:List Oper) (E:List Nat) (ET:List (List Nat)):Bool :=
 let pr:=zts l
 ET.zipIdx.all fun y=>l.zipIdx.all fun x=>!early y.1 x.1||((match y.2 with|0=>true|q + 1=>match E[q]? with|some e=>(pr.getD x.2 []).contains e|none=>false)&&(match E[y.2]? with|some e=>(pr.getD e []).contains x.2|none=>decide (y.2=E.length)))
structure ScriptM (P:Program) (n:Nat) (g:Base) (H:HEnv) (Hp:Nat->HEnv) (ET:List (List Nat)) (ops:List Oper) (l:List Oper) (E:List Nat) (env:Env) (Q:Env->Prop) where
 r:List AV
 e:List Env
 last:Env
 lenr:r.length=l.length
 lene:e.length=l.length
 ok:∀ (j:Nat) (o:Oper) (rj:AV) (ej:Env),j∉E->l[j]?=some o->r[j]?=some rj->e[j]?=some ej->∃ t,o.dst=some t/\t < n /\
  ((guardE ops ej o=some true/\SQ P g H Hp ET o ej rj)\/(guardE ops ej o=some false/\rj=.pv (.tup [])))
 src:∀ (j:Nat) (ej:Env),(e++[last])[j]?=some ej->∀ (t:Nat) (av:AV),ej.get t=some av->(∃ i o ri,i < j/\l[i]?=some o/\o.dst=some t/\r[i]?=some ri/\Tells ri av/\(∀ i' o',i < i'->i' < j->l[i']?=some o'->o'.dst≠some t)) \/
  ((∀ i o,i < j->l[i]?=some o->o.dst≠some t)/\∃ av0,env.get t=some av0/\Tells av0 av)
 fin:Q last
section
variable {P:Program} {n:Nat} {g:Base} {K:KK} {w:World} {ρ:Nat->Value} {H:HEnv} {Hp:Nat->HEnv} {ET:List (List Nat)} {env:Env} {a:Act} {ops l:List Oper} {Q:Env->Prop}
def zmr (n:Nat) (ops:List Oper) (F:Nat->Oper->Env->AV->Prop) (l:List Oper) (r:List AV) (e:List Env) (p j:Nat):Prop :=
 ∃ oc rc ec,l[j]?=some oc/\(∀ tc,oc.dst=some tc->tc < n)/\r[j]?=some rc/\e[j]?=some ec/\guardE ops ec oc=some true/\F p oc ec rc
def VU (P:Program) (n:Nat) (g:Base) (H:HEnv) (Hp:Nat->HEnv) (ET:List (List Nat)) (ops:List Oper) (Q:Env->Prop) (F:Nat->Oper->Env->AV->Prop) (E:List Nat) (l:List Oper) (env:Env):Prop :=
 ∃ s:ScriptM P n g H Hp ET ops l E env Q,∀ p j,E[p]?=some j->zmr n ops F l s.r s.e p j
variable {F:Nat->Oper->Env->AV->Prop} {E:List Nat}
theorem zs8 (h:Q env):VU P n g H Hp ET ops Q F [] [] env:=by
 refine ⟨⟨[],[],env,rfl,rfl,by simp,?_,h⟩,by simp⟩;intro j ej hj t av hav;cases j with
 | zero=>simp at hj;subst hj;exact .inr ⟨by simp,av,hav,.refl _⟩
 | succ j=>simp at hj
theorem zef {o:Oper} {r0:AV} {e0:Env} {r:List AV} {e:List Env} {p j:Nat} (h:zmr n ops F l r e p j):zmr n ops F (o::l) (r0::r) (e0::e) p (j + 1):=by
 obtain ⟨oc,rc,ec,h1,h2,h4,h5,h6,h7⟩:=h;exact ⟨oc,rc,ec,by simpa using h1,h2,by simpa using h4,by simpa using h5,h6,h7⟩
theorem zcp {E:List Nat} {p j:Nat} (h:(E.map (· + 1))[p]?=some j):∃ j',j=j' + 1/\E[p]?=some j':=by
 rw [List.getElem?_map] at h;cases hE:E[p]? with
 | none=>simp [hE] at h
 | some j'=>simp [hE] at h;exact ⟨j',h.symm,rfl⟩
theorem zpY {o:Oper} {r:AV} {t:Nat} (hd:o.dst=some t) (ht:t < n) (hor:(guardE ops env o=some true/\SQ P g H Hp ET o env r)\/(guardE ops env o=some false/\r=.pv (.tup [])))
  (h:VU P n g H Hp ET ops Q F E l ((t,r)::env)):VU P n g H Hp ET ops Q F (E.map (· + 1)) (o::l) env:=by
 obtain ⟨s,hs⟩:=h;refine ⟨⟨r::s.r,env::s.e,s.last,by simp [s.lenr],by simp [s.lene],?_,znc hd s.src,s.fin⟩,?_⟩
 ·intro j o' rj ej hne ho hr he;cases j with
  | zero=>simp at ho hr he;subst ho hr he;exact ⟨t,hd,ht,hor⟩
  | succ j=>exact s.ok j o' rj ej (fun hm=>hne (List.mem_map.2 ⟨j,hm,rfl⟩)) zwy79 (by simpa using hr) (by simpa using he)
 ·intro p j hp;obtain ⟨j',rfl,hj'⟩:=zcp hp;exact zef (hs p j' hj')
theorem zt0 {oc:Oper} {rc:AV} {tc:Nat} (hd:oc.dst=some tc) (ht:tc < n) (hg:guardE ops env oc=some true) (hF:F 0 oc env rc)
  (h:VU P n g H Hp ET ops Q (fun p=>F (p + 1)) E l ((tc,rc)::env)):VU P n g H Hp ET ops Q F (0::E.map (· + 1)) (oc::l) env:=by
 obtain ⟨s,hs⟩:=h;refine ⟨⟨rc::s.r,env::s.e,s.last,by simp [s.lenr],by simp [s.lene],?_,znc hd s.src,s.fin⟩,?_⟩
 ·intro j o' rj ej hne ho hr he;cases j with
  | zero=>exact absurd zwy63 hne
  | succ j=>exact s.ok j o' rj ej (fun hm=>hne (List.mem_cons_of_mem _ (List.mem_map.2 ⟨j,hm,rfl⟩))) zwy79 (by simpa using hr) (by simpa using he)
 ·intro p j hp;cases p with
  | zero=>simp at hp;subst hp;exact ⟨oc,rc,env,rfl,fun t h=>by rw [hd] at h;cases h;exact ht,rfl,rfl,hg,hF⟩
  | succ p =>
   obtain ⟨j',rfl,hj'⟩:=zcp (E:=E) (p:=p) (by simpa using hp);exact zef (hs p j' hj')
theorem zqp {l:List Oper} {r:List AV} {e:List Env} {last env:Env} {o:Oper} {ro:AV} (hd:o.dst=none)
  (src:∀ (j:Nat) (ej:Env),(e++[last])[j]?=some ej->∀ (t':Nat) (av:AV),ej.get t'=some av->(∃ i o ri,i < j/\l[i]?=some o/\o.dst=some t'/\r[i]?=some ri/\Tells ri av/\(∀ i' o',i < i'->i' < j->l[i']?=some o'->o'.dst≠some t')) \/
   ((∀ i o,i < j->l[i]?=some o->o.dst≠some t')/\∃ av0,env.get t'=some av0/\Tells av0 av)) :
  ∀ (j:Nat) (ej:Env),(env::e++[last])[j]?=some ej->∀ (t':Nat) (av:AV),ej.get t'=some av->(∃ i o' ri,i < j/\(o::l)[i]?=some o'/\o'.dst=some t'/\(ro::r)[i]?=some ri/\Tells ri av/\(∀ i' o',i < i'->i' < j->(o::l)[i']?=some o'->o'.dst≠some t')) \/
   ((∀ i o',i < j->(o::l)[i]?=some o'->o'.dst≠some t')/\∃ av0,env.get t'=some av0/\Tells av0 av):=by
 intro j ej hj t' av hav;cases j with
 | zero=>simp at hj;subst hj;exact .inr ⟨by simp,av,hav,.refl _⟩
 | succ j =>
  rcases src j ej (by simpa using hj) t' av hav with ⟨i,o',ri,h1,h2,h3,h4,h5,h6⟩|⟨h1,av0,h2,h3⟩
  ·refine .inl ⟨i + 1,o',ri,by omega,by simpa using h2,h3,by simpa using h4,h5,fun i' o'' hi hi' ho=>?_⟩;cases i' with
   | zero=>omega
   | succ i'=>exact h6 i' o'' zwy62 zwy62 zwy79
  ·refine .inr ⟨fun i o' hi ho=>?_,av0,h2,h3⟩;cases i with
   | zero=>simp at ho;subst ho;rw [hd];simp
   | succ i=>exact h1 i o' zwy62 zwy79
theorem zr2 {oc:Oper} {rc:AV} (hd:oc.dst=none) (hg:guardE ops env oc=some true) (hF:F 0 oc env rc)
  (h:VU P n g H Hp ET ops Q (fun p=>F (p + 1)) E l env):VU P n g H Hp ET ops Q F (0::E.map (· + 1)) (oc::l) env:=by
 obtain ⟨s,hs⟩:=h;refine ⟨⟨rc::s.r,env::s.e,s.last,by simp [s.lenr],by simp [s.lene],?_,zqp hd s.src,s.fin⟩,?_⟩
 ·intro j o' rj ej hne ho hr he;cases j with
  | zero=>exact absurd zwy63 hne
  | succ j=>exact s.ok j o' rj ej (fun hm=>hne (List.mem_cons_of_mem _ (List.mem_map.2 ⟨j,hm,rfl⟩))) zwy79 (by simpa using hr) (by simpa using he)
 ·intro p j hp;cases p with
  | zero=>simp at hp;subst hp;exact ⟨oc,rc,env,rfl,fun t h=>(by rw [hd] at h;cases h),rfl,rfl,hg,hF⟩
  | succ p =>
   obtain ⟨j',rfl,hj'⟩:=zcp (E:=E) (p:=p) (by simpa using hp);exact zef (hs p j' hj')
theorem zmf {H1:HEnv} {l1 l2:List Oper} (hS:∀ o∈l1,∀ e r,QStep P g H1 o e r->SQ P g H Hp ET o e r) (h:AD P n g H1 ops (fun env1=>VU P n g H Hp ET ops Q F E l2 env1) l1 env):VU P n g H Hp ET ops Q F (E.map (· + l1.length)) (l1++l2) env:=by
 induction h with
 | nil env hq=>simpa using hq
 | step o rest env r t hg hq hd ht _ ih =>
  have:=zpY hd (Nat.le_of_ble_eq_true ht) (.inl ⟨hg,hS o zwy63 _ _ hq⟩) (ih fun o' ho'=>hS o' (List.mem_cons_of_mem _ ho'));rw [List.map_map] at this;simpa [Function.comp_def,Nat.add_assoc] using this
 | skip o rest env t hg hd ht _ ih =>
  have:=zpY hd (Nat.le_of_ble_eq_true ht) (.inr ⟨hg,rfl⟩) (ih fun o' ho'=>hS o' (List.mem_cons_of_mem _ ho'));rw [List.map_map] at this;simpa [Function.comp_def,Nat.add_assoc] using this
 | case l env t b hb h1 h2 ih1 ih2 =>
  have key:∀ c,b=c->VU P n g H Hp ET ops Q F (E.map (· + l.length)) (l++l2) ((t,.pv (.base (.bool c)))::env)->VU P n g H Hp ET ops Q F (E.map (· + l.length)) (l++l2) env:=by
   rintro c rfl ⟨s,hs⟩;refine ⟨⟨s.r,s.e,s.last,s.lenr,s.lene,s.ok,?_,s.fin⟩,hs⟩;intro j ej hj t' av hav;rcases s.src j ej hj t' av hav with h|⟨h1,av0,h2,h3⟩
   ·exact .inl h
   ·refine .inr ⟨h1,?_⟩;simp only [Env.get_nil,Env.get_cons] at h2;split at h2
    ·rename_i e;subst e;simp only [Option.some.injEq] at h2;subst h2;exact ⟨_,hb,h3⟩
    ·exact ⟨av0,h2,h3⟩
  cases hb':b
  ·exact key false hb' (ih2 hb' hS)
  ·exact key true hb' (ih1 hb' hS)
theorem zlQ {l1 l2:List Oper} (h:AD P n g H ops (fun env1=>VU P n g H Hp ET ops Q F E l2 env1) l1 env):VU P n g H Hp ET ops Q F (E.map (· + l1.length)) (l1++l2) env:=zmf (fun _ _ _ _ h=>.inl h) h
def phase (E:List Nat) (listed:Array Bool):Nat:=(E.filter fun j=>listed.getD j true).length
def ZU (l:List Oper):List Nat->Bool
 | []=>true
 | [j]=>(l[j]?).isSome
 | i::j::E=>Nat.blt i j&&(match l[j]? with|some o=>qc o i|none=>false)&&(l[i]?).isSome&&ZU l (j::E)
theorem zbY:∀ {E:List Nat} {p i j:Nat},ZU l E=true->E[p]?=some i->E[p + 1]?=some j->i < j/\∃ o,l[j]?=some o/\qc o i=true
 | [],p,i,j,_,h,_=>by simp at h
 | [x],p,i,j,_,_,h=>by simp at h
 | x::y::E,p,i,j,hc,h1,h2=>by
  simp only [ZU,Bool.and_eq_true] at hc;obtain ⟨⟨⟨c1,c2⟩,c3⟩,c4⟩:=hc;cases p with
  | zero =>
   simp at h1 h2;subst h1 h2;refine ⟨Nat.le_of_ble_eq_true c1,?_⟩;cases hl:l[y]? with
   | none=>simp [hl] at c2
   | some o=>exact ⟨o,rfl,by simpa [hl] using c2⟩
  | succ p=>exact zbY c4 zwy98 (by simpa using h2)
theorem zcH:∀ {E:List Nat},ZU l E=true->∀ {p q i j:Nat},p < q->E[p]?=some i->E[q]?=some j->i < j:=by
 intro E hc p q;induction q with
 | zero=>intro i j h;omega
 | succ q ih =>
  intro i j hpq h1 h2;cases hq:E[q]? with
  | none =>
   have:=(List.getElem?_eq_some_iff.1 h2).1;rw [List.getElem?_eq_none_iff] at hq;omega
  | some m =>
   have:=(zbY hc hq h2).1;rcases Nat.lt_or_ge p q with h|h
   ·have:=ih h h1 hq;omega
   ·have:p=q:=by omega
    subst this;rw [h1] at hq;cases hq;exact this
theorem zbe {E:List Nat} (hc:ZU l E=true) {p j:Nat} (h:E[p]?=some j):j < l.length:=by
 have key:∀ {E:List Nat},ZU l E=true->∀ {p j:Nat},E[p]?=some j->(l[j]?).isSome=true:=by
  intro E;induction E with
  | nil=>intro _ p j h;simp at h
  | cons x E ih =>
   intro hc p j h;cases E with
   | nil =>
    simp only [ZU] at hc;cases p with
    | zero=>simp at h;subst h;exact hc
    | succ p=>simp at h
   | cons y E =>
    simp only [ZU,Bool.and_eq_true] at hc;cases p with
    | zero=>simp at h;subst h;exact hc.1.2
    | succ p=>exact ih hc.2 zwy103
 have:=key hc h;cases hl:l[j]? with
 | none=>simp [hl] at this
 | some o=>exact (List.getElem?_eq_some_iff.1 hl).1
theorem zeZ {E:List Nat} {listed:Array Bool} {p:Nat} (hp:p<=E.length) (hlow:∀ q i,q < p->E[q]?=some i->listed.getD i true=true) (hhigh:∀ q i,p<=q->E[q]?=some i->listed.getD i true=false):phase E listed=p:=by
 have e:E=E.take p++E.drop p:=(List.take_append_drop p E).symm;unfold phase;rw [e,List.filter_append,List.length_append];have h1:(E.take p).filter (fun j=>listed.getD j true)=E.take p:=by
  rw [List.filter_eq_self];intro x hx;obtain ⟨q,hq⟩:=List.getElem?_of_mem hx;rw [List.getElem?_take] at hq;split at hq
  ·rename_i hlt;exact hlow q x hlt hq
  ·cases hq
 have h2:(E.drop p).filter (fun j=>listed.getD j true)=[]:=by
  rw [List.filter_eq_nil_iff];intro x hx;obtain ⟨q,hq⟩:=List.getElem?_of_mem hx;rw [List.getElem?_drop] at hq;simp [hhigh (p + q) x zwy62 hq]
 rw [h1,h2];simp;omega
theorem zlO {listed:Array Bool} {i:Nat} (h:listed.getD i false=true):listed.getD i true=true:=by
 rw [Array.getD_eq_getD_getElem?] at h ⊢;cases hh:listed[i]? with
 | none=>rfl
 | some b=>rw [hh] at h;exact h
theorem zdO {E:List Nat} {listed:Array Bool} (hc:ZU l E=true) (hcl:∀ (i:Nat) (o:Oper),l[i]?=some o->listed.getD i true=true->∀ j,qc o j=true->listed.getD j false=true) {j:Nat} {oc:Oper} (hjc:l[j]?=some oc) (hready:∀ i,qc oc i=true->listed.getD i false=true) :
  ∀ {p:Nat},E[p]?=some j->∀ q i,q < p->E[q]?=some i->listed.getD i true=true:=by
 intro p hp;have key:∀ d q i,q + d + 1=p->E[q]?=some i->listed.getD i true=true:=by
  intro d;induction d with
  | zero =>
   intro q i hq hi;have hp':E[q + 1]?=some j:=by rw [show q + 1=p by omega];exact hp
   obtain ⟨_,o,ho,he⟩:=zbY hc hi hp';rw [hjc] at ho;cases ho;exact zlO (hready i he)
  | succ d ih =>
   intro q i hq hi;have hlt:q + 1 < E.length:=by have:=(List.getElem?_eq_some_iff.1 hp).1;omega
   have hn:=List.getElem?_eq_getElem hlt;have h1:=ih (q + 1) _ zwy62 hn;obtain ⟨_,o,ho,he⟩:=zbY hc hi hn;exact zlO (hcl _ o ho h1 i he)
 intro q i hq hi;exact key (p - q - 1) q i zwy62 hi
theorem zpA {E:List Nat} {listed:Array Bool} (hc:ZU l E=true) (hcl:∀ (i:Nat) (o:Oper),l[i]?=some o->listed.getD i true=true->∀ j,qc o j=true->listed.getD j false=true) {j:Nat} (hun:listed.getD j true=false) :
  ∀ {p:Nat},E[p]?=some j->∀ q i,p<=q->E[q]?=some i->listed.getD i true=false:=by
 intro p hp q;induction q with
 | zero =>
  intro i hq hi;have:p=0:=by omega
  subst this;rw [hp] at hi;cases hi;exact hun
 | succ q ih =>
  intro i hq hi;rcases Nat.eq_or_lt_of_le hq with e|h
  ·subst e;rw [hp] at hi;cases hi;exact hun
  ·have hlt:q < E.length:=by have:=(List.getElem?_eq_some_iff.1 hi).1;omega
   have hn:=List.getElem?_eq_getElem hlt;have h1:=ih _ zwy62 hn;obtain ⟨_,o,ho,he⟩:=zbY hc hn hi;cases hb:listed.getD i true with
   | false=>rfl
   | true =>
    have:=zlO (hcl i o ho hb _ he);rw [h1] at this;cases this
theorem Xf {F:Nat->Oper->Env->AV->Prop} (h:AD P n g H ops Q l env):VU P n g H Hp ET ops Q F [] l env:=by
 have:=zlQ (Hp:=Hp) (ET:=ET) (E:=[]) (l2:=[]) (F:=F) (zaE (fun env h=>zs8 h) h);simpa using this
theorem YL {F:Nat->Oper->Env->AV->Prop} {E:List Nat} (jc:Nat) (E':List Nat) {oc:Oper} {tc:Nat} (rc:AV) (hsp:l=l.take jc++oc::l.drop (jc + 1)) (hjl:Nat.ble jc l.length=true) (hE:E=jc::E'.map fun x=>x + 1 + jc) (hd:oc.dst=some tc) (ht:Nat.blt tc n=true)
  (h:AD P n g H ops (fun env1=>(guardE ops env1 oc=some true/\F 0 oc env1 rc)/\VU P n g H Hp ET ops Q (fun p=>F (p + 1)) E' (l.drop (jc + 1)) ((tc,rc)::env1)) (l.take jc) env):VU P n g H Hp ET ops Q F E l env:=by
 have h1:=zaE (fun env1 h=>zt0 hd (Nat.le_of_ble_eq_true ht) h.1.1 h.1.2 h.2) h;have h2:=zlQ h1;have hl:(l.take jc).length=jc:=by have:=Nat.le_of_ble_eq_true hjl;simp;omega
 rw [hl,<-hsp] at h2;rw [hE];simpa [Function.comp_def] using h2
theorem Xn {F:Nat->Oper->Env->AV->Prop} {E:List Nat} (E':List Nat) {oc:Oper} (rc:AV) (hl:l=oc::l.tail) (hE:E=0::E'.map fun x=>x + 1) (hd:oc.dst=none)
  (h:(guardE ops env oc=some true/\F 0 oc env rc)/\VU P n g H Hp ET ops Q (fun p=>F (p + 1)) E' l.tail env):VU P n g H Hp ET ops Q F E l env:=by
 have:=zr2 hd h.1.1 h.1.2 h.2;rw [<-hl] at this;rw [hE];exact this
theorem zaY {F:Nat->Oper->Env->AV->Prop} {E:List Nat} (k:Nat) (E':List Nat) (hk:Nat.ble k l.length=true) (hE:E=E'.map fun x=>x + k)
  (h:AD P n g H ops (fun env1=>VU P n g H Hp ET ops Q F E' (l.drop k) env1) (l.take k) env):VU P n g H Hp ET ops Q F E l env:=by
 have h2:=zlQ h;have hl:(l.take k).length=k:=by have:=Nat.le_of_ble_eq_true hk;simp;omega
 rw [hl,List.take_append_drop] at h2;rw [hE];exact h2
theorem zcv {F:Nat->Oper->Env->AV->Prop} {E:List Nat} (p k:Nat) (E':List Nat) (hk:Nat.ble k l.length=true) (hE:E=E'.map fun x=>x + k) (hall:(l.take k).all (early (ET.getD p []))=true)
  (h:AD P n g (Hp p) ops (fun env1=>VU P n g H Hp ET ops Q F E' (l.drop k) env1) (l.take k) env):VU P n g H Hp ET ops Q F E l env:=by
 have h2:=zmf (fun o ho _ _ hq=>.inr ⟨p,List.all_eq_true.1 hall o ho,hq⟩) h;have hl:(l.take k).length=k:=by have:=Nat.le_of_ble_eq_true hk;simp;omega
 rw [hl,List.take_append_drop] at h2;rw [hE];exact h2
end
end Go.Cg
namespace Go.Cg
theorem qL {P:Program} {n:Nat} {g:Base} {H:HEnv} {env:Env} {ops:List Oper} {QQ:QC} {id:Nat} (id' L k:Nat) (_:id=id') (hL:ops.length=L) (hok:XY ops k=true) (hm:P.follows .mixedOrders=true) (hB:Qo (zS k ops 0) ((zS k ops 0).take k)=true) (hT:Wp (zS k ops 0) k=true) (hk:Nat.ble k (zS k ops 0).length=true)
  (h:AD P n g H (zS k ops 0) (fun env'=>AOX P n g (zS k ops 0).toArray ((zS k ops 0).drop k) env' H QQ) ((zS k ops 0).take k) env) (hnd:Zr ops=true:=by kernel_rfl):AW P n g (.region id ops.toArray true) env H QQ:=yZ L k hL hok hm hB hT hk h hnd
end Go.Cg
namespace Go.Cg
open Go.RowKit
section
variable {P:Program} {tb:Tab} {n:Nat} {g:Base} {K K':KK} {w w':World} {ρ ρ':Nat->Value} {H H':HEnv} {env:Env} {a:Act} {ops:List Oper} {o:Oper} {rest:List Oper} {f:FuncId} {args:List AV} {r:AV} {QQ:QC} {x y c:Code}
def zlN (Hc R:HEnv) (ars:List AV):Bool:=zjR Hc R&&QW Hc ars&&hIn Hc Hc&&hIn (R++[]) R
theorem zj7 {ars:List AV} {vs:List Value} {pv:Value} (Hc R:HEnv) {lone:Bool} (hw1:lone=true->g.w1.heap.size=0) (hsub:HSub H (Hc++R))
  (hchk:zlN Hc R ars=true) (hc:ACallPan P f ars Hc pv lone) (hf:FS g K ρ H w) (hall0:Qd K w ρ H ars vs) :
  Calls P f vs.toArray w fun e w'=>e=.panicked [{ v:=pv,recovered:=false }]/\∃ K' ρ2,FS g K' ρ2 R w'/\Later K K' w w'/\(∀ j,(HEnv.get R j).isSome=true->ρ2 j=ρ j):=by
 obtain ⟨Hc',eHc⟩:∃ X:HEnv,X=[]:=⟨[],rfl⟩
 obtain ⟨ps,eps⟩:∃ X:List Nat,X=[]:=⟨[],rfl⟩
 simp only [zlN,Bool.and_eq_true] at hchk;obtain ⟨⟨⟨d1,i1⟩,i2⟩,i5⟩:=hchk;have d2:zjR Hc' R=true:=by rw [eHc];rfl
 have d4:zfi 1000 Hc'=true:=by rw [eHc];rfl
 have i3:hIn Hc' Hc'=true:=by rw [eHc];rfl
 have i5:hIn (R++VQ ps) R=true:=by rw [eps];exact i5
 have i6:Xm (R++VQ ps) []=true:=rfl;have i7:(ps.all fun i=>(Hc.get i).isSome&&(Hc'.get i).isSome)=true:=by rw [eps];rfl
 have i7':∀ i∈ps,(Hc.get i).isSome=true/\(Hc'.get i).isSome=true:=fun i hi=>by simpa using List.all_eq_true.1 i7 i hi
 have hlatR:Later K K w w:=.refl K w;have gC:∀ i x,Hc.get i=some x->H.get i=some x:=fun i x hx=>hsub i x (by rw [get_append,hx])
 have gR:∀ i x,R.get i=some x->H.get i=some x:=fun i x hx=>hsub i x (by
  rw [get_append];cases hh:Hc.get i with
  | none=>exact hx
  | some y=>rw [YQ d1 i y hh] at hx;cases hx)
 have nC:∀ i x,R.get i=some x->Hc.get i=none:=fun i x hx=>by
  cases hh:Hc.get i with
  | none=>rfl
  | some y=>rw [YQ d1 i y hh] at hx;cases hx
 have nC':∀ i x,R.get i=some x->Hc'.get i=none:=fun i x hx=>by
  cases hh:Hc'.get i with
  | none=>rfl
  | some y=>rw [YQ d2 i y hh] at hx;cases hx
 have hpinC:∀ {A:HEnv} {us:Nat->Value} {i:Nat} {x:HE},HEnv.get (A++qB us ps) i=some x->x.live=true->A.get i=some x:=by
  intro A us i x hx hl;rw [get_append] at hx;cases hh:A.get i with
  | some z=>rw [hh] at hx;exact hx
  | none =>
   rw [hh] at hx;obtain ⟨_,_,rfl⟩:=XM hx;simp [HE.live] at hl
 obtain ⟨g',hg'⟩:∃ g':Base,g'=⟨g.w0,K,g.w1,g.ds,w,fun b=>g.pr b\/∃ i x,R.get i=some x/\x.live=true/\yj (ρ i)=some b⟩:=⟨_,rfl⟩
 have hfs:FS g' K ρ (Hc++qB ρ ps) w:=by
  subst hg';refine ⟨hf.below,fun _ _ h=>h,fun _ _ h=>.inl h,hf.lt,hf.others,⟨?_,fun _ _ _=>rfl⟩,?_,?_,?_⟩
  ·rintro b (hb|⟨i,x,hi,hl,hb⟩)
   ·exact ⟨(hf.pt.same b hb).1,rfl,fun _=>Iff.rfl⟩
   ·exact ⟨((hf.heap.ok i x (gR i x hi)).block_lt hl hb).2,rfl,fun _=>Iff.rfl⟩
  ·intro i x b hi hl hb;have hC:=hpinC hi hl;rintro (hp|⟨j,y,hj,hly,hbj⟩)
   ·exact hf.away i x b (gC i x hC) hl hb hp
   ·have hne:i≠j:=by rintro rfl;rw [nC i y hj] at hC;cases hC
    exact hf.heap.apart i j x y b hne (gC i x hC) (gR j y hj) hl hly hb hbj
  ·intro i x hi;rw [get_append] at hi;cases hh:Hc.get i with
   | some y =>
    rw [hh] at hi;simp only [Option.some.injEq] at hi;subst hi;have hok:=hf.heap.ok i y (gC i y hh);have hk:∀ j,(HEnv.get Hc j).isSome=true->(HEnv.get (Hc++qB ρ ps) j).isSome=true/\ρ j=ρ j:=fun j hj=>⟨yI j hj,rfl⟩
    cases y with
    | cell v=>obtain ⟨b,t,arr,u,q1,q2,q3,q4,q5,q6⟩:=hok;exact ⟨b,t,arr,u,q1,q2,q3,(q4.refs (Qi i2 i v hh)).keeps hlatR hk,q5,q6⟩
    | pin v u=>exact (ARel.refs hok (Yk i2 i v u hh)).keeps hlatR hk
    | row t sz es=>exact hok
    | mrow t sz es=>exact hok
    | dead=>exact hok
    | obj X=>exact hok
   | none =>
    rw [hh] at hi;obtain ⟨q1,q2,rfl⟩:=XM hi;exact .own _ (yI _ (i7' _ q2).1)
  ·intro i j x y b hij hi hj lx ly bx bj;exact hf.heap.apart i j x y b hij (gC i x (hpinC hi lx)) (gC j y (hpinC hj ly)) lx ly bx bj
 have hall:Qd K w ρ (Hc++qB ρ ps) ars vs :=
  ⟨hall0.1,fun k c v hc hv=>((hall0.2 k c v hc hv).refs (ZT i1 k c hc)).keeps hlatR fun j hj=>⟨yI j hj,rfl⟩⟩
 have hfs1:FS g' K ρ Hc w:=by
  have:Hc++qB ρ ps=Hc:=by rw [eps];simp [qB]
  rw [this] at hfs;exact hfs
 have hall1:Qd K w ρ Hc ars vs:=by
  have:Hc++qB ρ ps=Hc:=by rw [eps];simp [qB]
  rw [this] at hall;exact hall
 refine (hc.calls g' K ρ w _ (by subst hg';exact hw1) hfs1 hall1).mono fun e w' ⟨e1,K',ρ',hf''⟩=>?_
 subst e1;have hf':FS g' K' ρ' (Hc'++qB ρ ps) w':=by
  have:Hc'++qB ρ ps=[]:=by rw [eps,eHc];simp [qB]
  rw [this];exact hf''
 have hlat:Later K K' w w':=by subst hg';exact ⟨hf'.old,hf'.pt.kept⟩
 have hprot:∀ b,(g.pr b\/∃ i x,R.get i=some x/\x.live=true/\yj (ρ i)=some b)->b < w'.heap.size/\w'.heap[b]?=w.heap[b]? /\∀ o,K' b o↔K b o:=by subst hg';exact hf'.pt.same
 have haway:∀ i x b,Hc'.get i=some x->x.live=true->yj (ρ' i)=some b->¬ (g.pr b\/∃ i x,R.get i=some x/\x.live=true/\yj (ρ i)=some b):=by
  subst hg';exact fun i x b hi=>hf'.away i x b (by rw [get_append,hi])
 obtain ⟨ρ2,hρ2⟩:∃ ρ2:Nat->Value,∀ j,ρ2 j=if (Hc'.get j).isSome then ρ' j else ρ j:=⟨_,fun _=>rfl⟩
 have r1:∀ j,(Hc'.get j).isSome=true->ρ2 j=ρ' j:=fun j hj=>by rw [hρ2,if_pos hj]
 have r2:∀ j,Hc'.get j=none->ρ2 j=ρ j:=fun j hj=>by rw [hρ2,hj];rfl
 have hkC:∀ j,(HEnv.get Hc' j).isSome=true->(HEnv.get (Hc'++R) j).isSome=true/\ρ2 j=ρ' j:=fun j hj=>⟨yI j hj,r1 j hj⟩
 have hps:∀ i∈ps,ρ' i=ρ i:=fun i hi=>by
  have hnone:Hc'.get (1000 + i)=none:=by
   cases hh:Hc'.get (1000 + i) with
   | none=>rfl
   | some x=>have:=Vx d4 _ x hh;omega
  have:=hf'.heap.ok (1000 + i) _ zwy105;have this:ARel K' w' ρ' (Hc'++qB ρ ps) (.own i) (ρ i):=this;generalize hu:ρ i=u at this;cases this with
  | own _ _=>rfl
 have hkR:∀ j,(HEnv.get (R++VQ ps) j).isSome=true->(HEnv.get (Hc'++R) j).isSome=true/\ρ2 j=ρ j:=fun j hj=>by
  rw [get_append] at hj;cases hh:R.get j with
  | some x =>
   have hn:=nC' j x hh;exact ⟨by rw [get_append,hn,hh];rfl,r2 j hn⟩
  | none =>
   rw [hh] at hj;have hm:=zdN hj;have hs':=(i7' j hm).2;exact ⟨yI j hs',by rw [r1 j hs',hps j hm]⟩
 have hfs2:FS g K' ρ2 (Hc'++R) w':=by
  have b1:Below g.w0.heap.size g.w0 w':=by subst hg';exact hf'.below
  have b3:∀ b o,K' b o->K b o\/g.w0.heap.size<=b:=by subst hg';exact hf'.new
  have b5:KeepsOthers g.w1 w':=by subst hg';exact hf'.others
  have bB:HRel K' w' g.w0.heap.size ρ' (Hc'++qB ρ ps):=by subst hg';exact hf'.heap
  refine ⟨b1,fun b o h=>hlat.sub b o (hf.old b o h),fun b o hk=>(b3 b o hk).elim (hf.new b o) .inr,hf'.lt,b5,⟨fun b hb=>?_,fun b o h0=>(hlat.cell b o (hf.old b o h0)).trans (hf.pt.kept b o h0)⟩,fun i x b hi hl hb=>?_,fun i x hi=>?_,fun i j x y b hij hi hj lx ly bx bj=>?_⟩
  ·obtain ⟨p1,p2,p3⟩:=hprot b (.inl hb);obtain ⟨q1,q2,q3⟩:=hf.pt.same b hb;exact ⟨p1,p2.trans q2,fun o=>(p3 o).trans (q3 o)⟩
  ·rw [get_append] at hi;cases hh:Hc'.get i with
   | some y =>
    rw [hh] at hi;simp only [Option.some.injEq] at hi;subst hi;rw [r1 i zwy119] at hb;exact fun hp=>haway i y b hh hl hb (.inl hp)
   | none =>
    rw [hh] at hi;rw [r2 i hh] at hb;exact hf.away i x b (gR i x hi) hl hb
  ·rw [get_append] at hi;cases hh:Hc'.get i with
   | some y =>
    rw [hh] at hi;simp only [Option.some.injEq] at hi;subst hi;rw [r1 i zwy119];have hok:=bB.ok i y (by rw [get_append,hh]);have hl':=Later.refl K' w';cases y with
    | cell v=>obtain ⟨b,t,arr,u,q1,q2,q3,q4,q5,q6⟩:=hok;exact ⟨b,t,arr,u,q1,q2,q3,(q4.refs (Qi i3 i v hh)).keeps hl' hkC,q5,q6⟩
    | pin v u=>exact (ARel.refs hok (Yk i3 i v u hh)).keeps hl' hkC
    | row t sz es=>exact hok
    | mrow t sz es=>exact hok
    | dead=>exact hok
    | obj X=>exact hok
   | none =>
    rw [hh] at hi;rw [r2 i hh];have hok:=hf.heap.ok i x (gR i x hi);have hsame:x.live=true->∀ b,yj (ρ i)=some b->w'.heap[b]?=w.heap[b]? /\∀ o,K' b o↔K b o:=fun hl b hb=>(hprot b (.inr ⟨i,x,hi,hl,hb⟩)).2
    cases x with
    | cell v =>
     obtain ⟨b,t,arr,u,q1,q2,q3,q4,q5,q6⟩:=hok;obtain ⟨s1,s2⟩:=hsame rfl b zwy120;exact ⟨b,t,arr,u,q1,q2,by rw [s1];exact q3,(q4.refs (Qi i5 i v hi)).keeps hlat hkR,q5,fun o hk=>q6 o ((s2 o).1 hk)⟩
    | pin v u=>exact (ARel.refs hok (Yk i5 i v u hi)).keeps hlat hkR
    | row t sz es =>
     obtain ⟨xs,q1,q2,q3,q4⟩:=hok;refine ⟨xs,Yv q1 fun b hb=>(hsame rfl b hb).1,q2,fun k e he=>?_,fun b hb o=>?_⟩
     ·obtain ⟨c1,c2⟩:=q3 k e he;exact ⟨c1,fun k c hc=>let ⟨v,h4,h5,h6⟩:=c2 k c hc;⟨v,h4,h5,h6.later hlat⟩⟩
     ·rw [(hsame rfl b ((Qx q1 b).2 hb)).2 o];exact q4 b hb o
    | mrow t sz es =>
     obtain ⟨xs,q1,q2,q3,q4⟩:=hok;refine ⟨xs,Yv q1 fun b hb=>(hsame rfl b hb).1,q2,fun k e he=>?_,fun b hb o hk=>?_⟩
     ·obtain ⟨c1,c2⟩:=q3 k e he;exact ⟨c1,fun k c hc=>let ⟨v,h4,h5,h6⟩:=c2 k c hc;⟨v,h4,h5,h6.later hlat⟩⟩
     ·exact q4 b hb o (((hsame rfl b ((Qx q1 b).2 hb)).2 o).1 hk)
    | dead=>trivial
    | obj X =>
     obtain ⟨b,ob,q1,q2,q3,q4,q5⟩:=hok;obtain ⟨s1,s2⟩:=hsame rfl b zwy120;exact ⟨b,ob,q1,q2,by rw [s1];exact q3,q4,fun o hk=>q5 o ((s2 o).1 hk)⟩
  ·rw [get_append] at hi hj;cases hhi:Hc'.get i with
   | some x' =>
    rw [hhi] at hi;simp only [Option.some.injEq] at hi;subst hi;rw [r1 i (by rw [hhi];rfl)] at bx;cases hhj:Hc'.get j with
    | some y' =>
     rw [hhj] at hj;simp only [Option.some.injEq] at hj;subst hj;rw [r1 j zwy114] at bj;exact bB.apart i j x' y' b hij (by rw [get_append,hhi]) (by rw [get_append,hhj]) lx ly bx bj
    | none =>
     rw [hhj] at hj;rw [r2 j hhj] at bj;exact haway i x' b hhi lx bx (.inr ⟨j,y,hj,ly,bj⟩)
   | none =>
    rw [hhi] at hi;rw [r2 i hhi] at bx;cases hhj:Hc'.get j with
    | some y' =>
     rw [hhj] at hj;simp only [Option.some.injEq] at hj;subst hj;rw [r1 j zwy114] at bj;exact haway j y' b hhj ly bj (.inr ⟨i,x,hi,lx,bx⟩)
    | none =>
     rw [hhj] at hj;rw [r2 j hhj] at bj;exact hf.heap.apart i j x y b hij (gR i x hi) (gR j y hj) lx ly bx bj
 refine ⟨rfl,K',ρ2,?_,hlat,fun j hj=>(hkR j (yI j hj)).2⟩;have:Hc'++R=R:=by rw [eHc];rfl
 rw [this] at hfs2;exact hfs2
theorem zb2 {xs:Array Operand} {ts:Array TypeId} {ars:List AV} {v:Value} (Hc R:HEnv) {lone:Bool} (hw1:lone=true->g.w1.heap.size=0) (hg:guardE ops env o=some true)
  (hop:o.op=.call { callee:=.value (.func f),args:=xs,argTypes:=ts }) (hargs:avs env xs.toList=some ars) (hsub:HSub H (Hc++R)) (hchk:zlN Hc R ars=true) (hc:ACallPan P f ars Hc v lone)
  (h:QQ (.panic [{ v:=v,recovered:=false }]) (zau R env) R):AOX P n g ops.toArray (o::rest) env H QQ:=by
 refine ⟨fun a w hinv=>?_⟩;have hw:=qw hinv hg;obtain ⟨h1,h2,K,ρ,hf,he⟩:=hinv;refine wpList_step fun KK hKK=>?_
 rw [if_pos hw];have hrun:(execOp a.eval o).run P w=.ok (.enter f (xs.toList.map a.eval).toArray) w:=by
  have e:(xs.toList.map a.eval).toArray=xs.map a.eval:=by rw [<-Array.toList_map,Array.toArray_toList]
  rw [e];simp [execOp,hop,resolve,Act.eval,Deferred.ofValue,invoke,ZK hc.stands]
 unfold Oper.wp;rw [hrun];simp only [Oper.upon];refine (zj7 Hc R hw1 hsub hchk hc hf (zbM (a:=a) he hargs)).mono fun e w' ⟨e1,K',ρ2,hf',hlat,hps⟩=>?_
 subst e1;refine ⟨zau R env,R,⟨h1,h2,K',ρ2,hf',fun t av ht=>?_⟩,.inr ⟨_,rfl⟩,h⟩;rw [zbG] at ht;cases hE:env.get t with
 | none=>simp [hE] at ht
 | some v0 =>
  obtain ⟨u,u1,u2⟩:=he t v0 hE;simp only [hE,Option.map_some,Option.some.injEq] at ht;subst ht;refine ⟨u,u1,?_⟩;split
  ·rename_i hr;exact (u2.refs hr).keeps hlat fun j hj=>⟨hj,hps j hj⟩
  ·exact .any u
structure AWD (P:Program) (n:Nat) (ds0:List Deferred) (c:Code) (env:Env) (H:HEnv) (Q:List Deferred->QC):Prop where
 go:∀ (g:Base),g.ds=ds0->∀ a w,Inv n g env H a w->c.wp P (fun e a' w'=>∃ ds env' H',Inv n { g with ds:=ds } env' H' a' w'/\Q ds e env' H') a w
variable {Q:List Deferred->QC} {ds0:List Deferred}
theorem zbD (h:∀ g,AW P n g c env H (Q ds0)):AWD P n ds0 c env H Q :=
 ⟨fun g hg a w hi=>wp_mono (wpIn_wide.1 ((h g).go a w hi none 0)) fun e a' w' ⟨env',H',h1,h2⟩=>⟨g.ds,env',H',h1,by rw [hg];exact h2⟩⟩
theorem zbL (h:AWD P n ds0 x env H (fun ds=>zvK (fun env' H'=>AWD P n ds y env' H' Q) (Q ds))):AWD P n ds0 (.seq x y) env H Q :=
 ⟨fun g hg a w hi=>wp_seq (wp_mono (h.go g hg a w hi) fun e a' w' ⟨ds,env',H',h1,h2⟩=>by
  cases e <;> first
   | exact h2.go { g with ds:=ds } rfl a' w' h1
   | exact ⟨ds,env',H',h1,h2⟩)⟩
theorem zhN (i j:Nat) {v:AV} (hi:H.get i=some (.cell v)) (hj:H.get j=none) (k:∀ p,AWD P n ds0 c env ((j,.pin (.box i 0) p)::H) Q):AWD P n ds0 c env H Q:=by
 refine ⟨fun g hg a w hinv=>?_⟩;obtain ⟨g1,g2,K,ρ,hf,he⟩:=hinv;obtain ⟨b,t,arr,u,q1,q2,q3,q4,q5,q6⟩:=hf.heap.ok i _ hi;have hkk:∀ p m,(H.get m).isSome=true->(HEnv.get ((j,.pin (.box i 0) p)::H) m).isSome=true/\ρ m=ρ m:=by
  intro p m hm;refine ⟨?_,rfl⟩;rw [HEnv.get_cons];split <;> first|rfl|exact hm
 have hlive:∀ p m hh,HEnv.get ((j,.pin (.box i 0) p)::H) m=some hh->hh.live=true->H.get m=some hh:=by
  intro p m hh hm hl;rw [HEnv.get_cons] at hm;split at hm
  ·simp only [Option.some.injEq] at hm;subst hm;simp [HE.live] at hl
  ·exact hm
 refine (k (.pointer (some ⟨b,0,none⟩))).go g hg a w ⟨g1,g2,K,ρ,⟨hf.below,hf.old,hf.new,hf.lt,hf.others,hf.pt,fun m hh bb hm hl hb=>hf.away m hh bb (hlive _ m hh hm hl) hl hb,fun m hh hm=>?_,fun m m' hh hh' bb hmm hm hm' hl hl'=>hf.heap.apart m m' hh hh' bb hmm (hlive _ m hh hm hl) (hlive _ m' hh' hm' hl') hl hl'⟩,he.keeps (.refl K w) (hkk _)⟩;rw [HEnv.get_cons] at hm;split at hm
 ·simp only [Option.some.injEq] at hm;subst hm;have hold:ARel K w ρ H (.box i 0) (.pointer (some ⟨b,0,none⟩)):=.box i 0 b (by rw [hi];rfl) q1;exact hold.keeps (.refl K w) (hkk _)
 ·exact (hf.heap.ok m hh hm).keeps (.refl hf.lt) hf.lt (hkk _)
theorem zpO {i off:Nat} {u v:Value} (h:ARel K w ρ H (.box i off) u) (h':ARel K w ρ H (.box i off) v):u=v:=by
 cases h with
 | box _ _ b _ hb =>
  cases h' with
  | box _ _ b' _ hb'=>rw [hb] at hb';cases hb';rfl
def YX (H:HEnv):List AV->List Value->Prop
 | [],[]=>True
 | .box i off::cs,p::ps=>(∃ m,H.get m=some (.pin (.box i off) p))/\YX H cs ps
 | _,_=>False
theorem zc0 (hf:FS g K ρ H w):∀ {cs:List AV} {ps vs:List Value},YX H cs ps->(vs.length=cs.length/\∀ (k:Nat) (c:AV) (v:Value),cs[k]?=some c->vs[k]?=some v->ARel K w ρ H c v)->vs=ps
 | [],[],vs,_,h=>List.eq_nil_of_length_eq_zero (by simpa using h.1)
 | [],_::_,_,h,_=>h.elim
 | .box i off::cs,[],_,h,_=>h.elim
 | .box i off::cs,p::ps,vs,h,hv=>by
  obtain ⟨⟨m,hm⟩,h2⟩:=h;cases vs with
  | nil=>simp at hv
  | cons v vs =>
   have h1:=hv.2 0 _ v rfl rfl;have h3:ARel K w ρ H (.box i off) p:=hf.heap.ok m _ hm;have e1:=zpO h1 h3;have e2:=zc0 (vs:=vs) hf h2 ⟨by simpa using hv.1,fun k c u hc hu=>hv.2 (k + 1) c u (by simpa using hc) (by simpa using hu)⟩;rw [e1,e2]
 | .pv _::_,_,_,h,_=>h.elim
 | .own _::_,_,_,h,_=>h.elim
 | .ad _ _::_,_,_,h,_=>h.elim
 | .agg _::_,_,_,h,_=>h.elim
 | .fn _ _ _::_,_,_,h,_=>h.elim
 | .any::_,_,_,h,_=>h.elim
 | .any1::_,_,_,h,_=>h.elim
theorem QO (hf:FS g K ρ H w):∀ {cs:List AV} {ps:List Value},YX H cs ps->Qd K w ρ H cs ps
 | [],[],_=>⟨rfl,fun k c v h=>by simp at h⟩
 | [],_::_,h=>h.elim
 | .box i off::cs,[],h=>h.elim
 | .box i off::cs,p::ps,h=>by
  obtain ⟨⟨m,hm⟩,h2⟩:=h;obtain ⟨q1,q2⟩:=QO hf h2;refine ⟨by simp [q1],fun k c v hc hv=>?_⟩;cases k with
  | zero=>simp at hc hv;subst hc hv;exact hf.heap.ok m _ hm
  | succ k=>simp at hc hv;exact q2 k c v hc hv
 | .pv _::_,_,h=>h.elim
 | .own _::_,_,h=>h.elim
 | .ad _ _::_,_,h=>h.elim
 | .agg _::_,_,h=>h.elim
 | .fn _ _ _::_,_,h=>h.elim
 | .any::_,_,h=>h.elim
 | .any1::_,_,h=>h.elim
structure DCall (P:Program) (f:FuncId) (H:HEnv) (args:List AV) (u u':FrameMode) (H':HEnv):Prop where
 stands:zbU P f
 calls:∀ (g:Base) (K:KK) (ρ:Nat->Value) (w:World) (vs:List Value),FS g K ρ H w->Qd K w ρ H args vs ->
  CallsD P f vs.toArray u w fun e m w'=>(∃ v,e=.returned v)/\m=u'/\∃ K' ρ',FS g K' ρ' H' w'
def WS:Exit->Option FrameMode
 | .normal=>some .returning
 | .ret=>some .returning
 | .panic ch=>some (.panicking ch)
 | _=>none
def ZY:List Nat->List AV->Env
 | t::ts,c::cs=>(t,c)::ZY ts cs
 | _,_=>[]
def DQ (P:Program) (tb:Tab) (rs:List ResultVar) (r:PV) (ex:Exit) (env:Env) (H:HEnv):List Deferred->Prop
 | []=>zqq tb rs r ex env H
 | [d]=>∃ (mode u':FrameMode) (f:FuncId) (slots:List Nat) (caps:List AV) (ps:List Value) (Hn H':HEnv) (rp:List PV),WS ex=some mode/\d={ target:=.fn (.func f) ps.toArray,args:=#[] }/\QM H Hn (ZY slots caps)/\YX Hn caps ps/\YX H' caps ps /\
   DCall P f Hn caps mode u' H'/\settle u'=.returning/\slots.length=caps.length/\slots.Nodup/\Sub env (ZY slots caps)/\zar tb H' (ZY slots caps) rs=some rp/\zn rp=r
 | _=>False
theorem zgw {id k t:Nat} {l1:List Oper} {oD:Oper} {ts:Array TypeId} (h1:ops.take k=l1) (h2:ops.drop k=[oD]) (hop:oD.op=.defer { callee:=.value (.tmp t),args:=#[],argTypes:=ts }) (hg:oD.guard=none) (hd:oD.dst=none)
  (h:∀ g,AO P n g ops.toArray l1 env H (fun env' H'=>∃ f caps ps,env'.get t=some (.fn (.func f) [] caps)/\YX H' caps ps/\Q ({ target:=.fn (.func f) ps.toArray,args:=#[] }::ds0) .normal env' H')) :
  AWD P n ds0 (.region id ops.toArray false) env H Q:=by
 refine ⟨fun g hgd a w hi=>wp_region_lit ?_⟩;rw [<-List.take_append_drop k ops,h1,h2];have e0:(l1++[oD]).toArray=ops.toArray:=by rw [<-h1,<-h2,List.take_append_drop]
 rw [e0];refine Vd (Yy (fun e a' w' hh=>?_) ((h g).go a w hi));obtain ⟨env',H',hi',he,f,caps,ps,hget,hpin,hQ⟩:=hh;refine ⟨he,?_⟩;unfold wpList;have hw:Region.wanted oD (yielded ops.toArray a'.tmps)=true:=by simp [Region.wanted,hg]
 rw [if_pos hw];refine .inl ?_;obtain ⟨g1,g2,K,ρ,hf,hE⟩:=hi';obtain ⟨v,v1,v2⟩:=hE t _ hget;cases v2 with
 | fn _ _ _ vf vc a1 a2 a3 a4 =>
  have hvc:=zc0 hf hpin ⟨a2,a4⟩;have hvf:vf=[]:=List.eq_nil_of_length_eq_zero (by simpa using a1);subst hvc hvf;have hev:a'.eval (.tmp t)=.func (.func f) #[] vc.toArray:=by
   simp [Act.eval,Array.getD_eq_getD_getElem?,v1]
  unfold Oper.wp;have hrun:(execOp a'.eval oD).run P w'=.ok (.defer { target:=.fn (.func f) vc.toArray,args:=#[] }) w':=by
   simp [execOp,hop,resolve,hev,Deferred.ofValue]
  rw [hrun];simp only [Oper.upon,hd,Act.put];unfold wpList;exact ⟨({ target:=.fn (.func f) vc.toArray,args:=#[] }:Deferred)::ds0,env',H',⟨g1,by simp [g2,hgd],K,ρ,⟨hf.below,hf.old,hf.new,hf.lt,hf.others,⟨hf.pt.same,hf.pt.kept⟩,hf.away,hf.heap⟩,hE⟩,hQ⟩
theorem zf2 (hf:FS g K ρ H w):∀ {slots:List Nat} {caps:List AV} {ps:List Value} {tmps:Array Value},YX H caps ps->EnvR K w ρ H (ZY slots caps) tmps->slots.length=caps.length->slots.Nodup->∀ (k t:Nat) (p:Value),slots[k]?=some t->ps[k]?=some p->tmps[t]?=some p
 | [],caps,ps,tmps,_,_,_,_=>fun k t p h=>by simp at h
 | s::slots,[],ps,tmps,_,_,hl,_=>by simp at hl
 | s::slots,c::caps,[],tmps,hp,_,_,_=>by cases c <;> exact hp.elim
 | s::slots,c::caps,q::ps,tmps,hp,hE,hl,hnd=>by
  rw [List.nodup_cons] at hnd;intro k t p hk hpk;have hc:∃ i off,c=.box i off:=by cases c <;> first|exact ⟨_,_,rfl⟩|exact hp.elim
  obtain ⟨i,off,rfl⟩:=hc;obtain ⟨⟨m,hm⟩,hp2⟩:=hp;cases k with
  | zero =>
   simp at hk hpk;subst hk hpk;obtain ⟨v,v1,v2⟩:=hE s (.box i off) (by simp [ZY,Env.get_cons]);rw [v1,zpO v2 (hf.heap.ok m _ hm)]
  | succ k =>
   simp at hk hpk;refine zf2 (slots:=slots) (caps:=caps) (ps:=ps) hf hp2 (fun t' av hg=>?_) zwy116 hnd.2 k t p hk hpk;have hne:s≠t':=by
    rintro rfl;have key:∀ {slots:List Nat} {caps:List AV} {av:AV},(ZY slots caps).get s=some av->s∈slots:=by
     intro slots;induction slots with
     | nil=>intro caps av h;simp [ZY,Env.get_nil] at h
     | cons x xs ih =>
      intro caps av h;cases caps with
      | nil=>simp [ZY,Env.get_nil] at h
      | cons y ys =>
       rw [ZY,Env.get_cons] at h;split at h
       ·rename_i e;simp [e]
       ·exact List.mem_cons_of_mem _ (ih h)
    exact hnd.1 (key hg)
   exact hE t' av (by rw [ZY,Env.get_cons,if_neg hne];exact hg)
theorem zfM:∀ {slots:List Nat} {caps:List AV} {ps:List Value} {tmps:Array Value},Qd K w ρ H caps ps->slots.length=caps.length->(∀ (k t:Nat) (p:Value),slots[k]?=some t->ps[k]?=some p->tmps[t]?=some p)->EnvR K w ρ H (ZY slots caps) tmps
 | [],caps,ps,tmps,_,_,_=>fun t av h=>by simp [ZY,Env.get_nil] at h
 | s::slots,[],ps,tmps,_,hl,_=>by simp at hl
 | s::slots,c::caps,ps,tmps,hr,hl,hk=>fun t av h=>by
  cases ps with
  | nil=>have:=hr.1;simp at this
  | cons p ps =>
   rw [ZY,Env.get_cons] at h;split at h
   ·rename_i e;subst e;simp only [Option.some.injEq] at h;subst h;exact ⟨p,hk 0 s p rfl rfl,hr.2 0 c p rfl rfl⟩
   ·exact zfM (slots:=slots) (caps:=caps) (ps:=ps) ⟨by simpa using hr.1,fun k c u hc hu=>hr.2 (k + 1) c u (by simpa using hc) (by simpa using hu)⟩ zwy116 (fun k t p h1 h2=>hk (k + 1) t p zwy98 (by simpa using h2)) t av h
theorem zku (htb:qm P tb) {args:List PV} {r:PV} {fn:Func} {c:Code} (hf:P.funcs[f]?=some fn) (hb:fn.body=some c) (hn:(fn.name == "runtime.NumGoroutine")=false) (hnt:fn.ntmps=n) (hargs:args.length<=n)
  (rs:List ResultVar) (hrs:fn.results.toList=rs) (h:lensOk args->AWD P n [] c (zgU 0 args) [] (fun ds ex env H=>DQ P tb rs r ex env H ds)):ACall P f args r:=by
 refine ⟨⟨fn,hf,by simp [hb],hn⟩,fun K w vs hl hv=>?_⟩;refine calls_of_wp_defers hf hb ?_;have hlen:vs.length=args.length:=hv.1;refine wp_mono ((h hv.lensOk).go (Base.of w K (bare w) []) rfl _ w ⟨by simp [hnt];omega,rfl,K,fun _=>undef,⟨.refl _ _,fun _ _ h=>h,fun _ _ h=>.inl h,hl,VP _ _,.base,.none _ _,⟨by simp [HEnv.get_nil,HEnv.get_cons],by simp [HEnv.get_nil,HEnv.get_cons]⟩⟩,?_⟩) ?_
 ·intro t av hg;obtain ⟨_,p,hp,rfl⟩:=zcl args 0 t av hg;have hlt:t < vs.length:=by rw [hlen];exact (List.getElem?_eq_some_iff.1 hp).1
  refine ⟨vs[t],?_,.pv _ _ (hv.2 t p _ hp (List.getElem?_eq_getElem hlt))⟩;rw [Array.getElem?_append_left zwy80];simp [hlt]
 ·rintro e a' w' ⟨ds,env1,H',hi,hq⟩;have fin:∀ (ds:List Deferred) {K':KK} {ρ':Nat->Value} {H2:HEnv} {env2:Env} {w2:World} {rp:List PV},FS { Base.of w K (bare w) [] with ds:=ds } K' ρ' H2 w2->EnvR K' w2 ρ' H2 env2 a'.tmps->zar tb H2 env2 rs=some rp ->
    ∃ v,(results fn a'.tmps).run P w2=.ok v w2/\(∃ K'',Evo K K'' w w2/\PRel K'' w2 (zn rp) v):=by
   intro ds K' ρ' H2 env2 w2 rp hf' he' hps;obtain ⟨us,hrun,hru⟩:=zaO htb hf' he' hps;have hev:Evo K K' w w2:=⟨hf'.below,hf'.old,hf'.new,hf'.lt⟩
   have hres:(results fn a'.tmps).run P w2=.ok (if hh:us.toArray.size=1 then us.toArray[0] else .tuple us.toArray) w2:=by
    unfold results;rw [Array.mapM_eq_mapM_toList,hrs];simp only [Sem.run_bind,Sem.run_map]
    erw [hrun]
    rfl
   refine ⟨_,hres,K',hev,?_⟩;split
   ·rename_i hh;have hl1:=hru.1;have hu:us.length=1:=by simpa using hh
    obtain ⟨u,rfl⟩:=List.length_eq_one_iff.1 hu;obtain ⟨p,rfl⟩:=List.length_eq_one_iff.1 (show rp.length=1 by omega);exact hru.2 0 p u zwy63 zwy63
   ·rename_i hh;simp at hh;have:zn rp=.tup rp:=by
     unfold zn;split
     ·rename_i p;exact absurd zwy101 hh
     ·rfl
    rw [this];exact .tup rp us hru.1 hru.2
  match ds,hi,hq with
  | [],hi,hq =>
   obtain ⟨i1,i2,K',ρ',hf',he0⟩:=hi;obtain ⟨he,env',hent,ps,hps,rfl⟩:=hq;have he':EnvR K' w' ρ' H' env' a'.tmps:=fun t av ht=>by
    obtain ⟨av0,q1,q2⟩:=hent t av ht;obtain ⟨v,v1,v2⟩:=he0 t av0 q1;exact ⟨v,v1,q2 _ _ _ _ _ v2⟩
   obtain ⟨v,hres,K'',hev,hval⟩:=fin _ hf' he' hps;have i2':a'.defers=[]:=i2;rcases he with rfl|rfl <;> (simp only [bodyPostD,i2'];exact ⟨v,hres,v,K'',rfl,hev,hval⟩)
  | [d],hi,hq =>
   obtain ⟨mode,u',f2,slots,caps,ps,Hn,H2,rp,hm,rfl,hfit,hb1,hb2,hD,hset,hsl,hnd,hsub,hrp,rfl⟩:=hq;obtain ⟨i1,i2,K',ρ',hf',hE⟩:=(hi.sub hsub).hsub hfit;have i2':a'.defers=[{ target:=.fn (.func f2) ps.toArray,args:=#[] }]:=i2;have hslots:=zf2 hf' hb1 hE hsl hnd;have key:mode≠.run->Leaves P fn a'.tmps (fun e w'=>∃ v K',e=.returned v/\Evo K K' w w'/\PRel K' w' (zn rp) v) [{ target:=.fn (.func f2) ps.toArray,args:=#[] }] mode w':=by
    intro hmr;refine leaves_cons hmr (f:=f2) (args:=ps.toArray) (by simp [invoke,ZK hD.stands]) ?_;refine (hD.calls _ K' ρ' w' ps hf' (QO hf' hb1)).mono ?_;rintro e m w2 ⟨⟨v0,rfl⟩,rfl,K2,ρ2,hf2⟩;obtain ⟨v,hres,K'',hev,hval⟩:=fin _ hf2 (zfM (QO hf2 hb2) hsl hslots) hrp;simp only [hset];exact ⟨v,hres,v,K'',rfl,hev,hval⟩
   cases e with
   | normal=>simp only [WS,Option.some.injEq] at hm;subst hm;simp only [bodyPostD,i2'];exact key zwy63
   | ret=>simp only [WS,Option.some.injEq] at hm;subst hm;simp only [bodyPostD,i2'];exact key zwy63
   | panic ch=>simp only [WS,Option.some.injEq] at hm;subst hm;simp only [bodyPostD,i2'];exact key zwy63
   | exit id=>simp [WS] at hm
   | goto l=>simp [WS] at hm
   | outgrown=>simp [WS] at hm
  | _::_::_,_,hq=>exact hq.elim
theorem WA {caps:List AV} {u u':FrameMode} {fn:Func} {c:Code} (hf:P.funcs[f]?=some fn) (hb:fn.body=some c) (hn:(fn.name == "runtime.NumGoroutine")=false) (hrs:fn.results=#[])
  (h:∀ (g:Base) (K:KK) (ρ:Nat->Value) (w:World) (vs:List Value),g.ds=[]->FS g K ρ H w->Qd K w ρ H caps vs->∀ (c₀:Frame) (cs:List Frame),c₀.mode=u ->
   c.wpS P (fun ex a' cs' w'=>(ex=.normal\/ex=.ret)/\a'.defers=[]/\cs'={ c₀ with mode:=u' }::cs/\∃ K' ρ',FS g K' ρ' H' w') { tmps:=vs.toArray++Array.replicate (fn.ntmps - vs.length) undef,defers:=[] } (c₀::cs) w):DCall P f H caps u u' H':=by
 refine ⟨⟨fn,hf,by simp [hb],hn⟩,fun g0 K ρ w vs hfs0 hv=>?_⟩;obtain ⟨g,hg0⟩:∃ g:Base,g=⟨g0.w0,g0.K0,g0.w1,[],g0.wp,g0.pr⟩:=⟨_,rfl⟩
 have hfs:FS g K ρ H w:=by subst hg0;exact ⟨hfs0.below,hfs0.old,hfs0.new,hfs0.lt,hfs0.others,⟨hfs0.pt.same,hfs0.pt.kept⟩,hfs0.away,hfs0.heap⟩
 refine callsD_of_wpS hf hb fun c₀ cs hu=>?_
 have hh:=h g K ρ w vs (by subst hg0;rfl) hfs hv c₀ cs hu;intro b k hb1 hb2;obtain ⟨e,a',cs',w',hq,harr⟩:=hh b k hb1 hb2;refine ⟨e,a',cs',w',?_,by simpa using harr⟩;obtain ⟨he,hd,hcs,K',ρ',hf'⟩:=hq;have hf2:FS g0 K' ρ' H' w':=by subst hg0;exact ⟨hf'.below,hf'.old,hf'.new,hf'.lt,hf'.others,⟨hf'.pt.same,hf'.pt.kept⟩,hf'.away,hf'.heap⟩
 have hres:(results fn a'.tmps).run P w'=.ok (.tuple #[]) w':=by simp [results,hrs]
 rcases he with rfl|rfl <;> exact ⟨hd,u',hcs,_,hres,⟨_,rfl⟩,rfl,K',ρ',hf2⟩
theorem zfU {QS:Exit->Act->List Frame->World->Prop} {cs:List Frame} (h:AW P n g c env H QQ) (hi:Inv n g env H a w) (hq:∀ e a' w' env' H',Inv n g env' H' a' w'->QQ e env' H'->QS e a' cs w'):c.wpS P QS a cs w :=
 wpS_of_wp (wp_mono (wpIn_wide.1 (h.go a w hi none 0)) fun e a' w' ⟨env',H',h1,h2⟩=>hq e a' w' env' H' h1 h2)
theorem ziE (htb:qm P tb) {ty:Nat} {z:Value} (hz:tb.zero ty=some z):(zeroValue ty).run P w=.ok z w:=by
 have hzi:∃ i:TypeInfo,P.info? ty=some i/\i.zero=some z:=by
  unfold Tab.zero at hz;split at hz
  ·rename_i ti hti;obtain ⟨i,e1,_,_,e4,_⟩:=Yi htb hti;exact ⟨i,e1,by rw [e4];exact hz⟩
  ·cases hz
 obtain ⟨ti,hti,htz⟩:=hzi;simp [zeroValue,typeInfo,hti,htz]
theorem zlI {i:Nat} {v v':AV} (hi:H.get i=some (.cell v)) (ht:Tells v v') (h:Inv n g env H a w):Inv n g env ((i,.cell v')::H) a w:=by
 obtain ⟨g1,g2,K,ρ,hf,he⟩:=h;have hsame:∀ j,HEnv.get ((i,HE.cell v)::H) j=H.get j:=fun j=>by
  rw [HEnv.get_cons];split
  ·rename_i e;subst e;exact hi.symm
  ·rfl
 have hk:∀ j,(H.get j).isSome=true->(HEnv.get ((i,HE.cell v)::H) j).isSome=true/\ρ j=ρ j:=fun j hj=>⟨by rw [hsame];exact hj,rfl⟩
 have hf1:FS g K ρ ((i,.cell v)::H) w:=by
  refine ⟨hf.below,hf.old,hf.new,hf.lt,hf.others,hf.pt,fun j x b hj=>hf.away j x b (by rw [<-hsame];exact hj),fun j x hj=>?_,fun j j' x x' b hjj hj hj'=>hf.heap.apart j j' x x' b hjj (by rw [<-hsame];exact hj) (by rw [<-hsame];exact hj')⟩;rw [hsame] at hj;exact (hf.heap.ok j x hj).keeps (.refl hf.lt) hf.lt hk
 have hk2:∀ j,(H.get j).isSome=true->(HEnv.get ((i,HE.cell v')::H) j).isSome=true/\ρ j=ρ j:=fun j hj=>⟨by
  rw [HEnv.get_cons];split <;> first|rfl|exact hj,rfl⟩
 exact ⟨g1,g2,K,ρ,zhI hf1 ht,he.keeps (.refl K w) hk2⟩
theorem zg7 (i:Nat) {v v':AV} (hi:H.get i=some (.cell v)) (ht:Tells v v') (k:AW P n g c env ((i,.cell v')::H) QQ):AW P n g c env H QQ:=⟨fun a w hinv=>k.go a w (zlI hi ht hinv)⟩
theorem zkq (cs:List PV):Tells (.pv (.agg cs)) (.agg (cs.map .pv)):=fun K w ρ H v h=>by
 cases h with
 | pv _ _ hp =>
  cases hp with
  | agg _ vs h1 h2 h3 =>
   refine .agg _ vs zwy98 h2 fun k c v hc hv=>?_
   rw [List.getElem?_map] at hc;cases hcs:cs[k]? with
   | none=>simp [hcs] at hc
   | some p=>simp [hcs] at hc;subst hc;exact .pv _ _ (h3 k p v hcs hv)
end
theorem YD {K:KK} {w:World} {ρ:Nat->Value} {H:HEnv} {env:Env} {tmps:Array Value} {t:Nat} {av:AV} {v:Value} (h1:tmps[t]?=some v) (h2:ARel K w ρ H av v) (h:EnvR K w ρ H env tmps):EnvR K w ρ H ((t,av)::env) tmps:=fun t' av' hg=>by
 rw [Env.get_cons] at hg;split at hg
 ·rename_i e;subst e;simp only [Option.some.injEq] at hg;subst hg;exact ⟨v,h1,h2⟩
 ·exact h t' av' hg
theorem zcj {K:KK} {w:World} {ρ:Nat->Value} {H:HEnv} {tmps:Array Value}:EnvR K w ρ H [] tmps:=fun t av h=>by simp [Env.get_nil] at h
def zrh (H2:HEnv):QC:=fun ex _ H=>(ex=.normal\/ex=.ret)/\QM H H2 []
theorem zgr {n:Nat} {g:Base} {env:Env} {H H2:HEnv} {a:Act} {w:World} (hi:Inv n g env H a w) (hf:QM H H2 []):∃ K ρ,FS g K ρ H2 w:=by
 obtain ⟨_,_,K,ρ,h,_⟩:=hi;exact ⟨K,ρ,h.narrow hf⟩
theorem zmE {α:Type} {l:List α} (h:l.length=2):∃ a b,l=[a,b]:=by
 match l,h with
 | [a,b],_=>exact ⟨a,b,rfl⟩
def DQM (P:Program) (tb:Tab) (rs:List ResultVar) (r:PV) (H2:HEnv) (ex:Exit) (env:Env) (H:HEnv):List Deferred->Prop
 | []=>zi3 tb rs (.pv r) H2 ex env H
 | [d]=>∃ (mode u':FrameMode) (f:FuncId) (slots:List Nat) (caps:List AV) (ps:List Value) (Hn H':HEnv) (rp:List PV),WS ex=some mode/\d={ target:=.fn (.func f) ps.toArray,args:=#[] }/\QM H Hn (ZY slots caps)/\YX Hn caps ps/\YX H' caps ps /\
   DCall P f Hn caps mode u' H'/\settle u'=.returning/\slots.length=caps.length/\slots.Nodup/\Sub env (ZY slots caps)/\zar tb H' (ZY slots caps) rs=some rp/\zn rp=r/\QM H' H2 []
 | _=>False
section
variable {P:Program} {tb:Tab} {n:Nat} {H H':HEnv} {f:FuncId} {args:List AV}
theorem zoU (htb:qm P tb) {r:PV} {fn:Func} {c:Code} (hf:P.funcs[f]?=some fn) (hb:fn.body=some c) (hn:(fn.name == "runtime.NumGoroutine")=false) (hnt:fn.ntmps=n) (hargs:args.length<=n)
  (rs:List ResultVar) (hrs:fn.results.toList=rs) (h:AWD P n [] c (Vb 0 args) H (fun ds ex env H1=>DQM P tb rs r H' ex env H1 ds)):ACallM P f args H (.pv r) H':=by
 refine ⟨⟨fn,hf,by simp [hb],hn⟩,fun g0 K ρ w vs _ hfs0 hv=>?_⟩;obtain ⟨g,hg0⟩:∃ g:Base,g=⟨g0.w0,g0.K0,g0.w1,[],g0.wp,g0.pr⟩:=⟨_,rfl⟩
 have hfs:FS g K ρ H w:=by subst hg0;exact ⟨hfs0.below,hfs0.old,hfs0.new,hfs0.lt,hfs0.others,⟨hfs0.pt.same,hfs0.pt.kept⟩,hfs0.away,hfs0.heap⟩
 refine calls_of_wp_defers hf hb ?_;have hlen:vs.length=args.length:=hv.1;refine wp_mono (h.go g (by subst hg0;rfl) _ w ⟨by simp [hnt];omega,by subst hg0;rfl,K,ρ,hfs,?_⟩) ?_
 ·intro t av hg;obtain ⟨_,hp⟩:=VA args 0 t av hg;have hlt:t < vs.length:=by rw [hlen];exact (List.getElem?_eq_some_iff.1 hp).1
  refine ⟨vs[t],?_,hv.2 t av _ hp (List.getElem?_eq_getElem hlt)⟩;rw [Array.getElem?_append_left zwy80];simp [hlt]
 ·rintro e a' w' ⟨ds,env1,H1,hi,hq⟩;have back:∀ {ds:List Deferred} {K':KK} {ρ':Nat->Value} {X:HEnv} {w':World},FS { g with ds:=ds } K' ρ' X w'->FS g0 K' ρ' X w':=fun hf1=>by
   subst hg0;exact ⟨hf1.below,hf1.old,hf1.new,hf1.lt,hf1.others,⟨hf1.pt.same,hf1.pt.kept⟩,hf1.away,hf1.heap⟩
  have fin:∀ (ds:List Deferred) {K':KK} {ρ':Nat->Value} {H2:HEnv} {env2:Env} {w2:World} {rp:List PV},FS { g with ds:=ds } K' ρ' H2 w2->EnvR K' w2 ρ' H2 env2 a'.tmps->zar tb H2 env2 rs=some rp->QM H2 H' [] ->
    ∃ v,(results fn a'.tmps).run P w2=.ok v w2/\∃ K' ρ',FS g0 K' ρ' H' w2/\ARel K' w2 ρ' H' (.pv (zn rp)) v:=by
   intro ds K' ρ' H2 env2 w2 rp hf' he' hps hfit;obtain ⟨us,hrun,hru⟩:=zaO htb hf' he' hps;have hres:(results fn a'.tmps).run P w2=.ok (if hh:us.toArray.size=1 then us.toArray[0] else .tuple us.toArray) w2:=by
    unfold results;rw [Array.mapM_eq_mapM_toList,hrs];simp only [Sem.run_bind,Sem.run_map]
    erw [hrun]
    rfl
   refine ⟨_,hres,K',ρ',back (hf'.narrow hfit),.pv _ _ ?_⟩;split
   ·rename_i hh;have hl1:=hru.1;have hu:us.length=1:=by simpa using hh
    obtain ⟨u,rfl⟩:=List.length_eq_one_iff.1 hu;obtain ⟨p,rfl⟩:=List.length_eq_one_iff.1 (show rp.length=1 by omega);exact hru.2 0 p u zwy63 zwy63
   ·rename_i hh;simp at hh;have:zn rp=.tup rp:=by
     unfold zn;split
     ·rename_i p;exact absurd zwy101 hh
     ·rfl
    rw [this];exact .tup rp us hru.1 hru.2
  match ds,hi,hq with
  | [],hi,hq =>
   obtain ⟨i1,i2,K',ρ',hf',he'⟩:=hi;obtain ⟨he,hq⟩:=hq;have i2':a'.defers=[]:=i2;have key:∃ v,(results fn a'.tmps).run P w'=.ok v w'/\∃ K' ρ',FS g0 K' ρ' H' w'/\ARel K' w' ρ' H' (.pv r) v:=by
    rcases hq with ⟨ps,hps,e1,hfit⟩|⟨t,ht,hget,hfit⟩
    ·cases e1;exact fin _ hf' he' hps hfit
    ·obtain ⟨v,hv1,hv2⟩:=he' t _ hget;have hin:=hfit.2;simp only [Xm,Bool.and_eq_true] at hin;have hres:(results fn a'.tmps).run P w'=.ok v w':=by
      unfold results;rw [Array.mapM_eq_mapM_toList,hrs,ht];simp [Result.andThen,hv1]
     exact ⟨v,hres,K',ρ',back (hf'.narrow hfit),hv2.refs hin.1.1⟩
   obtain ⟨v,hres,K2,ρ2,hf2,hval⟩:=key;rcases he with rfl|rfl <;> (simp only [bodyPostD,i2'];exact ⟨v,hres,v,K2,ρ2,rfl,hf2,hval⟩)
  | [d],hi,hq =>
   obtain ⟨mode,u',f2,slots,caps,ps,Hn,H2,rp,hm,rfl,hfit,hb1,hb2,hD,hset,hsl,hnd,hsub,hrp,rfl,hft⟩:=hq;obtain ⟨i1,i2,K',ρ',hf',hE⟩:=(hi.sub hsub).hsub hfit;have i2':a'.defers=[{ target:=.fn (.func f2) ps.toArray,args:=#[] }]:=i2;have hslots:=zf2 hf' hb1 hE hsl hnd;have key:mode≠.run->Leaves P fn a'.tmps (fun e w'=>∃ v K' ρ',e=.returned v/\FS g0 K' ρ' H' w'/\ARel K' w' ρ' H' (.pv (zn rp)) v) [{ target:=.fn (.func f2) ps.toArray,args:=#[] }] mode w':=by
    intro hmr;refine leaves_cons hmr (f:=f2) (args:=ps.toArray) (by simp [invoke,ZK hD.stands]) ?_;refine (hD.calls _ K' ρ' w' ps hf' (QO hf' hb1)).mono ?_;rintro e m w2 ⟨⟨v0,rfl⟩,rfl,K2,ρ2,hf2⟩;obtain ⟨v,hres,K3,ρ3,hf3,hval⟩:=fin _ hf2 (zfM (QO hf2 hb2) hsl hslots) hrp hft;simp only [hset];exact ⟨v,hres,v,K3,ρ3,rfl,hf3,hval⟩
   cases e with
   | normal=>simp only [WS,Option.some.injEq] at hm;subst hm;simp only [bodyPostD,i2'];exact key zwy63
   | ret=>simp only [WS,Option.some.injEq] at hm;subst hm;simp only [bodyPostD,i2'];exact key zwy63
   | panic ch=>simp only [WS,Option.some.injEq] at hm;subst hm;simp only [bodyPostD,i2'];exact key zwy63
   | exit id=>simp [WS] at hm
   | goto l=>simp [WS] at hm
   | outgrown=>simp [WS] at hm
  | _::_::_,_,hq=>exact hq.elim
end
end Go.Cg
