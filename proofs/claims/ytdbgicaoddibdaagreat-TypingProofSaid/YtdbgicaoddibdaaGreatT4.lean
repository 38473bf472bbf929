/- A part of the walks by abstract values: no statement of its own. -/
import Derived.Test.YtdbgicaoddibdaaGreatT3
import Derived.WalkSpells
set_option linter.unusedVariables false
set_option linter.unusedSimpArgs false
namespace Go.Cg
open Go.RowKit
def zgd:List Operand→List Nat
 | []=>[]
 | .tmp t::xs=>t::zgd xs
 | _::xs=>zgd xs
def readsOf (ops:List Oper) (o:Oper):List Nat:=zgd o.op.operands.toList++(Xn ops o).toList
def qj (o:Oper) (i:Nat):Bool:=o.after.toList.any fun e=>Region.binds .any e&&e.on==i
def Qh (ops l:List Oper):Bool :=
 l.zipIdx.all fun x=>x.1.after.toList.all (fun e=>!Region.binds .any e||decide (e.on < x.2)) &&
  (match x.1.op with|.select _ _=>false|_=>true) &&
  l.zipIdx.all fun y =>
   match y.1.dst with
    | none=>true
    | some t=>(y.2==x.2||x.1.dst != some t)&&(!(readsOf ops x.1).contains t||(decide (y.2 < x.2)&&qj x.1 y.2)||(decide (x.2 < y.2)&&qj y.1 x.2))
def Xk (ops:List Oper) (k:Nat):Bool:=(ops.zipIdx.drop k).all fun x=>(List.range x.2).all (fun i=>qj x.1 i)&&x.1.after.toList.all (fun e=>!Region.binds .any e||decide (e.on < x.2))
inductive AD (P:Program) (n:Nat) (g:Base) (H:HEnv) (ops:List Oper) (Q:Env→Prop):List Oper→Env→Prop where
 | nil (env:Env):Q env→AD P n g H ops Q [] env
 | step (o:Oper) (rest:List Oper) (env:Env) (r:AV) (t:Nat):guardE ops env o=some true→QStep P g H o env r→o.dst=some t→Nat.blt t n=true→AD P n g H ops Q rest ((t,r)::env)→AD P n g H ops Q (o::rest) env
 | skip (o:Oper) (rest:List Oper) (env:Env) (t:Nat):guardE ops env o=some false→o.dst=some t→Nat.blt t n=true→AD P n g H ops Q rest ((t,.pv (.tup []))::env)→AD P n g H ops Q (o::rest) env
 | case (l:List Oper) (env:Env) (t:Nat) (b:Bool):env.get t=some (.pv (.base (.bool b)))→(b=true→AD P n g H ops Q l ((t,.pv (.base (.bool true)))::env))→(b=false→AD P n g H ops Q l ((t,.pv (.base (.bool false)))::env))→AD P n g H ops Q l env
theorem zq {P:Program} {n:Nat} {g:Base} {H:HEnv} {ops:List Oper} {Q:Env→Prop} {o:Oper} {rest:List Oper} {env:Env} {r:AV} {t:Nat} (h1:guardE ops env o=some true) (h2:QStep P g H o env r) (h3:o.dst=some t) (h4:Nat.blt t n=true) (h:AD P n g H ops Q rest ((t,r)::env)):AD P n g H ops Q (o::rest) env:=.step o rest env r t h1 h2 h3 h4 h
section
variable {P:Program} {n:Nat} {g:Base} {K:KK} {w:World} {ρ:Nat→Value} {H:HEnv} {env:Env} {a:Act} {ops l:List Oper} {Q:Env→Prop}
theorem QG {l:List Oper} {o:Oper} {j:Nat} (h:l[j]?=some o):(o,j)∈l.zipIdx:=by
 rw [List.mem_zipIdx_iff_getElem?];exact h
theorem zaw {t:Nat}:∀ {xs:List Operand},.tmp t∈xs→t∈zgd xs
 | .tmp t'::xs,h=>by
  rcases List.mem_cons.1 h with h|h
  ·cases h;simp [zgd]
  ·simp [zgd,zaw h]
 | .const _::xs,h=>zaw (xs:=xs) ((List.mem_cons.1 h).resolve_left (fun h=>by cases h))
 | .global _::xs,h=>zaw (xs:=xs) ((List.mem_cons.1 h).resolve_left (fun h=>by cases h))
 | .func _::xs,h=>zaw (xs:=xs) ((List.mem_cons.1 h).resolve_left (fun h=>by cases h))
theorem zgw (hB:Qh ops l=true) {j:Nat} {o:Oper} (ho:l[j]?=some o):(∀ i,qj o i=true→i < j) ∧
  (∀ i o' t,l[i]?=some o'→o'.dst=some t→i≠j→o.dst≠some t) ∧
  (∀ i o' t,l[i]?=some o'→o'.dst=some t→t∈readsOf ops o→(i < j∧qj o i=true)∨(j < i∧qj o' j=true)):=by
 have h:=List.all_eq_true.1 hB (o,j) (QG ho);simp only [Bool.and_eq_true] at h;obtain ⟨⟨h2,_⟩,h3⟩:=h;refine ⟨fun i hi=>?_,fun i o' t hi hd hne=>?_,fun i o' t hi hd ht=>?_⟩
 ·unfold qj at hi;obtain ⟨e,he,heq⟩:=List.any_eq_true.1 hi;simp only [Bool.and_eq_true,beq_iff_eq] at heq;have:=List.all_eq_true.1 h2 e he;simp only [heq.1,Bool.not_true,Bool.false_or,decide_eq_true_eq] at this;omega
 ·have:=List.all_eq_true.1 h3 (o',i) (QG hi);simp only [hd,Bool.and_eq_true,Bool.or_eq_true,beq_iff_eq,bne_iff_ne] at this;exact this.1.resolve_left hne
 ·have:=List.all_eq_true.1 h3 (o',i) (QG hi);simp only [hd,Bool.and_eq_true] at this;have h4:=this.2;simp only [Bool.or_eq_true,Bool.and_eq_true,Bool.not_eq_true',decide_eq_true_eq] at h4;rcases h4 with (h4|h4)|h4
  ·have hc:(readsOf ops o).contains t=true:=List.contains_iff_mem.2 ht;rw [hc] at h4;cases h4
  ·exact .inl h4
  ·exact .inr h4
theorem qy {l:Array Bool} {i j:Nat} {d x:Bool} (h:j≠i):(l.setIfInBounds i x).getD j d=l.getD j d:=by
 simp only [Array.getD_eq_getD_getElem?,Array.getElem?_setIfInBounds_ne (Ne.symm h)]
theorem ZH {l:Array Bool} {i:Nat} {d x:Bool} (h:i < l.size):(l.setIfInBounds i x).getD i d=x:=by
 simp [Array.getD_eq_getD_getElem?,Array.getElem?_setIfInBounds_self_of_lt h]
theorem qN {listed:Array Bool} {j:Nat}:j∈Region.ready .any ops.toArray listed↔∃ o,ops[j]?=some o∧listed.getD j true=false∧∀ i,qj o i=true→listed.getD i false=true:=by
 simp only [Region.ready,List.mem_filter,List.mem_range,List.size_toArray,Bool.and_eq_true,Bool.not_eq_true',List.getElem?_toArray];constructor
 ·rintro ⟨hlt,hun,hall⟩;refine ⟨ops[j],List.getElem?_eq_getElem hlt,hun,fun i hi=>?_⟩;rw [List.getElem?_eq_getElem hlt] at hall;simp only [Option.map_some,Option.getD_some] at hall;unfold qj at hi;obtain ⟨e,he,heq⟩:=List.any_eq_true.1 hi;simp only [Bool.and_eq_true,beq_iff_eq] at heq;obtain ⟨k,hk⟩:=List.getElem?_of_mem he;have:=Array.all_eq_true.1 hall k (by have:=(List.getElem?_eq_some_iff.1 hk).1;simpa using this);have hek:(ops[j]).after[k]'(by have:=(List.getElem?_eq_some_iff.1 hk).1;simpa using this)=e:=by
   have:=(List.getElem?_eq_some_iff.1 hk).2;simpa using this
  rw [hek] at this;simp only [heq.1,Bool.not_true,Bool.false_or] at this;rw [←heq.2];exact this
 ·rintro ⟨o,ho,hun,hall⟩;refine ⟨(List.getElem?_eq_some_iff.1 ho).1,hun,?_⟩;rw [ho];simp only [Option.map_some,Option.getD_some];rw [Array.all_eq_true];intro k hk;by_cases hb:Region.binds .any o.after[k]=true
  ·have:=hall o.after[k].on (by
    unfold qj;exact List.any_eq_true.2 ⟨o.after[k],by simp,by simp [hb]⟩)
   simp [this]
  ·simp [hb]
theorem ziT {R:Exit→Act→World→Prop} {k:Nat} (hT:Xk ops k=true):∀ (fuel m:Nat) (listed:Array Bool) (a:Act) (w:World),k≤m→m + fuel=ops.length→listed.size=ops.length→(∀ i,i < ops.length→listed.getD i true=decide (i < m)) →
  wpList P ops.toArray R (ops.drop m) a w→wpAny P .any ops.toArray R fuel listed a w:=by
 have hlf:∀ (listed:Array Bool),listed.size=ops.length→∀ i,i < ops.length→listed.getD i false=listed.getD i true:=by
  intro listed hs i hi;rw [Array.getD_eq_getD_getElem?,Array.getD_eq_getD_getElem?,Array.getElem?_eq_getElem zwy62];rfl
 intro fuel;induction fuel with
 | zero =>
  intro m listed a w hk hm hs hl h;have:ops.drop m=[]:=List.drop_eq_nil_of_le zwy62;rw [this] at h;refine ⟨?_,h⟩;rw [List.eq_nil_iff_forall_not_mem];intro j hj;obtain ⟨o,ho,hun,_⟩:=qN.1 hj;have hlt:=(List.getElem?_eq_some_iff.1 ho).1;rw [hl j hlt] at hun;simp at hun;omega
 | succ fuel ih =>
  intro m listed a w hk hm hs hl h;have hmlt:m < ops.length:=by omega
  have hom:ops[m]?=some ops[m]:=List.getElem?_eq_getElem hmlt;have hdrop:ops.drop m=ops[m]::ops.drop (m + 1):=(List.drop_eq_getElem_cons hmlt)
  have hall':∀ j o,ops[j]?=some o→k≤j→(∀ i,i < j→qj o i=true)∧∀ i,qj o i=true→i < j:=by
   intro j o ho hkj;have hmem:(o,j)∈ops.zipIdx.drop k:=by
    rw [List.mem_drop_iff_getElem];have hlt:=(List.getElem?_eq_some_iff.1 ho).1;refine ⟨j - k,by simp;omega,?_⟩;simp only [List.getElem_zipIdx,Nat.zero_add];have:k + (j - k)=j:=by omega
    simp only [this];rw [(List.getElem?_eq_some_iff.1 ho).2]
   have h1:=List.all_eq_true.1 hT (o,j) hmem;simp only [Bool.and_eq_true] at h1;refine ⟨fun i hi=>List.all_eq_true.1 h1.1 i (List.mem_range.2 hi),fun i hi=>?_⟩;unfold qj at hi;obtain ⟨e,he,heq⟩:=List.any_eq_true.1 hi;simp only [Bool.and_eq_true,beq_iff_eq] at heq;have:=List.all_eq_true.1 h1.2 e he;simp only [heq.1,Bool.not_true,Bool.false_or,decide_eq_true_eq] at this;omega
  have hall:∀ j o,ops[j]?=some o→k≤j→∀ i,i < j→qj o i=true:=fun j o ho hkj=>(hall' j o ho hkj).1
  have honly:∀ j,j∈Region.ready .any ops.toArray listed→j=m:=by
   intro j hj;obtain ⟨o,ho,hun,hedge⟩:=qN.1 hj;have hlt:=(List.getElem?_eq_some_iff.1 ho).1;rw [hl j hlt] at hun;simp at hun;by_cases e:j=m
   ·exact e
   ·have:=hedge m (hall j o ho zwy62 m zwy62);rw [hlf listed hs m hmlt,hl m hmlt] at this;simp at this
  refine ⟨fun h0=>?_,fun j hj=>?_⟩
  ·have hedge:∀ i,qj ops[m] i=true→listed.getD i false=true:=fun i hi=>by
    have:=(hall' m _ hom hk).2 i hi;rw [hlf listed hs i zwy62,hl i zwy62];simp [this]
   ·have:m∈Region.ready .any ops.toArray listed:=qN.2 ⟨ops[m],hom,by rw [hl m hmlt];simp,hedge⟩;rw [h0] at this;cases this
  ·obtain rfl:=honly j hj;unfold wpOp;simp only [List.getElem?_toArray,hom];rw [hdrop] at h;unfold wpList at h;have hnext:∀ a w,wpList P ops.toArray R (ops.drop (j + 1)) a w→wpAny P .any ops.toArray R fuel (listed.setIfInBounds j true) a w:=fun a w h=>ih (j + 1) _ a w zwy62 zwy62 (by simp [hs]) (fun i hi=>by
    by_cases e:i=j
    ·subst e;rw [ZH zwy62];simp
    ·rw [qy e,hl i hi];simp only [decide_eq_decide];omega) h
   split at h
   ·rename_i hw;rw [if_pos hw];exact h.imp (fun h=>Oper.wp_mono hnext h) id
   ·rename_i hw;rw [if_neg hw];exact hnext _ _ h
theorem QZ {Q':Env→Prop} {l:List Oper} (hq:∀ env,Q env→Q' env) (h:AD P n g H ops Q l env):AD P n g H ops Q' l env:=by
 induction h with
 | nil env h=>exact .nil env (hq env h)
 | step o rest env r t h1 h2 h3 h4 _ ih=>exact .step o rest env r t h1 h2 h3 h4 ih
 | skip o rest env t h1 h2 h3 _ ih=>exact .skip o rest env t h1 h2 h3 ih
 | case l env t b hb _ _ ih1 ih2=>exact .case l env t b hb ih1 ih2
end
def qg (A B:HEnv):Bool:=A.all fun x=>(B.get x.1).isSome
theorem Ym {A B:HEnv} (h:qg A B=true):∀ j,(A.get j).isSome=true→(B.get j).isSome=true:=by
 induction A with
 | nil=>intro j hj;simp [HEnv.get_nil] at hj
 | cons y A ih =>
  intro j hj;obtain ⟨i,z⟩:=y;simp only [qg,List.all_cons,Bool.and_eq_true] at h;rw [HEnv.get_cons] at hj;split at hj
  ·rename_i e;subst e;exact h.1
  ·exact ih h.2 j hj
theorem qR:∀ (A B:HEnv),qg A (B++A)=true
 | [],_=>rfl
 | (i,x)::A,B=>by
  rw [qg,List.all_cons,Bool.and_eq_true];refine ⟨?_,by have:=qR A (B++[(i,x)]);rwa [List.append_assoc] at this⟩;induction B with
  | nil=>rw [List.nil_append,HEnv.get_cons,if_pos rfl];rfl
  | cons y B ih =>
   obtain ⟨j,z⟩:=y;rw [List.cons_append,HEnv.get_cons];split
   ·rfl
   ·exact ih
section
variable {P:Program} {n:Nat} {g:Base} {K:KK} {w:World} {ρ:Nat→Value} {H H0 H1:HEnv} {env:Env} {a:Act} {ops l:List Oper} {Q:Env→Prop}
theorem znI {l:List Oper} {r:List AV} {e:List Env} {last env:Env} {o:Oper} {ro:AV} {t:Nat} (hd:o.dst=some t)
  (src:∀ (j:Nat) (ej:Env),(e++[last])[j]?=some ej→∀ (t':Nat) (av:AV),ej.get t'=some av→(∃ i o ri,i < j∧l[i]?=some o∧o.dst=some t'∧r[i]?=some ri∧Tells ri av∧(∀ i' o',i < i'→i' < j→l[i']?=some o'→o'.dst≠some t')) ∨
   ((∀ i o,i < j→l[i]?=some o→o.dst≠some t')∧∃ av0,Env.get ((t,ro)::env) t'=some av0∧Tells av0 av)) :
  ∀ (j:Nat) (ej:Env),(env::e++[last])[j]?=some ej→∀ (t':Nat) (av:AV),ej.get t'=some av→(∃ i o' ri,i < j∧(o::l)[i]?=some o'∧o'.dst=some t'∧(ro::r)[i]?=some ri∧Tells ri av∧(∀ i' o',i < i'→i' < j→(o::l)[i']?=some o'→o'.dst≠some t')) ∨
   ((∀ i o',i < j→(o::l)[i]?=some o'→o'.dst≠some t')∧∃ av0,env.get t'=some av0∧Tells av0 av):=by
 intro j ej hj t' av hav;cases j with
 | zero=>simp at hj;subst hj;exact .inr ⟨by simp,av,hav,.refl _⟩
 | succ j =>
  have hj':(e++[last])[j]?=some ej:=by simpa using hj
  rcases src j ej hj' t' av hav with ⟨i,o',ri,h1,h2,h3,h4,h5,h6⟩|⟨h1,av0,h2,h3⟩
  ·refine .inl ⟨i + 1,o',ri,by omega,by simpa using h2,h3,by simpa using h4,h5,fun i' o'' hi hi' ho=>?_⟩;cases i' with
   | zero=>omega
   | succ i'=>exact h6 i' o'' zwy62 zwy62 zwy86
  ·simp only [Env.get_nil,Env.get_cons] at h2;split at h2
   ·rename_i e;subst e;simp only [Option.some.injEq] at h2;subst h2;refine .inl ⟨0,o,ro,by omega,rfl,hd,rfl,h3,fun i' o'' hi hi' ho=>?_⟩;cases i' with
    | zero=>omega
    | succ i'=>exact h1 i' o'' zwy62 zwy86
   ·rename_i hne;refine .inr ⟨fun i o' hi ho=>?_,av0,h2,h3⟩;cases i with
    | zero=>simp at ho;subst ho;rw [hd];simpa using hne
    | succ i=>exact h1 i o' zwy62 zwy86
end
def early (ET:List Nat) (o:Oper):Bool:=match o.dst with|some t=>ET.contains t|none=>false
def SQ (P:Program) (g:Base) (H:HEnv) (Hp:Nat→HEnv) (ET:List (List Nat)) (o:Oper) (e:Env) (r:AV):Prop:=QStep P g H o e r∨∃ p,early (ET.getD p []) o=true∧QStep P g (Hp p) o e r
def ztu (l:List Oper):List (List Nat) :=
 l.zipIdx.foldl (fun acc x=>acc++[(List.range x.2).filter fun j=>qj x.1 j||(List.range x.2).any fun m=>qj x.1 m&&(acc.getD m []).contains j]) []
theorem zke {l:List Oper} {listed:Array Bool} (hcl:∀ (i:Nat) (o:Oper),l[i]?=some o→listed.getD i true=true→∀ j,qj o j=true→listed.getD j false=true) (hlf:∀ i,listed.getD i false=true→listed.getD i true=true) {i j:Nat} {o:Oper} (hi:l[i]?=some o) (hpr:∀ m,qj o m=true→listed.getD m false=true)
  (hj:(ztu l).getD i [] |>.contains j):listed.getD j false=true:=by
 have key:∀ (xs:List (Oper × Nat)) (pre:List Oper) (acc:List (List Nat)),l=pre++xs.map (·.1)→xs=(xs.map (·.1)).zipIdx pre.length→acc.length=pre.length →
   (∀ i o j,l[i]?=some o→j∈acc.getD i []→(∀ m,qj o m=true→listed.getD m false=true)→listed.getD j false=true) →
   ∀ i o j,l[i]?=some o→j∈(xs.foldl (fun acc x=>acc++[(List.range x.2).filter fun j=>qj x.1 j||(List.range x.2).any fun m=>qj x.1 m&&(acc.getD m []).contains j]) acc).getD i []→(∀ m,qj o m=true→listed.getD m false=true)→listed.getD j false=true:=by
  intro xs;induction xs with
  | nil=>intro pre acc _ _ _ h;exact h
  | cons x xs ih =>
   intro pre acc h1 h2 h3 h;rw [List.map_cons,List.zipIdx_cons,List.cons.injEq] at h2;have hx2:x.2=pre.length:=by rw [h2.1]
   refine ih (pre++[x.1]) _ zwy99 (by simpa using h2.2) (by simp [h3]) ?_;intro i o j hi hj hpr;rw [List.getD_eq_getElem?_getD] at hj;by_cases hlt:i < acc.length
   ·rw [List.getElem?_append_left hlt,←List.getD_eq_getElem?_getD] at hj;exact h i o j hi hj hpr
   ·by_cases he:i=acc.length
    ·subst he;rw [List.getElem?_append_right (Nat.le_refl _)] at hj;simp only [Nat.sub_self,List.getElem?_cons_zero,Option.getD_some,List.mem_filter,Bool.or_eq_true] at hj;have ho:x.1=o:=by
      rw [h1,List.map_cons,h3,List.getElem?_append_right (Nat.le_refl _)] at hi;simpa using hi
     subst ho;rcases hj.2 with hj2|hj2
     ·exact hpr j hj2
     ·obtain ⟨m,hm1,hm2⟩:=List.any_eq_true.1 hj2;simp only [Bool.and_eq_true] at hm2;have hm:=hpr m hm2.1;have hml:m < acc.length:=by have:=List.mem_range.1 hm1;rw [hx2] at this;omega
      have hmo:m < l.length:=by rw [h1];simp;omega
      exact h m l[m] j (List.getElem?_eq_getElem hmo) (List.contains_iff_mem.1 hm2.2) (hcl m l[m] (List.getElem?_eq_getElem hmo) (hlf m hm))
    ·rw [List.getElem?_eq_none zwy64] at hj;simp at hj
 exact key l.zipIdx [] [] zwy63 zwy63 rfl zwy63 i o j hi (List.contains_iff_mem.1 hj) hpr
def zfd (l:List Oper) (E:List Nat) (ET:List (List Nat)):Bool :=
 let pr:=ztu l
 ET.zipIdx.all fun y=>l.zipIdx.all fun x=>!early y.1 x.1||((match y.2 with|0=>true|q + 1=>match E[q]? with|some e=>(pr.getD x.2 []).contains e|none=>false)&&(match E[y.2]? with|some e=>(pr.getD e []).contains x.2|none=>decide (y.2=E.length)))
structure ScriptM (P:Program) (n:Nat) (g:Base) (H:HEnv) (Hp:Nat→HEnv) (ET:List (List Nat)) (ops:List Oper) (l:List Oper) (E:List Nat) (env:Env) (Q:Env→Prop) where
 r:List AV
 e:List Env
 last:Env
 lenr:r.length=l.length
 lene:e.length=l.length
 ok:∀ (j:Nat) (o:Oper) (rj:AV) (ej:Env),j∉E→l[j]?=some o→r[j]?=some rj→e[j]?=some ej→∃ t,o.dst=some t∧t < n ∧
  ((guardE ops ej o=some true∧SQ P g H Hp ET o ej rj)∨(guardE ops ej o=some false∧rj=.pv (.tup [])))
 src:∀ (j:Nat) (ej:Env),(e++[last])[j]?=some ej→∀ (t:Nat) (av:AV),ej.get t=some av→(∃ i o ri,i < j∧l[i]?=some o∧o.dst=some t∧r[i]?=some ri∧Tells ri av∧(∀ i' o',i < i'→i' < j→l[i']?=some o'→o'.dst≠some t)) ∨
  ((∀ i o,i < j→l[i]?=some o→o.dst≠some t)∧∃ av0,env.get t=some av0∧Tells av0 av)
 fin:Q last
section
variable {P:Program} {n:Nat} {g:Base} {K:KK} {w:World} {ρ:Nat→Value} {H:HEnv} {Hp:Nat→HEnv} {ET:List (List Nat)} {env:Env} {a:Act} {ops l:List Oper} {Q:Env→Prop}
def znu (n:Nat) (ops:List Oper) (F:Nat→Oper→Env→AV→Prop) (l:List Oper) (r:List AV) (e:List Env) (p j:Nat):Prop :=
 ∃ oc rc ec,l[j]?=some oc∧(∀ tc,oc.dst=some tc→tc < n)∧r[j]?=some rc∧e[j]?=some ec∧guardE ops ec oc=some true∧F p oc ec rc
def WO (P:Program) (n:Nat) (g:Base) (H:HEnv) (Hp:Nat→HEnv) (ET:List (List Nat)) (ops:List Oper) (Q:Env→Prop) (F:Nat→Oper→Env→AV→Prop) (E:List Nat) (l:List Oper) (env:Env):Prop :=
 ∃ s:ScriptM P n g H Hp ET ops l E env Q,∀ p j,E[p]?=some j→znu n ops F l s.r s.e p j
variable {F:Nat→Oper→Env→AV→Prop} {E:List Nat}
theorem zsP (h:Q env):WO P n g H Hp ET ops Q F [] [] env:=by
 refine ⟨⟨[],[],env,rfl,rfl,by simp,?_,h⟩,by simp⟩;intro j ej hj t av hav;cases j with
 | zero=>simp at hj;subst hj;exact .inr ⟨by simp,av,hav,.refl _⟩
 | succ j=>simp at hj
theorem zer {o:Oper} {r0:AV} {e0:Env} {r:List AV} {e:List Env} {p j:Nat} (h:znu n ops F l r e p j):znu n ops F (o::l) (r0::r) (e0::e) p (j + 1):=by
 obtain ⟨oc,rc,ec,h1,h2,h4,h5,h6,h7⟩:=h;exact ⟨oc,rc,ec,by simpa using h1,h2,by simpa using h4,by simpa using h5,h6,h7⟩
theorem zca {E:List Nat} {p j:Nat} (h:(E.map (· + 1))[p]?=some j):∃ j',j=j' + 1∧E[p]?=some j':=by
 rw [List.getElem?_map] at h;cases hE:E[p]? with
 | none=>simp [hE] at h
 | some j'=>simp [hE] at h;exact ⟨j',h.symm,rfl⟩
theorem zqR {o:Oper} {r:AV} {t:Nat} (hd:o.dst=some t) (ht:t < n) (hor:(guardE ops env o=some true∧SQ P g H Hp ET o env r)∨(guardE ops env o=some false∧r=.pv (.tup [])))
  (h:WO P n g H Hp ET ops Q F E l ((t,r)::env)):WO P n g H Hp ET ops Q F (E.map (· + 1)) (o::l) env:=by
 obtain ⟨s,hs⟩:=h;refine ⟨⟨r::s.r,env::s.e,s.last,by simp [s.lenr],by simp [s.lene],?_,znI hd s.src,s.fin⟩,?_⟩
 ·intro j o' rj ej hne ho hr he;cases j with
  | zero=>simp at ho hr he;subst ho hr he;exact ⟨t,hd,ht,hor⟩
  | succ j=>exact s.ok j o' rj ej (fun hm=>hne (List.mem_map.2 ⟨j,hm,rfl⟩)) zwy86 (by simpa using hr) zwy116
 ·intro p j hp;obtain ⟨j',rfl,hj'⟩:=zca hp;exact zer (hs p j' hj')
theorem zt2 {oc:Oper} {rc:AV} {tc:Nat} (hd:oc.dst=some tc) (ht:tc < n) (hg:guardE ops env oc=some true) (hF:F 0 oc env rc)
  (h:WO P n g H Hp ET ops Q (fun p=>F (p + 1)) E l ((tc,rc)::env)):WO P n g H Hp ET ops Q F (0::E.map (· + 1)) (oc::l) env:=by
 obtain ⟨s,hs⟩:=h;refine ⟨⟨rc::s.r,env::s.e,s.last,by simp [s.lenr],by simp [s.lene],?_,znI hd s.src,s.fin⟩,?_⟩
 ·intro j o' rj ej hne ho hr he;cases j with
  | zero=>exact absurd zwy63 hne
  | succ j=>exact s.ok j o' rj ej (fun hm=>hne (List.mem_cons_of_mem _ (List.mem_map.2 ⟨j,hm,rfl⟩))) zwy86 (by simpa using hr) zwy116
 ·intro p j hp;cases p with
  | zero=>simp at hp;subst hp;exact ⟨oc,rc,env,rfl,fun t h=>by rw [hd] at h;cases h;exact ht,rfl,rfl,hg,hF⟩
  | succ p =>
   obtain ⟨j',rfl,hj'⟩:=zca (E:=E) (p:=p) (by simpa using hp);exact zer (hs p j' hj')
theorem zrZ {l:List Oper} {r:List AV} {e:List Env} {last env:Env} {o:Oper} {ro:AV} (hd:o.dst=none)
  (src:∀ (j:Nat) (ej:Env),(e++[last])[j]?=some ej→∀ (t':Nat) (av:AV),ej.get t'=some av→(∃ i o ri,i < j∧l[i]?=some o∧o.dst=some t'∧r[i]?=some ri∧Tells ri av∧(∀ i' o',i < i'→i' < j→l[i']?=some o'→o'.dst≠some t')) ∨
   ((∀ i o,i < j→l[i]?=some o→o.dst≠some t')∧∃ av0,env.get t'=some av0∧Tells av0 av)) :
  ∀ (j:Nat) (ej:Env),(env::e++[last])[j]?=some ej→∀ (t':Nat) (av:AV),ej.get t'=some av→(∃ i o' ri,i < j∧(o::l)[i]?=some o'∧o'.dst=some t'∧(ro::r)[i]?=some ri∧Tells ri av∧(∀ i' o',i < i'→i' < j→(o::l)[i']?=some o'→o'.dst≠some t')) ∨
   ((∀ i o',i < j→(o::l)[i]?=some o'→o'.dst≠some t')∧∃ av0,env.get t'=some av0∧Tells av0 av):=by
 intro j ej hj t' av hav;cases j with
 | zero=>simp at hj;subst hj;exact .inr ⟨by simp,av,hav,.refl _⟩
 | succ j =>
  rcases src j ej zwy100 t' av hav with ⟨i,o',ri,h1,h2,h3,h4,h5,h6⟩|⟨h1,av0,h2,h3⟩
  ·refine .inl ⟨i + 1,o',ri,by omega,by simpa using h2,h3,by simpa using h4,h5,fun i' o'' hi hi' ho=>?_⟩;cases i' with
   | zero=>omega
   | succ i'=>exact h6 i' o'' zwy62 zwy62 zwy86
  ·refine .inr ⟨fun i o' hi ho=>?_,av0,h2,h3⟩;cases i with
   | zero=>simp at ho;subst ho;rw [hd];simp
   | succ i=>exact h1 i o' zwy62 zwy86
theorem zrO {oc:Oper} {rc:AV} (hd:oc.dst=none) (hg:guardE ops env oc=some true) (hF:F 0 oc env rc)
  (h:WO P n g H Hp ET ops Q (fun p=>F (p + 1)) E l env):WO P n g H Hp ET ops Q F (0::E.map (· + 1)) (oc::l) env:=by
 obtain ⟨s,hs⟩:=h;refine ⟨⟨rc::s.r,env::s.e,s.last,by simp [s.lenr],by simp [s.lene],?_,zrZ hd s.src,s.fin⟩,?_⟩
 ·intro j o' rj ej hne ho hr he;cases j with
  | zero=>exact absurd zwy63 hne
  | succ j=>exact s.ok j o' rj ej (fun hm=>hne (List.mem_cons_of_mem _ (List.mem_map.2 ⟨j,hm,rfl⟩))) zwy86 (by simpa using hr) zwy116
 ·intro p j hp;cases p with
  | zero=>simp at hp;subst hp;exact ⟨oc,rc,env,rfl,fun t h=>(by rw [hd] at h;cases h),rfl,rfl,hg,hF⟩
  | succ p =>
   obtain ⟨j',rfl,hj'⟩:=zca (E:=E) (p:=p) (by simpa using hp);exact zer (hs p j' hj')
theorem zod {H1:HEnv} {l1 l2:List Oper} (hS:∀ o∈l1,∀ e r,QStep P g H1 o e r→SQ P g H Hp ET o e r) (h:AD P n g H1 ops (fun env1=>WO P n g H Hp ET ops Q F E l2 env1) l1 env):WO P n g H Hp ET ops Q F (E.map (· + l1.length)) (l1++l2) env:=by
 induction h with
 | nil env hq=>simpa using hq
 | step o rest env r t hg hq hd ht _ ih =>
  have:=zqR hd (Nat.le_of_ble_eq_true ht) (.inl ⟨hg,hS o zwy63 _ _ hq⟩) (ih fun o' ho'=>hS o' (List.mem_cons_of_mem _ ho'));rw [List.map_map] at this;simpa [Function.comp_def,Nat.add_assoc] using this
 | skip o rest env t hg hd ht _ ih =>
  have:=zqR hd (Nat.le_of_ble_eq_true ht) (.inr ⟨hg,rfl⟩) (ih fun o' ho'=>hS o' (List.mem_cons_of_mem _ ho'));rw [List.map_map] at this;simpa [Function.comp_def,Nat.add_assoc] using this
 | case l env t b hb h1 h2 ih1 ih2 =>
  have key:∀ c,b=c→WO P n g H Hp ET ops Q F (E.map (· + l.length)) (l++l2) ((t,.pv (.base (.bool c)))::env)→WO P n g H Hp ET ops Q F (E.map (· + l.length)) (l++l2) env:=by
   rintro c rfl ⟨s,hs⟩;refine ⟨⟨s.r,s.e,s.last,s.lenr,s.lene,s.ok,?_,s.fin⟩,hs⟩;intro j ej hj t' av hav;rcases s.src j ej hj t' av hav with h|⟨h1,av0,h2,h3⟩
   ·exact .inl h
   ·refine .inr ⟨h1,?_⟩;simp only [Env.get_nil,Env.get_cons] at h2;split at h2
    ·rename_i e;subst e;simp only [Option.some.injEq] at h2;subst h2;exact ⟨_,hb,h3⟩
    ·exact ⟨av0,h2,h3⟩
  cases hb':b
  ·exact key false hb' (ih2 hb' hS)
  ·exact key true hb' (ih1 hb' hS)
theorem zl8 {l1 l2:List Oper} (h:AD P n g H ops (fun env1=>WO P n g H Hp ET ops Q F E l2 env1) l1 env):WO P n g H Hp ET ops Q F (E.map (· + l1.length)) (l1++l2) env:=zod (fun _ _ _ _ h=>.inl h) h
def phase (E:List Nat) (listed:Array Bool):Nat:=(E.filter fun j=>listed.getD j true).length
def Zz (l:List Oper):List Nat→Bool
 | []=>true
 | [j]=>(l[j]?).isSome
 | i::j::E=>Nat.blt i j&&(match l[j]? with|some o=>qj o i|none=>false)&&(l[i]?).isSome&&Zz l (j::E)
theorem zbJ:∀ {E:List Nat} {p i j:Nat},Zz l E=true→E[p]?=some i→E[p + 1]?=some j→i < j∧∃ o,l[j]?=some o∧qj o i=true
 | [],p,i,j,_,h,_=>by simp at h
 | [x],p,i,j,_,_,h=>by simp at h
 | x::y::E,p,i,j,hc,h1,h2=>by
  simp only [Zz,Bool.and_eq_true] at hc;obtain ⟨⟨⟨c1,c2⟩,c3⟩,c4⟩:=hc;cases p with
  | zero =>
   simp at h1 h2;subst h1 h2;refine ⟨Nat.le_of_ble_eq_true c1,?_⟩;cases hl:l[y]? with
   | none=>simp [hl] at c2
   | some o=>exact ⟨o,rfl,by simpa [hl] using c2⟩
  | succ p=>exact zbJ c4 zwy99 (by simpa using h2)
theorem zbV:∀ {E:List Nat},Zz l E=true→∀ {p q i j:Nat},p < q→E[p]?=some i→E[q]?=some j→i < j:=by
 intro E hc p q;induction q with
 | zero=>intro i j h;omega
 | succ q ih =>
  intro i j hpq h1 h2;cases hq:E[q]? with
  | none =>
   have:=(List.getElem?_eq_some_iff.1 h2).1;rw [List.getElem?_eq_none_iff] at hq;omega
  | some m =>
   have:=(zbJ hc hq h2).1;rcases Nat.lt_or_ge p q with h|h
   ·have:=ih h h1 hq;omega
   ·have:p=q:=by omega
    subst this;rw [h1] at hq;cases hq;exact this
theorem zao {E:List Nat} (hc:Zz l E=true) {p j:Nat} (h:E[p]?=some j):j < l.length:=by
 have key:∀ {E:List Nat},Zz l E=true→∀ {p j:Nat},E[p]?=some j→(l[j]?).isSome=true:=by
  intro E;induction E with
  | nil=>intro _ p j h;simp at h
  | cons x E ih =>
   intro hc p j h;cases E with
   | nil =>
    simp only [Zz] at hc;cases p with
    | zero=>simp at h;subst h;exact hc
    | succ p=>simp at h
   | cons y E =>
    simp only [Zz,Bool.and_eq_true] at hc;cases p with
    | zero=>simp at h;subst h;exact hc.1.2
    | succ p=>exact ih hc.2 zwy97
 have:=key hc h;cases hl:l[j]? with
 | none=>simp [hl] at this
 | some o=>exact (List.getElem?_eq_some_iff.1 hl).1
theorem zff {E:List Nat} {listed:Array Bool} {p:Nat} (hp:p≤E.length) (hlow:∀ q i,q < p→E[q]?=some i→listed.getD i true=true) (hhigh:∀ q i,p≤q→E[q]?=some i→listed.getD i true=false):phase E listed=p:=by
 have e:E=E.take p++E.drop p:=(List.take_append_drop p E).symm;unfold phase;rw [e,List.filter_append,List.length_append];have h1:(E.take p).filter (fun j=>listed.getD j true)=E.take p:=by
  rw [List.filter_eq_self];intro x hx;obtain ⟨q,hq⟩:=List.getElem?_of_mem hx;rw [List.getElem?_take] at hq;split at hq
  ·rename_i hlt;exact hlow q x hlt hq
  ·cases hq
 have h2:(E.drop p).filter (fun j=>listed.getD j true)=[]:=by
  rw [List.filter_eq_nil_iff];intro x hx;obtain ⟨q,hq⟩:=List.getElem?_of_mem hx;rw [List.getElem?_drop] at hq;simp [hhigh (p + q) x zwy62 hq]
 rw [h1,h2];simp;omega
theorem zlQ {listed:Array Bool} {i:Nat} (h:listed.getD i false=true):listed.getD i true=true:=by
 rw [Array.getD_eq_getD_getElem?] at h ⊢;cases hh:listed[i]? with
 | none=>rfl
 | some b=>rw [hh] at h;exact h
theorem zda {E:List Nat} {listed:Array Bool} (hc:Zz l E=true) (hcl:∀ (i:Nat) (o:Oper),l[i]?=some o→listed.getD i true=true→∀ j,qj o j=true→listed.getD j false=true) {j:Nat} {oc:Oper} (hjc:l[j]?=some oc) (hready:∀ i,qj oc i=true→listed.getD i false=true) :
  ∀ {p:Nat},E[p]?=some j→∀ q i,q < p→E[q]?=some i→listed.getD i true=true:=by
 intro p hp;have key:∀ d q i,q + d + 1=p→E[q]?=some i→listed.getD i true=true:=by
  intro d;induction d with
  | zero =>
   intro q i hq hi;have hp':E[q + 1]?=some j:=by rw [show q + 1=p by omega];exact hp
   obtain ⟨_,o,ho,he⟩:=zbJ hc hi hp';rw [hjc] at ho;cases ho;exact zlQ (hready i he)
  | succ d ih =>
   intro q i hq hi;have hlt:q + 1 < E.length:=by have:=(List.getElem?_eq_some_iff.1 hp).1;omega
   have hn:=List.getElem?_eq_getElem hlt;have h1:=ih (q + 1) _ zwy62 hn;obtain ⟨_,o,ho,he⟩:=zbJ hc hi hn;exact zlQ (hcl _ o ho h1 i he)
 intro q i hq hi;exact key (p - q - 1) q i zwy62 hi
theorem zoD {E:List Nat} {listed:Array Bool} (hc:Zz l E=true) (hcl:∀ (i:Nat) (o:Oper),l[i]?=some o→listed.getD i true=true→∀ j,qj o j=true→listed.getD j false=true) {j:Nat} (hun:listed.getD j true=false) :
  ∀ {p:Nat},E[p]?=some j→∀ q i,p≤q→E[q]?=some i→listed.getD i true=false:=by
 intro p hp q;induction q with
 | zero =>
  intro i hq hi;have:p=0:=by omega
  subst this;rw [hp] at hi;cases hi;exact hun
 | succ q ih =>
  intro i hq hi;rcases Nat.eq_or_lt_of_le hq with e|h
  ·subst e;rw [hp] at hi;cases hi;exact hun
  ·have hlt:q < E.length:=by have:=(List.getElem?_eq_some_iff.1 hi).1;omega
   have hn:=List.getElem?_eq_getElem hlt;have h1:=ih _ zwy62 hn;obtain ⟨_,o,ho,he⟩:=zbJ hc hn hi;cases hb:listed.getD i true with
   | false=>rfl
   | true =>
    have:=zlQ (hcl i o ho hb _ he);rw [h1] at this;cases this
theorem ZV {F:Nat→Oper→Env→AV→Prop} (h:AD P n g H ops Q l env):WO P n g H Hp ET ops Q F [] l env:=by
 have:=zl8 (Hp:=Hp) (ET:=ET) (E:=[]) (l2:=[]) (F:=F) (QZ (fun env h=>zsP h) h);simpa using this
theorem Yp {F:Nat→Oper→Env→AV→Prop} {E:List Nat} (jc:Nat) (E':List Nat) {oc:Oper} {tc:Nat} (rc:AV) (hsp:l=l.take jc++oc::l.drop (jc + 1)) (hjl:Nat.ble jc l.length=true) (hE:E=jc::E'.map fun x=>x + 1 + jc) (hd:oc.dst=some tc) (ht:Nat.blt tc n=true)
  (h:AD P n g H ops (fun env1=>(guardE ops env1 oc=some true∧F 0 oc env1 rc)∧WO P n g H Hp ET ops Q (fun p=>F (p + 1)) E' (l.drop (jc + 1)) ((tc,rc)::env1)) (l.take jc) env):WO P n g H Hp ET ops Q F E l env:=by
 have h1:=QZ (fun env1 h=>zt2 hd (Nat.le_of_ble_eq_true ht) h.1.1 h.1.2 h.2) h;have h2:=zl8 h1;have hl:(l.take jc).length=jc:=by have:=Nat.le_of_ble_eq_true hjl;simp;omega
 rw [hl,←hsp] at h2;rw [hE];simpa [Function.comp_def] using h2
theorem Zt {F:Nat→Oper→Env→AV→Prop} {E:List Nat} (E':List Nat) {oc:Oper} (rc:AV) (hl:l=oc::l.tail) (hE:E=0::E'.map fun x=>x + 1) (hd:oc.dst=none)
  (h:(guardE ops env oc=some true∧F 0 oc env rc)∧WO P n g H Hp ET ops Q (fun p=>F (p + 1)) E' l.tail env):WO P n g H Hp ET ops Q F E l env:=by
 have:=zrO hd h.1.1 h.1.2 h.2;rw [←hl] at this;rw [hE];exact this
theorem Qp {F:Nat→Oper→Env→AV→Prop} {E:List Nat} (k:Nat) (E':List Nat) (hk:Nat.ble k l.length=true) (hE:E=E'.map fun x=>x + k)
  (h:AD P n g H ops (fun env1=>WO P n g H Hp ET ops Q F E' (l.drop k) env1) (l.take k) env):WO P n g H Hp ET ops Q F E l env:=by
 have h2:=zl8 h;have hl:(l.take k).length=k:=by have:=Nat.le_of_ble_eq_true hk;simp;omega
 rw [hl,List.take_append_drop] at h2;rw [hE];exact h2
theorem QF {F:Nat→Oper→Env→AV→Prop} {E:List Nat} (p k:Nat) (E':List Nat) (hk:Nat.ble k l.length=true) (hE:E=E'.map fun x=>x + k) (hall:(l.take k).all (early (ET.getD p []))=true)
  (h:AD P n g (Hp p) ops (fun env1=>WO P n g H Hp ET ops Q F E' (l.drop k) env1) (l.take k) env):WO P n g H Hp ET ops Q F E l env:=by
 have h2:=zod (fun o ho _ _ hq=>.inr ⟨p,List.all_eq_true.1 hall o ho,hq⟩) h;have hl:(l.take k).length=k:=by have:=Nat.le_of_ble_eq_true hk;simp;omega
 rw [hl,List.take_append_drop] at h2;rw [hE];exact h2
end
structure EStepN (P:Program) (g:Base) (H0 H1 N N1:HEnv) (o:Oper) (e:Env) (r:AV) (pan:Option Value):Prop where
 go:∀ (K:KK) (ρ:Nat→Value) (a:Act) (w:World),FS g K ρ H0 w→(∀ x∈o.op.operands,∀ av,e.val x=some av→ARel K w ρ N av (a.eval x)) →
  (∃ f vs,(execOp a.eval o).run P w=.ok (.enter f vs) w∧Calls P f vs w fun ex w' =>
   match pan with
   | none=>∃ v K' ρ',ex=.returned v∧FS g K' ρ' H1 w'∧Later K K' w w'∧(∀ j,(N.get j).isSome=true→ρ' j=ρ j)∧ARel K' w' ρ' N1 r v
   | some v=>ex=.panicked [{ v:=v,recovered:=false }]∧∃ K' ρ',FS g K' ρ' [] w') ∨
  (pan=none∧∃ v w' K' ρ',((execOp a.eval o).run P w=.ok (.value v) w'∨(execOp a.eval o).run P w=.ok .skip w'∧v=undef)∧FS g K' ρ' H1 w'∧Later K K' w w'∧(∀ j,(N.get j).isSome=true→ρ' j=ρ j)∧ARel K' w' ρ' N1 r v)
def lvl:List Nat→Nat→Nat
 | [],_=>0
 | j::E,i=>if i=j then 1 else match lvl E i with|0=>0|q + 1=>q + 2
theorem za1 {i:Nat}:∀ {E:List Nat},i∉E→lvl E i=0
 | [],_=>rfl
 | j::E,h=>by
  rw [List.mem_cons,not_or] at h;rw [lvl,if_neg h.1,za1 h.2]
theorem zcQ {i:Nat}:∀ {E:List Nat} {p:Nat},E.Nodup→E[p]?=some i→lvl E i=p + 1
 | [],p,_,h=>by simp at h
 | j::E,0,_,h=>by simp at h;subst h;simp [lvl]
 | j::E,p + 1,hn,h=>by
  rw [List.nodup_cons] at hn;have h':E[p]?=some i:=by simpa using h
  have hm:i∈E:=List.mem_of_getElem? h';rw [lvl,if_neg (fun e=>hn.1 (by rw [←e];exact hm)),zcQ hn.2 h']
theorem QK {l:List Oper} {E:List Nat} (hc:Zz l E=true):E.Nodup:=by
 have h:E.Pairwise (· < ·):=by
  rw [List.pairwise_iff_getElem];intro i j hi hj hij;exact zbV hc hij (List.getElem?_eq_getElem hi) (List.getElem?_eq_getElem hj)
 exact h.imp (fun h=>Nat.ne_of_lt h)
section
variable {P:Program} {n:Nat} {g:Base} {K:KK} {w:World} {ρ:Nat→Value} {H:HEnv} {Hp:Nat→HEnv} {ET:List (List Nat)} {env:Env} {a:Act} {ops l:List Oper} {Q:Env→Prop} {E:List Nat}
theorem zuo {listed:Array Bool} (hc:Zz l E=true) (hcl:∀ (i:Nat) (o:Oper),l[i]?=some o→listed.getD i true=true→∀ j,qj o j=true→listed.getD j false=true) {i:Nat} {o:Oper} (hi:l[i]?=some o) (hli:listed.getD i true=true):lvl E i≤phase E listed:=by
 by_cases hm:i∈E
 ·obtain ⟨p,hp⟩:=List.getElem?_of_mem hm;rw [zcQ (QK hc) hp];have hlow:=zda (listed:=listed) hc hcl hi (fun j hj=>hcl i o hi hli j hj) hp;have hplt:=(List.getElem?_eq_some_iff.1 hp).1;unfold phase;have e:E=E.take (p + 1)++E.drop (p + 1):=(List.take_append_drop _ E).symm;rw [e,List.filter_append,List.length_append];have h1:(E.take (p + 1)).filter (fun j=>listed.getD j true)=E.take (p + 1):=by
   rw [List.filter_eq_self];intro x hx;obtain ⟨q,hq⟩:=List.getElem?_of_mem hx;rw [List.getElem?_take] at hq;split at hq
   ·rename_i hlt;by_cases e:q=p
    ·subst e;rw [hp] at hq;cases hq;exact hli
    ·exact hlow q x zwy62 hq
   ·cases hq
  rw [h1];simp;omega
 ·rw [za1 hm];exact Nat.zero_le _
structure MidN {P:Program} {n:Nat} {g:Base} {H:HEnv} {Hp:Nat→HEnv} {ET:List (List Nat)} {ops l:List Oper} {E:List Nat} {env:Env} {Q:Env→Prop} (Hs Nm:Nat→HEnv) (pan:Option Value) (s:ScriptM P n g H Hp ET ops l E env Q) (listed:Array Bool) (a:Act) (w:World):Prop where
 size:a.tmps.size=n
 defers:a.defers=g.ds
 lsize:listed.size=ops.length
 llen:l.length≤ops.length
 notail:∀ j,l.length≤j→j < ops.length→listed.getD j true=false
 closed:∀ (i:Nat) (o:Oper),l[i]?=some o→listed.getD i true=true→∀ j,qj o j=true→listed.getD j false=true
 nopan:phase E listed=E.length→pan=none
 st:∃ K ρ,FS g K ρ (Hs (phase E listed)) w ∧
  (∀ (i:Nat) (o:Oper) (ri:AV) (t:Nat),l[i]?=some o→listed.getD i true=true→s.r[i]?=some ri→o.dst=some t→∃ v,a.tmps[t]?=some v∧ARel K w ρ (Nm (lvl E i)) ri v) ∧
  (∀ (t:Nat) (av:AV),env.get t=some av→(∀ (i:Nat) (o:Oper),l[i]?=some o→listed.getD i true=true→o.dst≠some t)→∃ v,a.tmps[t]?=some v∧ARel K w ρ H av v)
variable {pan:Option Value} {Hs Nm:Nat→HEnv}
theorem MidN.next {s:ScriptM P n g H Hp ET ops l E env Q} {listed:Array Bool} (hch:Zz l E=true) (hN0:Nm 0=H) (hB:Qh ops l=true) (hm:MidN Hs Nm pan s listed a w) {j:Nat} {o:Oper} {rj:AV} (ho:l[j]?=some o) (hr:s.r[j]?=some rj) (hdt:∀ t,o.dst=some t→t < n)
  (hun:listed.getD j true=false) (hready:∀ i,qj o i=true→listed.getD i false=true) {K':KK} {ρ':Nat→Value} {w':World} {v:Value} {K0:KK} {ρ0:Nat→Value}
  (hpn:phase E (listed.setIfInBounds j true)=E.length→pan=none)
  (hf':FS g K' ρ' (Hs (phase E (listed.setIfInBounds j true))) w')
  (htr:∀ q,q≤phase E listed→∀ av u,ARel K0 w ρ0 (Nm q) av u→ARel K' w' ρ' (Nm q) av u)
  (hl:∀ (i:Nat) (o:Oper) (ri:AV) (t:Nat),l[i]?=some o→listed.getD i true=true→s.r[i]?=some ri→o.dst=some t→∃ v,a.tmps[t]?=some v∧ARel K0 w ρ0 (Nm (lvl E i)) ri v)
  (he:∀ (t:Nat) (av:AV),env.get t=some av→(∀ (i:Nat) (o:Oper),l[i]?=some o→listed.getD i true=true→o.dst≠some t)→∃ v,a.tmps[t]?=some v∧ARel K0 w ρ0 H av v)
  (hv:ARel K' w' ρ' (Nm (lvl E j)) rj v):MidN Hs Nm pan s (listed.setIfInBounds j true) (a.put o.dst v) w':=by
 have hjlt:j < listed.size:=by rw [hm.lsize];exact Nat.lt_of_lt_of_le (List.getElem?_eq_some_iff.1 ho).1 hm.llen
 obtain ⟨_,hdst,_⟩:=zgw hB ho;refine ⟨qW hm.size,put_defers hm.defers,by simp [hm.lsize],hm.llen,fun k h1 h2=>by rw [qy (by have:=(List.getElem?_eq_some_iff.1 ho).1;omega)];exact hm.notail k h1 h2,?_,fun hh=>?_,K',ρ',hf',?_,?_⟩
 ·intro i o' ho' hli k hk;by_cases hij:i=j
  ·subst hij;rw [ho] at ho';cases ho';have:=hready k hk;by_cases hkj:k=i
   ·subst hkj;exact ZH hjlt
   ·rw [qy hkj];exact this
  ·rw [qy hij] at hli;have:=hm.closed i o' ho' hli k hk;by_cases hkj:k=j
   ·subst hkj;exact ZH hjlt
   ·rw [qy hkj];exact this
 ·exact hpn hh
 ·intro i o' ri t' ho' hli hri hd';by_cases hij:i=j
  ·subst hij;rw [ho] at ho';cases ho';rw [hr] at hri;cases hri;exact ⟨v,by rw [hd'];simp only [Act.put];rw [Array.getElem?_setIfInBounds_self_of_lt (by rw [hm.size];exact hdt _ hd')],hv⟩
  ·rw [qy hij] at hli;obtain ⟨u,h1,h2⟩:=hl i o' ri t' ho' hli hri hd';refine ⟨u,?_,htr _ (zuo hch hm.closed ho' hli) _ _ h2⟩;cases hd:o.dst with
   | none=>simpa only [Act.put] using h1
   | some t =>
    have hne:t≠t':=by
     rintro rfl;exact hdst i o' t ho' hd' hij hd
    simp only [Act.put];rw [Array.getElem?_setIfInBounds_ne hne];exact h1
 ·intro t' av hav hno;obtain ⟨u,h1,h2⟩:=he t' av hav (fun i o' ho' hli hd'=>by
   by_cases hij:i=j
   ·subst hij;rw [hun] at hli;cases hli
   ·exact hno i o' ho' (by rw [qy hij];exact hli) hd')
  refine ⟨u,?_,by rw [←hN0] at h2 ⊢;exact htr 0 (Nat.zero_le _) _ _ h2⟩;cases hd:o.dst with
  | none=>simpa only [Act.put] using h1
  | some t =>
   have hne:t≠t':=by
    rintro rfl;exact hno j o ho (ZH hjlt) hd
   simp only [Act.put];rw [Array.getElem?_setIfInBounds_ne hne];exact h1
theorem MidN.reads {s:ScriptM P n g H Hp ET ops l E env Q} {listed:Array Bool} (hch:Zz l E=true) (hB:Qh ops l=true) (hm:MidN Hs Nm pan s listed a w) {j:Nat} {o:Oper} {ej:Env} (ho:l[j]?=some o) (hej:s.e[j]?=some ej)
  (hN0:Nm 0=H) (hmono:∀ q p,q≤p→p≤E.length→qg (Nm q) (Nm p)=true) (hrd2:∀ (p i:Nat) (oc:Oper) (tc:Nat) (rc:AV),E[p]?=some i→l[i]?=some oc→oc.dst=some tc→s.r[i]?=some rc→Zx H rc=true∨∀ (x:Nat) (o:Oper),l[x]?=some o→x∈E∨tc∉readsOf ops o) (hun:listed.getD j true=false) (hready:∀ i,qj o i=true→listed.getD i false=true) {K0:KK} {ρ0:Nat→Value}
  (hl:∀ (i:Nat) (o:Oper) (ri:AV) (t:Nat),l[i]?=some o→listed.getD i true=true→s.r[i]?=some ri→o.dst=some t→∃ v,a.tmps[t]?=some v∧ARel K0 w ρ0 (Nm (lvl E i)) ri v)
  (he:∀ (t:Nat) (av:AV),env.get t=some av→(∀ (i:Nat) (o:Oper),l[i]?=some o→listed.getD i true=true→o.dst≠some t)→∃ v,a.tmps[t]?=some v∧ARel K0 w ρ0 H av v) :
  ∀ t∈readsOf ops o,∀ av,ej.get t=some av→∃ v,a.tmps[t]?=some v∧ARel K0 w ρ0 (Nm (lvl E j - 1)) av v:=by
 intro t ht av hav;obtain ⟨_,_,hrd⟩:=zgw hB ho;have hlf:∀ i,listed.getD i false=true→listed.getD i true=true:=by
  intro i hi;rw [Array.getD_eq_getD_getElem?] at hi ⊢;cases h:listed[i]? with
  | none=>rfl
  | some b=>rw [h] at hi;exact hi
 have hjl:listed.getD j false=false:=by
  cases hb:listed.getD j false
  ·rfl
  ·rw [hlf j hb] at hun;cases hun
 have hlj:lvl E j - 1≤E.length:=by
  by_cases hm':j∈E
  ·obtain ⟨p,hp⟩:=List.getElem?_of_mem hm';have:=(List.getElem?_eq_some_iff.1 hp).1;rw [zcQ (QK hch) hp];omega
  ·rw [za1 hm'];omega
 have up:∀ q,q≤lvl E j - 1→∀ {av:AV} {v:Value},ARel K0 w ρ0 (Nm q) av v→ARel K0 w ρ0 (Nm (lvl E j - 1)) av v:=fun q hq _ _ h=>h.keeps (.refl K0 w) fun i hi=>⟨Ym (hmono q _ hq hlj) i hi,rfl⟩
 have hsrc:=s.src j ej (by rw [List.getElem?_append_left (List.getElem?_eq_some_iff.1 hej).1];exact hej) t av hav;rcases hsrc with ⟨i,o',ri,h1,h2,h3,h4,h5,_⟩|⟨h1,av0,h2,h3⟩
 ·rcases hrd i o' t h2 h3 ht with ⟨_,hedge⟩|⟨hlt,_⟩
  ·obtain ⟨v,v1,v2⟩:=hl i o' ri t h2 (hlf i (hready i hedge)) h4 h3;refine ⟨v,v1,h5 _ _ _ _ _ ?_⟩;by_cases hm':i∈E
   ·obtain ⟨p,hp⟩:=List.getElem?_of_mem hm';rcases hrd2 p i o' t ri hp h2 h3 h4 with hh|hh
    ·exact up 0 (Nat.zero_le _) (by rw [hN0];exact v2.refs hh)
    ·rcases hh j o ho with hjE|hh
     ·obtain ⟨q,hq⟩:=List.getElem?_of_mem hjE;have hpq:p < q:=by
       rcases Nat.lt_or_ge p q with h|h
       ·exact h
       ·rcases Nat.lt_or_ge q p with h'|h'
        ·have:=zbV hch h' hq hp;omega
        ·have:p=q:=by omega
         subst this;rw [hp] at hq;cases hq;omega
      rw [zcQ (QK hch) hp] at v2;exact up (p + 1) (by rw [zcQ (QK hch) hq];omega) v2
     ·exact absurd ht hh
   ·rw [za1 hm'] at v2;exact up 0 (Nat.zero_le _) v2
  ·omega
 ·obtain ⟨v,v1,v2⟩:=he t av0 h2 (fun i o' ho' hli hd'=>by
   rcases hrd i o' t ho' hd' ht with ⟨hlt,_⟩|⟨hlt,hedge⟩
   ·exact h1 i o' hlt ho' hd'
   ·have:=hm.closed i o' ho' hli j hedge;rw [hjl] at this;cases this)
  exact ⟨v,v1,h3 _ _ _ _ _ (up 0 (Nat.zero_le _) (by rw [hN0];exact v2))⟩
theorem zpJ {R:Exit→Act→World→Prop} (hHp:Hp=Hs) (hET:zfd l E ET=true) (hkp:∀ p,p < ET.length→qg (Hs p) H=true∧qg H (Hs p)=true) (hl0:l=ops.take l.length) (s:ScriptM P n g H Hp ET ops l E env Q) (hch:Zz l E=true) (hE:∀ p j,E[p]?=some j→znu n ops (fun p oc ec rc=>EStepN P g (Hs p) (Hs (p + 1)) (Nm p) (Nm (p + 1)) oc ec rc (if p + 1=E.length then pan else none)) l s.r s.e p j) (hN0:Nm 0=H) (hrd2:∀ (p i:Nat) (oc:Oper) (tc:Nat) (rc:AV),E[p]?=some i→l[i]?=some oc→oc.dst=some tc→s.r[i]?=some rc→Zx H rc=true∨∀ (x:Nat) (o:Oper),l[x]?=some o→x∈E∨tc∉readsOf ops o) (hmono:∀ q p,q≤p→p≤E.length→qg (Nm q) (Nm p)=true)
  (hw:∀ p,p≤E.length→∀ K ρ w,FS g K ρ (Hs p) w→FS g K ρ H w) (hkeys:∀ q,q≤E.length→qg (Nm q) (Hs E.length)=true) (hB:Qh ops l=true) (hT:Xk ops l.length=true)
  (hq:pan=none→∀ env' a w,Q env'→Inv n g env' (Hs E.length) a w→wpList P ops.toArray R (ops.drop l.length) a w)
  (hp':∀ v,pan=some v→∀ a w,Inv n g [] [] a w→R (.panic [{ v:=v,recovered:=false }]) a w):∀ (fuel:Nat) (listed:Array Bool) (a:Act) (w:World),(listed.toList.filter (! ·)).length=fuel→MidN Hs Nm pan s listed a w →
  wpAny P .any ops.toArray R fuel listed a w:=by
 have hget:∀ j,j < l.length→l[j]?=ops[j]?:=by
  intro j hj;have:=congrArg (fun x=>x[j]?) hl0;simp only [List.getElem?_take,if_pos hj] at this;exact this
 have hlen:l.length≤ops.length:=by
  have:=congrArg List.length hl0;simp at this;omega
 have done:∀ (listed:Array Bool) (a:Act) (w:World),(∀ j,j < l.length→listed.getD j true=true)→MidN Hs Nm pan s listed a w→pan=none∧∃ env',Q env'∧Inv n g env' (Hs E.length) a w:=by
  intro listed a w hall hm;obtain ⟨K,ρ,hf,hl,he⟩:=hm.st;have hph:phase E listed=E.length:=by
   unfold phase;rw [List.filter_eq_self.2];intro x hx;obtain ⟨q,hq⟩:=List.getElem?_of_mem hx;exact hall x (zao hch hq)
  rw [hph] at hf;refine ⟨hm.nopan hph,s.last,s.fin,⟨hm.size,hm.defers,K,ρ,hf,fun t av hav=>?_⟩⟩;have hkk:∀ q,q≤E.length→∀ j,(HEnv.get (Nm q) j).isSome=true→(HEnv.get (Hs E.length) j).isSome=true∧ρ j=ρ j:=fun q hq j hj=>⟨Ym (hkeys q hq) j hj,rfl⟩
  have hll:∀ i o,l[i]?=some o→lvl E i≤E.length:=fun i o ho=>Nat.le_trans (zuo hch hm.closed ho (hall i (List.getElem?_eq_some_iff.1 ho).1)) (List.length_filter_le _ _)
  have hlast:(s.e++[s.last])[l.length]?=some s.last:=by rw [List.getElem?_append_right (by rw [s.lene];exact Nat.le_refl _),s.lene];simp
  rcases s.src l.length s.last hlast t av hav with ⟨i,o,ri,h1,h2,h3,h4,h5,_⟩|⟨h1,av0,h2,h3⟩
  ·obtain ⟨v,v1,v2⟩:=hl i o ri t h2 (hall i h1) h4 h3;exact ⟨v,v1,(h5 _ _ _ _ _ v2).keeps (.refl K w) (hkk _ (hll i o h2))⟩
  ·obtain ⟨v,v1,v2⟩:=he t av0 h2 (fun i o ho _=>h1 i o (List.getElem?_eq_some_iff.1 ho).1 ho);exact ⟨v,v1,((h3 _ _ _ _ _ v2).keeps (.refl K w) (by rw [←hN0];exact hkk 0 (Nat.zero_le _)))⟩
 intro fuel;induction fuel with
 | zero =>
  intro listed a w hc hm;have hall:∀ j,j < ops.length→listed.getD j true=true:=by
   intro j hj;have hn:=List.filter_eq_nil_iff.1 (List.eq_nil_of_length_eq_zero hc);have hlt:j < listed.size:=by rw [hm.lsize];exact hj
   have:=hn listed[j] zwy63;simp only [Bool.not_eq_true',Bool.not_eq_false] at this;rw [Array.getD_eq_getD_getElem?,Array.getElem?_eq_getElem hlt];simpa using this
  have hkl:l.length=ops.length:=by
   rcases Nat.lt_or_ge l.length ops.length with h|h
   ·have:=hm.notail l.length (Nat.le_refl _) h;rw [hall _ h] at this;cases this
   ·omega
  obtain ⟨hpn,env',h1,h2⟩:=done listed a w (fun j hj=>hall j zwy62) hm;refine ziT hT 0 l.length listed a w (Nat.le_refl _) zwy62 hm.lsize (fun i hi=>?_) (hq hpn env' a w h1 h2);rw [hall i hi];simp;omega
 | succ fuel ih =>
  intro listed a w hc hm;by_cases hall:∀ j,j < l.length→listed.getD j true=true
  ·obtain ⟨hpn,env',h1,h2⟩:=done listed a w hall hm;have hex:∀ i,i < ops.length→listed.getD i true=decide (i < l.length):=by
    intro i hi;by_cases h:i < l.length
    ·rw [hall i h];simp [h]
    ·rw [hm.notail i zwy62 hi];simp [h]
   have hcnt:l.length + (fuel + 1)=ops.length:=by
    have e1:listed.toList=List.replicate l.length true++List.replicate (ops.length - l.length) false:=by
     apply List.ext_getElem
     ·simp [hm.lsize];omega
     ·intro i h1 h2;have hi:i < ops.length:=by simpa [hm.lsize] using h1
      have:=hex i hi;rw [Array.getD_eq_getD_getElem?,Array.getElem?_eq_getElem (by rw [hm.lsize];exact hi)] at this;simp only [Option.getD_some] at this;simp only [Array.getElem_toList,this,List.getElem_append,List.length_replicate,List.getElem_replicate];by_cases hil:i < l.length
      ·rw [dif_pos hil,decide_eq_true hil]
      ·rw [dif_neg hil,decide_eq_false hil]
    rw [e1] at hc;simp only [List.filter_append,List.filter_replicate,Bool.not_true,Bool.false_eq_true,if_false,Bool.not_false,if_true,List.nil_append,List.length_replicate] at hc;omega
   exact ziT hT (fuel + 1) l.length listed a w (Nat.le_refl _) hcnt hm.lsize hex (hq hpn env' a w h1 h2)
  have hlf:∀ i,i < ops.length→listed.getD i false=listed.getD i true:=by
   intro i hi;rw [Array.getD_eq_getD_getElem?,Array.getD_eq_getD_getElem?,Array.getElem?_eq_getElem (by rw [hm.lsize];exact hi)];rfl
  have hex:∃ j,j < l.length∧listed.getD j true=false∧∀ i,i < j→listed.getD i true=true:=by
   have hex0:∃ j,j < l.length∧listed.getD j true=false:=by
    rcases Classical.not_forall.1 hall with ⟨j,hj⟩
    exact ⟨j,Classical.byContradiction fun h=>hj (fun h'=>(h h').elim),by
     cases hb:listed.getD j true
     ·rfl
     ·exact (hj (fun _=>hb)).elim⟩
   obtain ⟨j,hj⟩:=hex0;induction j using Nat.strongRecOn with
   | _ j ihj =>
    by_cases hmin:∀ i,i < j→listed.getD i true=true
    ·exact ⟨j,hj.1,hj.2,hmin⟩
    ·rcases Classical.not_forall.1 hmin with ⟨i,hi⟩
     have hij:i < j:=Classical.byContradiction fun h=>hi (fun h'=>(h h').elim)
     exact ihj i hij ⟨by omega,by
      cases hb:listed.getD i true
      ·rfl
      ·exact (hi (fun _=>hb)).elim⟩
  obtain ⟨j0,hj0,hun0,hmin0⟩:=hex;refine ⟨fun h0=>?_,fun j hj=>?_⟩
  ·have:j0∈Region.ready .any ops.toArray listed:=qN.2 ⟨l[j0],by rw [←hget j0 hj0];exact List.getElem?_eq_getElem hj0,hun0,fun i hi=>by
    have:=(zgw hB (List.getElem?_eq_getElem hj0)).1 i hi;rw [hlf i zwy62];exact hmin0 i this⟩
   rw [h0] at this;cases this
  obtain ⟨o,ho',hun,hready⟩:=qN.1 hj;have hjlt:=(List.getElem?_eq_some_iff.1 ho').1;have hjl:j < l.length:=by
   rcases Nat.lt_or_ge j l.length with h|h
   ·exact h
   ·have hmem:(o,j)∈ops.zipIdx.drop l.length:=by
     rw [List.mem_drop_iff_getElem];refine ⟨j - l.length,by simp;omega,?_⟩;simp only [List.getElem_zipIdx,Nat.zero_add];have:l.length + (j - l.length)=j:=by omega
     simp only [this];rw [(List.getElem?_eq_some_iff.1 ho').2]
    have h1:=List.all_eq_true.1 hT (o,j) hmem;simp only [Bool.and_eq_true] at h1;have:=hready j0 (List.all_eq_true.1 h1.1 j0 (List.mem_range.2 zwy62));rw [hlf j0 zwy62,hun0] at this;cases this
  have ho:l[j]?=some o:=by rw [hget j hjl];exact ho'
  have hrj:s.r[j]?=some (s.r[j]'(by rw [s.lenr];exact hjl)):=List.getElem?_eq_getElem _;have hej:s.e[j]?=some (s.e[j]'(by rw [s.lene];exact hjl)):=List.getElem?_eq_getElem _;generalize s.r[j]'(by rw [s.lenr];exact hjl)=rj at hrj;generalize s.e[j]'(by rw [s.lene];exact hjl)=ej at hej;obtain ⟨K,ρ,hf,hl,he⟩:=hm.st;have hphle:phase E listed≤E.length:=List.length_filter_le _ _;have hreads:=hm.reads hch hB ho hej hN0 hmono hrd2 hun hready hl he;have hcount:((listed.setIfInBounds j true).toList.filter (! ·)).length=fuel:=by
   have hlt:j < listed.toList.length:=by simpa [hm.lsize] using hjlt
   have hjf:listed.toList[j]=false:=by
    rw [Array.getD_eq_getD_getElem?,Array.getElem?_eq_getElem zwy83] at hun;simpa using hun
   have e1:listed.toList=listed.toList.take j++false::listed.toList.drop (j + 1):=by
    rw [←hjf,List.getElem_cons_drop,List.take_append_drop]
   rw [Array.toList_setIfInBounds,List.set_eq_take_append_cons_drop,if_pos hlt];rw [e1] at hc;simp only [List.filter_append,List.length_append,List.filter_cons,Bool.not_false,if_true,List.length_cons,Bool.not_true,Bool.false_eq_true,if_false] at hc ⊢;omega
  have hwanted:∀ b,guardE ops ej o=some b→Region.wanted o (yielded ops.toArray a.tmps)=b:=by
   intro b hgb;unfold guardE Xn at hgb;cases hg:o.guard with
   | none=>simp [hg] at hgb;subst hgb;simp [Region.wanted,hg]
   | some x =>
    obtain ⟨jj,want⟩:=x;simp only [hg] at hgb;cases hjj:ops[jj]? with
    | none=>simp [hjj] at hgb
    | some o' =>
     simp only [hjj] at hgb;cases hd':o'.dst with
     | none=>simp [hd'] at hgb
     | some t' =>
      simp only [hd'] at hgb;split at hgb
      ·rename_i bb hbb;simp only [Option.some.injEq] at hgb;subst hgb;obtain ⟨v,v1,v2⟩:=hreads t' (by simp [readsOf,Xn,hg,hjj,hd']) _ hbb;cases v2 with
       | pv _ _ hp=>cases hp;simp only [Region.wanted,hg,yielded,List.getElem?_toArray,hjj,Option.bind_some,hd',v1];cases bb <;> cases want <;> rfl
      ·rename_i vs hbb;simp only [Option.some.injEq] at hgb;subst hgb;obtain ⟨v,v1,v2⟩:=hreads t' (by simp [readsOf,Xn,hg,hjj,hd']) _ hbb;cases v2 with
       | pv _ _ hp=>cases hp;simp only [Region.wanted,hg,yielded,List.getElem?_toArray,hjj,Option.bind_some,hd',v1];cases want <;> rfl
      ·cases hgb
  unfold wpOp;simp only [List.getElem?_toArray,ho'];have hops:∀ x∈o.op.operands,∀ av,ej.val x=some av→ARel K w ρ (Nm (lvl E j - 1)) av (a.eval x):=fun x hx av hxv=>by
   cases x with
   | tmp t' =>
    obtain ⟨v,v1,v2⟩:=hreads t' (by
     unfold readsOf;exact List.mem_append_left _ (zaw (Array.mem_toList_iff.2 hx))) av hxv
    simpa [Act.eval,Array.getD_eq_getD_getElem?,v1] using v2
   | const v =>
    simp only [Env.val] at hxv;split at hxv
    ·rename_i h1;simp only [Option.some.injEq] at hxv;subst hxv;exact .pv _ _ (.base v h1)
    ·cases hxv
   | func f =>
    simp only [Env.val,Option.some.injEq] at hxv;subst hxv;exact .pv _ _ (.fn (.func f) [] [] [] [] rfl rfl zwy63 zwy63)
   | global gg =>
    simp only [Env.val,Option.some.injEq] at hxv;subst hxv;exact .pv _ _ (.base _ rfl)
  by_cases hjj:j∈E
  ·obtain ⟨p,hp⟩:=List.getElem?_of_mem hjj;obtain ⟨oc,rc,ec,hjc,hdc,hrc,hec,hgc,hES⟩:=hE p j hp;rw [hjc] at ho;cases ho;rw [hrc] at hrj;cases hrj;rw [hec] at hej;cases hej;have hlow:=zda hch hm.closed hjc hready hp;have hhigh:=zoD hch hm.closed hun hp;have hplt:=(List.getElem?_eq_some_iff.1 hp).1;have hph:phase E listed=p:=zff zwy62 hlow hhigh;have hjlt2:j < listed.size:=by rw [hm.lsize];exact hjlt
   have hph2:phase E (listed.setIfInBounds j true)=p + 1:=zff zwy62 (fun q i hq hi=>by
     by_cases e:i=j
     ·subst e;exact ZH hjlt2
     ·rw [qy e];rcases Nat.lt_or_ge q p with h|h
      ·exact hlow q i h hi
      ·have:q=p:=by omega
       subst this;rw [hp] at hi;cases hi;exact absurd rfl e) (fun q i hq hi=>by
     have hne:i≠j:=by have:=zbV hch (show p < q by omega) hp hi;omega
     rw [qy hne];exact hhigh q i zwy62 hi)
   rw [hwanted true hgc,if_pos rfl];refine .inl ?_;unfold Oper.wp;rw [hph] at hf;rw [zcQ (QK hch) hp] at hops;rcases hES.go K ρ a w hf hops with ⟨f,vs,hrun,hcall⟩|⟨hpn,v,w'',K',ρ',hrun,hf',hlat,hps,hv⟩
   rotate_left 1
   ·have hgo:∀ {X:Act→World→Prop} {Y},X (a.put o.dst v) w''→Oper.upon P o a X Y ((execOp a.eval o).run P w):=fun h=>by rcases hrun with hr|⟨hr,rfl⟩ <;> (rw [hr];exact h)
    refine hgo ?_;refine ih _ _ _ hcount (hm.next hch hN0 hB hjc hrc hdc hun hready (fun h=>?_) ?_ (fun q hq av u hu=>hu.keeps hlat fun i hi=>⟨hi,hps i (Ym (hmono q p (by rw [hph] at hq;exact hq) zwy62) i hi)⟩) hl he (by rw [zcQ (QK hch) hp];exact hv))
    ·rw [hph2] at h;rw [if_pos h] at hpn;exact hpn
    ·rw [hph2];exact hf'
   rw [hrun];simp only [Oper.upon];refine hcall.mono fun ex w'' hex=>?_
   cases hpan:(if p + 1=E.length then pan else none) with
   | none =>
    rw [hpan] at hex;obtain ⟨v,K',ρ',rfl,hf',hlat,hps,hv⟩:=hex;refine ih _ _ _ hcount (hm.next hch hN0 hB hjc hrc hdc hun hready (fun h=>?_) ?_ (fun q hq av u hu=>hu.keeps hlat fun i hi=>⟨hi,hps i (Ym (hmono q p (by rw [hph] at hq;exact hq) zwy62) i hi)⟩) hl he (by rw [zcQ (QK hch) hp];exact hv))
    ·rw [hph2] at h;rw [if_pos h] at hpan;exact hpan
    ·rw [hph2];exact hf'
   | some v =>
    rw [hpan] at hex;obtain ⟨rfl,K',ρ',hf'⟩:=hex;have:pan=some v:=by
     split at hpan
     ·exact hpan
     ·cases hpan
    exact hp' v this _ _ ⟨hm.size,hm.defers,K',ρ',hf',fun t av ht=>by simp [Env.get_nil] at ht⟩
  obtain ⟨t,hd,ht,hor⟩:=s.ok j o rj ej hjj ho hrj hej;have hdt:∀ t,o.dst=some t→t < n:=fun t' h=>by rw [hd] at h;cases h;exact ht
  have hff:FS g K ρ H w:=hw _ hphle _ _ _ hf;have hsame:phase E (listed.setIfInBounds j true)=phase E listed:=by
   unfold phase;congr 1;refine List.filter_congr fun x hx=>?_
   rw [qy (fun e=>hjj (by rw [←e];exact hx))]
  rcases hor with ⟨hgt,hqs⟩|⟨hgf,rfl⟩
  ·rw [hwanted true hgt,if_pos rfl];refine .inl ?_;unfold Oper.wp;rw [za1 hjj,hN0] at hops;have hqr:zjI P K ρ H w rj ((execOp a.eval o).run P w):=by
    rcases hqs with hqs|⟨p,hea,hqs⟩
    ·exact hqs.go K ρ a w hff hops
    ·have hpl:p < ET.length:=Classical.byContradiction fun h=>by
      rw [List.getD_eq_getElem?_getD,List.getElem?_eq_none zwy62] at hea;unfold early at hea;split at hea <;> simp at hea
     obtain ⟨k1,k2⟩:=hkp p hpl;have hmem:(ET.getD p [],p)∈ET.zipIdx:=by
      rw [List.getD_eq_getElem?_getD,List.getElem?_eq_getElem hpl];have:=List.mem_zipIdx_iff_getElem?.2 (show ET[(ET[p],p).2]?=some (ET[p],p).1 from List.getElem?_eq_getElem hpl);exact this
     have hok:=List.all_eq_true.1 (List.all_eq_true.1 hET _ hmem) (o,j) (QG ho);simp only [hea,Bool.not_true,Bool.false_or,Bool.and_eq_true] at hok;have hclo:=hm.closed;have hlf':∀ i,listed.getD i false=true→listed.getD i true=true:=fun i hi=>by
      rw [Array.getD_eq_getD_getElem?] at hi ⊢;cases h:listed[i]? with
      | none=>rfl
      | some b=>rw [h] at hi;exact hi
     have hlow:∀ q i,q < p→E[q]?=some i→listed.getD i true=true:=fun q i hq hi=>by
      cases p with
      | zero=>omega
      | succ p' =>
       simp only at hok;cases hE':E[p']? with
       | none=>rw [hE'] at hok;simp at hok
       | some e =>
        rw [hE'] at hok;have he:=hlf' e (zke hclo hlf' ho hready hok.1);by_cases hqp:q=p'
        ·subst hqp;rw [hE'] at hi;cases hi;exact he
        ·obtain ⟨o',ho'⟩:∃ o',l[e]?=some o':=⟨_,List.getElem?_eq_getElem (zao hch hE')⟩
         exact zda hch hclo ho' (fun x hx=>hclo e o' ho' he x hx) hE' q i zwy62 hi
     have hhigh:∀ q i,p≤q→E[q]?=some i→listed.getD i true=false:=fun q i hq hi=>by
      cases hb:listed.getD i true with
      | false=>rfl
      | true =>
       obtain ⟨o',ho'⟩:∃ o',l[i]?=some o':=⟨_,List.getElem?_eq_getElem (zao hch hi)⟩
       cases hE':E[p]? with
       | none=>have:=(List.getElem?_eq_some_iff.1 hi).1;rw [List.getElem?_eq_none_iff] at hE';omega
       | some e =>
        have he:listed.getD e true=true:=by
         by_cases hqp:q=p
         ·subst hqp;rw [hE'] at hi;cases hi;exact hb
         ·exact zda hch hclo ho' (fun x hx=>hclo i o' ho' hb x hx) hi p e zwy62 hE'
        have h2:=hok.2;simp only [hE'] at h2;obtain ⟨o2,ho2⟩:∃ o',l[e]?=some o':=⟨_,List.getElem?_eq_getElem (zao hch hE')⟩
        have:=zke hclo hlf' ho2 (fun m hm=>hclo e o2 ho2 he m hm) h2;rw [hlf j hjlt,hun] at this;cases this
     have hpe:p≤E.length:=by
      have h2:=hok.2;cases hE':E[p]? with
      | none=>simp only [hE',decide_eq_true_eq] at h2;omega
      | some e=>have:=(List.getElem?_eq_some_iff.1 hE').1;omega
     have hph:phase E listed=p:=zff hpe hlow hhigh;rw [hHp] at hqs;rw [hph] at hf;have hr:=hqs.go K ρ a w hf (fun x hx av hxv=>(hops x hx av hxv).keeps (.refl K w) fun i hi=>⟨Ym k2 i hi,rfl⟩);generalize (execOp a.eval o).run P w=res at hr ⊢;have up:∀ {K':KK} {w':World} {v:Value},ARel K' w' ρ (Hs p) rj v→ARel K' w' ρ H rj v:=fun h=>h.keeps (.refl _ _) fun i hi=>⟨Ym k1 i hi,rfl⟩
     cases res with
     | halt x w'=>exact hr
     | ok nx w' =>
      cases nx <;> simp only [zjI] at hr ⊢
      case value v=>exact hr.imp fun K' h=>⟨h.1,up h.2⟩
      case enter f vs=>exact ⟨hr.1,hr.2.mono fun e w'' ⟨v,K',h1,h2,h3⟩=>⟨v,K',h1,h2,up h3⟩⟩
   generalize (execOp a.eval o).run P w=res at hqr;cases res with
   | halt x w'=>simp only [zjI] at hqr
   | ok nx w' =>
    cases nx <;> simp only [zjI] at hqr <;> simp only [Oper.upon]
    case value v =>
     obtain ⟨K',hev,hv⟩:=hqr;exact ih _ _ _ hcount (hm.next hch hN0 hB ho hrj hdt hun hready (fun h=>hm.nopan (by rw [←hsame];exact h)) (by rw [hsame];exact hf.evo hev) (fun _ _ av u hu=>hu.later (hev.later hff.lt)) hl he (by rw [za1 hjj,hN0];exact hv))
    case enter f args =>
     obtain ⟨rfl,hc'⟩:=hqr;refine hc'.mono fun e w'' ⟨v,K',he',hev,hv⟩=>?_
     subst he';exact ih _ _ _ hcount (hm.next hch hN0 hB ho hrj hdt hun hready (fun h=>hm.nopan (by rw [←hsame];exact h)) (by rw [hsame];exact hf.evo hev) (fun _ _ av u hu=>hu.later (hev.later hff.lt)) hl he (by rw [za1 hjj,hN0];exact hv))
  ·rw [hwanted false hgf,if_neg zwy63];exact ih _ _ _ hcount (hm.next hch hN0 hB ho hrj hdt hun hready (fun h=>hm.nopan (by rw [←hsame];exact h)) (by rw [hsame];exact hf) (fun _ _ av u hu=>hu) hl he (by rw [za1 hjj,hN0];exact zbG))
theorem ziB {QQ:QC}:¬ LetsOut (fun e a w=>∃ env' H',Inv n g env' H' a w∧(e=.normal∨∃ ch,e=.panic ch)∧QQ e env' H'):=fun ⟨_,_,_,_,_,hx,_⟩=>by rcases hx with hx|⟨_,hx⟩ <;> cases hx
theorem znk {r:Option Nat} {d:Nat} {id:Nat} {w:World} {QQ:QC} (hd:qU ops=true) (hm:P.follows .mixedOrders=true) (h:wpAny P .any ops.toArray (fun e a w=>∃ env' H',Inv n g env' H' a w∧(e=.normal∨∃ ch,e=.panic ch)∧QQ e env' H') ops.toArray.size (Array.replicate ops.toArray.size false) a { w with drawn:=w.drawn + 1 }) :
  (Code.region id ops.toArray true).wpIn (zaz r) d P (fun e a w=>∃ env' H',Inv n g env' H' a w∧QQ e env' H') a w :=
 wpIn_mono (wpIn_region_any hm (zam ziB (by simpa using hd) _ _ _ _ h)) (fun e a' w' ⟨env',H',h1,_,h3⟩=>⟨env',H',h1,h3⟩)
structure DR (P:Program) (n:Nat) (g:Base) (ops:List Oper) (env:Env) (H:HEnv) (QQ:QC):Prop where
 go:∀ a w,Inv n g env H a w→wpAny P .any ops.toArray (fun e a w=>∃ env' H',Inv n g env' H' a w∧(e=.normal∨∃ ch,e=.panic ch)∧QQ e env' H') ops.toArray.size (Array.replicate ops.toArray.size false) a { w with drawn:=w.drawn + 1 }
theorem ze7 {QQ:QC} {id:Nat} (hm:P.follows .mixedOrders=true) (h:DR P n g ops env H QQ) (hnd:qU ops=true:=by kernel_rfl):AW P n g (.region id ops.toArray true) env H QQ:=⟨fun a w hi _ _=>znk hnd hm (h.go a w hi)⟩
theorem zqd {QQ:QC} {ops':List Oper} (k:Nat) (E:List Nat) (ET:List (List Nat)) (Hs Nm:Nat→HEnv) (Ht:HEnv) (pan:Option Value) (hl:ops'.length=ops.length)
  (hmore:∀ (R:Exit→Act→World→Prop) a w,wpAny P .any ops'.toArray R ops.length (Array.replicate ops.length false) a w→wpAny P .any ops.toArray R ops.length (Array.replicate ops.length false) a w) (hB:Qh ops' (ops'.take k)=true) (hT:Xk ops' k=true) (hk:k≤ops'.length)
  (hch:Zz (ops'.take k) E=true) (hET:zfd (ops'.take k) E ET=true) (hkp:∀ p,p < ET.length→qg (Hs p) Ht=true∧qg Ht (Hs p)=true) (hne:E.isEmpty=false∨pan=none)
  (hw:∀ p,p≤E.length→∀ K ρ w,FS g K ρ (Hs p) w→FS g K ρ Ht w) (hN0:Nm 0=Ht) (hmono:∀ q p,q≤p→p≤E.length→qg (Nm q) (Nm p)=true) (hkeys:∀ q,q≤E.length→qg (Nm q) (Hs E.length)=true)
  (hst:∀ a w,Inv n g env H a w→Inv n g [] (Hs 0) a w∧∃ K ρ,FS g K ρ (Hs 0) w∧∀ t av,env.get t=some av→∃ v,a.tmps[t]?=some v∧ARel K w ρ Ht av v)
  (hp:∀ v,pan=some v→QQ (.panic [{ v:=v,recovered:=false }]) [] [])
  (h:WO P n g Ht Hs ET ops' (fun env'=>pan=none→∀ a w,Inv n g env' (Hs E.length) a w→wpList P ops'.toArray (fun e a' w'=>∃ env' H',Inv n g env' H' a' w'∧(e=.normal∨∃ ch,e=.panic ch)∧QQ e env' H') (ops'.drop k) a w) (fun p oc ec rc=>EStepN P g (Hs p) (Hs (p + 1)) (Nm p) (Nm (p + 1)) oc ec rc (if p + 1=E.length then pan else none)∧(Zx Ht rc=true∨(ops'.take k).zipIdx.all (fun x=>E.contains x.2||match oc.dst with|some tc=>!(readsOf ops' x.1).contains tc|none=>true)=true)) E (ops'.take k) env):DR P n g ops env H QQ:=by
 obtain ⟨s,hE0⟩:=h;refine ⟨fun a w hi=>?_⟩;rw [List.size_toArray];refine hmore _ _ _ ?_;rw [←hl];obtain ⟨⟨h1,h2,_⟩,K,ρ,hf,he⟩:=hst a w hi;have hev:Evo K K w { w with drawn:=w.drawn + 1 }:=(Evo.refl hf.lt).drew;have hlk:(ops'.take k).length=k:=by simp;omega
 have hE:∀ p j,E[p]?=some j→znu n ops' (fun p oc ec rc=>EStepN P g (Hs p) (Hs (p + 1)) (Nm p) (Nm (p + 1)) oc ec rc (if p + 1=E.length then pan else none)) (ops'.take k) s.r s.e p j:=fun p j hp=>by
  obtain ⟨oc,rc,ec,x1,x2,x4,x5,x6,x7,_⟩:=hE0 p j hp;exact ⟨oc,rc,ec,x1,x2,x4,x5,x6,x7⟩
 have hrd2:∀ (p i:Nat) (oc:Oper) (tc:Nat) (rc:AV),E[p]?=some i→(ops'.take k)[i]?=some oc→oc.dst=some tc→s.r[i]?=some rc→Zx Ht rc=true∨∀ (x:Nat) (o:Oper),(ops'.take k)[x]?=some o→x∈E∨tc∉readsOf ops' o:=by
  intro p i oc tc rc hp h1 h2 h3;obtain ⟨oc',rc',ec,x1,x2,x4,x5,x6,_,x8⟩:=hE0 p i hp;rw [h1] at x1;cases x1;rw [h3] at x4;cases x4;refine x8.imp (fun h=>h) fun hall x o ho=>?_
  have:=List.all_eq_true.1 hall (o,x) (QG ho);rw [h2] at this;simpa using this
 have hph0:phase E (Array.replicate ops'.length false)=0:=zff (Nat.zero_le _) (fun q i hq _=>by omega) (fun q i _ hi=>by
  have:=zao hch hi;rw [hlk] at this;simp [Array.getD_eq_getD_getElem?,show i < ops'.length by omega])
 have hno:∀ i o,(ops'.take k)[i]?=some o→¬ (Array.replicate ops'.length false).getD i true=true:=fun i o ho hli=>by
  have hlt:=(List.getElem?_eq_some_iff.1 ho).1;have:i < ops'.length:=by simp at hlt;omega
  simp [Array.getD_eq_getD_getElem?,this] at hli
 refine zpJ (l:=ops'.take k) rfl hET hkp (by rw [hlk]) s hch hE hN0 hrd2 hmono hw hkeys hB (by rw [hlk];exact hT) (fun hpn env' a' w' hQ hi'=>?_) (fun v hv a' w' hi'=>⟨[],[],hi',.inr ⟨_,rfl⟩,hp v hv⟩) _ _ _ _ zwy63
  ⟨h1,h2,by simp,by rw [hlk];exact hk,?_,fun i o ho hli=>absurd hli (hno i o ho),fun h=>by
   rcases hne with hne|hne
   ·rw [hph0] at h;cases E <;> simp at h hne
   ·exact hne,K,ρ,by rw [hph0];exact hf.evo hev,fun i o ri t ho hli=>absurd hli (hno i o ho),?_⟩
 ·rw [hlk];exact hQ hpn a' w' hi'
 ·intro j _ hj;simp [Array.getD_eq_getD_getElem?,hj]
 ·intro t av hav _;obtain ⟨v,v1,v2⟩:=he t av hav;exact ⟨v,v1,v2.later (hev.later hf.lt)⟩
theorem zuE {QQ:QC} {ops':List Oper} (k:Nat) (hl:ops'.length=ops.length)
  (hmore:∀ (R:Exit→Act→World→Prop) a w,wpAny P .any ops'.toArray R ops.length (Array.replicate ops.length false) a w→wpAny P .any ops.toArray R ops.length (Array.replicate ops.length false) a w) (hB:Qh ops' (ops'.take k)=true) (hT:Xk ops' k=true) (hk:k≤ops'.length)
  (h:AD P n g H ops' (fun env'=>∀ a w,Inv n g env' H a w→wpList P ops'.toArray (fun e a' w'=>∃ env' H',Inv n g env' H' a' w'∧(e=.normal∨∃ ch,e=.panic ch)∧QQ e env' H') (ops'.drop k) a w) (ops'.take k) env):DR P n g ops env H QQ :=
 zqd k [] [] (fun _=>H) (fun _=>H) H none hl hmore hB hT hk rfl rfl (fun p hp=>by simp at hp) (.inr rfl) (fun _ _ _ _ _ h=>h) rfl (fun _ _ _ _=>qR H []) (fun _ _=>qR H [])
  (fun a w hi=>⟨hi.sub (fun _ _ h=>by simp [Env.get_nil] at h),by obtain ⟨_,_,K,ρ,hf,he⟩:=hi;exact ⟨K,ρ,hf,he⟩⟩) (fun v h=>by cases h) (ZV (QZ (fun _ h _=>h) h))
theorem zwj {QQ:QC} {l:List Oper} (h:AO P n g ops.toArray l env H (fun env' H'=>QQ .normal env' H')) (a:Act) (w:World) (hi:Inv n g env H a w):wpList P ops.toArray (fun e a' w'=>∃ env' H',Inv n g env' H' a' w'∧(e=.normal∨∃ ch,e=.panic ch)∧QQ e env' H') l a w :=
 ZL (fun e a' w' ⟨env',H',h1,h2,h3⟩=>⟨env',H',h1,.inl h2,by rw [h2];exact h3⟩) (h.go a w hi)
theorem zlA {QQ:QC} {id:Nat} (k:Nat) (hm:P.follows .mixedOrders=true) (hB:Qh ops (ops.take k)=true) (hT:Xk ops k=true) (hk:k≤ops.length)
  (h:AD P n g H ops (fun env'=>AO P n g ops.toArray (ops.drop k) env' H (fun env' H'=>QQ .normal env' H')) (ops.take k) env) (hnd:qU ops=true:=by kernel_rfl):AW P n g (.region id ops.toArray true) env H QQ :=
 ze7 hm (zuE k rfl (fun _ _ _ h=>h) hB hT hk (QZ (fun _ h=>zwj h) h)) hnd
theorem zqp {QQ:QC} {id:Nat} (hm:P.follows .mixedOrders=true) (hB:Qh ops ops=true) (h:AD P n g H ops (fun env'=>QQ .normal env' H) ops env) (hnd:qU ops=true:=by kernel_rfl):AW P n g (.region id ops.toArray true) env H QQ:=by
 refine zlA ops.length hm (by rw [List.take_length];exact hB) ?_ (Nat.le_refl _) ?_ hnd
 ·unfold Xk;rw [List.drop_eq_nil_of_le zwy63];rfl
 ·rw [List.take_length];refine QZ ?_ h;intro env' h;rw [List.drop_length];exact zp5 h
end
section
variable {P:Program} {tb:Tab} {n:Nat} {g:Base} {K K':KK} {w w':World} {ρ ρ':Nat→Value} {H H':HEnv} {env:Env} {a:Act} {ops:List Oper} {o:Oper} {rest:List Oper} {Q:Env→HEnv→Prop} {QQ:QC} {c:Code}
theorem zqj {t:TypeId} {x i:Operand} {s:ByteArray} {k:IntKind} {m:Int} {b:UInt8} (htb:yR P tb) (hop:o.op=.index t x i) (hk:tb.k t=.str) (hx:env.pv H x=some (.base (.string s))) (hi:env.pv H i=some (.base (.int k m))) (h0:0≤m) (hb:s[m.toNat]?=some b) :
  QStep P g H o env (.pv (.base (.int .u8 b.toNat))):=by
 refine ⟨fun K ρ a w hf hv=>?_⟩;have hxr:=qc hf (hv x zwy69) hx;have hir:=qc hf (hv i zwy69) hi;generalize hxv:a.eval x=xv at hxr;generalize hiv:a.eval i=iv at hir;cases hir;cases hxr;have:(execOp a.eval o).run P w=.ok (.value (.int .u8 b.toNat)) w:=by
  simp [execOp,hop,hxv,hiv,Instr.index,asIntOf,run_underlying (zk1 htb hk),h0,hb]
 rw [this];exact ZP hf (.pv _ _ (.base _ rfl))
def Xj (env:Env) (H:HEnv) (d:Int):Option Operand→Option Int
 | none=>some d
 | some x=>match env.pv H x with|some (.base (.int _ m))=>some m|_=>none
theorem zdb (hf:FS g K ρ H w) {x:Option Operand} {d m:Int} (hv:∀ y∈x.toArray,∀ av,env.val y=some av→ARel K w ρ H av (a.eval y)) (h:Xj env H d x=some m) :
  (x=none∧m=d)∨∃ y k,x=some y∧a.eval y=.int k m:=by
 cases x with
 | none=>simp [Xj] at h;exact .inl ⟨rfl,h.symm⟩
 | some y =>
  simp only [Xj] at h;split at h
  ·rename_i k m' hm;simp only [Option.some.injEq] at h;subst h;have:=qc hf (hv y zwy63) hm;generalize hyv:a.eval y=yv at this;cases this;exact .inr ⟨y,k,rfl,hyv⟩
  ·cases h
theorem QH {t e:TypeId} {parts:Array (Nat × Operand)} (htb:yR P tb) (hop:o.op=.buildSlice t 0 parts) (hp:parts=#[]) (hk:tb.k t=.sl e) (hke:tb.known e=true) (hsz:Nat.blt 0 (tb.size e)=true):QStep P g H o env (.pv (.slc (tb.size e) [] true)):=by
 refine ⟨fun K ρ a w hf hv=>?_⟩;subst hp;have hko:tb.k e≠.oth:=by intro h;simp [Tab.known,h] at hke
 have hs:=run_sizeOf htb hko w;have hrun:(execOp a.eval o).run P w=.ok (.value (.slice (some ⟨w.heap.size,0,none⟩) 0 0)) (w.alloc (.cells #[] e)):=by
  have e0:Array.range 0=#[]:=Array.eq_empty_of_size_eq_zero zwy63;simp [execOp,hop,Instr.buildSlice,run_underlying (qY htb hk),hs,Instr.fill,newRow,e0]
 rw [hrun];refine ⟨_,zah hf.lt #[] e 0,.pv _ _ ?_⟩;have:=PRel.slc (K:=zce K w 0) (w:=w.alloc (.cells #[] e)) (tb.size e) [] true w.heap.size 0 0 (fun _=>[]) (Nat.le_of_ble_eq_true hsz) (Nat.le_refl _) (fun _=>rfl) zwy120 zwy120 (fun i e h=>by simp at h) (fun i e k c v h=>by simp at h);exact this
theorem zvR {t e:TypeId} {x:Operand} {lo hi:Option Operand} {sz:Nat} {es:List PV} {full:Bool} {l h:Int} (htb:yR P tb) (hop:o.op=.slice t x lo hi none) (hk:tb.k t=.sl e) (hke:tb.known e=true) (hsz:tb.size e=sz) (hx:env.pv H x=some (.slc sz es full))
  (hlo:Xj env H 0 lo=some l) (hhi:Xj env H es.length hi=some h) (h0:0≤l) (h1:l≤h) (h2:h≤es.length):QStep P g H o env (.pv (.slc sz ((es.take h.toNat).drop l.toNat) false)):=by
 refine ⟨fun K ρ a w hf hv=>?_⟩;have hxr:=qc hf (hv x zwy69) hx;generalize hxv:a.eval x=xv at hxr;have el:=zdb (a:=a) hf (x:=lo) (fun y hy=>hv y (by rw [hop];simp [Op.operands] at hy ⊢;exact .inr (.inl hy))) hlo;have eh:=zdb (a:=a) hf (x:=hi) (fun y hy=>hv y (by rw [hop];simp [Op.operands] at hy ⊢;exact .inr (.inr hy))) hhi;have hko:tb.k e≠.oth:=by intro h;simp [Tab.known,h] at hke
 have hs:=run_sizeOf htb hko w;have hh0:0≤h:=by omega
 have hlh:l≤((h.toNat:Nat):Int):=by omega
 have bounds:∀ cap:Nat,es.length≤cap→(Instr.sliceBounds true es.length cap (lo.map a.eval) (hi.map a.eval) none).run P w=.ok (l.toNat,h.toNat,cap) w:=by
  intro cap hcap;have hhc:h≤(cap:Int):=by omega
  rcases el with ⟨rfl,rfl⟩|⟨y,k,rfl,hy⟩ <;> rcases eh with ⟨rfl,rfl⟩|⟨z,k',rfl,hz⟩
  ·simp [Instr.sliceBounds]
  ·simp [hz,Instr.sliceBounds,Instr.sliceBound,asIntOf,hhc,hh0]
  ·simp [hy,Instr.sliceBounds,Instr.sliceBound,asIntOf,h0,h1]
  ·simp [hy,hz,Instr.sliceBounds,Instr.sliceBound,asIntOf,h0,hlh,hhc,hh0];intro hc;omega
 cases hxr with
 | nil =>
  simp only [List.length_nil,Int.natCast_zero] at h2 bounds;have e1:l=0:=by omega
  have e2:h=0:=by omega
  subst e1 e2;have hrun:(execOp a.eval o).run P w=.ok (.value (.slice none 0 0)) w:=by
   have:=bounds 0 (Nat.le_refl _);simp [execOp,hop,hxv,Instr.sliceAt,Instr.slice,run_underlying (qY htb hk),this,hs]
  rw [hrun];exact ZP hf (.pv _ _ (by simpa using PRel.nil (K:=K) (w:=w) sz false))
 | emp _ _ ad =>
  simp only [List.length_nil,Int.natCast_zero] at h2 bounds;have e1:l=0:=by omega
  have e2:h=0:=by omega
  subst e1 e2;have hrun:(execOp a.eval o).run P w=.ok (.value (.slice (some ad) 0 0)) w:=by
   have:=bounds 0 (Nat.le_refl _);simp [execOp,hop,hxv,Instr.sliceAt,Instr.slice,run_underlying (qY htb hk),this,hs]
  rw [hrun];exact ZP hf (.pv _ _ (by simpa using PRel.emp (K:=K) (w:=w) sz false ad))
 | slc _ _ _ b off cap vss q0 q1 q2 q3 q4 q5 q6 =>
  have hb:=bounds cap q1;have hlen:((es.take h.toNat).drop l.toNat).length=h.toNat - l.toNat:=by simp;omega
  have hget:∀ i e,((es.take h.toNat).drop l.toNat)[i]?=some e→es[l.toNat + i]?=some e:=by
   intro i e he;rw [List.getElem?_drop,List.getElem?_take] at he;split at he
   ·exact he
   ·cases he
  have hrun:(execOp a.eval o).run P w=.ok (.value (.slice (if cap=l.toNat then some ⟨b,off,none⟩ else some ⟨b,off + l.toNat * sz,none⟩) (h.toNat - l.toNat) (cap - l.toNat))) w:=by
   simp [execOp,hop,hxv,Instr.sliceAt,Instr.slice,run_underlying (qY htb hk),hb,hs,hsz,Addr.add_lit]
  rw [hrun];refine ZP hf (.pv _ _ ?_);have key:∀ off',(off'=off + l.toNat * sz∨h.toNat - l.toNat=0)→PRel K w (.slc sz ((es.take h.toNat).drop l.toNat) false) (.slice (some ⟨b,off',none⟩) (h.toNat - l.toNat) (cap - l.toNat)):=by
   intro off' hoff;have:=PRel.slc (K:=K) (w:=w) sz ((es.take h.toNat).drop l.toNat) false b off' (cap - l.toNat) (fun i=>vss (l.toNat + i)) q0 (by rw [hlen];omega) zwy63 (by rw [hlen];omega) zwy62
    (fun i e he=>by
     have he':=hget i e he;obtain ⟨r1,r2,r3⟩:=q5 _ e he';refine ⟨r1,r2,?_⟩;rcases hoff with rfl|hz
     ·rw [Nat.add_assoc,←Nat.add_mul];exact r3
     ·have:=(List.getElem?_eq_some_iff.1 he).1;rw [hlen] at this;omega)
    (fun i e k c v he=>q6 _ e k c v (hget i e he))
   rw [hlen] at this;exact this
  split
  ·rename_i hcl;exact key off (.inr zwy62)
  ·exact key _ (.inl rfl)
theorem Wu {ty e:TypeId} {x y:Operand} {sz:Nat} {es xs:List PV} {full:Bool} (htb:yR P tb) (hop:o.op=.call { callee:=.builtin .append,args:=#[x,y],argTypes:=#[ty,ty] }) (hk:tb.k ty=.sl e)
  (hx:env.pv H x=some (.slc sz es true)∨(es=[]∧env.pv H x=some (.base (.slice none 0 0)))) (hy:env.pv H y=some (.slc sz xs full))
  (hzz:(match tb.get e with|some ti=>(match ti.zero with|some z=>ti.size==sz&&z.cells.size==sz&&Nat.blt 0 sz|none=>false)|none=>false)=true)
  (hbound:(es.length + xs.length) * (match tb.get e with|some ti=>ti.bytes|none=>0)≤140737488355328) (hb2:es.length + xs.length≤140737488355328):QStep P g H o env (.pv (.slc sz (es++xs) false)):=by
 refine ⟨fun K ρ a w hf hv=>?_⟩;cases hti:tb.get e with
 | none=>simp [hti] at hzz
 | some ti =>
  cases hz:ti.zero with
  | none=>simp [hti,hz] at hzz
  | some z =>
   simp only [hti,hz,Bool.and_eq_true,beq_iff_eq] at hzz hbound;obtain ⟨⟨z1,z2⟩,z3⟩:=hzz;have hsz:0 < sz:=Nat.le_of_ble_eq_true z3;obtain ⟨tin,q1,q2,q3,q4,_⟩:=ZJ htb hti;have hyr:=qc hf (hv y zwy70) hy;obtain ⟨news,n1,n2,n3,n4,n5⟩:=Wj hyr;have hxr:PRel K w (.slc sz es true) (a.eval x):=by
    rcases hx with hx|⟨rfl,hx⟩
    ·exact qc hf (hv x zwy70) hx
    ·have:=qc hf (hv x zwy70) hx;generalize a.eval x=xv at this ⊢;cases this;exact .nil sz true
   obtain ⟨us,m1,m2,m3,m4,m5⟩:=Wj hxr;have hall:(us++news).length=(es.length + xs.length) * sz:=by rw [List.length_append,m1,n1,Nat.add_mul]
   have hone:∀ v∈us++news,v.oneCell'=true:=fun v hv'=>(List.mem_append.1 hv').elim (m3 v) (n3 v)
   have hcr:=m4.append m1 n4;have fin:∀ (w2:World) (cap:Nat) (junk:List Value),Evo K K w w2→es.length + xs.length≤cap→cap≤maxLen→∀ (w3:World) (arr:Array Value),arr=(us++news++junk).toArray→w3=w2.alloc (.cells arr e) →
     ∃ K',Evo K K' w w3∧PRel K' w3 (.slc sz (es++xs) false) (.slice (some ⟨w2.heap.size,0,none⟩) (es.length + xs.length) cap):=by
    rintro w2 cap junk hev hc1 hc2 w3 arr rfl rfl;have hlt2:∀ b o,K b o→b < w2.heap.size:=hev.lt;have h3:=zah hlt2 (us++news++junk).toArray e ((us++news).length);refine ⟨_,hev.trans h3,?_⟩;have hlat:=(hev.trans h3).later hf.lt;have hcell:∀ j v,(us++news)[j]?=some v→zce K w2 (us++news).length w2.heap.size j∧(w2.alloc (.cells (us++news++junk).toArray e)).cell? ⟨w2.heap.size,j,none⟩=some v:=by
     intro j v hj;have hjl:=(List.getElem?_eq_some_iff.1 hj).1;refine ⟨.inr ⟨rfl,hjl⟩,?_⟩;rw [World.cell?_alloc_new];simp only [List.getElem?_toArray];rw [List.getElem?_append_left hjl];exact hj
    have:=PRel.slc (K:=zce K w2 (us++news).length) (w:=w2.alloc (.cells (us++news++junk).toArray e)) sz (es++xs) false w2.heap.size 0 cap (fun i=>((us++news).drop (i * sz)).take sz) hsz (by rw [List.length_append];exact hc1) zwy63 (by rw [List.length_append];unfold maxLen;omega) hc2
     (fun i e' he=>by
      obtain ⟨r1,r2⟩:=hcr i e' he;have hi:=(List.getElem?_eq_some_iff.1 he).1;rw [List.length_append] at hi;have hil:=Nat.mul_le_mul_right sz (show i + 1≤es.length + xs.length by omega);rw [Nat.add_mul] at hil;refine ⟨r1,by simp only [List.length_take,List.length_drop];omega,?_⟩;intro k v hv';rw [List.getElem?_take] at hv';split at hv'
      ·rw [List.getElem?_drop] at hv';obtain ⟨c1,c2⟩:=hcell _ v hv';rw [Nat.zero_add];exact ⟨c1,c2,hone v (List.mem_of_getElem? hv')⟩
      ·cases hv')
     (fun i e' k c v he hc hv'=>by
      obtain ⟨r1,r2⟩:=hcr i e' he;obtain ⟨v',e1,_,e3⟩:=r2 k c hc;rw [List.getElem?_take] at hv';split at hv'
      ·rw [List.getElem?_drop,e1] at hv';cases hv';exact e3.later hlat
      ·cases hv')
    rw [show (es++xs).length=es.length + xs.length from List.length_append] at this;exact this
   have hsmall:es.length + xs.length≤9223372036854775807:=by omega
   have hrun0:∀ {v':Value} {w':World},(Builtin.append_ #[ty,ty] o.type #[a.eval x,a.eval y]).run P w=.ok v' w'→(execOp a.eval o).run P w=.ok (.value v') w':=by
    intro v' w' h;simp [execOp,hop,resolve,invoke,builtin,h]
   have hcapmax:∀ need old,need≤9223372036854775807→grownCap w need old e≤maxLen:=fun need old h=>grownCap_le_maxLen w need old e zwy110
   have hevd:Evo K K w w.drew:=(Evo.refl hf.lt).drew;rcases n2 with ⟨hy0,hxl⟩|⟨ad',c',hy1,hy2,_,hxc⟩
   ·
    have hxs:xs=[]:=List.eq_nil_of_length_eq_zero hxl;subst hxs;have hrun:(Builtin.append_ #[ty,ty] o.type #[a.eval x,a.eval y]).run P w=.ok (a.eval x) w:=by
     rcases m2 with ⟨e1,_⟩|⟨ad1,c1,e1,_,_,hle⟩
     ·rw [e1,hy0];simp [Builtin.append_,run_underlying (qY htb hk),sizeOf,typeInfo,q1,Builtin.lenOf,Builtin.firstCells]
     ·rw [e1,hy0];simp [Builtin.append_,run_underlying (qY htb hk),sizeOf,typeInfo,q1,Builtin.lenOf,Builtin.firstCells,hle,storeCells]
    rw [hrun0 hrun];refine ZP hf ?_;rw [List.append_nil];exact zd3 sz es true _ _ ρ H _ (.pv _ _ hxr)
   ·by_cases hx0:xs.length=0
    ·have hxs:xs=[]:=List.eq_nil_of_length_eq_zero hx0;subst hxs;have hnews:news=[]:=List.eq_nil_of_length_eq_zero (by simpa using n1);have hrun:(Builtin.append_ #[ty,ty] o.type #[a.eval x,a.eval y]).run P w=.ok (a.eval x) w:=by
      rcases m2 with ⟨e1,_⟩|⟨ad1,c1,e1,_,_,hle⟩
      ·rw [e1,hy1];simp [Builtin.append_,run_underlying (qY htb hk),sizeOf,typeInfo,q1,Builtin.lenOf,Builtin.firstCells,loadCells,loadCellsFrom]
      ·rw [e1,hy1];simp [Builtin.append_,run_underlying (qY htb hk),sizeOf,typeInfo,q1,Builtin.lenOf,Builtin.firstCells,hle,storeCells,loadCells,loadCellsFrom]
     rw [hrun0 hrun];refine ZP hf ?_;rw [List.append_nil];exact zd3 sz es true _ _ ρ H _ (.pv _ _ hxr)
    ·have hns:tin.size=sz:=by omega
     rcases m2 with ⟨e1,hel⟩|⟨ad1,c1,e1,e2,hfull,hle⟩
     ·have hes:es=[]:=List.eq_nil_of_length_eq_zero hel;subst hes;have hus:us=[]:=List.eq_nil_of_length_eq_zero (by simpa using m1);subst hus;have hr:=run_append_nil (P:=P) w ty o.type e tin z (qY htb hk) q1 zwy108 ad' xs.length c' news zwy119 hy2 zwy62 (by simp at hsmall;omega) (by rw [q3];simp at hbound;omega);rw [hrun0 zwy106];obtain ⟨K',f1,f2⟩:=fin w.drew (grownCap w xs.length 0 e) (Builtin.zeroCells z.cells (grownCap w xs.length 0 e - xs.length)).toList hevd (by simpa using grownCap_ge w xs.length 0 e) (hcapmax _ _ (by simp at hsmall;omega)) _ (news.toArray++Builtin.zeroCells z.cells (grownCap w xs.length 0 e - xs.length)) (by apply Array.ext';simp) rfl;refine ⟨K',?_,.pv _ _ ?_⟩
      ·simpa using f1
      ·simpa using f2
     ·have hc1:c1=es.length:=hfull rfl;subst hc1;have hr:=run_append_grow (P:=P) w ty o.type e tin z (qY htb hk) q1 zwy108 ad1 es.length es.length us (by rw [hns];exact m1) e2 ad' xs.length c' news zwy119 hy2 zwy62 zwy62 (growslice_fits zwy62 (by rw [q3];exact hbound));rw [hrun0 zwy106];obtain ⟨K',f1,f2⟩:=fin w.drew (grownCap w (es.length + xs.length) es.length e) (Builtin.zeroCells z.cells (grownCap w (es.length + xs.length) es.length e - (es.length + xs.length))).toList hevd (grownCap_ge w _ _ e) (hcapmax _ _ hsmall) _ (us.toArray++news.toArray++Builtin.zeroCells z.cells (grownCap w (es.length + xs.length) es.length e - (es.length + xs.length))) (by apply Array.ext';simp) rfl;refine ⟨K',?_,.pv _ _ ?_⟩
      ·simpa using f1
      ·simpa using f2
theorem XY {t:TypeId} {x y:Operand} {sz:Nat} {es:List PV} {full:Bool} {e d:Nat} {t':TypeId} (htb:yR P tb) (hg:guardE ops env o=some true) (hop:o.op=.binOp .eql t x y t') (hk:tb.k t=.sl e) (hx:env.pv H x=some (.slc sz es full)) (hy:env.pv H y=some (.base (.slice none 0 0))) (hd:o.dst=some d) (ht:Nat.blt d n=true)
  (h:∀ b:Bool,(b=true→es=[])→AO P n g ops.toArray rest ((d,.pv (.base (.bool b)))::env) H Q):AO P n g ops.toArray (o::rest) env H Q:=by
 refine ⟨fun a w hinv=>?_⟩;have hw:=yT hinv hg;obtain ⟨h1,h2,K,ρ,hf,he⟩:=hinv;refine wpList_step fun Kc hKc=>?_
 rw [if_pos hw];have hxr:=qc (a:=a) hf (x:=x) (fun av hh=>qA he hh) hx;have hyr:=qc (a:=a) hf (x:=y) (fun av hh=>qA he hh) hy;generalize hxv:a.eval x=xv at hxr;generalize hyv:a.eval y=yv at hyr;cases hyr;have key:∀ (b:Bool),(b=true→es=[])→(execOp a.eval o).run P w=.ok (.value (.bool b)) w→Oper.wp P o a w Kc (fun e a' w'=>∃ env' H',Inv n g env' H' a' w'∧e=.normal∧Q env' H'):=by
  intro b hb hrun;unfold Oper.wp;rw [hrun];simp only [Oper.upon];exact hKc _ _ ((h b hb).go _ _ ⟨qW h1,put_defers h2,K,ρ,hf,by rw [hd];exact Zo h1 ht he (.pv _ _ (.base _ rfl))⟩)
 cases hxr with
 | nil =>
  refine key true (fun _=>rfl) ?_;have:(binOp .eql t (.slice none 0 0) (.slice none 0 0)).run P w=.ok (.bool true) w:=by
   exact Lib.run_eql_slice_nil w t e _ _ _ _ _ (qY htb hk)
  simp [execOp,hop,hxv,hyv,eqGuard,this]
 | emp _ _ ad =>
  refine key false zwy63 ?_;have:(binOp .eql t (.slice (some ad) 0 0) (.slice none 0 0)).run P w=.ok (.bool false) w:=by
   exact Lib.run_eql_slice_nil w t e _ _ _ _ _ (qY htb hk)
  simp [execOp,hop,hxv,hyv,eqGuard,this]
 | slc _ _ _ b off cap vss q0 q1 q2 q3 q4 q5 q6 =>
  refine key false zwy63 ?_;have:(binOp .eql t (.slice (some ⟨b,off,none⟩) es.length cap) (.slice none 0 0)).run P w=.ok (.bool false) w:=by
   exact Lib.run_eql_slice_nil w t e _ _ _ _ _ (qY htb hk)
  simp [execOp,hop,hxv,hyv,eqGuard,this]
end
end Go.Cg
