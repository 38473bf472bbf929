/- A part of the walks by abstract values: no statement of its own. -/
import Derived.Test.YtoeplllgofpddaaGreatU11
import Derived.Test.YtoeplllgofpddaaGreatU13
import Derived.Test.YtoeplllgofpddaaGreatU12
import Derived.Test.YtoeplllgofpddaaGreatU18
import Derived.Test.YtoeplllgofpddaaGreatU8
import Derived.Test.YtoeplllgofpddaaGreatU10
set_option linter.unusedVariables false
set_option linter.unusedSimpArgs false
namespace Go.Cg
open Go.RowKit
theorem zkV {P:Program} {o:Oper} {c:Nat} {ty:TypeId} {x y:Operand} (hop:o.op=.store ty x y) (hx:zjf c x=true) (hy:zjf c y=true):zri P o c:=fun a v w=>by
 simp only [execOp,hop,zgF hx,zgF hy]
section
variable {P:Program} {n:Nat} {g:Base} {K:KK} {w:World} {ρ:Nat→Value} {H:HEnv} {env:Env} {a:Act} {ops l:List Oper} {Q:Env→Prop}
theorem zlm {R:Exit→Act→World→Prop} {k jc c r:Nat} {oA oc:Oper} (hl0:l=ops.take k) (hlk:l.length=k) (s:Script P n g H ops l env Q) (hB:ZW ops l=true) (hE:zcS ops=true) (hT:XK ops (k + 1)=true)
  (hA:ops[k]?=some oA) (hgA:oA.guard=none) (hdA:oA.dst=none) (himp:∀ j,j < k→j≠jc→implied ops ops.length k j=true)
  (hjc:jc < k) (hoc:ops[jc]?=some oc) (hpc:oc.op=.move (.tmp r)) (hgc:oc.guard=none) (hdc:oc.dst=some c) (hec:∀ i,yD oc i=false) (hbl:zri P oA c) (x3:c≠r)
  (hR:∀ e a w,R e a w→e=.normal) (hq:∀ env' a w,Q env'→Inv n g env' H a w→wpList P ops.toArray R (ops.drop k) a w):∀ (fuel:Nat) (listed:Array Bool) (a:Act) (w:World),(listed.toList.filter (! ·)).length=fuel→listed.size=ops.length→zoC ops listed →
  ((listed.getD k true=false∧Mid P n g H ops l env Q s listed a w)∨((∀ i,i < ops.length→listed.getD i true=(decide (i < k + 1)&&!(i==jc)))∧∃ v,a.eval (.tmp r)=v∧wpList P ops.toArray R (ops.drop (k + 1)) (a.put (some c) v) w))→wpAny P .any ops.toArray R fuel listed a w:=by
 have hklt:=(List.getElem?_eq_some_iff.1 hA).1
 have hdrop:ops.drop k=oA::ops.drop (k + 1):=by
  rw [List.drop_eq_getElem_cons hklt,(List.getElem?_eq_some_iff.1 hA).2]
 have hget:∀ j,j < k→l[j]?=ops[j]?:=by
  intro j hj
  have:=congrArg (fun x=>x[j]?) hl0
  simp only [List.getElem?_take,if_pos hj] at this
  exact this
 have hocl:l[jc]?=some oc:=by rw [hget jc hjc];exact hoc
 have done:∀ (listed:Array Bool) (a:Act) (w:World),(∀ j,j < l.length→listed.getD j true=true)→Mid P n g H ops l env Q s listed a w→wpList P ops.toArray R (oA::ops.drop (k + 1)) a w:=by
  intro listed a w hall hm
  obtain ⟨K,ρ,hf,hl,he⟩:=hm.st
  rw [←hdrop]
  refine hq s.last a w s.fin ⟨hm.size,hm.defers,K,ρ,hf,fun t av hav=>?_⟩
  have hlast:(s.e++[s.last])[l.length]?=some s.last:=by rw [List.getElem?_append_right (by rw [s.lene];exact Nat.le_refl _),s.lene];simp
  rcases s.src l.length s.last hlast t av hav with ⟨i,o,ri,h1,h2,h3,h4,h5,_⟩|⟨h1,av0,h2,h3⟩
  ·obtain ⟨v,v1,v2⟩:=hl i o ri t h2 (hall i h1) h4 h3
   exact ⟨v,v1,h5 _ _ _ _ _ v2⟩
  ·obtain ⟨v,v1,v2⟩:=he t av0 h2 (fun i o ho _=>h1 i o (List.getElem?_eq_some_iff.1 ho).1 ho)
   exact ⟨v,v1,h3 _ _ _ _ _ v2⟩
 have runc:∀ (a:Act) (w:World),(execOp a.eval oc).run P w=.ok (.value (a.eval (.tmp r))) w:=fun a w=>by simp [execOp,hpc]
 have nilAt:∀ (listed:Array Bool) (a:Act) (w:World),listed.size=ops.length→Region.ready .any ops.toArray listed=[] →
   ((listed.getD k true=false∧Mid P n g H ops l env Q s listed a w)∨((∀ i,i < ops.length→listed.getD i true=(decide (i < k + 1)&&!(i==jc)))∧∃ v,a.eval (.tmp r)=v∧wpList P ops.toArray R (ops.drop (k + 1)) (a.put (some c) v) w))→False:=by
  intro listed a w hs h0 h
  have hall:=ready_nil hE hs h0
  rcases h with ⟨h,_⟩|⟨h,_⟩
  ·rw [hall k hklt] at h;cases h
  ·have:=h jc (by omega);rw [hall jc (by omega)] at this;simp at this
 intro fuel
 induction fuel with
 | zero =>
  intro listed a w hc hs hcl h
  have hall:∀ j,j < ops.length→listed.getD j true=true:=by
   intro j hj
   have hn:=List.filter_eq_nil_iff.1 (List.eq_nil_of_length_eq_zero hc)
   have hlt:j < listed.size:=by omega
   have:=hn listed[j] (by simp)
   simp only [Bool.not_eq_true',Bool.not_eq_false] at this
   rw [Array.getD_eq_getD_getElem?,Array.getElem?_eq_getElem hlt]
   simpa using this
  have hnil:Region.ready .any ops.toArray listed=[]:=by
   rw [List.eq_nil_iff_forall_not_mem]
   intro j hj
   obtain ⟨o,ho,hun,_⟩:=yV.1 hj
   rw [hall j (List.getElem?_eq_some_iff.1 ho).1] at hun;cases hun
  exact (nilAt listed a w hs hnil h).elim
 | succ fuel ih =>
  intro listed a w hc hs hcl h
  refine ⟨fun h0=>(nilAt listed a w hs h0 h).elim,fun j hj=>?_⟩
  obtain ⟨o,ho,hun,hready⟩:=yV.1 hj
  have hjlt:=(List.getElem?_eq_some_iff.1 ho).1
  have hcount:=zdx (by omega) hun hc
  have hcl':=zi4 hs hcl hj
  have hs':(listed.setIfInBounds j true).size=ops.length:=by simp [hs]
  have htail:∀ m o,ops[m]?=some o→k + 1≤m→∀ i,i < m→yD o i=true:=by
   intro m o ho hm i hi
   have hmem:(o,m)∈ops.zipIdx.drop (k + 1):=by
    rw [List.mem_drop_iff_getElem]
    have hlt:=(List.getElem?_eq_some_iff.1 ho).1
    refine ⟨m - (k + 1),by simp;omega,?_⟩
    simp only [List.getElem_zipIdx,Nat.zero_add]
    have:k + 1 + (m - (k + 1))=m:=by omega
    simp only [this]
    rw [(List.getElem?_eq_some_iff.1 ho).2]
   have h1:=List.all_eq_true.1 hT (o,m) hmem
   simp only [Bool.and_eq_true] at h1
   exact List.all_eq_true.1 h1.1 i (List.mem_range.2 hi)
  have hcnt:∀ listed:Array Bool,(listed.toList.filter (! ·)).length=fuel→listed.size=ops.length→(∀ i,i < ops.length→listed.getD i true=decide (i < k + 1))→k + 1 + fuel=ops.length:=by
   intro listed hc hsz hex
   have e1:listed.toList=List.replicate (k + 1) true++List.replicate (ops.length - (k + 1)) false:=by
    apply List.ext_getElem
    ·simp [hsz];omega
    ·intro i h1 h2
     have hi:i < ops.length:=by simpa [hsz] using h1
     have:=hex i hi
     rw [Array.getD_eq_getD_getElem?,Array.getElem?_eq_getElem (by rw [hsz];exact hi)] at this
     simp only [Option.getD_some] at this
     simp only [Array.getElem_toList,this,List.getElem_append,List.length_replicate,List.getElem_replicate]
     by_cases hil:i < k + 1
     ·rw [dif_pos hil,decide_eq_true hil]
     ·rw [dif_neg hil,decide_eq_false hil]
   rw [e1] at hc
   simp only [List.filter_append,List.filter_replicate,Bool.not_true,Bool.false_eq_true,if_false,Bool.not_false,if_true,List.nil_append,List.length_replicate] at hc
   omega
  rcases h with ⟨hk0,hm⟩|⟨hex,v,hv,hT2⟩
  ·obtain ⟨K,ρ,hf,hl,he⟩:=hm.st
   rcases Nat.lt_trichotomy j k with hjk|rfl|hjk
   ·have hol:l[j]?=some o:=by rw [hget j hjk];exact ho
    have hjl:j < l.length:=by omega
    have hrj:s.r[j]?=some (s.r[j]'(by rw [s.lenr];exact hjl)):=List.getElem?_eq_getElem _
    have hej:s.e[j]?=some (s.e[j]'(by rw [s.lene];exact hjl)):=List.getElem?_eq_getElem _
    generalize s.r[j]'(by rw [s.lenr];exact hjl)=rj at hrj
    generalize s.e[j]'(by rw [s.lene];exact hjl)=ej at hej
    obtain ⟨t,hd,ht,hor⟩:=s.ok j o rj ej hol hrj hej
    have hreads:=hm.reads hB hol hej hun hready hl he
    have hk0':(listed.setIfInBounds j true).getD k true=false:=by rw [zU (by omega)];exact hk0
    have hwanted:∀ b,guardE ops ej o=some b→Region.wanted o (yielded ops.toArray a.tmps)=b:=by
     intro b hgb
     unfold guardE Zf at hgb
     cases hg:o.guard with
     | none=>simp [hg] at hgb;subst hgb;simp [Region.wanted,hg]
     | some x =>
      obtain ⟨jj,want⟩:=x
      simp only [hg] at hgb
      cases hjj:ops[jj]? with
      | none=>simp [hjj] at hgb
      | some o' =>
       simp only [hjj] at hgb
       cases hd':o'.dst with
       | none=>simp [hd'] at hgb
       | some t' =>
        simp only [hd'] at hgb
        split at hgb
        ·rename_i bb hbb
         simp only [Option.some.injEq] at hgb;subst hgb
         obtain ⟨v,v1,v2⟩:=hreads t' (by simp [readsOf,Zf,hg,hjj,hd']) _ hbb
         cases v2 with
         | pv _ _ hp=>cases hp;simp only [Region.wanted,hg,yielded,List.getElem?_toArray,hjj,Option.bind_some,hd',v1];cases bb <;> cases want <;> rfl
        ·rename_i vs hbb
         simp only [Option.some.injEq] at hgb;subst hgb
         obtain ⟨v,v1,v2⟩:=hreads t' (by simp [readsOf,Zf,hg,hjj,hd']) _ hbb
         cases v2 with
         | pv _ _ hp=>cases hp;simp only [Region.wanted,hg,yielded,List.getElem?_toArray,hjj,Option.bind_some,hd',v1];cases want <;> rfl
        ·cases hgb
    unfold wpOp
    simp only [List.getElem?_toArray,ho]
    have next:∀ (K':KK) (w':World) (v:Value),Evo K K' w w'→ARel K' w' ρ H rj v→wpAny P .any ops.toArray R fuel (listed.setIfInBounds j true) (a.put o.dst v) w' :=
     fun K' w' v hev hv=>ih _ _ _ hcount hs' hcl' (.inl ⟨hk0',hm.next hB hol hrj hd ht hun hready (fun _ _ _=>trivial) hf hl he hev hv⟩)
    rcases hor with ⟨hgt,hqs⟩|⟨hgf,rfl⟩
    ·rw [hwanted true hgt,if_pos rfl]
     refine .inl ?_
     unfold Oper.wp
     have hqr:=hqs.go K ρ a w hf (fun x hx av hxv=>by
      cases x with
      | tmp t' =>
       obtain ⟨v,v1,v2⟩:=hreads t' (by
        unfold readsOf
        exact List.mem_append_left _ (YR (Array.mem_toList_iff.2 hx))) av hxv
       simpa [Act.eval,Array.getD_eq_getD_getElem?,v1] using v2
      | const v =>
       simp only [Env.val] at hxv
       split at hxv
       ·rename_i h1;simp only [Option.some.injEq] at hxv;subst hxv;exact .pv _ _ (.base v h1)
       ·cases hxv
      | func f =>
       simp only [Env.val,Option.some.injEq] at hxv;subst hxv
       exact .pv _ _ (.fn (.func f) [] [] [] [] rfl rfl (by simp) (by simp))
      | global gg =>
       simp only [Env.val,Option.some.injEq] at hxv;subst hxv
       exact .pv _ _ (.base _ rfl))
     generalize (execOp a.eval o).run P w=res at hqr
     cases res with
     | halt x w'=>simp only [zdu] at hqr
     | ok nx w' =>
      cases nx <;> simp only [zdu] at hqr <;> simp only [Oper.upon]
      case value v =>
       obtain ⟨K',hev,hv⟩:=hqr
       exact next K' _ _ hev hv
      case enter f args =>
       obtain ⟨rfl,hc'⟩:=hqr
       refine hc'.mono fun e w'' ⟨v,K',he',hev,hv⟩=>?_
       subst he'
       exact next K' _ _ hev hv
    ·rw [hwanted false hgf,if_neg (by simp)]
     exact next K _ _ (.refl hf.lt) VQ
   ·
    rw [hA] at ho;cases ho
    have hw1:Region.wanted oA (yielded ops.toArray a.tmps)=true:=by simp [Region.wanted,hgA]
    have hw2:∀ a:Act,Region.wanted oA (yielded ops.toArray a.tmps)=true:=fun a=>by simp [Region.wanted,hgA]
    have hpre:∀ m,m < j→m≠jc→listed.getD m true=true:=by
     intro m hm' hne
     rw [zaN (by omega)]
     exact zan hcl _ j m oA hA hready (himp m hm' hne)
    unfold wpOp
    simp only [List.getElem?_toArray,hA]
    rw [if_pos hw1]
    cases hjcl:listed.getD jc true
    ·
     have hrjc:s.r[jc]?=some (s.r[jc]'(by rw [s.lenr];omega)):=List.getElem?_eq_getElem _
     have hejc:s.e[jc]?=some (s.e[jc]'(by rw [s.lene];omega)):=List.getElem?_eq_getElem _
     generalize s.r[jc]'(by rw [s.lenr];omega)=rc at hrjc
     generalize s.e[jc]'(by rw [s.lene];omega)=ec at hejc
     obtain ⟨t,hd,ht,hor⟩:=s.ok jc oc rc ec hocl hrjc hejc
     have hreadyc:∀ i,yD oc i=true→listed.getD i false=true:=fun i hi=>by rw [hec i] at hi;cases hi
     have hreads:=hm.reads hB hocl hejc hjcl hreadyc hl he
     obtain ⟨K',hev,hvr⟩:∃ K',Evo K K' w w∧ARel K' w ρ H rc (a.eval (.tmp r)):=by
      rcases hor with ⟨_,hqs⟩|⟨hgf,_⟩
      ·have hqr:=hqs.go K ρ a w hf (fun x hx av hxv=>by
        rw [hpc] at hx
        simp only [Op.operands,List.mem_toArray] at hx
        have hx':x=.tmp r:=by simpa using hx
        subst hx'
        obtain ⟨v,v1,v2⟩:=hreads r (by unfold readsOf;rw [hpc];exact List.mem_append_left _ (by simp [Op.operands,zdo])) av hxv
        simpa [Act.eval,Array.getD_eq_getD_getElem?,v1] using v2)
       rw [runc] at hqr
       exact hqr
      ·simp [guardE,hgc] at hgf
     have hm2:=hm.next hB hocl hrjc hd ht hjcl hreadyc (fun _ _ _=>trivial) hf hl he hev hvr
     rw [hdc] at hm2
     have hwl:=done _ _ _ (fun m hm'=>by
      by_cases e:m=jc
      ·subst e;exact qh (by omega)
      ·rw [zU e];exact hpre m (by omega) e) hm2
     unfold wpList at hwl
     rw [if_pos (hw2 _)] at hwl
     rcases hwl with hwl|hwl
     ·refine .inl ?_
      have hex:∀ i,i < ops.length→(listed.setIfInBounds j true).getD i true=(decide (i < j + 1)&&!(i==jc)):=by
       intro i hi
       by_cases e:i=j
       ·subst e;rw [qh (by omega)];simp;omega
       ·rw [zU e]
        by_cases e2:i=jc
        ·subst e2;simp [hjcl]
        ·by_cases e3:i < j
         ·rw [hpre i e3 e2];simp [e2];omega
         ·rw [hm.notail i (by omega) hi];simp;omega
      have go:∀ (a2:Act) (w':World),a2.tmps=a.tmps→wpList P ops.toArray R (ops.drop (j + 1)) (a2.put (some c) (a.eval (.tmp r))) w'→wpAny P .any ops.toArray R fuel (listed.setIfInBounds j true) a2 w':=fun a2 w' h2 hh =>
       ih _ _ _ hcount hs' hcl' (.inr ⟨hex,_,by simp only [Act.eval,Array.getD_eq_getD_getElem?,h2],hh⟩)
      unfold Oper.wp at hwl ⊢
      rw [hbl] at hwl
      generalize (execOp a.eval oA).run P w=res at hwl
      cases res with
      | halt x w'=>cases x <;> simp only [Oper.upon] at hwl <;> exact nomatch hR _ _ _ hwl
      | ok nx w' =>
       cases nx <;> simp only [Oper.upon,hdA] at hwl ⊢
       case value v=>exact go _ _ rfl hwl
       case skip=>exact go _ _ rfl hwl
       case defer d=>exact go _ _ rfl hwl
       case enter f args=>exact Calls.mono hwl (fun e w'' he=>by
        cases e with
        | returned v=>exact go _ _ rfl he
        | panicked ch=>exact nomatch hR _ _ _ he
        | outgrown=>exact he)
       case row f args=>exact Rows.mono hwl (fun v _ he=>go _ _ rfl he)
     ·exact nomatch hR _ _ _ hwl.2.choose_spec.choose_spec
    ·have hwl:=done _ _ _ (fun m hm'=>by
      by_cases e:m=jc
      ·subst e;exact hjcl
      ·exact hpre m (by omega) e) hm
     unfold wpList at hwl
     rw [if_pos hw1] at hwl
     refine hwl.imp (fun hwl=>?_) id
     have hex:∀ i,i < ops.length→(listed.setIfInBounds j true).getD i true=decide (i < j + 1):=by
      intro i hi
      by_cases e:i=j
      ·subst e;rw [qh (by omega)];simp
      ·rw [zU e]
       by_cases e3:i < j
       ·by_cases e2:i=jc
        ·subst e2;rw [hjcl];simp;omega
        ·rw [hpre i e3 e2];simp;omega
       ·rw [hm.notail i (by omega) hi];simp;omega
     exact Oper.wp_mono (fun a2 w2 hh=>Wi hT fuel (j + 1) _ a2 w2 (Nat.le_refl _) (hcnt _ hcount hs' hex) hs' hex hh) hwl
   ·have:=hready k (htail j o ho (by omega) k hjk)
    rw [←zaN (by omega),hk0] at this;cases this
  ·
   have hjj:j=jc:=by
    rcases Nat.lt_or_ge j (k + 1) with h1|h1
    ·have:=hex j hjlt
     rw [hun] at this
     have h2:decide (j < k + 1)=true:=decide_eq_true h1
     rw [h2] at this
     simpa using this
    ·have:=hready jc (htail j o ho h1 jc (by omega))
     rw [←zaN (by omega),hex jc (by omega)] at this;simp at this
   subst hjj
   rw [hoc] at ho;cases ho
   unfold wpOp
   simp only [List.getElem?_toArray,hoc]
   rw [if_pos (by simp [Region.wanted,hgc])]
   refine .inl ?_
   unfold Oper.wp
   rw [runc]
   simp only [Oper.upon,hdc]
   rw [hv]
   have hex2:∀ i,i < ops.length→(listed.setIfInBounds j true).getD i true=decide (i < k + 1):=by
    intro i hi
    by_cases e:i=j
    ·subst e;rw [qh (by omega)];simp;omega
    ·rw [zU e,hex i hi];simp [e]
   exact Wi hT fuel (k + 1) _ _ w (Nat.le_refl _) (hcnt _ hcount hs' hex2) hs' hex2 hT2
def zkB (ops:List Oper) (oc:Oper) (k jc c r:Nat):Bool :=
 ZW ops (ops.take k)&&zcS ops&&XK ops (k + 1)&&((List.range k).all fun j=>j==jc||implied ops ops.length k j)&&Nat.blt jc k&&(oc.after.toList.all fun e=>!Region.binds .any e)&&!(c==r)
theorem zh5 {QQ:QC} {id:Nat} (k jc:Nat) {c r:Nat} {oA oc:Oper} (hok:WE ops (k + 1)=true) (hm:P.follows .mixedOrders=true)
  (hA:(zQ (k + 1) ops 0)[k]?=some oA) (hgA:oA.guard=none) (hdA:oA.dst=none) (hoc:(zQ (k + 1) ops 0)[jc]?=some oc) (hpc:oc.op=.move (.tmp r)) (hgc:oc.guard=none) (hdc:oc.dst=some c) (hbl:zri P oA c)
  (hchk:zkB (zQ (k + 1) ops 0) oc k jc c r=true)
  (h:AD P n g H (zQ (k + 1) ops 0) (fun env'=>AO P n g (zQ (k + 1) ops 0).toArray ((zQ (k + 1) ops 0).drop k) env' H (fun env' H'=>QQ .normal env' H')) ((zQ (k + 1) ops 0).take k) env) (hnd:Zj ops=true:=by kernel_rfl):AW P n g (.region id ops.toArray true) env H QQ:=by
 simp only [zkB,Bool.and_eq_true,Bool.not_eq_true',beq_eq_false_iff_ne] at hchk
 obtain ⟨⟨⟨⟨⟨⟨hB,hE⟩,hT⟩,himp⟩,hjc⟩,hec⟩,x3⟩:=hchk
 have hjc':=Nat.le_of_ble_eq_true hjc
 obtain ⟨s⟩:=VO h
 refine ⟨fun a w hi rr dd=>?_⟩
 refine wpIn_mono (WU (R:=fun a' w'=>∃ env' H',Inv n g env' H' a' w'∧QQ .normal env' H') hnd hm ?_) (fun e a' w' h=>by obtain ⟨rfl,h⟩:=h;exact h)
 have hlen:=QZ (k + 1) ops 0
 refine zao hok _ _ _ _ (by simp) ?_ ?_
 ·intro j o ho hl
  have hlt:=(List.getElem?_eq_some_iff.1 ho).1
  simp [Array.getD_eq_getD_getElem?,hlt] at hl
 obtain ⟨h1,h2,K,ρ,hf,he⟩:=hi
 have hev:Evo K K w { w with drawn:=w.drawn + 1 }:=(Evo.refl hf.lt).drew
 have hsz:ops.toArray.size=(zQ (k + 1) ops 0).length:=by simp [hlen]
 rw [hsz]
 generalize zQ (k + 1) ops 0=ops' at *
 have hklt:=(List.getElem?_eq_some_iff.1 hA).1
 have hlk:(ops'.take k).length=k:=by simp;omega
 refine zlm (jc:=jc) (by simp [hlk]) hlk s hB hE hT hA hgA hdA (fun j hj hne=>?_) hjc' hoc hpc hgc hdc (fun i=>?_) hbl x3 (fun e a w hh=>hh.1) (fun env' a' w' h hi'=>ZJ (fun e a' w' ⟨env',H',h1,h2,h3⟩=>⟨h2,env',H',h1,h3⟩) (h.go a' w' hi')) _ _ _ _ (by simp) (by simp) ?_ (.inl ⟨?_,h1,h2,by simp,by rw [hlk];omega,?_,?_,K,ρ,hf.evo hev,?_,?_⟩)
 ·have:=List.all_eq_true.1 himp j (List.mem_range.2 hj)
  rw [Bool.or_eq_true,beq_iff_eq] at this
  exact this.resolve_left hne
 ·have hh:∀ l:List Edge,(l.all fun e=>!Region.binds .any e)=true→(l.any fun e=>Region.binds .any e&&e.on==i)=false:=by
   intro l
   induction l with
   | nil=>intro _;rfl
   | cons x l ih =>
    intro h
    simp only [List.all_cons,Bool.and_eq_true,Bool.not_eq_true'] at h
    simp only [List.any_cons,h.1,Bool.false_and,Bool.false_or]
    exact ih h.2
  exact hh _ hec
 ·intro j o ho hl
  have hlt:=(List.getElem?_eq_some_iff.1 ho).1
  simp [Array.getD_eq_getD_getElem?,hlt] at hl
 ·simp [Array.getD_eq_getD_getElem?,hklt]
 ·intro j _ hj
  simp [Array.getD_eq_getD_getElem?,hj]
 ·intro i o ho hli
  have hlt:=(List.getElem?_eq_some_iff.1 ho).1
  have:i < ops'.length:=by simp at hlt;omega
  simp [Array.getD_eq_getD_getElem?,this] at hli
 ·intro i o ri t ho hli
  have hlt:=(List.getElem?_eq_some_iff.1 ho).1
  have:i < ops'.length:=by simp at hlt;omega
  simp [Array.getD_eq_getD_getElem?,this] at hli
 ·intro t av hav _
  obtain ⟨v,v1,v2⟩:=he t av hav
  exact ⟨v,v1,v2.later (hev.later hf.lt)⟩
end
end Go.Cg
namespace Go.Cg
open Go.Proofs
set_option maxHeartbeats 20000000
theorem zeb {tb:Tab} {rs:List ResultVar} {i t:Nat} {H' H:HEnv} {env:Env} (hr:rs=[.tmp t]) (hg:env.get t=some (.own i)) (hf:Wn H H' [(t,.own i)]):zie tb rs (.own i) H' .ret env H:=⟨.inr rfl,.inr ⟨t,hr,hg,hf⟩⟩
theorem zkb (l:List TD) (hl:l.length≤1000):ACallM Tryz.prog 74 [.pv (.slc 4 (l.map ZA) false)] [] (.own 10) [(10,.mrow 99 4 (l.map ZA))]:=by
 refine QK zf Tryz.func74 rfl (by kernel_rfl) Tryz.ntmps74 (by simp) _ rfl (fun gB hw1=>?_)
 repeat' (first|refine zfH (t:=2) 10 99 4 (by decide) rfl rfl ?_|refine XH zf rfl rfl rfl rfl rfl rfl rfl (fun bb hbb=>?_)|refine zi1 zf 10 rfl rfl rfl rfl rfl rfl rfl rfl rfl ?_|refine zkG 10 rfl ?_|(refine yH ?_;first|refine Wy zf rfl rfl rfl rfl rfl rfl rfl (by show _ * 56≤_;simp;omega) (by simp;omega) rfl rfl ?_)|refine sA ?_|refine sC (fun _=>?_) (fun _=>?_)|fail)
 ·rename_i h
  rw [hbb h]
  exact zeb rfl rfl tH
 ·exact zeb rfl rfl tH
theorem zjU (l:List Me) (hl:l.length≤1000):ACallM Tryz.prog 76 [.pv (.slc 12 (l.map yL) false)] [] (.own 12) [(12,.mrow 70 12 (l.map yL))]:=by
 refine QK zf Tryz.func76 rfl (by kernel_rfl) Tryz.ntmps76 (by simp) _ rfl (fun gB hw1=>?_)
 repeat' (first|refine zfH (t:=2) 12 70 12 (by decide) rfl rfl ?_|refine XH zf rfl rfl rfl rfl rfl rfl rfl (fun bb hbb=>?_)|refine zi1 zf 12 rfl rfl rfl rfl rfl rfl rfl rfl rfl ?_|refine zkG 12 rfl ?_|(refine yH ?_;first|refine Wy zf rfl rfl rfl rfl rfl rfl rfl (by show _ * 168≤_;simp;omega) (by simp;omega) rfl rfl ?_)|refine sA ?_|refine sC (fun _=>?_) (fun _=>?_)|fail)
 ·rename_i h
  rw [hbb h]
  exact zeb rfl rfl tH
 ·exact zeb rfl rfl tH
theorem zjc (l:List Fd) (hl:l.length≤1000):ACall Tryz.prog 75 [.slc 7 (l.map ZK) false] (.slc 7 (l.map ZK) false):=by
 refine zh zf Tryz.func75 rfl (by kernel_rfl) Tryz.ntmps75 (by simp) _ rfl (fun hw gB hgB=>?_)
 repeat' (first|refine XH zf rfl rfl rfl rfl rfl rfl rfl (fun bb hbb=>?_)|refine zB rfl (YK zf rfl rfl rfl rfl rfl) rfl rfl ?_|(refine yH ?_;first|refine zB rfl (Qq zf rfl rfl (.inl rfl) rfl rfl (by show _ * 64≤_;simp;omega) (by simp;omega)) rfl rfl ?_)|refine sA ?_|refine sC (fun _=>?_) (fun _=>?_)|fail)
 ·rename_i h
  have:l=[]:=by have:=hbb h;simpa using this
  subst this
  exact zcp (t:=2) (ps:=[.slc 7 [] false]) rfl (Xp 7 false) rfl rfl
 ·exact retq rfl rfl
theorem zjt (l:List Int) (hl:l.length≤1000):ACall Tryz.prog 77 [.slc 1 (l.map pi) false] (.slc 1 (l.map pi) false):=by
 refine zh zf Tryz.func77 rfl (by kernel_rfl) Tryz.ntmps77 (by simp) _ rfl (fun hw gB hgB=>?_)
 repeat' (first|refine XH zf rfl rfl rfl rfl rfl rfl rfl (fun bb hbb=>?_)|refine zB rfl (YK zf rfl rfl rfl rfl rfl) rfl rfl ?_|(refine yH ?_;first|refine zB rfl (Qq zf rfl rfl (.inl rfl) rfl rfl (by show _ * 8≤_;simp;omega) (by simp;omega)) rfl rfl ?_)|refine sA ?_|refine sC (fun _=>?_) (fun _=>?_)|fail)
 ·rename_i h
  have:l=[]:=by have:=hbb h;simpa using this
  subst this
  exact zcp (t:=2) (ps:=[.slc 1 [] false]) rfl (Xp 1 false) rfl rfl
 ·exact retq rfl rfl
theorem zh6 (l:List Ins) (hl:l.length≤1000):ACall Tryz.prog 79 [.slc 6 (l.map ZP) false] (.slc 6 (l.map ZP) false):=by
 refine zh zf Tryz.func79 rfl (by kernel_rfl) Tryz.ntmps79 (by simp) _ rfl (fun hw gB hgB=>?_)
 repeat' (first|refine XH zf rfl rfl rfl rfl rfl rfl rfl (fun bb hbb=>?_)|refine zB rfl (YK zf rfl rfl rfl rfl rfl) rfl rfl ?_|(refine yH ?_;first|refine zB rfl (Qq zf rfl rfl (.inl rfl) rfl rfl (by show _ * 48≤_;simp;omega) (by simp;omega)) rfl rfl ?_)|refine sA ?_|refine sC (fun _=>?_) (fun _=>?_)|fail)
 ·rename_i h
  have:l=[]:=by have:=hbb h;simpa using this
  subst this
  exact zcp (t:=2) (ps:=[.slc 6 [] false]) rfl (Xp 6 false) rfl rfl
 ·exact retq rfl rfl
theorem zj4 (l:List Cl) (hl:l.length≤1000):ACall Tryz.prog 80 [.slc 10 (l.map ZB) false] (.slc 10 (l.map ZB) false):=by
 refine zh zf Tryz.func80 rfl (by kernel_rfl) Tryz.ntmps80 (by simp) _ rfl (fun hw gB hgB=>?_)
 repeat' (first|refine XH zf rfl rfl rfl rfl rfl rfl rfl (fun bb hbb=>?_)|refine zB rfl (YK zf rfl rfl rfl rfl rfl) rfl rfl ?_|(refine yH ?_;first|refine zB rfl (Qq zf rfl rfl (.inl rfl) rfl rfl (by show _ * 80≤_;simp;omega) (by simp;omega)) rfl rfl ?_)|refine sA ?_|refine sC (fun _=>?_) (fun _=>?_)|fail)
 ·rename_i h
  have:l=[]:=by have:=hbb h;simpa using this
  subst this
  exact zcp (t:=2) (ps:=[.slc 10 [] false]) rfl (Xp 10 false) rfl rfl
 ·exact retq rfl rfl
abbrev ztN:PV:=.agg [.base (.slice none 0 0),.base (.slice none 0 0),.base (.slice none 0 0),pi 0]
abbrev oB (g:Img):HEnv:=[(1,.cell (.pv ztN)),(0,.cell (.pv (zH g)))]
abbrev mrT (g:Img):HE:=.mrow 99 4 (g.types.map ZA)
abbrev mrM (g:Img):HE:=.mrow 70 12 (g.methods.map yL)
abbrev oHs (g:Img):Nat→HEnv:=fun p=>match p with
 | 0=>oB g
 | 1=>(10,mrT g)::oB g
 | 2=>(10,mrT g)::oB g
 | _=>(12,mrM g)::(10,mrT g)::oB g
theorem zkh (g:Img):∀ q p,q≤p→p≤3→YQ (oHs g q) (oHs g p)=true:=by
 intro q p h1 h2
 have hp:p=0∨p=1∨p=2∨p=3:=by omega
 have hq:q=0∨q=1∨q=2∨q=3:=by omega
 rcases hp with rfl|rfl|rfl|rfl <;> rcases hq with rfl|rfl|rfl|rfl <;> first|rfl|omega
theorem zqJ (g:Img) {gB:Base}:∀ p,p≤3→∀ K ρ w,FS gB K ρ (oHs g p) w→FS gB K ρ (oB g) w:=by
 intro p hp K ρ w h
 have hp:p=0∨p=1∨p=2∨p=3:=by omega
 rcases hp with rfl|rfl|rfl|rfl
 ·exact h
 ·exact h.narrow (e:=[]) tH
 ·exact h.narrow (e:=[]) tH
 ·exact h.narrow (e:=[]) tH
abbrev oL (g:Img):HEnv:=[(0,.cell (.agg [.own 10,.pv (.slc 7 (g.fields.map ZK) false),.own 12,.pv (pi g.entry)])),(1,.cell (.pv ztN)),(10,mrT g),(12,mrM g)]
structure OwnOk (g:Img):Prop where
 t:g.types.length≤1000
 f:g.fields.length≤1000
 m:g.methods.length≤1000
 tf:∀ td∈g.types,td.faces.length≤1000
 mm:∀ m∈g.methods,m.params.length≤1000∧m.locals.length≤1000∧m.code.length≤1000∧m.clauses.length≤1000
theorem WQ {α:Type} {l:List α} {k:Nat} {x:α} (h:l[k]?=some x):l.set k x=l:=by
 obtain ⟨h1,h2⟩:=List.getElem?_eq_some_iff.1 h
 rw [←h2];exact List.set_getElem_self h1
set_option maxHeartbeats 8000000 in
theorem zpY (g:Img) (hg:OwnOk g):ACall Tryz.prog 52 [zH g] (zH g):=by
 obtain ⟨ht,hf,hm,htf,hmm⟩:=hg
 refine zh zf Tryz.func52 rfl (by kernel_rfl) Tryz.ntmps52 (by simp) _ rfl (fun hw gB hgB=>?_)
 repeat' (first|refine zbt 15 10 [2,5,8] (oHs g) (oHs g) (oB g) none rfl (by kernel_rfl) (by kernel_rfl) (by kernel_rfl) (by kernel_rfl) (by kernel_rfl) (by kernel_rfl) rfl (zqJ g) rfl (zkh g) (fun q h=>zkh g q 3 h (Nat.le_refl 3)) tH rfl (fun v hv=>by cases hv) ?_|refine zbL 2 [2,5] (.own 10) rfl rfl rfl rfl rfl ?_|refine zbL 2 [2] (.pv (.slc 7 (g.fields.map ZK) false)) rfl rfl rfl rfl rfl ?_|refine zbL 2 [] (.own 12) rfl rfl rfl rfl rfl ?_|refine zgB ?_|refine ⟨⟨rfl,zdR [] [(10,mrT g)] (oB g) [] zi rfl rfl (fun _ _ h=>h) rfl rfl rfl rfl (fun us=>zkb _ ht),.inr (by kernel_rfl)⟩,?_⟩|refine ⟨⟨rfl,zfJ rfl rfl (fun _ _ _ h=>h.narrow (e:=[]) tH) (zjc _ hf),.inl rfl⟩,?_⟩|refine ⟨⟨rfl,zdR [] [(12,mrM g)] ((10,mrT g)::oB g) [] zi rfl rfl (fun _ _ h=>h) rfl rfl rfl rfl (fun us=>zjU _ hm),.inr (by kernel_rfl)⟩,?_⟩|intro _|refine zfi ?_|refine sM ?_|(refine VU ?_;first|refine zcX 0 rfl rfl rfl rfl rfl rfl ?_)|refine sK ?_|refine sC (fun _=>?_) (fun _=>?_)|fail)
 refine zJ (fun k:Nat=>[(1,.box 0 0),(2,.box 1 0),(20,.pv (pi g.types.length)),(21,.pv (pi k))]) (fun _=>oL g) (fun k=>k≤g.types.length) (fun k=>g.types.length - k) 0 (by omega) (by repeat (first|exact yS|refine yG rfl ?_|(refine Zc rfl ?_ ?_;· simp))) tH ?_
 intro k hk
 by_cases hlt:k < g.types.length
 ·have hp:(g.types.map ZA)[k]?=some (ZA g.types[k]):=by simp [hlt]
  have hkl:k < (g.types.map ZA).length:=by simpa using hlt
  have hfc:=htf _ (List.getElem_mem hlt)
  repeat' (first|refine zX 13 10 rfl (by kernel_rfl) (by kernel_rfl) (by kernel_rfl) (by kernel_rfl) (by kernel_rfl) ?_|refine sM ?_|refine zB rfl (Qm (k:=k) (j:=3) zf rfl rfl rfl rfl hp rfl) rfl rfl ?_|refine AD.step _ _ _ _ _ rfl (Qm (k:=k) (j:=3) zf rfl rfl rfl rfl hp rfl) rfl rfl ?_|(refine shC ?_;first|refine qC (zjt _ hfc) ?_)|(refine shX ?_;first|refine zB rfl (Qg (k:=k) zf rfl rfl rfl rfl rfl rfl rfl rfl hkl) rfl rfl ?_|refine AD.step _ _ _ _ _ rfl (Qg (k:=k) zf rfl rfl rfl rfl rfl rfl rfl rfl hkl) rfl rfl ?_)|(refine Xq ?_;first|refine Wq (k:=k) (j:=3) zf rfl rfl rfl rfl rfl hp rfl rfl rfl rfl rfl ?_)|refine sK ?_|refine sC (fun _=>?_) (fun _=>?_)|fail)
  exact ⟨k + 1,hlt,tD,tS,⟨zT rfl (zT rfl (XA rfl (WQ hp) (zT rfl zK))),rfl⟩⟩
 ·repeat' (first|refine sM ?_|refine sK ?_|refine sC (fun _=>?_) (fun _=>?_)|fail)
  refine zJ (fun k:Nat=>[(1,.box 0 0),(2,.box 1 0),(39,.pv (pi g.methods.length)),(40,.pv (pi k))]) (fun _=>oL g) (fun k=>k≤g.methods.length) (fun k=>g.methods.length - k) 0 (by omega) (by repeat (first|exact yS|refine yG rfl ?_|(refine Zc rfl ?_ ?_;· simp))) tH ?_
  clear hlt hk
  clear k
  intro k hk
  by_cases hlt:k < g.methods.length
  ·have hpA:(g.methods.map yL)[k]?=some (yL g.methods[k]):=by simp [hlt]
   have hkl:k < (g.methods.map yL).length:=by simpa using hlt
   have hpB:((g.methods.map yL).set k (yL g.methods[k]))[k]?=some (yL g.methods[k]):=by rw [WQ hpA];exact hpA
   have hpC:(((g.methods.map yL).set k (yL g.methods[k])).set k (yL g.methods[k]))[k]?=some (yL g.methods[k]):=by rw [WQ hpA];exact hpB
   have hpD:((((g.methods.map yL).set k (yL g.methods[k])).set k (yL g.methods[k])).set k (yL g.methods[k]))[k]?=some (yL g.methods[k]):=by rw [WQ hpA];exact hpC
   have hpE:(((((g.methods.map yL).set k (yL g.methods[k])).set k (yL g.methods[k])).set k (yL g.methods[k])).set k (yL g.methods[k]))=g.methods.map yL:=by rw [WQ hpA,WQ hpA,WQ hpA,WQ hpA]
   obtain ⟨q1,q2,q3,q4⟩:=hmm _ (List.getElem_mem hlt)
   repeat' (first|refine zh5 14 1 (by kernel_rfl) (by kernel_rfl) rfl rfl rfl rfl rfl rfl rfl (zkV rfl rfl rfl) (by kernel_rfl) ?_|refine sM ?_|refine zB rfl (Qm (k:=k) (j:=3) zf rfl rfl rfl rfl hpA rfl) rfl rfl ?_|refine AD.step _ _ _ _ _ rfl (Qm (k:=k) (j:=3) zf rfl rfl rfl rfl hpA rfl) rfl rfl ?_|refine zB rfl (Qm (k:=k) (j:=8) zf rfl rfl rfl rfl hpA rfl) rfl rfl ?_|refine AD.step _ _ _ _ _ rfl (Qm (k:=k) (j:=8) zf rfl rfl rfl rfl hpA rfl) rfl rfl ?_|refine zB rfl (Qm (k:=k) (j:=10) zf rfl rfl rfl rfl hpC rfl) rfl rfl ?_|refine AD.step _ _ _ _ _ rfl (Qm (k:=k) (j:=10) zf rfl rfl rfl rfl hpC rfl) rfl rfl ?_|refine zB rfl (Qm (k:=k) (j:=11) zf rfl rfl rfl rfl hpC rfl) rfl rfl ?_|refine AD.step _ _ _ _ _ rfl (Qm (k:=k) (j:=11) zf rfl rfl rfl rfl hpC rfl) rfl rfl ?_|(refine shC ?_;first|refine qC (zbY _ q1) ?_|refine qC (zbY _ q2) ?_|refine qC (zh6 _ q3) ?_|refine qC (zj4 _ q4) ?_)|(refine shX ?_;first|refine zB rfl (Qg (k:=k) zf rfl rfl rfl rfl rfl rfl rfl rfl hkl) rfl rfl ?_|refine AD.step _ _ _ _ _ rfl (Qg (k:=k) zf rfl rfl rfl rfl rfl rfl rfl rfl hkl) rfl rfl ?_)|(refine Xq ?_;first|refine Wq (k:=k) (j:=3) zf rfl rfl rfl rfl rfl hpA rfl rfl rfl rfl rfl ?_|refine Wq (k:=k) (j:=8) zf rfl rfl rfl rfl rfl hpB rfl rfl rfl rfl rfl ?_|refine Wq (k:=k) (j:=10) zf rfl rfl rfl rfl rfl hpC rfl rfl rfl rfl rfl ?_|refine Wq (k:=k) (j:=11) zf rfl rfl rfl rfl rfl hpD rfl rfl rfl rfl rfl ?_)|refine sK ?_|refine sC (fun _=>?_) (fun _=>?_)|fail)
   exact ⟨k + 1,hlt,tD,tS,⟨zT rfl (zT rfl (zT rfl (XA rfl hpE zK))),rfl⟩⟩
  ·repeat' (first|refine zbo 10 rfl ?_|refine zbo 12 rfl ?_|refine sK ?_|refine sC (fun _=>?_) (fun _=>?_)|fail)
   exact retq rfl rfl
set_option maxHeartbeats 20000000
theorem tSO {P:Prop} (h:P:=by repeat (first|exact yS|refine yG rfl ?_|(refine Zc rfl ?_ ?_;· (first|omega|(rw [wrap_in (by omega) (by omega)] <;> omega)|(dsimp only;rw [wrap_in (by omega) (by omega)] <;> omega)|(simp;done))))):P:=h
theorem ZF {g:Img} {x:Int} (h:mOk g x):(g.methods.map yL)[x.toNat]?=some (yL (mAt g x)):=by
 rw [mAt,zL h.2];exact qW h.2
theorem zei (g:Img) (out ms:List Int) (k:Nat) (h:k < ms.length):ZE g out (ms.take (k + 1))=YI g (ZE g out (ms.take k)) ms[k]:=by
 rw [List.take_succ_eq_append_getElem h,ZE,List.foldl_append];rfl
theorem zpG {g:Img} {t:Int} (h:typeAt g t=none):there g t=false:=by
 cases hh:there g t with
 | false=>rfl
 | true=>obtain ⟨td,h2⟩:=(ZM g t).1 hh;rw [h] at h2;cases h2
theorem zfF (g:Img) (t:Int) (ht:typeAt g t=none):ACall Tryz.prog 157 [zH g,pi t] (ints (tbl g t)):=by
 have c1:=YF g t
 rw [zpG ht] at c1
 rw [zqe ht]
 refine zh zf Tryz.func157 rfl (by kernel_rfl) Tryz.ntmps157 (by simp) _ rfl (fun hw gB hgB=>?_)
 repeat' (first|refine qY (t:=5) 10 3 1 (by decide) rfl rfl ?_|(refine shC ?_;first|refine qC c1 ?_)|refine sA ?_|refine sC (fun _=>?_) (fun _=>?_)|fail)
 exact retq rfl rfl
theorem zdE (g:Img) (hF:Fine g):∀ (n:Nat) (t:Int),(up g t).length≤n→ACall Tryz.prog 157 [zH g,pi t] (ints (tbl g t)):=by
 have hW:=Vu hF.well
 have hgm:g.methods.length≤64:=(zW hF.formed).2.2.1
 intro n
 induction n with
 | zero =>
  intro t hn
  cases ht:typeAt g t with
  | some td=>rw [hW.up_cons ht] at hn;simp at hn
  | none=>exact zfF g t ht
 | succ n ih =>
  intro t hn
  cases ht:typeAt g t with
  | none=>exact zfF g t ht
  | some td =>
   have c1:=YF g t
   rw [(ZM g t).2 ⟨td,ht⟩] at c1
   have c2:=ih td.ext (by rw [hW.up_cons ht] at hn;simpa using hn)
   obtain ⟨h0,he⟩:=qA ht
   have hl0:=zjI hF td.ext
   have c3:=Qh g t (by omega)
   have hml:=Zn g t
   refine zh zf Tryz.func157 rfl (by kernel_rfl) Tryz.ntmps157 (by simp) _ rfl (fun hw gB hgB=>?_)
   repeat' (first|refine zfr (t:=5) 10 3 1 (by decide) rfl rfl ?_|refine zX 11 9 rfl (by kernel_rfl) (by kernel_rfl) (by kernel_rfl) (by kernel_rfl) (by kernel_rfl) ?_|(refine shC ?_;first|refine qC c1 ?_|refine qC c2 ?_|refine qC c3 ?_)|(refine shX ?_;first|refine zB rfl (zl zf rfl rfl rfl rfl rfl rfl h0 he) rfl rfl ?_|refine AD.step _ _ _ _ _ rfl (zl zf rfl rfl rfl rfl rfl rfl h0 he) rfl rfl ?_)|(refine yH ?_;first|refine Wy zf rfl rfl rfl rfl rfl rfl rfl (by show _ * 8≤_;simp;omega) (by simp;omega) rfl rfl ?_)|refine sA ?_|refine sC (fun _=>?_) (fun _=>?_)|fail)
   refine zJ (fun k:Nat=>[(2,.pv (.ptr (zH g) 0)),(5,.own 10),(6,.pv (ints (methodsOf g t))),(7,.pv (pi k))]) (fun k=>[(10,.mrow 3 1 ((ZE g (tbl g td.ext) ((methodsOf g t).take k)).map pi))])
    (fun k=>k≤(methodsOf g t).length) (fun k=>(methodsOf g t).length - k) 0 (by omega) (tS) ⟨XA rfl rfl zK,rfl⟩ ?_
   rintro k hk
   by_cases hlt:k < (methodsOf g t).length
   ·obtain ⟨x,hx⟩:∃ x,x=(methodsOf g t)[k]:=⟨_,rfl⟩
    have hex:((methodsOf g t).map pi)[k]?=some (pi x):=by rw [hx];exact yu (f:=pi) hlt
    have hmx:mOk g x:=by rw [hx];exact qc (List.getElem_mem hlt)
    have hem:=ZF hmx
    have hs:=zei g (tbl g td.ext) _ k hlt
    rw [←hx] at hs
    obtain ⟨out,ho⟩:∃ o,o=ZE g (tbl g td.ext) ((methodsOf g t).take k):=⟨_,rfl⟩
    have hol:out.length≤2112:=by
     have:=(WT g ((methodsOf g t).take k) (tbl g td.ext)).2
     have h2:((methodsOf g t).take k).length≤64:=by simp;omega
     rw [ho];omega
    have hom:∀ y∈out,mOk g y:=by
     intro y hy
     rw [ho] at hy
     rcases zaS hy with hy|hy
     ·exact zgo hy
     ·exact qc (List.mem_of_mem_take hy)
    rw [←ho] at hs ⊢
    have b2:=VJ (mAt g x)
    have b8:=ziL (mAt g x)
    cases hv:VD g x
    ·rw [show yM (mAt g x).flags 2=false from hv] at b2
     repeat' (first|refine zO 1 8 9 0 7 zf (by kernel_rfl) (by kernel_rfl) rfl rfl rfl rfl rfl rfl rfl rfl rfl rfl rfl rfl rfl rfl rfl rfl rfl rfl rfl rfl rfl rfl ?_|refine yh rfl rfl ?_|refine ⟨_,_,rfl,rfl,?_⟩|(refine shC ?_;first|refine qC b2 ?_)|(refine shX ?_;first|refine qX hex ?_|refine zB rfl (zl zf rfl rfl rfl rfl rfl rfl hmx.1 hem) rfl rfl ?_|refine AD.step _ _ _ _ _ rfl (zl zf rfl rfl rfl rfl rfl rfl hmx.1 hem) rfl rfl ?_)|refine sK ?_|refine sC (fun _=>?_) (fun _=>?_)|fail)
     exact ⟨k + 1,hlt,tD,tS,⟨XA rfl (by rw [hs,YI,hv];rfl) zK,rfl⟩⟩
    ·rw [show yM (mAt g x).flags 2=true from hv] at b2
     rw [zmp hv] at hs
     repeat' (first|refine zO 1 8 9 0 7 zf (by kernel_rfl) (by kernel_rfl) rfl rfl rfl rfl rfl rfl rfl rfl rfl rfl rfl rfl rfl rfl rfl rfl rfl rfl rfl rfl rfl rfl ?_|refine yh rfl rfl ?_|refine ⟨_,_,rfl,rfl,?_⟩|(refine shC ?_;first|refine qC b2 ?_)|(refine shX ?_;first|refine qX hex ?_|refine zB rfl (zl zf rfl rfl rfl rfl rfl rfl hmx.1 hem) rfl rfl ?_|refine AD.step _ _ _ _ _ rfl (zl zf rfl rfl rfl rfl rfl rfl hmx.1 hem) rfl rfl ?_)|(refine yH ?_;first|refine zsf zf rfl rfl rfl rfl rfl rfl rfl ?_)|refine sK ?_|refine sC (fun _=>?_) (fun _=>?_)|fail)
     refine zJ (fun c:Nat=>[(2,.pv (.ptr (zH g) 0)),(5,.own 10),(6,.pv (ints (methodsOf g t))),(7,.pv (pi k)),(8,.box 1 0),(9,.pv (pi (atF g out x c))),(10,.pv (pi ((c:Int) - 1)))])
      (fun c=>[(10,.mrow 3 1 (out.map pi)),(1,.cell (.pv (yL (mAt g x))))]) (fun c=>c≤out.length) (fun c=>c) out.length (by omega)
      (by rw [zsl];repeat (first|exact yS|refine yG rfl ?_|(refine Zc rfl ?_ ?_;· (rw [wrap_in (by simp;omega) (by simp;omega)];simp)))) tH ?_
     rintro c hc
     cases c with
     | zero =>
      have hr:=zpN (g:=g) (out:=out) (m:=x) 0
      obtain ⟨a,ha⟩:∃ a,a=atF g out x 0:=⟨_,rfl⟩
      rw [←ha] at hs hr ⊢
      rcases hr with rfl|⟨ha0,ha1⟩
      ·rw [if_pos (by simp)] at hs
       repeat' (first|(refine shC ?_;first|refine qC b8 ?_)|(refine shX ?_;first|refine qX hex ?_)|(refine yH ?_;first|refine Wy zf rfl rfl rfl rfl rfl rfl rfl (by show _ * 8≤_;simp;omega) (by simp;omega) rfl rfl ?_)|refine sK ?_|refine sC (fun _=>?_) (fun _=>?_)|fail)
       exact ⟨k + 1,hlt,tD,tS,⟨XA rfl (by rw [hs];simp) zK,rfl⟩⟩
      ·have hd:decide (a < 0)=false:=decide_eq_false (by omega)
       rw [hd] at hs
       cases hf:fresh g x
       ·rw [show yM (mAt g x).flags 8=false from hf] at b8
        rw [hf,if_neg (by simp)] at hs
        have hal:a.toNat < (out.map pi).length:=by rw [List.length_map];exact ha1
        have hap:(out.map pi)[a.toNat]?=some (pi out[a.toNat]):=qW ha1
        repeat' (first|(refine shC ?_;first|refine qC b8 ?_)|(refine shX ?_;first|refine qX hex ?_|refine zB rfl (Qg (k:=a.toNat) zf rfl rfl rfl rfl rfl rfl rfl (by omega) hal) rfl rfl ?_|refine AD.step _ _ _ _ _ rfl (Qg (k:=a.toNat) zf rfl rfl rfl rfl rfl rfl rfl (by omega) hal) rfl rfl ?_)|(refine Xq ?_;first|refine Wq (k:=a.toNat) (j:=0) zf rfl rfl rfl rfl rfl hap rfl rfl rfl rfl rfl ?_)|refine sK ?_|refine sC (fun _=>?_) (fun _=>?_)|fail)
        exact ⟨k + 1,hlt,tD,tS,⟨XA rfl (by rw [hs,List.map_set]) zK,rfl⟩⟩
       ·rw [show yM (mAt g x).flags 8=true from hf] at b8
        rw [hf,if_pos (by simp)] at hs
        repeat' (first|(refine shC ?_;first|refine qC b8 ?_)|(refine shX ?_;first|refine qX hex ?_)|(refine yH ?_;first|refine Wy zf rfl rfl rfl rfl rfl rfl rfl (by show _ * 8≤_;simp;omega) (by simp;omega) rfl rfl ?_)|refine sK ?_|refine sC (fun _=>?_) (fun _=>?_)|fail)
        exact ⟨k + 1,hlt,tD,tS,⟨XA rfl (by rw [hs];simp) zK,rfl⟩⟩
     | succ c =>
      have hcl:c < out.length:=by omega
      have hcl':c < (out.map pi).length:=by rw [List.length_map];exact hcl
      have hcp:(out.map pi)[c]?=some (pi out[c]):=by simp [hcl]
      have hst:=zrv (g:=g) (m:=x) hcl
      have hcm:=hom _ (List.getElem_mem hcl)
      have hcg:=ZF hcm
      have ca:=zfI (mAt g out[c]) (mAt g x)
      cases ha:alk g out[c] x
      ·rw [show zbF (mAt g out[c]) (mAt g x)=false from ha] at ca
       rw [ha,if_neg (by simp)] at hst
       repeat' (first|refine zB rfl (Qm (k:=c) (j:=0) zf rfl rfl rfl rfl hcp rfl) rfl rfl ?_|refine AD.step _ _ _ _ _ rfl (Qm (k:=c) (j:=0) zf rfl rfl rfl rfl hcp rfl) rfl rfl ?_|(refine shC ?_;first|refine qC ca ?_)|(refine shX ?_;first|refine zB rfl (Qg (k:=c) zf rfl rfl rfl rfl rfl rfl rfl (by push_cast;omega) hcl') rfl rfl ?_|refine AD.step _ _ _ _ _ rfl (Qg (k:=c) zf rfl rfl rfl rfl rfl rfl rfl (by push_cast;omega) hcl') rfl rfl ?_|refine zB rfl (zl zf rfl rfl rfl rfl rfl rfl hcm.1 hcg) rfl rfl ?_|refine AD.step _ _ _ _ _ rfl (zl zf rfl rfl rfl rfl rfl rfl hcm.1 hcg) rfl rfl ?_)|refine sK ?_|refine sC (fun _=>?_) (fun _=>?_)|fail)
       exact ⟨c,by omega,tD,tSO,tH⟩
      ·rw [show zbF (mAt g out[c]) (mAt g x)=true from ha] at ca
       rw [ha,if_pos rfl] at hst
       repeat' (first|refine zB rfl (Qm (k:=c) (j:=0) zf rfl rfl rfl rfl hcp rfl) rfl rfl ?_|refine AD.step _ _ _ _ _ rfl (Qm (k:=c) (j:=0) zf rfl rfl rfl rfl hcp rfl) rfl rfl ?_|(refine shC ?_;first|refine qC ca ?_)|(refine shX ?_;first|refine zB rfl (Qg (k:=c) zf rfl rfl rfl rfl rfl rfl rfl (by push_cast;omega) hcl') rfl rfl ?_|refine AD.step _ _ _ _ _ rfl (Qg (k:=c) zf rfl rfl rfl rfl rfl rfl rfl (by push_cast;omega) hcl') rfl rfl ?_|refine zB rfl (zl zf rfl rfl rfl rfl rfl rfl hcm.1 hcg) rfl rfl ?_|refine AD.step _ _ _ _ _ rfl (zl zf rfl rfl rfl rfl rfl rfl hcm.1 hcg) rfl rfl ?_)|refine sK ?_|refine sC (fun _=>?_) (fun _=>?_)|fail)
       exact ⟨c,by omega,tD,tSO,tH⟩
   ·have hk2:k=(methodsOf g t).length:=by omega
    subst hk2
    rw [List.take_length,←zku hW ht]
    repeat' (first|refine zbo 10 rfl ?_|refine sK ?_|refine sC (fun _=>?_) (fun _=>?_)|fail)
    exact retq rfl rfl
end Go.Cg
namespace Go.Cg
open Go.RowKit
section
variable {P:Program} {tb:Tab} {n:Nat} {g:Base} {K K':KK} {w w':World} {ρ ρ':Nat→Value} {H H':HEnv} {env:Env} {a:Act} {ops:List Oper} {o:Oper} {rest:List Oper} {Q:Env→HEnv→Prop} {f:FuncId} {args:List AV} {r:AV}
variable {listed:List Bool} {QQ:QC}
end
end Go.Cg
namespace Go.Cg
open Go.Proofs
set_option maxHeartbeats 20000000
theorem VR {g:Img} (hf:yg g=true) {a:Int} (h:mOk g a):0≤(mAt g a).flags∧(mAt g a).flags≤31:=zaX (zdb hf h.2)
theorem znV {g:Img} (hf:yg g=true) {a b:Int} (ha:mOk g a) (hb:mOk g b):zg4 (mAt g a) (mAt g b)=alk g a b:=by
 have h1:=VR hf ha
 have h2:=VR hf hb
 exact zrB h1.1 h1.2 h2.1 h2.2
theorem zmq (g:Img) (hf:yg g=true) (x m:Int) (hx:mOk g x) (hm:mOk g m):ACall Tryz.prog 217 ([]++[pi x]++[.ptr (zH g) 0,.ptr (pi m) 0]) (pb (alk g x m)):=by
 show ACall Tryz.prog 217 [pi x,.ptr (zH g) 0,.ptr (pi m) 0] (pb (alk g x m))
 refine zh zf Tryz.func217 rfl (by kernel_rfl) Tryz.ntmps217 (by simp) _ rfl (fun hw gB hgB=>?_)
 have e1:=ZF hx
 have e2:=ZF hm
 have c1:=zfV (mAt g x) (mAt g m)
 rw [znV hf hx hm] at c1
 repeat' (first|(refine shC ?_;first|refine qC c1 ?_)|(refine shX ?_;first|refine zB rfl (zl zf rfl rfl rfl rfl rfl rfl hx.1 e1) rfl rfl ?_|refine AD.step _ _ _ _ _ rfl (zl zf rfl rfl rfl rfl rfl rfl hx.1 e1) rfl rfl ?_|refine zB rfl (zl zf rfl rfl rfl rfl rfl rfl hm.1 e2) rfl rfl ?_|refine AD.step _ _ _ _ _ rfl (zl zf rfl rfl rfl rfl rfl rfl hm.1 e2) rfl rfl ?_)|refine sA ?_|refine sC (fun _=>?_) (fun _=>?_)|fail)
 exact retq rfl rfl
abbrev slH (out:List Int):HEnv:=[(0,.cell (.agg [.own 7])),(7,.mrow 3 1 (out.map pi))]
theorem znn (g:Img) (hf:yg g=true) (out:List Int) (m:Int) (ho:∀ x∈out,mOk g x) (hm:mOk g m) (us:Nat→Value):ACallM Tryz.prog 192 [.box 0 0,.pv (zH g),.pv (pi m)] (slH out++ZT us [0]) (.pv (pi (zdd out (fun x=>alk g x m)))) (slH out++ZT us [0]):=by
 refine QK zf Tryz.func192 rfl (by kernel_rfl) Tryz.ntmps192 (by simp) _ rfl (fun gB hw1=>?_)
 have c1:=zab out (fun x=>alk g x m) 217 [] [.ptr (zH g) 0,.ptr (pi m) 0] (fun x hx=>zmq g hf x m (ho x hx) hm)
 repeat' (first|(refine zu ?_;first|refine zqW rfl rfl rfl c1 rfl rfl ?_)|refine sA ?_|refine sC (fun _=>?_) (fun _=>?_)|fail)
 exact ⟨.inr rfl,.inl ⟨_,rfl,rfl,⟨by repeat (first|exact zK|refine zT rfl ?_),rfl⟩⟩⟩
theorem zpX (out:List Int) (m:Int) (ho:out.length≤5000) (us:Nat→Value):ACallM Tryz.prog 193 [.box 0 0,.pv (pi m)] (slH out++ZT us [0]) (.pv (.tup [])) (slH (out++[m])++ZT us [0]):=by
 refine QK zf Tryz.func193 rfl (by kernel_rfl) Tryz.ntmps193 (by simp) _ rfl (fun gB hw1=>?_)
 repeat' (first|(refine yH ?_;first|refine Wy zf rfl rfl rfl rfl rfl rfl rfl (by show _ * 8≤_;simp;omega) (by simp;omega) rfl rfl ?_)|refine sA ?_|refine sC (fun _=>?_) (fun _=>?_)|fail)
 exact ⟨.inl rfl,.inl ⟨[],rfl,rfl,⟨zT rfl (XA rfl (by simp) (by repeat (first|exact zK|refine zT rfl ?_))),rfl⟩⟩⟩
theorem zkz {g:Img} {out:List Int} {m:Int} (hv:VD g m=true):YI g out m=if decide (0≤zdd out (fun x=>alk g x m))&&!fresh g m then out.set (zdd out (fun x=>alk g x m)).toNat m else out++[m]:=by
 rw [YI,if_pos hv,zdd]
 cases out.any (fun x=>alk g x m) <;> cases fresh g m <;> simp
theorem zni {l:List Int} {p:Int→Bool}:zdd l p = -1∨(0≤zdd l p∧(zdd l p).toNat < l.length):=by
 rw [zdd]
 split
 ·rename_i h
  right
  obtain ⟨x,hx,hp⟩:=List.any_eq_true.1 h
  have:=List.findIdx_lt_length_of_exists (p:=p) ⟨x,hx,hp⟩
  omega
 ·exact .inl rfl
def znX (g:Img):List PV:=[.slc 4 (g.types.map ZA) false,.slc 7 (g.fields.map ZK) false,.slc 12 (g.methods.map yL) false,pi g.entry]
abbrev zeo (g:Img):AV:=.agg [.box 0 0,.pv (.slc 4 (g.types.map ZA) false),.pv (.slc 7 (g.fields.map ZK) false),.pv (.slc 12 (g.methods.map yL) false),.pv (pi g.entry)]
theorem zeI {P:Prop}:false=true→P:=fun h=>nomatch h
theorem zmZ (g:Img) (hF:Fine g) (out:List Int) (u:Int) (ho:∀ x∈out,mOk g x) (hol0:out.length≤2048) (us:Nat→Value) :
  ACallM Tryz.prog 164 [zeo g,.pv (pi u)] (slH out++ZT us [0]) (.pv (.tup [])) (slH (ZE g out (methodsOf g u))++ZT us [0]):=by
 have hgm:g.methods.length≤64:=(zW hF.formed).2.2.1
 have c3:=YD g u (by omega)
 have hml:=Zn g u
 refine QK zf Tryz.func164 rfl (by kernel_rfl) Tryz.ntmps164 (by simp) _ rfl (fun gB hw1=>?_)
 repeat' (first|refine zB rfl (zn (ps:=znX g) zf rfl rfl rfl rfl rfl) rfl rfl ?_|(refine shC ?_;first|refine qC c3 ?_)|(refine VU ?_;first|refine zcX 2 rfl rfl rfl rfl rfl rfl ?_)|refine sA ?_|refine sC (fun _=>?_) (fun _=>?_)|fail)
 refine zJ (fun k:Nat=>[(2,.box 2 0),(11,.pv (ints (methodsOf g u))),(12,.pv (pi (methodsOf g u).length)),(13,.pv (pi k))])
  (fun k=>[(0,.cell (.agg [.own 7])),(7,.mrow 3 1 ((ZE g out ((methodsOf g u).take k)).map pi)),(2,.cell (zeo g)),(1000,.pin (.own 0) (us 0))])
  (fun k=>k≤(methodsOf g u).length) (fun k=>(methodsOf g u).length - k) 0 (by omega) (tS) ⟨zT rfl (XA rfl rfl (by repeat (first|exact zK|refine zT rfl ?_))),rfl⟩ ?_
 rintro k hk
 by_cases hlt:k < (methodsOf g u).length
 ·obtain ⟨x,hx⟩:∃ x,x=(methodsOf g u)[k]:=⟨_,rfl⟩
  have hex:((methodsOf g u).map pi)[k]?=some (pi x):=by rw [hx];exact yu (f:=pi) hlt
  have hmx:mOk g x:=by rw [hx];exact qc (List.getElem_mem hlt)
  have hem:=ZF hmx
  have hs:=zei g out _ k hlt
  rw [←hx] at hs
  obtain ⟨cur,hcu⟩:∃ o,o=ZE g out ((methodsOf g u).take k):=⟨_,rfl⟩
  have hcl:cur.length≤2112:=by
   have:=(WT g ((methodsOf g u).take k) out).2
   have h2:((methodsOf g u).take k).length≤64:=by simp;omega
   rw [hcu];omega
  have hcm:∀ y∈cur,mOk g y:=by
   intro y hy
   rw [hcu] at hy
   rcases zaS hy with hy|hy
   ·exact ho y hy
   ·exact qc (List.mem_of_mem_take hy)
  rw [←hcu] at hs ⊢
  have hfl:=VR hF.formed hmx
  have hfe:=zbl hfl.1 hfl.2
  have b2:=Xa (mAt g x) 2
  have b8:=Xa (mAt g x) 8
  rw [hfe.2.1] at b2
  rw [hfe.2.2.2.1] at b8
  cases hv:VD g x
  ·rw [show yM (mAt g x).flags 2=false from hv] at b2
   repeat' (first|(refine shC ?_;first|refine qC b2 ?_)|(refine shX ?_;first|refine qX hex ?_|refine zB rfl (zl zf rfl rfl rfl rfl rfl rfl hmx.1 hem) rfl rfl ?_|refine AD.step _ _ _ _ _ rfl (zl zf rfl rfl rfl rfl rfl rfl hmx.1 hem) rfl rfl ?_)|refine sK ?_|refine sC (fun _=>?_) (fun _=>?_)|fail)
   exact ⟨k + 1,hlt,tD,tS,⟨zT rfl (XA rfl (by rw [hs,YI,hv];rfl) (by repeat (first|exact zK|refine zT rfl ?_))),rfl⟩⟩
  ·rw [show yM (mAt g x).flags 2=true from hv] at b2
   rw [zkz hv] at hs
   have cF:=fun us=>znn g hF.formed cur x hcm hmx us
   have cP:=fun us=>zpX cur x (by omega) us
   have hr:=zni (l:=cur) (p:=fun y=>alk g y x)
   obtain ⟨a,ha⟩:∃ a,a=zdd cur (fun y=>alk g y x):=⟨_,rfl⟩
   simp only [←ha] at cF
   rw [←ha] at hs hr
   rcases hr with rfl|⟨ha0,ha1⟩
   ·rw [if_neg (by simp)] at hs
    repeat' (first|refine zB rfl (zn (ps:=znX g) zf rfl rfl rfl rfl rfl) rfl rfl ?_|(refine shC ?_;first|refine qC b2 ?_|refine qC b8 ?_)|(refine shX ?_;first|refine qX hex ?_|refine zB rfl (zl zf rfl rfl rfl rfl rfl rfl hmx.1 hem) rfl rfl ?_|refine AD.step _ _ _ _ _ rfl (zl zf rfl rfl rfl rfl rfl rfl hmx.1 hem) rfl rfl ?_)|(refine zu ?_;first|refine zbg (slH cur) (slH cur) [(2,.cell (zeo g)),(1,.cell (.pv (yL (mAt g x)))),(1000,.pin (.own 0) (us 0))] [(2,.box 2 0),(5,.pv (pi x)),(6,.box 1 0),(11,.pv (ints (methodsOf g u))),(12,.pv (pi (methodsOf g u).length)),(13,.pv (pi k))] [0] zeI rfl rfl rfl (by repeat (first|exact zK|refine zT rfl ?_)) tS rfl rfl rfl cF ?_|refine zbg (slH cur) (slH (cur++[x])) [(2,.cell (zeo g)),(1000,.pin (.own 0) (us 0))] [(2,.box 2 0),(11,.pv (ints (methodsOf g u))),(12,.pv (pi (methodsOf g u).length)),(13,.pv (pi k))] [0] zeI rfl rfl rfl (by repeat (first|exact zK|refine zT rfl ?_)) tS rfl rfl rfl cP ?_)|refine sK ?_|refine sC (fun _=>?_) (fun _=>?_)|fail)
    exact ⟨k + 1,hlt,tD,tS,⟨zT rfl (XA rfl (by rw [hs]) (by repeat (first|exact zK|refine zT rfl ?_))),rfl⟩⟩
   ·have hd:decide (0≤a)=true:=decide_eq_true ha0
    rw [hd] at hs
    cases hf:fresh g x
    ·rw [show yM (mAt g x).flags 8=false from hf] at b8
     rw [hf,if_pos (by simp)] at hs
     have hal:a.toNat < (cur.map pi).length:=by rw [List.length_map];exact ha1
     have hap:(cur.map pi)[a.toNat]?=some (pi cur[a.toNat]):=qW ha1
     repeat' (first|refine zB rfl (zn (ps:=znX g) zf rfl rfl rfl rfl rfl) rfl rfl ?_|(refine shC ?_;first|refine qC b2 ?_|refine qC b8 ?_)|(refine shX ?_;first|refine qX hex ?_|refine zB rfl (zl zf rfl rfl rfl rfl rfl rfl hmx.1 hem) rfl rfl ?_|refine AD.step _ _ _ _ _ rfl (zl zf rfl rfl rfl rfl rfl rfl hmx.1 hem) rfl rfl ?_|refine zB rfl (Qg (k:=a.toNat) zf rfl rfl rfl rfl rfl rfl rfl (by omega) hal) rfl rfl ?_|refine AD.step _ _ _ _ _ rfl (Qg (k:=a.toNat) zf rfl rfl rfl rfl rfl rfl rfl (by omega) hal) rfl rfl ?_)|(refine zu ?_;first|refine zbg (slH cur) (slH cur) [(2,.cell (zeo g)),(1,.cell (.pv (yL (mAt g x)))),(1000,.pin (.own 0) (us 0))] [(2,.box 2 0),(5,.pv (pi x)),(6,.box 1 0),(11,.pv (ints (methodsOf g u))),(12,.pv (pi (methodsOf g u).length)),(13,.pv (pi k))] [0] zeI rfl rfl rfl (by repeat (first|exact zK|refine zT rfl ?_)) tS rfl rfl rfl cF ?_)|(refine Xq ?_;first|refine Wq (k:=a.toNat) (j:=0) zf rfl rfl rfl rfl rfl hap rfl rfl rfl rfl rfl ?_)|refine sK ?_|refine sC (fun _=>?_) (fun _=>?_)|fail)
     exact ⟨k + 1,hlt,tD,tS,⟨zT rfl (XA rfl (by rw [hs,List.map_set]) (by repeat (first|exact zK|refine zT rfl ?_))),rfl⟩⟩
    ·rw [show yM (mAt g x).flags 8=true from hf] at b8
     rw [hf,if_neg (by simp)] at hs
     repeat' (first|refine zB rfl (zn (ps:=znX g) zf rfl rfl rfl rfl rfl) rfl rfl ?_|(refine shC ?_;first|refine qC b2 ?_|refine qC b8 ?_)|(refine shX ?_;first|refine qX hex ?_|refine zB rfl (zl zf rfl rfl rfl rfl rfl rfl hmx.1 hem) rfl rfl ?_|refine AD.step _ _ _ _ _ rfl (zl zf rfl rfl rfl rfl rfl rfl hmx.1 hem) rfl rfl ?_)|(refine zu ?_;first|refine zbg (slH cur) (slH cur) [(2,.cell (zeo g)),(1,.cell (.pv (yL (mAt g x)))),(1000,.pin (.own 0) (us 0))] [(2,.box 2 0),(5,.pv (pi x)),(6,.box 1 0),(11,.pv (ints (methodsOf g u))),(12,.pv (pi (methodsOf g u).length)),(13,.pv (pi k))] [0] zeI rfl rfl rfl (by repeat (first|exact zK|refine zT rfl ?_)) tS rfl rfl rfl cF ?_|refine zbg (slH cur) (slH (cur++[x])) [(2,.cell (zeo g)),(1000,.pin (.own 0) (us 0))] [(2,.box 2 0),(11,.pv (ints (methodsOf g u))),(12,.pv (pi (methodsOf g u).length)),(13,.pv (pi k))] [0] zeI rfl rfl rfl (by repeat (first|exact zK|refine zT rfl ?_)) tS rfl rfl rfl cP ?_)|refine sK ?_|refine sC (fun _=>?_) (fun _=>?_)|fail)
     exact ⟨k + 1,hlt,tD,tS,⟨zT rfl (XA rfl (by rw [hs]) (by repeat (first|exact zK|refine zT rfl ?_))),rfl⟩⟩
 ·have hk2:k=(methodsOf g u).length:=by omega
  subst hk2
  rw [List.take_length]
  repeat' (first|refine sK ?_|refine sC (fun _=>?_) (fun _=>?_)|fail)
  exact ⟨.inl rfl,.inl ⟨[],rfl,rfl,⟨by repeat (first|exact zK|refine zT rfl ?_),rfl⟩⟩⟩
set_option maxHeartbeats 2000000 in
theorem zgE (g:Img) (hF:Fine g) (t:Int):ACall Tryz.prog 121 [zH g,pi t] (ints (tbl g t)):=by
 obtain ⟨hgt,_,hgm,_⟩:=zW hF.formed
 have hui:=XY g t
 have hul:=Zu _ _ hui.1 hui.2
 refine zjZ zf Tryz.func121 rfl (by kernel_rfl) Tryz.ntmps121 (by simp) _ rfl (fun hw gB hgB hds=>?_)
 refine zgw ?_
 repeat' (first|refine sA ?_|refine sC (fun _=>?_) (fun _=>?_)|fail)
 refine zgw ?_
 repeat' (first|refine zB rfl (zrU zf rfl ⟨_,rfl⟩ rfl rfl rfl rfl rfl rfl) rfl rfl ?_|(refine VU ?_;first|refine zcX 0 rfl rfl rfl rfl rfl rfl ?_)|refine sA ?_|refine sC (fun _=>?_) (fun _=>?_)|fail)
 refine zrx ?_
 refine zgw ?_
 repeat' (first|refine zdP 0 7 0 3 1 (by decide) rfl rfl rfl rfl ?_|(refine shC ?_;first|refine zB rfl (zG rfl rfl (Qa g t (by omega))) rfl rfl ?_|refine AD.step _ _ _ _ _ rfl (zG rfl rfl (Qa g t (by omega))) rfl rfl ?_|refine qC (zik _) ?_)|refine sA ?_|refine sC (fun _=>?_) (fun _=>?_)|fail)
 refine zp4 ?_
 refine zoX (fun x=>.int .i64 x.1) (fun x=>.int .i64 x.2) (zpy (up g t) (by omega)) [(2,.pv (.ptr (zH g) 0)),(5,.box 1 0),(15,.pv (.fn (.func 185) [] [.ptr (ints (up g t)) 0]))]
  (fun pre=>[(0,.cell (.agg [.own 7])),(7,.mrow 3 1 ((zjx g (pre.map (·.2))).map pi)),(1,.cell (zeo g))]) 100 hgB hds (fun _=>rfl) (fun _=>rfl) rfl (tS) rfl rfl rfl (by decide) ⟨by repeat (first|exact zK|refine zT rfl ?_),rfl⟩ (fun _=>rfl) (fun _=>rfl) rfl ?_ ?_
 ·intro g2 us pre x hlen
  rw [zeH] at hlen
  obtain ⟨cur,hcu⟩:∃ c,c=zjx g (pre.map (·.2)):=⟨_,rfl⟩
  have hcl:cur.length≤2048:=by
   have h1:=zlk (g:=g) (pre.map (·.2))
   have h2:g.methods.length * (pre.map (·.2)).length≤64 * 32:=Nat.mul_le_mul hgm (by rw [List.length_map];omega)
   rw [hcu];omega
  have hcm:∀ y∈cur,mOk g y:=fun y hy=>zli (by rw [hcu] at hy;exact hy)
  have hs:zjx g ((pre++[x]).map (·.2))=ZE g cur (methodsOf g x.2):=by rw [hcu,List.map_append,zjx,List.foldl_append];rfl
  rw [←hcu]
  have cT:=fun us'=>zmZ g hF cur x.2 hcm hcl us'
  repeat' (first|(refine zu ?_;first|refine zbg (slH cur) (slH (ZE g cur (methodsOf g x.2))) ((1,.cell (zeo g))::qH us 100 [(2,.pv (.ptr (zH g) 0)),(5,.box 1 0),(15,.pv (.fn (.func 185) [] [.ptr (ints (up g t)) 0]))]) [] [0] zeI rfl rfl rfl (by repeat (first|exact zK|refine zT rfl ?_)) tS rfl rfl rfl cT ?_)|refine sA ?_|refine sC (fun _=>?_) (fun _=>?_)|fail)
  exact ⟨zT rfl (XA rfl (by rw [hs]) (by repeat (first|exact zK|refine zT rfl ?_))),rfl⟩
 ·intro g3
  repeat' (first|refine zbo 7 rfl ?_|refine sA ?_|refine sC (fun _=>?_) (fun _=>?_)|fail)
  exact ⟨rfl,retq rfl (by rw [zpt];rfl)⟩
theorem zfO (f:Int):0≤XV f:=by
 unfold XV
 cases yM f 2 <;> cases yM f 1 <;> cases yM f 16 <;> simp
def zhZ (g:Img) (t:Ty):Bool:=(t.kind != 5&&t.kind != 6)||(t.kind==6&&zN g t.index==1)||(t.kind==5&&zN g t.index != 1)
theorem zsm {g:Img} {t:Ty} (hp:Zw t=true) (ho:zeZ t g.types.length=true):zhZ g t=qx g t:=by
 have hk:=zcs g t.index
 have hn:(t.kind=5∨t.kind=6)→zN g t.index ≠ -1:=by
  intro h
  have h0:0≤t.index:=by
   rw [Zw] at hp
   split at hp
   ·cases hp
   ·rename_i hh;simp at hh;omega
  have h1:t.index < g.types.length:=by
   rw [zeZ] at ho
   rcases h with h|h <;> simpa [h] using ho
  obtain ⟨td,htd⟩:=ZX ⟨h0,h1⟩
  rw [zN,htd]
  have:=zfO td.flags
  simp only;omega
 rw [zhZ,qx,hp]
 generalize zN g t.index=k at hk hn
 by_cases h5:t.kind=5
 ·have:=hn (.inl h5)
  rcases hk with rfl|rfl|rfl|rfl|rfl <;> simp_all
 ·by_cases h6:t.kind=6
  ·have:=hn (.inr h6)
   rcases hk with rfl|rfl|rfl|rfl|rfl <;> simp_all
  ·have e5:(t.kind==5)=false:=beq_eq_false_iff_ne.2 h5
   have e6:(t.kind==6)=false:=beq_eq_false_iff_ne.2 h6
   simp only [bne,e5,e6];rfl
theorem VT {t:Ty} {p n:Int} (h:QG t p n=true):Zw t=true∧zeZ t n=true:=by
 rw [QG,Bool.and_eq_true] at h
 refine ⟨?_,h.2⟩
 have:=h.1
 rw [Zy] at this
 cases hp:Zw t
 ·rw [hp] at this;simp at this
 ·rfl
def zrH (m:Me):List Ty:=(m.code.filter fun x=>yF x.op==8).map (·.t)
def zmN (m:Me):List Ty:=(m.clauses.filter fun c=>c.kind==1).map (·.t)
def zcr (m:Me):List Ty:=m.params++m.locals++[m.ret]++zrH m++zmN m
def XZ (g:Img) (m:Me):Bool:=qx g m.ret&&m.params.all (qx g)&&m.locals.all (qx g)&&m.code.all (fun x=>yF x.op != 8||qx g x.t)&&m.clauses.all (fun c=>c.kind != 1||qx g c.t)
theorem zlD {α:Type} {l:List α} {p:α→Bool} {f:α→Ty} {q:Ty→Bool}:((l.filter p).map f).all q=l.all fun x=>!p x||q (f x):=by
 induction l with
 | nil=>rfl
 | cons x l ih =>
  rw [List.filter_cons]
  cases h:p x <;> simp [h,ih]
theorem zrI {g:Img} {m:Me} (h:qL g m=true):(zcr m).all (zhZ g)=XZ g m:=by
 simp only [qL,ZL,Bool.and_eq_true,List.all_eq_true,Zr,codeOk] at h
 obtain ⟨⟨⟨⟨_,hr⟩,hp⟩,hl⟩,⟨⟨_,hc⟩,hk⟩,_⟩:=h
 have e:(zcr m).all (zhZ g)=(zcr m).all (qx g):=by
  rw [Bool.eq_iff_iff,List.all_eq_true,List.all_eq_true]
  have:∀ t∈zcr m,zhZ g t=qx g t:=by
   intro t ht
   have key:Zw t=true∧zeZ t g.types.length=true:=by
    simp only [zcr,zrH,zmN,List.mem_append,List.mem_singleton,List.mem_map,List.mem_filter] at ht
    rcases ht with (((ht|ht)|rfl)|⟨x,⟨hx,ho⟩,rfl⟩)|⟨c,⟨hx,ho⟩,rfl⟩
    ·exact VT (hp t ht)
    ·exact VT (hl t ht)
    ·exact VT hr
    ·have h1:=hc x hx
     rw [beq_iff_eq] at ho
     obtain ⟨hf,h2⟩:=h1
     rw [ho] at h2
     refine ⟨?_,by simpa using h2⟩
     rw [beq_iff_eq,QU] at hf
     cases hpx:Zw x.t
     ·have hw:Zy x.t 1=false:=by rw [Zy,hpx];rfl
      split at hf
      ·omega
      ·split at hf
       ·omega
       ·split at hf
        ·omega
        ·rw [if_pos ⟨ho,hw⟩] at hf;omega
     ·rfl
    ·have h1:=hk c hx
     rw [beq_iff_eq] at ho
     rw [ho] at h1
     simp at h1
     exact VT h1
   exact zsm key.1 key.2
  constructor
  ·intro h t ht;rw [←this t ht];exact h t ht
  ·intro h t ht;rw [this t ht];exact h t ht
 rw [e,zcr,List.all_append,List.all_append,List.all_append,List.all_append,zrH,zmN,zlD,zlD,XZ]
 have e1:(m.code.all fun x=>!(yF x.op==8)||qx g x.t)=m.code.all fun x=>yF x.op != 8||qx g x.t:=rfl
 have e2:(m.clauses.all fun c=>!(c.kind==1)||qx g c.t)=m.clauses.all fun c=>c.kind != 1||qx g c.t:=rfl
 rw [e1,e2]
 simp only [List.all_cons,List.all_nil,Bool.and_true]
 cases qx g m.ret <;> simp [Bool.and_assoc]
set_option maxHeartbeats 20000000
theorem znA (g:Img) (hx:OkA g):ACall Tryz.prog 67 [zH g] (pb (zdg g)):=by
 refine zh zf Tryz.func67 rfl (by kernel_rfl) Tryz.ntmps67 (by simp) _ rfl (fun hw gB hgB=>?_)
 repeat' (first|(refine shC ?_;first|refine qC (zk2 g hx) ?_)|refine sA ?_|refine sC (fun _=>?_) (fun _=>?_)|fail)
 exact retq rfl rfl
def QN (g:Img) (m:Int):Int:=(mAt g m).owner
def Yr (g:Img) (m:Int):Int:=if VD g m&&zN g (QN g m)==0 then idx (tbl g (QN g m)) m else -1
theorem ztg {g:Img} (hF:Fine g) {m:Int} (hm:mOk g m):ACall Tryz.prog 113 [yL (mAt g m),pi 2] (pb (VD g m)):=by
 have h:=VR hF.formed hm
 have c:=Xa (mAt g m) 2
 rwa [(zbl h.1 h.2).2.1] at c
theorem zmV (g:Img) (hF:Fine g) (m:Int) (hm:mOk g m):ACall Tryz.prog 199 [zH g,pi m] (pi (Yr g m)):=by
 have hem:=ZF hm
 have c1:=ztg hF hm
 have c2:=ZI g hF.formed (mAt g m).owner
 have c3:=zgE g hF (mAt g m).owner
 have c4:=zhn (tbl g (mAt g m).owner) m
 refine zh zf Tryz.func199 rfl (by kernel_rfl) Tryz.ntmps199 (by simp) _ rfl (fun hw gB hgB=>?_)
 cases hv:VD g m
 ·rw [hv] at c1
  repeat' (first|(refine shC ?_;first|refine qC c1 ?_)|(refine shX ?_;first|refine zB rfl (zl zf rfl rfl rfl rfl rfl rfl hm.1 hem) rfl rfl ?_|refine AD.step _ _ _ _ _ rfl (zl zf rfl rfl rfl rfl rfl rfl hm.1 hem) rfl rfl ?_)|refine sK ?_|refine sC (fun _=>?_) (fun _=>?_)|fail)
  exact retq rfl (by simp [zk,Yr,hv])
 ·rw [hv] at c1
  by_cases hk:zN g (mAt g m).owner=0
  ·rw [hk] at c2
   repeat' (first|(refine shC ?_;first|refine qC c1 ?_|refine qC c2 ?_|refine qC c3 ?_|refine qC c4 ?_)|(refine shX ?_;first|refine zB rfl (zl zf rfl rfl rfl rfl rfl rfl hm.1 hem) rfl rfl ?_|refine AD.step _ _ _ _ _ rfl (zl zf rfl rfl rfl rfl rfl rfl hm.1 hem) rfl rfl ?_)|refine sK ?_|refine sC (fun _=>?_) (fun _=>?_)|fail)
   exact retq rfl (by simp [zk,Yr,hv,QN,hk])
  ·have hkb:(zN g (mAt g m).owner != 0)=true:=by simp [hk]
   repeat' (first|(refine shC ?_;first|refine qC c1 ?_|refine qC c2 ?_)|(refine shX ?_;first|refine zB rfl (zl zf rfl rfl rfl rfl rfl rfl hm.1 hem) rfl rfl ?_|refine AD.step _ _ _ _ _ rfl (zl zf rfl rfl rfl rfl rfl rfl hm.1 hem) rfl rfl ?_)|refine sK ?_|refine sC (fun _=>?_) (fun _=>?_)|fail)
   exact retq rfl (by simp [zk,Yr,hv,QN,hk])
theorem zmu (g:Img) (hF:Fine g) (m:Int) (hm:mOk g m):ACall Tryz.prog 190 [zH g,pi m] (pi (Yr g m)):=by
 have hem:=ZF hm
 have c1:=VJ (mAt g m)
 rw [show yM (mAt g m).flags 2=VD g m from rfl] at c1
 have c2:=qZ g (mAt g m).owner
 have c3:=zdE g hF _ (mAt g m).owner (Nat.le_refl _)
 refine zh zf Tryz.func190 rfl (by kernel_rfl) Tryz.ntmps190 (by simp) _ rfl (fun hw gB hgB=>?_)
 cases hv:VD g m
 ·rw [hv] at c1
  repeat' (first|(refine shC ?_;first|refine qC c1 ?_)|(refine shX ?_;first|refine zB rfl (zl zf rfl rfl rfl rfl rfl rfl hm.1 hem) rfl rfl ?_|refine AD.step _ _ _ _ _ rfl (zl zf rfl rfl rfl rfl rfl rfl hm.1 hem) rfl rfl ?_)|refine sK ?_|refine sC (fun _=>?_) (fun _=>?_)|fail)
  exact retq rfl (by simp [zk,Yr,hv])
 ·rw [hv] at c1
  by_cases hk:zN g (mAt g m).owner=0
  ·rw [hk] at c2
   obtain ⟨l,hl⟩:∃ l,l=tbl g (mAt g m).owner:=⟨_,rfl⟩
   have hs:Yr g m=idx l m:=by rw [Yr,hv,QN,hk,hl];rfl
   have hll:=zjI hF (mAt g m).owner
   rw [←hl] at c3 hll
   repeat' (first|(refine shC ?_;first|refine qC c1 ?_|refine qC c2 ?_|refine qC c3 ?_)|(refine shX ?_;first|refine zB rfl (zl zf rfl rfl rfl rfl rfl rfl hm.1 hem) rfl rfl ?_|refine AD.step _ _ _ _ _ rfl (zl zf rfl rfl rfl rfl rfl rfl hm.1 hem) rfl rfl ?_)|refine sK ?_|refine sC (fun _=>?_) (fun _=>?_)|fail)
   refine zJ (fun k:Nat=>[(1,.pv (pi m)),(6,.pv (ints l)),(7,.pv (pi k))]) (fun _=>[]) (fun k=>k≤l.length∧∀ j (h:j < k) (h2:j < l.length),l[j]≠m) (fun k=>l.length - k) 0 ⟨by omega,fun j h=>by omega⟩ (tS) tH ?_
   rintro k ⟨hk2,hno⟩
   by_cases hlt:k < l.length
   ·have he:(l.map pi)[k]?=some (pi l[k]):=yu (f:=pi) hlt
    by_cases hx:l[k]=m
    ·have hxb:(l[k]==m)=true:=by simp [hx]
     have hi:l.findIdx (· == m)=k:=by
      rw [List.findIdx_eq hlt]
      exact ⟨hxb,fun j hj=>by have:=hno j hj (by omega);simpa using this⟩
     repeat' (first|(refine shX ?_;first|refine qX he ?_)|refine sK ?_|refine sC (fun _=>?_) (fun _=>?_)|fail)
     exact retq rfl (by rw [hs,idx,if_pos (by rw [←hx];exact List.getElem_mem hlt),hi];rfl)
    ·have hxb:(l[k]==m)=false:=by simp [hx]
     repeat' (first|(refine shX ?_;first|refine qX he ?_)|refine sK ?_|refine sC (fun _=>?_) (fun _=>?_)|fail)
     exact ⟨k + 1,⟨hlt,fun j hj h2=>by
      by_cases e:j=k
      ·subst e;exact hx
      ·exact hno j (by omega) h2⟩,tD,tS,tH⟩
   ·repeat' (first|refine sK ?_|refine sC (fun _=>?_) (fun _=>?_)|fail)
    exact retq rfl (by
     rw [hs,idx,if_neg]
     ·rfl
     ·intro h
      obtain ⟨j,hj,e⟩:=List.getElem_of_mem h
      exact hno j (by omega) hj e)
  ·have hkb:(zN g (mAt g m).owner != 0)=true:=by simp [hk]
   repeat' (first|(refine shC ?_;first|refine qC c1 ?_|refine qC c2 ?_)|(refine shX ?_;first|refine zB rfl (zl zf rfl rfl rfl rfl rfl rfl hm.1 hem) rfl rfl ?_|refine AD.step _ _ _ _ _ rfl (zl zf rfl rfl rfl rfl rfl rfl hm.1 hem) rfl rfl ?_)|refine sK ?_|refine sC (fun _=>?_) (fun _=>?_)|fail)
   exact retq rfl (by simp [zk,Yr,hv,QN,hk])
theorem zpB {g:Img} (hW:Wl g) {t:Int} {td:TD} (h:typeAt g t=some td) (he:0≤td.ext):zN g t=0∧zN g td.ext=0:=by
 refine ⟨?_,(hW.extk h).resolve_left (by omega)⟩
 have hfl:=hW.flag t td h
 rw [zN,h]
 simp only
 have hne:(td.ext == -1)=false:=by simp;omega
 have hr:XV td.flags=2∨XV td.flags=1∨XV td.flags=3∨XV td.flags=0:=by
  unfold XV
  cases yM td.flags 2 <;> cases yM td.flags 1 <;> cases yM td.flags 16 <;> simp
 rw [qP,hne] at hfl
 rcases hr with h1|h1|h1|h1
 ·rw [h1] at hfl;simp at hfl
 ·rw [h1] at hfl;simp at hfl
 ·rw [h1] at hfl;simp at hfl
 ·exact h1
theorem zkk {g:Img} (hW:Wl g):∀ (l:List Int) (t:Int),up g t=l→zN g t=0→∀ u∈l,zN g u=0
 | [],t,h,hk,u,hu=>by cases hu
 | x::l,t,h,hk,u,hu=>by
  cases ht:typeAt g t with
  | none=>rw [up_nil ht] at h;cases h
  | some td =>
   rw [hW.up_cons ht] at h
   injection h with e1 e2
   subst e1
   rcases List.mem_cons.1 hu with rfl|hu
   ·exact hk
   ·have h0:0≤td.ext:=by
     cases hte:typeAt g td.ext with
     | none=>rw [up_nil hte] at e2;subst e2;cases hu
     | some td2=>exact (Wh hte).1
    exact zkk hW l td.ext e2 (zpB hW ht h0).2 u hu
set_option maxHeartbeats 20000000
def zar (g:Img) (t m:Int):Int:=if Yr g m < 0 then m else (tbl g t).getD (Yr g m).toNat 0
def does (g:Img) (m k:Int):Bool:=VD g k&&alk g k m
def ziP (g:Img) (t m:Int):Option Int:=((up g t).flatMap (methodsOf g)).find? (does g m)
def XT (g:Img) (t m:Int):Int:=match ziP g t m with|some k=>zar g t k|none => -1
def QX (g:Img) (t m:Int):Int:=if zN g (QN g m)==2&&VD g m then XT g t m else zar g t m
theorem zlJ {g:Img} (hW:Wl g):∀ (l:List Int) (t b:Int),up g t=l→b∈l→(tbl g b).length≤(tbl g t).length
 | [],t,b,h,hb=>by cases hb
 | x::l,t,b,h,hb=>by
  cases ht:typeAt g t with
  | none=>rw [up_nil ht] at h;cases h
  | some td =>
   rw [hW.up_cons ht] at h
   simp only [List.cons.injEq] at h
   obtain ⟨rfl,h⟩:=h
   rcases List.mem_cons.1 hb with rfl|hb
   ·exact Nat.le_refl _
   ·have h1:=zlJ hW l td.ext b h hb
    have h2:=(WT g (methodsOf g t) (tbl g td.ext)).1
    rw [zku hW ht];omega
theorem idx_range {l:List Int} {v:Int}:idx l v = -1∨(0≤idx l v∧(idx l v).toNat < l.length):=by
 rw [idx]
 split
 ·rename_i h
  right
  have:=List.findIdx_lt_length_of_exists (p:=(· == v)) ⟨v,h,by simp⟩
  omega
 ·exact .inl rfl
theorem zkd {g:Img} (hW:Wl g) {t m:Int} (hb:zN g (QN g m)=0→QN g m∈up g t) (h:¬ Yr g m < 0):(Yr g m).toNat < (tbl g t).length:=by
 rw [Yr] at h ⊢
 split at h
 ·rename_i hh
  rw [if_pos hh]
  simp only [Bool.and_eq_true,beq_iff_eq] at hh
  have h1:=zlJ hW _ t _ rfl (hb hh.2)
  rcases idx_range (l:=tbl g (QN g m)) (v:=m) with h2|h2
  ·omega
  ·omega
 ·omega
theorem WH {g:Img} {u k:Int} (h:k∈methodsOf g u):QN g k=u:=by
 simp only [methodsOf,List.mem_filter,Bool.and_eq_true,beq_iff_eq] at h
 exact h.2.2
theorem zmA (g:Img) (hF:Fine g) (t m:Int) (hm:mOk g m) (hn:(zN g (QN g m)==2&&VD g m)=false) (hb:zN g (QN g m)=0→QN g m∈up g t):ACall Tryz.prog 169 [zH g,pi t,pi m] (pi (zar g t m)):=by
 have hW:=Vu hF.well
 have hem:=ZF hm
 have c1:=ZI g hF.formed (mAt g m).owner
 have c2:=ztg hF hm
 have c3:=zmV g hF m hm
 have c4:=zgE g hF t
 have hsi:=zkd hW hb
 rw [QN] at hn
 refine zh zf Tryz.func169 rfl (by kernel_rfl) Tryz.ntmps169 (by simp) _ rfl (fun hw gB hgB=>?_)
 by_cases hk:zN g (mAt g m).owner=2
 ·rw [hk] at c1 hn
  have hv:VD g m=false:=by simpa using hn
  rw [hv] at c2
  by_cases hs:Yr g m < 0
  ·repeat' (first|(refine shC ?_;first|refine qC c1 ?_|refine qC c2 ?_|refine qC c3 ?_)|(refine shX ?_;first|refine zB rfl (zl zf rfl rfl rfl rfl rfl rfl hm.1 hem) rfl rfl ?_|refine AD.step _ _ _ _ _ rfl (zl zf rfl rfl rfl rfl rfl rfl hm.1 hem) rfl rfl ?_)|refine sK ?_|refine sC (fun _=>?_) (fun _=>?_)|fail)
   exact retq rfl (by simp [zk,zar,hs])
  ·have he:((tbl g t).map pi)[(Yr g m).toNat]?=some (pi ((tbl g t).getD (Yr g m).toNat 0)):=by rw [zL (hsi hs)];exact qW (hsi hs)
   have hd:decide (Yr g m < 0)=false:=decide_eq_false hs
   repeat' (first|(refine shC ?_;first|refine qC c1 ?_|refine qC c2 ?_|refine qC c3 ?_|refine qC c4 ?_)|(refine shX ?_;first|refine zB rfl (zl zf rfl rfl rfl rfl rfl rfl hm.1 hem) rfl rfl ?_|refine AD.step _ _ _ _ _ rfl (zl zf rfl rfl rfl rfl rfl rfl hm.1 hem) rfl rfl ?_|refine qX he ?_)|refine sK ?_|refine sC (fun _=>?_) (fun _=>?_)|fail)
   exact retq rfl (by rw [zar,if_neg hs];rfl)
 ·have hkb:(zN g (mAt g m).owner==2)=false:=by simp [hk]
  by_cases hs:Yr g m < 0
  ·repeat' (first|(refine shC ?_;first|refine qC c1 ?_|refine qC c2 ?_|refine qC c3 ?_)|(refine shX ?_;first|refine zB rfl (zl zf rfl rfl rfl rfl rfl rfl hm.1 hem) rfl rfl ?_|refine AD.step _ _ _ _ _ rfl (zl zf rfl rfl rfl rfl rfl rfl hm.1 hem) rfl rfl ?_)|refine sK ?_|refine sC (fun _=>?_) (fun _=>?_)|fail)
   exact retq rfl (by simp [zk,zar,hs])
  ·have he:((tbl g t).map pi)[(Yr g m).toNat]?=some (pi ((tbl g t).getD (Yr g m).toNat 0)):=by rw [zL (hsi hs)];exact qW (hsi hs)
   have hd:decide (Yr g m < 0)=false:=decide_eq_false hs
   repeat' (first|(refine shC ?_;first|refine qC c1 ?_|refine qC c2 ?_|refine qC c3 ?_|refine qC c4 ?_)|(refine shX ?_;first|refine zB rfl (zl zf rfl rfl rfl rfl rfl rfl hm.1 hem) rfl rfl ?_|refine AD.step _ _ _ _ _ rfl (zl zf rfl rfl rfl rfl rfl rfl hm.1 hem) rfl rfl ?_|refine qX he ?_)|refine sK ?_|refine sC (fun _=>?_) (fun _=>?_)|fail)
   exact retq rfl (by rw [zar,if_neg hs];rfl)
theorem ziA {α:Type} {l:List α} {f:α→List Int} {i:Nat} (h:i < l.length):(l.drop i).flatMap f=f l[i]++(l.drop (i + 1)).flatMap f:=by
 rw [List.drop_eq_getElem_cons h,List.flatMap_cons]
theorem up0 {g:Img} (hW:Wl g) {t u k:Int} (hk:zN g t=0) (hu:u∈up g t) (h:k∈methodsOf g u):mOk g k∧(zN g (QN g k)==2&&VD g k)=false∧(zN g (QN g k)=0→QN g k∈up g t):=by
 have h1:=zkk hW _ t rfl hk _ hu
 refine ⟨qc h,?_,fun _=>by rw [WH h];exact hu⟩
 rw [WH h,h1];rfl
theorem zoM (g:Img) (hF:Fine g) (t m:Int) (hm:mOk g m) (hk:zN g t=0):ACall Tryz.prog 123 [zH g,pi t,pi m] (pi (XT g t m)):=by
 have hW:=Vu hF.well
 obtain ⟨hgt,_,hgm,_⟩:=zW hF.formed
 have hem:=ZF hm
 have hui:=XY g t
 have hul:=Zu _ _ hui.1 hui.2
 refine zh zf Tryz.func123 rfl (by kernel_rfl) Tryz.ntmps123 (by simp) _ rfl (fun hw gB hgB=>?_)
 repeat' (first|(refine shC ?_;first|refine zB rfl (zG rfl rfl (Qa g t (by omega))) rfl rfl ?_|refine AD.step _ _ _ _ _ rfl (zG rfl rfl (Qa g t (by omega))) rfl rfl ?_)|refine sA ?_|refine sC (fun _=>?_) (fun _=>?_)|fail)
 refine zJ (fun i:Nat=>[(1,.pv (pi t)),(2,.pv (pi m)),(3,.pv (.ptr (zH g) 0)),(13,.pv (ints (up g t))),(14,.pv (pi (up g t).length)),(15,.pv (pi i))]) (fun _=>[]) (fun i=>i≤(up g t).length∧ziP g t m=(((up g t).drop i).flatMap (methodsOf g)).find? (does g m)) (fun i=>(up g t).length - i) 0 ⟨by omega,rfl⟩ (tS) tH ?_
 rintro i ⟨hi,hr⟩
 by_cases hlt:i < (up g t).length
 ·obtain ⟨u,hu⟩:∃ u,u=(up g t)[i]:=⟨_,rfl⟩
  have hum:u∈up g t:=by rw [hu];exact List.getElem_mem hlt
  have heu:((up g t).map pi)[i]?=some (pi u):=by rw [hu];exact yu (f:=pi) hlt
  have c1:=YD g u (by omega)
  have hml:=Zn g u
  rw [ziA hlt,←hu] at hr
  repeat' (first|(refine shC ?_;first|refine qC c1 ?_)|(refine shX ?_;first|refine qX heu ?_)|refine sK ?_|refine sC (fun _=>?_) (fun _=>?_)|fail)
  refine zJ (fun j:Nat=>[(1,.pv (pi t)),(2,.pv (pi m)),(3,.pv (.ptr (zH g) 0)),(13,.pv (ints (up g t))),(14,.pv (pi (up g t).length)),(15,.pv (pi i)),(21,.pv (ints (methodsOf g u))),(22,.pv (pi (methodsOf g u).length)),(23,.pv (pi j))]) (fun _=>[])
   (fun j=>j≤(methodsOf g u).length∧ziP g t m=((methodsOf g u).drop j++((up g t).drop (i + 1)).flatMap (methodsOf g)).find? (does g m)) (fun j=>(methodsOf g u).length - j) 0 ⟨by omega,hr⟩ (tS) tH ?_
  clear hr
  rintro j ⟨hj,hr⟩
  by_cases hjl:j < (methodsOf g u).length
  ·obtain ⟨k,hk2⟩:∃ k,k=(methodsOf g u)[j]:=⟨_,rfl⟩
   have hkm:k∈methodsOf g u:=by rw [hk2];exact List.getElem_mem hjl
   have hek:((methodsOf g u).map pi)[j]?=some (pi k):=by rw [hk2];exact yu (f:=pi) hjl
   obtain ⟨q1,q2,q3⟩:=up0 hW hk hum hkm
   have hekm:=ZF q1
   have c2:=ztg hF q1
   have c3:=zfV (mAt g k) (mAt g m)
   rw [znV hF.formed q1 hm] at c3
   rw [List.drop_eq_getElem_cons hjl,←hk2,List.cons_append,List.find?_cons] at hr
   cases hv:VD g k
   ·rw [hv] at c2
    rw [show does g m k=false by rw [does,hv];rfl] at hr
    repeat' (first|(refine shC ?_;first|refine qC c2 ?_)|(refine shX ?_;first|refine qX hek ?_|refine zB rfl (zl zf rfl rfl rfl rfl rfl rfl q1.1 hekm) rfl rfl ?_|refine AD.step _ _ _ _ _ rfl (zl zf rfl rfl rfl rfl rfl rfl q1.1 hekm) rfl rfl ?_)|refine sK ?_|refine sC (fun _=>?_) (fun _=>?_)|fail)
    exact ⟨j + 1,⟨hjl,hr⟩,tD,tS,tH⟩
   ·rw [hv] at c2
    cases ha:alk g k m
    ·rw [ha] at c3
     rw [show does g m k=false by rw [does,hv,ha];rfl] at hr
     repeat' (first|(refine shC ?_;first|refine qC c2 ?_|refine qC c3 ?_)|(refine shX ?_;first|refine qX hek ?_|refine zB rfl (zl zf rfl rfl rfl rfl rfl rfl q1.1 hekm) rfl rfl ?_|refine AD.step _ _ _ _ _ rfl (zl zf rfl rfl rfl rfl rfl rfl q1.1 hekm) rfl rfl ?_|refine zB rfl (zl zf rfl rfl rfl rfl rfl rfl hm.1 hem) rfl rfl ?_|refine AD.step _ _ _ _ _ rfl (zl zf rfl rfl rfl rfl rfl rfl hm.1 hem) rfl rfl ?_)|refine sK ?_|refine sC (fun _=>?_) (fun _=>?_)|fail)
     exact ⟨j + 1,⟨hjl,hr⟩,tD,tS,tH⟩
    ·rw [ha] at c3
     rw [show does g m k=true by rw [does,hv,ha];rfl] at hr
     repeat' (first|(refine shC ?_;first|refine qC c2 ?_|refine qC c3 ?_|refine qC (zmA g hF t k q1 q2 q3) ?_)|(refine shX ?_;first|refine qX hek ?_|refine zB rfl (zl zf rfl rfl rfl rfl rfl rfl q1.1 hekm) rfl rfl ?_|refine AD.step _ _ _ _ _ rfl (zl zf rfl rfl rfl rfl rfl rfl q1.1 hekm) rfl rfl ?_|refine zB rfl (zl zf rfl rfl rfl rfl rfl rfl hm.1 hem) rfl rfl ?_|refine AD.step _ _ _ _ _ rfl (zl zf rfl rfl rfl rfl rfl rfl hm.1 hem) rfl rfl ?_)|refine sK ?_|refine sC (fun _=>?_) (fun _=>?_)|fail)
     exact retq rfl (by rw [XT,hr];rfl)
  ·rw [List.drop_eq_nil_of_le (by omega),List.nil_append] at hr
   repeat' (first|refine sK ?_|refine sC (fun _=>?_) (fun _=>?_)|fail)
   exact ⟨i + 1,⟨hlt,hr⟩,tD,tS,tH⟩
 ·rw [List.drop_eq_nil_of_le (by omega)] at hr
  repeat' (first|refine sK ?_|refine sC (fun _=>?_) (fun _=>?_)|fail)
  exact retq rfl (by rw [XT,hr];rfl)
end Go.Cg
