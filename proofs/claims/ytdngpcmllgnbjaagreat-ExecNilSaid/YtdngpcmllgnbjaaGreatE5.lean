/- A part of the walks by abstract values: no statement of its own. -/
import Derived.Test.YtdngpcmllgnbjaaGreatE4
set_option linter.unusedVariables false
set_option linter.unusedSimpArgs false
namespace Go.Cg
theorem BL:(∀ b:Bool,(b&&true)=b)∧(∀ b:Bool,(true&&b)=b)∧(∀ b:Bool,(b&&false)=false)∧(∀ b:Bool,(false&&b)=false)∧(∀ b:Bool,(b||true)=true)∧(∀ b:Bool,(true||b)=true)∧(∀ b:Bool,(b||false)=b)
  ∧ (∀ b:Bool,(false||b)=b)∧((!true)=false)∧((!false)=true):=by simp
theorem drop_cons {α:Type} {l:List α} {k:Nat} (h:k < l.length):l.drop k=l[k]::l.drop (k + 1):=List.drop_eq_getElem_cons h
theorem zhU {α:Type} {l:List α} {p:α→Bool} {k:Nat} (h:k < l.length):(l.drop k).all p=(p l[k]&&(l.drop (k + 1)).all p):=by rw [drop_cons h];rfl
theorem zhT {α:Type} {l:List α} {p:α→Bool} {k:Nat} (h:k < l.length):(l.drop k).any p=(p l[k]||(l.drop (k + 1)).any p):=by rw [drop_cons h];rfl
theorem drop_end {α:Type} {l:List α} {k:Nat} (h:l.length≤k):l.drop k=[]:=List.drop_eq_nil_of_le h
theorem ZF:∀ (n:Nat) (l:List Int),l.Nodup→(∀ x∈l,0≤x∧x < n)→l.length≤n
 | 0,l,_,h=>by
  cases l with
  | nil=>simp
  | cons x l=>have:=h x (by simp);omega
 | n + 1,l,hd,h=>by
  by_cases hm:(n:Int)∈l
  ·have h1:=ZF n (l.erase n) (hd.erase _) (fun x hx=>by
    rw [hd.mem_erase_iff] at hx
    have:=h x hx.2
    omega)
   rw [List.length_erase_of_mem hm] at h1
   omega
  ·have:=ZF n l hd (fun x hx=>by
    have:=h x hx
    have hne:x≠n:=by rintro rfl;exact hm hx
    omega)
   omega
end Go.Cg
namespace Go.Cg
open Go.RowKit
theorem zjb {a:Act} {d t:Nat} {v:Value} (h:d≠t):(a.put (some d) v).tmps[t]?=a.tmps[t]?:=by
 simp only [Act.put];rw [Array.getElem?_setIfInBounds_ne h]
theorem put_comm {a:Act} {c d:Nat} {u v:Value} (h:c≠d):(a.put (some c) u).put (some d) v=(a.put (some d) v).put (some c) u:=by
 simp only [Act.put];rw [Array.setIfInBounds_comm _ _ h]
theorem VO {listed:Array Bool} {j:Nat} (h:j < listed.size):listed.getD j true=listed.getD j false:=by
 rw [Array.getD_eq_getD_getElem?,Array.getD_eq_getD_getElem?,Array.getElem?_eq_getElem h];rfl
def zaz (ops:List Oper):Bool:=ops.zipIdx.all fun x=>x.1.after.toList.all fun e=>!Region.binds .any e||decide (e.on < x.2)
theorem zkh {ops:List Oper} (h:zaz ops=true) {j:Nat} {o:Oper} (ho:ops[j]?=some o):∀ i,zZ o i=true→i < j:=by
 intro i hi
 have h1:=List.all_eq_true.1 h (o,j) (Yh ho)
 unfold zZ at hi
 obtain ⟨e,he,heq⟩:=List.any_eq_true.1 hi
 simp only [Bool.and_eq_true,beq_iff_eq] at heq
 have:=List.all_eq_true.1 h1 e he
 simp only [heq.1,Bool.not_true,Bool.false_or,decide_eq_true_eq] at this
 omega
theorem ready_nil {ops:List Oper} {listed:Array Bool} (he:zaz ops=true) (hs:listed.size=ops.length) (h0:Region.ready .any ops.toArray listed=[]):∀ j,j < ops.length→listed.getD j true=true:=by
 intro j
 induction j using Nat.strongRecOn with
 | _ j ih =>
  intro hj
  cases hun:listed.getD j true
  ·have ho:=List.getElem?_eq_getElem hj
   have:j∈Region.ready .any ops.toArray listed:=yh.2 ⟨_,ho,hun,fun i hi=>by
    have hij:=zkh he ho i hi
    have:=ih i hij (by omega)
    rwa [VO (by omega)] at this⟩
   rw [h0] at this;cases this
  ·rfl
def zrE (P:Program) (o:Oper) (c:Nat):Prop:=∀ (a:Act) (v:Value) (w:World),(execOp (a.put (some c) v).eval o).run P w=(execOp a.eval o).run P w
def zjY (c:Nat):Operand→Bool
 | .tmp t=>!(t==c)
 | _=>true
theorem zgW {a:Act} {c:Nat} {v:Value}:∀ {x:Operand},zjY c x=true→(a.put (some c) v).eval x=a.eval x
 | .tmp t,h=>by
  have:c≠t:=by rintro rfl;simp [zjY] at h
  simp only [Act.eval,Array.getD_eq_getD_getElem?,zjb this]
 | .const _,_=>rfl
 | .global _,_=>rfl
 | .func _,_=>rfl
theorem zew {P:Program} {o:Oper} {c:Nat} {x y:Operand} {ts:Array TypeId} (hop:o.op=.call { callee:=.builtin .append,args:=#[x,y],argTypes:=ts }) (hx:zjY c x=true) (hy:zjY c y=true):zrE P o c:=fun a v w=>by
 simp [execOp,hop,resolve,invoke,builtin,zgW hx,zgW hy]
section
variable {P:Program} {n:Nat} {g:Base} {K:KK} {w:World} {ρ:Nat→Value} {H:HEnv} {env:Env} {a:Act} {ops l:List Oper} {Q:Env→Prop}
theorem zou {R:Exit→Act→World→Prop} {k jc c r tA:Nat} {oA oc:Oper} (hl0:l=ops.take k) (hlk:l.length=k) (s:Script P n g H ops l env Q) (hB:Yc ops l=true) (hE:zaz ops=true) (hT:Qd ops (k + 1)=true)
  (hA:ops[k]?=some oA) (hgA:oA.guard=none) (hdA:oA.dst=some tA) (himp:∀ j,j < k→j≠jc→implied ops ops.length k j=true)
  (hjc:jc < k) (hoc:ops[jc]?=some oc) (hpc:oc.op=.move (.tmp r)) (hgc:oc.guard=none) (hdc:oc.dst=some c) (hec:∀ i,zZ oc i=false) (hbl:zrE P oA c) (x1:c≠tA) (x2:tA≠r) (x3:c≠r)
  (hR:∀ e a w,R e a w→e=.normal) (hq:∀ env' a w,Q env'→Inv n g env' H a w→wpList P ops.toArray R (ops.drop k) a w):∀ (fuel:Nat) (listed:Array Bool) (a:Act) (w:World),(listed.toList.filter (! ·)).length=fuel→listed.size=ops.length→zqA ops listed →
  ((listed.getD k true=false∧Mid P n g H ops l env Q s listed a w)∨((∀ i,i < ops.length→listed.getD i true=(decide (i < k + 1)&&!(i==jc)))∧∃ v,a.eval (.tmp r)=v∧wpList P ops.toArray R (ops.drop (k + 1)) (a.put (some c) v) w))→wpAny P .any ops.toArray R fuel listed a w:=by
 have hklt:=(List.getElem?_eq_some_iff.1 hA).1
 have hdrop:ops.drop k=oA::ops.drop (k + 1):=by
  rw [List.drop_eq_getElem_cons hklt,(List.getElem?_eq_some_iff.1 hA).2]
 have hget:∀ j,j < k→l[j]?=ops[j]?:=by
  intro j hj
  have:=congrArg (fun x=>x[j]?) hl0
  simp only [List.getElem?_take,if_pos hj] at this
  exact this
 have hocl:l[jc]?=some oc:=by rw [hget jc hjc];exact hoc
 have done:∀ (listed:Array Bool) (a:Act) (w:World),(∀ j,j < l.length→listed.getD j true=true)→Mid P n g H ops l env Q s listed a w→wpList P ops.toArray R (oA::ops.drop (k + 1)) a w:=by
  intro listed a w hall hm
  obtain ⟨K,ρ,hf,hl,he⟩:=hm.st
  rw [←hdrop]
  refine hq s.last a w s.fin ⟨hm.size,hm.defers,K,ρ,hf,fun t av hav=>?_⟩
  have hlast:(s.e++[s.last])[l.length]?=some s.last:=by rw [List.getElem?_append_right (by rw [s.lene];exact Nat.le_refl _),s.lene];simp
  rcases s.src l.length s.last hlast t av hav with ⟨i,o,ri,h1,h2,h3,h4,h5,_⟩|⟨h1,av0,h2,h3⟩
  ·obtain ⟨v,v1,v2⟩:=hl i o ri t h2 (hall i h1) h4 h3
   exact ⟨v,v1,h5 _ _ _ _ _ v2⟩
  ·obtain ⟨v,v1,v2⟩:=he t av0 h2 (fun i o ho _=>h1 i o (List.getElem?_eq_some_iff.1 ho).1 ho)
   exact ⟨v,v1,h3 _ _ _ _ _ v2⟩
 have runc:∀ (a:Act) (w:World),(execOp a.eval oc).run P w=.ok (.value (a.eval (.tmp r))) w:=fun a w=>by simp [execOp,hpc]
 have nilAt:∀ (listed:Array Bool) (a:Act) (w:World),listed.size=ops.length→Region.ready .any ops.toArray listed=[] →
   ((listed.getD k true=false∧Mid P n g H ops l env Q s listed a w)∨((∀ i,i < ops.length→listed.getD i true=(decide (i < k + 1)&&!(i==jc)))∧∃ v,a.eval (.tmp r)=v∧wpList P ops.toArray R (ops.drop (k + 1)) (a.put (some c) v) w))→False:=by
  intro listed a w hs h0 h
  have hall:=ready_nil hE hs h0
  rcases h with ⟨h,_⟩|⟨h,_⟩
  ·rw [hall k hklt] at h;cases h
  ·have:=h jc (by omega);rw [hall jc (by omega)] at this;simp at this
 intro fuel
 induction fuel with
 | zero =>
  intro listed a w hc hs hcl h
  have hall:∀ j,j < ops.length→listed.getD j true=true:=by
   intro j hj
   have hn:=List.filter_eq_nil_iff.1 (List.eq_nil_of_length_eq_zero hc)
   have hlt:j < listed.size:=by omega
   have:=hn listed[j] (by simp)
   simp only [Bool.not_eq_true',Bool.not_eq_false] at this
   rw [Array.getD_eq_getD_getElem?,Array.getElem?_eq_getElem hlt]
   simpa using this
  have hnil:Region.ready .any ops.toArray listed=[]:=by
   rw [List.eq_nil_iff_forall_not_mem]
   intro j hj
   obtain ⟨o,ho,hun,_⟩:=yh.1 hj
   rw [hall j (List.getElem?_eq_some_iff.1 ho).1] at hun;cases hun
  exact (nilAt listed a w hs hnil h).elim
 | succ fuel ih =>
  intro listed a w hc hs hcl h
  refine ⟨fun h0=>(nilAt listed a w hs h0 h).elim,fun j hj=>?_⟩
  obtain ⟨o,ho,hun,hready⟩:=yh.1 hj
  have hjlt:=(List.getElem?_eq_some_iff.1 ho).1
  have hcount:=zh5 (by omega) hun hc
  have hcl':=zjk hs hcl hj
  have hs':(listed.setIfInBounds j true).size=ops.length:=by simp [hs]
  have htail:∀ m o,ops[m]?=some o→k + 1≤m→∀ i,i < m→zZ o i=true:=by
   intro m o ho hm i hi
   have hmem:(o,m)∈ops.zipIdx.drop (k + 1):=by
    rw [List.mem_drop_iff_getElem]
    have hlt:=(List.getElem?_eq_some_iff.1 ho).1
    refine ⟨m - (k + 1),by simp;omega,?_⟩
    simp only [List.getElem_zipIdx,Nat.zero_add]
    have:k + 1 + (m - (k + 1))=m:=by omega
    simp only [this]
    rw [(List.getElem?_eq_some_iff.1 ho).2]
   have h1:=List.all_eq_true.1 hT (o,m) hmem
   simp only [Bool.and_eq_true] at h1
   exact List.all_eq_true.1 h1.1 i (List.mem_range.2 hi)
  have hcnt:∀ listed:Array Bool,(listed.toList.filter (! ·)).length=fuel→listed.size=ops.length→(∀ i,i < ops.length→listed.getD i true=decide (i < k + 1))→k + 1 + fuel=ops.length:=by
   intro listed hc hsz hex
   have e1:listed.toList=List.replicate (k + 1) true++List.replicate (ops.length - (k + 1)) false:=by
    apply List.ext_getElem
    ·simp [hsz];omega
    ·intro i h1 h2
     have hi:i < ops.length:=by simpa [hsz] using h1
     have:=hex i hi
     rw [Array.getD_eq_getD_getElem?,Array.getElem?_eq_getElem (by rw [hsz];exact hi)] at this
     simp only [Option.getD_some] at this
     simp only [Array.getElem_toList,this,List.getElem_append,List.length_replicate,List.getElem_replicate]
     by_cases hil:i < k + 1
     ·rw [dif_pos hil,decide_eq_true hil]
     ·rw [dif_neg hil,decide_eq_false hil]
   rw [e1] at hc
   simp only [List.filter_append,List.filter_replicate,Bool.not_true,Bool.false_eq_true,if_false,Bool.not_false,if_true,List.nil_append,List.length_replicate] at hc
   omega
  rcases h with ⟨hk0,hm⟩|⟨hex,v,hv,hT2⟩
  ·obtain ⟨K,ρ,hf,hl,he⟩:=hm.st
   rcases Nat.lt_trichotomy j k with hjk|rfl|hjk
   ·have hol:l[j]?=some o:=by rw [hget j hjk];exact ho
    have hjl:j < l.length:=by omega
    have hrj:s.r[j]?=some (s.r[j]'(by rw [s.lenr];exact hjl)):=List.getElem?_eq_getElem _
    have hej:s.e[j]?=some (s.e[j]'(by rw [s.lene];exact hjl)):=List.getElem?_eq_getElem _
    generalize s.r[j]'(by rw [s.lenr];exact hjl)=rj at hrj
    generalize s.e[j]'(by rw [s.lene];exact hjl)=ej at hej
    obtain ⟨t,hd,ht,hor⟩:=s.ok j o rj ej hol hrj hej
    have hreads:=hm.reads hB hol hej hun hready hl he
    have hk0':(listed.setIfInBounds j true).getD k true=false:=by rw [zO (by omega)];exact hk0
    have hwanted:∀ b,guardE ops ej o=some b→Region.wanted o (yielded ops.toArray a.tmps)=b:=by
     intro b hgb
     unfold guardE Zq at hgb
     cases hg:o.guard with
     | none=>simp [hg] at hgb;subst hgb;simp [Region.wanted,hg]
     | some x =>
      obtain ⟨jj,want⟩:=x
      simp only [hg] at hgb
      cases hjj:ops[jj]? with
      | none=>simp [hjj] at hgb
      | some o' =>
       simp only [hjj] at hgb
       cases hd':o'.dst with
       | none=>simp [hd'] at hgb
       | some t' =>
        simp only [hd'] at hgb
        split at hgb
        ·rename_i bb hbb
         simp only [Option.some.injEq] at hgb;subst hgb
         obtain ⟨v,v1,v2⟩:=hreads t' (by simp [readsOf,Zq,hg,hjj,hd']) _ hbb
         cases v2 with
         | pv _ _ hp=>cases hp;simp only [Region.wanted,hg,yielded,List.getElem?_toArray,hjj,Option.bind_some,hd',v1];cases bb <;> cases want <;> rfl
        ·rename_i vs hbb
         simp only [Option.some.injEq] at hgb;subst hgb
         obtain ⟨v,v1,v2⟩:=hreads t' (by simp [readsOf,Zq,hg,hjj,hd']) _ hbb
         cases v2 with
         | pv _ _ hp=>cases hp;simp only [Region.wanted,hg,yielded,List.getElem?_toArray,hjj,Option.bind_some,hd',v1];cases want <;> rfl
        ·cases hgb
    unfold wpOp
    simp only [List.getElem?_toArray,ho]
    have next:∀ (K':KK) (w':World) (v:Value),Evo K K' w w'→ARel K' w' ρ H rj v→wpAny P .any ops.toArray R fuel (listed.setIfInBounds j true) (a.put o.dst v) w' :=
     fun K' w' v hev hv=>ih _ _ _ hcount hs' hcl' (.inl ⟨hk0',hm.next hB hol hrj hd ht hun hready (fun _ _ _=>trivial) hf hl he hev hv⟩)
    rcases hor with ⟨hgt,hqs⟩|⟨hgf,rfl⟩
    ·rw [hwanted true hgt,if_pos rfl]
     refine .inl ?_
     unfold Oper.wp
     have hqr:=hqs.go K ρ a w hf (fun x hx av hxv=>by
      cases x with
      | tmp t' =>
       obtain ⟨v,v1,v2⟩:=hreads t' (by
        unfold readsOf
        exact List.mem_append_left _ (Qw (Array.mem_toList_iff.2 hx))) av hxv
       simpa [Act.eval,Array.getD_eq_getD_getElem?,v1] using v2
      | const v =>
       simp only [Env.val] at hxv
       split at hxv
       ·rename_i h1;simp only [Option.some.injEq] at hxv;subst hxv;exact .pv _ _ (.base v h1)
       ·cases hxv
      | func f =>
       simp only [Env.val,Option.some.injEq] at hxv;subst hxv
       exact .pv _ _ (.fn (.func f) [] [] [] [] rfl rfl (by simp) (by simp))
      | global gg =>
       simp only [Env.val,Option.some.injEq] at hxv;subst hxv
       exact .pv _ _ (.base _ rfl))
     generalize (execOp a.eval o).run P w=res at hqr
     cases res with
     | halt x w'=>simp only [zdv] at hqr
     | ok nx w' =>
      cases nx <;> simp only [zdv] at hqr <;> simp only [Oper.upon]
      case value v =>
       obtain ⟨K',hev,hv⟩:=hqr
       exact next K' _ _ hev hv
      case enter f args =>
       obtain ⟨rfl,hc'⟩:=hqr
       refine hc'.mono fun e w'' ⟨v,K',he',hev,hv⟩=>?_
       subst he'
       exact next K' _ _ hev hv
    ·rw [hwanted false hgf,if_neg (by simp)]
     exact next K _ _ (.refl hf.lt) WW
   ·
    rw [hA] at ho;cases ho
    have hw1:Region.wanted oA (yielded ops.toArray a.tmps)=true:=by simp [Region.wanted,hgA]
    have hw2:∀ a:Act,Region.wanted oA (yielded ops.toArray a.tmps)=true:=fun a=>by simp [Region.wanted,hgA]
    have hpre:∀ m,m < j→m≠jc→listed.getD m true=true:=by
     intro m hm' hne
     rw [VO (by omega)]
     exact Vf hcl _ j m oA hA hready (himp m hm' hne)
    unfold wpOp
    simp only [List.getElem?_toArray,hA]
    rw [if_pos hw1]
    cases hjcl:listed.getD jc true
    ·
     have hrjc:s.r[jc]?=some (s.r[jc]'(by rw [s.lenr];omega)):=List.getElem?_eq_getElem _
     have hejc:s.e[jc]?=some (s.e[jc]'(by rw [s.lene];omega)):=List.getElem?_eq_getElem _
     generalize s.r[jc]'(by rw [s.lenr];omega)=rc at hrjc
     generalize s.e[jc]'(by rw [s.lene];omega)=ec at hejc
     obtain ⟨t,hd,ht,hor⟩:=s.ok jc oc rc ec hocl hrjc hejc
     have hreadyc:∀ i,zZ oc i=true→listed.getD i false=true:=fun i hi=>by rw [hec i] at hi;cases hi
     have hreads:=hm.reads hB hocl hejc hjcl hreadyc hl he
     obtain ⟨K',hev,hvr⟩:∃ K',Evo K K' w w∧ARel K' w ρ H rc (a.eval (.tmp r)):=by
      rcases hor with ⟨_,hqs⟩|⟨hgf,_⟩
      ·have hqr:=hqs.go K ρ a w hf (fun x hx av hxv=>by
        rw [hpc] at hx
        simp only [Op.operands,List.mem_toArray] at hx
        have hx':x=.tmp r:=by simpa using hx
        subst hx'
        obtain ⟨v,v1,v2⟩:=hreads r (by unfold readsOf;rw [hpc];exact List.mem_append_left _ (by simp [Op.operands,zdi])) av hxv
        simpa [Act.eval,Array.getD_eq_getD_getElem?,v1] using v2)
       rw [runc] at hqr
       exact hqr
      ·simp [guardE,hgc] at hgf
     have hm2:=hm.next hB hocl hrjc hd ht hjcl hreadyc (fun _ _ _=>trivial) hf hl he hev hvr
     rw [hdc] at hm2
     have hwl:=done _ _ _ (fun m hm'=>by
      by_cases e:m=jc
      ·subst e;exact yM (by omega)
      ·rw [zO e];exact hpre m (by omega) e) hm2
     unfold wpList at hwl
     rw [if_pos (hw2 _)] at hwl
     rcases hwl with hwl|hwl
     ·refine .inl ?_
      have hex:∀ i,i < ops.length→(listed.setIfInBounds j true).getD i true=(decide (i < j + 1)&&!(i==jc)):=by
       intro i hi
       by_cases e:i=j
       ·subst e;rw [yM (by omega)];simp;omega
       ·rw [zO e]
        by_cases e2:i=jc
        ·subst e2;simp [hjcl]
        ·by_cases e3:i < j
         ·rw [hpre i e3 e2];simp [e2];omega
         ·rw [hm.notail i (by omega) hi];simp;omega
      have go:∀ (a2:Act) (u:Value) (w':World),a2.tmps=(a.put (some tA) u).tmps→wpList P ops.toArray R (ops.drop (j + 1)) (a2.put (some c) (a.eval (.tmp r))) w'→wpAny P .any ops.toArray R fuel (listed.setIfInBounds j true) a2 w':=fun a2 u w' h2 hh =>
       ih _ _ _ hcount hs' hcl' (.inr ⟨hex,_,by simp only [Act.eval,Array.getD_eq_getD_getElem?,h2,zjb x2],hh⟩)
      unfold Oper.wp at hwl ⊢
      rw [hbl] at hwl
      generalize (execOp a.eval oA).run P w=res at hwl
      cases res with
      | halt x w'=>cases x <;> simp only [Oper.upon] at hwl <;> exact nomatch hR _ _ _ hwl
      | ok nx w' =>
       cases nx <;> simp only [Oper.upon,hdA] at hwl ⊢
       case value v=>exact go _ v _ rfl (by rw [put_comm (Ne.symm x1)];exact hwl)
       case skip=>exact go _ undef _ rfl (by rw [put_comm (Ne.symm x1)];exact hwl)
       case defer d=>exact go _ undef _ rfl (by rw [put_comm (Ne.symm x1)];exact hwl)
       case enter f args=>exact Calls.mono hwl (fun e w'' he=>by
        cases e with
        | returned v=>exact go _ v _ rfl (by rw [put_comm (Ne.symm x1)];exact he)
        | panicked ch=>exact nomatch hR _ _ _ he
        | outgrown=>exact he)
       case row f args=>exact Rows.mono hwl (fun v _ he=>go _ v _ rfl (by rw [put_comm (Ne.symm x1)];exact he))
     ·exact nomatch hR _ _ _ hwl.2.choose_spec.choose_spec
    ·have hwl:=done _ _ _ (fun m hm'=>by
      by_cases e:m=jc
      ·subst e;exact hjcl
      ·exact hpre m (by omega) e) hm
     unfold wpList at hwl
     rw [if_pos hw1] at hwl
     refine hwl.imp (fun hwl=>?_) id
     have hex:∀ i,i < ops.length→(listed.setIfInBounds j true).getD i true=decide (i < j + 1):=by
      intro i hi
      by_cases e:i=j
      ·subst e;rw [yM (by omega)];simp
      ·rw [zO e]
       by_cases e3:i < j
       ·by_cases e2:i=jc
        ·subst e2;rw [hjcl];simp;omega
        ·rw [hpre i e3 e2];simp;omega
       ·rw [hm.notail i (by omega) hi];simp;omega
     exact Oper.wp_mono (fun a2 w2 hh=>Xt hT fuel (j + 1) _ a2 w2 (Nat.le_refl _) (hcnt _ hcount hs' hex) hs' hex hh) hwl
   ·have:=hready k (htail j o ho (by omega) k hjk)
    rw [←VO (by omega),hk0] at this;cases this
  ·
   have hjj:j=jc:=by
    rcases Nat.lt_or_ge j (k + 1) with h1|h1
    ·have:=hex j hjlt
     rw [hun] at this
     have h2:decide (j < k + 1)=true:=decide_eq_true h1
     rw [h2] at this
     simpa using this
    ·have:=hready jc (htail j o ho h1 jc (by omega))
     rw [←VO (by omega),hex jc (by omega)] at this;simp at this
   subst hjj
   rw [hoc] at ho;cases ho
   unfold wpOp
   simp only [List.getElem?_toArray,hoc]
   rw [if_pos (by simp [Region.wanted,hgc])]
   refine .inl ?_
   unfold Oper.wp
   rw [runc]
   simp only [Oper.upon,hdc]
   rw [hv]
   have hex2:∀ i,i < ops.length→(listed.setIfInBounds j true).getD i true=decide (i < k + 1):=by
    intro i hi
    by_cases e:i=j
    ·subst e;rw [yM (by omega)];simp;omega
    ·rw [zO e,hex i hi];simp [e]
   exact Xt hT fuel (k + 1) _ _ w (Nat.le_refl _) (hcnt _ hcount hs' hex2) hs' hex2 hT2
def zps (ops:List Oper) (oc:Oper) (k jc c tA r:Nat):Bool :=
 Yc ops (ops.take k)&&zaz ops&&Qd ops (k + 1)&&((List.range k).all fun j=>j==jc||implied ops ops.length k j)&&Nat.blt jc k&&oc.after.isEmpty&&!(c==tA)&&!(tA==r)&&!(c==r)
theorem zea {QQ:QC} {id:Nat} (k jc:Nat) {c tA r:Nat} {oA oc:Oper} (hok:Qp ops (k + 1)=true) (hm:P.follows .mixedOrders=true)
  (hA:(zu (k + 1) ops 0)[k]?=some oA) (hgA:oA.guard=none) (hdA:oA.dst=some tA) (hoc:(zu (k + 1) ops 0)[jc]?=some oc) (hpc:oc.op=.move (.tmp r)) (hgc:oc.guard=none) (hdc:oc.dst=some c) (hbl:zrE P oA c)
  (hchk:zps (zu (k + 1) ops 0) oc k jc c tA r=true)
  (h:AD P n g H (zu (k + 1) ops 0) (fun env'=>AO P n g (zu (k + 1) ops 0).toArray ((zu (k + 1) ops 0).drop k) env' H (fun env' H'=>QQ .normal env' H')) ((zu (k + 1) ops 0).take k) env) (hnd:qo ops=true:=by kernel_rfl):AW P n g (.region id ops.toArray true) env H QQ:=by
 simp only [zps,Bool.and_eq_true,Bool.not_eq_true',beq_eq_false_iff_ne] at hchk
 obtain ⟨⟨⟨⟨⟨⟨⟨⟨hB,hE⟩,hT⟩,himp⟩,hjc⟩,hec⟩,x1⟩,x2⟩,x3⟩:=hchk
 have hjc':=Nat.le_of_ble_eq_true hjc
 obtain ⟨s⟩:=zcE h
 refine ⟨fun a w hi rr dd=>?_⟩
 refine wpIn_mono (VQ (R:=fun a' w'=>∃ env' H',Inv n g env' H' a' w'∧QQ .normal env' H') hnd hm ?_) (fun e a' w' h=>by obtain ⟨rfl,h⟩:=h;exact h)
 have hlen:=Qg (k + 1) ops 0
 refine Vz hok _ _ _ _ (by simp) ?_ ?_
 ·intro j o ho hl
  have hlt:=(List.getElem?_eq_some_iff.1 ho).1
  simp [Array.getD_eq_getD_getElem?,hlt] at hl
 obtain ⟨h1,h2,K,ρ,hf,he⟩:=hi
 have hev:Evo K K w { w with drawn:=w.drawn + 1 }:=(Evo.refl hf.lt).drew
 have hsz:ops.toArray.size=(zu (k + 1) ops 0).length:=by simp [hlen]
 rw [hsz]
 generalize zu (k + 1) ops 0=ops' at *
 have hklt:=(List.getElem?_eq_some_iff.1 hA).1
 have hlk:(ops'.take k).length=k:=by simp;omega
 refine zou (jc:=jc) (by simp [hlk]) hlk s hB hE hT hA hgA hdA (fun j hj hne=>?_) hjc' hoc hpc hgc hdc (fun i=>?_) hbl x1 x2 x3 (fun e a w hh=>hh.1) (fun env' a' w' h hi'=>Zl (fun e a' w' ⟨env',H',h1,h2,h3⟩=>⟨h2,env',H',h1,h3⟩) (h.go a' w' hi')) _ _ _ _ (by simp) (by simp) ?_ (.inl ⟨?_,h1,h2,by simp,by rw [hlk];omega,?_,?_,K,ρ,hf.evo hev,?_,?_⟩)
 ·have:=List.all_eq_true.1 himp j (List.mem_range.2 hj)
  rw [Bool.or_eq_true,beq_iff_eq] at this
  exact this.resolve_left hne
 ·have:oc.after=#[]:=by simpa using hec
  simp [zZ,this]
 ·intro j o ho hl
  have hlt:=(List.getElem?_eq_some_iff.1 ho).1
  simp [Array.getD_eq_getD_getElem?,hlt] at hl
 ·simp [Array.getD_eq_getD_getElem?,hklt]
 ·intro j _ hj
  simp [Array.getD_eq_getD_getElem?,hj]
 ·intro i o ho hli
  have hlt:=(List.getElem?_eq_some_iff.1 ho).1
  have:i < ops'.length:=by simp at hlt;omega
  simp [Array.getD_eq_getD_getElem?,this] at hli
 ·intro i o ri t ho hli
  have hlt:=(List.getElem?_eq_some_iff.1 ho).1
  have:i < ops'.length:=by simp at hlt;omega
  simp [Array.getD_eq_getD_getElem?,this] at hli
 ·intro t av hav _
  obtain ⟨v,v1,v2⟩:=he t av hav
  exact ⟨v,v1,v2.later (hev.later hf.lt)⟩
end
section
variable {P:Program} {n:Nat} {g:Base} {K:KK} {w:World} {ρ:Nat→Value} {H:HEnv} {env:Env} {a:Act} {ops l:List Oper} {Q:Env→Prop}
end
end Go.Cg
