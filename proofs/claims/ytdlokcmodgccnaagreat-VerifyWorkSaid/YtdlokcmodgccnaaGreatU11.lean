/- A part of the walks by abstract values: no statement of its own. -/
import Derived.Test.YtdlokcmodgccnaaGreatU6
import Derived.KernelRfl
import Derived.Test.YtdlokcmodgccnaaGreatU7
set_option linter.unusedVariables false
set_option linter.unusedSimpArgs false
namespace Go.Cg
open Go.RowKit
section
variable {P:Program} {tb:Tab} {n:Nat} {g:Base} {H:HEnv} {env:Env} {ops ops':List Oper} {Q:Env→Prop}
theorem zhZ {o o':Oper} (h:o.after=o'.after) (j:Nat):yx o j=yx o' j:=by unfold yx;rw [h]
theorem zme {listed:Array Bool} {j fuel:Nat} (hlt:j < listed.size) (hun:listed.getD j true=false) (hc:(listed.toList.filter (! ·)).length=fuel + 1):((listed.setIfInBounds j true).toList.filter (! ·)).length=fuel:=by
 have hlt':j < listed.toList.length:=by simpa using hlt
 have hjf:listed.toList[j]=false:=by
  rw [Array.getD_eq_getD_getElem?,Array.getElem?_eq_getElem hlt] at hun
  simpa using hun
 have e1:listed.toList=listed.toList.take j++false::listed.toList.drop (j + 1):=by
  rw [←hjf,List.getElem_cons_drop,List.take_append_drop]
 rw [Array.toList_setIfInBounds,List.set_eq_take_append_cons_drop,if_pos hlt']
 rw [e1] at hc
 simp only [List.filter_append,List.length_append,List.filter_cons,Bool.not_false,if_true,List.length_cons,Bool.not_true,Bool.false_eq_true,if_false] at hc ⊢
 omega
def BI (g:Base) (H:HEnv) (ja js ta:Nat) (ty:TypeId) (zc:Array Value) (r:AV) (listed:Array Bool) (a:Act) (w:World) (K:KK) (ρ:Nat→Value):Prop :=
 listed.getD ja true=true→∃ b,a.tmps[ta]?=some (.pointer (some ⟨b,0,none⟩)) ∧
  ((listed.getD js true=false∧Blk g K ρ H w b ty zc)∨(listed.getD js true=true∧∃ ru,ARel K w ρ H r ru∧Blk g K ρ H w b ty ru.cells))
theorem zn5 {ja js t' ta tx jx:Nat} {oa os ox:Oper} {ty:TypeId} {z:Value} {za v r:AV} {R:Exit→Act→World→Prop} (htb:qc P tb) (hsh:ops'=Zj ja js t' n ops 0) (hB:Yf ops' ops'=true) (s:Script P n g H ops' ops' env Q)
  (hoa:ops[ja]?=some oa) (hopa:oa.op=.alloc ty) (hda:oa.dst=some ta) (hta:ta < n) (hga:oa.guard=none)
  (hos:ops[js]?=some os) (hops:os.op=.store ty (.tmp ta) (.tmp tx)) (hds:os.dst=none) (hgs:os.guard=none) (ht':t' < n)
  (hne:ja≠js) (hea:yx os ja=true) (hex:yx os jx=true) (hox:ops'[jx]?=some ox) (hdx:ox.dst=some tx)
  (hng:∀ (j:Nat) (o:Oper) (jj:Nat) (want:Bool),ops[j]?=some o→o.guard=some (jj,want)→jj≠js)
  (hz:tb.zero ty=some z) (hza:zbg z=some za) (hk:tb.known ty=true) (henv:env.get n=none)
  (hv:s.last.get tx=some v) (hr:zcZ tb H ty za 0 v=some r) (hn:zda H za=true)
  (hR:∀ a w K ρ b ru,a.tmps.size=n→a.defers=g.ds→FS g K ρ H w→EnvR K w ρ H s.last a.tmps→a.tmps[ta]?=some (.pointer (some ⟨b,0,none⟩))→ARel K w ρ H r ru→Blk g K ρ H w b ty ru.cells→R .normal a w) :
  ∀ (fuel:Nat) (listed:Array Bool) (a:Act) (w:World) (K:KK) (ρ:Nat→Value),(listed.toList.filter (! ·)).length=fuel→MidX P n g H ops' env Q s listed a w K ρ→BI g H ja js ta ty z.cells r listed a w K ρ →
  wpAny P .any ops.toArray R fuel listed a w:=by
 have hlen:ops'.length=ops.length:=by rw [hsh,Xr]
 have hget:∀ j,ops'[j]?=(ops[j]?).map fun o=>qo ja js t' n o j:=by
  intro j;rw [hsh,zbK];simp
 have hzi:∃ i,P.info? ty=some i∧i.zero=some z:=by
  unfold Tab.zero at hz
  split at hz
  ·rename_i ti hti
   obtain ⟨i,e1,_,_,e4,_⟩:=Zv htb hti
   exact ⟨i,e1,by rw [e4];exact hz⟩
  ·cases hz
 obtain ⟨ti,hti,htz⟩:=hzi
 have hzr:∀ (K:KK) (w:World) (ρ:Nat→Value),ARel K w ρ H za z:=by
  intro K w ρ
  unfold zbg at hza
  split at hza
  ·rename_i cs
   split at hza
   ·rename_i ps hps
    simp only [Option.some.injEq] at hza;subst hza
    have hr:=Xf (K:=K) (w:=w) hps
    have:=PRel.agg ps cs.toList hr.1 (Xb hps) hr.2
    exact .pv _ _ (by simpa using this)
   ·cases hza
  ·split at hza
   ·rename_i ho
    simp only [Option.some.injEq] at hza;subst hza
    exact .pv _ _ (.base _ ho)
   ·cases hza
 have hedges:∀ j o,ops[j]?=some o→∀ i,yx (qo ja js t' n o j) i=yx o i:=fun j o _ i=>zhZ zgS i
 have hjsl:js < ops.length:=(List.getElem?_eq_some_iff.1 hos).1
 have hjal:ja < ops.length:=(List.getElem?_eq_some_iff.1 hoa).1
 have fin:∀ (listed:Array Bool) (a:Act) (w:World) (K:KK) (ρ:Nat→Value),(∀ j,j < ops.length→listed.getD j true=true)→MidX P n g H ops' env Q s listed a w K ρ→BI g H ja js ta ty z.cells r listed a w K ρ→R .normal a w:=by
  intro listed a w K ρ hall hm hb
  obtain ⟨b,b1,b2⟩:=hb (hall ja hjal)
  rcases b2 with ⟨b2,_⟩|⟨_,ru,b3,b4⟩
  ·rw [hall js hjsl] at b2;cases b2
  ·exact hR a w K ρ b ru hm.size hm.defers hm.fs (hm.done (fun j hj=>hall j (by omega))) b1 b3 b4
 intro fuel
 induction fuel with
 | zero =>
  intro listed a w K ρ hc hm hb
  have hall:∀ j,j < ops.length→listed.getD j true=true:=by
   intro j hj
   have hn:=List.filter_eq_nil_iff.1 (List.eq_nil_of_length_eq_zero hc)
   have hlt:j < listed.size:=by rw [hm.lsize,hlen];exact hj
   have:=hn listed[j] (by simp)
   simp only [Bool.not_eq_true',Bool.not_eq_false] at this
   rw [Array.getD_eq_getD_getElem?,Array.getElem?_eq_getElem hlt]
   simpa using this
  refine ⟨?_,fin listed a w K ρ hall hm hb⟩
  rw [List.eq_nil_iff_forall_not_mem]
  intro j hj
  obtain ⟨o,ho,hun,_⟩:=yY.1 hj
  rw [hall j (List.getElem?_eq_some_iff.1 ho).1] at hun;cases hun
 | succ fuel ih =>
  intro listed a w K ρ hc hm hb
  refine ⟨fun h0=>?_,fun j hj=>?_⟩
  ·
   refine fin listed a w K ρ (fun j hj=>?_) hm hb
   induction j using Nat.strongRecOn with
   | _ j ihj =>
    cases hun:listed.getD j true
    ·exfalso
     have ho:=List.getElem?_eq_getElem hj
     have:j∈Region.ready .any ops.toArray listed:=yY.2 ⟨_,ho,hun,fun i hi=>by
      have ho':ops'[j]?=some (qo ja js t' n ops[j] j):=by rw [hget,ho];rfl
      have hij:=(Qc hB ho').1 i (by rw [hedges j _ ho];exact hi)
      have hi2:=ihj i hij (by omega)
      have hlt:i < listed.size:=by rw [hm.lsize,hlen];omega
      rw [Array.getD_eq_getD_getElem?,Array.getElem?_eq_getElem hlt] at hi2 ⊢
      exact hi2⟩
     rw [h0] at this;cases this
    ·rfl
  obtain ⟨o,ho,hun,hready⟩:=yY.1 hj
  have hjlt:=(List.getElem?_eq_some_iff.1 ho).1
  have hjl:j < listed.size:=by rw [hm.lsize,hlen];exact hjlt
  have ho':ops'[j]?=some (qo ja js t' n o j):=by rw [hget,ho];rfl
  have hready':∀ i,yx (qo ja js t' n o j) i=true→listed.getD i false=true:=fun i hi=>hready i (by rw [←hedges j o ho];exact hi)
  have hcount:=zme hjl hun hc
  have hft:∀ i,listed.getD i false=true→listed.getD i true=true:=by
   intro i hi
   rw [Array.getD_eq_getD_getElem?] at hi ⊢
   cases h:listed[i]? with
   | none=>rfl
   | some b=>rw [h] at hi;exact hi
  have hrj:s.r[j]?=some (s.r[j]'(by rw [s.lenr,hlen];exact hjlt)):=List.getElem?_eq_getElem _
  generalize s.r[j]'(by rw [s.lenr,hlen];exact hjlt)=rj at hrj
  unfold wpOp
  simp only [List.getElem?_toArray,ho]
  have hBI_set:∀ (j':Nat),j'=j→j≠js→∀ (a':Act) (w':World) (K':KK),(∀ b,a.tmps[ta]?=some (.pointer (some ⟨b,0,none⟩))→a'.tmps[ta]?=some (.pointer (some ⟨b,0,none⟩)))→Evo K K' w w'→j≠ja→BI g H ja js ta ty z.cells r (listed.setIfInBounds j true) a' w' K' ρ:=by
   intro _ _ hjs a' w' K' hta' hev hja hl
   rw [zY (Ne.symm hja)] at hl
   obtain ⟨b,b1,b2⟩:=hb hl
   refine ⟨b,hta' b b1,?_⟩
   rw [zY (Ne.symm hjs)]
   rcases b2 with ⟨e1,e2⟩|⟨e1,ru,e2,e3⟩
   ·exact .inl ⟨e1,e2.evo hev⟩
   ·exact .inr ⟨e1,ru,e2.later (hev.later hm.fs.lt),e3.evo hev⟩
  by_cases hja:j=ja
  ·
   subst hja
   rw [hoa] at ho;cases ho
   have hw:Region.wanted oa (yielded ops.toArray a.tmps)=true:=by simp [Region.wanted,hga]
   rw [if_pos hw]
   refine .inl ?_
   have hrun:(execOp a.eval oa).run P w=.ok (.value (.pointer (some ⟨w.heap.size,0,none⟩))) (w.alloc (.cells z.cells ty)):=by
    simp [execOp,hopa,Instr.alloc,zeroValue,typeInfo,hti,htz,newVar,newRow]
   unfold Oper.wp
   rw [hrun]
   simp only [Oper.upon]
   have hev:Evo K K w (w.alloc (.cells z.cells ty)):=⟨(Below.refl _ _).alloc (Nat.le_refl _) _,fun _ _ h=>h,fun _ _ h=>.inl h,fun b o h=>by have:=hm.fs.lt b o h;simp;omega⟩
   have hfs:=hm.fs.evo hev
   have hbeq:Nat.beq j j=true:=Nat.beq_refl j
   have hop:(qo j js t' n oa j).op=.move (.tmp n):=by unfold qo;rw [hbeq]
   have hds':(qo j js t' n oa j).dst=some ta:=by rw [zbu hne];exact hda
   have hgs':(qo j js t' n oa j).guard=none:=by rw [zb0];exact hga
   rw [hda]
   refine ih _ _ _ K ρ hcount (hm.next hB ho' hrj hds' hta hun hready' hfs (hev.later hm.fs.lt) (zhq a ho' hrj hop hgs' henv hfs _)) ?_
   intro _
   refine ⟨w.heap.size,by simp only [Act.put];rw [Array.getElem?_setIfInBounds_self_of_lt (by rw [hm.size];exact hta)],.inl ⟨?_,hm.fs.below.size,heap_alloc_new w _,fun o ho=>by have:=hm.fs.lt _ o ho;omega,fun k h hk hl hbk=>?_,hm.fs.pt.lt (Nat.le_refl _)⟩⟩
   ·rw [zY (Ne.symm hne)]
    cases hjs:listed.getD js true
    ·rfl
    ·have hos':ops'[js]?=some (qo j js t' n os js):=by rw [hget,hos];rfl
     have:=hft _ (hm.closed js _ hos' hjs j (by rw [hedges js os hos];exact hea))
     rw [hun] at this;cases this
   ·have:=((hm.fs.heap.ok k h hk).block_lt hl hbk).2
    omega
  by_cases hjs:j=js
  ·
   subst hjs
   rw [hos] at ho;cases ho
   have hw:Region.wanted os (yielded ops.toArray a.tmps)=true:=by simp [Region.wanted,hgs]
   rw [if_pos hw]
   refine .inl ?_
   have hlja:=hft _ (hready ja hea)
   obtain ⟨b,b1,b2⟩:=hb hlja
   have hblk:Blk g K ρ H w b ty z.cells:=by
    rcases b2 with ⟨_,h⟩|⟨h,_⟩
    ·exact h
    ·rw [hun] at h;cases h
   obtain ⟨u,u1,u2⟩:=hm.early hB hox hdx (hft _ (hready jx hex)) hv
   obtain ⟨s1,s2,s3,ru,hru,hcells⟩:=zhL hr (hzr K w ρ) u2 (row_one hm.fs) (zir hm.fs (hzr K w ρ) hn)
   have hko:tb.k ty≠.oth:=by intro e;simp [Tab.known,e] at hk
   have hs:=run_sizeOf htb hko w
   have hst:=run_storeCells_at P b 0 ty u.cells.toList 0 z.cells w hblk.heap (by simp;omega) s2
   have ha1:a.eval (.tmp ta)=.pointer (some ⟨b,0,none⟩):=by simp [Act.eval,Array.getD_eq_getD_getElem?,b1]
   have ha2:a.eval (.tmp tx)=u:=by simp [Act.eval,Array.getD_eq_getD_getElem?,u1]
   have hrun:(execOp a.eval os).run P w=.ok .skip (w.setRow b ru.cells):=by
    simp only [Nat.add_zero,Array.length_toList,s1] at hst
    rw [←hcells,Array.toArray_toList] at hst
    simp [execOp,hops,ha1,ha2,Instr.storeAt,Instr.sureAddr,storeVar,hs,s1,hst]
   unfold Oper.wp
   rw [hrun]
   simp only [Oper.upon]
   obtain ⟨f1,f2,f3⟩:=hblk.set (arr':=ru.cells) hm.fs
   have hbeq:Nat.beq j j=true:=Nat.beq_refl j
   have hbne:Nat.beq j ja=false:=by cases h:Nat.beq j ja;rfl;exact absurd (Nat.eq_of_beq_eq_true h) hja
   have hop:(qo ja j t' n os j).op=.move (.tmp n):=by unfold qo;rw [hbne,hbeq]
   have hds':(qo ja j t' n os j).dst=some t':=by unfold qo;rw [hbne,hbeq]
   have hgs':(qo ja j t' n os j).guard=none:=by rw [zb0];exact hgs
   have hd':a.put os.dst undef=a:=by rw [hds];rfl
   rw [hd']
   refine ih _ _ _ K ρ hcount (hm.nop ho' hrj (fun u=>zhq a ho' hrj hop hgs' henv f1 u) hds' ht' hun hready' f1 f3) ?_
   intro _
   exact ⟨b,b1,.inr ⟨qm hjl,ru,hru.later f3,f2⟩⟩
  ·
   have hpure:qo ja js t' n o j=o:=zh4 hja hjs
   rw [hpure] at ho' hready'
   have hej:s.e[j]?=some (s.e[j]'(by rw [s.lene,hlen];exact hjlt)):=List.getElem?_eq_getElem _
   generalize s.e[j]'(by rw [s.lene,hlen];exact hjlt)=ej at hej
   obtain ⟨t,hd,ht,hor⟩:=s.ok j o rj ej ho' hrj hej
   have hreads:=hm.mid.reads hB ho' hej hun hready' hm.hl hm.he
   have htta:t≠ta:=by
    rintro rfl
    have hoa':ops'[ja]?=some (qo ja js t' n oa ja):=by rw [hget,hoa];rfl
    have hda':(qo ja js t' n oa ja).dst=some t:=by rw [zbu hne];exact hda
    exact (Qc hB hoa').2.1 j o t ho' hd hja hda'
   have hkeep:∀ v b,a.tmps[ta]?=some (.pointer (some ⟨b,0,none⟩))→(a.put (some t) v).tmps[ta]?=some (.pointer (some ⟨b,0,none⟩)):=by
    intro v b h
    simp only [Act.put];rw [Array.getElem?_setIfInBounds_ne htta];exact h
   have hwanted:∀ b,guardE ops' ej o=some b→Region.wanted o (yielded ops.toArray a.tmps)=b:=by
    intro b hgb
    unfold guardE ZE at hgb
    cases hg:o.guard with
    | none=>simp [hg] at hgb;subst hgb;simp [Region.wanted,hg]
    | some x =>
     obtain ⟨jj,want⟩:=x
     have hjj':=hng j o jj want ho hg
     simp only [hg] at hgb
     cases hjj:ops[jj]? with
     | none=>rw [hget,hjj] at hgb;simp at hgb
     | some o' =>
      have hS:ops'[jj]?=some (qo ja js t' n o' jj):=by rw [hget,hjj];rfl
      have hSd:(qo ja js t' n o' jj).dst=o'.dst:=zbu hjj'
      simp only [hS] at hgb
      cases hd':o'.dst with
      | none=>rw [hSd,hd'] at hgb;simp at hgb
      | some t2 =>
       rw [hSd,hd'] at hgb
       simp only at hgb
       have hmem:t2∈readsOf ops' o:=by simp [readsOf,ZE,hg,hS,hSd,hd']
       split at hgb
       ·rename_i bb hbb
        simp only [Option.some.injEq] at hgb;subst hgb
        obtain ⟨v,v1,v2⟩:=hreads t2 hmem _ hbb
        cases v2 with
        | pv _ _ hp=>cases hp;simp only [Region.wanted,hg,yielded,List.getElem?_toArray,hjj,Option.bind_some,hd',v1];cases bb <;> cases want <;> rfl
       ·rename_i vs hbb
        simp only [Option.some.injEq] at hgb;subst hgb
        obtain ⟨v,v1,v2⟩:=hreads t2 hmem _ hbb
        cases v2 with
        | pv _ _ hp=>cases hp;simp only [Region.wanted,hg,yielded,List.getElem?_toArray,hjj,Option.bind_some,hd',v1];cases want <;> rfl
       ·cases hgb
   rcases hor with ⟨hgt,hqs⟩|⟨hgf,rfl⟩
   ·rw [hwanted true hgt,if_pos rfl]
    refine .inl ?_
    unfold Oper.wp
    have hqr:=hqs.go K ρ a w hm.fs (fun x hx av hxv=>by
     cases x with
     | tmp t' =>
      obtain ⟨v,v1,v2⟩:=hreads t' (by
       unfold readsOf
       exact List.mem_append_left _ (QW (Array.mem_toList_iff.2 hx))) av hxv
      simpa [Act.eval,Array.getD_eq_getD_getElem?,v1] using v2
     | const v =>
      simp only [Env.val] at hxv
      split at hxv
      ·rename_i h1;simp only [Option.some.injEq] at hxv;subst hxv;exact .pv _ _ (.base v h1)
      ·cases hxv
     | func f =>
      simp only [Env.val,Option.some.injEq] at hxv;subst hxv
      exact .pv _ _ (.fn (.func f) [] [] [] [] rfl rfl (by simp) (by simp))
     | global gg =>
      simp only [Env.val,Option.some.injEq] at hxv;subst hxv
      exact .pv _ _ (.base _ rfl))
    generalize (execOp a.eval o).run P w=res at hqr
    cases res with
    | halt x w'=>simp only [zdH] at hqr
    | ok nx w' =>
     cases nx <;> simp only [zdH] at hqr <;> simp only [Oper.upon]
     case value v =>
      obtain ⟨K',hev,hv'⟩:=hqr
      rw [hd]
      exact ih _ _ _ K' ρ hcount (hm.next hB ho' hrj hd ht hun hready' (hm.fs.evo hev) (hev.later hm.fs.lt) hv') (hBI_set j rfl hjs _ _ _ (hkeep v) hev hja)
     case enter f args =>
      obtain ⟨rfl,hc'⟩:=hqr
      refine hc'.mono fun e w'' ⟨v,K',he',hev,hv'⟩=>?_
      subst he'
      rw [hd]
      exact ih _ _ _ K' ρ hcount (hm.next hB ho' hrj hd ht hun hready' (hm.fs.evo hev) (hev.later hm.fs.lt) hv') (hBI_set j rfl hjs _ _ _ (hkeep v) hev hja)
   ·rw [hwanted false hgf,if_neg (by simp)]
    rw [hd]
    exact ih _ _ _ K ρ hcount (hm.next hB ho' hrj hd ht hun hready' hm.fs (Later.refl _ _) Vu) (hBI_set j rfl hjs _ _ _ (hkeep undef) (.refl hm.fs.lt) hja)
def zpe (js:Nat) (ops:List Oper):Bool:=ops.all fun o=>match o.guard with|some (jj,_)=>!Nat.beq jj js|none=>true
theorem zN {QQ:QC} {id:Nat} (i ja js t':Nat) {ta tx:Nat} (jx:Nat) {oa os ox:Oper} {ty:TypeId} {z:Value} {za:AV} (htb:qc P tb) (hm:P.follows .mixedOrders=true) (hB:Yf (Zj ja js t' n ops 0) (Zj ja js t' n ops 0)=true)
  (hoa:ops[ja]?=some oa) (hopa:oa.op=.alloc ty) (hda:oa.dst=some ta) (hta:Nat.blt ta n=true) (hga:oa.guard=none)
  (hos:ops[js]?=some os) (hops:os.op=.store ty (.tmp ta) (.tmp tx)) (hds:os.dst=none) (hgs:os.guard=none) (ht':Nat.blt t' n=true)
  (hne:Nat.beq ja js=false) (hea:yx os ja=true) (hex:yx os jx=true) (hox:(Zj ja js t' n ops 0)[jx]?=some ox) (hdx:ox.dst=some tx)
  (hng:zpe js ops=true) (hz:tb.zero ty=some z) (hza:zbg z=some za) (hk:tb.known ty=true) (henv:env.get n=none) (hn:zda H za=true) (hi:H.get i=none)
  (h:AD P n g H (Zj ja js t' n ops 0) (fun env'=>∃ v r,env'.get tx=some v∧zcZ tb H ty za 0 v=some r∧QQ .normal ((ta,.box i 0)::env') ((i,.cell r)::H)) (Zj ja js t' n ops 0) env) (hnd:Zd ops=true:=by kernel_rfl):AW P n g (.region id ops.toArray true) env H QQ:=by
 obtain ⟨s⟩:=zco h
 obtain ⟨v,r,hv,hr,hQ⟩:=s.fin
 have hlen:(Zj ja js t' n ops 0).length=ops.length:=Xr ..
 refine ⟨fun a w hinv rr dd=>?_⟩
 refine wpIn_mono (zbH (R:=fun a' w'=>∃ env' H',Inv n g env' H' a' w'∧QQ .normal env' H') hnd hm ?_) (fun e a' w' h=>by obtain ⟨rfl,h⟩:=h;exact h)
 obtain ⟨h1,h2,K,ρ,hf,he⟩:=hinv
 have hev:Evo K K w { w with drawn:=w.drawn + 1 }:=(Evo.refl hf.lt).drew
 refine zn5 (za:=za) (v:=v) (r:=r) (ja:=ja) (js:=js) (t':=t') (jx:=jx) htb rfl hB s hoa hopa hda (Nat.le_of_ble_eq_true hta) hga hos hops hds hgs (Nat.le_of_ble_eq_true ht') (Nat.ne_of_beq_eq_false hne) hea hex hox hdx ?_ hz hza hk henv hv hr hn ?_ _ _ a _ K ρ ?_ ⟨h1,h2,by simp [hlen],?_,hf.evo hev,?_,?_⟩ ?_
 ·intro j o jj want ho hg
  have:=List.all_eq_true.1 hng o (List.mem_of_getElem? ho)
  simp only [hg,Bool.not_eq_true'] at this
  exact Nat.ne_of_beq_eq_false this
 ·intro a' w' K' ρ' b ru q1 q2 q3 q4 q5 q6 q7
  have hown:=q7.own q3 hi q6 rfl
  refine ⟨rfl,_,_,⟨q1,q2,K',fun j=>if j=i then .pointer (some ⟨b,0,none⟩) else ρ' j,hown,?_⟩,hQ⟩
  have he':=q4.keeps (Later.refl K' w') (Zb (ρ:=ρ') hi (.cell r) (.pointer (some ⟨b,0,none⟩)))
  intro t av hg
  simp only [Env.get_cons] at hg
  split at hg
  ·rename_i e;subst e
   simp only [Option.some.injEq] at hg;subst hg
   exact ⟨_,q5,.box i 0 b (by simp [HEnv.get_cons]) (by simp)⟩
  ·exact he' t av hg
 ·simp
 ·intro i o ho hli
  have hlt:=(List.getElem?_eq_some_iff.1 ho).1
  have:i < ops.length:=by omega
  simp [Array.getD_eq_getD_getElem?,this] at hli
 ·intro i o ri t ho hli
  have hlt:=(List.getElem?_eq_some_iff.1 ho).1
  have:i < ops.length:=by omega
  simp [Array.getD_eq_getD_getElem?,this] at hli
 ·intro t av hav _
  obtain ⟨v,v1,v2⟩:=he t av hav
  exact ⟨v,v1,v2.later (hev.later hf.lt)⟩
 ·intro hl
  have hjal:ja < ops.length:=(List.getElem?_eq_some_iff.1 hoa).1
  simp [Array.getD_eq_getD_getElem?,hjal] at hl
end
def ze9 (k j:Nat) (o:Oper):Oper:=if k≤j then { o with after:=o.after++((List.range j).map fun i=>(⟨i,.phase⟩:Edge)).toArray } else o
def zL (k:Nat):List Oper→Nat→List Oper
 | [],_=>[]
 | o::r,j=>ze9 k j o::zL k r (j + 1)
theorem VN (k:Nat):∀ (ops:List Oper) (m j:Nat),(zL k ops m)[j]?=(ops[j]?).map (ze9 k (m + j))
 | [],m,j=>by simp [zL]
 | o::ops,m,j=>by
  cases j with
  | zero=>simp [zL]
  | succ j=>simp [zL,VN k ops (m + 1) j,Nat.add_assoc,Nat.add_comm 1 j]
theorem XV (k:Nat):∀ (ops:List Oper) (m:Nat),(zL k ops m).length=ops.length
 | [],_=>rfl
 | o::ops,m=>by simp [zL,XV k ops (m + 1)]
theorem zhv {k j:Nat} {o:Oper} {i:Nat}:yx (ze9 k j o) i=(yx o i||(decide (k≤j)&&decide (i < j))):=by
 unfold ze9
 by_cases h:k≤j
 ·rw [if_pos h,Bool.eq_iff_iff]
  simp only [yx,Array.toList_append,List.any_append,Bool.or_eq_true,h,decide_true,Bool.true_and,decide_eq_true_eq]
  refine or_congr_right ?_
  simp only [List.any_eq_true,List.mem_map,List.mem_range,Bool.and_eq_true,beq_iff_eq]
  constructor
  ·rintro ⟨_,⟨m,hm,rfl⟩,_,h2⟩;simp only at h2;omega
  ·intro hi;exact ⟨_,⟨i,hi,rfl⟩,rfl,rfl⟩
 ·rw [if_neg h];simp [h]
def implied (ops:List Oper):Nat→Nat→Nat→Bool
 | 0,_,_=>false
 | n + 1,j,i=>match ops[j]? with
  | none=>false
  | some o=>yx o i||o.after.toList.any fun e=>Region.binds .any e&&implied ops n e.on i
def Xm (ops:List Oper) (k:Nat):Bool:=(List.range ops.length).all fun j=>Nat.blt j k||(List.range j).all fun i=>implied ops ops.length j i
def zqa (ops:List Oper) (listed:Array Bool):Prop:=∀ j o,ops[j]?=some o→listed.getD j false=true→∀ i,yx o i=true→listed.getD i false=true
theorem zbP {ops:List Oper} {listed:Array Bool} (hc:zqa ops listed):∀ (n j i:Nat) (o:Oper),ops[j]?=some o→(∀ m,yx o m=true→listed.getD m false=true)→implied ops n j i=true→listed.getD i false=true
 | 0,_,_,_,_,_,h=>by simp [implied] at h
 | n + 1,j,i,o,ho,hall,h=>by
  simp only [implied,ho,Bool.or_eq_true] at h
  rcases h with h|h
  ·exact hall i h
  ·obtain ⟨e,he,hb⟩:=List.any_eq_true.1 h
   rw [Bool.and_eq_true] at hb
   have hm:listed.getD e.on false=true:=hall e.on (List.any_eq_true.2 ⟨e,he,by simp [hb.1]⟩)
   cases hoe:ops[e.on]? with
   | none =>
    cases n with
    | zero=>simp [implied] at hb
    | succ n=>simp [implied,hoe] at hb
   | some o2=>exact zbP hc n e.on i o2 hoe (hc e.on o2 hoe hm) hb.2
section
variable {P:Program} {R:Exit→Act→World→Prop} {ops:List Oper} {k:Nat}
theorem zc0 (hok:Xm ops k=true) {listed:Array Bool} (hc:zqa ops listed) (j:Nat):j∈Region.ready .any (zL k ops 0).toArray listed↔j∈Region.ready .any ops.toArray listed:=by
 rw [yY,yY]
 constructor
 ·rintro ⟨o',ho',h1,h2⟩
  rw [VN] at ho'
  cases ho:ops[j]? with
  | none=>simp [ho] at ho'
  | some o =>
   simp [ho] at ho';subst ho'
   exact ⟨o,rfl,h1,fun i hi=>h2 i (by rw [zhv,hi];rfl)⟩
 ·rintro ⟨o,ho,h1,h2⟩
  refine ⟨ze9 k j o,by rw [VN,ho];simp,h1,fun i hi=>?_⟩
  rw [zhv,Bool.or_eq_true,Bool.and_eq_true,decide_eq_true_eq,decide_eq_true_eq] at hi
  rcases hi with hi|⟨hk,hij⟩
  ·exact h2 i hi
  ·have hlt:=(List.getElem?_eq_some_iff.1 ho).1
   have:=List.all_eq_true.1 hok j (by simpa using hlt)
   rw [Bool.or_eq_true] at this
   rcases this with h|h
   ·have:=Nat.le_of_ble_eq_true h;omega
   ·exact zbP hc _ j i o ho h2 (List.all_eq_true.1 h i (by simpa using hij))
theorem ziZ (tmps:Array Value):yielded (zL k ops 0).toArray tmps=yielded ops.toArray tmps:=by
 funext j
 unfold yielded
 simp only [List.getElem?_toArray,VN,Nat.zero_add]
 cases ops[j]? with
 | none=>rfl
 | some o =>
  by_cases hkj:k≤j
  ·simp [ze9,hkj]
  ·simp [ze9,hkj]
theorem zoq {j:Nat} {K:Act→World→Prop} {a:Act} {w:World} (h:wpOp P (zL k ops 0).toArray R j K a w):wpOp P ops.toArray R j K a w:=by
 unfold wpOp at h ⊢
 rw [ziZ] at h
 simp only [List.getElem?_toArray,VN,Nat.zero_add] at h ⊢
 cases ho:ops[j]? with
 | none=>simpa [ho] using h
 | some o =>
  simp only [ho,Option.map_some] at h ⊢
  unfold ze9 at h
  split at h <;> exact h
theorem zo5 {listed:Array Bool} (hs:listed.size=ops.length) (hc:zqa ops listed) {j:Nat} (hj:j∈Region.ready .any ops.toArray listed):zqa ops (listed.setIfInBounds j true):=by
 obtain ⟨o,ho,h1,h2⟩:=yY.1 hj
 have hlt:=(List.getElem?_eq_some_iff.1 ho).1
 have up:∀ i,listed.getD i false=true→(listed.setIfInBounds j true).getD i false=true:=by
  intro i hi
  by_cases e:i=j
  ·subst e;simp [Array.getD_eq_getD_getElem?,hs,hlt]
  ·rw [zY e];exact hi
 intro m om hom hlm i hi
 by_cases e:m=j
 ·subst e
  rw [ho] at hom;cases hom
  exact up i (h2 i hi)
 ·rw [zY e] at hlm
  exact up i (hc m om hom hlm i hi)
theorem zbm (hok:Xm ops k=true):∀ (fuel:Nat) (listed:Array Bool) (a:Act) (w:World),listed.size=ops.length→zqa ops listed→wpAny P .any (zL k ops 0).toArray R fuel listed a w→wpAny P .any ops.toArray R fuel listed a w
 | 0,listed,a,w,hs,hc,h=>by
  refine ⟨?_,h.2⟩
  rw [List.eq_nil_iff_forall_not_mem]
  intro j hj
  have:=(zc0 hok hc j).2 hj
  rw [h.1] at this;cases this
 | fuel + 1,listed,a,w,hs,hc,h=>by
  refine ⟨fun hn=>h.1 ?_,fun j hj=>?_⟩
  ·rw [List.eq_nil_iff_forall_not_mem]
   intro j hj
   have:=(zc0 hok hc j).1 hj
   rw [hn] at this;cases this
  ·have h1:=h.2 j ((zc0 hok hc j).2 hj)
   exact zoq (wpOp_mono (fun a w hh=>zbm hok fuel _ a w (by simp [hs]) (zo5 hs hc hj) hh) h1)
end
section
variable {P:Program} {n:Nat} {g:Base} {H:HEnv} {env:Env} {ops:List Oper}
theorem zh0 {QQ:QC} {id:Nat} (k:Nat) (hok:Xm ops k=true) (hm:P.follows .mixedOrders=true) (hB:Yf (zL k ops 0) ((zL k ops 0).take k)=true) (hT:Xv (zL k ops 0) k=true) (hk:k≤(zL k ops 0).length)
  (h:AD P n g H (zL k ops 0) (fun env'=>AO P n g (zL k ops 0).toArray ((zL k ops 0).drop k) env' H (fun env' H'=>QQ .normal env' H')) ((zL k ops 0).take k) env) (hnd:Zd ops=true:=by kernel_rfl):AW P n g (.region id ops.toArray true) env H QQ:=by
 obtain ⟨s⟩:=zco h
 refine ⟨fun a w hi rr dd=>?_⟩
 refine wpIn_mono (zbH (R:=fun a' w'=>∃ env' H',Inv n g env' H' a' w'∧QQ .normal env' H') hnd hm ?_) (fun e a' w' h=>by obtain ⟨rfl,h⟩:=h;exact h)
 have hlen:=XV k ops 0
 refine zbm hok _ _ _ _ (by simp) ?_ ?_
 ·intro j o ho hl
  have hlt:=(List.getElem?_eq_some_iff.1 ho).1
  simp [Array.getD_eq_getD_getElem?,hlt] at hl
 obtain ⟨h1,h2,K,ρ,hf,he⟩:=hi
 have hev:Evo K K w { w with drawn:=w.drawn + 1 }:=(Evo.refl hf.lt).drew
 have hlk:((zL k ops 0).take k).length=k:=by simp;omega
 have hsz:ops.toArray.size=(zL k ops 0).length:=by simp [hlen]
 rw [hsz]
 generalize zL k ops 0=ops' at *
 refine WE (l:=ops'.take k) (by rw [hlk]) s hB (by rw [hlk];exact hT) (fun env' a' w' h hi'=>?_) _ _ _ _ (by simp) ⟨h1,h2,by simp,by rw [hlk];exact hk,?_,?_,K,ρ,hf.evo hev,?_,?_⟩
 ·rw [hlk]
  exact ZM (fun e a' w' ⟨env',H',h1,h2,h3⟩=>⟨h2,env',H',h1,h3⟩) (h.go a' w' hi')
 ·intro j _ hj
  simp [Array.getD_eq_getD_getElem?,hj]
 ·intro i o ho hli
  have hlt:=(List.getElem?_eq_some_iff.1 ho).1
  have:i < ops'.length:=by simp at hlt;omega
  simp [Array.getD_eq_getD_getElem?,this] at hli
 ·intro i o ri t ho hli
  have hlt:=(List.getElem?_eq_some_iff.1 ho).1
  have:i < ops'.length:=by simp at hlt;omega
  simp [Array.getD_eq_getD_getElem?,this] at hli
 ·intro t av hav _
  obtain ⟨v,v1,v2⟩:=he t av hav
  exact ⟨v,v1,v2.later (hev.later hf.lt)⟩
theorem zV {QQ:QC} {id:Nat} (L k:Nat) (_:ops.length=L) (hok:Xm ops k=true) (hm:P.follows .mixedOrders=true) (hB:Yf (zL k ops 0) ((zL k ops 0).take k)=true) (hT:Xv (zL k ops 0) k=true) (hk:Nat.ble k (zL k ops 0).length=true)
  (h:AD P n g H (zL k ops 0) (fun env'=>AO P n g (zL k ops 0).toArray ((zL k ops 0).drop k) env' H (fun env' H'=>QQ .normal env' H')) ((zL k ops 0).take k) env) (hnd:Zd ops=true:=by kernel_rfl):AW P n g (.region id ops.toArray true) env H QQ :=
 zh0 k hok hm hB hT (Nat.le_of_ble_eq_true hk) h hnd
end
section
variable {P:Program} {n:Nat} {g:Base} {K:KK} {w:World} {ρ:Nat→Value} {H:HEnv} {env:Env} {a:Act} {ops l:List Oper} {Q:Env→Prop}
end
section
variable {P:Program} {n:Nat} {g:Base} {K:KK} {w:World} {ρ:Nat→Value} {H:HEnv} {env:Env} {a:Act} {ops l:List Oper} {Q:Env→Prop}
end
section
variable {P:Program} {tb:Tab} {n:Nat} {g:Base} {K K':KK} {w w':World} {ρ ρ':Nat→Value} {H H':HEnv} {env:Env} {a:Act} {ops:List Oper} {o:Oper} {rest:List Oper} {Q:Env→HEnv→Prop} {f:FuncId} {args:List AV} {r:AV}
theorem zet {ars:List AV} {vs:List Value} (Hc Hc' R:HEnv) {lone:Bool} (ps:List Nat) (hw1:lone=true→g.w1.heap.size=0) (hsub:HSub H (Hc++R))
  (hchk:QL Hc Hc' R ps ars [] r=true) (hc:∀ us,ACallM P f ars (Hc++qx us ps) r (Hc'++qx us ps) lone) (hf:FS g K ρ H w) (hall0:Yx K w ρ H ars vs) :
  Calls P f vs.toArray w fun e w'=>∃ v K' ρ2,e=.returned v∧FS g K' ρ2 (Hc'++R) w'∧ARel K' w' ρ2 (Hc'++R) r v∧Later K K' w w'∧(∀ j,(HEnv.get (R++Wx ps) j).isSome=true→(HEnv.get (Hc'++R) j).isSome=true∧ρ2 j=ρ j):=by
 simp only [QL,Bool.and_eq_true] at hchk
 obtain ⟨⟨⟨⟨⟨⟨⟨⟨⟨⟨d1,d2⟩,d3⟩,d4⟩,i1⟩,i2⟩,i3⟩,i4⟩,i5⟩,i6⟩,i7⟩:=hchk
 have i7':∀ i∈ps,(Hc.get i).isSome=true∧(Hc'.get i).isSome=true:=fun i hi=>by simpa using List.all_eq_true.1 i7 i hi
 have hlatR:Later K K w w:=.refl K w
 have gC:∀ i x,Hc.get i=some x→H.get i=some x:=fun i x hx=>hsub i x (by rw [get_append,hx])
 have gR:∀ i x,R.get i=some x→H.get i=some x:=fun i x hx=>hsub i x (by
  rw [get_append]
  cases hh:Hc.get i with
  | none=>exact hx
  | some y=>rw [Yg d1 i y hh] at hx;cases hx)
 have nC:∀ i x,R.get i=some x→Hc.get i=none:=fun i x hx=>by
  cases hh:Hc.get i with
  | none=>rfl
  | some y=>rw [Yg d1 i y hh] at hx;cases hx
 have nC':∀ i x,R.get i=some x→Hc'.get i=none:=fun i x hx=>by
  cases hh:Hc'.get i with
  | none=>rfl
  | some y=>rw [Yg d2 i y hh] at hx;cases hx
 have hpinC:∀ {A:HEnv} {us:Nat→Value} {i:Nat} {x:HE},HEnv.get (A++qx us ps) i=some x→x.live=true→A.get i=some x:=by
  intro A us i x hx hl
  rw [get_append] at hx
  cases hh:A.get i with
  | some z=>rw [hh] at hx;exact hx
  | none =>
   rw [hh] at hx
   obtain ⟨_,_,rfl⟩:=QD hx
   simp [HE.live] at hl
 obtain ⟨g',hg'⟩:∃ g':Base,g'=⟨g.w0,K,g.w1,g.ds,w,fun b=>g.pr b∨∃ i x,R.get i=some x∧x.live=true∧zX (ρ i)=some b⟩:=⟨_,rfl⟩
 have hfs:FS g' K ρ (Hc++qx ρ ps) w:=by
  subst hg'
  refine ⟨hf.below,fun _ _ h=>h,fun _ _ h=>.inl h,hf.lt,hf.others,⟨?_,fun _ _ _=>rfl⟩,?_,?_,?_⟩
  ·rintro b (hb|⟨i,x,hi,hl,hb⟩)
   ·exact ⟨(hf.pt.same b hb).1,rfl,fun _=>Iff.rfl⟩
   ·exact ⟨((hf.heap.ok i x (gR i x hi)).block_lt hl hb).2,rfl,fun _=>Iff.rfl⟩
  ·intro i x b hi hl hb
   have hC:=hpinC hi hl
   rintro (hp|⟨j,y,hj,hly,hbj⟩)
   ·exact hf.away i x b (gC i x hC) hl hb hp
   ·have hne:i≠j:=by rintro rfl;rw [nC i y hj] at hC;cases hC
    exact hf.heap.apart i j x y b hne (gC i x hC) (gR j y hj) hl hly hb hbj
  ·intro i x hi
   rw [get_append] at hi
   cases hh:Hc.get i with
   | some y =>
    rw [hh] at hi;simp only [Option.some.injEq] at hi;subst hi
    have hok:=hf.heap.ok i y (gC i y hh)
    have hk:∀ j,(HEnv.get Hc j).isSome=true→(HEnv.get (Hc++qx ρ ps) j).isSome=true∧ρ j=ρ j:=fun j hj=>⟨yE j hj,rfl⟩
    cases y with
    | cell v=>obtain ⟨b,t,arr,u,q1,q2,q3,q4,q5,q6⟩:=hok;exact ⟨b,t,arr,u,q1,q2,q3,(q4.refs (Yz i2 i v hh)).keeps hlatR hk,q5,q6⟩
    | pin v u=>exact (ARel.refs hok (ZG i2 i v u hh)).keeps hlatR hk
    | row t sz es=>exact hok
    | mrow t sz es=>exact hok
    | dead=>exact hok
    | obj X=>exact hok
   | none =>
    rw [hh] at hi
    obtain ⟨q1,q2,rfl⟩:=QD hi
    exact .own _ (yE _ (i7' _ q2).1)
  ·intro i j x y b hij hi hj lx ly bx bj
   exact hf.heap.apart i j x y b hij (gC i x (hpinC hi lx)) (gC j y (hpinC hj ly)) lx ly bx bj
 have hall:Yx K w ρ (Hc++qx ρ ps) ars vs :=
  ⟨hall0.1,fun k c v hc hv=>((hall0.2 k c v hc hv).refs (Zq i1 k c hc)).keeps hlatR fun j hj=>⟨yE j hj,rfl⟩⟩
 refine ((hc ρ).calls g' K ρ w _ (by subst hg';exact hw1) hfs hall).mono fun e w' ⟨v,K',ρ',e1,hf',hv⟩=>?_
 subst e1
 have hlat:Later K K' w w':=by subst hg';exact ⟨hf'.old,hf'.pt.kept⟩
 have hprot:∀ b,(g.pr b∨∃ i x,R.get i=some x∧x.live=true∧zX (ρ i)=some b)→b < w'.heap.size∧w'.heap[b]?=w.heap[b]?∧∀ o,K' b o↔K b o:=by subst hg';exact hf'.pt.same
 have haway:∀ i x b,Hc'.get i=some x→x.live=true→zX (ρ' i)=some b→¬ (g.pr b∨∃ i x,R.get i=some x∧x.live=true∧zX (ρ i)=some b):=by
  subst hg';exact fun i x b hi=>hf'.away i x b (by rw [get_append,hi])
 obtain ⟨ρ2,hρ2⟩:∃ ρ2:Nat→Value,∀ j,ρ2 j=if (Hc'.get j).isSome then ρ' j else ρ j:=⟨_,fun _=>rfl⟩
 have r1:∀ j,(Hc'.get j).isSome=true→ρ2 j=ρ' j:=fun j hj=>by rw [hρ2,if_pos hj]
 have r2:∀ j,Hc'.get j=none→ρ2 j=ρ j:=fun j hj=>by rw [hρ2,hj];rfl
 have hkC:∀ j,(HEnv.get Hc' j).isSome=true→(HEnv.get (Hc'++R) j).isSome=true∧ρ2 j=ρ' j:=fun j hj=>⟨yE j hj,r1 j hj⟩
 have hps:∀ i∈ps,ρ' i=ρ i:=fun i hi=>by
  have hnone:Hc'.get (1000 + i)=none:=by
   cases hh:Hc'.get (1000 + i) with
   | none=>rfl
   | some x=>have:=XM d4 _ x hh;omega
  have:=hf'.heap.ok (1000 + i) _ (by rw [get_append,hnone];exact zbM hi)
  have this:ARel K' w' ρ' (Hc'++qx ρ ps) (.own i) (ρ i):=this
  generalize hu:ρ i=u at this
  cases this with
  | own _ _=>rfl
 have hkR:∀ j,(HEnv.get (R++Wx ps) j).isSome=true→(HEnv.get (Hc'++R) j).isSome=true∧ρ2 j=ρ j:=fun j hj=>by
  rw [get_append] at hj
  cases hh:R.get j with
  | some x =>
   have hn:=nC' j x hh
   exact ⟨by rw [get_append,hn,hh];rfl,r2 j hn⟩
  | none =>
   rw [hh] at hj
   have hm:=zcr hj
   have hs':=(i7' j hm).2
   exact ⟨yE j hs',by rw [r1 j hs',hps j hm]⟩
 have hfs2:FS g K' ρ2 (Hc'++R) w':=by
  have b1:Below g.w0.heap.size g.w0 w':=by subst hg';exact hf'.below
  have b3:∀ b o,K' b o→K b o∨g.w0.heap.size≤b:=by subst hg';exact hf'.new
  have b5:KeepsOthers g.w1 w':=by subst hg';exact hf'.others
  have bB:HRel K' w' g.w0.heap.size ρ' (Hc'++qx ρ ps):=by subst hg';exact hf'.heap
  refine ⟨b1,fun b o h=>hlat.sub b o (hf.old b o h),fun b o hk=>(b3 b o hk).elim (hf.new b o) .inr,hf'.lt,b5,⟨fun b hb=>?_,fun b o h0=>(hlat.cell b o (hf.old b o h0)).trans (hf.pt.kept b o h0)⟩,fun i x b hi hl hb=>?_,fun i x hi=>?_,fun i j x y b hij hi hj lx ly bx bj=>?_⟩
  ·obtain ⟨p1,p2,p3⟩:=hprot b (.inl hb)
   obtain ⟨q1,q2,q3⟩:=hf.pt.same b hb
   exact ⟨p1,p2.trans q2,fun o=>(p3 o).trans (q3 o)⟩
  ·rw [get_append] at hi
   cases hh:Hc'.get i with
   | some y =>
    rw [hh] at hi;simp only [Option.some.injEq] at hi;subst hi
    rw [r1 i (by rw [hh];rfl)] at hb
    exact fun hp=>haway i y b hh hl hb (.inl hp)
   | none =>
    rw [hh] at hi
    rw [r2 i hh] at hb
    exact hf.away i x b (gR i x hi) hl hb
  ·rw [get_append] at hi
   cases hh:Hc'.get i with
   | some y =>
    rw [hh] at hi;simp only [Option.some.injEq] at hi;subst hi
    rw [r1 i (by rw [hh];rfl)]
    have hok:=bB.ok i y (by rw [get_append,hh])
    have hl':=Later.refl K' w'
    cases y with
    | cell v=>obtain ⟨b,t,arr,u,q1,q2,q3,q4,q5,q6⟩:=hok;exact ⟨b,t,arr,u,q1,q2,q3,(q4.refs (Yz i3 i v hh)).keeps hl' hkC,q5,q6⟩
    | pin v u=>exact (ARel.refs hok (ZG i3 i v u hh)).keeps hl' hkC
    | row t sz es=>exact hok
    | mrow t sz es=>exact hok
    | dead=>exact hok
    | obj X=>exact hok
   | none =>
    rw [hh] at hi
    rw [r2 i hh]
    have hok:=hf.heap.ok i x (gR i x hi)
    have hsame:x.live=true→∀ b,zX (ρ i)=some b→w'.heap[b]?=w.heap[b]?∧∀ o,K' b o↔K b o:=fun hl b hb=>(hprot b (.inr ⟨i,x,hi,hl,hb⟩)).2
    cases x with
    | cell v =>
     obtain ⟨b,t,arr,u,q1,q2,q3,q4,q5,q6⟩:=hok
     obtain ⟨s1,s2⟩:=hsame rfl b (by rw [q1];rfl)
     exact ⟨b,t,arr,u,q1,q2,by rw [s1];exact q3,(q4.refs (Yz i5 i v hi)).keeps hlat hkR,q5,fun o hk=>q6 o ((s2 o).1 hk)⟩
    | pin v u=>exact (ARel.refs hok (ZG i5 i v u hi)).keeps hlat hkR
    | row t sz es =>
     obtain ⟨xs,q1,q2,q3,q4⟩:=hok
     refine ⟨xs,ZN q1 fun b hb=>(hsame rfl b hb).1,q2,fun k e he=>?_,fun b hb o=>?_⟩
     ·obtain ⟨c1,c2⟩:=q3 k e he
      exact ⟨c1,fun k c hc=>let ⟨v,h4,h5,h6⟩:=c2 k c hc;⟨v,h4,h5,h6.later hlat⟩⟩
     ·rw [(hsame rfl b ((YK q1 b).2 hb)).2 o];exact q4 b hb o
    | mrow t sz es =>
     obtain ⟨xs,q1,q2,q3,q4⟩:=hok
     refine ⟨xs,ZN q1 fun b hb=>(hsame rfl b hb).1,q2,fun k e he=>?_,fun b hb o hk=>?_⟩
     ·obtain ⟨c1,c2⟩:=q3 k e he
      exact ⟨c1,fun k c hc=>let ⟨v,h4,h5,h6⟩:=c2 k c hc;⟨v,h4,h5,h6.later hlat⟩⟩
     ·exact q4 b hb o (((hsame rfl b ((YK q1 b).2 hb)).2 o).1 hk)
    | dead=>trivial
    | obj X =>
     obtain ⟨b,ob,q1,q2,q3,q4,q5⟩:=hok
     obtain ⟨s1,s2⟩:=hsame rfl b (by rw [q1];rfl)
     exact ⟨b,ob,q1,q2,by rw [s1];exact q3,q4,fun o hk=>q5 o ((s2 o).1 hk)⟩
  ·rw [get_append] at hi hj
   cases hhi:Hc'.get i with
   | some x' =>
    rw [hhi] at hi;simp only [Option.some.injEq] at hi;subst hi
    rw [r1 i (by rw [hhi];rfl)] at bx
    cases hhj:Hc'.get j with
    | some y' =>
     rw [hhj] at hj;simp only [Option.some.injEq] at hj;subst hj
     rw [r1 j (by rw [hhj];rfl)] at bj
     exact bB.apart i j x' y' b hij (by rw [get_append,hhi]) (by rw [get_append,hhj]) lx ly bx bj
    | none =>
     rw [hhj] at hj;rw [r2 j hhj] at bj
     exact haway i x' b hhi lx bx (.inr ⟨j,y,hj,ly,bj⟩)
   | none =>
    rw [hhi] at hi;rw [r2 i hhi] at bx
    cases hhj:Hc'.get j with
    | some y' =>
     rw [hhj] at hj;simp only [Option.some.injEq] at hj;subst hj
     rw [r1 j (by rw [hhj];rfl)] at bj
     exact haway j y' b hhj ly bj (.inr ⟨i,x,hi,lx,bx⟩)
    | none =>
     rw [hhj] at hj;rw [r2 j hhj] at bj
     exact hf.heap.apart i j x y b hij (gR i x hi) (gR j y hj) lx ly bx bj
 exact ⟨v,K',ρ2,rfl,hfs2,(hv.refs i4).keeps (Later.refl K' w') hkC,hlat,hkR⟩
def Vj (X:HEnv):Env→Env
 | []=>[]
 | (t,v)::e=>(t,if ZC X v then v else .any)::Vj X e
theorem zae (X:HEnv):∀ (e:Env) (t:Nat),(Vj X e).get t=(e.get t).map fun v=>if ZC X v then v else .any
 | [],t=>rfl
 | (t',v)::e,t=>by
  rw [Vj,Env.get_cons,Env.get_cons]
  split
  ·rfl
  ·exact zae X e t
theorem zp8 {xs:Array Operand} {ts:Array TypeId} {d:Tmp} {ars:List AV} (Hc Hc' R:HEnv) {lone:Bool} (ps:List Nat) (hw1:lone=true→g.w1.heap.size=0) (hg:guardE ops env o=some true)
  (hop:o.op=.call { callee:=.value (.func f),args:=xs,argTypes:=ts }) (hargs:avs env xs.toList=some ars) (hsub:HSub H (Hc++R)) (hd:o.dst=some d) (hdt:Nat.blt d n=true)
  (hchk:QL Hc Hc' R ps ars [] r=true) (hc:∀ us,ACallM P f ars (Hc++qx us ps) r (Hc'++qx us ps) lone)
  (h:AO P n g ops.toArray rest ((d,r)::Vj (R++Wx ps) env) (Hc'++R) Q):AO P n g ops.toArray (o::rest) env H Q:=by
 refine ⟨fun a w hinv=>?_⟩
 have hw:=qh hinv hg
 obtain ⟨h1,h2,K,ρ,hf,he⟩:=hinv
 refine wpList_step fun KK hKK=>?_
 rw [if_pos hw]
 have hrun:(execOp a.eval o).run P w=.ok (.enter f (xs.toList.map a.eval).toArray) w:=by
  have e:(xs.toList.map a.eval).toArray=xs.map a.eval:=by rw [←Array.toList_map,Array.toArray_toList]
  rw [e]
  simp [execOp,hop,resolve,Act.eval,Deferred.ofValue,invoke,Zi (hc ρ).stands]
 unfold Oper.wp
 rw [hrun]
 simp only [Oper.upon]
 refine (zet Hc Hc' R ps hw1 hsub hchk hc hf (zat (a:=a) he hargs)).mono fun e w' ⟨v,K',ρ2,e1,hf',hv,hlat,hps⟩=>?_
 subst e1
 refine hKK _ _ (h.go _ _ ⟨qU h1,put_defers h2,K',ρ2,hf',?_⟩)
 rw [hd]
 refine ZB h1 hdt (fun t av ht=>?_) hv
 rw [zae] at ht
 cases hE:env.get t with
 | none=>simp [hE] at ht
 | some v0 =>
  obtain ⟨u,u1,u2⟩:=he t v0 hE
  simp only [hE,Option.map_some,Option.some.injEq] at ht
  subst ht
  refine ⟨u,u1,?_⟩
  split
  ·rename_i hr;exact (u2.refs hr).keeps hlat hps
  ·exact .any u
def zfL (i:Nat):HEnv→HEnv
 | []=>[]
 | x::H=>if Nat.beq x.1 i then zfL i H else x::zfL i H
theorem zeY (i:Nat):∀ (H:HEnv) (j:Nat),j≠i→(zfL i H).get j=H.get j
 | [],j,_=>rfl
 | (m,x)::H,j,hj=>by
  rw [zfL]
  split
  ·rename_i e
   have e':=Nat.eq_of_beq_eq_true e
   simp only at e'
   subst e'
   rw [zeY m H j hj,HEnv.get_cons,if_neg (fun h=>hj h.symm)]
  ·rw [HEnv.get_cons,HEnv.get_cons,zeY i H j hj]
theorem zo {xs:Array Operand} {ts:Array TypeId} {d:Tmp} {ars:List AV} (i:Nat) {x x':HE} {lone:Bool} (hw1:lone=true→g.w1.heap.size=0) (hg:guardE ops env o=some true)
  (hop:o.op=.call { callee:=.value (.func f),args:=xs,argTypes:=ts }) (hc:∀ us,ACallM P f ars ([(i,x)]++qx us [i]) r ([(i,x')]++qx us [i]) lone) (hargs:avs env xs.toList=some ars) (h0:H.get i=some x) (hd:o.dst=some d) (hdt:Nat.blt d n=true)
  (hchk:QL [(i,x)] [(i,x')] (zfL i H) [i] ars [] r=true)
  (h:AO P n g ops.toArray rest ((d,r)::Vj (zfL i H++Wx [i]) env) ((i,x')::zfL i H) Q):AO P n g ops.toArray (o::rest) env H Q :=
 zp8 [(i,x)] [(i,x')] (zfL i H) [i] hw1 hg hop hargs (fun j y hj=>by
  rw [get_append,HEnv.get_cons,HEnv.get_nil] at hj
  by_cases e:i=j
  ·subst e;rw [if_pos rfl] at hj;simp only [Option.some.injEq] at hj;subst hj;exact h0
  ·rw [if_neg e] at hj;rw [←zeY i H j (fun h=>e h.symm)];exact hj) hd hdt hchk hc h
theorem zl {QQ:QC} {id:Nat} (id' k:Nat) {l1 l2:List Oper} (_:id=id') (h1:ops.take k=l1) (h2:ops.drop k=l2) (h:AO P n g ops.toArray l1 env H (fun env' H'=>AOX P n g ops.toArray l2 env' H' QQ)) (hnd:Zd ops=true:=by kernel_rfl) :
  AW P n g (.region id ops.toArray false) env H QQ:=zma (zsc k h1 h2 h) hnd
theorem ziA {t:TypeId} {x:Operand} {k k0:IntKind} {m:Int} (hop:o.op=.makeInterface t x) (hu:P.underlying t=some (.int k0)) (hx:env.pv H x=some (.base (.int k m))):QStep P g H o env (.pv (.base (.iface t (.int k m)))):=by
 refine ⟨fun K ρ a w hf hv=>?_⟩
 have hxr:=qw hf (hv x (by rw [hop];simp [Op.operands])) hx
 generalize hxv:a.eval x=xv at hxr
 cases hxr
 have hrun:(execOp a.eval o).run P w=.ok (.value (.iface t (.int k m))) w:=by
  simp [execOp,hop,hxv,Instr.makeInterface,run_underlying hu]
 rw [hrun]
 exact ZT hf (.pv _ _ (.base _ rfl))
structure EStep (P:Program) (g:Base) (H0 H1 Ht:HEnv) (o:Oper) (e:Env) (r:AV) (pan:Option Value):Prop where
 go:∀ (K:KK) (ρ:Nat→Value) (a:Act) (w:World),FS g K ρ H0 w→(∀ x∈o.op.operands,∀ av,e.val x=some av→ARel K w ρ Ht av (a.eval x)) →
  ∃ f vs,(execOp a.eval o).run P w=.ok (.enter f vs) w∧Calls P f vs w fun ex w' =>
   match pan with
   | none=>∃ v K' ρ',ex=.returned v∧FS g K' ρ' H1 w'∧Later K K' w w'∧(∀ j,(Ht.get j).isSome=true→ρ' j=ρ j)∧ARel K' w' ρ' Ht r v
   | some v=>ex=.panicked [{ v:=v,recovered:=false }]∧∃ K' ρ',FS g K' ρ' [] w'
def qO (A B:HEnv):Bool:=A.all fun x=>(B.get x.1).isSome
theorem ZU {A B:HEnv} (h:qO A B=true):∀ j,(A.get j).isSome=true→(B.get j).isSome=true:=by
 induction A with
 | nil=>intro j hj;simp [HEnv.get_nil] at hj
 | cons y A ih =>
  intro j hj
  obtain ⟨i,z⟩:=y
  simp only [qO,List.all_cons,Bool.and_eq_true] at h
  rw [HEnv.get_cons] at hj
  split at hj
  ·rename_i e;subst e;exact h.1
  ·exact ih h.2 j hj
theorem zdR {e:Env} {Ht:HEnv} {a:Act}:∀ {xs:List Operand} {ars:List AV},(∀ x∈xs,∀ av,e.val x=some av→ARel K w ρ Ht av (a.eval x))→avs e xs=some ars→Yx K w ρ Ht ars (xs.map a.eval)
 | [],ars,_,h=>by simp only [avs,Option.some.injEq] at h;subst h;exact ⟨rfl,fun k c v hc=>by simp at hc⟩
 | x::xs,ars,hv,h=>by
  simp only [avs] at h
  split at h
  ·rename_i v vs h1 h2
   simp only [Option.some.injEq] at h;subst h
   obtain ⟨q1,q2⟩:=zdR (xs:=xs) (fun y hy=>hv y (by simp [hy])) h2
   refine ⟨by simp [q1],fun k c u hc hu=>?_⟩
   cases k with
   | zero=>simp at hc hu;subst hc hu;exact hv x (by simp) v h1
   | succ k=>simp at hc hu;exact q2 k c u hc (by simpa using hu)
  ·cases h
theorem zlT {xs:Array Operand} {ts:Array TypeId} {ars:List AV} {Ht:HEnv} {e:Env} (Hc Hc' R:HEnv) {lone:Bool} (ps:List Nat) (hw1:lone=true→g.w1.heap.size=0)
  (hop:o.op=.call { callee:=.value (.func f),args:=xs,argTypes:=ts }) (hargs:avs e xs.toList=some ars) (hsub:HSub H (Hc++R)) (hk:qO Ht H=true) (hk2:qO Ht (R++Wx ps)=true)
  (hr:ZC Ht r=true) (hchk:QL Hc Hc' R ps ars [] r=true) (hc:∀ us,ACallM P f ars (Hc++qx us ps) r (Hc'++qx us ps) lone):EStep P g H (Hc'++R) Ht o e r none:=by
 refine ⟨fun K ρ a w hf hv=>?_⟩
 have hrun:(execOp a.eval o).run P w=.ok (.enter f (xs.toList.map a.eval).toArray) w:=by
  have e:(xs.toList.map a.eval).toArray=xs.map a.eval:=by rw [←Array.toList_map,Array.toArray_toList]
  rw [e]
  simp [execOp,hop,resolve,Act.eval,Deferred.ofValue,invoke,Zi (hc ρ).stands]
 refine ⟨f,_,hrun,?_⟩
 have hpa:Yx K w ρ Ht ars (xs.toList.map a.eval):=zdR (fun x hx=>hv x (by rw [hop];simp [Op.operands,Call.operands];exact .inr (by simpa using hx))) hargs
 have hall:Yx K w ρ H ars (xs.toList.map a.eval):=⟨hpa.1,fun k c v hc hv=>(hpa.2 k c v hc hv).keeps (.refl K w) fun j hj=>⟨ZU hk j hj,rfl⟩⟩
 refine (zet Hc Hc' R ps hw1 hsub hchk hc hf hall).mono fun ex w' ⟨v,K',ρ2,e1,hf',hv,hlat,hps⟩=>?_
 exact ⟨v,K',ρ2,e1,hf',hlat,fun j hj=>(hps j (ZU hk2 j hj)).2,hv.refs hr⟩
theorem zpb {xs:Array Operand} {ts:Array TypeId} {ars:List AV} {Ht H1:HEnv} {e:Env} {v:Value} (Hc:HEnv) {lone:Bool} (hw1:lone=true→g.w1.heap.size=0)
  (hop:o.op=.call { callee:=.value (.func f),args:=xs,argTypes:=ts }) (hargs:avs e xs.toList=some ars) (hfit:Qo H Hc []) (hin:Qd Hc ars=true) (hc:ACallPan P f ars Hc v lone):EStep P g H H1 Ht o e r (some v):=by
 refine ⟨fun K ρ a w hf hv=>?_⟩
 have hrun:(execOp a.eval o).run P w=.ok (.enter f (xs.toList.map a.eval).toArray) w:=by
  have e:(xs.toList.map a.eval).toArray=xs.map a.eval:=by rw [←Array.toList_map,Array.toArray_toList]
  rw [e]
  simp [execOp,hop,resolve,Act.eval,Deferred.ofValue,invoke,Zi hc.stands]
 refine ⟨f,_,hrun,?_⟩
 have hpa:Yx K w ρ Ht ars (xs.toList.map a.eval):=zdR (fun x hx=>hv x (by rw [hop];simp [Op.operands,Call.operands];exact .inr (by simpa using hx))) hargs
 have hall:Yx K w ρ Hc ars (xs.toList.map a.eval):=⟨hpa.1,fun k c v hc hv=>(hpa.2 k c v hc hv).refs (Zq hin k c hc)⟩
 exact hc.calls g K ρ w _ hw1 (hf.narrow hfit) hall
theorem zf2 {i:Nat} {v v':AV} {R:HEnv} (hf:FS g K ρ ((i,.cell v)::R) w) (ht:Tells v v'):FS g K ρ ((i,.cell v')::R) w:=by
 have hsome:∀ j,(HEnv.get ((i,HE.cell v)::R) j).isSome=(HEnv.get ((i,HE.cell v')::R) j).isSome:=fun j=>by rw [HEnv.get_cons,HEnv.get_cons];split <;> rfl
 have hk:∀ j,(HEnv.get ((i,HE.cell v)::R) j).isSome=true→(HEnv.get ((i,HE.cell v')::R) j).isSome=true∧ρ j=ρ j:=fun j hj=>⟨by rw [←hsome];exact hj,rfl⟩
 have hold:∀ j x,HEnv.get ((i,HE.cell v')::R) j=some x→(j=i∧x=.cell v')∨(j≠i∧HEnv.get ((i,HE.cell v)::R) j=some x):=fun j x hx=>by
  rw [HEnv.get_cons] at hx
  split at hx
  ·rename_i e;subst e;simp only [Option.some.injEq] at hx;exact .inl ⟨rfl,hx.symm⟩
  ·rename_i e;exact .inr ⟨fun h=>e h.symm,by rw [HEnv.get_cons,if_neg e];exact hx⟩
 have h0:HEnv.get ((i,HE.cell v)::R) i=some (.cell v):=by rw [HEnv.get_cons,if_pos rfl]
 refine ⟨hf.below,hf.old,hf.new,hf.lt,hf.others,hf.pt,fun j x b hj hl hb=>?_,fun j x hj=>?_,fun j j' x x' b hjj hj hj' hl hl' hb hb'=>?_⟩
 ·rcases hold j x hj with ⟨rfl,rfl⟩|⟨_,hj⟩
  ·exact hf.away j _ b h0 rfl hb
  ·exact hf.away j x b hj hl hb
 ·rcases hold j x hj with ⟨rfl,rfl⟩|⟨_,hj⟩
  ·obtain ⟨b,t,arr,u,q1,q2,q3,q4,q5,q6⟩:=hf.heap.ok j _ h0
   exact ⟨b,t,arr,u,q1,q2,q3,ht _ _ _ _ _ (q4.keeps (.refl K w) hk),q5,q6⟩
  ·exact (hf.heap.ok j x hj).keeps (.refl hf.lt) hf.lt hk
 ·have key:∀ j x,HEnv.get ((i,HE.cell v')::R) j=some x→x.live=true→∃ y,HEnv.get ((i,HE.cell v)::R) j=some y∧y.live=true:=fun j x hj hl=>by
   rcases hold j x hj with ⟨rfl,rfl⟩|⟨_,hj⟩
   ·exact ⟨_,h0,rfl⟩
   ·exact ⟨x,hj,hl⟩
  obtain ⟨y,y1,y2⟩:=key j x hj hl
  obtain ⟨y',y3,y4⟩:=key j' x' hj' hl'
  exact hf.heap.apart j j' y y' b hjj y1 y3 y2 y4 hb hb'
end
section
variable {P:Program} {n:Nat} {g:Base} {K:KK} {w:World} {ρ:Nat→Value} {H H0 H1:HEnv} {env:Env} {a:Act} {ops l:List Oper} {Q:Env→Prop}
theorem zkG {l:List Oper} {r:List AV} {e:List Env} {last env:Env} {o:Oper} {ro:AV} {t:Nat} (hd:o.dst=some t)
  (src:∀ (j:Nat) (ej:Env),(e++[last])[j]?=some ej→∀ (t':Nat) (av:AV),ej.get t'=some av→(∃ i o ri,i < j∧l[i]?=some o∧o.dst=some t'∧r[i]?=some ri∧Tells ri av∧(∀ i' o',i < i'→i' < j→l[i']?=some o'→o'.dst≠some t')) ∨
   ((∀ i o,i < j→l[i]?=some o→o.dst≠some t')∧∃ av0,Env.get ((t,ro)::env) t'=some av0∧Tells av0 av)) :
  ∀ (j:Nat) (ej:Env),(env::e++[last])[j]?=some ej→∀ (t':Nat) (av:AV),ej.get t'=some av→(∃ i o' ri,i < j∧(o::l)[i]?=some o'∧o'.dst=some t'∧(ro::r)[i]?=some ri∧Tells ri av∧(∀ i' o',i < i'→i' < j→(o::l)[i']?=some o'→o'.dst≠some t')) ∨
   ((∀ i o',i < j→(o::l)[i]?=some o'→o'.dst≠some t')∧∃ av0,env.get t'=some av0∧Tells av0 av):=by
 intro j ej hj t' av hav
 cases j with
 | zero=>simp at hj;subst hj;exact .inr ⟨by simp,av,hav,.refl _⟩
 | succ j =>
  have hj':(e++[last])[j]?=some ej:=by simpa using hj
  rcases src j ej hj' t' av hav with ⟨i,o',ri,h1,h2,h3,h4,h5,h6⟩|⟨h1,av0,h2,h3⟩
  ·refine .inl ⟨i + 1,o',ri,by omega,by simpa using h2,h3,by simpa using h4,h5,fun i' o'' hi hi' ho=>?_⟩
   cases i' with
   | zero=>omega
   | succ i'=>exact h6 i' o'' (by omega) (by omega) (by simpa using ho)
  ·simp only [Env.get_nil,Env.get_cons] at h2
   split at h2
   ·rename_i e;subst e
    simp only [Option.some.injEq] at h2;subst h2
    refine .inl ⟨0,o,ro,by omega,rfl,hd,rfl,h3,fun i' o'' hi hi' ho=>?_⟩
    cases i' with
    | zero=>omega
    | succ i'=>exact h1 i' o'' (by omega) (by simpa using ho)
   ·rename_i hne
    refine .inr ⟨fun i o' hi ho=>?_,av0,h2,h3⟩
    cases i with
    | zero=>simp at ho;subst ho;rw [hd];simpa using hne
    | succ i=>exact h1 i o' (by omega) (by simpa using ho)
theorem zfg {r:Option Nat} {d:Nat} {id:Nat} {w:World} {QQ:QC} (hd:Zd ops=true) (hm:P.follows .mixedOrders=true) (h:wpAny P .any ops.toArray (fun e a w=>∃ env' H',Inv n g env' H' a w∧(e=.normal∨∃ ch,e=.panic ch)∧QQ e env' H') ops.toArray.size (Array.replicate ops.toArray.size false) a { w with drawn:=w.drawn + 1 }) :
  (Code.region id ops.toArray true).wpIn (zab r) d P (fun e a w=>∃ env' H',Inv n g env' H' a w∧QQ e env' H') a w :=
 wpIn_mono (wpIn_region_any hm (Vs zhz (by simpa using hd) _ _ _ _ h)) (fun e a' w' ⟨env',H',h1,_,h3⟩=>⟨env',H',h1,h3⟩)
theorem yU {QQ:QC} {id:Nat} (L k:Nat) (_:ops.length=L) (hok:Xm ops k=true) (hm:P.follows .mixedOrders=true) (hB:Yf (zL k ops 0) ((zL k ops 0).take k)=true) (hT:Xv (zL k ops 0) k=true) (hk:Nat.ble k (zL k ops 0).length=true)
  (h:AD P n g H (zL k ops 0) (fun env'=>AOX P n g (zL k ops 0).toArray ((zL k ops 0).drop k) env' H QQ) ((zL k ops 0).take k) env) (hnd:Zd ops=true:=by kernel_rfl):AW P n g (.region id ops.toArray true) env H QQ:=by
 obtain ⟨s⟩:=zco h
 refine ⟨fun a w hi rr dd=>?_⟩
 refine zfg hnd hm ?_
 have hlen:=XV k ops 0
 refine zbm hok _ _ _ _ (by simp) ?_ ?_
 ·intro j o ho hl
  have hlt:=(List.getElem?_eq_some_iff.1 ho).1
  simp [Array.getD_eq_getD_getElem?,hlt] at hl
 obtain ⟨h1,h2,K,ρ,hf,he⟩:=hi
 have hev:Evo K K w { w with drawn:=w.drawn + 1 }:=(Evo.refl hf.lt).drew
 have hkl:=Nat.le_of_ble_eq_true hk
 have hlk:((zL k ops 0).take k).length=k:=by simp;omega
 have hsz:ops.toArray.size=(zL k ops 0).length:=by simp [hlen]
 rw [hsz]
 generalize zL k ops 0=ops' at *
 refine WE (l:=ops'.take k) (by rw [hlk]) s hB (by rw [hlk];exact hT) (fun env' a' w' h hi'=>?_) _ _ _ _ (by simp) ⟨h1,h2,by simp,by rw [hlk];exact hkl,?_,?_,K,ρ,hf.evo hev,?_,?_⟩
 ·rw [hlk]
  exact h.go a' w' hi'
 ·intro j _ hj
  simp [Array.getD_eq_getD_getElem?,hj]
 ·intro i o ho hli
  have hlt:=(List.getElem?_eq_some_iff.1 ho).1
  have:i < ops'.length:=by simp at hlt;omega
  simp [Array.getD_eq_getD_getElem?,this] at hli
 ·intro i o ri t ho hli
  have hlt:=(List.getElem?_eq_some_iff.1 ho).1
  have:i < ops'.length:=by simp at hlt;omega
  simp [Array.getD_eq_getD_getElem?,this] at hli
 ·intro t av hav _
  obtain ⟨v,v1,v2⟩:=he t av hav
  exact ⟨v,v1,v2.later (hev.later hf.lt)⟩
end
end Go.Cg
