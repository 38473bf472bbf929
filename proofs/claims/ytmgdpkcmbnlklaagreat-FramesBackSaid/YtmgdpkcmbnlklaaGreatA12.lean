/- A part of the walks by abstract values: no statement of its own. -/
import Derived.Test.YtmgdpkcmbnlklaaGreatA6
import Derived.KernelRfl
set_option linter.unusedVariables false
set_option linter.unusedSimpArgs false
namespace Go.Cg
open Go.RowKit
section
variable {P:Program} {tb:Tab} {n:Nat} {g:Base} {H:HEnv} {env:Env} {ops ops':List Oper} {Q:Env→Prop}
theorem zeE {o o':Oper} (h:o.after=o'.after) (j:Nat):zA o j=zA o' j:=by unfold zA;rw [h]
theorem zdk {listed:Array Bool} {j fuel:Nat} (hlt:j < listed.size) (hun:listed.getD j true=false) (hc:(listed.toList.filter (! ·)).length=fuel + 1):((listed.setIfInBounds j true).toList.filter (! ·)).length=fuel:=by
 have hlt':j < listed.toList.length:=by simpa using hlt
 have hjf:listed.toList[j]=false:=by
  rw [Array.getD_eq_getD_getElem?,Array.getElem?_eq_getElem hlt] at hun
  simpa using hun
 have e1:listed.toList=listed.toList.take j++false::listed.toList.drop (j + 1):=by
  rw [←hjf,List.getElem_cons_drop,List.take_append_drop]
 rw [Array.toList_setIfInBounds,List.set_eq_take_append_cons_drop,if_pos hlt']
 rw [e1] at hc
 simp only [List.filter_append,List.length_append,List.filter_cons,Bool.not_false,if_true,List.length_cons,Bool.not_true,Bool.false_eq_true,if_false] at hc ⊢
 omega
def BI (g:Base) (H:HEnv) (ja js ta:Nat) (ty:TypeId) (zc:Array Value) (r:AV) (listed:Array Bool) (a:Act) (w:World) (K:KK) (ρ:Nat→Value):Prop :=
 listed.getD ja true=true→∃ b,a.tmps[ta]?=some (.pointer (some ⟨b,0,none⟩)) ∧
  ((listed.getD js true=false∧Blk g K ρ H w b ty zc)∨(listed.getD js true=true∧∃ ru,ARel K w ρ H r ru∧Blk g K ρ H w b ty ru.cells))
theorem zkn {ja js t' ta tx jx:Nat} {oa os ox:Oper} {ty:TypeId} {z:Value} {za v r:AV} {R:Exit→Act→World→Prop} (htb:yc P tb) (hsh:ops'=yM ja js t' n ops 0) (hB:qH ops' ops'=true) (s:Script P n g H ops' ops' env Q)
  (hoa:ops[ja]?=some oa) (hopa:oa.op=.alloc ty) (hda:oa.dst=some ta) (hta:ta < n) (hga:oa.guard=none)
  (hos:ops[js]?=some os) (hops:os.op=.store ty (.tmp ta) (.tmp tx)) (hds:os.dst=none) (hgs:os.guard=none) (ht':t' < n)
  (hne:ja≠js) (hea:zA os ja=true) (hex:zA os jx=true) (hox:ops'[jx]?=some ox) (hdx:ox.dst=some tx)
  (hng:∀ (j:Nat) (o:Oper) (jj:Nat) (want:Bool),ops[j]?=some o→o.guard=some (jj,want)→jj≠js)
  (hz:tb.zero ty=some z) (hza:Wp z=some za) (hk:tb.known ty=true) (henv:env.get n=none)
  (hv:s.last.get tx=some v) (hr:zaH tb H ty za 0 v=some r) (hn:zav H za=true)
  (hR:∀ a w K ρ b ru,a.tmps.size=n→a.defers=g.ds→FS g K ρ H w→EnvR K w ρ H s.last a.tmps→a.tmps[ta]?=some (.pointer (some ⟨b,0,none⟩))→ARel K w ρ H r ru→Blk g K ρ H w b ty ru.cells→R .normal a w) :
  ∀ (fuel:Nat) (listed:Array Bool) (a:Act) (w:World) (K:KK) (ρ:Nat→Value),(listed.toList.filter (! ·)).length=fuel→MidX P n g H ops' env Q s listed a w K ρ→BI g H ja js ta ty z.cells r listed a w K ρ →
  wpAny P .any ops.toArray R fuel listed a w:=by
 have hlen:ops'.length=ops.length:=by rw [hsh,Yv]
 have hget:∀ j,ops'[j]?=(ops[j]?).map fun o=>zV ja js t' n o j:=by
  intro j;rw [hsh,WV];simp
 have hzi:∃ i,P.info? ty=some i∧i.zero=some z:=by
  unfold Tab.zero at hz
  split at hz
  ·rename_i ti hti
   obtain ⟨i,e1,_,_,e4,_⟩:=yN htb hti
   exact ⟨i,e1,by rw [e4];exact hz⟩
  ·cases hz
 obtain ⟨ti,hti,htz⟩:=hzi
 have hzr:∀ (K:KK) (w:World) (ρ:Nat→Value),ARel K w ρ H za z:=by
  intro K w ρ
  unfold Wp at hza
  split at hza
  ·rename_i cs
   split at hza
   ·rename_i ps hps
    simp only [Option.some.injEq] at hza;subst hza
    have hr:=Yl (K:=K) (w:=w) hps
    have:=PRel.agg ps cs.toList hr.1 (Yi hps) hr.2
    exact .pv _ _ (by simpa using this)
   ·cases hza
  ·split at hza
   ·rename_i ho
    simp only [Option.some.injEq] at hza;subst hza
    exact .pv _ _ (.base _ ho)
   ·cases hza
 have hedges:∀ j o,ops[j]?=some o→∀ i,zA (zV ja js t' n o j) i=zA o i:=fun j o _ i=>zeE zdd i
 have hjsl:js < ops.length:=(List.getElem?_eq_some_iff.1 hos).1
 have hjal:ja < ops.length:=(List.getElem?_eq_some_iff.1 hoa).1
 have fin:∀ (listed:Array Bool) (a:Act) (w:World) (K:KK) (ρ:Nat→Value),(∀ j,j < ops.length→listed.getD j true=true)→MidX P n g H ops' env Q s listed a w K ρ→BI g H ja js ta ty z.cells r listed a w K ρ→R .normal a w:=by
  intro listed a w K ρ hall hm hb
  obtain ⟨b,b1,b2⟩:=hb (hall ja hjal)
  rcases b2 with ⟨b2,_⟩|⟨_,ru,b3,b4⟩
  ·rw [hall js hjsl] at b2;cases b2
  ·exact hR a w K ρ b ru hm.size hm.defers hm.fs (hm.done (fun j hj=>hall j (by omega))) b1 b3 b4
 intro fuel
 induction fuel with
 | zero =>
  intro listed a w K ρ hc hm hb
  have hall:∀ j,j < ops.length→listed.getD j true=true:=by
   intro j hj
   have hn:=List.filter_eq_nil_iff.1 (List.eq_nil_of_length_eq_zero hc)
   have hlt:j < listed.size:=by rw [hm.lsize,hlen];exact hj
   have:=hn listed[j] (by simp)
   simp only [Bool.not_eq_true',Bool.not_eq_false] at this
   rw [Array.getD_eq_getD_getElem?,Array.getElem?_eq_getElem hlt]
   simpa using this
  refine ⟨?_,fin listed a w K ρ hall hm hb⟩
  rw [List.eq_nil_iff_forall_not_mem]
  intro j hj
  obtain ⟨o,ho,hun,_⟩:=zJ.1 hj
  rw [hall j (List.getElem?_eq_some_iff.1 ho).1] at hun;cases hun
 | succ fuel ih =>
  intro listed a w K ρ hc hm hb
  refine ⟨fun h0=>?_,fun j hj=>?_⟩
  ·
   refine fin listed a w K ρ (fun j hj=>?_) hm hb
   induction j using Nat.strongRecOn with
   | _ j ihj =>
    cases hun:listed.getD j true
    ·exfalso
     have ho:=List.getElem?_eq_getElem hj
     have:j∈Region.ready .any ops.toArray listed:=zJ.2 ⟨_,ho,hun,fun i hi=>by
      have ho':ops'[j]?=some (zV ja js t' n ops[j] j):=by rw [hget,ho];rfl
      have hij:=(Zr hB ho').1 i (by rw [hedges j _ ho];exact hi)
      have hi2:=ihj i hij (by omega)
      have hlt:i < listed.size:=by rw [hm.lsize,hlen];omega
      rw [Array.getD_eq_getD_getElem?,Array.getElem?_eq_getElem hlt] at hi2 ⊢
      exact hi2⟩
     rw [h0] at this;cases this
    ·rfl
  obtain ⟨o,ho,hun,hready⟩:=zJ.1 hj
  have hjlt:=(List.getElem?_eq_some_iff.1 ho).1
  have hjl:j < listed.size:=by rw [hm.lsize,hlen];exact hjlt
  have ho':ops'[j]?=some (zV ja js t' n o j):=by rw [hget,ho];rfl
  have hready':∀ i,zA (zV ja js t' n o j) i=true→listed.getD i false=true:=fun i hi=>hready i (by rw [←hedges j o ho];exact hi)
  have hcount:=zdk hjl hun hc
  have hft:∀ i,listed.getD i false=true→listed.getD i true=true:=by
   intro i hi
   rw [Array.getD_eq_getD_getElem?] at hi ⊢
   cases h:listed[i]? with
   | none=>rfl
   | some b=>rw [h] at hi;exact hi
  have hrj:s.r[j]?=some (s.r[j]'(by rw [s.lenr,hlen];exact hjlt)):=List.getElem?_eq_getElem _
  generalize s.r[j]'(by rw [s.lenr,hlen];exact hjlt)=rj at hrj
  unfold wpOp
  simp only [List.getElem?_toArray,ho]
  have hBI_set:∀ (j':Nat),j'=j→j≠js→∀ (a':Act) (w':World) (K':KK),(∀ b,a.tmps[ta]?=some (.pointer (some ⟨b,0,none⟩))→a'.tmps[ta]?=some (.pointer (some ⟨b,0,none⟩)))→Evo K K' w w'→j≠ja→BI g H ja js ta ty z.cells r (listed.setIfInBounds j true) a' w' K' ρ:=by
   intro _ _ hjs a' w' K' hta' hev hja hl
   rw [zo (Ne.symm hja)] at hl
   obtain ⟨b,b1,b2⟩:=hb hl
   refine ⟨b,hta' b b1,?_⟩
   rw [zo (Ne.symm hjs)]
   rcases b2 with ⟨e1,e2⟩|⟨e1,ru,e2,e3⟩
   ·exact .inl ⟨e1,e2.evo hev⟩
   ·exact .inr ⟨e1,ru,e2.later (hev.later hm.fs.lt),e3.evo hev⟩
  by_cases hja:j=ja
  ·
   subst hja
   rw [hoa] at ho;cases ho
   have hw:Region.wanted oa (yielded ops.toArray a.tmps)=true:=by simp [Region.wanted,hga]
   rw [if_pos hw]
   refine .inl ?_
   have hrun:(execOp a.eval oa).run P w=.ok (.value (.pointer (some ⟨w.heap.size,0,none⟩))) (w.alloc (.cells z.cells ty)):=by
    simp [execOp,hopa,Instr.alloc,zeroValue,typeInfo,hti,htz,newVar,newRow]
   unfold Oper.wp
   rw [hrun]
   simp only [Oper.upon]
   have hev:Evo K K w (w.alloc (.cells z.cells ty)):=⟨(Below.refl _ _).alloc (Nat.le_refl _) _,fun _ _ h=>h,fun _ _ h=>.inl h,fun b o h=>by have:=hm.fs.lt b o h;simp;omega⟩
   have hfs:=hm.fs.evo hev
   have hbeq:Nat.beq j j=true:=Nat.beq_refl j
   have hop:(zV j js t' n oa j).op=.move (.tmp n):=by unfold zV;rw [hbeq]
   have hds':(zV j js t' n oa j).dst=some ta:=by rw [WA hne];exact hda
   have hgs':(zV j js t' n oa j).guard=none:=by rw [Vj];exact hga
   rw [hda]
   refine ih _ _ _ K ρ hcount (hm.next hB ho' hrj hds' hta hun hready' hfs (hev.later hm.fs.lt) (zdJ a ho' hrj hop hgs' henv hfs _)) ?_
   intro _
   refine ⟨w.heap.size,by simp only [Act.put];rw [Array.getElem?_setIfInBounds_self_of_lt (by rw [hm.size];exact hta)],.inl ⟨?_,hm.fs.below.size,heap_alloc_new w _,fun o ho=>by have:=hm.fs.lt _ o ho;omega,fun k h hk hl hbk=>?_,hm.fs.pt.lt (Nat.le_refl _)⟩⟩
   ·rw [zo (Ne.symm hne)]
    cases hjs:listed.getD js true
    ·rfl
    ·have hos':ops'[js]?=some (zV j js t' n os js):=by rw [hget,hos];rfl
     have:=hft _ (hm.closed js _ hos' hjs j (by rw [hedges js os hos];exact hea))
     rw [hun] at this;cases this
   ·have:=((hm.fs.heap.ok k h hk).block_lt hl hbk).2
    omega
  by_cases hjs:j=js
  ·
   subst hjs
   rw [hos] at ho;cases ho
   have hw:Region.wanted os (yielded ops.toArray a.tmps)=true:=by simp [Region.wanted,hgs]
   rw [if_pos hw]
   refine .inl ?_
   have hlja:=hft _ (hready ja hea)
   obtain ⟨b,b1,b2⟩:=hb hlja
   have hblk:Blk g K ρ H w b ty z.cells:=by
    rcases b2 with ⟨_,h⟩|⟨h,_⟩
    ·exact h
    ·rw [hun] at h;cases h
   obtain ⟨u,u1,u2⟩:=hm.early hB hox hdx (hft _ (hready jx hex)) hv
   obtain ⟨s1,s2,s3,ru,hru,hcells⟩:=zdX hr (hzr K w ρ) u2 (row_one hm.fs) (zfn hm.fs (hzr K w ρ) hn)
   have hko:tb.k ty≠.oth:=by intro e;simp [Tab.known,e] at hk
   have hs:=run_sizeOf htb hko w
   have hst:=run_storeCells_at P b 0 ty u.cells.toList 0 z.cells w hblk.heap (by simp;omega) s2
   have ha1:a.eval (.tmp ta)=.pointer (some ⟨b,0,none⟩):=by simp [Act.eval,Array.getD_eq_getD_getElem?,b1]
   have ha2:a.eval (.tmp tx)=u:=by simp [Act.eval,Array.getD_eq_getD_getElem?,u1]
   have hrun:(execOp a.eval os).run P w=.ok .skip (w.setRow b ru.cells):=by
    simp only [Nat.add_zero,Array.length_toList,s1] at hst
    rw [←hcells,Array.toArray_toList] at hst
    simp [execOp,hops,ha1,ha2,Instr.storeAt,Instr.sureAddr,storeVar,hs,s1,hst]
   unfold Oper.wp
   rw [hrun]
   simp only [Oper.upon]
   obtain ⟨f1,f2,f3⟩:=hblk.set (arr':=ru.cells) hm.fs
   have hbeq:Nat.beq j j=true:=Nat.beq_refl j
   have hbne:Nat.beq j ja=false:=by cases h:Nat.beq j ja;rfl;exact absurd (Nat.eq_of_beq_eq_true h) hja
   have hop:(zV ja j t' n os j).op=.move (.tmp n):=by unfold zV;rw [hbne,hbeq]
   have hds':(zV ja j t' n os j).dst=some t':=by unfold zV;rw [hbne,hbeq]
   have hgs':(zV ja j t' n os j).guard=none:=by rw [Vj];exact hgs
   have hd':a.put os.dst undef=a:=by rw [hds];rfl
   rw [hd']
   refine ih _ _ _ K ρ hcount (hm.nop ho' hrj (fun u=>zdJ a ho' hrj hop hgs' henv f1 u) hds' ht' hun hready' f1 f3) ?_
   intro _
   exact ⟨b,b1,.inr ⟨zN hjl,ru,hru.later f3,f2⟩⟩
  ·
   have hpure:zV ja js t' n o j=o:=zeV hja hjs
   rw [hpure] at ho' hready'
   have hej:s.e[j]?=some (s.e[j]'(by rw [s.lene,hlen];exact hjlt)):=List.getElem?_eq_getElem _
   generalize s.e[j]'(by rw [s.lene,hlen];exact hjlt)=ej at hej
   obtain ⟨t,hd,ht,hor⟩:=s.ok j o rj ej ho' hrj hej
   have hreads:=hm.mid.reads hB ho' hej hun hready' hm.hl hm.he
   have htta:t≠ta:=by
    rintro rfl
    have hoa':ops'[ja]?=some (zV ja js t' n oa ja):=by rw [hget,hoa];rfl
    have hda':(zV ja js t' n oa ja).dst=some t:=by rw [WA hne];exact hda
    exact (Zr hB hoa').2.1 j o t ho' hd hja hda'
   have hkeep:∀ v b,a.tmps[ta]?=some (.pointer (some ⟨b,0,none⟩))→(a.put (some t) v).tmps[ta]?=some (.pointer (some ⟨b,0,none⟩)):=by
    intro v b h
    simp only [Act.put];rw [Array.getElem?_setIfInBounds_ne htta];exact h
   have hwanted:∀ b,guardE ops' ej o=some b→Region.wanted o (yielded ops.toArray a.tmps)=b:=by
    intro b hgb
    unfold guardE yL at hgb
    cases hg:o.guard with
    | none=>simp [hg] at hgb;subst hgb;simp [Region.wanted,hg]
    | some x =>
     obtain ⟨jj,want⟩:=x
     have hjj':=hng j o jj want ho hg
     simp only [hg] at hgb
     cases hjj:ops[jj]? with
     | none=>rw [hget,hjj] at hgb;simp at hgb
     | some o' =>
      have hS:ops'[jj]?=some (zV ja js t' n o' jj):=by rw [hget,hjj];rfl
      have hSd:(zV ja js t' n o' jj).dst=o'.dst:=WA hjj'
      simp only [hS] at hgb
      cases hd':o'.dst with
      | none=>rw [hSd,hd'] at hgb;simp at hgb
      | some t2 =>
       rw [hSd,hd'] at hgb
       simp only at hgb
       have hmem:t2∈readsOf ops' o:=by simp [readsOf,yL,hg,hS,hSd,hd']
       split at hgb
       ·rename_i bb hbb
        simp only [Option.some.injEq] at hgb;subst hgb
        obtain ⟨v,v1,v2⟩:=hreads t2 hmem _ hbb
        cases v2 with
        | pv _ _ hp=>cases hp;simp only [Region.wanted,hg,yielded,List.getElem?_toArray,hjj,Option.bind_some,hd',v1];cases bb <;> cases want <;> rfl
       ·rename_i vs hbb
        simp only [Option.some.injEq] at hgb;subst hgb
        obtain ⟨v,v1,v2⟩:=hreads t2 hmem _ hbb
        cases v2 with
        | pv _ _ hp=>cases hp;simp only [Region.wanted,hg,yielded,List.getElem?_toArray,hjj,Option.bind_some,hd',v1];cases want <;> rfl
       ·cases hgb
   rcases hor with ⟨hgt,hqs⟩|⟨hgf,rfl⟩
   ·rw [hwanted true hgt,if_pos rfl]
    refine .inl ?_
    unfold Oper.wp
    have hqr:=hqs.go K ρ a w hm.fs (fun x hx av hxv=>by
     cases x with
     | tmp t' =>
      obtain ⟨v,v1,v2⟩:=hreads t' (by
       unfold readsOf
       exact List.mem_append_left _ (ZB (Array.mem_toList_iff.2 hx))) av hxv
      simpa [Act.eval,Array.getD_eq_getD_getElem?,v1] using v2
     | const v =>
      simp only [Env.val] at hxv
      split at hxv
      ·rename_i h1;simp only [Option.some.injEq] at hxv;subst hxv;exact .pv _ _ (.base v h1)
      ·cases hxv
     | func f =>
      simp only [Env.val,Option.some.injEq] at hxv;subst hxv
      exact .pv _ _ (.fn (.func f) [] [] [] [] rfl rfl (by simp) (by simp))
     | global gg =>
      simp only [Env.val,Option.some.injEq] at hxv;subst hxv
      exact .pv _ _ (.base _ rfl))
    generalize (execOp a.eval o).run P w=res at hqr
    cases res with
    | halt x w'=>simp only [zaf] at hqr
    | ok nx w' =>
     cases nx <;> simp only [zaf] at hqr <;> simp only [Oper.upon]
     case value v =>
      obtain ⟨K',hev,hv'⟩:=hqr
      rw [hd]
      exact ih _ _ _ K' ρ hcount (hm.next hB ho' hrj hd ht hun hready' (hm.fs.evo hev) (hev.later hm.fs.lt) hv') (hBI_set j rfl hjs _ _ _ (hkeep v) hev hja)
     case enter f args =>
      obtain ⟨rfl,hc'⟩:=hqr
      refine hc'.mono fun e w'' ⟨v,K',he',hev,hv'⟩=>?_
      subst he'
      rw [hd]
      exact ih _ _ _ K' ρ hcount (hm.next hB ho' hrj hd ht hun hready' (hm.fs.evo hev) (hev.later hm.fs.lt) hv') (hBI_set j rfl hjs _ _ _ (hkeep v) hev hja)
   ·rw [hwanted false hgf,if_neg (by simp)]
    rw [hd]
    exact ih _ _ _ K ρ hcount (hm.next hB ho' hrj hd ht hun hready' hm.fs (Later.refl _ _) QA) (hBI_set j rfl hjs _ _ _ (hkeep undef) (.refl hm.fs.lt) hja)
def zjU (js:Nat) (ops:List Oper):Bool:=ops.all fun o=>match o.guard with|some (jj,_)=>!Nat.beq jj js|none=>true
theorem zhx {QQ:QC} {id:Nat} (i ja js t':Nat) {ta tx:Nat} (jx:Nat) {oa os ox:Oper} {ty:TypeId} {z:Value} {za:AV} (htb:yc P tb) (hm:P.follows .mixedOrders=true) (hB:qH (yM ja js t' n ops 0) (yM ja js t' n ops 0)=true)
  (hoa:ops[ja]?=some oa) (hopa:oa.op=.alloc ty) (hda:oa.dst=some ta) (hta:Nat.blt ta n=true) (hga:oa.guard=none)
  (hos:ops[js]?=some os) (hops:os.op=.store ty (.tmp ta) (.tmp tx)) (hds:os.dst=none) (hgs:os.guard=none) (ht':Nat.blt t' n=true)
  (hne:Nat.beq ja js=false) (hea:zA os ja=true) (hex:zA os jx=true) (hox:(yM ja js t' n ops 0)[jx]?=some ox) (hdx:ox.dst=some tx)
  (hng:zjU js ops=true) (hz:tb.zero ty=some z) (hza:Wp z=some za) (hk:tb.known ty=true) (henv:env.get n=none) (hn:zav H za=true) (hi:H.get i=none)
  (h:AD P n g H (yM ja js t' n ops 0) (fun env'=>∃ v r,env'.get tx=some v∧zaH tb H ty za 0 v=some r∧QQ .normal ((ta,.box i 0)::env') ((i,.cell r)::H)) (yM ja js t' n ops 0) env) (hnd:yP ops=true:=by kernel_rfl):AW P n g (.region id ops.toArray true) env H QQ:=by
 obtain ⟨s⟩:=XK h
 obtain ⟨v,r,hv,hr,hQ⟩:=s.fin
 have hlen:(yM ja js t' n ops 0).length=ops.length:=Yv ..
 refine ⟨fun a w hinv rr dd=>?_⟩
 refine wpIn_mono (QZ (R:=fun a' w'=>∃ env' H',Inv n g env' H' a' w'∧QQ .normal env' H') hnd hm ?_) (fun e a' w' h=>by obtain ⟨rfl,h⟩:=h;exact h)
 obtain ⟨h1,h2,K,ρ,hf,he⟩:=hinv
 have hev:Evo K K w { w with drawn:=w.drawn + 1 }:=(Evo.refl hf.lt).drew
 refine zkn (za:=za) (v:=v) (r:=r) (ja:=ja) (js:=js) (t':=t') (jx:=jx) htb rfl hB s hoa hopa hda (Nat.le_of_ble_eq_true hta) hga hos hops hds hgs (Nat.le_of_ble_eq_true ht') (Nat.ne_of_beq_eq_false hne) hea hex hox hdx ?_ hz hza hk henv hv hr hn ?_ _ _ a _ K ρ ?_ ⟨h1,h2,by simp [hlen],?_,hf.evo hev,?_,?_⟩ ?_
 ·intro j o jj want ho hg
  have:=List.all_eq_true.1 hng o (List.mem_of_getElem? ho)
  simp only [hg,Bool.not_eq_true'] at this
  exact Nat.ne_of_beq_eq_false this
 ·intro a' w' K' ρ' b ru q1 q2 q3 q4 q5 q6 q7
  have hown:=q7.own q3 hi q6 rfl
  refine ⟨rfl,_,_,⟨q1,q2,K',fun j=>if j=i then .pointer (some ⟨b,0,none⟩) else ρ' j,hown,?_⟩,hQ⟩
  have he':=q4.keeps (Later.refl K' w') (yu (ρ:=ρ') hi (.cell r) (.pointer (some ⟨b,0,none⟩)))
  intro t av hg
  simp only [Env.get_cons] at hg
  split at hg
  ·rename_i e;subst e
   simp only [Option.some.injEq] at hg;subst hg
   exact ⟨_,q5,.box i 0 b (by simp [HEnv.get_cons]) (by simp)⟩
  ·exact he' t av hg
 ·simp
 ·intro i o ho hli
  have hlt:=(List.getElem?_eq_some_iff.1 ho).1
  have:i < ops.length:=by omega
  simp [Array.getD_eq_getD_getElem?,this] at hli
 ·intro i o ri t ho hli
  have hlt:=(List.getElem?_eq_some_iff.1 ho).1
  have:i < ops.length:=by omega
  simp [Array.getD_eq_getD_getElem?,this] at hli
 ·intro t av hav _
  obtain ⟨v,v1,v2⟩:=he t av hav
  exact ⟨v,v1,v2.later (hev.later hf.lt)⟩
 ·intro hl
  have hjal:ja < ops.length:=(List.getElem?_eq_some_iff.1 hoa).1
  simp [Array.getD_eq_getD_getElem?,hjal] at hl
end
theorem zbY {P:Program} {tb:Tab} {g:Base} {H:HEnv} {env:Env} {o:Oper} {ty e:TypeId} {x y:Operand} {sz:Nat} {es:List PV} {full full':Bool} (htb:yc P tb) (hop:o.op=.call { callee:=.builtin .append,args:=#[x,y],argTypes:=#[ty,ty] }) (hk:tb.k ty=.sl e)
  (hx:env.pv H x=some (.slc sz es full)) (hy:env.pv H y=some (.slc sz [] full')) (hke:tb.known e=true):QStep P g H o env (.pv (.slc sz es full)):=by
 refine ⟨fun K ρ a w hf hv=>?_⟩
 have hyr:=zT hf (hv y (by rw [hop];simp [Op.operands,Call.operands])) hy
 have hxr:=zT hf (hv x (by rw [hop];simp [Op.operands,Call.operands])) hx
 obtain ⟨news,n1,n2,n3,n4,n5⟩:=Zo hyr
 obtain ⟨us,m1,m2,m3,m4,m5⟩:=Zo hxr
 have hnews:news=[]:=List.eq_nil_of_length_eq_zero (by simpa using n1)
 have hko:tb.k e≠.oth:=by intro h;simp [Tab.known,h] at hke
 have hs:=run_sizeOf (P:=P) htb hko
 have hrun:(Builtin.append_ #[ty,ty] o.type #[a.eval x,a.eval y]).run P w=.ok (a.eval x) w:=by
  rcases n2 with ⟨hy0,_⟩|⟨ad',c',hy1,hy2,_,hxc⟩
  ·rcases m2 with ⟨e1,_⟩|⟨ad1,c1,e1,_,_,hle⟩
   ·rw [e1,hy0];simp [Builtin.append_,run_underlying (yw htb hk),hs,Builtin.lenOf,Builtin.firstCells]
   ·rw [e1,hy0];simp [Builtin.append_,run_underlying (yw htb hk),hs,Builtin.lenOf,Builtin.firstCells,hle,storeCells]
  ·rcases m2 with ⟨e1,_⟩|⟨ad1,c1,e1,_,_,hle⟩
   ·rw [e1,hy1];simp [Builtin.append_,run_underlying (yw htb hk),hs,Builtin.lenOf,Builtin.firstCells,loadCells,loadCellsFrom]
   ·rw [e1,hy1];simp [Builtin.append_,run_underlying (yw htb hk),hs,Builtin.lenOf,Builtin.firstCells,hle,storeCells,loadCells,loadCellsFrom]
 have:(execOp a.eval o).run P w=.ok (.value (a.eval x)) w:=by
  simp [execOp,hop,resolve,invoke,builtin,hrun]
 rw [this]
 exact qA hf (.pv _ _ hxr)
section
variable {P:Program} {tb:Tab} {n:Nat} {g:Base} {K K':KK} {w w':World} {ρ:Nat→Value} {H:HEnv} {env:Env} {ops ops':List Oper} {Q:Env→Prop}
theorem Blk.other {b b':Nat} {ty ty':TypeId} {arr arr':Array Value} (h:Blk g K ρ H w b ty arr) (hne:b≠b'):Blk g K ρ H (w.setRow b' arr') b ty arr :=
 ⟨h.base,by rw [setRow_other w b' b _ hne];exact h.heap,h.noK,h.apart,h.far⟩
end
def zcu (k j:Nat) (o:Oper):Oper:=if k≤j then { o with after:=o.after++((List.range j).map fun i=>(⟨i,.phase⟩:Edge)).toArray } else o
def zx (k:Nat):List Oper→Nat→List Oper
 | [],_=>[]
 | o::r,j=>zcu k j o::zx k r (j + 1)
theorem QG (k:Nat):∀ (ops:List Oper) (m j:Nat),(zx k ops m)[j]?=(ops[j]?).map (zcu k (m + j))
 | [],m,j=>by simp [zx]
 | o::ops,m,j=>by
  cases j with
  | zero=>simp [zx]
  | succ j=>simp [zx,QG k ops (m + 1) j,Nat.add_assoc,Nat.add_comm 1 j]
theorem ZU (k:Nat):∀ (ops:List Oper) (m:Nat),(zx k ops m).length=ops.length
 | [],_=>rfl
 | o::ops,m=>by simp [zx,ZU k ops (m + 1)]
theorem zdb {k j:Nat} {o:Oper} {i:Nat}:zA (zcu k j o) i=(zA o i||(decide (k≤j)&&decide (i < j))):=by
 unfold zcu
 by_cases h:k≤j
 ·rw [if_pos h,Bool.eq_iff_iff]
  simp only [zA,Array.toList_append,List.any_append,Bool.or_eq_true,h,decide_true,Bool.true_and,decide_eq_true_eq]
  refine or_congr_right ?_
  simp only [List.any_eq_true,List.mem_map,List.mem_range,Bool.and_eq_true,beq_iff_eq]
  constructor
  ·rintro ⟨_,⟨m,hm,rfl⟩,_,h2⟩;simp only at h2;omega
  ·intro hi;exact ⟨_,⟨i,hi,rfl⟩,rfl,rfl⟩
 ·rw [if_neg h];simp [h]
def implied (ops:List Oper):Nat→Nat→Nat→Bool
 | 0,_,_=>false
 | n + 1,j,i=>match ops[j]? with
  | none=>false
  | some o=>zA o i||o.after.toList.any fun e=>Region.binds .any e&&implied ops n e.on i
def YL (ops:List Oper) (k:Nat):Bool:=(List.range ops.length).all fun j=>Nat.blt j k||(List.range j).all fun i=>implied ops ops.length j i
def zjQ (ops:List Oper) (listed:Array Bool):Prop:=∀ j o,ops[j]?=some o→listed.getD j false=true→∀ i,zA o i=true→listed.getD i false=true
theorem QH {ops:List Oper} {listed:Array Bool} (hc:zjQ ops listed):∀ (n j i:Nat) (o:Oper),ops[j]?=some o→(∀ m,zA o m=true→listed.getD m false=true)→implied ops n j i=true→listed.getD i false=true
 | 0,_,_,_,_,_,h=>by simp [implied] at h
 | n + 1,j,i,o,ho,hall,h=>by
  simp only [implied,ho,Bool.or_eq_true] at h
  rcases h with h|h
  ·exact hall i h
  ·obtain ⟨e,he,hb⟩:=List.any_eq_true.1 h
   rw [Bool.and_eq_true] at hb
   have hm:listed.getD e.on false=true:=hall e.on (List.any_eq_true.2 ⟨e,he,by simp [hb.1]⟩)
   cases hoe:ops[e.on]? with
   | none =>
    cases n with
    | zero=>simp [implied] at hb
    | succ n=>simp [implied,hoe] at hb
   | some o2=>exact QH hc n e.on i o2 hoe (hc e.on o2 hoe hm) hb.2
section
variable {P:Program} {R:Exit→Act→World→Prop} {ops:List Oper} {k:Nat}
theorem zao (hok:YL ops k=true) {listed:Array Bool} (hc:zjQ ops listed) (j:Nat):j∈Region.ready .any (zx k ops 0).toArray listed↔j∈Region.ready .any ops.toArray listed:=by
 rw [zJ,zJ]
 constructor
 ·rintro ⟨o',ho',h1,h2⟩
  rw [QG] at ho'
  cases ho:ops[j]? with
  | none=>simp [ho] at ho'
  | some o =>
   simp [ho] at ho';subst ho'
   exact ⟨o,rfl,h1,fun i hi=>h2 i (by rw [zdb,hi];rfl)⟩
 ·rintro ⟨o,ho,h1,h2⟩
  refine ⟨zcu k j o,by rw [QG,ho];simp,h1,fun i hi=>?_⟩
  rw [zdb,Bool.or_eq_true,Bool.and_eq_true,decide_eq_true_eq,decide_eq_true_eq] at hi
  rcases hi with hi|⟨hk,hij⟩
  ·exact h2 i hi
  ·have hlt:=(List.getElem?_eq_some_iff.1 ho).1
   have:=List.all_eq_true.1 hok j (by simpa using hlt)
   rw [Bool.or_eq_true] at this
   rcases this with h|h
   ·have:=Nat.le_of_ble_eq_true h;omega
   ·exact QH hc _ j i o ho h2 (List.all_eq_true.1 h i (by simpa using hij))
theorem zfJ (tmps:Array Value):yielded (zx k ops 0).toArray tmps=yielded ops.toArray tmps:=by
 funext j
 unfold yielded
 simp only [List.getElem?_toArray,QG,Nat.zero_add]
 cases ops[j]? with
 | none=>rfl
 | some o =>
  by_cases hkj:k≤j
  ·simp [zcu,hkj]
  ·simp [zcu,hkj]
theorem zj1 {j:Nat} {K:Act→World→Prop} {a:Act} {w:World} (h:wpOp P (zx k ops 0).toArray R j K a w):wpOp P ops.toArray R j K a w:=by
 unfold wpOp at h ⊢
 rw [zfJ] at h
 simp only [List.getElem?_toArray,QG,Nat.zero_add] at h ⊢
 cases ho:ops[j]? with
 | none=>simpa [ho] using h
 | some o =>
  simp only [ho,Option.map_some] at h ⊢
  unfold zcu at h
  split at h <;> exact h
theorem zfg {listed:Array Bool} (hs:listed.size=ops.length) (hc:zjQ ops listed) {j:Nat} (hj:j∈Region.ready .any ops.toArray listed):zjQ ops (listed.setIfInBounds j true):=by
 obtain ⟨o,ho,h1,h2⟩:=zJ.1 hj
 have hlt:=(List.getElem?_eq_some_iff.1 ho).1
 have up:∀ i,listed.getD i false=true→(listed.setIfInBounds j true).getD i false=true:=by
  intro i hi
  by_cases e:i=j
  ·subst e;simp [Array.getD_eq_getD_getElem?,hs,hlt]
  ·rw [zo e];exact hi
 intro m om hom hlm i hi
 by_cases e:m=j
 ·subst e
  rw [ho] at hom;cases hom
  exact up i (h2 i hi)
 ·rw [zo e] at hlm
  exact up i (hc m om hom hlm i hi)
theorem QE (hok:YL ops k=true):∀ (fuel:Nat) (listed:Array Bool) (a:Act) (w:World),listed.size=ops.length→zjQ ops listed→wpAny P .any (zx k ops 0).toArray R fuel listed a w→wpAny P .any ops.toArray R fuel listed a w
 | 0,listed,a,w,hs,hc,h=>by
  refine ⟨?_,h.2⟩
  rw [List.eq_nil_iff_forall_not_mem]
  intro j hj
  have:=(zao hok hc j).2 hj
  rw [h.1] at this;cases this
 | fuel + 1,listed,a,w,hs,hc,h=>by
  refine ⟨fun hn=>h.1 ?_,fun j hj=>?_⟩
  ·rw [List.eq_nil_iff_forall_not_mem]
   intro j hj
   have:=(zao hok hc j).1 hj
   rw [hn] at this;cases this
  ·have h1:=h.2 j ((zao hok hc j).2 hj)
   exact zj1 (wpOp_mono (fun a w hh=>QE hok fuel _ a w (by simp [hs]) (zfg hs hc hj) hh) h1)
end
section
variable {P:Program} {n:Nat} {g:Base} {H:HEnv} {env:Env} {ops:List Oper}
theorem zeG {QQ:QC} {id:Nat} (k:Nat) (hok:YL ops k=true) (hm:P.follows .mixedOrders=true) (hB:qH (zx k ops 0) ((zx k ops 0).take k)=true) (hT:Yz (zx k ops 0) k=true) (hk:k≤(zx k ops 0).length)
  (h:AD P n g H (zx k ops 0) (fun env'=>AO P n g (zx k ops 0).toArray ((zx k ops 0).drop k) env' H (fun env' H'=>QQ .normal env' H')) ((zx k ops 0).take k) env) (hnd:yP ops=true:=by kernel_rfl):AW P n g (.region id ops.toArray true) env H QQ:=by
 obtain ⟨s⟩:=XK h
 refine ⟨fun a w hi rr dd=>?_⟩
 refine wpIn_mono (QZ (R:=fun a' w'=>∃ env' H',Inv n g env' H' a' w'∧QQ .normal env' H') hnd hm ?_) (fun e a' w' h=>by obtain ⟨rfl,h⟩:=h;exact h)
 have hlen:=ZU k ops 0
 refine QE hok _ _ _ _ (by simp) ?_ ?_
 ·intro j o ho hl
  have hlt:=(List.getElem?_eq_some_iff.1 ho).1
  simp [Array.getD_eq_getD_getElem?,hlt] at hl
 obtain ⟨h1,h2,K,ρ,hf,he⟩:=hi
 have hev:Evo K K w { w with drawn:=w.drawn + 1 }:=(Evo.refl hf.lt).drew
 have hlk:((zx k ops 0).take k).length=k:=by simp;omega
 have hsz:ops.toArray.size=(zx k ops 0).length:=by simp [hlen]
 rw [hsz]
 generalize zx k ops 0=ops' at *
 refine Qc (l:=ops'.take k) (by rw [hlk]) s hB (by rw [hlk];exact hT) (fun env' a' w' h hi'=>?_) _ _ _ _ (by simp) ⟨h1,h2,by simp,by rw [hlk];exact hk,?_,?_,K,ρ,hf.evo hev,?_,?_⟩
 ·rw [hlk]
  exact ql (fun e a' w' ⟨env',H',h1,h2,h3⟩=>⟨h2,env',H',h1,h3⟩) (h.go a' w' hi')
 ·intro j _ hj
  simp [Array.getD_eq_getD_getElem?,hj]
 ·intro i o ho hli
  have hlt:=(List.getElem?_eq_some_iff.1 ho).1
  have:i < ops'.length:=by simp at hlt;omega
  simp [Array.getD_eq_getD_getElem?,this] at hli
 ·intro i o ri t ho hli
  have hlt:=(List.getElem?_eq_some_iff.1 ho).1
  have:i < ops'.length:=by simp at hlt;omega
  simp [Array.getD_eq_getD_getElem?,this] at hli
 ·intro t av hav _
  obtain ⟨v,v1,v2⟩:=he t av hav
  exact ⟨v,v1,v2.later (hev.later hf.lt)⟩
theorem qj {QQ:QC} {id:Nat} (L k:Nat) (_:ops.length=L) (hok:YL ops k=true) (hm:P.follows .mixedOrders=true) (hB:qH (zx k ops 0) ((zx k ops 0).take k)=true) (hT:Yz (zx k ops 0) k=true) (hk:Nat.ble k (zx k ops 0).length=true)
  (h:AD P n g H (zx k ops 0) (fun env'=>AO P n g (zx k ops 0).toArray ((zx k ops 0).drop k) env' H (fun env' H'=>QQ .normal env' H')) ((zx k ops 0).take k) env) (hnd:yP ops=true:=by kernel_rfl):AW P n g (.region id ops.toArray true) env H QQ :=
 zeG k hok hm hB hT (Nat.le_of_ble_eq_true hk) h hnd
end
theorem zfd {a:Act} {d t:Nat} {v:Value} (h:d≠t):(a.put (some d) v).tmps[t]?=a.tmps[t]?:=by
 simp only [Act.put];rw [Array.getElem?_setIfInBounds_ne h]
theorem put_comm {a:Act} {c d:Nat} {u v:Value} (h:c≠d):(a.put (some c) u).put (some d) v=(a.put (some d) v).put (some c) u:=by
 simp only [Act.put];rw [Array.setIfInBounds_comm _ _ h]
theorem Xa {listed:Array Bool} {j:Nat} (h:j < listed.size):listed.getD j true=listed.getD j false:=by
 rw [Array.getD_eq_getD_getElem?,Array.getD_eq_getD_getElem?,Array.getElem?_eq_getElem h];rfl
def VY (ops:List Oper):Bool:=ops.zipIdx.all fun x=>x.1.after.toList.all fun e=>!Region.binds .any e||decide (e.on < x.2)
theorem zgb {ops:List Oper} (h:VY ops=true) {j:Nat} {o:Oper} (ho:ops[j]?=some o):∀ i,zA o i=true→i < j:=by
 intro i hi
 have h1:=List.all_eq_true.1 h (o,j) (Zb ho)
 unfold zA at hi
 obtain ⟨e,he,heq⟩:=List.any_eq_true.1 hi
 simp only [Bool.and_eq_true,beq_iff_eq] at heq
 have:=List.all_eq_true.1 h1 e he
 simp only [heq.1,Bool.not_true,Bool.false_or,decide_eq_true_eq] at this
 omega
theorem ready_nil {ops:List Oper} {listed:Array Bool} (he:VY ops=true) (hs:listed.size=ops.length) (h0:Region.ready .any ops.toArray listed=[]):∀ j,j < ops.length→listed.getD j true=true:=by
 intro j
 induction j using Nat.strongRecOn with
 | _ j ih =>
  intro hj
  cases hun:listed.getD j true
  ·have ho:=List.getElem?_eq_getElem hj
   have:j∈Region.ready .any ops.toArray listed:=zJ.2 ⟨_,ho,hun,fun i hi=>by
    have hij:=zgb he ho i hi
    have:=ih i hij (by omega)
    rwa [Xa (by omega)] at this⟩
   rw [h0] at this;cases this
  ·rfl
def zlk (P:Program) (o:Oper) (c:Nat):Prop:=∀ (a:Act) (v:Value) (w:World),(execOp (a.put (some c) v).eval o).run P w=(execOp a.eval o).run P w
def zfx (c:Nat):Operand→Bool
 | .tmp t=>!(t==c)
 | _=>true
theorem zdu {a:Act} {c:Nat} {v:Value}:∀ {x:Operand},zfx c x=true→(a.put (some c) v).eval x=a.eval x
 | .tmp t,h=>by
  have:c≠t:=by rintro rfl;simp [zfx] at h
  simp only [Act.eval,Array.getD_eq_getD_getElem?,zfd this]
 | .const _,_=>rfl
 | .global _,_=>rfl
 | .func _,_=>rfl
theorem zfU {P:Program} {o:Oper} {c:Nat} {x y:Operand} {ts:Array TypeId} (hop:o.op=.call { callee:=.builtin .append,args:=#[x,y],argTypes:=ts }) (hx:zfx c x=true) (hy:zfx c y=true):zlk P o c:=fun a v w=>by
 simp [execOp,hop,resolve,invoke,builtin,zdu hx,zdu hy]
section
variable {P:Program} {n:Nat} {g:Base} {K:KK} {w:World} {ρ:Nat→Value} {H:HEnv} {env:Env} {a:Act} {ops l:List Oper} {Q:Env→Prop}
theorem ziE {R:Exit→Act→World→Prop} {k jc c r tA:Nat} {oA oc:Oper} (hl0:l=ops.take k) (hlk:l.length=k) (s:Script P n g H ops l env Q) (hB:qH ops l=true) (hE:VY ops=true) (hT:Yz ops (k + 1)=true)
  (hA:ops[k]?=some oA) (hgA:oA.guard=none) (hdA:oA.dst=some tA) (himp:∀ j,j < k→j≠jc→implied ops ops.length k j=true)
  (hjc:jc < k) (hoc:ops[jc]?=some oc) (hpc:oc.op=.move (.tmp r)) (hgc:oc.guard=none) (hdc:oc.dst=some c) (hec:∀ i,zA oc i=false) (hbl:zlk P oA c) (x1:c≠tA) (x2:tA≠r) (x3:c≠r)
  (hR:∀ e a w,R e a w→e=.normal) (hq:∀ env' a w,Q env'→Inv n g env' H a w→wpList P ops.toArray R (ops.drop k) a w):∀ (fuel:Nat) (listed:Array Bool) (a:Act) (w:World),(listed.toList.filter (! ·)).length=fuel→listed.size=ops.length→zjQ ops listed →
  ((listed.getD k true=false∧Mid P n g H ops l env Q s listed a w)∨((∀ i,i < ops.length→listed.getD i true=(decide (i < k + 1)&&!(i==jc)))∧∃ v,a.eval (.tmp r)=v∧wpList P ops.toArray R (ops.drop (k + 1)) (a.put (some c) v) w))→wpAny P .any ops.toArray R fuel listed a w:=by
 have hklt:=(List.getElem?_eq_some_iff.1 hA).1
 have hdrop:ops.drop k=oA::ops.drop (k + 1):=by
  rw [List.drop_eq_getElem_cons hklt,(List.getElem?_eq_some_iff.1 hA).2]
 have hget:∀ j,j < k→l[j]?=ops[j]?:=by
  intro j hj
  have:=congrArg (fun x=>x[j]?) hl0
  simp only [List.getElem?_take,if_pos hj] at this
  exact this
 have hocl:l[jc]?=some oc:=by rw [hget jc hjc];exact hoc
 have done:∀ (listed:Array Bool) (a:Act) (w:World),(∀ j,j < l.length→listed.getD j true=true)→Mid P n g H ops l env Q s listed a w→wpList P ops.toArray R (oA::ops.drop (k + 1)) a w:=by
  intro listed a w hall hm
  obtain ⟨K,ρ,hf,hl,he⟩:=hm.st
  rw [←hdrop]
  refine hq s.last a w s.fin ⟨hm.size,hm.defers,K,ρ,hf,fun t av hav=>?_⟩
  have hlast:(s.e++[s.last])[l.length]?=some s.last:=by rw [List.getElem?_append_right (by rw [s.lene];exact Nat.le_refl _),s.lene];simp
  rcases s.src l.length s.last hlast t av hav with ⟨i,o,ri,h1,h2,h3,h4,h5,_⟩|⟨h1,av0,h2,h3⟩
  ·obtain ⟨v,v1,v2⟩:=hl i o ri t h2 (hall i h1) h4 h3
   exact ⟨v,v1,h5 _ _ _ _ _ v2⟩
  ·obtain ⟨v,v1,v2⟩:=he t av0 h2 (fun i o ho _=>h1 i o (List.getElem?_eq_some_iff.1 ho).1 ho)
   exact ⟨v,v1,h3 _ _ _ _ _ v2⟩
 have runc:∀ (a:Act) (w:World),(execOp a.eval oc).run P w=.ok (.value (a.eval (.tmp r))) w:=fun a w=>by simp [execOp,hpc]
 have nilAt:∀ (listed:Array Bool) (a:Act) (w:World),listed.size=ops.length→Region.ready .any ops.toArray listed=[] →
   ((listed.getD k true=false∧Mid P n g H ops l env Q s listed a w)∨((∀ i,i < ops.length→listed.getD i true=(decide (i < k + 1)&&!(i==jc)))∧∃ v,a.eval (.tmp r)=v∧wpList P ops.toArray R (ops.drop (k + 1)) (a.put (some c) v) w))→False:=by
  intro listed a w hs h0 h
  have hall:=ready_nil hE hs h0
  rcases h with ⟨h,_⟩|⟨h,_⟩
  ·rw [hall k hklt] at h;cases h
  ·have:=h jc (by omega);rw [hall jc (by omega)] at this;simp at this
 intro fuel
 induction fuel with
 | zero =>
  intro listed a w hc hs hcl h
  have hall:∀ j,j < ops.length→listed.getD j true=true:=by
   intro j hj
   have hn:=List.filter_eq_nil_iff.1 (List.eq_nil_of_length_eq_zero hc)
   have hlt:j < listed.size:=by omega
   have:=hn listed[j] (by simp)
   simp only [Bool.not_eq_true',Bool.not_eq_false] at this
   rw [Array.getD_eq_getD_getElem?,Array.getElem?_eq_getElem hlt]
   simpa using this
  have hnil:Region.ready .any ops.toArray listed=[]:=by
   rw [List.eq_nil_iff_forall_not_mem]
   intro j hj
   obtain ⟨o,ho,hun,_⟩:=zJ.1 hj
   rw [hall j (List.getElem?_eq_some_iff.1 ho).1] at hun;cases hun
  exact (nilAt listed a w hs hnil h).elim
 | succ fuel ih =>
  intro listed a w hc hs hcl h
  refine ⟨fun h0=>(nilAt listed a w hs h0 h).elim,fun j hj=>?_⟩
  obtain ⟨o,ho,hun,hready⟩:=zJ.1 hj
  have hjlt:=(List.getElem?_eq_some_iff.1 ho).1
  have hcount:=zdk (by omega) hun hc
  have hcl':=zfg hs hcl hj
  have hs':(listed.setIfInBounds j true).size=ops.length:=by simp [hs]
  have htail:∀ m o,ops[m]?=some o→k + 1≤m→∀ i,i < m→zA o i=true:=by
   intro m o ho hm i hi
   have hmem:(o,m)∈ops.zipIdx.drop (k + 1):=by
    rw [List.mem_drop_iff_getElem]
    have hlt:=(List.getElem?_eq_some_iff.1 ho).1
    refine ⟨m - (k + 1),by simp;omega,?_⟩
    simp only [List.getElem_zipIdx,Nat.zero_add]
    have:k + 1 + (m - (k + 1))=m:=by omega
    simp only [this]
    rw [(List.getElem?_eq_some_iff.1 ho).2]
   have h1:=List.all_eq_true.1 hT (o,m) hmem
   simp only [Bool.and_eq_true] at h1
   exact List.all_eq_true.1 h1.1 i (List.mem_range.2 hi)
  have hcnt:∀ listed:Array Bool,(listed.toList.filter (! ·)).length=fuel→listed.size=ops.length→(∀ i,i < ops.length→listed.getD i true=decide (i < k + 1))→k + 1 + fuel=ops.length:=by
   intro listed hc hsz hex
   have e1:listed.toList=List.replicate (k + 1) true++List.replicate (ops.length - (k + 1)) false:=by
    apply List.ext_getElem
    ·simp [hsz];omega
    ·intro i h1 h2
     have hi:i < ops.length:=by simpa [hsz] using h1
     have:=hex i hi
     rw [Array.getD_eq_getD_getElem?,Array.getElem?_eq_getElem (by rw [hsz];exact hi)] at this
     simp only [Option.getD_some] at this
     simp only [Array.getElem_toList,this,List.getElem_append,List.length_replicate,List.getElem_replicate]
     by_cases hil:i < k + 1
     ·rw [dif_pos hil,decide_eq_true hil]
     ·rw [dif_neg hil,decide_eq_false hil]
   rw [e1] at hc
   simp only [List.filter_append,List.filter_replicate,Bool.not_true,Bool.false_eq_true,if_false,Bool.not_false,if_true,List.nil_append,List.length_replicate] at hc
   omega
  rcases h with ⟨hk0,hm⟩|⟨hex,v,hv,hT2⟩
  ·obtain ⟨K,ρ,hf,hl,he⟩:=hm.st
   rcases Nat.lt_trichotomy j k with hjk|rfl|hjk
   ·have hol:l[j]?=some o:=by rw [hget j hjk];exact ho
    have hjl:j < l.length:=by omega
    have hrj:s.r[j]?=some (s.r[j]'(by rw [s.lenr];exact hjl)):=List.getElem?_eq_getElem _
    have hej:s.e[j]?=some (s.e[j]'(by rw [s.lene];exact hjl)):=List.getElem?_eq_getElem _
    generalize s.r[j]'(by rw [s.lenr];exact hjl)=rj at hrj
    generalize s.e[j]'(by rw [s.lene];exact hjl)=ej at hej
    obtain ⟨t,hd,ht,hor⟩:=s.ok j o rj ej hol hrj hej
    have hreads:=hm.reads hB hol hej hun hready hl he
    have hk0':(listed.setIfInBounds j true).getD k true=false:=by rw [zo (by omega)];exact hk0
    have hwanted:∀ b,guardE ops ej o=some b→Region.wanted o (yielded ops.toArray a.tmps)=b:=by
     intro b hgb
     unfold guardE yL at hgb
     cases hg:o.guard with
     | none=>simp [hg] at hgb;subst hgb;simp [Region.wanted,hg]
     | some x =>
      obtain ⟨jj,want⟩:=x
      simp only [hg] at hgb
      cases hjj:ops[jj]? with
      | none=>simp [hjj] at hgb
      | some o' =>
       simp only [hjj] at hgb
       cases hd':o'.dst with
       | none=>simp [hd'] at hgb
       | some t' =>
        simp only [hd'] at hgb
        split at hgb
        ·rename_i bb hbb
         simp only [Option.some.injEq] at hgb;subst hgb
         obtain ⟨v,v1,v2⟩:=hreads t' (by simp [readsOf,yL,hg,hjj,hd']) _ hbb
         cases v2 with
         | pv _ _ hp=>cases hp;simp only [Region.wanted,hg,yielded,List.getElem?_toArray,hjj,Option.bind_some,hd',v1];cases bb <;> cases want <;> rfl
        ·rename_i vs hbb
         simp only [Option.some.injEq] at hgb;subst hgb
         obtain ⟨v,v1,v2⟩:=hreads t' (by simp [readsOf,yL,hg,hjj,hd']) _ hbb
         cases v2 with
         | pv _ _ hp=>cases hp;simp only [Region.wanted,hg,yielded,List.getElem?_toArray,hjj,Option.bind_some,hd',v1];cases want <;> rfl
        ·cases hgb
    unfold wpOp
    simp only [List.getElem?_toArray,ho]
    have next:∀ (K':KK) (w':World) (v:Value),Evo K K' w w'→ARel K' w' ρ H rj v→wpAny P .any ops.toArray R fuel (listed.setIfInBounds j true) (a.put o.dst v) w' :=
     fun K' w' v hev hv=>ih _ _ _ hcount hs' hcl' (.inl ⟨hk0',hm.next hB hol hrj hd ht hun hready (fun _ _ _=>trivial) hf hl he hev hv⟩)
    rcases hor with ⟨hgt,hqs⟩|⟨hgf,rfl⟩
    ·rw [hwanted true hgt,if_pos rfl]
     refine .inl ?_
     unfold Oper.wp
     have hqr:=hqs.go K ρ a w hf (fun x hx av hxv=>by
      cases x with
      | tmp t' =>
       obtain ⟨v,v1,v2⟩:=hreads t' (by
        unfold readsOf
        exact List.mem_append_left _ (ZB (Array.mem_toList_iff.2 hx))) av hxv
       simpa [Act.eval,Array.getD_eq_getD_getElem?,v1] using v2
      | const v =>
       simp only [Env.val] at hxv
       split at hxv
       ·rename_i h1;simp only [Option.some.injEq] at hxv;subst hxv;exact .pv _ _ (.base v h1)
       ·cases hxv
      | func f =>
       simp only [Env.val,Option.some.injEq] at hxv;subst hxv
       exact .pv _ _ (.fn (.func f) [] [] [] [] rfl rfl (by simp) (by simp))
      | global gg =>
       simp only [Env.val,Option.some.injEq] at hxv;subst hxv
       exact .pv _ _ (.base _ rfl))
     generalize (execOp a.eval o).run P w=res at hqr
     cases res with
     | halt x w'=>simp only [zaf] at hqr
     | ok nx w' =>
      cases nx <;> simp only [zaf] at hqr <;> simp only [Oper.upon]
      case value v =>
       obtain ⟨K',hev,hv⟩:=hqr
       exact next K' _ _ hev hv
      case enter f args =>
       obtain ⟨rfl,hc'⟩:=hqr
       refine hc'.mono fun e w'' ⟨v,K',he',hev,hv⟩=>?_
       subst he'
       exact next K' _ _ hev hv
    ·rw [hwanted false hgf,if_neg (by simp)]
     exact next K _ _ (.refl hf.lt) QA
   ·
    rw [hA] at ho;cases ho
    have hw1:Region.wanted oA (yielded ops.toArray a.tmps)=true:=by simp [Region.wanted,hgA]
    have hw2:∀ a:Act,Region.wanted oA (yielded ops.toArray a.tmps)=true:=fun a=>by simp [Region.wanted,hgA]
    have hpre:∀ m,m < j→m≠jc→listed.getD m true=true:=by
     intro m hm' hne
     rw [Xa (by omega)]
     exact QH hcl _ j m oA hA hready (himp m hm' hne)
    unfold wpOp
    simp only [List.getElem?_toArray,hA]
    rw [if_pos hw1]
    cases hjcl:listed.getD jc true
    ·
     have hrjc:s.r[jc]?=some (s.r[jc]'(by rw [s.lenr];omega)):=List.getElem?_eq_getElem _
     have hejc:s.e[jc]?=some (s.e[jc]'(by rw [s.lene];omega)):=List.getElem?_eq_getElem _
     generalize s.r[jc]'(by rw [s.lenr];omega)=rc at hrjc
     generalize s.e[jc]'(by rw [s.lene];omega)=ec at hejc
     obtain ⟨t,hd,ht,hor⟩:=s.ok jc oc rc ec hocl hrjc hejc
     have hreadyc:∀ i,zA oc i=true→listed.getD i false=true:=fun i hi=>by rw [hec i] at hi;cases hi
     have hreads:=hm.reads hB hocl hejc hjcl hreadyc hl he
     obtain ⟨K',hev,hvr⟩:∃ K',Evo K K' w w∧ARel K' w ρ H rc (a.eval (.tmp r)):=by
      rcases hor with ⟨_,hqs⟩|⟨hgf,_⟩
      ·have hqr:=hqs.go K ρ a w hf (fun x hx av hxv=>by
        rw [hpc] at hx
        simp only [Op.operands,List.mem_toArray] at hx
        have hx':x=.tmp r:=by simpa using hx
        subst hx'
        obtain ⟨v,v1,v2⟩:=hreads r (by unfold readsOf;rw [hpc];exact List.mem_append_left _ (by simp [Op.operands,zax])) av hxv
        simpa [Act.eval,Array.getD_eq_getD_getElem?,v1] using v2)
       rw [runc] at hqr
       exact hqr
      ·simp [guardE,hgc] at hgf
     have hm2:=hm.next hB hocl hrjc hd ht hjcl hreadyc (fun _ _ _=>trivial) hf hl he hev hvr
     rw [hdc] at hm2
     have hwl:=done _ _ _ (fun m hm'=>by
      by_cases e:m=jc
      ·subst e;exact zN (by omega)
      ·rw [zo e];exact hpre m (by omega) e) hm2
     unfold wpList at hwl
     rw [if_pos (hw2 _)] at hwl
     rcases hwl with hwl|hwl
     ·refine .inl ?_
      have hex:∀ i,i < ops.length→(listed.setIfInBounds j true).getD i true=(decide (i < j + 1)&&!(i==jc)):=by
       intro i hi
       by_cases e:i=j
       ·subst e;rw [zN (by omega)];simp;omega
       ·rw [zo e]
        by_cases e2:i=jc
        ·subst e2;simp [hjcl]
        ·by_cases e3:i < j
         ·rw [hpre i e3 e2];simp [e2];omega
         ·rw [hm.notail i (by omega) hi];simp;omega
      have go:∀ (a2:Act) (u:Value) (w':World),a2.tmps=(a.put (some tA) u).tmps→wpList P ops.toArray R (ops.drop (j + 1)) (a2.put (some c) (a.eval (.tmp r))) w'→wpAny P .any ops.toArray R fuel (listed.setIfInBounds j true) a2 w':=fun a2 u w' h2 hh =>
       ih _ _ _ hcount hs' hcl' (.inr ⟨hex,_,by simp only [Act.eval,Array.getD_eq_getD_getElem?,h2,zfd x2],hh⟩)
      unfold Oper.wp at hwl ⊢
      rw [hbl] at hwl
      generalize (execOp a.eval oA).run P w=res at hwl
      cases res with
      | halt x w'=>cases x <;> simp only [Oper.upon] at hwl <;> exact nomatch hR _ _ _ hwl
      | ok nx w' =>
       cases nx <;> simp only [Oper.upon,hdA] at hwl ⊢
       case value v=>exact go _ v _ rfl (by rw [put_comm (Ne.symm x1)];exact hwl)
       case skip=>exact go _ undef _ rfl (by rw [put_comm (Ne.symm x1)];exact hwl)
       case defer d=>exact go _ undef _ rfl (by rw [put_comm (Ne.symm x1)];exact hwl)
       case enter f args=>exact Calls.mono hwl (fun e w'' he=>by
        cases e with
        | returned v=>exact go _ v _ rfl (by rw [put_comm (Ne.symm x1)];exact he)
        | panicked ch=>exact nomatch hR _ _ _ he
        | outgrown=>exact he)
       case row f args=>exact Rows.mono hwl (fun v _ he=>go _ v _ rfl (by rw [put_comm (Ne.symm x1)];exact he))
     ·exact nomatch hR _ _ _ hwl.2.choose_spec.choose_spec
    ·have hwl:=done _ _ _ (fun m hm'=>by
      by_cases e:m=jc
      ·subst e;exact hjcl
      ·exact hpre m (by omega) e) hm
     unfold wpList at hwl
     rw [if_pos hw1] at hwl
     refine hwl.imp (fun hwl=>?_) id
     have hex:∀ i,i < ops.length→(listed.setIfInBounds j true).getD i true=decide (i < j + 1):=by
      intro i hi
      by_cases e:i=j
      ·subst e;rw [zN (by omega)];simp
      ·rw [zo e]
       by_cases e3:i < j
       ·by_cases e2:i=jc
        ·subst e2;rw [hjcl];simp;omega
        ·rw [hpre i e3 e2];simp;omega
       ·rw [hm.notail i (by omega) hi];simp;omega
     exact Oper.wp_mono (fun a2 w2 hh=>YE hT fuel (j + 1) _ a2 w2 (Nat.le_refl _) (hcnt _ hcount hs' hex) hs' hex hh) hwl
   ·have:=hready k (htail j o ho (by omega) k hjk)
    rw [←Xa (by omega),hk0] at this;cases this
  ·
   have hjj:j=jc:=by
    rcases Nat.lt_or_ge j (k + 1) with h1|h1
    ·have:=hex j hjlt
     rw [hun] at this
     have h2:decide (j < k + 1)=true:=decide_eq_true h1
     rw [h2] at this
     simpa using this
    ·have:=hready jc (htail j o ho h1 jc (by omega))
     rw [←Xa (by omega),hex jc (by omega)] at this;simp at this
   subst hjj
   rw [hoc] at ho;cases ho
   unfold wpOp
   simp only [List.getElem?_toArray,hoc]
   rw [if_pos (by simp [Region.wanted,hgc])]
   refine .inl ?_
   unfold Oper.wp
   rw [runc]
   simp only [Oper.upon,hdc]
   rw [hv]
   have hex2:∀ i,i < ops.length→(listed.setIfInBounds j true).getD i true=decide (i < k + 1):=by
    intro i hi
    by_cases e:i=j
    ·subst e;rw [zN (by omega)];simp;omega
    ·rw [zo e,hex i hi];simp [e]
   exact YE hT fuel (k + 1) _ _ w (Nat.le_refl _) (hcnt _ hcount hs' hex2) hs' hex2 hT2
def zjd (ops:List Oper) (oc:Oper) (k jc c tA r:Nat):Bool :=
 qH ops (ops.take k)&&VY ops&&Yz ops (k + 1)&&((List.range k).all fun j=>j==jc||implied ops ops.length k j)&&Nat.blt jc k&&oc.after.isEmpty&&!(c==tA)&&!(tA==r)&&!(c==r)
theorem zgi {QQ:QC} {id:Nat} (k jc:Nat) {c tA r:Nat} {oA oc:Oper} (hok:YL ops (k + 1)=true) (hm:P.follows .mixedOrders=true)
  (hA:(zx (k + 1) ops 0)[k]?=some oA) (hgA:oA.guard=none) (hdA:oA.dst=some tA) (hoc:(zx (k + 1) ops 0)[jc]?=some oc) (hpc:oc.op=.move (.tmp r)) (hgc:oc.guard=none) (hdc:oc.dst=some c) (hbl:zlk P oA c)
  (hchk:zjd (zx (k + 1) ops 0) oc k jc c tA r=true)
  (h:AD P n g H (zx (k + 1) ops 0) (fun env'=>AO P n g (zx (k + 1) ops 0).toArray ((zx (k + 1) ops 0).drop k) env' H (fun env' H'=>QQ .normal env' H')) ((zx (k + 1) ops 0).take k) env) (hnd:yP ops=true:=by kernel_rfl):AW P n g (.region id ops.toArray true) env H QQ:=by
 simp only [zjd,Bool.and_eq_true,Bool.not_eq_true',beq_eq_false_iff_ne] at hchk
 obtain ⟨⟨⟨⟨⟨⟨⟨⟨hB,hE⟩,hT⟩,himp⟩,hjc⟩,hec⟩,x1⟩,x2⟩,x3⟩:=hchk
 have hjc':=Nat.le_of_ble_eq_true hjc
 obtain ⟨s⟩:=XK h
 refine ⟨fun a w hi rr dd=>?_⟩
 refine wpIn_mono (QZ (R:=fun a' w'=>∃ env' H',Inv n g env' H' a' w'∧QQ .normal env' H') hnd hm ?_) (fun e a' w' h=>by obtain ⟨rfl,h⟩:=h;exact h)
 have hlen:=ZU (k + 1) ops 0
 refine QE hok _ _ _ _ (by simp) ?_ ?_
 ·intro j o ho hl
  have hlt:=(List.getElem?_eq_some_iff.1 ho).1
  simp [Array.getD_eq_getD_getElem?,hlt] at hl
 obtain ⟨h1,h2,K,ρ,hf,he⟩:=hi
 have hev:Evo K K w { w with drawn:=w.drawn + 1 }:=(Evo.refl hf.lt).drew
 have hsz:ops.toArray.size=(zx (k + 1) ops 0).length:=by simp [hlen]
 rw [hsz]
 generalize zx (k + 1) ops 0=ops' at *
 have hklt:=(List.getElem?_eq_some_iff.1 hA).1
 have hlk:(ops'.take k).length=k:=by simp;omega
 refine ziE (jc:=jc) (by simp [hlk]) hlk s hB hE hT hA hgA hdA (fun j hj hne=>?_) hjc' hoc hpc hgc hdc (fun i=>?_) hbl x1 x2 x3 (fun e a w hh=>hh.1) (fun env' a' w' h hi'=>ql (fun e a' w' ⟨env',H',h1,h2,h3⟩=>⟨h2,env',H',h1,h3⟩) (h.go a' w' hi')) _ _ _ _ (by simp) (by simp) ?_ (.inl ⟨?_,h1,h2,by simp,by rw [hlk];omega,?_,?_,K,ρ,hf.evo hev,?_,?_⟩)
 ·have:=List.all_eq_true.1 himp j (List.mem_range.2 hj)
  rw [Bool.or_eq_true,beq_iff_eq] at this
  exact this.resolve_left hne
 ·have:oc.after=#[]:=by simpa using hec
  simp [zA,this]
 ·intro j o ho hl
  have hlt:=(List.getElem?_eq_some_iff.1 ho).1
  simp [Array.getD_eq_getD_getElem?,hlt] at hl
 ·simp [Array.getD_eq_getD_getElem?,hklt]
 ·intro j _ hj
  simp [Array.getD_eq_getD_getElem?,hj]
 ·intro i o ho hli
  have hlt:=(List.getElem?_eq_some_iff.1 ho).1
  have:i < ops'.length:=by simp at hlt;omega
  simp [Array.getD_eq_getD_getElem?,this] at hli
 ·intro i o ri t ho hli
  have hlt:=(List.getElem?_eq_some_iff.1 ho).1
  have:i < ops'.length:=by simp at hlt;omega
  simp [Array.getD_eq_getD_getElem?,this] at hli
 ·intro t av hav _
  obtain ⟨v,v1,v2⟩:=he t av hav
  exact ⟨v,v1,v2.later (hev.later hf.lt)⟩
end
end Go.Cg
