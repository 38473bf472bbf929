/- A part of the walks by abstract values: no statement of its own. -/
import Derived.Test.YthekdpbplmigeaaGreatU5
import Derived.Test.YthekdpbplmigeaaGreatU4
import Derived.Shelf.RegionOpenPlain
import Derived.WalkKit
import Derived.Lib.Walk
import Derived.Lib.SliceRun
import Derived.Lib.AppendZerosOnto
namespace Go.Cg
open Go.RowKit
section
variable {P : Program} {tb : Tab} {n : Nat} {g : Base} {H : HEnv} {env : Env} {ops ops' : List Oper} {Q : Env → Prop}
theorem hasEdge_after {o o' : Oper} (h : o.after = o'.after) (j : Nat) : hasEdge o j = hasEdge o' j := by unfold hasEdge; rw [h]
theorem count_next {listed : Array Bool} {j fuel : Nat} (hlt : j < listed.size) (hun : listed.getD j true = false) (hc : (listed.toList.filter (! ·)).length = fuel + 1) : ((listed.setIfInBounds j true).toList.filter (! ·)).length = fuel := by
 have hlt' : j < listed.toList.length := by simpa using hlt
 have hjf : listed.toList[j] = false := by
  rw [Array.getD_eq_getD_getElem?, Array.getElem?_eq_getElem hlt] at hun
  simpa using hun
 have e1 : listed.toList = listed.toList.take j ++ false :: listed.toList.drop (j + 1) := by
  rw [← hjf, List.getElem_cons_drop, List.take_append_drop]
 rw [Array.toList_setIfInBounds, List.set_eq_take_append_cons_drop, if_pos hlt']
 rw [e1] at hc
 simp only [List.filter_append, List.length_append, List.filter_cons, Bool.not_false, if_true, List.length_cons, Bool.not_true, Bool.false_eq_true, if_false] at hc ⊢
 omega
def BI (g : Base) (H : HEnv) (ja js ta : Nat) (ty : TypeId) (zc : Array Value) (r : AV) (listed : Array Bool) (a : Act) (w : World) (K : KK) (ρ : Nat → Value) : Prop :=
 listed.getD ja true = true → ∃ b, a.tmps[ta]? = some (.pointer (some ⟨b, 0, none⟩)) ∧
  ((listed.getD js true = false ∧ Blk g K ρ H w b ty zc) ∨ (listed.getD js true = true ∧ ∃ ru, ARel K w ρ H r ru ∧ Blk g K ρ H w b ty ru.cells))
theorem wpAny_blk {ja js t' ta tx jx : Nat} {oa os ox : Oper} {ty : TypeId} {z : Value} {za v r : AV} {R : Exit → Act → World → Prop} (htb : TabOK P tb) (hsh : ops' = shadowFrom ja js t' n ops 0) (hB : drawOk ops' ops' = true) (s : Script P n g H ops' ops' env Q)
  (hoa : ops[ja]? = some oa) (hopa : oa.op = .alloc ty) (hda : oa.dst = some ta) (hta : ta < n) (hga : oa.guard = none)
  (hos : ops[js]? = some os) (hops : os.op = .store ty (.tmp ta) (.tmp tx)) (hds : os.dst = none) (hgs : os.guard = none) (ht' : t' < n)
  (hne : ja ≠ js) (hea : hasEdge os ja = true) (hex : hasEdge os jx = true) (hox : ops'[jx]? = some ox) (hdx : ox.dst = some tx)
  (hng : ∀ (j : Nat) (o : Oper) (jj : Nat) (want : Bool), ops[j]? = some o → o.guard = some (jj, want) → jj ≠ js)
  (hz : tb.zero ty = some z) (hza : zeroAV z = some za) (hk : tb.known ty = true) (henv : env.get n = none)
  (hv : s.last.get tx = some v) (hr : storeA tb H ty za 0 v = some r) (hn : cellOk H za = true)
  (hR : ∀ a w K ρ b ru, a.tmps.size = n → a.defers = g.ds → FS g K ρ H w → EnvR K w ρ H s.last a.tmps → a.tmps[ta]? = some (.pointer (some ⟨b, 0, none⟩)) → ARel K w ρ H r ru → Blk g K ρ H w b ty ru.cells → R .normal a w) :
  ∀ (fuel : Nat) (listed : Array Bool) (a : Act) (w : World) (K : KK) (ρ : Nat → Value), (listed.toList.filter (! ·)).length = fuel → MidX P n g H ops' env Q s listed a w K ρ → BI g H ja js ta ty z.cells r listed a w K ρ →
  wpAny P .any ops.toArray R fuel listed a w := by
 have hlen : ops'.length = ops.length := by rw [hsh, shadowFrom_length]
 have hget : ∀ j, ops'[j]? = (ops[j]?).map fun o => shadowOp ja js t' n o j := by
  intro j; rw [hsh, shadowFrom_get]; simp
 have hzi : ∃ i, P.info? ty = some i ∧ i.zero = some z := by
  unfold Tab.zero at hz
  split at hz
  ·rename_i ti hti
   obtain ⟨i, e1, _, _, e4, _⟩ := tab_info htb hti
   exact ⟨i, e1, by rw [e4]; exact hz⟩
  ·cases hz
 obtain ⟨ti, hti, htz⟩ := hzi
 have hzr : ∀ (K : KK) (w : World) (ρ : Nat → Value), ARel K w ρ H za z := by
  intro K w ρ
  unfold zeroAV at hza
  split at hza
  ·rename_i cs
   split at hza
   ·rename_i ps hps
    simp only [Option.some.injEq] at hza; subst hza
    have hr := zeroPVs_rel (K := K) (w := w) hps
    have := PRel.agg ps cs.toList hr.1 (zeroPVs_one hps) hr.2
    exact .pv _ _ (by simpa using this)
   ·cases hza
  ·split at hza
   ·rename_i ho
    simp only [Option.some.injEq] at hza; subst hza
    exact .pv _ _ (.base _ ho)
   ·cases hza
 have hedges : ∀ j o, ops[j]? = some o → ∀ i, hasEdge (shadowOp ja js t' n o j) i = hasEdge o i := fun j o _ i => hasEdge_after shadowOp_after i
 have hjsl : js < ops.length := (List.getElem?_eq_some_iff.1 hos).1
 have hjal : ja < ops.length := (List.getElem?_eq_some_iff.1 hoa).1
 have fin : ∀ (listed : Array Bool) (a : Act) (w : World) (K : KK) (ρ : Nat → Value), (∀ j, j < ops.length → listed.getD j true = true) → MidX P n g H ops' env Q s listed a w K ρ → BI g H ja js ta ty z.cells r listed a w K ρ → R .normal a w := by
  intro listed a w K ρ hall hm hb
  obtain ⟨b, b1, b2⟩ := hb (hall ja hjal)
  rcases b2 with ⟨b2, _⟩ | ⟨_, ru, b3, b4⟩
  ·rw [hall js hjsl] at b2; cases b2
  ·exact hR a w K ρ b ru hm.size hm.defers hm.fs (hm.done (fun j hj => hall j (by omega))) b1 b3 b4
 intro fuel
 induction fuel with
 | zero =>
  intro listed a w K ρ hc hm hb
  have hall : ∀ j, j < ops.length → listed.getD j true = true := by
   intro j hj
   have hn := List.filter_eq_nil_iff.1 (List.eq_nil_of_length_eq_zero hc)
   have hlt : j < listed.size := by rw [hm.lsize, hlen]; exact hj
   have := hn listed[j] (by simp)
   simp only [Bool.not_eq_true', Bool.not_eq_false] at this
   rw [Array.getD_eq_getD_getElem?, Array.getElem?_eq_getElem hlt]
   simpa using this
  refine ⟨?_, fin listed a w K ρ hall hm hb⟩
  rw [List.eq_nil_iff_forall_not_mem]
  intro j hj
  obtain ⟨o, ho, hun, _⟩ := mem_ready_iff.1 hj
  rw [hall j (List.getElem?_eq_some_iff.1 ho).1] at hun; cases hun
 | succ fuel ih =>
  intro listed a w K ρ hc hm hb
  refine ⟨fun h0 => ?_, fun j hj => ?_⟩
  ·
   refine fin listed a w K ρ (fun j hj => ?_) hm hb
   induction j using Nat.strongRecOn with
   | _ j ihj =>
    cases hun : listed.getD j true
    ·exfalso
     have ho := List.getElem?_eq_getElem hj
     have : j ∈ Region.ready .any ops.toArray listed := mem_ready_iff.2 ⟨_, ho, hun, fun i hi => by
      have ho' : ops'[j]? = some (shadowOp ja js t' n ops[j] j) := by rw [hget, ho]; rfl
      have hij := (drawOk_at hB ho').2.1 i (by rw [hedges j _ ho]; exact hi)
      have hi2 := ihj i hij (by omega)
      have hlt : i < listed.size := by rw [hm.lsize, hlen]; omega
      rw [Array.getD_eq_getD_getElem?, Array.getElem?_eq_getElem hlt] at hi2 ⊢
      exact hi2⟩
     rw [h0] at this; cases this
    ·rfl
  obtain ⟨o, ho, hun, hready⟩ := mem_ready_iff.1 hj
  have hjlt := (List.getElem?_eq_some_iff.1 ho).1
  have hjl : j < listed.size := by rw [hm.lsize, hlen]; exact hjlt
  have ho' : ops'[j]? = some (shadowOp ja js t' n o j) := by rw [hget, ho]; rfl
  have hready' : ∀ i, hasEdge (shadowOp ja js t' n o j) i = true → listed.getD i false = true := fun i hi => hready i (by rw [← hedges j o ho]; exact hi)
  have hcount := count_next hjl hun hc
  have hft : ∀ i, listed.getD i false = true → listed.getD i true = true := by
   intro i hi
   rw [Array.getD_eq_getD_getElem?] at hi ⊢
   cases h : listed[i]? with
   | none => rfl
   | some b => rw [h] at hi; exact hi
  have hrj : s.r[j]? = some (s.r[j]'(by rw [s.lenr, hlen]; exact hjlt)) := List.getElem?_eq_getElem _
  generalize s.r[j]'(by rw [s.lenr, hlen]; exact hjlt) = rj at hrj
  unfold wpOp
  simp only [List.getElem?_toArray, ho]
  have hBI_set : ∀ (j' : Nat), j' = j → j ≠ js → ∀ (a' : Act) (w' : World) (K' : KK), (∀ b, a.tmps[ta]? = some (.pointer (some ⟨b, 0, none⟩)) → a'.tmps[ta]? = some (.pointer (some ⟨b, 0, none⟩))) → Evo K K' w w' → j ≠ ja → BI g H ja js ta ty z.cells r (listed.setIfInBounds j true) a' w' K' ρ := by
   intro _ _ hjs a' w' K' hta' hev hja hl
   rw [getD_set_other (Ne.symm hja)] at hl
   obtain ⟨b, b1, b2⟩ := hb hl
   refine ⟨b, hta' b b1, ?_⟩
   rw [getD_set_other (Ne.symm hjs)]
   rcases b2 with ⟨e1, e2⟩ | ⟨e1, ru, e2, e3⟩
   ·exact .inl ⟨e1, e2.evo hev⟩
   ·exact .inr ⟨e1, ru, e2.later (hev.later hm.fs.lt), e3.evo hev⟩
  by_cases hja : j = ja
  ·
   subst hja
   rw [hoa] at ho; cases ho
   have hw : Region.wanted oa (yielded ops.toArray a.tmps) = true := by simp [Region.wanted, hga]
   rw [if_pos hw]
   refine .inl ?_
   have hrun : (execOp a.eval oa).run P w = .ok (.value (.pointer (some ⟨w.heap.size, 0, none⟩))) (w.alloc (.cells z.cells ty)) := by
    simp [execOp, hopa, Instr.alloc, zeroValue, typeInfo, hti, htz, newVar, newRow]
   unfold Oper.wp
   rw [hrun]
   simp only [Oper.upon]
   have hev : Evo K K w (w.alloc (.cells z.cells ty)) := ⟨(Below.refl _ _).alloc (Nat.le_refl _) _, fun _ _ h => h, fun _ _ h => .inl h, fun b o h => by have := hm.fs.lt b o h; simp; omega⟩
   have hfs := hm.fs.evo hev
   have hbeq : Nat.beq j j = true := Nat.beq_refl j
   have hop : (shadowOp j js t' n oa j).op = .move (.tmp n) := by unfold shadowOp; rw [hbeq]
   have hds' : (shadowOp j js t' n oa j).dst = some ta := by rw [shadowOp_dst hne]; exact hda
   have hgs' : (shadowOp j js t' n oa j).guard = none := by rw [shadowOp_guard]; exact hga
   rw [hda]
   refine ih _ _ _ K ρ hcount (hm.next hB ho' hrj hds' hta hun hready' hfs (hev.later hm.fs.lt) (shadow_any a ho' hrj hop hgs' henv hfs _)) ?_
   intro _
   refine ⟨w.heap.size, by simp only [Act.put]; rw [Array.getElem?_setIfInBounds_self_of_lt (by rw [hm.size]; exact hta)], .inl ⟨?_, hm.fs.below.size, heap_alloc_new w _, fun o ho => by have := hm.fs.lt _ o ho; omega, fun k h hk hl hbk => ?_, hm.fs.pt.lt (Nat.le_refl _)⟩⟩
   ·rw [getD_set_other (Ne.symm hne)]
    cases hjs : listed.getD js true
    ·rfl
    ·have hos' : ops'[js]? = some (shadowOp j js t' n os js) := by rw [hget, hos]; rfl
     have := hft _ (hm.closed js _ hos' hjs j (by rw [hedges js os hos]; exact hea))
     rw [hun] at this; cases this
   ·have := ((hm.fs.heap.ok k h hk).block_lt hl hbk).2
    omega
  by_cases hjs : j = js
  ·
   subst hjs
   rw [hos] at ho; cases ho
   have hw : Region.wanted os (yielded ops.toArray a.tmps) = true := by simp [Region.wanted, hgs]
   rw [if_pos hw]
   refine .inl ?_
   have hlja := hft _ (hready ja hea)
   obtain ⟨b, b1, b2⟩ := hb hlja
   have hblk : Blk g K ρ H w b ty z.cells := by
    rcases b2 with ⟨_, h⟩ | ⟨h, _⟩
    ·exact h
    ·rw [hun] at h; cases h
   obtain ⟨u, u1, u2⟩ := hm.early hB hox hdx (hft _ (hready jx hex)) hv
   obtain ⟨s1, s2, s3, ru, hru, hcells⟩ := storeA_rel hr (hzr K w ρ) u2 (row_one hm.fs) (cell_flat hm.fs (hzr K w ρ) hn)
   have hko : tb.k ty ≠ .oth := by intro e; simp [Tab.known, e] at hk
   have hs := run_sizeOf htb hko w
   have hst := run_storeCells_at P b 0 ty u.cells.toList 0 z.cells w hblk.heap (by simp; omega) s2
   have ha1 : a.eval (.tmp ta) = .pointer (some ⟨b, 0, none⟩) := by simp [Act.eval, Array.getD_eq_getD_getElem?, b1]
   have ha2 : a.eval (.tmp tx) = u := by simp [Act.eval, Array.getD_eq_getD_getElem?, u1]
   have hrun : (execOp a.eval os).run P w = .ok .skip (w.setRow b ru.cells) := by
    simp only [Nat.add_zero, Array.length_toList, s1] at hst
    rw [← hcells, Array.toArray_toList] at hst
    simp [execOp, hops, ha1, ha2, Instr.storeAt, Instr.sureAddr, storeVar, hs, s1, hst]
   unfold Oper.wp
   rw [hrun]
   simp only [Oper.upon]
   obtain ⟨f1, f2, f3⟩ := hblk.set (arr' := ru.cells) hm.fs
   have hbeq : Nat.beq j j = true := Nat.beq_refl j
   have hbne : Nat.beq j ja = false := by cases h : Nat.beq j ja; rfl; exact absurd (Nat.eq_of_beq_eq_true h) hja
   have hop : (shadowOp ja j t' n os j).op = .move (.tmp n) := by unfold shadowOp; rw [hbne, hbeq]
   have hds' : (shadowOp ja j t' n os j).dst = some t' := by unfold shadowOp; rw [hbne, hbeq]
   have hgs' : (shadowOp ja j t' n os j).guard = none := by rw [shadowOp_guard]; exact hgs
   have hd' : a.put os.dst undef = a := by rw [hds]; rfl
   rw [hd']
   refine ih _ _ _ K ρ hcount (hm.nop ho' hrj (fun u => shadow_any a ho' hrj hop hgs' henv f1 u) hds' ht' hun hready' f1 f3) ?_
   intro _
   exact ⟨b, b1, .inr ⟨getD_set_same hjl, ru, hru.later f3, f2⟩⟩
  ·
   have hpure : shadowOp ja js t' n o j = o := shadowOp_pure hja hjs
   rw [hpure] at ho' hready'
   have hej : s.e[j]? = some (s.e[j]'(by rw [s.lene, hlen]; exact hjlt)) := List.getElem?_eq_getElem _
   generalize s.e[j]'(by rw [s.lene, hlen]; exact hjlt) = ej at hej
   obtain ⟨t, hd, ht, hor⟩ := s.ok j o rj ej ho' hrj hej
   have hreads := hm.mid.reads hB ho' hej hun hready' hm.hl hm.he
   have htta : t ≠ ta := by
    rintro rfl
    have hoa' : ops'[ja]? = some (shadowOp ja js t' n oa ja) := by rw [hget, hoa]; rfl
    have hda' : (shadowOp ja js t' n oa ja).dst = some t := by rw [shadowOp_dst hne]; exact hda
    exact (drawOk_at hB hoa').2.2.1 j o ho' hja (by rw [hd, hda'])
   have hkeep : ∀ v b, a.tmps[ta]? = some (.pointer (some ⟨b, 0, none⟩)) → (a.put (some t) v).tmps[ta]? = some (.pointer (some ⟨b, 0, none⟩)) := by
    intro v b h
    simp only [Act.put]; rw [Array.getElem?_setIfInBounds_ne htta]; exact h
   have hwanted : ∀ b, guardE ops' ej o = some b → Region.wanted o (yielded ops.toArray a.tmps) = b := by
    intro b hgb
    unfold guardE guardVar at hgb
    cases hg : o.guard with
    | none => simp [hg] at hgb; subst hgb; simp [Region.wanted, hg]
    | some x =>
     obtain ⟨jj, want⟩ := x
     have hjj' := hng j o jj want ho hg
     simp only [hg] at hgb
     cases hjj : ops[jj]? with
     | none => rw [hget, hjj] at hgb; simp at hgb
     | some o' =>
      have hS : ops'[jj]? = some (shadowOp ja js t' n o' jj) := by rw [hget, hjj]; rfl
      have hSd : (shadowOp ja js t' n o' jj).dst = o'.dst := shadowOp_dst hjj'
      simp only [hS] at hgb
      cases hd' : o'.dst with
      | none => rw [hSd, hd'] at hgb; simp at hgb
      | some t2 =>
       rw [hSd, hd'] at hgb
       simp only at hgb
       have hmem : t2 ∈ readsOf ops' o := by simp [readsOf, guardVar, hg, hS, hSd, hd']
       split at hgb
       ·rename_i bb hbb
        simp only [Option.some.injEq] at hgb; subst hgb
        obtain ⟨v, v1, v2⟩ := hreads t2 hmem _ hbb
        cases v2 with
        | pv _ _ hp => cases hp; simp only [Region.wanted, hg, yielded, List.getElem?_toArray, hjj, Option.bind_some, hd', v1]; cases bb <;> cases want <;> rfl
       ·rename_i vs hbb
        simp only [Option.some.injEq] at hgb; subst hgb
        obtain ⟨v, v1, v2⟩ := hreads t2 hmem _ hbb
        cases v2 with
        | pv _ _ hp => cases hp; simp only [Region.wanted, hg, yielded, List.getElem?_toArray, hjj, Option.bind_some, hd', v1]; cases want <;> rfl
       ·cases hgb
   rcases hor with ⟨hgt, hqs⟩ | ⟨hgf, rfl⟩
   ·rw [hwanted true hgt, if_pos rfl]
    refine .inl ?_
    unfold Oper.wp
    have hqr := hqs.go K ρ a w hm.fs (fun x hx av hxv => by
     cases x with
     | tmp t' =>
      obtain ⟨v, v1, v2⟩ := hreads t' (by
       unfold readsOf
       exact List.mem_append_left _ (mem_opTmps (Array.mem_toList_iff.2 hx))) av hxv
      simpa [Act.eval, Array.getD_eq_getD_getElem?, v1] using v2
     | const v =>
      simp only [Env.val] at hxv
      split at hxv
      ·rename_i h1; simp only [Option.some.injEq] at hxv; subst hxv; exact .pv _ _ (.base v h1)
      ·cases hxv
     | func f =>
      simp only [Env.val, Option.some.injEq] at hxv; subst hxv
      exact .pv _ _ (.fn (.func f) [] [] [] [] rfl rfl (by simp) (by simp))
     | global gg =>
      simp only [Env.val, Option.some.injEq] at hxv; subst hxv
      exact .pv _ _ (.base _ rfl))
    generalize (execOp a.eval o).run P w = res at hqr
    cases res with
    | halt x w' => simp only [QRes] at hqr
    | ok nx w' =>
     cases nx <;> simp only [QRes] at hqr <;> simp only [Oper.upon]
     case value v =>
      obtain ⟨K', hev, hv'⟩ := hqr
      rw [hd]
      exact ih _ _ _ K' ρ hcount (hm.next hB ho' hrj hd ht hun hready' (hm.fs.evo hev) (hev.later hm.fs.lt) hv') (hBI_set j rfl hjs _ _ _ (hkeep v) hev hja)
     case enter f args =>
      obtain ⟨rfl, hc'⟩ := hqr
      refine hc'.mono fun e w'' ⟨v, K', he', hev, hv'⟩ => ?_
      subst he'
      rw [hd]
      exact ih _ _ _ K' ρ hcount (hm.next hB ho' hrj hd ht hun hready' (hm.fs.evo hev) (hev.later hm.fs.lt) hv') (hBI_set j rfl hjs _ _ _ (hkeep v) hev hja)
   ·rw [hwanted false hgf, if_neg (by simp)]
    rw [hd]
    exact ih _ _ _ K ρ hcount (hm.next hB ho' hrj hd ht hun hready' hm.fs (Later.refl _ _) undef_rel) (hBI_set j rfl hjs _ _ _ (hkeep undef) (.refl hm.fs.lt) hja)
def noGuardOn (js : Nat) (ops : List Oper) : Bool := ops.all fun o => match o.guard with | some (jj, _) => !Nat.beq jj js | none => true
theorem aw_draw_box {QQ : QC} {id : Nat} (i ja js t' : Nat) {ta tx : Nat} (jx : Nat) {oa os ox : Oper} {ty : TypeId} {z : Value} {za : AV} (htb : TabOK P tb) (hm : P.follows .mixedOrders = true) (hB : drawOk (shadowFrom ja js t' n ops 0) (shadowFrom ja js t' n ops 0) = true)
  (hoa : ops[ja]? = some oa) (hopa : oa.op = .alloc ty) (hda : oa.dst = some ta) (hta : Nat.blt ta n = true) (hga : oa.guard = none)
  (hos : ops[js]? = some os) (hops : os.op = .store ty (.tmp ta) (.tmp tx)) (hds : os.dst = none) (hgs : os.guard = none) (ht' : Nat.blt t' n = true)
  (hne : Nat.beq ja js = false) (hea : hasEdge os ja = true) (hex : hasEdge os jx = true) (hox : (shadowFrom ja js t' n ops 0)[jx]? = some ox) (hdx : ox.dst = some tx)
  (hng : noGuardOn js ops = true) (hz : tb.zero ty = some z) (hza : zeroAV z = some za) (hk : tb.known ty = true) (henv : env.get n = none) (hn : cellOk H za = true) (hi : H.get i = none)
  (h : AD P n g H (shadowFrom ja js t' n ops 0) (fun env' => ∃ v r, env'.get tx = some v ∧ storeA tb H ty za 0 v = some r ∧ QQ .normal ((ta, .box i 0) :: env') ((i, .cell r) :: H)) (shadowFrom ja js t' n ops 0) env) (hnd : noDefer ops = true := by kernel_rfl) : AW P n g (.region id ops.toArray true) env H QQ := by
 obtain ⟨s⟩ := script_of h
 obtain ⟨v, r, hv, hr, hQ⟩ := s.fin
 have hlen : (shadowFrom ja js t' n ops 0).length = ops.length := shadowFrom_length ..
 refine ⟨fun a w hinv rr dd => ?_⟩
 refine wpIn_mono (region_anyR (R := fun a' w' => ∃ env' H', Inv n g env' H' a' w' ∧ QQ .normal env' H') hnd hm ?_) (fun e a' w' h => by obtain ⟨rfl, h⟩ := h; exact h)
 obtain ⟨h1, h2, K, ρ, hf, he⟩ := hinv
 have hev : Evo K K w { w with drawn := w.drawn + 1 } := (Evo.refl hf.lt).drew
 refine wpAny_blk (za := za) (v := v) (r := r) (ja := ja) (js := js) (t' := t') (jx := jx) htb rfl hB s hoa hopa hda (Nat.le_of_ble_eq_true hta) hga hos hops hds hgs (Nat.le_of_ble_eq_true ht') (Nat.ne_of_beq_eq_false hne) hea hex hox hdx ?_ hz hza hk henv hv hr hn ?_ _ _ a _ K ρ ?_ ⟨h1, h2, by simp [hlen], ?_, hf.evo hev, ?_, ?_⟩ ?_
 ·intro j o jj want ho hg
  have := List.all_eq_true.1 hng o (List.mem_of_getElem? ho)
  simp only [hg, Bool.not_eq_true'] at this
  exact Nat.ne_of_beq_eq_false this
 ·intro a' w' K' ρ' b ru q1 q2 q3 q4 q5 q6 q7
  have hown := q7.own q3 hi q6 rfl
  refine ⟨rfl, _, _, ⟨q1, q2, K', fun j => if j = i then .pointer (some ⟨b, 0, none⟩) else ρ' j, hown, ?_⟩, hQ⟩
  have he' := q4.keeps (Later.refl K' w') (fresh_keeps (ρ := ρ') hi (.cell r) (.pointer (some ⟨b, 0, none⟩)))
  intro t av hg
  simp only [Env.get_cons] at hg
  split at hg
  ·rename_i e; subst e
   simp only [Option.some.injEq] at hg; subst hg
   exact ⟨_, q5, .box i 0 b (by simp [HEnv.get_cons]) (by simp)⟩
  ·exact he' t av hg
 ·simp
 ·intro i o ho hli
  have hlt := (List.getElem?_eq_some_iff.1 ho).1
  have : i < ops.length := by omega
  simp [Array.getD_eq_getD_getElem?, this] at hli
 ·intro i o ri t ho hli
  have hlt := (List.getElem?_eq_some_iff.1 ho).1
  have : i < ops.length := by omega
  simp [Array.getD_eq_getD_getElem?, this] at hli
 ·intro t av hav _
  obtain ⟨v, v1, v2⟩ := he t av hav
  exact ⟨v, v1, v2.later (hev.later hf.lt)⟩
 ·intro hl
  have hjal : ja < ops.length := (List.getElem?_eq_some_iff.1 hoa).1
  simp [Array.getD_eq_getD_getElem?, hjal] at hl
end
end Go.Cg
namespace Go.Cg
open Go.Proofs
def fieldsOf (g : Img) (t : Int) : List Int := (nums g.fields.length).filter fun i => there g t && (g.fields.getD i.toNat default).owner == t
def methodsOf (g : Img) (t : Int) : List Int := (nums g.methods.length).filter fun i => there g t && (g.methods.getD i.toNat default).owner == t
theorem nums_get {n k : Nat} (h : k < (nums n).length) : (nums n)[k] = (k : Int) := by simp [nums]
theorem nums_len (n : Nat) : (nums n).length = n := by simp [nums]
set_option maxHeartbeats 1000000 in
theorem FieldsR_call (g : Img) (t : Int) (hg : g.fields.length ≤ 1000) : ACall Tryz.prog 254 [imgPV g, pi t] (ints (fieldsOf g t)) := by
 refine acall_intro tbOK Tryz.func254 rfl (by kernel_rfl) Tryz.ntmps254 (by simp) _ rfl (fun hw gB hgB => ?_)
 repeat' (first | refine sA ?_ | refine sC (fun _ => ?_) (fun _ => ?_) | fail)
 refine aw_own_nil (t := 5) 0 3 1 (by decide) rfl rfl ?_
 refine aw_loop (fun x : Nat × List Int => [(1, .pv (pi t)), (2, .pv (.ptr (imgPV g) 0)), (5, .own 0), (6, .pv (pi x.1))]) (fun x => [(0, .row 3 1 (x.2.map pi))])
  (fun x => x.1 ≤ g.fields.length ∧ x.2.length ≤ x.1 ∧ x.2 ++ ((nums g.fields.length).drop x.1).filter (fun i => there g t && (g.fields.getD i.toNat default).owner == t) = fieldsOf g t) (fun x => g.fields.length - x.1) (0, []) ⟨by simp, by simp, rfl⟩ (tS) ⟨hsub_cons rfl hsub_nil, rfl⟩ ?_
 rintro ⟨k, out⟩ ⟨hk, hol, hr⟩
 simp only at hk hol hr
 by_cases hlt : k < g.fields.length
 ·have he := map_get (f := fdPV) hlt
  rw [drop_cons (by simpa [nums] using hlt), List.filter_cons, nums_get, Int.toNat_natCast, getD_get hlt] at hr
  have c1 := There_call g t
  cases hth : there g t
  ·rw [hth] at c1
   repeat' (first | (refine shC ?_; first | refine qC c1 ?_) | refine sK ?_ | refine sC (fun _ => ?_) (fun _ => ?_) | fail)
   exact ⟨(k + 1, out), ⟨by simp; omega, by simp; omega, by simpa [hth] using hr⟩, tD, tS, ⟨hsub_r rfl rfl hsub_nil, rfl⟩⟩
  ·rw [hth] at c1
   repeat' (first | (refine shC ?_; first | refine qC c1 ?_) | (refine shX ?_; first | refine qX he ?_) | (refine ao_sh_bi ?_; first | refine ao_append tbOK rfl rfl rfl rfl rfl rfl rfl (by show _ * 8 ≤ _; simp; omega) (by simp; omega) rfl rfl ?_) | refine sK ?_ | refine sC (fun _ => ?_) (fun _ => ?_) | fail)
   ·rename_i hx
    rw [hth, hx] at hr
    exact ⟨(k + 1, out ++ [(k : Int)]), ⟨by simp; omega, by simp; omega, by simpa [hth] using hr⟩, tD, tS, ⟨hsub_r rfl (by simp) hsub_nil, rfl⟩⟩
   ·rename_i hx
    rw [hth, hx] at hr
    exact ⟨(k + 1, out), ⟨by simp; omega, by simp; omega, by simpa [hth] using hr⟩, tD, tS, ⟨hsub_r rfl rfl hsub_nil, rfl⟩⟩
 ·rw [drop_end (by simp [nums]; omega)] at hr
  repeat' (first | refine sK ?_ | refine sC (fun _ => ?_) (fun _ => ?_) | fail)
  exact retq rfl (by rw [← hr]; simp [retPV, ints])
set_option maxHeartbeats 1000000 in
theorem MethodsR_call (g : Img) (t : Int) (hg : g.methods.length ≤ 1000) : ACall Tryz.prog 143 [imgPV g, pi t] (ints (methodsOf g t)) := by
 refine acall_intro tbOK Tryz.func143 rfl (by kernel_rfl) Tryz.ntmps143 (by simp) _ rfl (fun hw gB hgB => ?_)
 repeat' (first | refine sA ?_ | refine sC (fun _ => ?_) (fun _ => ?_) | fail)
 refine aw_own_nil (t := 5) 0 3 1 (by decide) rfl rfl ?_
 refine aw_loop (fun x : Nat × List Int => [(1, .pv (pi t)), (2, .pv (.ptr (imgPV g) 0)), (5, .own 0), (6, .pv (pi x.1))]) (fun x => [(0, .row 3 1 (x.2.map pi))])
  (fun x => x.1 ≤ g.methods.length ∧ x.2.length ≤ x.1 ∧ x.2 ++ ((nums g.methods.length).drop x.1).filter (fun i => there g t && (g.methods.getD i.toNat default).owner == t) = methodsOf g t) (fun x => g.methods.length - x.1) (0, []) ⟨by simp, by simp, rfl⟩ (tS) ⟨hsub_cons rfl hsub_nil, rfl⟩ ?_
 rintro ⟨k, out⟩ ⟨hk, hol, hr⟩
 simp only at hk hol hr
 by_cases hlt : k < g.methods.length
 ·have he := map_get (f := mePV) hlt
  rw [drop_cons (by simpa [nums] using hlt), List.filter_cons, nums_get, Int.toNat_natCast, getD_get hlt] at hr
  have c1 := There_call g t
  cases hth : there g t
  ·rw [hth] at c1
   repeat' (first | (refine shC ?_; first | refine qC c1 ?_) | refine sK ?_ | refine sC (fun _ => ?_) (fun _ => ?_) | fail)
   exact ⟨(k + 1, out), ⟨by simp; omega, by simp; omega, by simpa [hth] using hr⟩, tD, tS, ⟨hsub_r rfl rfl hsub_nil, rfl⟩⟩
  ·rw [hth] at c1
   repeat' (first | (refine shC ?_; first | refine qC c1 ?_) | (refine shX ?_; first | refine qX he ?_) | (refine ao_sh_bi ?_; first | refine ao_append tbOK rfl rfl rfl rfl rfl rfl rfl (by show _ * 8 ≤ _; simp; omega) (by simp; omega) rfl rfl ?_) | refine sK ?_ | refine sC (fun _ => ?_) (fun _ => ?_) | fail)
   ·rename_i hx
    rw [hth, hx] at hr
    exact ⟨(k + 1, out ++ [(k : Int)]), ⟨by simp; omega, by simp; omega, by simpa [hth] using hr⟩, tD, tS, ⟨hsub_r rfl (by simp) hsub_nil, rfl⟩⟩
   ·rename_i hx
    rw [hth, hx] at hr
    exact ⟨(k + 1, out), ⟨by simp; omega, by simp; omega, by simpa [hth] using hr⟩, tD, tS, ⟨hsub_r rfl rfl hsub_nil, rfl⟩⟩
 ·rw [drop_end (by simp [nums]; omega)] at hr
  repeat' (first | refine sK ?_ | refine sC (fun _ => ?_) (fun _ => ?_) | fail)
  exact retq rfl (by rw [← hr]; simp [retPV, ints])
def sameSig (a b : Me) : Bool := decide (a.ret = b.ret) && (a.flags.tmod 2 == b.flags.tmod 2) && decide (a.params = b.params)
set_option maxHeartbeats 1000000 in
theorem SameSig_call (a b : Me) : ACall Tryz.prog 255 [mePV a, mePV b] (pb (sameSig a b)) := by
 refine acall_intro tbOK Tryz.func255 rfl (by kernel_rfl) Tryz.ntmps255 (by simp) _ rfl (fun hw gB hgB => ?_)
 have hty := tyEq_iff a.ret b.ret
 repeat' (first | (refine shC ?_; first | refine qC (SameTypes_call _ _) ?_) | refine sA ?_ | refine sC (fun _ => ?_) (fun _ => ?_) | fail)
 all_goals refine retq rfl ?_
 all_goals (simp only [retPV, sameSig, ← hty]; clear hty; simp_all)
def partOk (g : Img) (i : Int) : Bool :=
 let f := g.fields.getD i.toNat default
 !f.static && f.ty.kind == 6 && f.ty.dims == 0 && kindG g f.ty.index == 1
def partsOf (g : Img) (t : Int) : List Int := ((fieldsOf g t).filter (partOk g)).map fun i => (g.fields.getD i.toNat default).ty.index
theorem fieldsOf_mem {g : Img} {t i : Int} (h : i ∈ fieldsOf g t) : 0 ≤ i ∧ i.toNat < g.fields.length := by
 simp only [fieldsOf, nums, List.mem_filter, List.mem_map, List.mem_range] at h
 obtain ⟨⟨k, hk, rfl⟩, _⟩ := h
 exact ⟨by omega, by simpa using hk⟩
theorem methodsOf_mem {g : Img} {t i : Int} (h : i ∈ methodsOf g t) : 0 ≤ i ∧ i.toNat < g.methods.length := by
 simp only [methodsOf, nums, List.mem_filter, List.mem_map, List.mem_range] at h
 obtain ⟨⟨k, hk, rfl⟩, _⟩ := h
 exact ⟨by omega, by simpa using hk⟩
theorem nums_filter_len {n : Nat} {p : Int → Bool} : ((nums n).filter p).length ≤ n := Nat.le_trans (List.length_filter_le _ _) (by simp [nums])
theorem fieldsOf_len (g : Img) (t : Int) : (fieldsOf g t).length ≤ g.fields.length := nums_filter_len
theorem methodsOf_len (g : Img) (t : Int) : (methodsOf g t).length ≤ g.methods.length := nums_filter_len
theorem map_get' {α : Type} {f : α → PV} {l : List α} {i : Int} (h : i.toNat < l.length) : (l.map f)[i.toNat]? = some (f l[i.toNat]) := by simp [h]
set_option maxHeartbeats 1000000 in
theorem PartsR_call (g : Img) (t : Int) (hg : g.fields.length ≤ 1000) : ACall Tryz.prog 256 [imgPV g, pi t] (ints (partsOf g t)) := by
 refine acall_intro tbOK Tryz.func256 rfl (by kernel_rfl) Tryz.ntmps256 (by simp) _ rfl (fun hw gB hgB => ?_)
 have hfl := fieldsOf_len g t
 repeat' (first | (refine shC ?_; first | refine qC (FieldsR_call g t hg) ?_) | refine sA ?_ | refine sC (fun _ => ?_) (fun _ => ?_) | fail)
 refine aw_own_nil (t := 5) 0 3 1 (by decide) rfl rfl ?_
 refine aw_loop (fun x : Nat × List Int => [(2, .pv (.ptr (imgPV g) 0)), (5, .own 0), (6, .pv (ints (fieldsOf g t))), (7, .pv (pi x.1))]) (fun x => [(0, .row 3 1 (x.2.map pi))])
  (fun x => x.1 ≤ (fieldsOf g t).length ∧ x.2.length ≤ x.1 ∧ x.2 ++ (((fieldsOf g t).drop x.1).filter (partOk g)).map (fun i => (g.fields.getD i.toNat default).ty.index) = partsOf g t) (fun x => (fieldsOf g t).length - x.1) (0, []) ⟨by simp, by simp, rfl⟩ (tS) ⟨hsub_cons rfl hsub_nil, rfl⟩ ?_
 rintro ⟨k, out⟩ ⟨hk, hol, hr⟩
 simp only at hk hol hr
 by_cases hlt : k < (fieldsOf g t).length
 ·have he := ints_get hlt
  obtain ⟨h0, hi⟩ := fieldsOf_mem (List.getElem_mem hlt)
  have hef := map_get' (f := fdPV) hi
  rw [drop_cons hlt, List.filter_cons, partOk] at hr
  simp only [getD_get hi] at hr
  repeat' (first | refine aw_draw_box 1 8 9 0 7 tbOK (by kernel_rfl) (by kernel_rfl) rfl rfl rfl rfl rfl rfl rfl rfl rfl rfl rfl rfl rfl rfl rfl rfl rfl rfl rfl rfl rfl rfl ?_ | refine ad_shadow rfl rfl ?_ | refine ⟨_, _, rfl, rfl, ?_⟩ | (refine shC ?_; first | refine qC (KindR_call _ _) ?_) | (refine shX ?_; first | refine qX he ?_ | refine ao_q rfl (q_index tbOK rfl rfl rfl rfl rfl rfl h0 hef) rfl rfl ?_ | refine AD.step _ _ _ _ _ rfl (q_index tbOK rfl rfl rfl rfl rfl rfl h0 hef) rfl rfl ?_) | (refine ao_sh_bi ?_; first | refine ao_append tbOK rfl rfl rfl rfl rfl rfl rfl (by show _ * 8 ≤ _; simp; omega) (by simp; omega) rfl rfl ?_) | refine sK ?_ | refine sC (fun _ => ?_) (fun _ => ?_) | fail)
  ·rw [if_pos (by simp_all)] at hr
   exact ⟨(k + 1, out ++ [g.fields[(fieldsOf g t)[k].toNat].ty.index]), ⟨by simp; omega, by simp; omega, by rw [List.map_cons, getD_get hi] at hr; simpa using hr⟩, tD, tS, ⟨hsub_r rfl (by simp) hsub_nil, rfl⟩⟩
  all_goals
   rw [if_neg (by simp_all)] at hr
   exact ⟨(k + 1, out), ⟨by simp; omega, by simp; omega, by simpa using hr⟩, tD, tS, ⟨hsub_r rfl rfl hsub_nil, rfl⟩⟩
 ·rw [drop_end (by omega)] at hr
  repeat' (first | refine sK ?_ | refine sC (fun _ => ?_) (fun _ => ?_) | fail)
  exact retq rfl (by rw [← hr]; simp [retPV, ints])
end Go.Cg
namespace Go.Cg
theorem q_slice_map {α : Type} {P : Program} {tb : Tab} {g : Base} {H : HEnv} {env : Env} {o : Oper} {f : α → PV} {xs : List α} {t e : TypeId} {x : Operand} {lo hi : Option Operand} {sz : Nat} {full : Bool} (l h : Nat) (htb : TabOK P tb) (hop : o.op = .slice t x lo hi none) (hk : tb.k t = .sl e) (hke : tb.known e = true) (hsz : tb.size e = sz) (hx : env.pv H x = some (.slc sz (xs.map f) full))
  (hlo : boundE env H 0 lo = some (l : Int)) (hhi : boundE env H (xs.map f).length hi = some (h : Int)) (h1 : l ≤ h) (h2 : h ≤ xs.length) : QStep P g H o env (.pv (.slc sz (((xs.take h).drop l).map f) false)) := by
 have := q_slice (g := g) htb hop hk hke hsz hx hlo hhi (by omega) (by omega) (by simp; omega)
 simpa [List.map_take, List.map_drop] using this
theorem q_int {P : Program} {tb : Tab} {g : Base} {H : HEnv} {env : Env} {o : Oper} {x : Int} (htb : TabOK P tb) (h : opE tb H env o = some (.pv (.base (.int .i64 (IntKind.i64.wrap x))))) (h1 : -9223372036854775808 ≤ x) (h2 : x ≤ 9223372036854775807) : QStep P g H o env (.pv (.base (.int .i64 x))) := by
 rw [wrap_in h1 h2] at h
 exact opE_sound htb h
end Go.Cg
namespace Go.Cg
open Go.Proofs
def flaggedR (td : TD) : Bool :=
 if kindR td.flags == 2 then td.ext == -1 && bitF td.flags 4 && !bitF td.flags 1 && !bitF td.flags 8 && !bitF td.flags 16
 else if kindR td.flags == 1 then td.ext == -1 && bitF td.flags 8 && !bitF td.flags 4 && !bitF td.flags 16
 else if kindR td.flags == 3 then td.ext == -1 && bitF td.flags 8 && !bitF td.flags 4 && ((td.faces.length : Int) == 0)
 else true
set_option maxHeartbeats 1000000 in
theorem flagged_call (g : Img) (t : Int) (td : TD) (htd : typeAt g t = some td) : ACall Tryz.prog 216 [imgPV g, pi t] (pb (flaggedR td)) := by
 refine acall_intro tbOK Tryz.func216 rfl (by kernel_rfl) Tryz.ntmps216 (by simp) _ rfl (fun hw gB hgB => ?_)
 obtain ⟨h0, he⟩ := typeAt_get htd
 have c1 := KindR_call g t
 rw [show kindG g t = kindR td.flags by rw [kindG, htd]] at c1
 repeat' (first | (refine shC ?_; first | refine qC c1 ?_ | refine qC (bit1_call _) ?_ | refine qC (bit2_call _) ?_ | refine qC (bit4_call _) ?_ | refine qC (bit8_call _) ?_ | refine qC (bit16_call _) ?_) | (refine shX ?_; first | refine ao_q rfl (q_index tbOK rfl rfl rfl rfl rfl rfl h0 he) rfl rfl ?_ | refine AD.step _ _ _ _ _ rfl (q_index tbOK rfl rfl rfl rfl rfl rfl h0 he) rfl rfl ?_) | refine sA ?_ | refine sC (fun _ => ?_) (fun _ => ?_) | fail)
 all_goals first | (refine retq rfl ?_; first | (simp only [retPV, flaggedR, List.length_map] at *; simp only [*, BL]; done) | (simp_all [retPV, flaggedR]; done) | (simp_all [retPV, flaggedR]; omega) | (simp_all [retPV, flaggedR]; intros; omega)) | (refine retn rfl ?_; first | (simp only [retPV, flaggedR, BL, List.length_map] at *; simp only [*, BL, List.length_map]; done) | (simp_all [retPV, flaggedR]; done) | (simp_all [retPV, flaggedR]; omega) | (simp_all [retPV, flaggedR]; intros; omega)) | skip
theorem upGo_prefix {g : Img} : ∀ (n : Nat) (t : Int) (out : List Int), ∃ r, upGo g n t out = out ++ r
 | 0, t, out => ⟨[], by simp [upGo]⟩
 | n + 1, t, out => by
  rw [upGo]
  cases ht : typeAt g t with
  | none => exact ⟨[], by simp⟩
  | some td =>
   by_cases hm : t ∈ out
   ·exact ⟨[], by simp [hm]⟩
   ·obtain ⟨r, hr⟩ := upGo_prefix n td.ext (out ++ [t])
    exact ⟨t :: r, by simp only [hm, if_false]; rw [hr]; simp⟩
theorem up_head {g : Img} {t : Int} {td : TD} (h : typeAt g t = some td) : ∃ r, up g t = t :: r := by
 obtain ⟨r, hr⟩ := upGo_prefix (g := g) g.types.length td.ext [t]
 exact ⟨r, by rw [up, upGo, h]; simpa using hr⟩
def topExt (g : Img) (t : Int) : Int := match typeAt g ((up g t).getLastD 0) with | some td => td.ext | none => -1
def flagsAt (g : Img) (t : Int) : Int := match typeAt g t with | some td => td.flags | none => 0
def extOk (g : Img) (t : Int) (td : TD) : Bool := !decide (0 ≤ td.ext) || (kindG g td.ext == 0 && !bitF (flagsAt g td.ext) 8 && decide (topExt g t < 0))
def faceOkR (g : Img) (l : List Int) (i : Nat) : Bool := kindG g (l.getD i 0) == 2 && !decide (l.getD i 0 ∈ l.take i)
def hangsR (g : Img) (t : Int) (td : TD) : Bool :=
 extOk g t td && (List.range td.faces.length).all (faceOkR g td.faces) && (kindG g t != 2 || !decide (t ∈ facesR g t))
set_option maxHeartbeats 1000000 in
theorem hangs_call (g : Img) (t : Int) (td : TD) (htd : typeAt g t = some td) (hx : td.ext < g.types.length) (hg : g.types.length ≤ 1000) (hfc : ∀ td ∈ g.types, td.faces.length ≤ 1000) : ACall Tryz.prog 217 [imgPV g, pi t] (pb (hangsR g t td)) := by
 refine acall_intro tbOK Tryz.func217 rfl (by kernel_rfl) Tryz.ntmps217 (by simp) _ rfl (fun hw gB hgB => ?_)
 obtain ⟨h0, he⟩ := typeAt_get htd
 have hfl : td.faces.length ≤ 1000 := hfc td (by have := htd; rw [typeAt, if_pos h0] at this; exact List.mem_of_getElem? this)
 have hui := up_inv g t
 have hul := nodup_le _ _ hui.1 hui.2
 obtain ⟨ur, hur⟩ := up_head htd
 have hpos : 0 < (up g t).length := by rw [hur]; simp
 refine aw_cut [(1, .pv (pi t)), (2, .pv (.ptr (imgPV g) 0))] [] ?_ ?_
 ·repeat' (first | refine sA ?_ | refine sC (fun _ => ?_) (fun _ => ?_) | fail)
  all_goals (refine ⟨?_, tH⟩; repeat (first | exact sub_nil | refine sub_cons rfl ?_ | (refine sub_b rfl ?_ ?_; · (first | (simp_all [extOk]; done) | (simp_all [extOk]; omega))) | (refine sub_i rfl ?_ ?_; · (rw [wrap_in (by omega) (by omega)] <;> omega))))
 refine aw_cut [(1, .pv (pi t)), (2, .pv (.ptr (imgPV g) 0)), (5, .pv (pi td.ext))] [] ?_ ?_
 ·repeat' (first | (refine shX ?_; first | refine ao_q rfl (q_index tbOK rfl rfl rfl rfl rfl rfl h0 he) rfl rfl ?_ | refine AD.step _ _ _ _ _ rfl (q_index tbOK rfl rfl rfl rfl rfl rfl h0 he) rfl rfl ?_) | refine sA ?_ | refine sC (fun _ => ?_) (fun _ => ?_) | fail)
  all_goals (refine ⟨?_, tH⟩; repeat (first | exact sub_nil | refine sub_cons rfl ?_ | (refine sub_b rfl ?_ ?_; · (first | (simp_all [extOk]; done) | (simp_all [extOk]; omega))) | (refine sub_i rfl ?_ ?_; · (rw [wrap_in (by omega) (by omega)] <;> omega))))
 have hlast : (up g t)[(up g t).length - 1]? = some ((up g t).getLastD 0) := by
  rw [hur]; simp [List.getLastD_eq_getLast?, List.getLast?_eq_getElem?]
 have hlt : (up g t).length - 1 < (up g t).length := by omega
 obtain ⟨tl, htl⟩ := typeAt_of_lt (g := g) (t := (up g t).getLastD 0) (hui.2 _ (List.mem_of_getElem? hlast))
 obtain ⟨hl0, hel⟩ := typeAt_get htl
 have hw1 : IntKind.i64.wrap (((up g t).map pi).length - 1 : Int) = (((up g t).length - 1 : Nat) : Int) := by rw [List.length_map, wrap_in (by omega) (by omega)]; omega
 have heU : ((up g t).map pi)[(IntKind.i64.wrap (((up g t).map pi).length - 1 : Int)).toNat]? = some (pi ((up g t).getLastD 0)) := by rw [hw1]; simp [hlast]
 have htop : topExt g t = tl.ext := by rw [topExt, htl]
 cases hxo : extOk g t td
 ·have hpos : 0 ≤ td.ext := by
   rw [extOk] at hxo
   simp only [Bool.or_eq_false_iff, Bool.not_eq_false', decide_eq_true_eq] at hxo
   exact hxo.1
  obtain ⟨te, hte⟩ := typeAt_of_lt ⟨hpos, hx⟩
  obtain ⟨he0, hee⟩ := typeAt_get hte
  have hfa : flagsAt g td.ext = te.flags := by rw [flagsAt, hte]
  rw [extOk, hfa, htop] at hxo
  have hres : hangsR g t td = false := by rw [hangsR, extOk, hfa, htop, hxo]; rfl
  simp only [decide_eq_true hpos, Bool.not_true, Bool.false_or] at hxo
  by_cases hk : kindG g td.ext = 0
  ·have c1 := KindR_call g td.ext
   rw [hk] at c1
   have c2 := bit8_call te.flags
   cases hb : bitF te.flags 8
   ·rw [hb] at c2
    have htx : ¬ tl.ext < 0 := by simpa [hk, hb] using hxo
    repeat' (first | (refine shC ?_; first | refine qC c1 ?_ | refine qC c2 ?_ | refine qC (UpR_call g t hg) ?_) | (refine shX ?_; first | refine ao_q rfl (q_index tbOK rfl rfl rfl rfl rfl rfl he0 hee) rfl rfl ?_ | refine AD.step _ _ _ _ _ rfl (q_index tbOK rfl rfl rfl rfl rfl rfl he0 hee) rfl rfl ?_ | refine ao_q rfl (q_index tbOK rfl rfl rfl rfl rfl rfl (by rw [hw1]; omega) heU) rfl rfl ?_ | refine AD.step _ _ _ _ _ rfl (q_index tbOK rfl rfl rfl rfl rfl rfl (by rw [hw1]; omega) heU) rfl rfl ?_ | refine ao_q rfl (q_index tbOK rfl rfl rfl rfl rfl rfl hl0 hel) rfl rfl ?_ | refine AD.step _ _ _ _ _ rfl (q_index tbOK rfl rfl rfl rfl rfl rfl hl0 hel) rfl rfl ?_) | refine sK ?_ | refine sC (fun _ => ?_) (fun _ => ?_) | fail)
    all_goals exact retq rfl (by simp [retPV, hres])
   ·rw [hb] at c2
    repeat' (first | (refine shC ?_; first | refine qC c1 ?_ | refine qC c2 ?_) | (refine shX ?_; first | refine ao_q rfl (q_index tbOK rfl rfl rfl rfl rfl rfl he0 hee) rfl rfl ?_ | refine AD.step _ _ _ _ _ rfl (q_index tbOK rfl rfl rfl rfl rfl rfl he0 hee) rfl rfl ?_) | refine sK ?_ | refine sC (fun _ => ?_) (fun _ => ?_) | fail)
    all_goals exact retq rfl (by simp [retPV, hres])
  ·have hkb : (kindG g td.ext != 0) = true := by simp [hk]
   repeat' (first | (refine shC ?_; first | refine qC (KindR_call _ _) ?_) | refine sK ?_ | refine sC (fun _ => ?_) (fun _ => ?_) | fail)
   all_goals exact retq rfl (by simp [retPV, hres])
 ·refine aw_cut [(1, .pv (pi t)), (2, .pv (.ptr (imgPV g) 0))] [] ?_ ?_
  ·by_cases hpos : 0 ≤ td.ext
   ·obtain ⟨te, hte⟩ := typeAt_of_lt ⟨hpos, hx⟩
    obtain ⟨he0, hee⟩ := typeAt_get hte
    have hfa : flagsAt g td.ext = te.flags := by rw [flagsAt, hte]
    rw [extOk, hfa, htop] at hxo
    simp only [decide_eq_true hpos, Bool.not_true, Bool.false_or, Bool.and_eq_true, beq_iff_eq, Bool.not_eq_true', decide_eq_true_eq] at hxo
    have c1 := KindR_call g td.ext
    rw [hxo.1.1] at c1
    have c2 := bit8_call te.flags
    rw [hxo.1.2] at c2
    have htx := hxo.2
    repeat' (first | (refine shC ?_; first | refine qC c1 ?_ | refine qC c2 ?_ | refine qC (UpR_call g t hg) ?_) | (refine shX ?_; first | refine ao_q rfl (q_index tbOK rfl rfl rfl rfl rfl rfl he0 hee) rfl rfl ?_ | refine AD.step _ _ _ _ _ rfl (q_index tbOK rfl rfl rfl rfl rfl rfl he0 hee) rfl rfl ?_ | refine ao_q rfl (q_index tbOK rfl rfl rfl rfl rfl rfl (by rw [hw1]; omega) heU) rfl rfl ?_ | refine AD.step _ _ _ _ _ rfl (q_index tbOK rfl rfl rfl rfl rfl rfl (by rw [hw1]; omega) heU) rfl rfl ?_ | refine ao_q rfl (q_index tbOK rfl rfl rfl rfl rfl rfl hl0 hel) rfl rfl ?_ | refine AD.step _ _ _ _ _ rfl (q_index tbOK rfl rfl rfl rfl rfl rfl hl0 hel) rfl rfl ?_) | refine sK ?_ | refine sC (fun _ => ?_) (fun _ => ?_) | fail)
    all_goals (refine ⟨?_, tH⟩; repeat (first | exact sub_nil | refine sub_cons rfl ?_ | (refine sub_b rfl ?_ ?_; · (first | (simp_all [extOk]; done) | (simp_all [extOk]; omega))) | (refine sub_i rfl ?_ ?_; · (rw [wrap_in (by omega) (by omega)] <;> omega))))
   ·repeat' (first | refine sK ?_ | refine sC (fun _ => ?_) (fun _ => ?_) | fail)
    all_goals (refine ⟨?_, tH⟩; repeat (first | exact sub_nil | refine sub_cons rfl ?_ | (refine sub_b rfl ?_ ?_; · (first | (simp_all [extOk]; done) | (simp_all [extOk]; omega))) | (refine sub_i rfl ?_ ?_; · (rw [wrap_in (by omega) (by omega)] <;> omega))))
  repeat' (first | (refine shX ?_; first | refine ao_q rfl (q_index tbOK rfl rfl rfl rfl rfl rfl h0 he) rfl rfl ?_ | refine AD.step _ _ _ _ _ rfl (q_index tbOK rfl rfl rfl rfl rfl rfl h0 he) rfl rfl ?_) | refine sA ?_ | refine sC (fun _ => ?_) (fun _ => ?_) | fail)
  refine aw_loop (fun k : Nat => [(1, .pv (pi t)), (2, .pv (.ptr (imgPV g) 0)), (7, .pv (ints td.faces)), (8, .pv (pi k))]) (fun _ => []) (fun k => k ≤ td.faces.length ∧ hangsR g t td = (((List.range td.faces.length).drop k).all (faceOkR g td.faces) && (kindG g t != 2 || !decide (t ∈ facesR g t)))) (fun k => td.faces.length - k) 0 ⟨by simp, by simp [hangsR, hxo]⟩ (tS) tH ?_
  rintro k ⟨hk, hr⟩
  by_cases hlt : k < td.faces.length
  ·have hef := ints_get hlt
   rw [drop_range_all hlt, faceOkR, getD_get hlt] at hr
   repeat' (first | refine AD.step _ _ _ _ _ rfl (q_slice_map (xs := td.faces) (f := pi) 0 k tbOK rfl rfl rfl rfl rfl rfl rfl (by omega) (by omega)) rfl rfl ?_ | (refine shC ?_; first | refine qC (KindR_call _ _) ?_ | refine qC (Has_call (td.faces.take k) _) ?_) | (refine shX ?_; first | refine qX hef ?_) | refine sK ?_ | refine sC (fun _ => ?_) (fun _ => ?_) | fail)
   all_goals first | (refine retq rfl ?_; first | (simp only [retPV, List.length_map] at *; simp only [*, BL]; done) | (simp_all [retPV]; done) | (simp_all [retPV]; omega) | (simp_all [retPV]; intros; omega)) | (refine ⟨k + 1, ⟨by omega, ?_⟩, tD, tS, tH⟩; first | (simp only [List.length_map] at *; simp only [*, BL]; done) | (simp_all []; done) | (simp_all []; omega) | (simp_all []; intros; omega)) | (trace "LEND"; trace_state)
  ·rw [drop_end (by simp; omega)] at hr
   repeat' (first | (refine shC ?_; first | refine qC (KindR_call _ _) ?_ | refine qC (FacesR_call g t hg hfc) ?_ | refine qC (Has_call _ _) ?_) | refine sK ?_ | refine sC (fun _ => ?_) (fun _ => ?_) | fail)
   all_goals first | (refine retq rfl ?_; first | (simp only [retPV, List.length_map] at *; simp only [*, BL]; done) | (simp_all [retPV]; done) | (simp_all [retPV]; omega) | (simp_all [retPV]; intros; omega)) | (refine retn rfl ?_; first | (simp only [retPV, BL, List.length_map] at *; simp only [*, BL, List.length_map]; done) | (simp_all [retPV]; done) | (simp_all [retPV]; omega) | (simp_all [retPV]; intros; omega)) | skip
end Go.Cg
namespace Go.Cg
open Go.Proofs
def nameOther (g : Img) (t : Int) (td : TD) (i : Nat) : Bool := !((i : Int) != t && (g.types.getD i default).name.toList == td.name.toList)
def fName (g : Img) (i : Int) : ByteArray := (g.fields.getD i.toNat default).name
def fieldPair (g : Img) (l : List Int) (i k : Nat) : Bool := !((fName g (l.getD i 0)).toList == (fName g (l.getD k 0)).toList)
def methodPair (g : Img) (l : List Int) (i k : Nat) : Bool :=
 !((g.methods.getD (l.getD i 0).toNat default).name.toList == (g.methods.getD (l.getD k 0).toNat default).name.toList && sameSig (g.methods.getD (l.getD i 0).toNat default) (g.methods.getD (l.getD k 0).toNat default))
def namedR (g : Img) (t : Int) (td : TD) : Bool :=
 (List.range g.types.length).all (nameOther g t td)
 && (List.range (fieldsOf g t).length).all (fun i => (List.range i).all (fieldPair g (fieldsOf g t) i))
 && (List.range (methodsOf g t).length).all (fun i => (List.range i).all (methodPair g (methodsOf g t) i))
set_option maxHeartbeats 1000000 in
theorem named_call (g : Img) (t : Int) (td : TD) (htd : typeAt g t = some td) (hg : g.types.length ≤ 1000) (hgf : g.fields.length ≤ 1000) (hgm : g.methods.length ≤ 1000) : ACall Tryz.prog 218 [imgPV g, pi t] (pb (namedR g t td)) := by
 refine acall_intro tbOK Tryz.func218 rfl (by kernel_rfl) Tryz.ntmps218 (by simp) _ rfl (fun hw gB hgB => ?_)
 obtain ⟨h0, heT⟩ := typeAt_get htd
 have hfl := fieldsOf_len g t
 have hml := methodsOf_len g t
 repeat' (first | refine sA ?_ | refine sC (fun _ => ?_) (fun _ => ?_) | fail)
 refine aw_loop (fun k : Nat => [(1, .pv (pi t)), (2, .pv (.ptr (imgPV g) 0)), (5, .pv (pi k))]) (fun _ => []) (fun k => k ≤ g.types.length ∧ namedR g t td = (((List.range g.types.length).drop k).all (nameOther g t td) && (List.range (fieldsOf g t).length).all (fun i => (List.range i).all (fieldPair g (fieldsOf g t) i)) && (List.range (methodsOf g t).length).all (fun i => (List.range i).all (methodPair g (methodsOf g t) i)))) (fun k => g.types.length - k) 0 ⟨by simp, rfl⟩ (tS) tH ?_
 rintro k ⟨hk, hr⟩
 by_cases hlt : k < g.types.length
 ·have he := map_get (f := tdPV) hlt
  rw [drop_range_all hlt, nameOther, getD_get hlt] at hr
  repeat' (first | (refine shX ?_; first | refine qX he ?_ | refine ao_q rfl (q_index tbOK rfl rfl rfl rfl rfl rfl h0 heT) rfl rfl ?_ | refine AD.step _ _ _ _ _ rfl (q_index tbOK rfl rfl rfl rfl rfl rfl h0 heT) rfl rfl ?_) | refine sK ?_ | refine sC (fun _ => ?_) (fun _ => ?_) | fail)
  all_goals first | (refine retq rfl ?_; first | (simp only [retPV] at *; simp only [*, BL]; done) | (simp_all [retPV]; done) | (simp_all [retPV]; omega) | (simp_all [retPV]; intros; omega)) | (refine ⟨k + 1, ⟨by omega, ?_⟩, tD, tS, tH⟩; first | (simp only [BL, List.length_map] at *; simp only [*, BL, List.length_map]; done) | (simp_all []; done) | (simp_all []; omega) | (simp_all []; intros; omega)) | (trace "LEND"; trace_state)
 ·rw [drop_end (by simp; omega)] at hr
  repeat' (first | (refine shC ?_; first | refine qC (FieldsR_call g t hgf) ?_) | refine sK ?_ | refine sC (fun _ => ?_) (fun _ => ?_) | fail)
  refine aw_loop (fun k : Nat => [(1, .pv (pi t)), (2, .pv (.ptr (imgPV g) 0)), (6, .pv (ints (fieldsOf g t))), (7, .pv (pi k))]) (fun _ => []) (fun k => k ≤ (fieldsOf g t).length ∧ namedR g t td = (((List.range (fieldsOf g t).length).drop k).all (fun i => (List.range i).all (fieldPair g (fieldsOf g t) i)) && (List.range (methodsOf g t).length).all (fun i => (List.range i).all (methodPair g (methodsOf g t) i)))) (fun k => (fieldsOf g t).length - k) 0 ⟨by simp, by simp_all⟩ (tS) tH ?_
  clear hk hr hlt
  rintro k ⟨hk, hr⟩
  by_cases hlt : k < (fieldsOf g t).length
  ·have he := ints_get hlt
   obtain ⟨hi0, hi⟩ := fieldsOf_mem (List.getElem_mem hlt)
   have hef := map_get' (f := fdPV) hi
   rw [drop_range_all hlt] at hr
   repeat' (first | refine sK ?_ | refine sC (fun _ => ?_) (fun _ => ?_) | fail)
   refine aw_loop (fun m : Nat => [(1, .pv (pi t)), (2, .pv (.ptr (imgPV g) 0)), (6, .pv (ints (fieldsOf g t))), (7, .pv (pi k)), (8, .pv (pi m))]) (fun _ => []) (fun m => m ≤ k ∧ namedR g t td = (((List.range k).drop m).all (fieldPair g (fieldsOf g t) k) && ((List.range (fieldsOf g t).length).drop (k + 1)).all (fun i => (List.range i).all (fieldPair g (fieldsOf g t) i)) && (List.range (methodsOf g t).length).all (fun i => (List.range i).all (methodPair g (methodsOf g t) i)))) (fun m => k - m) 0 ⟨by simp, by rw [hr]; rfl⟩ (tS) tH ?_
   clear hr
   rintro m ⟨hm, hr⟩
   by_cases hltm : m < k
   ·have hlm : m < (fieldsOf g t).length := by omega
    have hem := ints_get hlm
    obtain ⟨hj0, hj⟩ := fieldsOf_mem (List.getElem_mem hlm)
    have hefm := map_get' (f := fdPV) hj
    rw [drop_range_all hltm, fieldPair, fName, fName, getD_get hlt, getD_get hlm, getD_get hi, getD_get hj] at hr
    repeat' (first | (refine shX ?_; first | refine qX he ?_ | refine ao_q rfl (q_index tbOK rfl rfl rfl rfl rfl rfl hi0 hef) rfl rfl ?_ | refine AD.step _ _ _ _ _ rfl (q_index tbOK rfl rfl rfl rfl rfl rfl hi0 hef) rfl rfl ?_ | refine qX hem ?_ | refine ao_q rfl (q_index tbOK rfl rfl rfl rfl rfl rfl hj0 hefm) rfl rfl ?_ | refine AD.step _ _ _ _ _ rfl (q_index tbOK rfl rfl rfl rfl rfl rfl hj0 hefm) rfl rfl ?_) | refine sK ?_ | refine sC (fun _ => ?_) (fun _ => ?_) | fail)
    all_goals first | (refine retq rfl ?_; first | (simp only [retPV] at *; simp only [*, BL]; done) | (simp_all [retPV]; done) | (simp_all [retPV]; omega) | (simp_all [retPV]; intros; omega)) | (refine ⟨m + 1, ⟨by omega, ?_⟩, tD, tS, tH⟩; first | (simp only [BL, List.length_map] at *; simp only [*, BL, List.length_map]; done) | (simp_all []; done) | (simp_all []; omega) | (simp_all []; intros; omega)) | (trace "LEND"; trace_state)
   ·rw [drop_end (by simp; omega)] at hr
    repeat' (first | refine sK ?_ | refine sC (fun _ => ?_) (fun _ => ?_) | fail)
    all_goals first | (refine retq rfl ?_; first | (simp only [retPV, BL, List.length_map] at *; simp only [*, BL, List.length_map]; done) | (simp_all [retPV]; done) | (simp_all [retPV]; omega) | (simp_all [retPV]; intros; omega)) | (refine ⟨k + 1, ⟨by omega, ?_⟩, tD, tS, tH⟩; first | (simp only [BL, List.length_map] at *; simp only [*, BL, List.length_map]; done) | (simp_all []; done) | (simp_all []; omega) | (simp_all []; intros; omega)) | (trace "LEND"; trace_state)
  ·rw [drop_end (by simp; omega)] at hr
   repeat' (first | (refine shC ?_; first | refine qC (MethodsR_call g t hgm) ?_) | refine sK ?_ | refine sC (fun _ => ?_) (fun _ => ?_) | fail)
   refine aw_loop (fun k : Nat => [(1, .pv (pi t)), (2, .pv (.ptr (imgPV g) 0)), (9, .pv (ints (methodsOf g t))), (10, .pv (pi k))]) (fun _ => []) (fun k => k ≤ (methodsOf g t).length ∧ namedR g t td = (((List.range (methodsOf g t).length).drop k).all (fun i => (List.range i).all (methodPair g (methodsOf g t) i)))) (fun k => (methodsOf g t).length - k) 0 ⟨by simp, by simp_all⟩ (tS) tH ?_
   clear hk hr hlt
   rintro k ⟨hk, hr⟩
   by_cases hlt : k < (methodsOf g t).length
   ·have he := ints_get hlt
    obtain ⟨hi0, hi⟩ := methodsOf_mem (List.getElem_mem hlt)
    have hef := map_get' (f := mePV) hi
    rw [drop_range_all hlt] at hr
    repeat' (first | refine sK ?_ | refine sC (fun _ => ?_) (fun _ => ?_) | fail)
    refine aw_loop (fun m : Nat => [(1, .pv (pi t)), (2, .pv (.ptr (imgPV g) 0)), (9, .pv (ints (methodsOf g t))), (10, .pv (pi k)), (11, .pv (pi m))]) (fun _ => []) (fun m => m ≤ k ∧ namedR g t td = (((List.range k).drop m).all (methodPair g (methodsOf g t) k) && ((List.range (methodsOf g t).length).drop (k + 1)).all (fun i => (List.range i).all (methodPair g (methodsOf g t) i)))) (fun m => k - m) 0 ⟨by simp, by rw [hr]; rfl⟩ (tS) tH ?_
    clear hr
    rintro m ⟨hm, hr⟩
    by_cases hltm : m < k
    ·have hlm : m < (methodsOf g t).length := by omega
     have hem := ints_get hlm
     obtain ⟨hj0, hj⟩ := methodsOf_mem (List.getElem_mem hlm)
     have hefm := map_get' (f := mePV) hj
     rw [drop_range_all hltm, methodPair, getD_get hlt, getD_get hlm, getD_get hi, getD_get hj] at hr
     repeat' (first | (refine shC ?_; first | refine qC (SameSig_call _ _) ?_) | (refine shX ?_; first | refine qX he ?_ | refine ao_q rfl (q_index tbOK rfl rfl rfl rfl rfl rfl hi0 hef) rfl rfl ?_ | refine AD.step _ _ _ _ _ rfl (q_index tbOK rfl rfl rfl rfl rfl rfl hi0 hef) rfl rfl ?_ | refine qX hem ?_ | refine ao_q rfl (q_index tbOK rfl rfl rfl rfl rfl rfl hj0 hefm) rfl rfl ?_ | refine AD.step _ _ _ _ _ rfl (q_index tbOK rfl rfl rfl rfl rfl rfl hj0 hefm) rfl rfl ?_) | refine sK ?_ | refine sC (fun _ => ?_) (fun _ => ?_) | fail)
     all_goals first | (refine retq rfl ?_; first | (simp only [retPV] at *; simp only [*, BL]; done) | (simp_all [retPV]; done) | (simp_all [retPV]; omega) | (simp_all [retPV]; intros; omega)) | (refine ⟨m + 1, ⟨by omega, ?_⟩, tD, tS, tH⟩; first | (simp only [BL, List.length_map] at *; simp only [*, BL, List.length_map]; done) | (simp_all []; done) | (simp_all []; omega) | (simp_all []; intros; omega)) | (trace "LEND"; trace_state)
    ·rw [drop_end (by simp; omega)] at hr
     repeat' (first | refine sK ?_ | refine sC (fun _ => ?_) (fun _ => ?_) | fail)
     all_goals first | (refine retq rfl ?_; first | (simp only [retPV, BL, List.length_map] at *; simp only [*, BL, List.length_map]; done) | (simp_all [retPV]; done) | (simp_all [retPV]; omega) | (simp_all [retPV]; intros; omega)) | (refine ⟨k + 1, ⟨by omega, ?_⟩, tD, tS, tH⟩; first | (simp only [BL, List.length_map] at *; simp only [*, BL, List.length_map]; done) | (simp_all []; done) | (simp_all []; omega) | (simp_all []; intros; omega)) | (trace "LEND"; trace_state)
   ·rw [drop_end (by simp; omega)] at hr
    repeat' (first | refine sK ?_ | refine sC (fun _ => ?_) (fun _ => ?_) | fail)
    all_goals first | (refine retq rfl ?_; first | (simp only [retPV] at *; simp only [*]; done) | (simp_all [retPV]; done) | (simp_all [retPV]; omega) | (simp_all [retPV]; intros; omega)) | (refine retn rfl ?_; first | (simp only [retPV, BL, List.length_map] at *; simp only [*, BL, List.length_map]; done) | (simp_all [retPV]; done) | (simp_all [retPV]; omega) | (simp_all [retPV]; intros; omega)) | skip
end Go.Cg
namespace Go.Cg
open Go.Proofs
def sizeOk (g : Img) (k : Int) (i : Int) : Bool := !(k == 3 || (k == 2 && !(g.fields.getD i.toNat default).static))
def addP (met : List Int) (x : Int) : List Int := if x ∈ met then met else met ++ [x]
def partStep (g : Img) (met : List Int) (u : Int) : List Int := (partsOf g u).foldl addP met
def metPGo (g : Img) : Nat → Nat → List Int → List Int
 | 0, _, met => met
 | n + 1, i, met => match met[i]? with | some u => metPGo g n (i + 1) (partStep g met u) | none => met
def metP (g : Img) (t : Int) : List Int := metPGo g (g.fields.length + g.types.length + 1) 0 (partsOf g t)
def sizedR (g : Img) (t : Int) : Bool := (fieldsOf g t).all (sizeOk g (kindG g t)) && (kindG g t != 1 || !decide (t ∈ metP g t))
def PInv (g : Img) (t : Int) (met : List Int) : Prop := ∃ a, met = partsOf g t ++ a ∧ a.Nodup ∧ ∀ y ∈ a, 0 ≤ y ∧ y < g.types.length
theorem partsOf_len (g : Img) (t : Int) : (partsOf g t).length ≤ g.fields.length := by
 rw [partsOf, List.length_map]
 exact Nat.le_trans (List.length_filter_le _ _) (fieldsOf_len g t)
theorem PInv.len {g : Img} {t : Int} {met : List Int} (h : PInv g t met) : met.length ≤ g.fields.length + g.types.length := by
 obtain ⟨a, rfl, h1, h2⟩ := h
 have := nodup_le _ _ h1 h2
 have := partsOf_len g t
 simp; omega
theorem partsOf_there {g : Img} {t x : Int} (h : x ∈ partsOf g t) : 0 ≤ x ∧ x < g.types.length := by
 simp only [partsOf, List.mem_map, List.mem_filter, partOk, Bool.and_eq_true, beq_iff_eq] at h
 obtain ⟨i, ⟨_, _, hk⟩, rfl⟩ := h
 rw [kindG] at hk
 cases ht : typeAt g (g.fields.getD i.toNat default).ty.index with
 | none => rw [ht] at hk; simp at hk
 | some td => exact typeAt_lt ht
theorem PInv.add {g : Img} {t : Int} {met : List Int} {x : Int} (h : PInv g t met) (hx : 0 ≤ x ∧ x < g.types.length) : PInv g t (addP met x) := by
 unfold addP
 split
 ·exact h
 ·rename_i hn
  obtain ⟨a, rfl, h1, h2⟩ := h
  refine ⟨a ++ [x], by simp, ?_, ?_⟩
  ·rw [List.nodup_append]; simp [h1]; intro b hb e; subst e; exact hn (by simp [hb])
  ·intro y hy
   simp only [List.mem_append, List.mem_singleton] at hy
   rcases hy with hy | rfl
   ·exact h2 y hy
   ·exact hx
theorem addP_len {met : List Int} {f : Int} {i : Nat} (h : i < met.length) : i < (addP met f).length := by
 unfold addP; split
 ·exact h
 ·simp; omega
theorem addP_get {met : List Int} {f : Int} {i : Nat} {x : Int} (h : i < met.length) (hx : met[i]? = some x) : (addP met f)[i]? = some x := by
 unfold addP; split
 ·exact hx
 ·rw [List.getElem?_append_left h]; exact hx
set_option maxHeartbeats 1000000 in
theorem sized_call (g : Img) (t : Int) (hg : g.types.length ≤ 1000) (hgf : g.fields.length ≤ 1000) : ACall Tryz.prog 219 [imgPV g, pi t] (pb (sizedR g t)) := by
 refine acall_intro tbOK Tryz.func219 rfl (by kernel_rfl) Tryz.ntmps219 (by simp) _ rfl (fun hw gB hgB => ?_)
 have hfl := fieldsOf_len g t
 have hpl := partsOf_len g t
 repeat' (first | (refine shC ?_; first | refine qC (KindR_call _ _) ?_ | refine qC (FieldsR_call g t hgf) ?_) | refine sA ?_ | refine sC (fun _ => ?_) (fun _ => ?_) | fail)
 refine aw_loop (fun k : Nat => [(1, .pv (pi t)), (2, .pv (.ptr (imgPV g) 0)), (5, .pv (pi (kindG g t))), (6, .pv (ints (fieldsOf g t))), (7, .pv (pi k))]) (fun _ => []) (fun k => k ≤ (fieldsOf g t).length ∧ sizedR g t = (((fieldsOf g t).drop k).all (sizeOk g (kindG g t)) && (kindG g t != 1 || !decide (t ∈ metP g t)))) (fun k => (fieldsOf g t).length - k) 0 ⟨by simp, rfl⟩ (tS) tH ?_
 rintro k ⟨hk, hr⟩
 by_cases hlt : k < (fieldsOf g t).length
 ·have he := ints_get hlt
  obtain ⟨hi0, hi⟩ := fieldsOf_mem (List.getElem_mem hlt)
  have hef := map_get' (f := fdPV) hi
  rw [drop_all hlt, sizeOk, getD_get hi] at hr
  repeat' (first | (refine shX ?_; first | refine qX he ?_ | refine ao_q rfl (q_index tbOK rfl rfl rfl rfl rfl rfl hi0 hef) rfl rfl ?_ | refine AD.step _ _ _ _ _ rfl (q_index tbOK rfl rfl rfl rfl rfl rfl hi0 hef) rfl rfl ?_) | refine sK ?_ | refine sC (fun _ => ?_) (fun _ => ?_) | fail)
  all_goals first | (refine retq rfl ?_; first | (simp only [retPV] at *; simp only [*, BL]; done) | (simp_all [retPV]; done) | (simp_all [retPV]; omega) | (simp_all [retPV]; intros; omega)) | (refine ⟨k + 1, ⟨by omega, ?_⟩, tD, tS, tH⟩; first | (simp only [BL, List.length_map] at *; simp only [*, BL, List.length_map]; done) | (simp_all []; done) | (simp_all []; omega) | (simp_all []; intros; omega)) | (trace "LEND"; trace_state)
 ·rw [drop_end (by omega)] at hr
  by_cases hk1 : kindG g t = 1
  ·have hkb : (kindG g t != 1) = false := by simp [hk1]
   rw [hkb] at hr
   simp only [List.all_nil, Bool.true_and, Bool.false_or] at hr
   repeat' (first | refine aw_own_nil (t := 8) 0 3 1 (by decide) rfl rfl ?_ | (refine shC ?_; first | refine qC (PartsR_call g t hgf) ?_) | (refine ao_sh_bi ?_; first | refine ao_append tbOK rfl rfl rfl rfl rfl rfl rfl (by show _ * 8 ≤ _; simp; omega) (by simp; omega) rfl rfl ?_) | refine sK ?_ | refine sC (fun _ => ?_) (fun _ => ?_) | fail)
   refine aw_loop (fun x : Nat × List Int => [(1, .pv (pi t)), (2, .pv (.ptr (imgPV g) 0)), (8, .own 0), (9, .pv (pi x.1))]) (fun x => [(0, .row 3 1 (x.2.map pi))])
    (fun x => x.1 ≤ x.2.length ∧ PInv g t x.2 ∧ metPGo g (g.fields.length + g.types.length + 1 - x.1) x.1 x.2 = metP g t) (fun x => g.fields.length + g.types.length + 1 - x.1) (0, partsOf g t) ⟨by simp, ⟨[], by simp⟩, rfl⟩ (tS) ⟨hsub_r rfl (by simp) hsub_nil, rfl⟩ ?_
   have hr0 := hr
   clear hr hlt hk
   rintro ⟨i, met⟩ ⟨hi, hmi, hr⟩
   simp only at hi hmi hr
   have hml := hmi.len
   rw [show g.fields.length + g.types.length + 1 - i = (g.fields.length + g.types.length - i) + 1 by omega, metPGo] at hr
   by_cases hlt : i < met.length
   ·have heU := ints_get hlt
    rw [List.getElem?_eq_getElem hlt] at hr
    simp only at hr
    have hpl2 := partsOf_len g met[i]
    repeat' (first | (refine shC ?_; first | refine qC (PartsR_call g met[i] hgf) ?_) | (refine shX ?_; first | refine qX heU ?_) | refine sK ?_ | refine sC (fun _ => ?_) (fun _ => ?_) | fail)
    refine aw_loop (fun x : Nat × List Int => [(1, .pv (pi t)), (2, .pv (.ptr (imgPV g) 0)), (8, .own 0), (9, .pv (pi i)), (10, .pv (ints (partsOf g met[i]))), (11, .pv (pi x.1))]) (fun x => [(0, .row 3 1 (x.2.map pi))])
     (fun x => x.1 ≤ (partsOf g met[i]).length ∧ PInv g t x.2 ∧ ((partsOf g met[i]).drop x.1).foldl addP x.2 = partStep g met met[i] ∧ i < x.2.length) (fun x => (partsOf g met[i]).length - x.1) (0, met) ⟨by simp, hmi, rfl, hlt⟩ (tS) ⟨hsub_cons rfl hsub_nil, rfl⟩ ?_
    rintro ⟨k, met'⟩ ⟨hk, hmi', hr', hli'⟩
    simp only at hk hmi' hr' hli'
    by_cases hltk : k < (partsOf g met[i]).length
    ·have heF := ints_get hltk
     rw [drop_foldl hltk] at hr'
     have hml := hmi'.len
     repeat' (first | (refine shC ?_; first | refine qC (Has_call _ _) ?_) | (refine shX ?_; first | refine qX heF ?_) | (refine ao_sh_bi ?_; first | refine ao_append tbOK rfl rfl rfl rfl rfl rfl rfl (by show _ * 8 ≤ _; simp; omega) (by simp; omega) rfl rfl ?_) | refine sK ?_ | refine sC (fun _ => ?_) (fun _ => ?_) | fail)
     all_goals refine ⟨(k + 1, addP met' (partsOf g met[i])[k]), ⟨hltk, hmi'.add (partsOf_there (List.getElem_mem hltk)), hr', addP_len hli'⟩, tD, tS, ⟨hsub_r rfl ?_ hsub_nil, rfl⟩⟩
     all_goals simp_all [addP]
    ·rw [drop_end (by omega)] at hr'
     repeat' (first | refine sK ?_ | refine sC (fun _ => ?_) (fun _ => ?_) | fail)
     refine ⟨(i + 1, met'), ⟨hli', hmi', ?_⟩, tD, tS, ⟨hsub_r rfl rfl hsub_nil, rfl⟩⟩
     simp only
     rw [show g.fields.length + g.types.length + 1 - (i + 1) = g.fields.length + g.types.length - i by omega, ← hr, ← hr']; rfl
   ·rw [List.getElem?_eq_none (by omega)] at hr
    obtain rfl : met = metP g t := hr
    repeat' (first | (refine shC ?_; first | refine qC (Has_call _ _) ?_) | refine sK ?_ | refine sC (fun _ => ?_) (fun _ => ?_) | fail)
    exact retq rfl (by rw [hr0]; rfl)
  ·have hkb : (kindG g t != 1) = true := by simp [hk1]
   rw [hkb] at hr
   repeat' (first | refine sK ?_ | refine sC (fun _ => ?_) (fun _ => ?_) | fail)
   all_goals first | (refine retq rfl ?_; first | (simp only [retPV, BL] at *; simp only [*]; done) | (simp_all [retPV]; done) | (simp_all [retPV]; omega) | (simp_all [retPV]; intros; omega)) | (refine retn rfl ?_; first | (simp only [retPV, BL, List.length_map] at *; simp only [*, BL, List.length_map]; done) | (simp_all [retPV]; done) | (simp_all [retPV]; omega) | (simp_all [retPV]; intros; omega)) | skip
def checkAt (g : Img) (t : Nat) : Int :=
 let td := g.types.getD t default
 if !flaggedR td || !hangsR g t td then 7 else if !namedR g t td then 18 else if !sizedR g t then 20 else 0
def checkR (g : Img) : Int × Int :=
 if !formedG g then (0, 17) else match (List.range g.types.length).find? (fun t => checkAt g t != 0) with
  | some t => (((t : Nat) : Int), checkAt g t)
  | none => (0, 0)
def wellR (g : Img) : Bool := (checkR g).2 == 0
theorem formedG_bounds {g : Img} (h : formedG g = true) : g.types.length ≤ 32 ∧ g.fields.length ≤ 64 ∧ g.methods.length ≤ 64 ∧ ∀ td ∈ g.types, formedT td g.types.length = true := by
 simp only [formedG, Bool.and_eq_true, decide_eq_true_eq, List.all_eq_true] at h
 obtain ⟨⟨⟨⟨⟨⟨⟨h1, h2⟩, h3⟩, _⟩, _⟩, h4⟩, _⟩, _⟩ := h
 exact ⟨by omega, by omega, by omega, h4⟩
theorem formedT_facts {td : TD} {n : Int} (h : formedT td n = true) : 0 ≤ td.flags ∧ td.flags ≤ 31 ∧ -1 ≤ td.ext ∧ td.ext < n ∧ td.faces.length ≤ 4 ∧ ∀ f ∈ td.faces, 0 ≤ f ∧ f < n := by
 simp only [formedT, Bool.and_eq_true, decide_eq_true_eq, List.all_eq_true, okFace] at h
 obtain ⟨⟨⟨⟨⟨⟨_, h1⟩, h2⟩, h3⟩, h4⟩, h5⟩, h6⟩ := h
 exact ⟨h1, h2, h3, h4, by omega, h6⟩
theorem check_at {g : Img} {k : Nat} (hf : formedG g = true) (hk : k < g.types.length) (hno : ∀ j, j < k → checkAt g j = 0) (h : checkAt g k ≠ 0) : checkR g = (((k : Nat) : Int), checkAt g k) := by
 have : (List.range g.types.length).find? (fun t => checkAt g t != 0) = some k := by
  rw [List.find?_range_eq_some]
  exact ⟨by simpa using h, by simpa using hk, fun j hj => by simp [hno j hj]⟩
 simp [checkR, hf, this]
theorem check_no {g : Img} (hf : formedG g = true) (hno : ∀ j, j < g.types.length → checkAt g j = 0) : checkR g = (0, 0) := by
 have : (List.range g.types.length).find? (fun t => checkAt g t != 0) = none := by
  rw [List.find?_eq_none]
  intro j hj
  simp [hno j (List.mem_range.1 hj)]
 simp [checkR, hf, this]
theorem checkAt_eq {g : Img} {k : Nat} (hlt : k < g.types.length) : checkAt g k = if !flaggedR g.types[k] || !hangsR g k g.types[k] then 7 else if !namedR g k g.types[k] then 18 else if !sizedR g k then 20 else 0 := by
 rw [checkAt, getD_get hlt]
theorem typeAt_nat {g : Img} {k : Nat} (hlt : k < g.types.length) : typeAt g (k : Int) = some g.types[k] := by
 rw [typeAt, if_pos (by omega)]; simp [List.getElem?_eq_getElem hlt]
set_option maxHeartbeats 1000000 in
theorem Check_call (g : Img) : ACall Tryz.prog 166 [imgPV g] (.tup [pi (checkR g).1, pi (checkR g).2]) := by
 refine acall_intro tbOK Tryz.func166 rfl (by kernel_rfl) Tryz.ntmps166 (by simp) _ rfl (fun hw gB hgB => ?_)
 have c0 := Formed_call g
 cases hf : formedG g
 ·rw [hf] at c0
  repeat' (first | (refine shC ?_; first | refine qC c0 ?_) | refine sK ?_ | refine sC (fun _ => ?_) (fun _ => ?_) | fail)
  exact retq rfl (by simp [retPV, checkR, hf])
 ·rw [hf] at c0
  obtain ⟨b1, b2, b3, b4⟩ := formedG_bounds hf
  have hg : g.types.length ≤ 1000 := by omega
  have hgf : g.fields.length ≤ 1000 := by omega
  have hgm : g.methods.length ≤ 1000 := by omega
  have hfc : ∀ td ∈ g.types, td.faces.length ≤ 1000 := fun td h => by have := (formedT_facts (b4 td h)).2.2.2.2.1; omega
  repeat' (first | (refine shC ?_; first | refine qC c0 ?_) | refine sK ?_ | refine sC (fun _ => ?_) (fun _ => ?_) | fail)
  refine aw_loop (fun k : Nat => [(1, .pv (.ptr (imgPV g) 0)), (4, .pv (pi k))]) (fun _ => []) (fun k => k ≤ g.types.length ∧ ∀ j, j < k → checkAt g j = 0) (fun k => g.types.length - k) 0 ⟨by omega, fun j h => by omega⟩ (tS) tH ?_
  rintro k ⟨hk, hno⟩
  by_cases hlt : k < g.types.length
  ·have htd := typeAt_nat hlt
   have hx := (formedT_facts (b4 _ (List.getElem_mem hlt))).2.2.2.1
   have hat := checkAt_eq hlt
   have hfin := fun h => check_at hf hlt hno h
   have hnx : checkAt g k = 0 → ∀ j, j < k + 1 → checkAt g j = 0 := fun h j hj => by
    by_cases e : j = k
    ·subst e; exact h
    ·exact hno j (by omega)
   clear hno
   repeat' (first | (refine shC ?_; first | refine qC (flagged_call g k _ htd) ?_ | refine qC (hangs_call g k _ htd hx hg hfc) ?_ | refine qC (named_call g k _ htd hg hgf hgm) ?_ | refine qC (sized_call g k hg hgf) ?_) | refine sK ?_ | refine sC (fun _ => ?_) (fun _ => ?_) | fail)
   ·rename_i h1
    simp only [h1, BL, if_true] at hat
    exact retq rfl (by rw [hfin (by rw [hat]; decide), hat]; rfl)
   ·rename_i h1 h2
    simp only [h1, h2, BL, if_true] at hat
    exact retq rfl (by rw [hfin (by rw [hat]; decide), hat]; rfl)
   ·rename_i h1 h2 h3
    simp only [h1, h2, h3, BL, if_true, Bool.false_eq_true, if_false] at hat
    exact retq rfl (by rw [hfin (by rw [hat]; decide), hat]; rfl)
   ·rename_i h1 h2 h3 h4
    simp only [h1, h2, h3, h4, BL, if_true, Bool.false_eq_true, if_false] at hat
    exact retq rfl (by rw [hfin (by rw [hat]; decide), hat]; rfl)
   ·rename_i h1 h2 h3 h4
    simp only [h1, h2, h3, h4, BL, Bool.false_eq_true, if_false] at hat
    exact ⟨k + 1, ⟨hlt, hnx hat⟩, tD, tS, tH⟩
  ·repeat' (first | refine sK ?_ | refine sC (fun _ => ?_) (fun _ => ?_) | fail)
   obtain rfl : k = g.types.length := by omega
   exact retq rfl (by simp [retPV, check_no hf hno])
set_option maxHeartbeats 1000000 in
theorem Well_call (g : Img) : ACall Tryz.prog 107 [imgPV g] (pb (wellR g)) := by
 refine acall_intro tbOK Tryz.func107 rfl (by kernel_rfl) Tryz.ntmps107 (by simp) _ rfl (fun hw gB hgB => ?_)
 repeat' (first | (refine shC ?_; first | refine qC (Check_call g) ?_) | refine sA ?_ | refine sC (fun _ => ?_) (fun _ => ?_) | fail)
 all_goals (first | refine retq rfl ?_ | refine retn rfl ?_)
 all_goals (first | (simp_all [retPV, wellR]; done) | (simp_all [retPV, wellR]; omega))
end Go.Cg
namespace Go.Cg
open Go.RowKit
structure ACallR (P : Program) (f : FuncId) (args : List PV) (e : TypeId) (sz : Nat) (es : List PV) : Prop where
 stands : Stands P f
 calls : ∀ (K : KK) (w : World) (vs : List Value), (∀ b o, K b o → b < w.heap.size) → PRels K w args vs →
  Calls P f vs.toArray w fun ex w' => ∃ v K' xs, ex = .returned v ∧ Evo K K' w w' ∧ w'.ownsRow w.heap.size e sz v es.length xs ∧ CellsRel K' w' sz es xs ∧ (∀ b, v.ownBlock = some b → ∀ o, K' b o ↔ o < es.length * sz)
section
variable {P : Program} {tb : Tab} {n : Nat} {g : Base} {H : HEnv} {env : Env} {ops : List Oper} {o : Oper} {rest : List Oper} {Q : Env → HEnv → Prop}
theorem ownsRow_lower {w : World} {B B' : Nat} {e : TypeId} {sz : Nat} {v : Value} {n : Nat} {xs : List Value} (hB : B' ≤ B) (h : w.ownsRow B e sz v n xs) : w.ownsRow B' e sz v n xs := by
 obtain ⟨h1, h2⟩ := h
 refine ⟨h1, h2.imp id ?_⟩
 rintro ⟨g, cap, cur, a, b, c⟩
 exact ⟨g, cap, cur, a, Nat.le_trans hB b, c⟩
theorem ao_callR {xs : Array Operand} {ts : Array TypeId} {f : FuncId} {args es : List PV} {e : TypeId} {sz t : Nat} (i : Nat) (hg : guardE ops env o = some true) (hop : o.op = .call { callee := .value (.func f), args := xs, argTypes := ts }) (hargs : pvs env H xs.toList = some args)
  (hc : ACallR P f args e sz es) (h0 : 0 < sz) (hi : H.get i = none) (hd : o.dst = some t) (ht : Nat.blt t n = true)
  (h : AO P n g ops.toArray rest ((t, .own i) :: env) ((i, .row e sz es) :: H) Q) : AO P n g ops.toArray (o :: rest) env H Q := by
 refine ⟨fun a w hinv => ?_⟩
 have hw := wanted_of hinv hg
 obtain ⟨h1, h2, K, ρ, hf, he⟩ := hinv
 refine wpList_step fun KK hKK => ?_
 rw [if_pos hw]
 have hp := pvs_rel hf (a := a) (xs := xs.toList) (fun x hx av hxx => val_rel he hxx) hargs
 have hrun : (execOp a.eval o).run P w = .ok (.enter f (xs.toList.map a.eval).toArray) w := by
  have e : (xs.toList.map a.eval).toArray = xs.map a.eval := by rw [← Array.toList_map, Array.toArray_toList]
  rw [e]
  simp [execOp, hop, resolve, Act.eval, Deferred.ofValue, invoke, call_run hc.stands]
 unfold Oper.wp
 rw [hrun]
 simp only [Oper.upon]
 refine (hc.calls K w _ hf.lt hp).mono ?_
 rintro ex w'' ⟨v, K', us, rfl, hev, hown, hcr, hk⟩
 have hlow := ownsRow_lower hf.below.size hown
 refine hKK _ _ (h.go _ _ ⟨put_size h1, put_defers h2, K', fun j => if j = i then v else ρ j, hf.fresh hev hi ⟨us, by simpa using hlow, h0, hcr, by simpa using hk⟩ ?_, ?_⟩)
 ·intro b hb
  refine (hown.lt b ?_).1
  rcases hown.2 with ⟨rfl, _⟩ | ⟨g, _, _, rfl, _⟩
  ·simp [blockOf] at hb
  ·simpa [blockOf, Value.ownBlock] using hb
 ·rw [hd]
  refine env_put h1 ht (he.keeps (hev.later hf.lt) (fresh_keeps hi _ _)) ?_
  have := ARel.own (K := K') (w := w'') (ρ := fun j => if j = i then v else ρ j) (H := (i, HE.row e sz es) :: H) i (by simp [HEnv.get_cons])
  simpa using this
theorem ao_slice0 (htb : TabOK P tb) {t e d : Nat} {parts : Array (Nat × Operand)} (i : Nat) (hg : guardE ops env o = some true) (hop : o.op = .buildSlice t 0 parts) (hp : parts = #[]) (hk : tb.k t = .sl e) (hke : tb.known e = true) (hsz : Nat.blt 0 (tb.size e) = true) (hi : H.get i = none) (hd : o.dst = some d) (ht : Nat.blt d n = true)
  (h : AO P n g ops.toArray rest ((d, .own i) :: env) ((i, .row e (tb.size e) []) :: H) Q) : AO P n g ops.toArray (o :: rest) env H Q := by
 refine ⟨fun a w hinv => ?_⟩
 have hw := wanted_of hinv hg
 obtain ⟨h1, h2, K, ρ, hf, he⟩ := hinv
 refine wpList_step fun KK hKK => ?_
 rw [if_pos hw]
 subst hp
 have hko : tb.k e ≠ .oth := by intro h; simp [Tab.known, h] at hke
 have hs := run_sizeOf htb hko w
 have hrun : (execOp a.eval o).run P w = .ok (.value (.slice (some ⟨w.heap.size, 0, none⟩) 0 0)) (w.alloc (.cells #[] e)) := by
  have e0 : Array.range 0 = #[] := Array.eq_empty_of_size_eq_zero (by simp)
  simp [execOp, hop, Instr.buildSlice, run_underlying (tab_sl htb hk), hs, Instr.fill, newRow, e0]
 unfold Oper.wp
 rw [hrun]
 simp only [Oper.upon]
 have hev : Evo K K w (w.alloc (.cells #[] e)) := ⟨(Below.refl _ _).alloc (Nat.le_refl _) _, fun _ _ h => h, fun _ _ h => .inl h, fun b o h => by have := hf.lt b o h; simp; omega⟩
 refine hKK _ _ (h.go _ _ ⟨put_size h1, put_defers h2, K, fun j => if j = i then .slice (some ⟨w.heap.size, 0, none⟩) 0 0 else ρ j, hf.fresh hev hi ⟨[], ⟨by simp, .inr ⟨w.heap.size, 0, #[], by simp, hf.below.size, heap_alloc_new w _, Nat.le_refl _, by simp [maxLen], by simp, by simp⟩⟩, Nat.le_of_ble_eq_true hsz, fun i e h => by simp at h, ?_⟩ (by simp [blockOf]), ?_⟩)
 ·intro b hb o
  simp [Value.ownBlock] at hb
  subst hb
  refine ⟨fun h => ?_, fun h => by simp at h⟩
  have := hf.lt _ _ h
  omega
 ·rw [hd]
  refine env_put h1 ht (he.keeps (hev.later hf.lt) (fresh_keeps hi _ _)) ?_
  have := ARel.own (K := K) (w := w.alloc (.cells #[] e)) (ρ := fun j => if j = i then .slice (some ⟨w.heap.size, 0, none⟩) 0 0 else ρ j) (H := (i, HE.row e (tb.size e) []) :: H) i (by simp [HEnv.get_cons])
  simpa using this
def RetR (t : Nat) (e : TypeId) (sz : Nat) (es : List PV) : QC := fun ex env H => (ex = .normal ∨ ex = .ret) ∧ ∃ i, env.get t = some (.own i) ∧ H.get i = some (.row e sz es)
theorem acallR_intro {fn : Func} {c : Code} {f : FuncId} {args : List PV} {t : Nat} {e : TypeId} {sz : Nat} {es : List PV} (hf : P.funcs[f]? = some fn) (hb : fn.body = some c) (hn : (fn.name == "runtime.NumGoroutine") = false) (hnt : fn.ntmps = n) (hargs : args.length ≤ n)
  (hrs : fn.results.toList = [.tmp t]) (h : lensOk args → ∀ g : Base, Plain g → AW P n g c (argsE 0 args) [] (RetR t e sz es)) : ACallR P f args e sz es := by
 refine ⟨⟨fn, hf, by simp [hb], hn⟩, fun K w vs hl hv => ?_⟩
 refine calls_of_wp hf hb ?_
 have hlen : vs.length = args.length := hv.1
 refine wp_mono (wpIn_wide.1 ((h hv.lensOk (Base.of w K (bare w) []) ⟨rfl, hl⟩).go _ w ⟨by simp [hnt]; omega, rfl, K, fun _ => undef, ⟨.refl _ _, fun _ _ h => h, fun _ _ h => .inl h, hl, bare_others _ _, .base, .none _ _, ⟨by simp [HEnv.get_nil], by simp [HEnv.get_nil]⟩⟩, ?_⟩ none 0)) ?_
 ·intro t av hg
  obtain ⟨_, p, hp, rfl⟩ := argsE_get args 0 t av hg
  have hlt : t < vs.length := by rw [hlen]; exact (List.getElem?_eq_some_iff.1 hp).1
  refine ⟨vs[t], ?_, .pv _ _ (hv.2 t p _ hp (List.getElem?_eq_getElem hlt))⟩
  rw [Array.getElem?_append_left (by simpa using hlt)]
  simp [hlt]
 ·rintro ex a' w' ⟨env1, H', hi, he, i, hgi, hHi⟩
  obtain ⟨_, h2, K', ρ', hf', he0⟩ := hi
  obtain ⟨v, v1, v2⟩ := he0 t _ hgi
  cases v2
  obtain ⟨xs, hown, hsz, hcr, hk⟩ := hf'.heap.ok i _ hHi
  have hev : Evo K K' w w' := ⟨hf'.below, hf'.old, hf'.new, hf'.lt⟩
  have hres : (results fn a'.tmps).run P w' = .ok (ρ' i) w' := by
   unfold results
   rw [Array.mapM_eq_mapM_toList, hrs]
   simp [Array.getD_eq_getD_getElem?, v1]
  rcases he with rfl | rfl
  ·exact ⟨h2, _, hres, _, K', xs, rfl, hev, hown, hcr, hk⟩
  ·exact ⟨h2, _, hres, _, K', xs, rfl, hev, hown, hcr, hk⟩
end
end Go.Cg
set_option linter.unusedVariables false
set_option linter.unusedSimpArgs false
namespace Go.Cg
open Go.Proofs Go.Shelf Go.RowKit Go.Lib
theorem info28 : ∃ i, Tryz.prog.info? 36 = some i ∧ i.zero = some (.agg #[.int .i64 0, .int .i64 0, .int .i64 0, .bool false]) ∧ i.size = 4 ∧ i.bytes = 32 := by
 obtain ⟨i, h1, h2, h3, h4, _⟩ := tab_info (t := 36) tbOK rfl
 exact ⟨i, h1, h4, h2, h3⟩
def zTy : Value := .agg #[.int .i64 0, .int .i64 0, .int .i64 0, .bool false]
set_option maxHeartbeats 4000000 in
set_option maxRecDepth 100000 in
theorem Grow_pos (n : Nat) (hn0 : 0 < n) (hn : n ≤ 1000) (w : World) :
  Calls Tryz.prog 231 #[.slice none 0 0, .int .i64 n] w fun e w' => e = .returned (.slice (some ⟨w.heap.size, 0, none⟩) 0 (grownCap w n 0 36)) ∧
   w' = w.drew.alloc (.cells (Builtin.zeroCells zTy.cells n ++ Builtin.zeroCells zTy.cells (grownCap w n 0 36 - n)) 36) := by
 obtain ⟨i0, hi0, hz0, hs0, hb0⟩ := info28
 have u40 := run_underlying Tryz.underlying92
 have u3 := run_underlying Tryz.underlying3
 have h1 : ¬ ((n : Int) < 0) := by omega
 have h2 : wrap64 ((0 : Int) - 0) = 0 := by unfold wrap64; omega
 have h3 : wrap64 ((n : Int) - 0) = (n : Int) := by unfold wrap64; omega
 have h4 : (n : Int) > 0 := by omega
 have z28 : ∀ w, (Go.sizeOf 36).run Tryz.prog w = .ok i0.size w := fun w => by simp [Go.sizeOf, typeInfo, hi0]
 have hold : (Builtin.firstCells i0.size 0 (.slice none 0 0)).run Tryz.prog w.drew = .ok #[] w.drew := run_firstCells_none w.drew i0.size 0 0 0
 have hrz : ∀ ty, (Builtin.append_ #[92, 3] ty #[.slice none 0 0, .int .i64 (n : Int)]).run Tryz.prog w =
   .ok (.slice (some ⟨w.heap.size, 0, none⟩) n (grownCap w n 0 36)) (w.drew.alloc (.cells (Builtin.zeroCells zTy.cells n ++ Builtin.zeroCells zTy.cells (grownCap w n 0 36 - n)) 36)) := fun ty => by
  have h := Lib.run_append_grow_zeros w 92 3 ty 36 i0 zTy .i64 .i64 Tryz.underlying92 Tryz.underlying3 hi0 hz0 none 0 0 [] hold n hn0 (by omega) (by omega) (by omega)
   (by rw [hb0]; omega)
   (by rw [Nat.zero_add]; exact growslice_fits hn0 (by rw [hb0]; omega))
  rw [Nat.zero_add] at h
  simpa using h
 have hGn : n ≤ grownCap w n 0 36 := grownCap_ge w _ _ _
 obtain ⟨G, hG⟩ : ∃ G, G = grownCap w n 0 36 := ⟨_, rfl⟩
 rw [← hG] at hrz hGn ⊢
 have hG63 : G ≤ 9223372036854775807 := by
  have := grownCap_le_maxLen w n 0 36 (by unfold maxLen; omega)
  rw [← hG] at this
  unfold maxLen at this
  omega
 clear hold hG
 go_enter Tryz.func231, Tryz.ntmps231
 go_wp2_with (at_builtin; refine Lib.wpList_append_run _ rfl _ _ _ _ rfl _ _ rfl rfl _ _ (hrz _) ?_)
 all_goals (go_ret; exact ⟨rfl, rfl⟩)
set_option maxHeartbeats 4000000 in
theorem Grow_zero (w : World) : Calls Tryz.prog 231 #[.slice none 0 0, .int .i64 0] w fun e w' => e = .returned (.slice none 0 0) ∧ w' = w := by
 have u40 := run_underlying Tryz.underlying92
 have u3 := run_underlying Tryz.underlying3
 go_enter Tryz.func231, Tryz.ntmps231
 go_wp2
 go_ret
 exact ⟨rfl, rfl⟩
theorem Grow_call (m : Int) (h0 : 0 ≤ m) (h1 : m ≤ 1000) : ACallR Tryz.prog 231 [.base (.slice none 0 0), pi m] 36 4 [] := by
 refine ⟨⟨_, Tryz.func231, rfl, by kernel_rfl⟩, fun K w vs hl hv => ?_⟩
 obtain ⟨v0, vs0, rfl, r0, hv0⟩ := hv.cons_inv
 obtain ⟨v1, vs1, rfl, r1, hv1⟩ := hv0.cons_inv
 obtain rfl := hv1.nil_inv
 cases r0
 cases r1
 obtain ⟨n, rfl⟩ := Int.eq_ofNat_of_zero_le h0
 by_cases hn : n = 0
 ·subst hn
  refine (Grow_zero w).mono ?_
  rintro e w' ⟨rfl, rfl⟩
  exact ⟨_, K, [], rfl, .refl hl, World.ownsRow_nil _ _ _ _, fun i e h => by simp at h, by simp [Value.ownBlock]⟩
 ·refine (Grow_pos n (by omega) (by omega) w).mono ?_
  rintro e w' ⟨rfl, rfl⟩
  have hev : Evo K K w (w.drew.alloc (.cells (Builtin.zeroCells zTy.cells n ++ Builtin.zeroCells zTy.cells (grownCap w n 0 36 - n)) 36)) :=
   (Evo.refl hl).drew.trans ⟨(Below.refl _ _).alloc (Nat.le_refl _) _, fun _ _ h => h, fun _ _ h => .inl h, fun b o h => by have := hl b o h; simp; omega⟩
  have hG := grownCap_ge w n 0 36
  refine ⟨_, K, [], rfl, hev, ?_, fun i e h => by simp at h, ?_⟩
  ·refine ⟨rfl, .inr ⟨w.heap.size, grownCap w n 0 36, _, rfl, Nat.le_refl _, by simpa using heap_alloc_new w.drew _, by simp, grownCap_le_maxLen w n 0 36 (by unfold maxLen; omega), ?_, rfl⟩⟩
   simp [size_zeroCells, zTy, Value.cells]
   omega
  ·intro b hb o
   simp [Value.ownBlock] at hb
   subst hb
   refine ⟨fun h => ?_, fun h => by simp at h⟩
   have := hl _ _ h
   omega
end Go.Cg
namespace Go.Cg
open Go.Proofs
set_option maxHeartbeats 1000000 in
theorem Clone_call (l : List Ty) (hb : l.length ≤ 1000) : ACall Tryz.prog 152 [tys l] (tys l) := by
 refine acall_intro tbOK Tryz.func152 rfl (by kernel_rfl) Tryz.ntmps152 (by simp) _ rfl (fun hw gB hgB => ?_)
 repeat' (first | refine ao_isnil tbOK rfl rfl rfl rfl rfl rfl rfl (fun bb hbb => ?_) | refine ao_q rfl (q_slice0 tbOK rfl rfl rfl rfl rfl) rfl rfl ?_ | (refine ao_sh_bi ?_; first | refine ao_q rfl (q_append tbOK rfl rfl (.inl rfl) rfl rfl (by show _ * 32 ≤ _; simp; omega) (by simp; omega)) rfl rfl ?_) | refine sA ?_ | refine sC (fun _ => ?_) (fun _ => ?_) | fail)
 ·rename_i h
  have : l = [] := by have := hbb h; simpa using this
  subst this
  exact retq_w (t := 2) (ps := [tys []]) rfl (tells_nil 4 false) rfl rfl
 ·exact retq rfl rfl
set_option maxHeartbeats 1000000 in
theorem PopBad_call (l : List Ty) (k : Int) (h : k < 0 ∨ (l.length : Int) < k) : ACall Tryz.prog 245 [tys l, pi k] (.tup [.base (.slice none 0 0), .base (.slice none 0 0), pi 9]) := by
 refine acall_intro tbOK Tryz.func245 rfl (by kernel_rfl) Tryz.ntmps245 (by simp) _ rfl (fun hw gB hgB => ?_)
 have hl := tys_len hw.1
 rcases h with h | h
 ·repeat' (first | refine sK ?_ | refine sC (fun _ => ?_) (fun _ => ?_) | fail)
  exact retq rfl rfl
 ·by_cases h2 : k < 0
  ·repeat' (first | refine sK ?_ | refine sC (fun _ => ?_) (fun _ => ?_) | fail)
   exact retq rfl rfl
  ·repeat' (first | refine sK ?_ | refine sC (fun _ => ?_) (fun _ => ?_) | fail)
   exact retq rfl rfl
set_option maxHeartbeats 1000000 in
theorem Pop_call (l : List Ty) (k : Int) (hb : l.length ≤ 1000) (h : 0 ≤ k) (h2 : k ≤ l.length) : ACall Tryz.prog 245 [tys l, pi k] (.tup [tys (l.take (l.length - k.toNat)), tys (l.drop (l.length - k.toNat)), pi 0]) := by
 refine acall_intro tbOK Tryz.func245 rfl (by kernel_rfl) Tryz.ntmps245 (by simp) _ rfl (fun hw gB hgB => ?_)
 have hl := tys_len hw.1
 have hm : IntKind.i64.wrap (((l.map tyPV).length : Int) - k) = ((l.length - k.toNat : Nat) : Int) := by
  rw [List.length_map, wrap_in (by omega) (by omega)]; omega
 repeat' (first | refine AD.step _ _ _ _ _ rfl (q_slice_map (xs := l) (f := tyPV) 0 (l.length - k.toNat) tbOK rfl rfl rfl rfl rfl rfl (congrArg some hm) (by omega) (by omega)) rfl rfl ?_ | refine AD.step _ _ _ _ _ rfl (q_slice_map (xs := l) (f := tyPV) (l.length - k.toNat) l.length tbOK rfl rfl rfl rfl rfl (congrArg some hm) (by simp [boundE]) (by omega) (by omega)) rfl rfl ?_ | (refine shC ?_; first | refine ao_q rfl (q_call rfl rfl (Clone_call _ (by simp; omega))) rfl rfl ?_ | refine AD.step _ _ _ _ _ rfl (q_call rfl rfl (Clone_call _ (by simp; omega))) rfl rfl ?_) | refine sK ?_ | refine sC (fun _ => ?_) (fun _ => ?_) | fail)
 exact retq rfl (by simp [retPV])
end Go.Cg
namespace Go.Cg
open Go.Proofs
def catN (a b : List Ty) : Nat → Int
 | 0 => 0
 | 1 => a.length
 | _ => a.length + b.length
def catL (a b : List Ty) : Nat → List Ty
 | 0 => []
 | 1 => a
 | _ => a ++ b
set_option maxHeartbeats 1000000 in
theorem Concat_call (a b : List Ty) (ha : a.length ≤ 200) (hb : b.length ≤ 200) : ACall Tryz.prog 179 [.slc 1 [tys a, tys b] true] (tys (a ++ b)) := by
 refine acall_intro tbOK Tryz.func179 rfl (by kernel_rfl) Tryz.ntmps179 (by simp) _ rfl (fun hw gB hgB => ?_)
 repeat' (first | refine sK ?_ | refine sC (fun _ => ?_) (fun _ => ?_) | fail)
 refine aw_loop (fun k : Nat => [(0, .pv (.slc 1 [tys a, tys b] true)), (9, .pv (.slc 1 [tys a, tys b] true)), (10, .pv (pi 2)), (11, .pv (pi k)), (3, .pv (pi (catN a b k)))]) (fun _ => []) (fun k => k ≤ 2) (fun k => 2 - k) 0 (by omega) (tS) tH ?_
 intro k hk
 have hk3 : k = 0 ∨ k = 1 ∨ k = 2 := by omega
 rcases hk3 with rfl | rfl | rfl
 ·repeat' (first | refine ao_q rfl (q_int tbOK rfl (by first | omega | (simp [catN] <;> omega)) (by first | omega | (simp [catN] <;> omega))) rfl rfl ?_ | (refine shX ?_; first | refine ao_q rfl (q_index tbOK rfl rfl rfl rfl rfl rfl (by decide) rfl) rfl rfl ?_ | refine AD.step _ _ _ _ _ rfl (q_index tbOK rfl rfl rfl rfl rfl rfl (by decide) rfl) rfl rfl ?_) | refine sK ?_ | refine sC (fun _ => ?_) (fun _ => ?_) | fail)
  exact ⟨1, by omega, tD, by repeat (first | exact sub_nil | refine sub_cons rfl ?_ | (refine sub_i rfl ?_ ?_; · (first | (simp [catN]; done) | (simp [catN]; omega) | omega))), tH⟩
 ·repeat' (first | refine ao_q rfl (q_int tbOK rfl (by first | omega | (simp [catN] <;> omega)) (by first | omega | (simp [catN] <;> omega))) rfl rfl ?_ | (refine shX ?_; first | refine ao_q rfl (q_index tbOK rfl rfl rfl rfl rfl rfl (by decide) rfl) rfl rfl ?_ | refine AD.step _ _ _ _ _ rfl (q_index tbOK rfl rfl rfl rfl rfl rfl (by decide) rfl) rfl rfl ?_) | refine sK ?_ | refine sC (fun _ => ?_) (fun _ => ?_) | fail)
  exact ⟨2, by omega, tD, by repeat (first | exact sub_nil | refine sub_cons rfl ?_ | (refine sub_i rfl ?_ ?_; · (first | (simp [catN]; done) | (simp [catN]; omega) | omega))), tH⟩
 ·repeat' (first | (refine ao_sh_call ?_; first | refine ao_callR 0 rfl rfl rfl (Grow_call _ (by simp [catN]; omega) (by simp [catN]; omega)) (by decide) rfl rfl rfl ?_) | refine sK ?_ | refine sC (fun _ => ?_) (fun _ => ?_) | fail)
  refine aw_loop (fun k : Nat => [(6, .own 0), (25, .pv (.slc 1 [tys a, tys b] true)), (26, .pv (pi 2)), (27, .pv (pi k))]) (fun k => [(0, .row 36 4 ((catL a b k).map tyPV))]) (fun k => k ≤ 2) (fun k => 2 - k) 0 (by omega) (tS) tH ?_
  intro k hk
  have hk3 : k = 0 ∨ k = 1 ∨ k = 2 := by omega
  rcases hk3 with rfl | rfl | rfl
  ·repeat' (first | refine ao_q rfl (q_int tbOK rfl (by first | omega | (simp [catN] <;> omega)) (by first | omega | (simp [catN] <;> omega))) rfl rfl ?_ | (refine shX ?_; first | refine ao_q rfl (q_index tbOK rfl rfl rfl rfl rfl rfl (by decide) rfl) rfl rfl ?_ | refine AD.step _ _ _ _ _ rfl (q_index tbOK rfl rfl rfl rfl rfl rfl (by decide) rfl) rfl rfl ?_) | (refine ao_sh_bi ?_; first | refine ao_append tbOK rfl rfl rfl rfl rfl rfl rfl (by show _ * 32 ≤ _; simp [catL]; omega) (by simp [catL]; omega) rfl rfl ?_) | refine sK ?_ | refine sC (fun _ => ?_) (fun _ => ?_) | fail)
   exact ⟨1, by omega, tD, by repeat (first | exact sub_nil | refine sub_cons rfl ?_ | (refine sub_i rfl ?_ ?_; · omega)), ⟨hsub_cons rfl hsub_nil, rfl⟩⟩
  ·repeat' (first | refine ao_q rfl (q_int tbOK rfl (by first | omega | (simp [catN] <;> omega)) (by first | omega | (simp [catN] <;> omega))) rfl rfl ?_ | (refine shX ?_; first | refine ao_q rfl (q_index tbOK rfl rfl rfl rfl rfl rfl (by decide) rfl) rfl rfl ?_ | refine AD.step _ _ _ _ _ rfl (q_index tbOK rfl rfl rfl rfl rfl rfl (by decide) rfl) rfl rfl ?_) | (refine ao_sh_bi ?_; first | refine ao_append tbOK rfl rfl rfl rfl rfl rfl rfl (by show _ * 32 ≤ _; simp [catL]; omega) (by simp [catL]; omega) rfl rfl ?_) | refine sK ?_ | refine sC (fun _ => ?_) (fun _ => ?_) | fail)
   exact ⟨2, by omega, tD, by repeat (first | exact sub_nil | refine sub_cons rfl ?_ | (refine sub_i rfl ?_ ?_; · omega)), ⟨hsub_cons (by show some (HE.row 36 4 (_ ++ _)) = _; simp [catL]) hsub_nil, rfl⟩⟩
  ·repeat' (first | refine sK ?_ | refine sC (fun _ => ?_) (fun _ => ?_) | fail)
   exact retq rfl (by simp [retPV, catL, tys])
set_option maxHeartbeats 1000000 in
theorem Push_call (a b : List Ty) (m : Int) (ha : a.length ≤ 200) (hb : b.length ≤ 200) (h : (a.length + b.length : Int) ≤ m) : ACall Tryz.prog 244 [tys a, pi m, tys b] (.tup [tys (a ++ b), pi 0]) := by
 refine acall_intro tbOK Tryz.func244 rfl (by kernel_rfl) Tryz.ntmps244 (by simp) _ rfl (fun hw gB hgB => ?_)
 have hl : ¬ (m < (((a ++ b).map tyPV).length : Int)) := by simp; omega
 repeat' (first | (refine shC ?_; first | refine qC (Concat_call a b ha hb) ?_) | refine sK ?_ | refine sC (fun _ => ?_) (fun _ => ?_) | fail)
 all_goals exact retq rfl (by simp [retPV])
set_option maxHeartbeats 1000000 in
theorem PushBad_call (a b : List Ty) (m : Int) (ha : a.length ≤ 200) (hb : b.length ≤ 200) (h : m < (a.length + b.length : Int)) : ACall Tryz.prog 244 [tys a, pi m, tys b] (.tup [.base (.slice none 0 0), pi 9]) := by
 refine acall_intro tbOK Tryz.func244 rfl (by kernel_rfl) Tryz.ntmps244 (by simp) _ rfl (fun hw gB hgB => ?_)
 have hl : m < (((a ++ b).map tyPV).length : Int) := by simp; omega
 repeat' (first | (refine shC ?_; first | refine qC (Concat_call a b ha hb) ?_) | refine sK ?_ | refine sC (fun _ => ?_) (fun _ => ?_) | fail)
 all_goals exact retq rfl (by simp [retPV])
end Go.Cg
namespace Go.Cg
open Go.Proofs
abbrev tA : Ty := ⟨8, 0, 0, false⟩
abbrev tB : Ty := ⟨4, 0, 0, false⟩
abbrev img0 : PV := .agg [.base (.slice none 0 0), .base (.slice none 0 0), .base (.slice none 0 0), pi (-1)]
set_option maxHeartbeats 1000000 in
theorem FitsAB_call : ACall Tryz.prog 214 [img0, tyPV tA, tyPV tB] (pb true) := by
 refine acall_intro tbOK Tryz.func214 rfl (by kernel_rfl) Tryz.ntmps214 (by simp) _ rfl (fun hw gB hgB => ?_)
 repeat' (first | (refine shC ?_; first | refine qC (Object_call tA) ?_ | refine qC (Object_call tB) ?_ | refine qC (plain_call tA 8) ?_) | refine sA ?_ | refine sC (fun _ => ?_) (fun _ => ?_) | fail)
 all_goals exact retq rfl rfl
set_option maxHeartbeats 1000000 in
theorem FitsBA_call : ACall Tryz.prog 214 [img0, tyPV tB, tyPV tA] (pb false) := by
 refine acall_intro tbOK Tryz.func214 rfl (by kernel_rfl) Tryz.ntmps214 (by simp) _ rfl (fun hw gB hgB => ?_)
 repeat' (first | (refine shC ?_; first | refine qC (Object_call tA) ?_ | refine qC (Object_call tB) ?_ | refine qC (plain_call tB 8) ?_ | refine qC (plain_call tB 5) ?_ | refine qC (plain_call tB 7) ?_ | refine qC (plain_call tA 4) ?_ | refine qC (plain_call tA 5) ?_) | refine sA ?_ | refine sC (fun _ => ?_) (fun _ => ?_) | fail)
 all_goals exact retq rfl rfl
end Go.Cg
namespace Go.Cg
open Go.Proofs
def smE : Nat → AV
 | 0 => .pv (.base (.slice none 0 0))
 | _ => .pv (tys [tB])
end Go.Cg
