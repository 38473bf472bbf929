/- A region that draws its order, and that lays one variable and writes it once: the walk. -/
import Derived.Test.YtkbdoobcgifaaaaDraw2
namespace Go.Cg
open Go.RowKit

section
variable {P : Program} {tb : Tab} {n : Nat} {g : Base} {H : HEnv} {env : Env} {ops ops' : List Oper} {Q : Env → Prop}

theorem hasEdge_after {o o' : Oper} (h : o.after = o'.after) (j : Nat) : hasEdge o j = hasEdge o' j := by unfold hasEdge; rw [h]

theorem count_next {listed : Array Bool} {j fuel : Nat} (hlt : j < listed.size) (hun : listed.getD j true = false) (hc : (listed.toList.filter (! ·)).length = fuel + 1) : ((listed.setIfInBounds j true).toList.filter (! ·)).length = fuel := by
  have hlt' : j < listed.toList.length := by simpa using hlt
  have hjf : listed.toList[j] = false := by
    rw [Array.getD_eq_getD_getElem?, Array.getElem?_eq_getElem hlt] at hun
    simpa using hun
  have e1 : listed.toList = listed.toList.take j ++ false :: listed.toList.drop (j + 1) := by
    rw [← hjf, List.getElem_cons_drop, List.take_append_drop]
  rw [Array.toList_setIfInBounds, List.set_eq_take_append_cons_drop, if_pos hlt']
  rw [e1] at hc
  simp only [List.filter_append, List.length_append, List.filter_cons, Bool.not_false, if_true, List.length_cons, Bool.not_true, Bool.false_eq_true, if_false] at hc ⊢
  omega

/-- The block, at every moment. -/
def BI (g : Base) (H : HEnv) (ja js ta : Nat) (ty : TypeId) (zc : Array Value) (r : AV) (listed : Array Bool) (a : Act) (w : World) (K : KK) (ρ : Nat → Value) : Prop :=
  listed.getD ja true = true → ∃ b, a.tmps[ta]? = some (.pointer (some ⟨b, 0, none⟩)) ∧
    ((listed.getD js true = false ∧ Blk g K ρ H w b ty zc) ∨ (listed.getD js true = true ∧ ∃ ru, ARel K w ρ H r ru ∧ Blk g K ρ H w b ty ru.cells))

theorem wpAny_blk {ja js t' ta tx jx : Nat} {oa os ox : Oper} {ty : TypeId} {z : Value} {za v r : AV} {R : Exit → Act → World → Prop} (htb : TabOK P tb) (hsh : ops' = shadowFrom ja js t' n ops 0) (hB : drawOk ops' ops' = true) (s : Script P n g H ops' ops' env Q)
    (hoa : ops[ja]? = some oa) (hopa : oa.op = .alloc ty) (hda : oa.dst = some ta) (hta : ta < n) (hga : oa.guard = none)
    (hos : ops[js]? = some os) (hops : os.op = .store ty (.tmp ta) (.tmp tx)) (hds : os.dst = none) (hgs : os.guard = none) (ht' : t' < n)
    (hne : ja ≠ js) (hea : hasEdge os ja = true) (hex : hasEdge os jx = true) (hox : ops'[jx]? = some ox) (hdx : ox.dst = some tx)
    (hng : ∀ (j : Nat) (o : Oper) (jj : Nat) (want : Bool), ops[j]? = some o → o.guard = some (jj, want) → jj ≠ js)
    (hz : tb.zero ty = some z) (hza : zeroAV z = some za) (hk : tb.known ty = true) (henv : env.get n = none)
    (hv : s.last.get tx = some v) (hr : storeA tb H ty za 0 v = some r) (hn : cellOk H za = true)
    (hR : ∀ a w K ρ b ru, a.tmps.size = n → a.defers = [] → FS g K ρ H w → EnvR K w ρ H s.last a.tmps → a.tmps[ta]? = some (.pointer (some ⟨b, 0, none⟩)) → ARel K w ρ H r ru → Blk g K ρ H w b ty ru.cells → R .normal a w) :
    ∀ (fuel : Nat) (listed : Array Bool) (a : Act) (w : World) (K : KK) (ρ : Nat → Value), (listed.toList.filter (! ·)).length = fuel → MidX P n g H ops' env Q s listed a w K ρ → BI g H ja js ta ty z.cells r listed a w K ρ →
    wpAny P .any ops.toArray R fuel listed a w := by
  have hlen : ops'.length = ops.length := by rw [hsh, shadowFrom_length]
  have hget : ∀ j, ops'[j]? = (ops[j]?).map fun o => shadowOp ja js t' n o j := by
    intro j; rw [hsh, shadowFrom_get]; simp
  have hzi : ∃ i, P.info? ty = some i ∧ i.zero = some z := by
    unfold Tab.zero at hz
    split at hz
    · rename_i ti hti
      obtain ⟨i, e1, _, _, e4, _⟩ := tab_info htb hti
      exact ⟨i, e1, by rw [e4]; exact hz⟩
    · cases hz
  obtain ⟨ti, hti, htz⟩ := hzi
  have hzr : ∀ (K : KK) (w : World) (ρ : Nat → Value), ARel K w ρ H za z := by
    intro K w ρ
    unfold zeroAV at hza
    split at hza
    · rename_i cs
      split at hza
      · rename_i ps hps
        simp only [Option.some.injEq] at hza; subst hza
        have hr := zeroPVs_rel (K := K) (w := w) hps
        have := PRel.agg ps cs.toList hr.1 (zeroPVs_one hps) hr.2
        exact .pv _ _ (by simpa using this)
      · cases hza
    · split at hza
      · rename_i ho
        simp only [Option.some.injEq] at hza; subst hza
        exact .pv _ _ (.base _ ho)
      · cases hza
  have hedges : ∀ j o, ops[j]? = some o → ∀ i, hasEdge (shadowOp ja js t' n o j) i = hasEdge o i := fun j o _ i => hasEdge_after shadowOp_after i
  have hjsl : js < ops.length := (List.getElem?_eq_some_iff.1 hos).1
  have hjal : ja < ops.length := (List.getElem?_eq_some_iff.1 hoa).1
  have fin : ∀ (listed : Array Bool) (a : Act) (w : World) (K : KK) (ρ : Nat → Value), (∀ j, j < ops.length → listed.getD j true = true) → MidX P n g H ops' env Q s listed a w K ρ → BI g H ja js ta ty z.cells r listed a w K ρ → R .normal a w := by
    intro listed a w K ρ hall hm hb
    obtain ⟨b, b1, b2⟩ := hb (hall ja hjal)
    rcases b2 with ⟨b2, _⟩ | ⟨_, ru, b3, b4⟩
    · rw [hall js hjsl] at b2; cases b2
    · exact hR a w K ρ b ru hm.size hm.defers hm.fs (hm.done (fun j hj => hall j (by omega))) b1 b3 b4
  intro fuel
  induction fuel with
  | zero =>
    intro listed a w K ρ hc hm hb
    have hall : ∀ j, j < ops.length → listed.getD j true = true := by
      intro j hj
      have hn := List.filter_eq_nil_iff.1 (List.eq_nil_of_length_eq_zero hc)
      have hlt : j < listed.size := by rw [hm.lsize, hlen]; exact hj
      have := hn listed[j] (by simp)
      simp only [Bool.not_eq_true', Bool.not_eq_false] at this
      rw [Array.getD_eq_getD_getElem?, Array.getElem?_eq_getElem hlt]
      simpa using this
    refine ⟨?_, fin listed a w K ρ hall hm hb⟩
    rw [List.eq_nil_iff_forall_not_mem]
    intro j hj
    obtain ⟨o, ho, hun, _⟩ := mem_ready_iff.1 hj
    rw [hall j (List.getElem?_eq_some_iff.1 ho).1] at hun; cases hun
  | succ fuel ih =>
    intro listed a w K ρ hc hm hb
    refine ⟨fun h0 => ?_, fun j hj => ?_⟩
    · -- nothing is ready: then all have come up
      refine fin listed a w K ρ (fun j hj => ?_) hm hb
      induction j using Nat.strongRecOn with
      | _ j ihj =>
        cases hun : listed.getD j true
        · exfalso
          have ho := List.getElem?_eq_getElem hj
          have : j ∈ Region.ready .any ops.toArray listed := mem_ready_iff.2 ⟨_, ho, hun, fun i hi => by
            have ho' : ops'[j]? = some (shadowOp ja js t' n ops[j] j) := by rw [hget, ho]; rfl
            have hij := (drawOk_at hB ho').2.1 i (by rw [hedges j _ ho]; exact hi)
            have hi2 := ihj i hij (by omega)
            have hlt : i < listed.size := by rw [hm.lsize, hlen]; omega
            rw [Array.getD_eq_getD_getElem?, Array.getElem?_eq_getElem hlt] at hi2 ⊢
            exact hi2⟩
          rw [h0] at this; cases this
        · rfl
    obtain ⟨o, ho, hun, hready⟩ := mem_ready_iff.1 hj
    have hjlt := (List.getElem?_eq_some_iff.1 ho).1
    have hjl : j < listed.size := by rw [hm.lsize, hlen]; exact hjlt
    have ho' : ops'[j]? = some (shadowOp ja js t' n o j) := by rw [hget, ho]; rfl
    have hready' : ∀ i, hasEdge (shadowOp ja js t' n o j) i = true → listed.getD i false = true := fun i hi => hready i (by rw [← hedges j o ho]; exact hi)
    have hcount := count_next hjl hun hc
    have hft : ∀ i, listed.getD i false = true → listed.getD i true = true := by
      intro i hi
      rw [Array.getD_eq_getD_getElem?] at hi ⊢
      cases h : listed[i]? with
      | none => rfl
      | some b => rw [h] at hi; exact hi
    have hrj : s.r[j]? = some (s.r[j]'(by rw [s.lenr, hlen]; exact hjlt)) := List.getElem?_eq_getElem _
    generalize s.r[j]'(by rw [s.lenr, hlen]; exact hjlt) = rj at hrj
    unfold wpOp
    simp only [List.getElem?_toArray, ho]
    have hBI_set : ∀ (j' : Nat), j' = j → j ≠ js → ∀ (a' : Act) (w' : World) (K' : KK), (∀ b, a.tmps[ta]? = some (.pointer (some ⟨b, 0, none⟩)) → a'.tmps[ta]? = some (.pointer (some ⟨b, 0, none⟩))) → Evo K K' w w' → j ≠ ja → BI g H ja js ta ty z.cells r (listed.setIfInBounds j true) a' w' K' ρ := by
      intro _ _ hjs a' w' K' hta' hev hja hl
      rw [getD_set_other (Ne.symm hja)] at hl
      obtain ⟨b, b1, b2⟩ := hb hl
      refine ⟨b, hta' b b1, ?_⟩
      rw [getD_set_other (Ne.symm hjs)]
      rcases b2 with ⟨e1, e2⟩ | ⟨e1, ru, e2, e3⟩
      · exact .inl ⟨e1, e2.evo hev⟩
      · exact .inr ⟨e1, ru, e2.later (hev.later hm.fs.lt), e3.evo hev⟩
    by_cases hja : j = ja
    · -- it is laid
      subst hja
      rw [hoa] at ho; cases ho
      have hw : Region.wanted oa (yielded ops.toArray a.tmps) = true := by simp [Region.wanted, hga]
      rw [if_pos hw]
      refine .inl ?_
      have hrun : (execOp a.eval oa).run P w = .ok (.value (.pointer (some ⟨w.heap.size, 0, none⟩))) (w.alloc (.cells z.cells ty)) := by
        simp [execOp, hopa, Instr.alloc, zeroValue, typeInfo, hti, htz, newVar, newRow]
      unfold Oper.wp
      rw [hrun]
      simp only [Oper.upon]
      have hev : Evo K K w (w.alloc (.cells z.cells ty)) := ⟨(Below.refl _ _).alloc (Nat.le_refl _) _, fun _ _ h => h, fun _ _ h => .inl h, fun b o h => by have := hm.fs.lt b o h; simp; omega⟩
      have hfs := hm.fs.evo hev
      have hbeq : Nat.beq j j = true := Nat.beq_refl j
      have hop : (shadowOp j js t' n oa j).op = .move (.tmp n) := by unfold shadowOp; rw [hbeq]
      have hds' : (shadowOp j js t' n oa j).dst = some ta := by rw [shadowOp_dst hne]; exact hda
      have hgs' : (shadowOp j js t' n oa j).guard = none := by rw [shadowOp_guard]; exact hga
      rw [hda]
      refine ih _ _ _ K ρ hcount (hm.next hB ho' hrj hds' hta hun hready' hfs (hev.later hm.fs.lt) (shadow_any a ho' hrj hop hgs' henv hfs _)) ?_
      intro _
      refine ⟨w.heap.size, by simp only [Act.put]; rw [Array.getElem?_setIfInBounds_self_of_lt (by rw [hm.size]; exact hta)], .inl ⟨?_, hm.fs.below.size, heap_alloc_new w _, fun o ho => by have := hm.fs.lt _ o ho; omega, fun k h hk hl hbk => ?_⟩⟩
      · rw [getD_set_other (Ne.symm hne)]
        cases hjs : listed.getD js true
        · rfl
        · have hos' : ops'[js]? = some (shadowOp j js t' n os js) := by rw [hget, hos]; rfl
          have := hft _ (hm.closed js _ hos' hjs j (by rw [hedges js os hos]; exact hea))
          rw [hun] at this; cases this
      · have := ((hm.fs.heap.ok k h hk).block_lt hl hbk).2
        omega
    by_cases hjs : j = js
    · -- it is written
      subst hjs
      rw [hos] at ho; cases ho
      have hw : Region.wanted os (yielded ops.toArray a.tmps) = true := by simp [Region.wanted, hgs]
      rw [if_pos hw]
      refine .inl ?_
      have hlja := hft _ (hready ja hea)
      obtain ⟨b, b1, b2⟩ := hb hlja
      have hblk : Blk g K ρ H w b ty z.cells := by
        rcases b2 with ⟨_, h⟩ | ⟨h, _⟩
        · exact h
        · rw [hun] at h; cases h
      obtain ⟨u, u1, u2⟩ := hm.early hB hox hdx (hft _ (hready jx hex)) hv
      obtain ⟨s1, s2, s3, ru, hru, hcells⟩ := storeA_rel hr (hzr K w ρ) u2 (row_one hm.fs) (cell_flat hm.fs (hzr K w ρ) hn)
      have hko : tb.k ty ≠ .oth := by intro e; simp [Tab.known, e] at hk
      have hs := run_sizeOf htb hko w
      have hst := run_storeCells_at P b 0 ty u.cells.toList 0 z.cells w hblk.heap (by simp; omega) s2
      have ha1 : a.eval (.tmp ta) = .pointer (some ⟨b, 0, none⟩) := by simp [Act.eval, Array.getD_eq_getD_getElem?, b1]
      have ha2 : a.eval (.tmp tx) = u := by simp [Act.eval, Array.getD_eq_getD_getElem?, u1]
      have hrun : (execOp a.eval os).run P w = .ok .skip (w.setRow b ru.cells) := by
        simp only [Nat.add_zero, Array.length_toList, s1] at hst
        rw [← hcells, Array.toArray_toList] at hst
        simp [execOp, hops, ha1, ha2, Instr.storeAt, Instr.sureAddr, storeVar, hs, s1, hst]
      unfold Oper.wp
      rw [hrun]
      simp only [Oper.upon]
      obtain ⟨f1, f2, f3⟩ := hblk.set (arr' := ru.cells) hm.fs
      have hbeq : Nat.beq j j = true := Nat.beq_refl j
      have hbne : Nat.beq j ja = false := by cases h : Nat.beq j ja; rfl; exact absurd (Nat.eq_of_beq_eq_true h) hja
      have hop : (shadowOp ja j t' n os j).op = .move (.tmp n) := by unfold shadowOp; rw [hbne, hbeq]
      have hds' : (shadowOp ja j t' n os j).dst = some t' := by unfold shadowOp; rw [hbne, hbeq]
      have hgs' : (shadowOp ja j t' n os j).guard = none := by rw [shadowOp_guard]; exact hgs
      have hd' : a.put os.dst undef = a := by rw [hds]; rfl
      rw [hd']
      refine ih _ _ _ K ρ hcount (hm.nop ho' hrj (fun u => shadow_any a ho' hrj hop hgs' henv f1 u) hds' ht' hun hready' f1 f3) ?_
      intro _
      exact ⟨b, b1, .inr ⟨getD_set_same hjl, ru, hru.later f3, f2⟩⟩
    · -- it only computes
      have hpure : shadowOp ja js t' n o j = o := shadowOp_pure hja hjs
      rw [hpure] at ho' hready'
      have hej : s.e[j]? = some (s.e[j]'(by rw [s.lene, hlen]; exact hjlt)) := List.getElem?_eq_getElem _
      generalize s.e[j]'(by rw [s.lene, hlen]; exact hjlt) = ej at hej
      obtain ⟨t, hd, ht, hor⟩ := s.ok j o rj ej ho' hrj hej
      have hreads := hm.mid.reads hB ho' hej hun hready' hm.hl hm.he
      have htta : t ≠ ta := by
        rintro rfl
        have hoa' : ops'[ja]? = some (shadowOp ja js t' n oa ja) := by rw [hget, hoa]; rfl
        have hda' : (shadowOp ja js t' n oa ja).dst = some t := by rw [shadowOp_dst hne]; exact hda
        exact (drawOk_at hB hoa').2.2.1 j o ho' hja (by rw [hd, hda'])
      have hkeep : ∀ v b, a.tmps[ta]? = some (.pointer (some ⟨b, 0, none⟩)) → (a.put (some t) v).tmps[ta]? = some (.pointer (some ⟨b, 0, none⟩)) := by
        intro v b h
        simp only [Act.put]; rw [Array.getElem?_setIfInBounds_ne htta]; exact h
      have hwanted : ∀ b, guardE ops' ej o = some b → Region.wanted o (yielded ops.toArray a.tmps) = b := by
        intro b hgb
        unfold guardE guardVar at hgb
        cases hg : o.guard with
        | none => simp [hg] at hgb; subst hgb; simp [Region.wanted, hg]
        | some x =>
          obtain ⟨jj, want⟩ := x
          have hjj' := hng j o jj want ho hg
          simp only [hg] at hgb
          cases hjj : ops[jj]? with
          | none => rw [hget, hjj] at hgb; simp at hgb
          | some o' =>
            have hS : ops'[jj]? = some (shadowOp ja js t' n o' jj) := by rw [hget, hjj]; rfl
            have hSd : (shadowOp ja js t' n o' jj).dst = o'.dst := shadowOp_dst hjj'
            simp only [hS] at hgb
            cases hd' : o'.dst with
            | none => rw [hSd, hd'] at hgb; simp at hgb
            | some t2 =>
              rw [hSd, hd'] at hgb
              simp only at hgb
              have hmem : t2 ∈ readsOf ops' o := by simp [readsOf, guardVar, hg, hS, hSd, hd']
              split at hgb
              · rename_i bb hbb
                simp only [Option.some.injEq] at hgb; subst hgb
                obtain ⟨v, v1, v2⟩ := hreads t2 hmem _ hbb
                cases v2 with
                | pv _ _ hp => cases hp; simp only [Region.wanted, hg, yielded, List.getElem?_toArray, hjj, Option.bind_some, hd', v1]; cases bb <;> cases want <;> rfl
              · rename_i vs hbb
                simp only [Option.some.injEq] at hgb; subst hgb
                obtain ⟨v, v1, v2⟩ := hreads t2 hmem _ hbb
                cases v2 with
                | pv _ _ hp => cases hp; simp only [Region.wanted, hg, yielded, List.getElem?_toArray, hjj, Option.bind_some, hd', v1]; cases want <;> rfl
              · cases hgb
      rcases hor with ⟨hgt, hqs⟩ | ⟨hgf, rfl⟩
      · rw [hwanted true hgt, if_pos rfl]
        refine .inl ?_
        unfold Oper.wp
        have hqr := hqs.go K ρ a w hm.fs (fun x hx av hxv => by
          cases x with
          | tmp t' =>
            obtain ⟨v, v1, v2⟩ := hreads t' (by
              unfold readsOf
              exact List.mem_append_left _ (mem_opTmps (Array.mem_toList_iff.2 hx))) av hxv
            simpa [Act.eval, Array.getD_eq_getD_getElem?, v1] using v2
          | const v =>
            simp only [Env.val] at hxv
            split at hxv
            · rename_i h1; simp only [Option.some.injEq] at hxv; subst hxv; exact .pv _ _ (.base v h1)
            · cases hxv
          | func f =>
            simp only [Env.val, Option.some.injEq] at hxv; subst hxv
            exact .pv _ _ (.fn (.func f) [] [] [] [] rfl rfl (by simp) (by simp))
          | global gg =>
            simp only [Env.val, Option.some.injEq] at hxv; subst hxv
            exact .pv _ _ (.base _ rfl))
        generalize (execOp a.eval o).run P w = res at hqr
        cases res with
        | halt x w' => simp only [QRes] at hqr
        | ok nx w' =>
          cases nx <;> simp only [QRes] at hqr <;> simp only [Oper.upon]
          case value v =>
            obtain ⟨K', hev, hv'⟩ := hqr
            rw [hd]
            exact ih _ _ _ K' ρ hcount (hm.next hB ho' hrj hd ht hun hready' (hm.fs.evo hev) (hev.later hm.fs.lt) hv') (hBI_set j rfl hjs _ _ _ (hkeep v) hev hja)
          case enter f args =>
            obtain ⟨rfl, hc'⟩ := hqr
            refine hc'.mono fun e w'' ⟨v, K', he', hev, hv'⟩ => ?_
            subst he'
            rw [hd]
            exact ih _ _ _ K' ρ hcount (hm.next hB ho' hrj hd ht hun hready' (hm.fs.evo hev) (hev.later hm.fs.lt) hv') (hBI_set j rfl hjs _ _ _ (hkeep v) hev hja)
      · rw [hwanted false hgf, if_neg (by simp)]
        rw [hd]
        exact ih _ _ _ K ρ hcount (hm.next hB ho' hrj hd ht hun hready' hm.fs (Later.refl _ _) undef_rel) (hBI_set j rfl hjs _ _ _ (hkeep undef) (.refl hm.fs.lt) hja)

def noGuardOn (js : Nat) (ops : List Oper) : Bool := ops.all fun o => match o.guard with | some (jj, _) => !Nat.beq jj js | none => true

theorem aw_draw_box {QQ : QC} {id : Nat} (i ja js t' : Nat) {ta tx : Nat} (jx : Nat) {oa os ox : Oper} {ty : TypeId} {z : Value} {za : AV} (htb : TabOK P tb) (hm : P.follows .mixedOrders = true) (hB : drawOk (shadowFrom ja js t' n ops 0) (shadowFrom ja js t' n ops 0) = true)
    (hoa : ops[ja]? = some oa) (hopa : oa.op = .alloc ty) (hda : oa.dst = some ta) (hta : Nat.blt ta n = true) (hga : oa.guard = none)
    (hos : ops[js]? = some os) (hops : os.op = .store ty (.tmp ta) (.tmp tx)) (hds : os.dst = none) (hgs : os.guard = none) (ht' : Nat.blt t' n = true)
    (hne : Nat.beq ja js = false) (hea : hasEdge os ja = true) (hex : hasEdge os jx = true) (hox : (shadowFrom ja js t' n ops 0)[jx]? = some ox) (hdx : ox.dst = some tx)
    (hng : noGuardOn js ops = true) (hz : tb.zero ty = some z) (hza : zeroAV z = some za) (hk : tb.known ty = true) (henv : env.get n = none) (hn : cellOk H za = true) (hi : H.get i = none)
    (h : AD P n g H (shadowFrom ja js t' n ops 0) (fun env' => ∃ v r, env'.get tx = some v ∧ storeA tb H ty za 0 v = some r ∧ QQ .normal ((ta, .box i 0) :: env') ((i, .cell r) :: H)) (shadowFrom ja js t' n ops 0) env) : AW P n g (.region id ops.toArray true) env H QQ := by
  obtain ⟨s⟩ := script_of h
  obtain ⟨v, r, hv, hr, hQ⟩ := s.fin
  have hlen : (shadowFrom ja js t' n ops 0).length = ops.length := shadowFrom_length ..
  refine ⟨fun a w hinv => ?_⟩
  refine wp_region_any hm ?_
  obtain ⟨h1, h2, K, ρ, hf, he⟩ := hinv
  have hev : Evo K K w { w with drawn := w.drawn + 1 } := (Evo.refl hf.lt).drew
  refine wpAny_blk (za := za) (v := v) (r := r) (ja := ja) (js := js) (t' := t') (jx := jx) htb rfl hB s hoa hopa hda (Nat.le_of_ble_eq_true hta) hga hos hops hds hgs (Nat.le_of_ble_eq_true ht') (Nat.ne_of_beq_eq_false hne) hea hex hox hdx ?_ hz hza hk henv hv hr hn ?_ _ _ a _ K ρ ?_ ⟨h1, h2, by simp [hlen], ?_, hf.evo hev, ?_, ?_⟩ ?_
  · intro j o jj want ho hg
    have := List.all_eq_true.1 hng o (List.mem_of_getElem? ho)
    simp only [hg, Bool.not_eq_true'] at this
    exact Nat.ne_of_beq_eq_false this
  · intro a' w' K' ρ' b ru q1 q2 q3 q4 q5 q6 q7
    have hown := q7.own q3 hi q6 rfl
    refine ⟨_, _, ⟨q1, q2, K', fun j => if j = i then .pointer (some ⟨b, 0, none⟩) else ρ' j, hown, ?_⟩, hQ⟩
    have he' := q4.keeps (Later.refl K' w') (fresh_keeps (ρ := ρ') hi (.cell r) (.pointer (some ⟨b, 0, none⟩)))
    intro t av hg
    simp only [Env.get_cons] at hg
    split at hg
    · rename_i e; subst e
      simp only [Option.some.injEq] at hg; subst hg
      exact ⟨_, q5, .box i 0 b (by simp [HEnv.get_cons]) (by simp)⟩
    · exact he' t av hg
  · simp
  · intro i o ho hli
    have hlt := (List.getElem?_eq_some_iff.1 ho).1
    have : i < ops.length := by omega
    simp [Array.getD_eq_getD_getElem?, this] at hli
  · intro i o ri t ho hli
    have hlt := (List.getElem?_eq_some_iff.1 ho).1
    have : i < ops.length := by omega
    simp [Array.getD_eq_getD_getElem?, this] at hli
  · intro t av hav _
    obtain ⟨v, v1, v2⟩ := he t av hav
    exact ⟨v, v1, v2.later (hev.later hf.lt)⟩
  · intro hl
    have hjal : ja < ops.length := (List.getElem?_eq_some_iff.1 hoa).1
    simp [Array.getD_eq_getD_getElem?, hjal] at hl
end
end Go.Cg
