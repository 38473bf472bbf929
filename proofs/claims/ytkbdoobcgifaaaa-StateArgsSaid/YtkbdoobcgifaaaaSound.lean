/- 'opE' tells what the machine does. -/
import Derived.Test.YtkbdoobcgifaaaaOpE
namespace Go.Cg
open Go.RowKit

section
variable {P : Program} {tb : Tab} {g : Base} {K : KK} {w : World} {ρ : Nat → Value} {H : HEnv} {env : Env} {a : Act}

/-- A new block whose cells are committed at once. -/
def withNew (K : KK) (w : World) (n : Nat) : KK := fun b o => K b o ∨ (b = w.heap.size ∧ o < n)

theorem evo_alloc (hl : ∀ b o, K b o → b < w.heap.size) (arr : Array Value) (t : TypeId) (n : Nat) : Evo K (withNew K w n) w (w.alloc (.cells arr t)) :=
  ⟨(Below.refl _ _).alloc (Nat.le_refl _) _, fun b o h => .inl h, fun b o h => h.imp id (fun ⟨h1, _⟩ => by omega), fun b o h => by
    simp only [World.size_alloc]
    rcases h with h | ⟨h, _⟩
    · have := hl b o h; omega
    · omega⟩

theorem rows_alloc (arr : Array Value) (t : TypeId) (n : Nat) (hn : arr.size ≤ n) (ho : ∀ v ∈ arr.toList, v.oneCell' = true) : Rows (withNew K w n) (w.alloc (.cells arr t)) w.heap.size 0 arr.toList := by
  intro k v hv
  have hk : k < arr.size := by
    rcases Nat.lt_or_ge k arr.size with h' | h'
    · exact h'
    · rw [List.getElem?_eq_none (by simpa using h')] at hv; cases hv
  refine ⟨.inr ⟨rfl, by omega⟩, ?_, ho v (List.mem_of_getElem? hv)⟩
  rw [World.cell?_alloc_new]
  simpa using hv

theorem run_loadVar_rows (htb : TabOK P tb) {t b o : Nat} {vs : List Value} (hr : ∀ k v, vs[k]? = some v → w.cell? ⟨b, o + k, none⟩ = some v) {cs : List PV} (hp : PRels K w cs vs) (ho : ∀ v ∈ vs, v.oneCell' = true) {off : Nat} {p : PV} (h : partE tb t cs off = some p) :
    ∃ v, (loadVar t ⟨b, o + off, none⟩).run P w = .ok v w ∧ PRel K w p v := by
  have hk : tb.k t ≠ .oth := by intro e; simp [partE, e] at h
  have h1 := run_isAgg htb hk w
  have h2 := run_sizeOf htb hk w
  obtain ⟨v, hv, hpv⟩ := run_part htb hp ho h w
  refine ⟨v, ?_, hpv⟩
  simp only [part, loadVar, Sem.run_bind, h1, h2, Result.andThen_ok] at hv ⊢
  cases ha : (tb.k t).isAgg
  · simp only [ha, Bool.false_eq_true, if_false, run_load] at hv ⊢
    cases hx : vs[off]? with
    | none => simp [hx] at hv
    | some u =>
      simp [hx] at hv
      rw [hr off u hx, hv]
  · simp only [ha, if_true] at hv ⊢
    have hle : off + tb.size t ≤ vs.length := by
      rw [hp.1]
      unfold partE at h
      by_cases hc : off + tb.size t ≤ cs.length
      · exact hc
      · cases hkk : tb.k t <;> simp only [hkk] at h ha <;> first | (simp [TK.isAgg] at ha; done) | (simp [hc] at h)
    have e2 : ∀ (α : Type) (f : Nat → Sem α), (sizeOf t >>= f).run P w = (f (tb.size t)).run P w := fun α f => by simp [h2]
    have hl := run_loadCells_list (P := P) w ⟨b, o + off, none⟩ ((vs.drop off).take (tb.size t)) (fun j u hu => by
      rw [List.getElem?_take] at hu
      split at hu
      · rw [List.getElem?_drop] at hu
        rw [Addr.add_lit, Nat.add_assoc]
        exact hr _ u hu
      · cases hu)
    have hlen : ((vs.drop off).take (tb.size t)).length = tb.size t := by simp; omega
    rw [hlen] at hl
    rw [e2] at hv ⊢
    simp only [Sem.run_bind, Result.andThen_ok, hl, Sem.run_pure] at hv ⊢
    rw [← hv]
    simp [List.extract_toArray, List.extract_eq_take_drop]

theorem run_loadVar_ptr (htb : TabOK P tb) {t : Nat} {p q : PV} {off : Nat} {v : Value} (hp : PRel K w (.ptr p off) v) (h : ptrPart tb t p off = some q) :
    ∃ u, (Instr.loadAt t v).run P w = .ok u w ∧ PRel K w q u := by
  cases hp with
  | ptr _ _ b o vs hl hr hc =>
    simp only [Instr.loadAt, Instr.sureAddr, Sem.run_bind, Sem.run_pure, Result.andThen_ok]
    have hone : ∀ v ∈ vs, v.oneCell' = true := fun v hv => by obtain ⟨k, hk⟩ := List.getElem?_of_mem hv; exact (hr k v hk).2.2
    unfold ptrPart at h
    split at h
    · rename_i hw
      simp only [Option.some.injEq] at h; subst h
      unfold wholeP at hw
      split at hw
      · rename_i cs
        simp only [Bool.and_eq_true, beq_iff_eq] at hw
        obtain ⟨⟨h1, h2⟩, h3⟩ := hw
        subst h2
        have hk : tb.k t ≠ .oth := by intro e; simp [e, TK.isAgg] at h1
        have e1 := run_isAgg htb hk w
        have e2 := run_sizeOf htb hk w
        have hll := run_loadCells_list (P := P) w ⟨b, o, none⟩ vs (fun j u hu => by rw [Addr.add_lit]; exact (hr j u hu).2.1)
        simp only [PV.cells] at hl hc
        rw [hl, h3] at hll
        refine ⟨.agg vs.toArray, by simp [loadVar, e1, e2, h1, hll], .agg cs vs hl hone hc⟩
      · cases hw
    · exact run_loadVar_rows htb (fun k v hv => (hr k v hv).2.1) ⟨hl, hc⟩ hone h

theorem opE_pv (hfs : FS g K ρ H w) {x : Operand} (hv : ∀ av, env.val x = some av → ARel K w ρ H av (a.eval x)) {p : PV} (h : env.pv H x = some p) : PRel K w p (a.eval x) := by
  unfold Env.pv at h
  split at h
  · rename_i av hav; exact toPV_rel hfs (hv av hav) h
  · cases h

/-- The cells of a box of the call's own. -/
theorem run_loadVar_box (htb : TabOK P tb) (hfs : FS g K ρ H w) {t i off : Nat} {v : Value} {c r : AV} (hb : ARel K w ρ H (.box i off) v) (hi : H.get i = some (.cell c)) (h : boxPart tb H t c off = some r) :
    ∃ u, (Instr.loadAt t v).run P w = .ok u w ∧ ARel K w ρ H r u := by
  cases hb with
  | box _ _ b hs hρ =>
    obtain ⟨b', t', arr, u, hbb, hB, hheap, hu, harr, hn⟩ := hfs.heap.ok i _ hi
    rw [hρ] at hbb
    simp only [Value.pointer.injEq, Option.some.injEq, Addr.mk.injEq] at hbb
    obtain ⟨rfl, _⟩ := hbb
    simp only [Instr.loadAt, Instr.sureAddr, Sem.run_bind, Sem.run_pure, Result.andThen_ok]
    have hcell : ∀ k x, arr.toList[k]? = some x → w.cell? ⟨b, 0 + k, none⟩ = some x := by
      intro k x hx
      simp only [World.cell?, hheap, Nat.zero_add]
      simpa using hx
    have scalar : ∀ (x : Value), arr = #[x] → scalarK (tb.k t) = true → (loadVar t ⟨b, 0, none⟩).run P w = .ok x w := by
      intro x hx hs
      have hk : tb.k t ≠ .oth := by intro e; simp [e, scalarK] at hs
      have e1 := run_isAgg htb hk w
      have : (tb.k t).isAgg = false := by cases hkk : tb.k t <;> simp_all [scalarK, TK.isAgg]
      have hc := hcell 0 x (by simp [hx])
      simp [loadVar, e1, this, hc]
    cases c with
    | pv p =>
      simp only [boxPart] at h
      split at h
      · rename_i q hnt hq
        simp only [Option.some.injEq] at h; subst h
        cases hu with
        | pv _ _ hp =>
          have hcr := cells_rel hp
          rw [harr] at hcr
          unfold ptrPart at hq
          split at hq
          · rename_i hw
            simp only [Option.some.injEq] at hq; subst hq
            unfold wholeP at hw
            split at hw
            · rename_i cs
              simp only [Bool.and_eq_true, beq_iff_eq] at hw
              obtain ⟨⟨h1, h2⟩, h3⟩ := hw
              subst h2
              have hk : tb.k t ≠ .oth := by intro e; simp [e, TK.isAgg] at h1
              have e1 := run_isAgg htb hk w
              have e2 := run_sizeOf htb hk w
              have hll := run_loadCells_list (P := P) w ⟨b, 0, none⟩ arr.toList (fun j u hu => by rw [Addr.add_lit]; exact hcell j u hu)
              rw [hcr.1] at hll
              simp only [PV.cells] at hll
              rw [h3] at hll
              refine ⟨.agg arr.toList.toArray, by simp [loadVar, e1, e2, h1, hll], .pv _ _ (.agg cs arr.toList (by simpa only [PV.cells] using hcr.1) (by rw [← harr]; exact cells_one hp rfl) (fun k c v hc hv => hcr.2 k c v (by simpa [PV.cells] using hc) hv))⟩
            · cases hw
          · obtain ⟨u', h1, h2⟩ := run_loadVar_rows htb hcell hcr (by rw [← harr]; exact cells_one hp hnt) hq
            rw [Nat.zero_add] at h1
            exact ⟨u', h1, .pv _ _ h2⟩
      · cases h
    | agg cs =>
      simp only [boxPart] at h
      cases hu with
      | agg _ vs hl ho hr =>
        simp only [Value.cells] at harr
        subst harr
        split at h
        · rename_i hw
          simp only [Bool.and_eq_true, beq_iff_eq] at hw
          obtain ⟨⟨h1, h2⟩, h3⟩ := hw
          simp only [Option.some.injEq] at h; subst h h2
          have hk : tb.k t ≠ .oth := by intro e; simp [e, TK.isAgg] at h1
          have e1 := run_isAgg htb hk w
          have e2 := run_sizeOf htb hk w
          have hll := run_loadCells_list (P := P) w ⟨b, 0, none⟩ vs (fun j u hu => by rw [Addr.add_lit]; exact hcell j u hu)
          rw [hl, h3] at hll
          exact ⟨.agg vs.toArray, by simp [loadVar, e1, e2, h1, hll], .agg cs vs hl ho hr⟩
        · split at h
          · rename_i hs
            have hk : tb.k t ≠ .oth := by intro e; simp [e, scalarK] at hs
            have e1 := run_isAgg htb hk w
            have : (tb.k t).isAgg = false := by cases hkk : tb.k t <;> simp_all [scalarK, TK.isAgg]
            have hlt : off < vs.length := by
              rw [hl]
              rcases Nat.lt_or_ge off cs.length with h' | h'
              · exact h'
              · rw [List.getElem?_eq_none h'] at h; cases h
            have hx := List.getElem?_eq_getElem hlt
            have hc := hcell off vs[off] (by simp)
            rw [Nat.zero_add] at hc
            exact ⟨vs[off], by simp [loadVar, e1, this, hc], hr off r _ h hx⟩
          · cases h
    | own j =>
      simp only [boxPart] at h
      split at h
      · rename_i t' sz es hj
        split at h
        · rename_i hw
          simp only [Bool.and_eq_true, beq_iff_eq] at hw
          obtain ⟨h2, h1⟩ := hw
          simp only [Option.some.injEq] at h; subst h h2
          refine ⟨u, scalar u ?_ h1, hu⟩
          rw [← harr]
          cases hu with
          | own _ hv =>
            obtain ⟨xs, hown, _⟩ := hfs.heap.ok j _ hj
            generalize ρ j = u at hown
            rcases hown.2 with ⟨rfl, _⟩ | ⟨_, _, _, rfl, _⟩ <;> rfl
        · cases h
      · rename_i X hj
        split at h
        · rename_i hw
          simp only [Bool.and_eq_true, beq_iff_eq] at hw
          obtain ⟨h2, h1⟩ := hw
          simp only [Option.some.injEq] at h; subst h h2
          refine ⟨u, scalar u ?_ h1, hu⟩
          rw [← harr]
          cases hu with
          | own _ hv =>
            obtain ⟨b, ob, hr, _⟩ := hfs.heap.ok j _ hj
            rw [hr]; rfl
        · cases h
      · cases h
    | box j o' =>
      simp only [boxPart] at h
      split at h
      · rename_i hw
        simp only [Bool.and_eq_true, beq_iff_eq] at hw
        obtain ⟨h2, h1⟩ := hw
        simp only [Option.some.injEq] at h; subst h h2
        refine ⟨u, scalar u ?_ h1, hu⟩
        rw [← harr]; cases hu; rfl
      · cases h
    | fn f x y =>
      simp only [boxPart] at h
      split at h
      · rename_i hw
        simp only [Bool.and_eq_true, beq_iff_eq] at hw
        obtain ⟨h2, h1⟩ := hw
        simp only [Option.some.injEq] at h; subst h h2
        refine ⟨u, scalar u ?_ h1, hu⟩
        rw [← harr]; cases hu; rfl
      · cases h
    | any => simp [boxPart] at h
    | any1 => simp [boxPart] at h
end
end Go.Cg
