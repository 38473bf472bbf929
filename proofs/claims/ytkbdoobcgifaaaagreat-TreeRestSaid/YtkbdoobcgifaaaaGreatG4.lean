/- A part of the walks by abstract values: no statement of its own. -/
import Derived.Test.YtkbdoobcgifaaaaGreatG3
import Derived.WalkSpells
/- Texts and slices: an element, a part; append where there is no room; is it nil? -/
namespace Go.Cg
open Go.RowKit

section
variable {P : Program} {tb : Tab} {n : Nat} {g : Base} {K K' : KK} {w w' : World} {ρ ρ' : Nat → Value} {H H' : HEnv} {env : Env} {a : Act} {ops : List Oper} {o : Oper} {rest : List Oper} {Q : Env → HEnv → Prop} {QQ : QC} {c : Code}

/-- A byte of a text. -/
theorem q_strix {t : TypeId} {x i : Operand} {s : ByteArray} {k : IntKind} {m : Int} {b : UInt8} (htb : TabOK P tb) (hop : o.op = .index t x i) (hk : tb.k t = .str) (hx : env.pv H x = some (.base (.string s))) (hi : env.pv H i = some (.base (.int k m))) (h0 : 0 ≤ m) (hb : s[m.toNat]? = some b) :
    QStep P g H o env (.pv (.base (.int .u8 b.toNat))) := by
  refine ⟨fun K ρ a w hf hv => ?_⟩
  have hxr := opE_pv hf (hv x (by rw [hop]; simp [Op.operands])) hx
  have hir := opE_pv hf (hv i (by rw [hop]; simp [Op.operands])) hi
  generalize hxv : a.eval x = xv at hxr
  generalize hiv : a.eval i = iv at hir
  cases hir; cases hxr
  have : (execOp a.eval o).run P w = .ok (.value (.int .u8 b.toNat)) w := by
    simp [execOp, hop, hxv, hiv, Instr.index, asIntOf, run_underlying (tab_str htb hk), h0, hb]
  rw [this]
  exact qval hf (.pv _ _ (.base _ rfl))

/-- A bound of a slice expression: there, or not. -/
def boundE (env : Env) (H : HEnv) (d : Int) : Option Operand → Option Int
  | none => some d
  | some x => match env.pv H x with | some (.base (.int _ m)) => some m | _ => none

theorem bound_run (hf : FS g K ρ H w) {x : Option Operand} {d m : Int} (hv : ∀ y ∈ x.toArray, ∀ av, env.val y = some av → ARel K w ρ H av (a.eval y)) (h : boundE env H d x = some m) :
    (x = none ∧ m = d) ∨ ∃ y k, x = some y ∧ a.eval y = .int k m := by
  cases x with
  | none => simp [boundE] at h; exact .inl ⟨rfl, h.symm⟩
  | some y =>
    simp only [boundE] at h
    split at h
    · rename_i k m' hm
      simp only [Option.some.injEq] at h; subst h
      have := opE_pv hf (hv y (by simp)) hm
      generalize hyv : a.eval y = yv at this
      cases this
      exact .inr ⟨y, k, rfl, hyv⟩
    · cases h

/-- A part of a text. -/
theorem q_slice_str {t : TypeId} {x : Operand} {lo hi : Option Operand} {s : ByteArray} {l h : Int} (htb : TabOK P tb) (hop : o.op = .slice t x lo hi none) (hk : tb.k t = .str) (hx : env.pv H x = some (.base (.string s))) (hlo : boundE env H 0 lo = some l) (hhi : boundE env H s.size hi = some h)
    (h0 : 0 ≤ l) (h1 : l ≤ h) (h2 : h ≤ s.size) : QStep P g H o env (.pv (.base (.string (s.extract l.toNat h.toNat)))) := by
  refine ⟨fun K ρ a w hf hv => ?_⟩
  have hxr := opE_pv hf (hv x (by rw [hop]; simp [Op.operands])) hx
  generalize hxv : a.eval x = xv at hxr
  cases hxr with
  | base _ hok =>
  have el := bound_run (a := a) hf (x := lo) (fun y hy => hv y (by rw [hop]; simp [Op.operands] at hy ⊢; exact .inr (.inl hy))) hlo
  have eh := bound_run (a := a) hf (x := hi) (fun y hy => hv y (by rw [hop]; simp [Op.operands] at hy ⊢; exact .inr (.inr hy))) hhi
  have hh : h ≤ ((s.size : Nat) : Int) := h2
  have hh0 : 0 ≤ h := by omega
  have hlh : l ≤ ((h.toNat : Nat) : Int) := by omega
  have hrun : (execOp a.eval o).run P w = .ok (.value (.string (s.extract l.toNat h.toNat))) w := by
    rcases el with ⟨rfl, rfl⟩ | ⟨y, k, rfl, hy⟩ <;> rcases eh with ⟨rfl, rfl⟩ | ⟨z, k', rfl, hz⟩
    · simp [execOp, hop, hxv, Instr.sliceAt, Instr.slice, Instr.sliceBounds, run_underlying (tab_str htb hk)]
    · simp [execOp, hop, hxv, hz, Instr.sliceAt, Instr.slice, Instr.sliceBounds, Instr.sliceBound, asIntOf, run_underlying (tab_str htb hk), hh, hh0]
    · simp [execOp, hop, hxv, hy, Instr.sliceAt, Instr.slice, Instr.sliceBounds, Instr.sliceBound, asIntOf, run_underlying (tab_str htb hk), h0, h1]
    · simp [execOp, hop, hxv, hy, hz, Instr.sliceAt, Instr.slice, Instr.sliceBounds, Instr.sliceBound, asIntOf, run_underlying (tab_str htb hk), h0, hlh, hh, hh0]
      intro hc; omega
  rw [hrun]
  refine qval hf (.pv _ _ (.base _ ?_))
  simp only [baseOk, decide_eq_true_eq] at hok ⊢
  simp only [ByteArray.size_extract]
  omega

theorem q_slice0 {t e : TypeId} {parts : Array (Nat × Operand)} (htb : TabOK P tb) (hop : o.op = .buildSlice t 0 parts) (hp : parts = #[]) (hk : tb.k t = .sl e) (hke : tb.known e = true) (hsz : Nat.blt 0 (tb.size e) = true) : QStep P g H o env (.pv (.slc (tb.size e) [] true)) := by
  refine ⟨fun K ρ a w hf hv => ?_⟩
  subst hp
  have hko : tb.k e ≠ .oth := by intro h; simp [Tab.known, h] at hke
  have hs := run_sizeOf htb hko w
  have hrun : (execOp a.eval o).run P w = .ok (.value (.slice (some ⟨w.heap.size, 0, none⟩) 0 0)) (w.alloc (.cells #[] e)) := by
    have e0 : Array.range 0 = #[] := Array.eq_empty_of_size_eq_zero (by simp)
    simp [execOp, hop, Instr.buildSlice, run_underlying (tab_sl htb hk), hs, Instr.fill, newRow, e0]
  rw [hrun]
  refine ⟨_, evo_alloc hf.lt #[] e 0, .pv _ _ ?_⟩
  have := PRel.slc (K := withNew K w 0) (w := w.alloc (.cells #[] e)) (tb.size e) [] true w.heap.size 0 0 (fun _ => []) (Nat.le_of_ble_eq_true hsz) (Nat.le_refl _) (fun _ => rfl) (by simp [maxLen]) (by simp [maxLen]) (fun i e h => by simp at h) (fun i e k c v h => by simp at h)
  exact this

/-- A part of a slice. -/
theorem q_slice {t e : TypeId} {x : Operand} {lo hi : Option Operand} {sz : Nat} {es : List PV} {full : Bool} {l h : Int} (htb : TabOK P tb) (hop : o.op = .slice t x lo hi none) (hk : tb.k t = .sl e) (hke : tb.known e = true) (hsz : tb.size e = sz) (hx : env.pv H x = some (.slc sz es full))
    (hlo : boundE env H 0 lo = some l) (hhi : boundE env H es.length hi = some h) (h0 : 0 ≤ l) (h1 : l ≤ h) (h2 : h ≤ es.length) : QStep P g H o env (.pv (.slc sz ((es.take h.toNat).drop l.toNat) false)) := by
  refine ⟨fun K ρ a w hf hv => ?_⟩
  have hxr := opE_pv hf (hv x (by rw [hop]; simp [Op.operands])) hx
  generalize hxv : a.eval x = xv at hxr
  have el := bound_run (a := a) hf (x := lo) (fun y hy => hv y (by rw [hop]; simp [Op.operands] at hy ⊢; exact .inr (.inl hy))) hlo
  have eh := bound_run (a := a) hf (x := hi) (fun y hy => hv y (by rw [hop]; simp [Op.operands] at hy ⊢; exact .inr (.inr hy))) hhi
  have hko : tb.k e ≠ .oth := by intro h; simp [Tab.known, h] at hke
  have hs := run_sizeOf htb hko w
  have hh0 : 0 ≤ h := by omega
  have hlh : l ≤ ((h.toNat : Nat) : Int) := by omega
  have bounds : ∀ cap : Nat, es.length ≤ cap → (Instr.sliceBounds true es.length cap (lo.map a.eval) (hi.map a.eval) none).run P w = .ok (l.toNat, h.toNat, cap) w := by
    intro cap hcap
    have hhc : h ≤ (cap : Int) := by omega
    rcases el with ⟨rfl, rfl⟩ | ⟨y, k, rfl, hy⟩ <;> rcases eh with ⟨rfl, rfl⟩ | ⟨z, k', rfl, hz⟩
    · simp [Instr.sliceBounds]
    · simp [hz, Instr.sliceBounds, Instr.sliceBound, asIntOf, hhc, hh0]
    · simp [hy, Instr.sliceBounds, Instr.sliceBound, asIntOf, h0, h1]
    · simp [hy, hz, Instr.sliceBounds, Instr.sliceBound, asIntOf, h0, hlh, hhc, hh0]
      intro hc; omega
  cases hxr with
  | nil =>
    simp only [List.length_nil, Int.natCast_zero] at h2 bounds
    have e1 : l = 0 := by omega
    have e2 : h = 0 := by omega
    subst e1 e2
    have hrun : (execOp a.eval o).run P w = .ok (.value (.slice none 0 0)) w := by
      have := bounds 0 (Nat.le_refl _)
      simp [execOp, hop, hxv, Instr.sliceAt, Instr.slice, run_underlying (tab_sl htb hk), this, hs]
    rw [hrun]
    exact qval hf (.pv _ _ (by simpa using PRel.nil (K := K) (w := w) sz false))
  | emp _ _ ad =>
    simp only [List.length_nil, Int.natCast_zero] at h2 bounds
    have e1 : l = 0 := by omega
    have e2 : h = 0 := by omega
    subst e1 e2
    have hrun : (execOp a.eval o).run P w = .ok (.value (.slice (some ad) 0 0)) w := by
      have := bounds 0 (Nat.le_refl _)
      simp [execOp, hop, hxv, Instr.sliceAt, Instr.slice, run_underlying (tab_sl htb hk), this, hs]
    rw [hrun]
    exact qval hf (.pv _ _ (by simpa using PRel.emp (K := K) (w := w) sz false ad))
  | slc _ _ _ b off cap vss q0 q1 q2 q3 q4 q5 q6 =>
    have hb := bounds cap q1
    have hlen : ((es.take h.toNat).drop l.toNat).length = h.toNat - l.toNat := by simp; omega
    have hget : ∀ i e, ((es.take h.toNat).drop l.toNat)[i]? = some e → es[l.toNat + i]? = some e := by
      intro i e he
      rw [List.getElem?_drop, List.getElem?_take] at he
      split at he
      · exact he
      · cases he
    have hrun : (execOp a.eval o).run P w = .ok (.value (.slice (if cap = l.toNat then some ⟨b, off, none⟩ else some ⟨b, off + l.toNat * sz, none⟩) (h.toNat - l.toNat) (cap - l.toNat))) w := by
      simp [execOp, hop, hxv, Instr.sliceAt, Instr.slice, run_underlying (tab_sl htb hk), hb, hs, hsz, Addr.add_lit]
    rw [hrun]
    refine qval hf (.pv _ _ ?_)
    have key : ∀ off', (off' = off + l.toNat * sz ∨ h.toNat - l.toNat = 0) → PRel K w (.slc sz ((es.take h.toNat).drop l.toNat) false) (.slice (some ⟨b, off', none⟩) (h.toNat - l.toNat) (cap - l.toNat)) := by
      intro off' hoff
      have := PRel.slc (K := K) (w := w) sz ((es.take h.toNat).drop l.toNat) false b off' (cap - l.toNat) (fun i => vss (l.toNat + i)) q0 (by rw [hlen]; omega) (by simp) (by rw [hlen]; omega) (by omega)
        (fun i e he => by
          have he' := hget i e he
          obtain ⟨r1, r2, r3⟩ := q5 _ e he'
          refine ⟨r1, r2, ?_⟩
          rcases hoff with rfl | hz
          · rw [Nat.add_assoc, ← Nat.add_mul]; exact r3
          · have := (List.getElem?_eq_some_iff.1 he).1; rw [hlen] at this; omega)
        (fun i e k c v he => q6 _ e k c v (hget i e he))
      rw [hlen] at this
      exact this
    split
    · rename_i hcl
      exact key off (.inr (by omega))
    · exact key _ (.inl rfl)

/-- append onto a slice that has no room, or onto none: a new one. -/
theorem q_append {ty e : TypeId} {x y : Operand} {sz : Nat} {es xs : List PV} {full : Bool} (htb : TabOK P tb) (hop : o.op = .call { callee := .builtin .append, args := #[x, y], argTypes := #[ty, ty] }) (hk : tb.k ty = .sl e)
    (hx : env.pv H x = some (.slc sz es true) ∨ (es = [] ∧ env.pv H x = some (.base (.slice none 0 0)))) (hy : env.pv H y = some (.slc sz xs full))
    (hzz : (match tb.get e with | some ti => (match ti.zero with | some z => ti.size == sz && z.cells.size == sz && Nat.blt 0 sz | none => false) | none => false) = true)
    (hbound : (es.length + xs.length) * (match tb.get e with | some ti => ti.bytes | none => 0) ≤ 140737488355328) (hb2 : es.length + xs.length ≤ 140737488355328) : QStep P g H o env (.pv (.slc sz (es ++ xs) false)) := by
  refine ⟨fun K ρ a w hf hv => ?_⟩
  cases hti : tb.get e with
  | none => simp [hti] at hzz
  | some ti =>
    cases hz : ti.zero with
    | none => simp [hti, hz] at hzz
    | some z =>
      simp only [hti, hz, Bool.and_eq_true, beq_iff_eq] at hzz hbound
      obtain ⟨⟨z1, z2⟩, z3⟩ := hzz
      have hsz : 0 < sz := Nat.le_of_ble_eq_true z3
      obtain ⟨tin, q1, q2, q3, q4, _⟩ := tab_info htb hti
      have hyr := opE_pv hf (hv y (by rw [hop]; simp [Op.operands, Call.operands])) hy
      obtain ⟨news, n1, n2, n3, n4, n5⟩ := slc_flat hyr
      -- the slice, as a list of its cells
      have hxr : PRel K w (.slc sz es true) (a.eval x) := by
        rcases hx with hx | ⟨rfl, hx⟩
        · exact opE_pv hf (hv x (by rw [hop]; simp [Op.operands, Call.operands])) hx
        · have := opE_pv hf (hv x (by rw [hop]; simp [Op.operands, Call.operands])) hx
          generalize a.eval x = xv at this ⊢
          cases this
          exact .nil sz true
      obtain ⟨us, m1, m2, m3, m4, m5⟩ := slc_flat hxr
      have hall : (us ++ news).length = (es.length + xs.length) * sz := by rw [List.length_append, m1, n1, Nat.add_mul]
      have hone : ∀ v ∈ us ++ news, v.oneCell' = true := fun v hv' => (List.mem_append.1 hv').elim (m3 v) (n3 v)
      have hcr := m4.append m1 n4
      -- what a new block with all cells gives
      have fin : ∀ (w2 : World) (cap : Nat) (junk : List Value), Evo K K w w2 → es.length + xs.length ≤ cap → cap ≤ maxLen → ∀ (w3 : World) (arr : Array Value), arr = (us ++ news ++ junk).toArray → w3 = w2.alloc (.cells arr e) →
          ∃ K', Evo K K' w w3 ∧ PRel K' w3 (.slc sz (es ++ xs) false) (.slice (some ⟨w2.heap.size, 0, none⟩) (es.length + xs.length) cap) := by
        rintro w2 cap junk hev hc1 hc2 w3 arr rfl rfl
        have hlt2 : ∀ b o, K b o → b < w2.heap.size := hev.lt
        have h3 := evo_alloc hlt2 (us ++ news ++ junk).toArray e ((us ++ news).length)
        refine ⟨_, hev.trans h3, ?_⟩
        have hlat := (hev.trans h3).later hf.lt
        have hcell : ∀ j v, (us ++ news)[j]? = some v → withNew K w2 (us ++ news).length w2.heap.size j ∧ (w2.alloc (.cells (us ++ news ++ junk).toArray e)).cell? ⟨w2.heap.size, j, none⟩ = some v := by
          intro j v hj
          have hjl := (List.getElem?_eq_some_iff.1 hj).1
          refine ⟨.inr ⟨rfl, hjl⟩, ?_⟩
          rw [World.cell?_alloc_new]
          simp only [List.getElem?_toArray]
          rw [List.getElem?_append_left hjl]; exact hj
        have := PRel.slc (K := withNew K w2 (us ++ news).length) (w := w2.alloc (.cells (us ++ news ++ junk).toArray e)) sz (es ++ xs) false w2.heap.size 0 cap (fun i => ((us ++ news).drop (i * sz)).take sz) hsz (by rw [List.length_append]; exact hc1) (by simp) (by rw [List.length_append]; unfold maxLen; omega) hc2
          (fun i e' he => by
            obtain ⟨r1, r2⟩ := hcr i e' he
            have hi := (List.getElem?_eq_some_iff.1 he).1
            rw [List.length_append] at hi
            have hil := Nat.mul_le_mul_right sz (show i + 1 ≤ es.length + xs.length by omega)
            rw [Nat.add_mul] at hil
            refine ⟨r1, by simp only [List.length_take, List.length_drop]; omega, ?_⟩
            intro k v hv'
            rw [List.getElem?_take] at hv'
            split at hv'
            · rw [List.getElem?_drop] at hv'
              obtain ⟨c1, c2⟩ := hcell _ v hv'
              rw [Nat.zero_add]
              exact ⟨c1, c2, hone v (List.mem_of_getElem? hv')⟩
            · cases hv')
          (fun i e' k c v he hc hv' => by
            obtain ⟨r1, r2⟩ := hcr i e' he
            obtain ⟨v', e1, _, e3⟩ := r2 k c hc
            rw [List.getElem?_take] at hv'
            split at hv'
            · rw [List.getElem?_drop, e1] at hv'
              cases hv'
              exact e3.later hlat
            · cases hv')
        rw [show (es ++ xs).length = es.length + xs.length from List.length_append] at this
        exact this
      have hsmall : es.length + xs.length ≤ 9223372036854775807 := by omega
      have hrun0 : ∀ {v' : Value} {w' : World}, (Builtin.append_ #[ty, ty] o.type #[a.eval x, a.eval y]).run P w = .ok v' w' → (execOp a.eval o).run P w = .ok (.value v') w' := by
        intro v' w' h
        simp [execOp, hop, resolve, invoke, builtin, h]
      have hcapmax : ∀ need old, need ≤ 9223372036854775807 → grownCap w need old e ≤ maxLen := fun need old h => grownCap_le_maxLen w need old e (by unfold maxLen; omega)
      have hevd : Evo K K w w.drew := (Evo.refl hf.lt).drew
      rcases n2 with ⟨hy0, hxl⟩ | ⟨ad', c', hy1, hy2, _, hxc⟩
      · -- nothing is appended
        have hxs : xs = [] := List.eq_nil_of_length_eq_zero hxl
        subst hxs
        have hrun : (Builtin.append_ #[ty, ty] o.type #[a.eval x, a.eval y]).run P w = .ok (a.eval x) w := by
          rcases m2 with ⟨e1, _⟩ | ⟨ad1, c1, e1, _, _, hle⟩
          · rw [e1, hy0]; simp [Builtin.append_, run_underlying (tab_sl htb hk), sizeOf, typeInfo, q1, Builtin.lenOf, Builtin.firstCells]
          · rw [e1, hy0]; simp [Builtin.append_, run_underlying (tab_sl htb hk), sizeOf, typeInfo, q1, Builtin.lenOf, Builtin.firstCells, hle, storeCells]
        rw [hrun0 hrun]
        refine qval hf ?_
        rw [List.append_nil]
        exact tells_full sz es true _ _ ρ H _ (.pv _ _ hxr)
      · by_cases hx0 : xs.length = 0
        · have hxs : xs = [] := List.eq_nil_of_length_eq_zero hx0
          subst hxs
          have hnews : news = [] := List.eq_nil_of_length_eq_zero (by simpa using n1)
          have hrun : (Builtin.append_ #[ty, ty] o.type #[a.eval x, a.eval y]).run P w = .ok (a.eval x) w := by
            rcases m2 with ⟨e1, _⟩ | ⟨ad1, c1, e1, _, _, hle⟩
            · rw [e1, hy1]; simp [Builtin.append_, run_underlying (tab_sl htb hk), sizeOf, typeInfo, q1, Builtin.lenOf, Builtin.firstCells, loadCells, loadCellsFrom]
            · rw [e1, hy1]; simp [Builtin.append_, run_underlying (tab_sl htb hk), sizeOf, typeInfo, q1, Builtin.lenOf, Builtin.firstCells, hle, storeCells, loadCells, loadCellsFrom]
          rw [hrun0 hrun]
          refine qval hf ?_
          rw [List.append_nil]
          exact tells_full sz es true _ _ ρ H _ (.pv _ _ hxr)
        · have hns : tin.size = sz := by omega
          rcases m2 with ⟨e1, hel⟩ | ⟨ad1, c1, e1, e2, hfull, hle⟩
          · have hes : es = [] := List.eq_nil_of_length_eq_zero hel
            subst hes
            have hus : us = [] := List.eq_nil_of_length_eq_zero (by simpa using m1)
            subst hus
            have hr := run_append_nil (P := P) w ty o.type e tin z (tab_sl htb hk) q1 (by rw [q4]; exact hz) ad' xs.length c' news (by rw [hns]; exact n1) hy2 (by omega) (by simp at hsmall; omega) (by rw [q3]; simp at hbound; omega)
            rw [hrun0 (by rw [e1, hy1]; exact hr)]
            obtain ⟨K', f1, f2⟩ := fin w.drew (grownCap w xs.length 0 e) (Builtin.zeroCells z.cells (grownCap w xs.length 0 e - xs.length)).toList hevd (by simpa using grownCap_ge w xs.length 0 e) (hcapmax _ _ (by simp at hsmall; omega)) _ (news.toArray ++ Builtin.zeroCells z.cells (grownCap w xs.length 0 e - xs.length)) (by apply Array.ext'; simp) rfl
            refine ⟨K', ?_, .pv _ _ ?_⟩
            · simpa using f1
            · simpa using f2
          · have hc1 : c1 = es.length := hfull rfl
            subst hc1
            have hr := run_append_grow (P := P) w ty o.type e tin z (tab_sl htb hk) q1 (by rw [q4]; exact hz) ad1 es.length es.length us (by rw [hns]; exact m1) e2 ad' xs.length c' news (by rw [hns]; exact n1) hy2 (by omega) (by omega) (growslice_fits (by omega) (by rw [q3]; exact hbound))
            rw [hrun0 (by rw [e1, hy1]; exact hr)]
            obtain ⟨K', f1, f2⟩ := fin w.drew (grownCap w (es.length + xs.length) es.length e) (Builtin.zeroCells z.cells (grownCap w (es.length + xs.length) es.length e - (es.length + xs.length))).toList hevd (grownCap_ge w _ _ e) (hcapmax _ _ hsmall) _ (us.toArray ++ news.toArray ++ Builtin.zeroCells z.cells (grownCap w (es.length + xs.length) es.length e - (es.length + xs.length))) (by apply Array.ext'; simp) rfl
            refine ⟨K', ?_, .pv _ _ ?_⟩
            · simpa using f1
            · simpa using f2

/-- 's == nil': of an empty slice it isn't known. -/
theorem ao_isnil {t : TypeId} {x y : Operand} {sz : Nat} {es : List PV} {full : Bool} {e d : Nat} {t' : TypeId} (htb : TabOK P tb) (hg : guardE ops env o = some true) (hop : o.op = .binOp .eql t x y t') (hk : tb.k t = .sl e) (hx : env.pv H x = some (.slc sz es full)) (hy : env.pv H y = some (.base (.slice none 0 0))) (hd : o.dst = some d) (ht : Nat.blt d n = true)
    (h : ∀ b : Bool, (b = true → es = []) → AO P n g ops.toArray rest ((d, .pv (.base (.bool b))) :: env) H Q) : AO P n g ops.toArray (o :: rest) env H Q := by
  refine ⟨fun a w hinv => ?_⟩
  have hw := wanted_of hinv hg
  obtain ⟨h1, h2, K, ρ, hf, he⟩ := hinv
  refine wpList_step fun Kc hKc => ?_
  rw [if_pos hw]
  have hxr := opE_pv (a := a) hf (x := x) (fun av hh => val_rel he hh) hx
  have hyr := opE_pv (a := a) hf (x := y) (fun av hh => val_rel he hh) hy
  generalize hxv : a.eval x = xv at hxr
  generalize hyv : a.eval y = yv at hyr
  cases hyr
  have key : ∀ (b : Bool), (b = true → es = []) → (execOp a.eval o).run P w = .ok (.value (.bool b)) w → Oper.wp P o a w Kc (fun e a' w' => ∃ env' H', Inv n g env' H' a' w' ∧ e = .normal ∧ Q env' H') := by
    intro b hb hrun
    unfold Oper.wp
    rw [hrun]
    simp only [Oper.upon]
    exact hKc _ _ ((h b hb).go _ _ ⟨put_size h1, put_defers h2, K, ρ, hf, by rw [hd]; exact env_put h1 ht he (.pv _ _ (.base _ rfl))⟩)
  cases hxr with
  | nil =>
    refine key true (fun _ => rfl) ?_
    have : (binOp .eql t (.slice none 0 0) (.slice none 0 0)).run P w = .ok (.bool true) w := by
      exact Lib.run_eql_slice_nil w t e _ _ _ _ _ (tab_sl htb hk)
    simp [execOp, hop, hxv, hyv, eqGuard, this]
  | emp _ _ ad =>
    refine key false (by simp) ?_
    have : (binOp .eql t (.slice (some ad) 0 0) (.slice none 0 0)).run P w = .ok (.bool false) w := by
      exact Lib.run_eql_slice_nil w t e _ _ _ _ _ (tab_sl htb hk)
    simp [execOp, hop, hxv, hyv, eqGuard, this]
  | slc _ _ _ b off cap vss q0 q1 q2 q3 q4 q5 q6 =>
    refine key false (by simp) ?_
    have : (binOp .eql t (.slice (some ⟨b, off, none⟩) es.length cap) (.slice none 0 0)).run P w = .ok (.bool false) w := by
      exact Lib.run_eql_slice_nil w t e _ _ _ _ _ (tab_sl htb hk)
    simp [execOp, hop, hxv, hyv, eqGuard, this]
end
end Go.Cg
/- The data of the program's types. -/
namespace Go.Cg

structure Ty where
  kind : Int
  index : Int
  dims : Int
  ref : Bool
  deriving DecidableEq, Inhabited

structure TD where
  name : ByteArray
  flags : Int
  ext : Int
  faces : List Int
  deriving Inhabited

structure Fd where
  name : ByteArray
  owner : Int
  ty : Ty
  static : Bool
  deriving Inhabited

structure Ins where
  op : Int
  arg : Int
  t : Ty
  deriving Inhabited, DecidableEq

structure Cl where
  kind : Int
  tf : Int
  tt : Int
  hf : Int
  ht : Int
  filter : Int
  t : Ty
  deriving Inhabited, DecidableEq

structure Me where
  name : ByteArray
  owner : Int
  flags : Int
  params : List Ty
  ret : Ty
  locals : List Ty
  max : Int
  code : List Ins
  clauses : List Cl
  deriving Inhabited

structure Img where
  types : List TD
  fields : List Fd
  methods : List Me
  entry : Int
  deriving Inhabited

abbrev pi (n : Int) : PV := .base (.int .i64 n)
abbrev pb (b : Bool) : PV := .base (.bool b)
abbrev ps (s : ByteArray) : PV := .base (.string s)
def ints (l : List Int) : PV := .slc 1 (l.map pi) false
def tyPV (t : Ty) : PV := .agg [pi t.kind, pi t.index, pi t.dims, pb t.ref]
def tys (l : List Ty) : PV := .slc 4 (l.map tyPV) false
def tdPV (t : TD) : PV := .agg [ps t.name, pi t.flags, pi t.ext, ints t.faces]
def fdPV (f : Fd) : PV := .agg [ps f.name, pi f.owner, pi f.ty.kind, pi f.ty.index, pi f.ty.dims, pb f.ty.ref, pb f.static]
def insPV (x : Ins) : PV := .agg [pi x.op, pi x.arg, pi x.t.kind, pi x.t.index, pi x.t.dims, pb x.t.ref]
def clPV (c : Cl) : PV := .agg [pi c.kind, pi c.tf, pi c.tt, pi c.hf, pi c.ht, pi c.filter, pi c.t.kind, pi c.t.index, pi c.t.dims, pb c.t.ref]
def mePV (m : Me) : PV := .agg [ps m.name, pi m.owner, pi m.flags, tys m.params, pi m.ret.kind, pi m.ret.index, pi m.ret.dims, pb m.ret.ref, tys m.locals, pi m.max, .slc 6 (m.code.map insPV) false, .slc 10 (m.clauses.map clPV) false]
def imgPV (g : Img) : PV := .agg [.slc 4 (g.types.map tdPV) false, .slc 7 (g.fields.map fdPV) false, .slc 12 (g.methods.map mePV) false, pi g.entry]

theorem wrap_in {a : Int} (h1 : -9223372036854775808 ≤ a) (h2 : a ≤ 9223372036854775807) : IntKind.i64.wrap a = a := by
  unfold IntKind.wrap
  simp only [IntKind.bits, IntKind.signed]
  simp
  split <;> omega
theorem sub_i {env env' : Env} {t : Nat} {k : IntKind} {a b : Int} (h : env.get t = some (.pv (.base (.int k a)))) (e : a = b) (hs : Sub env env') : Sub env ((t, .pv (.base (.int k b))) :: env') := sub_cons (by rw [h, e]) hs
theorem sub_v {env env' : Env} {t : Nat} {a b : AV} (h : env.get t = some a) (e : a = b) (hs : Sub env env') : Sub env ((t, b) :: env') := sub_cons (by rw [h, e]) hs
theorem aw_condT {P : Program} {n : Nat} {g : Base} {x y : Code} {env : Env} {H : HEnv} {QQ : QC} {t : Nat} {b : Bool} (hc : env.get t = some (.pv (.base (.bool b)))) (hb : b = true) (h : AW P n g x env H QQ) : AW P n g (.cond (.tmp t) x y) env H QQ := by subst hb; exact aw_cond_true hc h
theorem aw_condF {P : Program} {n : Nat} {g : Base} {x y : Code} {env : Env} {H : HEnv} {QQ : QC} {t : Nat} {b : Bool} (hc : env.get t = some (.pv (.base (.bool b)))) (hb : b = false) (h : AW P n g y env H QQ) : AW P n g (.cond (.tmp t) x y) env H QQ := by subst hb; exact aw_cond_false hc h
theorem ao_caseB {P : Program} {n : Nat} {g : Base} {ops l : List Oper} {Q : Env → HEnv → Prop} {o : Oper} {env : Env} {H : HEnv} {t : Nat} {b : Bool} (c : Bool) (_ : guardVar ops o = some t) (hb : env.get t = some (.pv (.base (.bool b)))) (hc : b = c)
    (h : AO P n g ops.toArray (o :: l) ((t, .pv (.base (.bool c))) :: env) H Q) : AO P n g ops.toArray (o :: l) env H Q := ⟨fun a w hi => h.go a w (inv_bool hi hb hc)⟩
theorem ad_caseB {P : Program} {n : Nat} {g : Base} {H : HEnv} {ops l : List Oper} {Q : Env → Prop} {o : Oper} {t : Nat} {env : Env} {b : Bool} (c : Bool) (_ : guardVar ops o = some t) (hb : env.get t = some (.pv (.base (.bool b)))) (hc : b = c)
    (h : AD P n g H ops Q (o :: l) ((t, .pv (.base (.bool c))) :: env)) : AD P n g H ops Q (o :: l) env := by
  subst hc
  refine .case _ _ _ _ hb (fun e => ?_) (fun e => ?_) <;> (subst e; exact h)

theorem ao_sh_call {P : Program} {n : Nat} {g : Base} {ops : Array Oper} {rest : List Oper} {env : Env} {H : HEnv} {Q : Env → HEnv → Prop} {d : Option Tmp} {ty : TypeId} {po : String} {af : Array Edge} {gu : Option (Nat × Bool)} {f : Operand} {xs : Array Operand} {ts : Array TypeId} (h : AO P n g ops (⟨d, .call ⟨.value f, xs, ts⟩, ty, po, af, gu⟩ :: rest) env H Q) : AO P n g ops (⟨d, .call ⟨.value f, xs, ts⟩, ty, po, af, gu⟩ :: rest) env H Q := h
theorem ad_sh_call {P : Program} {n : Nat} {g : Base} {ops rest : List Oper} {env : Env} {H : HEnv} {Q : Env → Prop} {d : Option Tmp} {ty : TypeId} {po : String} {af : Array Edge} {gu : Option (Nat × Bool)} {f : Operand} {xs : Array Operand} {ts : Array TypeId} (h : AD P n g H ops Q (⟨d, .call ⟨.value f, xs, ts⟩, ty, po, af, gu⟩ :: rest) env) : AD P n g H ops Q (⟨d, .call ⟨.value f, xs, ts⟩, ty, po, af, gu⟩ :: rest) env := h
theorem ao_sh_bi {P : Program} {n : Nat} {g : Base} {ops : Array Oper} {rest : List Oper} {env : Env} {H : HEnv} {Q : Env → HEnv → Prop} {d : Option Tmp} {ty : TypeId} {po : String} {af : Array Edge} {gu : Option (Nat × Bool)} {b : Builtin} {xs : Array Operand} {ts : Array TypeId} (h : AO P n g ops (⟨d, .call ⟨.builtin b, xs, ts⟩, ty, po, af, gu⟩ :: rest) env H Q) : AO P n g ops (⟨d, .call ⟨.builtin b, xs, ts⟩, ty, po, af, gu⟩ :: rest) env H Q := h
theorem ad_sh_bi {P : Program} {n : Nat} {g : Base} {ops rest : List Oper} {env : Env} {H : HEnv} {Q : Env → Prop} {d : Option Tmp} {ty : TypeId} {po : String} {af : Array Edge} {gu : Option (Nat × Bool)} {b : Builtin} {xs : Array Operand} {ts : Array TypeId} (h : AD P n g H ops Q (⟨d, .call ⟨.builtin b, xs, ts⟩, ty, po, af, gu⟩ :: rest) env) : AD P n g H ops Q (⟨d, .call ⟨.builtin b, xs, ts⟩, ty, po, af, gu⟩ :: rest) env := h
theorem ao_sh_ix {P : Program} {n : Nat} {g : Base} {ops : Array Oper} {rest : List Oper} {env : Env} {H : HEnv} {Q : Env → HEnv → Prop} {d : Option Tmp} {ty : TypeId} {po : String} {af : Array Edge} {gu : Option (Nat × Bool)} {u : TypeId} {x i : Operand} (h : AO P n g ops (⟨d, .indexAddr u x i, ty, po, af, gu⟩ :: rest) env H Q) : AO P n g ops (⟨d, .indexAddr u x i, ty, po, af, gu⟩ :: rest) env H Q := h
theorem ad_sh_ix {P : Program} {n : Nat} {g : Base} {ops rest : List Oper} {env : Env} {H : HEnv} {Q : Env → Prop} {d : Option Tmp} {ty : TypeId} {po : String} {af : Array Edge} {gu : Option (Nat × Bool)} {u : TypeId} {x i : Operand} (h : AD P n g H ops Q (⟨d, .indexAddr u x i, ty, po, af, gu⟩ :: rest) env) : AD P n g H ops Q (⟨d, .indexAddr u x i, ty, po, af, gu⟩ :: rest) env := h
theorem ao_sh_index {P : Program} {n : Nat} {g : Base} {ops : Array Oper} {rest : List Oper} {env : Env} {H : HEnv} {Q : Env → HEnv → Prop} {d : Option Tmp} {ty : TypeId} {po : String} {af : Array Edge} {gu : Option (Nat × Bool)} {u : TypeId} {x i : Operand} (h : AO P n g ops (⟨d, .index u x i, ty, po, af, gu⟩ :: rest) env H Q) : AO P n g ops (⟨d, .index u x i, ty, po, af, gu⟩ :: rest) env H Q := h
theorem ad_sh_index {P : Program} {n : Nat} {g : Base} {ops rest : List Oper} {env : Env} {H : HEnv} {Q : Env → Prop} {d : Option Tmp} {ty : TypeId} {po : String} {af : Array Edge} {gu : Option (Nat × Bool)} {u : TypeId} {x i : Operand} (h : AD P n g H ops Q (⟨d, .index u x i, ty, po, af, gu⟩ :: rest) env) : AD P n g H ops Q (⟨d, .index u x i, ty, po, af, gu⟩ :: rest) env := h
theorem ao_sh_slice {P : Program} {n : Nat} {g : Base} {ops : Array Oper} {rest : List Oper} {env : Env} {H : HEnv} {Q : Env → HEnv → Prop} {d : Option Tmp} {ty : TypeId} {po : String} {af : Array Edge} {gu : Option (Nat × Bool)} {u : TypeId} {x : Operand} {i j k : Option Operand} (h : AO P n g ops (⟨d, .slice u x i j k, ty, po, af, gu⟩ :: rest) env H Q) : AO P n g ops (⟨d, .slice u x i j k, ty, po, af, gu⟩ :: rest) env H Q := h
theorem ad_sh_slice {P : Program} {n : Nat} {g : Base} {ops rest : List Oper} {env : Env} {H : HEnv} {Q : Env → Prop} {d : Option Tmp} {ty : TypeId} {po : String} {af : Array Edge} {gu : Option (Nat × Bool)} {u : TypeId} {x : Operand} {i j k : Option Operand} (h : AD P n g H ops Q (⟨d, .slice u x i j k, ty, po, af, gu⟩ :: rest) env) : AD P n g H ops Q (⟨d, .slice u x i j k, ty, po, af, gu⟩ :: rest) env := h
theorem ao_sh_store {P : Program} {n : Nat} {g : Base} {ops : Array Oper} {rest : List Oper} {env : Env} {H : HEnv} {Q : Env → HEnv → Prop} {d : Option Tmp} {ty : TypeId} {po : String} {af : Array Edge} {gu : Option (Nat × Bool)} {u : TypeId} {x y : Operand} (h : AO P n g ops (⟨d, .store u x y, ty, po, af, gu⟩ :: rest) env H Q) : AO P n g ops (⟨d, .store u x y, ty, po, af, gu⟩ :: rest) env H Q := h
theorem ad_sh_store {P : Program} {n : Nat} {g : Base} {ops rest : List Oper} {env : Env} {H : HEnv} {Q : Env → Prop} {d : Option Tmp} {ty : TypeId} {po : String} {af : Array Edge} {gu : Option (Nat × Bool)} {u : TypeId} {x y : Operand} (h : AD P n g H ops Q (⟨d, .store u x y, ty, po, af, gu⟩ :: rest) env) : AD P n g H ops Q (⟨d, .store u x y, ty, po, af, gu⟩ :: rest) env := h
theorem ao_sh_alloc {P : Program} {n : Nat} {g : Base} {ops : Array Oper} {rest : List Oper} {env : Env} {H : HEnv} {Q : Env → HEnv → Prop} {d : Option Tmp} {ty : TypeId} {po : String} {af : Array Edge} {gu : Option (Nat × Bool)} {u : TypeId} (h : AO P n g ops (⟨d, .alloc u, ty, po, af, gu⟩ :: rest) env H Q) : AO P n g ops (⟨d, .alloc u, ty, po, af, gu⟩ :: rest) env H Q := h
theorem ad_sh_alloc {P : Program} {n : Nat} {g : Base} {ops rest : List Oper} {env : Env} {H : HEnv} {Q : Env → Prop} {d : Option Tmp} {ty : TypeId} {po : String} {af : Array Edge} {gu : Option (Nat × Bool)} {u : TypeId} (h : AD P n g H ops Q (⟨d, .alloc u, ty, po, af, gu⟩ :: rest) env) : AD P n g H ops Q (⟨d, .alloc u, ty, po, af, gu⟩ :: rest) env := h
theorem ao_sh_box {P : Program} {n : Nat} {g : Base} {ops : Array Oper} {rest : List Oper} {env : Env} {H : HEnv} {Q : Env → HEnv → Prop} {d : Option Tmp} {ty : TypeId} {po : String} {af : Array Edge} {gu : Option (Nat × Bool)} {u : TypeId} {x : Operand} (h : AO P n g ops (⟨d, .box u x, ty, po, af, gu⟩ :: rest) env H Q) : AO P n g ops (⟨d, .box u x, ty, po, af, gu⟩ :: rest) env H Q := h
theorem ad_sh_box {P : Program} {n : Nat} {g : Base} {ops rest : List Oper} {env : Env} {H : HEnv} {Q : Env → Prop} {d : Option Tmp} {ty : TypeId} {po : String} {af : Array Edge} {gu : Option (Nat × Bool)} {u : TypeId} {x : Operand} (h : AD P n g H ops Q (⟨d, .box u x, ty, po, af, gu⟩ :: rest) env) : AD P n g H ops Q (⟨d, .box u x, ty, po, af, gu⟩ :: rest) env := h
theorem ao_id {P : Program} {n : Nat} {g : Base} {ops : Array Oper} {l : List Oper} {env : Env} {H : HEnv} {Q : Env → HEnv → Prop} (h : AO P n g ops l env H Q) : AO P n g ops l env H Q := h
theorem ad_id {P : Program} {n : Nat} {g : Base} {ops l : List Oper} {env : Env} {H : HEnv} {Q : Env → Prop} (h : AD P n g H ops Q l env) : AD P n g H ops Q l env := h
theorem aw_sh_cond {P : Program} {n : Nat} {g : Base} {c : Operand} {x y : Code} {env : Env} {H : HEnv} {QQ : QC} (h : AW P n g (.cond c x y) env H QQ) : AW P n g (.cond c x y) env H QQ := h
theorem aw_id {P : Program} {n : Nat} {g : Base} {c : Code} {env : Env} {H : HEnv} {QQ : QC} (h : AW P n g c env H QQ) : AW P n g c env H QQ := h

/-- The ways meet again: the frame is told anew behind the first part. -/
def cutQ (env2 : Env) (H2 : HEnv) (QQ : QC) : QC
  | .normal, env', H' => Sub env' env2 ∧ HFit H' H2 env2
  | e, env', H' => QQ e env' H'
theorem aw_cut {P : Program} {n : Nat} {g : Base} {x y : Code} {env : Env} {H : HEnv} {QQ : QC} (env2 : Env) (H2 : HEnv) (h1 : AW P n g x env H (cutQ env2 H2 QQ)) (h2 : AW P n g y env2 H2 QQ) : AW P n g (.seq x y) env H QQ :=
  aw_seq (h1.mono fun e env' H' hq => by
    cases e <;> first
      | exact ⟨fun a w hi => h2.go a w ((hi.sub hq.1).hsub hq.2)⟩
      | exact hq)
theorem sub_b {env env' : Env} {t : Nat} {a b : Bool} (h : env.get t = some (.pv (.base (.bool a)))) (e : a = b) (hs : Sub env env') : Sub env ((t, .pv (.base (.bool b))) :: env') := sub_cons (by rw [h, e]) hs

theorem retq {tb : Tab} {rs : List ResultVar} {r : PV} {env : Env} {H : HEnv} {ps : List PV} (h : resEs tb H env rs = some ps) (hr : retPV ps = r) : RetQ tb rs r .ret env H := ⟨.inr rfl, env, .refl env, ps, h, hr⟩
theorem retn {tb : Tab} {rs : List ResultVar} {r : PV} {env : Env} {H : HEnv} {ps : List PV} (h : resEs tb H env rs = some ps) (hr : retPV ps = r) : RetQ tb rs r .normal env H := ⟨.inl rfl, env, .refl env, ps, h, hr⟩
/-- A slot told in a weaker way, and then the end. -/
theorem retq_w {tb : Tab} {rs : List ResultVar} {r : PV} {env : Env} {H : HEnv} {ps : List PV} {t : Nat} {a b : AV} (he : env.get t = some a) (ht : Tells a b) (h : resEs tb H ((t, b) :: env) rs = some ps) (hr : retPV ps = r) : RetQ tb rs r .ret env H := ⟨.inr rfl, _, .one he ht, ps, h, hr⟩
theorem ad_case {P : Program} {n : Nat} {g : Base} {H : HEnv} {ops l : List Oper} {Q : Env → Prop} {o : Oper} {t : Nat} {env : Env} {b : Bool} (_ : guardVar ops o = some t) (hb : env.get t = some (.pv (.base (.bool b))))
    (h1 : b = true → AD P n g H ops Q (o :: l) ((t, .pv (.base (.bool true))) :: env)) (h2 : b = false → AD P n g H ops Q (o :: l) ((t, .pv (.base (.bool false))) :: env)) : AD P n g H ops Q (o :: l) env := .case _ _ _ _ hb h1 h2

theorem tyEq_iff (a b : Ty) : (a.kind == b.kind && (a.index == b.index && (a.dims == b.dims && (a.ref == b.ref && true)))) = decide (a = b) := by
  obtain ⟨a1, a2, a3, a4⟩ := a; obtain ⟨b1, b2, b3, b4⟩ := b
  simp [Ty.mk.injEq, Bool.beq_eq_decide_eq, ← Bool.decide_and]
end Go.Cg
/- A region that draws its order, and that lays one variable and writes it once. -/
namespace Go.Cg
open Go.RowKit

def shadowOp (ja js t' m : Nat) (o : Oper) (j : Nat) : Oper :=
  match Nat.beq j ja with
  | true => { o with op := .move (.tmp m) }
  | false => match Nat.beq j js with
    | true => { o with op := .move (.tmp m), dst := some t' }
    | false => o

def shadowFrom (ja js t' m : Nat) : List Oper → Nat → List Oper
  | [], _ => []
  | o :: os, j => shadowOp ja js t' m o j :: shadowFrom ja js t' m os (j + 1)

theorem shadowFrom_get (ja js t' m : Nat) : ∀ (ops : List Oper) (k j : Nat), (shadowFrom ja js t' m ops k)[j]? = (ops[j]?).map fun o => shadowOp ja js t' m o (k + j)
  | [], k, j => by simp [shadowFrom]
  | o :: os, k, j => by
    cases j with
    | zero => simp [shadowFrom]
    | succ j => simp only [shadowFrom, List.getElem?_cons_succ]; rw [shadowFrom_get ja js t' m os (k + 1) j]; congr; funext o; congr 1; omega
theorem shadowFrom_length (ja js t' m : Nat) : ∀ (ops : List Oper) (k : Nat), (shadowFrom ja js t' m ops k).length = ops.length
  | [], k => rfl
  | o :: os, k => by simp [shadowFrom, shadowFrom_length ja js t' m os (k + 1)]
theorem shadowOp_after {ja js t' m : Nat} {o : Oper} {j : Nat} : (shadowOp ja js t' m o j).after = o.after := by
  unfold shadowOp
  split
  · rfl
  · split <;> rfl
theorem shadowOp_guard {ja js t' m : Nat} {o : Oper} {j : Nat} : (shadowOp ja js t' m o j).guard = o.guard := by
  unfold shadowOp
  split
  · rfl
  · split <;> rfl
theorem shadowOp_pure {ja js t' m : Nat} {o : Oper} {j : Nat} (h1 : j ≠ ja) (h2 : j ≠ js) : shadowOp ja js t' m o j = o := by
  unfold shadowOp
  have e1 : Nat.beq j ja = false := by cases h : Nat.beq j ja; rfl; exact absurd (Nat.eq_of_beq_eq_true h) h1
  have e2 : Nat.beq j js = false := by cases h : Nat.beq j js; rfl; exact absurd (Nat.eq_of_beq_eq_true h) h2
  rw [e1, e2]
theorem shadowOp_dst {ja js t' m : Nat} {o : Oper} {j : Nat} (h2 : j ≠ js) : (shadowOp ja js t' m o j).dst = o.dst := by
  unfold shadowOp
  have e2 : Nat.beq j js = false := by cases h : Nat.beq j js; rfl; exact absurd (Nat.eq_of_beq_eq_true h) h2
  rw [e2]
  split <;> rfl

section
variable {P : Program} {tb : Tab} {n : Nat} {g : Base} {K K' : KK} {w w' : World} {ρ : Nat → Value} {H : HEnv} {env : Env} {a : Act} {ops rest : List Oper} {Q : Env → Prop}

theorem ad_shadow {t m : Nat} {ty : TypeId} {po : String} {af : Array Edge} (hm : env.get m = none) (ht : Nat.blt t n = true) (h : AD P n g H ops Q rest ((t, .any) :: env)) : AD P n g H ops Q (⟨some t, .move (.tmp m), ty, po, af, none⟩ :: rest) env := by
  refine .step _ _ _ .any t rfl ⟨fun K ρ a w hf hv => ?_⟩ rfl ht h
  simp only [execOp, Act.eval]
  exact ⟨K, .refl hf.lt, .any _⟩

/-- What is known of the block that the region lays. -/
structure Blk (g : Base) (K : KK) (ρ : Nat → Value) (H : HEnv) (w : World) (b : Nat) (ty : TypeId) (arr : Array Value) : Prop where
  base : g.w0.heap.size ≤ b
  heap : w.heap[b]? = some (.cells arr ty (0, 0))
  noK : ∀ o, ¬ K b o
  apart : ∀ (j : Nat) (h : HE), H.get j = some h → h.live = true → blockOf (ρ j) = some b → False

theorem Blk.evo {b : Nat} {ty : TypeId} {arr : Array Value} (h : Blk g K ρ H w b ty arr) (hev : Evo K K' w w') : Blk g K' ρ H w' b ty arr := by
  have hlt : b < w.heap.size := (Array.getElem?_eq_some_iff.1 h.heap).1
  exact ⟨h.base, by rw [hev.below.block b hlt]; exact h.heap, fun o ho => (hev.new b o ho).elim (h.noK o) (fun h2 => by omega), h.apart⟩

/-- The block is owned. -/
theorem Blk.own {b i : Nat} {ty : TypeId} {arr : Array Value} (h : Blk g K ρ H w b ty arr) (hf : FS g K ρ H w) (hi : H.get i = none) {v : AV} {u : Value} (hu : ARel K w ρ H v u) (hc : u.cells = arr) :
    FS g K (fun j => if j = i then .pointer (some ⟨b, 0, none⟩) else ρ j) ((i, .cell v) :: H) w := by
  have hk := fresh_keeps (ρ := ρ) hi (.cell v) (.pointer (some ⟨b, 0, none⟩))
  have hlat := Later.refl K w
  refine ⟨hf.below, hf.old, hf.new, hf.lt, ?_, ?_⟩
  · intro j e hj
    simp only [HEnv.get_nil, HEnv.get_cons] at hj
    split at hj
    · rename_i e'; subst e'; simp only [Option.some.injEq] at hj; subst hj
      exact ⟨b, ty, arr, u, by simp, h.base, h.heap, hu.keeps hlat hk, hc, h.noK⟩
    · rename_i hne
      have := (hf.heap.ok j e hj).keeps (.refl hf.lt) hf.lt hk
      simpa [Ne.symm hne] using this
  · intro j k h1 h2 bb hjk hj hk' hlj hlk hbj hbk
    simp only [HEnv.get_nil, HEnv.get_cons] at hj hk'
    split at hj
    · rename_i e'; subst e'
      split at hk'
      · rename_i e''; exact hjk (by omega)
      · rename_i hne
        simp only [if_true] at hbj
        simp only [blockOf, Option.some.injEq] at hbj
        subst hbj
        simp only [Ne.symm hne, if_false] at hbk
        exact h.apart k h2 hk' hlk hbk
    · rename_i hne
      simp only [Ne.symm hne, if_false] at hbj
      split at hk'
      · rename_i e''; subst e''
        simp only [if_true] at hbk
        simp only [blockOf, Option.some.injEq] at hbk
        subst hbk
        exact h.apart j h1 hj hlj hbj
      · rename_i hne'
        simp only [Ne.symm hne', if_false] at hbk
        exact hf.heap.apart j k h1 h2 bb hjk hj hk' hlj hlk hbj hbk

/-- The block is written. -/
theorem Blk.set {b : Nat} {ty : TypeId} {arr arr' : Array Value} (h : Blk g K ρ H w b ty arr) (hf : FS g K ρ H w) :
    FS g K ρ H (w.setRow b arr') ∧ Blk g K ρ H (w.setRow b arr') b ty arr' ∧ Later K K w (w.setRow b arr') := by
  have hgrow : w.grownBy (w.setRow b arr') (some b) := ⟨rfl, rfl, rfl, by simp, fun k _ hk => setRow_other w b k _ (fun e => hk (by simp [e]))⟩
  have hlat : Later K K w (w.setRow b arr') := ⟨fun _ _ h => h, fun b' o hk => by
    have : b' ≠ b := by rintro rfl; exact h.noK o hk
    exact cell_setRow_other w b _ ⟨b', o, none⟩ this⟩
  refine ⟨⟨hf.below.grown hgrow hf.below.size (fun k hk => by simp at hk; have := h.base; omega), hf.old, hf.new, fun b o hk => by have := hf.lt b o hk; simpa using this, ?_, hf.heap.apart⟩, ⟨h.base, setRow_heap w b arr _ ty _ h.heap, h.noK, h.apart⟩, hlat⟩
  intro j e hj
  by_cases hlive : e.live = true
  · have := (hf.heap.ok j e hj).grown (f := id) hgrow hlat (fun b o h => .inl h) (fun av v h => h.keeps hlat (fun j hj => ⟨hj, rfl⟩)) hlive (fun b' hb' e' => by
      simp at e'; subst e'
      exact h.apart j e hj hlive hb')
    cases e <;> exact this
  · cases e <;> simp [HE.live] at hlive
    · trivial
    · exact ARel.keeps hlat (fun j hj => ⟨hj, rfl⟩) (hf.heap.ok j _ hj)

structure MidX (P : Program) (n : Nat) (g : Base) (H : HEnv) (ops : List Oper) (env : Env) (Q : Env → Prop) (s : Script P n g H ops ops env Q) (listed : Array Bool) (a : Act) (w : World) (K : KK) (ρ : Nat → Value) : Prop where
  size : a.tmps.size = n
  defers : a.defers = []
  lsize : listed.size = ops.length
  closed : ∀ (i : Nat) (o : Oper), ops[i]? = some o → listed.getD i true = true → ∀ j, hasEdge o j = true → listed.getD j false = true
  fs : FS g K ρ H w
  hl : ∀ (i : Nat) (o : Oper) (ri : AV) (t : Nat), ops[i]? = some o → listed.getD i true = true → s.r[i]? = some ri → o.dst = some t → ∃ v, a.tmps[t]? = some v ∧ ARel K w ρ H ri v
  he : ∀ (t : Nat) (av : AV), env.get t = some av → (∀ (i : Nat) (o : Oper), ops[i]? = some o → listed.getD i true = true → o.dst ≠ some t) → ∃ v, a.tmps[t]? = some v ∧ ARel K w ρ H av v

theorem MidX.mid {s : Script P n g H ops ops env Q} {listed : Array Bool} (h : MidX P n g H ops env Q s listed a w K ρ) : Mid P n g H ops ops env Q s listed a w :=
  ⟨h.size, h.defers, h.lsize, Nat.le_refl _, fun j h1 h2 => by omega, h.closed, K, ρ, h.fs, h.hl, h.he⟩

theorem closed_next {s : Script P n g H ops ops env Q} {listed : Array Bool} (hm : MidX P n g H ops env Q s listed a w K ρ) {j : Nat} {o : Oper} (ho : ops[j]? = some o) (hready : ∀ i, hasEdge o i = true → listed.getD i false = true) :
    ∀ (i : Nat) (o : Oper), ops[i]? = some o → (listed.setIfInBounds j true).getD i true = true → ∀ k, hasEdge o k = true → (listed.setIfInBounds j true).getD k false = true := by
  have hjlt : j < listed.size := by rw [hm.lsize]; exact (List.getElem?_eq_some_iff.1 ho).1
  intro i o' ho' hli k hk
  by_cases hij : i = j
  · subst hij
    rw [ho] at ho'; cases ho'
    have := hready k hk
    by_cases hkj : k = i
    · subst hkj; exact getD_set_same hjlt
    · rw [getD_set_other hkj]; exact this
  · rw [getD_set_other hij] at hli
    have := hm.closed i o' ho' hli k hk
    by_cases hkj : k = j
    · subst hkj; exact getD_set_same hjlt
    · rw [getD_set_other hkj]; exact this

theorem MidX.next {s : Script P n g H ops ops env Q} {listed : Array Bool} (hB : drawOk ops ops = true) (hm : MidX P n g H ops env Q s listed a w K ρ) {j : Nat} {o : Oper} {rj : AV} {t : Nat} (ho : ops[j]? = some o) (hr : s.r[j]? = some rj) (hd : o.dst = some t) (ht : t < n)
    (hun : listed.getD j true = false) (hready : ∀ i, hasEdge o i = true → listed.getD i false = true) {K' : KK} {w' : World} {v : Value}
    (hfs : FS g K' ρ H w') (hlat : Later K K' w w') (hv : ARel K' w' ρ H rj v) : MidX P n g H ops env Q s (listed.setIfInBounds j true) (a.put (some t) v) w' K' ρ := by
  have hjlt : j < listed.size := by rw [hm.lsize]; exact (List.getElem?_eq_some_iff.1 ho).1
  obtain ⟨_, _, hdst, _⟩ := drawOk_at hB ho
  refine ⟨put_size hm.size, put_defers hm.defers, by simp [hm.lsize], closed_next hm ho hready, hfs, ?_, ?_⟩
  · intro i o' ri t' ho' hli hri hd'
    by_cases hij : i = j
    · subst hij
      rw [ho] at ho'; cases ho'
      rw [hr] at hri; cases hri
      rw [hd] at hd'; cases hd'
      exact ⟨v, by simp only [Act.put]; rw [Array.getElem?_setIfInBounds_self_of_lt (by rw [hm.size]; exact ht)], hv⟩
    · rw [getD_set_other hij] at hli
      obtain ⟨u, h1, h2⟩ := hm.hl i o' ri t' ho' hli hri hd'
      have hne : t ≠ t' := by
        rintro rfl
        exact hdst i o' ho' hij (by rw [hd', hd])
      exact ⟨u, by simp only [Act.put]; rw [Array.getElem?_setIfInBounds_ne hne]; exact h1, h2.later hlat⟩
  · intro t' av hav hno
    have hne : t ≠ t' := by
      rintro rfl
      exact hno j o ho (getD_set_same hjlt) hd
    obtain ⟨u, h1, h2⟩ := hm.he t' av hav (fun i o' ho' hli hd' => by
      by_cases hij : i = j
      · subst hij; rw [hun] at hli; cases hli
      · exact hno i o' ho' (by rw [getD_set_other hij]; exact hli) hd')
    exact ⟨u, by simp only [Act.put]; rw [Array.getElem?_setIfInBounds_ne hne]; exact h1, h2.later hlat⟩

theorem MidX.nop {s : Script P n g H ops ops env Q} {listed : Array Bool} (hm : MidX P n g H ops env Q s listed a w K ρ) {j : Nat} {o : Oper} {rj : AV} {t : Nat} {w' : World} (ho : ops[j]? = some o) (hr : s.r[j]? = some rj) (hany : ∀ u, ARel K w' ρ H rj u) (hd : o.dst = some t) (ht : t < n)
    (hun : listed.getD j true = false) (hready : ∀ i, hasEdge o i = true → listed.getD i false = true)
    (hfs : FS g K ρ H w') (hlat : Later K K w w') : MidX P n g H ops env Q s (listed.setIfInBounds j true) a w' K ρ := by
  have hjlt : j < listed.size := by rw [hm.lsize]; exact (List.getElem?_eq_some_iff.1 ho).1
  refine ⟨hm.size, hm.defers, by simp [hm.lsize], closed_next hm ho hready, hfs, ?_, ?_⟩
  · intro i o' ri t' ho' hli hri hd'
    by_cases hij : i = j
    · subst hij
      rw [ho] at ho'; cases ho'
      rw [hr] at hri; cases hri
      rw [hd] at hd'; cases hd'
      exact ⟨a.tmps[t]'(by rw [hm.size]; exact ht), Array.getElem?_eq_getElem _, hany _⟩
    · rw [getD_set_other hij] at hli
      obtain ⟨u, h1, h2⟩ := hm.hl i o' ri t' ho' hli hri hd'
      exact ⟨u, h1, h2.later hlat⟩
  · intro t' av hav hno
    obtain ⟨u, h1, h2⟩ := hm.he t' av hav (fun i o' ho' hli hd' => by
      by_cases hij : i = j
      · subst hij; rw [hun] at hli; cases hli
      · exact hno i o' ho' (by rw [getD_set_other hij]; exact hli) hd')
    exact ⟨u, h1, h2.later hlat⟩

/-- When all have come up. -/
theorem MidX.done {s : Script P n g H ops ops env Q} {listed : Array Bool} (hm : MidX P n g H ops env Q s listed a w K ρ) (hall : ∀ j, j < ops.length → listed.getD j true = true) : EnvR K w ρ H s.last a.tmps := by
  intro t av hav
  have hlast : (s.e ++ [s.last])[ops.length]? = some s.last := by rw [List.getElem?_append_right (by rw [s.lene]; exact Nat.le_refl _), s.lene]; simp
  rcases s.src ops.length s.last hlast t av hav with ⟨i, o, ri, h1, h2, h3, h4, h5, _⟩ | ⟨h1, av0, h2, h3⟩
  · obtain ⟨v, v1, v2⟩ := hm.hl i o ri t h2 (hall i h1) h4 h3
    exact ⟨v, v1, h5 _ _ _ _ _ v2⟩
  · obtain ⟨v, v1, v2⟩ := hm.he t av0 h2 (fun i o ho _ => h1 i o (List.getElem?_eq_some_iff.1 ho).1 ho)
    exact ⟨v, v1, h3 _ _ _ _ _ v2⟩

/-- What the walk's last frame tells of a slot that is written at one place, holds as soon as that has come up. -/
theorem MidX.early {s : Script P n g H ops ops env Q} {listed : Array Bool} (hB : drawOk ops ops = true) (hm : MidX P n g H ops env Q s listed a w K ρ) {jx tx : Nat} {ox : Oper} {v : AV} (hox : ops[jx]? = some ox) (hdx : ox.dst = some tx) (hlx : listed.getD jx true = true) (hv : s.last.get tx = some v) :
    ∃ u, a.tmps[tx]? = some u ∧ ARel K w ρ H v u := by
  have hlast : (s.e ++ [s.last])[ops.length]? = some s.last := by rw [List.getElem?_append_right (by rw [s.lene]; exact Nat.le_refl _), s.lene]; simp
  rcases s.src ops.length s.last hlast tx v hv with ⟨i, o, ri, h1, h2, h3, h4, h5, _⟩ | ⟨h1, av0, h2, h3⟩
  · have hij : i = jx := Classical.byContradiction fun hne => (drawOk_at hB hox).2.2.1 i o h2 hne (by rw [h3, hdx])
    subst hij
    obtain ⟨u, u1, u2⟩ := hm.hl i o ri tx h2 hlx h4 h3
    exact ⟨u, u1, h5 _ _ _ _ _ u2⟩
  · exact absurd hdx (h1 jx ox (List.getElem?_eq_some_iff.1 hox).1 hox)

theorem evo_same (hev : Evo K K' w w) : Later K' K w w := by
  refine ⟨fun b o h => (hev.new b o h).elim id (fun h2 => ?_), fun _ _ _ => rfl⟩
  have := hev.lt b o h
  omega

/-- A shadow's result holds of whatever value. -/
theorem shadow_any (a : Act) {s : Script P n g H ops ops env Q} {j : Nat} {o : Oper} {rj : AV} (ho : ops[j]? = some o) (hr : s.r[j]? = some rj) (hop : o.op = .move (.tmp n)) (hg : o.guard = none) (henv : env.get n = none) (hf : FS g K ρ H w) (u : Value) : ARel K w ρ H rj u := by
  have hj := (List.getElem?_eq_some_iff.1 ho).1
  have hej : s.e[j]? = some (s.e[j]'(by rw [s.lene]; exact hj)) := List.getElem?_eq_getElem _
  generalize s.e[j]'(by rw [s.lene]; exact hj) = ej at hej
  have hno : ej.get n = none := by
    cases hc : ej.get n with
    | none => rfl
    | some av =>
      exfalso
      rcases s.src j ej (by rw [List.getElem?_append_left (List.getElem?_eq_some_iff.1 hej).1]; exact hej) n av hc with ⟨i, o', ri, h1, h2, h3, h4, _⟩ | ⟨_, av0, h2, _⟩
      · have hi := (List.getElem?_eq_some_iff.1 h2).1
        obtain ⟨t, e1, e2, _⟩ := s.ok i o' ri _ h2 h4 (List.getElem?_eq_getElem (by rw [s.lene]; exact hi))
        rw [h3] at e1; have e3 := Option.some.inj e1; subst e3; exact Nat.lt_irrefl _ e2
      · rw [henv] at h2; cases h2
  obtain ⟨t, hd, ht, hor⟩ := s.ok j o rj ej ho hr hej
  have hgt : guardE ops ej o = some true := by simp [guardE, guardVar, hg]
  rcases hor with ⟨_, hq⟩ | ⟨hgf, _⟩
  · have := hq.go K ρ { a with tmps := Array.replicate (n + 1) u } w hf (fun x hx av hav => by
      rw [hop] at hx
      simp [Op.operands] at hx
      subst hx
      simp [Env.val, hno] at hav)
    rw [show (execOp (Act.eval { a with tmps := Array.replicate (n + 1) u }) o).run P w = .ok (.value u) w by
      simp [execOp, hop, Act.eval, Array.getD_eq_getD_getElem?]] at this
    obtain ⟨K', hev, hr'⟩ := this
    exact hr'.later (evo_same hev)
  · rw [hgt] at hgf; cases hgf
end
end Go.Cg
/- A region that draws its order, and that lays one variable and writes it once: the walk. -/
namespace Go.Cg
open Go.RowKit

section
variable {P : Program} {tb : Tab} {n : Nat} {g : Base} {H : HEnv} {env : Env} {ops ops' : List Oper} {Q : Env → Prop}

theorem hasEdge_after {o o' : Oper} (h : o.after = o'.after) (j : Nat) : hasEdge o j = hasEdge o' j := by unfold hasEdge; rw [h]

theorem count_next {listed : Array Bool} {j fuel : Nat} (hlt : j < listed.size) (hun : listed.getD j true = false) (hc : (listed.toList.filter (! ·)).length = fuel + 1) : ((listed.setIfInBounds j true).toList.filter (! ·)).length = fuel := by
  have hlt' : j < listed.toList.length := by simpa using hlt
  have hjf : listed.toList[j] = false := by
    rw [Array.getD_eq_getD_getElem?, Array.getElem?_eq_getElem hlt] at hun
    simpa using hun
  have e1 : listed.toList = listed.toList.take j ++ false :: listed.toList.drop (j + 1) := by
    rw [← hjf, List.getElem_cons_drop, List.take_append_drop]
  rw [Array.toList_setIfInBounds, List.set_eq_take_append_cons_drop, if_pos hlt']
  rw [e1] at hc
  simp only [List.filter_append, List.length_append, List.filter_cons, Bool.not_false, if_true, List.length_cons, Bool.not_true, Bool.false_eq_true, if_false] at hc ⊢
  omega

/-- The block, at every moment. -/
def BI (g : Base) (H : HEnv) (ja js ta : Nat) (ty : TypeId) (zc : Array Value) (r : AV) (listed : Array Bool) (a : Act) (w : World) (K : KK) (ρ : Nat → Value) : Prop :=
  listed.getD ja true = true → ∃ b, a.tmps[ta]? = some (.pointer (some ⟨b, 0, none⟩)) ∧
    ((listed.getD js true = false ∧ Blk g K ρ H w b ty zc) ∨ (listed.getD js true = true ∧ ∃ ru, ARel K w ρ H r ru ∧ Blk g K ρ H w b ty ru.cells))

theorem wpAny_blk {ja js t' ta tx jx : Nat} {oa os ox : Oper} {ty : TypeId} {z : Value} {za v r : AV} {R : Exit → Act → World → Prop} (htb : TabOK P tb) (hsh : ops' = shadowFrom ja js t' n ops 0) (hB : drawOk ops' ops' = true) (s : Script P n g H ops' ops' env Q)
    (hoa : ops[ja]? = some oa) (hopa : oa.op = .alloc ty) (hda : oa.dst = some ta) (hta : ta < n) (hga : oa.guard = none)
    (hos : ops[js]? = some os) (hops : os.op = .store ty (.tmp ta) (.tmp tx)) (hds : os.dst = none) (hgs : os.guard = none) (ht' : t' < n)
    (hne : ja ≠ js) (hea : hasEdge os ja = true) (hex : hasEdge os jx = true) (hox : ops'[jx]? = some ox) (hdx : ox.dst = some tx)
    (hng : ∀ (j : Nat) (o : Oper) (jj : Nat) (want : Bool), ops[j]? = some o → o.guard = some (jj, want) → jj ≠ js)
    (hz : tb.zero ty = some z) (hza : zeroAV z = some za) (hk : tb.known ty = true) (henv : env.get n = none)
    (hv : s.last.get tx = some v) (hr : storeA tb H ty za 0 v = some r) (hn : cellOk H za = true)
    (hR : ∀ a w K ρ b ru, a.tmps.size = n → a.defers = [] → FS g K ρ H w → EnvR K w ρ H s.last a.tmps → a.tmps[ta]? = some (.pointer (some ⟨b, 0, none⟩)) → ARel K w ρ H r ru → Blk g K ρ H w b ty ru.cells → R .normal a w) :
    ∀ (fuel : Nat) (listed : Array Bool) (a : Act) (w : World) (K : KK) (ρ : Nat → Value), (listed.toList.filter (! ·)).length = fuel → MidX P n g H ops' env Q s listed a w K ρ → BI g H ja js ta ty z.cells r listed a w K ρ →
    wpAny P .any ops.toArray R fuel listed a w := by
  have hlen : ops'.length = ops.length := by rw [hsh, shadowFrom_length]
  have hget : ∀ j, ops'[j]? = (ops[j]?).map fun o => shadowOp ja js t' n o j := by
    intro j; rw [hsh, shadowFrom_get]; simp
  have hzi : ∃ i, P.info? ty = some i ∧ i.zero = some z := by
    unfold Tab.zero at hz
    split at hz
    · rename_i ti hti
      obtain ⟨i, e1, _, _, e4, _⟩ := tab_info htb hti
      exact ⟨i, e1, by rw [e4]; exact hz⟩
    · cases hz
  obtain ⟨ti, hti, htz⟩ := hzi
  have hzr : ∀ (K : KK) (w : World) (ρ : Nat → Value), ARel K w ρ H za z := by
    intro K w ρ
    unfold zeroAV at hza
    split at hza
    · rename_i cs
      split at hza
      · rename_i ps hps
        simp only [Option.some.injEq] at hza; subst hza
        have hr := zeroPVs_rel (K := K) (w := w) hps
        have := PRel.agg ps cs.toList hr.1 (zeroPVs_one hps) hr.2
        exact .pv _ _ (by simpa using this)
      · cases hza
    · split at hza
      · rename_i ho
        simp only [Option.some.injEq] at hza; subst hza
        exact .pv _ _ (.base _ ho)
      · cases hza
  have hedges : ∀ j o, ops[j]? = some o → ∀ i, hasEdge (shadowOp ja js t' n o j) i = hasEdge o i := fun j o _ i => hasEdge_after shadowOp_after i
  have hjsl : js < ops.length := (List.getElem?_eq_some_iff.1 hos).1
  have hjal : ja < ops.length := (List.getElem?_eq_some_iff.1 hoa).1
  have fin : ∀ (listed : Array Bool) (a : Act) (w : World) (K : KK) (ρ : Nat → Value), (∀ j, j < ops.length → listed.getD j true = true) → MidX P n g H ops' env Q s listed a w K ρ → BI g H ja js ta ty z.cells r listed a w K ρ → R .normal a w := by
    intro listed a w K ρ hall hm hb
    obtain ⟨b, b1, b2⟩ := hb (hall ja hjal)
    rcases b2 with ⟨b2, _⟩ | ⟨_, ru, b3, b4⟩
    · rw [hall js hjsl] at b2; cases b2
    · exact hR a w K ρ b ru hm.size hm.defers hm.fs (hm.done (fun j hj => hall j (by omega))) b1 b3 b4
  intro fuel
  induction fuel with
  | zero =>
    intro listed a w K ρ hc hm hb
    have hall : ∀ j, j < ops.length → listed.getD j true = true := by
      intro j hj
      have hn := List.filter_eq_nil_iff.1 (List.eq_nil_of_length_eq_zero hc)
      have hlt : j < listed.size := by rw [hm.lsize, hlen]; exact hj
      have := hn listed[j] (by simp)
      simp only [Bool.not_eq_true', Bool.not_eq_false] at this
      rw [Array.getD_eq_getD_getElem?, Array.getElem?_eq_getElem hlt]
      simpa using this
    refine ⟨?_, fin listed a w K ρ hall hm hb⟩
    rw [List.eq_nil_iff_forall_not_mem]
    intro j hj
    obtain ⟨o, ho, hun, _⟩ := mem_ready_iff.1 hj
    rw [hall j (List.getElem?_eq_some_iff.1 ho).1] at hun; cases hun
  | succ fuel ih =>
    intro listed a w K ρ hc hm hb
    refine ⟨fun h0 => ?_, fun j hj => ?_⟩
    · -- nothing is ready: then all have come up
      refine fin listed a w K ρ (fun j hj => ?_) hm hb
      induction j using Nat.strongRecOn with
      | _ j ihj =>
        cases hun : listed.getD j true
        · exfalso
          have ho := List.getElem?_eq_getElem hj
          have : j ∈ Region.ready .any ops.toArray listed := mem_ready_iff.2 ⟨_, ho, hun, fun i hi => by
            have ho' : ops'[j]? = some (shadowOp ja js t' n ops[j] j) := by rw [hget, ho]; rfl
            have hij := (drawOk_at hB ho').2.1 i (by rw [hedges j _ ho]; exact hi)
            have hi2 := ihj i hij (by omega)
            have hlt : i < listed.size := by rw [hm.lsize, hlen]; omega
            rw [Array.getD_eq_getD_getElem?, Array.getElem?_eq_getElem hlt] at hi2 ⊢
            exact hi2⟩
          rw [h0] at this; cases this
        · rfl
    obtain ⟨o, ho, hun, hready⟩ := mem_ready_iff.1 hj
    have hjlt := (List.getElem?_eq_some_iff.1 ho).1
    have hjl : j < listed.size := by rw [hm.lsize, hlen]; exact hjlt
    have ho' : ops'[j]? = some (shadowOp ja js t' n o j) := by rw [hget, ho]; rfl
    have hready' : ∀ i, hasEdge (shadowOp ja js t' n o j) i = true → listed.getD i false = true := fun i hi => hready i (by rw [← hedges j o ho]; exact hi)
    have hcount := count_next hjl hun hc
    have hft : ∀ i, listed.getD i false = true → listed.getD i true = true := by
      intro i hi
      rw [Array.getD_eq_getD_getElem?] at hi ⊢
      cases h : listed[i]? with
      | none => rfl
      | some b => rw [h] at hi; exact hi
    have hrj : s.r[j]? = some (s.r[j]'(by rw [s.lenr, hlen]; exact hjlt)) := List.getElem?_eq_getElem _
    generalize s.r[j]'(by rw [s.lenr, hlen]; exact hjlt) = rj at hrj
    unfold wpOp
    simp only [List.getElem?_toArray, ho]
    have hBI_set : ∀ (j' : Nat), j' = j → j ≠ js → ∀ (a' : Act) (w' : World) (K' : KK), (∀ b, a.tmps[ta]? = some (.pointer (some ⟨b, 0, none⟩)) → a'.tmps[ta]? = some (.pointer (some ⟨b, 0, none⟩))) → Evo K K' w w' → j ≠ ja → BI g H ja js ta ty z.cells r (listed.setIfInBounds j true) a' w' K' ρ := by
      intro _ _ hjs a' w' K' hta' hev hja hl
      rw [getD_set_other (Ne.symm hja)] at hl
      obtain ⟨b, b1, b2⟩ := hb hl
      refine ⟨b, hta' b b1, ?_⟩
      rw [getD_set_other (Ne.symm hjs)]
      rcases b2 with ⟨e1, e2⟩ | ⟨e1, ru, e2, e3⟩
      · exact .inl ⟨e1, e2.evo hev⟩
      · exact .inr ⟨e1, ru, e2.later (hev.later hm.fs.lt), e3.evo hev⟩
    by_cases hja : j = ja
    · -- it is laid
      subst hja
      rw [hoa] at ho; cases ho
      have hw : Region.wanted oa (yielded ops.toArray a.tmps) = true := by simp [Region.wanted, hga]
      rw [if_pos hw]
      refine .inl ?_
      have hrun : (execOp a.eval oa).run P w = .ok (.value (.pointer (some ⟨w.heap.size, 0, none⟩))) (w.alloc (.cells z.cells ty)) := by
        simp [execOp, hopa, Instr.alloc, zeroValue, typeInfo, hti, htz, newVar, newRow]
      unfold Oper.wp
      rw [hrun]
      simp only [Oper.upon]
      have hev : Evo K K w (w.alloc (.cells z.cells ty)) := ⟨(Below.refl _ _).alloc (Nat.le_refl _) _, fun _ _ h => h, fun _ _ h => .inl h, fun b o h => by have := hm.fs.lt b o h; simp; omega⟩
      have hfs := hm.fs.evo hev
      have hbeq : Nat.beq j j = true := Nat.beq_refl j
      have hop : (shadowOp j js t' n oa j).op = .move (.tmp n) := by unfold shadowOp; rw [hbeq]
      have hds' : (shadowOp j js t' n oa j).dst = some ta := by rw [shadowOp_dst hne]; exact hda
      have hgs' : (shadowOp j js t' n oa j).guard = none := by rw [shadowOp_guard]; exact hga
      rw [hda]
      refine ih _ _ _ K ρ hcount (hm.next hB ho' hrj hds' hta hun hready' hfs (hev.later hm.fs.lt) (shadow_any a ho' hrj hop hgs' henv hfs _)) ?_
      intro _
      refine ⟨w.heap.size, by simp only [Act.put]; rw [Array.getElem?_setIfInBounds_self_of_lt (by rw [hm.size]; exact hta)], .inl ⟨?_, hm.fs.below.size, heap_alloc_new w _, fun o ho => by have := hm.fs.lt _ o ho; omega, fun k h hk hl hbk => ?_⟩⟩
      · rw [getD_set_other (Ne.symm hne)]
        cases hjs : listed.getD js true
        · rfl
        · have hos' : ops'[js]? = some (shadowOp j js t' n os js) := by rw [hget, hos]; rfl
          have := hft _ (hm.closed js _ hos' hjs j (by rw [hedges js os hos]; exact hea))
          rw [hun] at this; cases this
      · have := ((hm.fs.heap.ok k h hk).block_lt hl hbk).2
        omega
    by_cases hjs : j = js
    · -- it is written
      subst hjs
      rw [hos] at ho; cases ho
      have hw : Region.wanted os (yielded ops.toArray a.tmps) = true := by simp [Region.wanted, hgs]
      rw [if_pos hw]
      refine .inl ?_
      have hlja := hft _ (hready ja hea)
      obtain ⟨b, b1, b2⟩ := hb hlja
      have hblk : Blk g K ρ H w b ty z.cells := by
        rcases b2 with ⟨_, h⟩ | ⟨h, _⟩
        · exact h
        · rw [hun] at h; cases h
      obtain ⟨u, u1, u2⟩ := hm.early hB hox hdx (hft _ (hready jx hex)) hv
      obtain ⟨s1, s2, s3, ru, hru, hcells⟩ := storeA_rel hr (hzr K w ρ) u2 (row_one hm.fs) (cell_flat hm.fs (hzr K w ρ) hn)
      have hko : tb.k ty ≠ .oth := by intro e; simp [Tab.known, e] at hk
      have hs := run_sizeOf htb hko w
      have hst := run_storeCells_at P b 0 ty u.cells.toList 0 z.cells w hblk.heap (by simp; omega) s2
      have ha1 : a.eval (.tmp ta) = .pointer (some ⟨b, 0, none⟩) := by simp [Act.eval, Array.getD_eq_getD_getElem?, b1]
      have ha2 : a.eval (.tmp tx) = u := by simp [Act.eval, Array.getD_eq_getD_getElem?, u1]
      have hrun : (execOp a.eval os).run P w = .ok .skip (w.setRow b ru.cells) := by
        simp only [Nat.add_zero, Array.length_toList, s1] at hst
        rw [← hcells, Array.toArray_toList] at hst
        simp [execOp, hops, ha1, ha2, Instr.storeAt, Instr.sureAddr, storeVar, hs, s1, hst]
      unfold Oper.wp
      rw [hrun]
      simp only [Oper.upon]
      obtain ⟨f1, f2, f3⟩ := hblk.set (arr' := ru.cells) hm.fs
      have hbeq : Nat.beq j j = true := Nat.beq_refl j
      have hbne : Nat.beq j ja = false := by cases h : Nat.beq j ja; rfl; exact absurd (Nat.eq_of_beq_eq_true h) hja
      have hop : (shadowOp ja j t' n os j).op = .move (.tmp n) := by unfold shadowOp; rw [hbne, hbeq]
      have hds' : (shadowOp ja j t' n os j).dst = some t' := by unfold shadowOp; rw [hbne, hbeq]
      have hgs' : (shadowOp ja j t' n os j).guard = none := by rw [shadowOp_guard]; exact hgs
      have hd' : a.put os.dst undef = a := by rw [hds]; rfl
      rw [hd']
      refine ih _ _ _ K ρ hcount (hm.nop ho' hrj (fun u => shadow_any a ho' hrj hop hgs' henv f1 u) hds' ht' hun hready' f1 f3) ?_
      intro _
      exact ⟨b, b1, .inr ⟨getD_set_same hjl, ru, hru.later f3, f2⟩⟩
    · -- it only computes
      have hpure : shadowOp ja js t' n o j = o := shadowOp_pure hja hjs
      rw [hpure] at ho' hready'
      have hej : s.e[j]? = some (s.e[j]'(by rw [s.lene, hlen]; exact hjlt)) := List.getElem?_eq_getElem _
      generalize s.e[j]'(by rw [s.lene, hlen]; exact hjlt) = ej at hej
      obtain ⟨t, hd, ht, hor⟩ := s.ok j o rj ej ho' hrj hej
      have hreads := hm.mid.reads hB ho' hej hun hready' hm.hl hm.he
      have htta : t ≠ ta := by
        rintro rfl
        have hoa' : ops'[ja]? = some (shadowOp ja js t' n oa ja) := by rw [hget, hoa]; rfl
        have hda' : (shadowOp ja js t' n oa ja).dst = some t := by rw [shadowOp_dst hne]; exact hda
        exact (drawOk_at hB hoa').2.2.1 j o ho' hja (by rw [hd, hda'])
      have hkeep : ∀ v b, a.tmps[ta]? = some (.pointer (some ⟨b, 0, none⟩)) → (a.put (some t) v).tmps[ta]? = some (.pointer (some ⟨b, 0, none⟩)) := by
        intro v b h
        simp only [Act.put]; rw [Array.getElem?_setIfInBounds_ne htta]; exact h
      have hwanted : ∀ b, guardE ops' ej o = some b → Region.wanted o (yielded ops.toArray a.tmps) = b := by
        intro b hgb
        unfold guardE guardVar at hgb
        cases hg : o.guard with
        | none => simp [hg] at hgb; subst hgb; simp [Region.wanted, hg]
        | some x =>
          obtain ⟨jj, want⟩ := x
          have hjj' := hng j o jj want ho hg
          simp only [hg] at hgb
          cases hjj : ops[jj]? with
          | none => rw [hget, hjj] at hgb; simp at hgb
          | some o' =>
            have hS : ops'[jj]? = some (shadowOp ja js t' n o' jj) := by rw [hget, hjj]; rfl
            have hSd : (shadowOp ja js t' n o' jj).dst = o'.dst := shadowOp_dst hjj'
            simp only [hS] at hgb
            cases hd' : o'.dst with
            | none => rw [hSd, hd'] at hgb; simp at hgb
            | some t2 =>
              rw [hSd, hd'] at hgb
              simp only at hgb
              have hmem : t2 ∈ readsOf ops' o := by simp [readsOf, guardVar, hg, hS, hSd, hd']
              split at hgb
              · rename_i bb hbb
                simp only [Option.some.injEq] at hgb; subst hgb
                obtain ⟨v, v1, v2⟩ := hreads t2 hmem _ hbb
                cases v2 with
                | pv _ _ hp => cases hp; simp only [Region.wanted, hg, yielded, List.getElem?_toArray, hjj, Option.bind_some, hd', v1]; cases bb <;> cases want <;> rfl
              · rename_i vs hbb
                simp only [Option.some.injEq] at hgb; subst hgb
                obtain ⟨v, v1, v2⟩ := hreads t2 hmem _ hbb
                cases v2 with
                | pv _ _ hp => cases hp; simp only [Region.wanted, hg, yielded, List.getElem?_toArray, hjj, Option.bind_some, hd', v1]; cases want <;> rfl
              · cases hgb
      rcases hor with ⟨hgt, hqs⟩ | ⟨hgf, rfl⟩
      · rw [hwanted true hgt, if_pos rfl]
        refine .inl ?_
        unfold Oper.wp
        have hqr := hqs.go K ρ a w hm.fs (fun x hx av hxv => by
          cases x with
          | tmp t' =>
            obtain ⟨v, v1, v2⟩ := hreads t' (by
              unfold readsOf
              exact List.mem_append_left _ (mem_opTmps (Array.mem_toList_iff.2 hx))) av hxv
            simpa [Act.eval, Array.getD_eq_getD_getElem?, v1] using v2
          | const v =>
            simp only [Env.val] at hxv
            split at hxv
            · rename_i h1; simp only [Option.some.injEq] at hxv; subst hxv; exact .pv _ _ (.base v h1)
            · cases hxv
          | func f =>
            simp only [Env.val, Option.some.injEq] at hxv; subst hxv
            exact .pv _ _ (.fn (.func f) [] [] [] [] rfl rfl (by simp) (by simp))
          | global gg =>
            simp only [Env.val, Option.some.injEq] at hxv; subst hxv
            exact .pv _ _ (.base _ rfl))
        generalize (execOp a.eval o).run P w = res at hqr
        cases res with
        | halt x w' => simp only [QRes] at hqr
        | ok nx w' =>
          cases nx <;> simp only [QRes] at hqr <;> simp only [Oper.upon]
          case value v =>
            obtain ⟨K', hev, hv'⟩ := hqr
            rw [hd]
            exact ih _ _ _ K' ρ hcount (hm.next hB ho' hrj hd ht hun hready' (hm.fs.evo hev) (hev.later hm.fs.lt) hv') (hBI_set j rfl hjs _ _ _ (hkeep v) hev hja)
          case enter f args =>
            obtain ⟨rfl, hc'⟩ := hqr
            refine hc'.mono fun e w'' ⟨v, K', he', hev, hv'⟩ => ?_
            subst he'
            rw [hd]
            exact ih _ _ _ K' ρ hcount (hm.next hB ho' hrj hd ht hun hready' (hm.fs.evo hev) (hev.later hm.fs.lt) hv') (hBI_set j rfl hjs _ _ _ (hkeep v) hev hja)
      · rw [hwanted false hgf, if_neg (by simp)]
        rw [hd]
        exact ih _ _ _ K ρ hcount (hm.next hB ho' hrj hd ht hun hready' hm.fs (Later.refl _ _) undef_rel) (hBI_set j rfl hjs _ _ _ (hkeep undef) (.refl hm.fs.lt) hja)

def noGuardOn (js : Nat) (ops : List Oper) : Bool := ops.all fun o => match o.guard with | some (jj, _) => !Nat.beq jj js | none => true

theorem aw_draw_box {QQ : QC} {id : Nat} (i ja js t' : Nat) {ta tx : Nat} (jx : Nat) {oa os ox : Oper} {ty : TypeId} {z : Value} {za : AV} (htb : TabOK P tb) (hm : P.follows .mixedOrders = true) (hB : drawOk (shadowFrom ja js t' n ops 0) (shadowFrom ja js t' n ops 0) = true)
    (hoa : ops[ja]? = some oa) (hopa : oa.op = .alloc ty) (hda : oa.dst = some ta) (hta : Nat.blt ta n = true) (hga : oa.guard = none)
    (hos : ops[js]? = some os) (hops : os.op = .store ty (.tmp ta) (.tmp tx)) (hds : os.dst = none) (hgs : os.guard = none) (ht' : Nat.blt t' n = true)
    (hne : Nat.beq ja js = false) (hea : hasEdge os ja = true) (hex : hasEdge os jx = true) (hox : (shadowFrom ja js t' n ops 0)[jx]? = some ox) (hdx : ox.dst = some tx)
    (hng : noGuardOn js ops = true) (hz : tb.zero ty = some z) (hza : zeroAV z = some za) (hk : tb.known ty = true) (henv : env.get n = none) (hn : cellOk H za = true) (hi : H.get i = none)
    (h : AD P n g H (shadowFrom ja js t' n ops 0) (fun env' => ∃ v r, env'.get tx = some v ∧ storeA tb H ty za 0 v = some r ∧ QQ .normal ((ta, .box i 0) :: env') ((i, .cell r) :: H)) (shadowFrom ja js t' n ops 0) env) : AW P n g (.region id ops.toArray true) env H QQ := by
  obtain ⟨s⟩ := script_of h
  obtain ⟨v, r, hv, hr, hQ⟩ := s.fin
  have hlen : (shadowFrom ja js t' n ops 0).length = ops.length := shadowFrom_length ..
  refine ⟨fun a w hinv => ?_⟩
  refine wp_region_any hm ?_
  obtain ⟨h1, h2, K, ρ, hf, he⟩ := hinv
  have hev : Evo K K w { w with drawn := w.drawn + 1 } := (Evo.refl hf.lt).drew
  refine wpAny_blk (za := za) (v := v) (r := r) (ja := ja) (js := js) (t' := t') (jx := jx) htb rfl hB s hoa hopa hda (Nat.le_of_ble_eq_true hta) hga hos hops hds hgs (Nat.le_of_ble_eq_true ht') (Nat.ne_of_beq_eq_false hne) hea hex hox hdx ?_ hz hza hk henv hv hr hn ?_ _ _ a _ K ρ ?_ ⟨h1, h2, by simp [hlen], ?_, hf.evo hev, ?_, ?_⟩ ?_
  · intro j o jj want ho hg
    have := List.all_eq_true.1 hng o (List.mem_of_getElem? ho)
    simp only [hg, Bool.not_eq_true'] at this
    exact Nat.ne_of_beq_eq_false this
  · intro a' w' K' ρ' b ru q1 q2 q3 q4 q5 q6 q7
    have hown := q7.own q3 hi q6 rfl
    refine ⟨_, _, ⟨q1, q2, K', fun j => if j = i then .pointer (some ⟨b, 0, none⟩) else ρ' j, hown, ?_⟩, hQ⟩
    have he' := q4.keeps (Later.refl K' w') (fresh_keeps (ρ := ρ') hi (.cell r) (.pointer (some ⟨b, 0, none⟩)))
    intro t av hg
    simp only [Env.get_cons] at hg
    split at hg
    · rename_i e; subst e
      simp only [Option.some.injEq] at hg; subst hg
      exact ⟨_, q5, .box i 0 b (by simp [HEnv.get_cons]) (by simp)⟩
    · exact he' t av hg
  · simp
  · intro i o ho hli
    have hlt := (List.getElem?_eq_some_iff.1 ho).1
    have : i < ops.length := by omega
    simp [Array.getD_eq_getD_getElem?, this] at hli
  · intro i o ri t ho hli
    have hlt := (List.getElem?_eq_some_iff.1 ho).1
    have : i < ops.length := by omega
    simp [Array.getD_eq_getD_getElem?, this] at hli
  · intro t av hav _
    obtain ⟨v, v1, v2⟩ := he t av hav
    exact ⟨v, v1, v2.later (hev.later hf.lt)⟩
  · intro hl
    have hjal : ja < ops.length := (List.getElem?_eq_some_iff.1 hoa).1
    simp [Array.getD_eq_getD_getElem?, hjal] at hl
end
end Go.Cg
namespace Go.Cg
theorem q_slice_map {α : Type} {P : Program} {tb : Tab} {g : Base} {H : HEnv} {env : Env} {o : Oper} {f : α → PV} {xs : List α} {t e : TypeId} {x : Operand} {lo hi : Option Operand} {sz : Nat} {full : Bool} (l h : Nat) (htb : TabOK P tb) (hop : o.op = .slice t x lo hi none) (hk : tb.k t = .sl e) (hke : tb.known e = true) (hsz : tb.size e = sz) (hx : env.pv H x = some (.slc sz (xs.map f) full))
    (hlo : boundE env H 0 lo = some (l : Int)) (hhi : boundE env H (xs.map f).length hi = some (h : Int)) (h1 : l ≤ h) (h2 : h ≤ xs.length) : QStep P g H o env (.pv (.slc sz (((xs.take h).drop l).map f) false)) := by
  have := q_slice (g := g) htb hop hk hke hsz hx hlo hhi (by omega) (by omega) (by simp; omega)
  simpa [List.map_take, List.map_drop] using this

theorem q_int {P : Program} {tb : Tab} {g : Base} {H : HEnv} {env : Env} {o : Oper} {x : Int} (htb : TabOK P tb) (h : opE tb H env o = some (.pv (.base (.int .i64 (IntKind.i64.wrap x))))) (h1 : -9223372036854775808 ≤ x) (h2 : x ≤ 9223372036854775807) : QStep P g H o env (.pv (.base (.int .i64 x))) := by
  rw [wrap_in h1 h2] at h
  exact opE_sound htb h
end Go.Cg
/- Calls that hand back a row of the caller's own from then on. -/
namespace Go.Cg
open Go.RowKit

structure ACallR (P : Program) (f : FuncId) (args : List PV) (e : TypeId) (sz : Nat) (es : List PV) : Prop where
  stands : Stands P f
  calls : ∀ (K : KK) (w : World) (vs : List Value), (∀ b o, K b o → b < w.heap.size) → PRels K w args vs →
    Calls P f vs.toArray w fun ex w' => ∃ v K' xs, ex = .returned v ∧ Evo K K' w w' ∧ w'.ownsRow w.heap.size e sz v es.length xs ∧ CellsRel K' w' sz es xs ∧ (∀ b, v.ownBlock = some b → ∀ o, K' b o ↔ o < es.length * sz)

section
variable {P : Program} {tb : Tab} {n : Nat} {g : Base} {H : HEnv} {env : Env} {ops : List Oper} {o : Oper} {rest : List Oper} {Q : Env → HEnv → Prop}

theorem ownsRow_lower {w : World} {B B' : Nat} {e : TypeId} {sz : Nat} {v : Value} {n : Nat} {xs : List Value} (hB : B' ≤ B) (h : w.ownsRow B e sz v n xs) : w.ownsRow B' e sz v n xs := by
  obtain ⟨h1, h2⟩ := h
  refine ⟨h1, h2.imp id ?_⟩
  rintro ⟨g, cap, cur, a, b, c⟩
  exact ⟨g, cap, cur, a, Nat.le_trans hB b, c⟩

theorem ao_callR {xs : Array Operand} {ts : Array TypeId} {f : FuncId} {args es : List PV} {e : TypeId} {sz t : Nat} (i : Nat) (hg : guardE ops env o = some true) (hop : o.op = .call { callee := .value (.func f), args := xs, argTypes := ts }) (hargs : pvs env H xs.toList = some args)
    (hc : ACallR P f args e sz es) (h0 : 0 < sz) (hi : H.get i = none) (hd : o.dst = some t) (ht : Nat.blt t n = true)
    (h : AO P n g ops.toArray rest ((t, .own i) :: env) ((i, .row e sz es) :: H) Q) : AO P n g ops.toArray (o :: rest) env H Q := by
  refine ⟨fun a w hinv => ?_⟩
  have hw := wanted_of hinv hg
  obtain ⟨h1, h2, K, ρ, hf, he⟩ := hinv
  refine wpList_step fun KK hKK => ?_
  rw [if_pos hw]
  have hp := pvs_rel hf (a := a) (xs := xs.toList) (fun x hx av hxx => val_rel he hxx) hargs
  have hrun : (execOp a.eval o).run P w = .ok (.enter f (xs.toList.map a.eval).toArray) w := by
    have e : (xs.toList.map a.eval).toArray = xs.map a.eval := by rw [← Array.toList_map, Array.toArray_toList]
    rw [e]
    simp [execOp, hop, resolve, Act.eval, Deferred.ofValue, invoke, call_run hc.stands]
  unfold Oper.wp
  rw [hrun]
  simp only [Oper.upon]
  refine (hc.calls K w _ hf.lt hp).mono ?_
  rintro ex w'' ⟨v, K', us, rfl, hev, hown, hcr, hk⟩
  have hlow := ownsRow_lower hf.below.size hown
  refine hKK _ _ (h.go _ _ ⟨put_size h1, put_defers h2, K', fun j => if j = i then v else ρ j, hf.fresh hev hi ⟨us, by simpa using hlow, h0, hcr, by simpa using hk⟩ ?_, ?_⟩)
  · intro b hb
    refine (hown.lt b ?_).1
    rcases hown.2 with ⟨rfl, _⟩ | ⟨g, _, _, rfl, _⟩
    · simp [blockOf] at hb
    · simpa [blockOf, Value.ownBlock] using hb
  · rw [hd]
    refine env_put h1 ht (he.keeps (hev.later hf.lt) (fresh_keeps hi _ _)) ?_
    have := ARel.own (K := K') (w := w'') (ρ := fun j => if j = i then v else ρ j) (H := (i, HE.row e sz es) :: H) i (by simp [HEnv.get_nil, HEnv.get_cons])
    simpa using this

/-- An empty literal is a row of the call's own. -/
theorem ao_slice0 (htb : TabOK P tb) {t e d : Nat} {parts : Array (Nat × Operand)} (i : Nat) (hg : guardE ops env o = some true) (hop : o.op = .buildSlice t 0 parts) (hp : parts = #[]) (hk : tb.k t = .sl e) (hke : tb.known e = true) (hsz : Nat.blt 0 (tb.size e) = true) (hi : H.get i = none) (hd : o.dst = some d) (ht : Nat.blt d n = true)
    (h : AO P n g ops.toArray rest ((d, .own i) :: env) ((i, .row e (tb.size e) []) :: H) Q) : AO P n g ops.toArray (o :: rest) env H Q := by
  refine ⟨fun a w hinv => ?_⟩
  have hw := wanted_of hinv hg
  obtain ⟨h1, h2, K, ρ, hf, he⟩ := hinv
  refine wpList_step fun KK hKK => ?_
  rw [if_pos hw]
  subst hp
  have hko : tb.k e ≠ .oth := by intro h; simp [Tab.known, h] at hke
  have hs := run_sizeOf htb hko w
  have hrun : (execOp a.eval o).run P w = .ok (.value (.slice (some ⟨w.heap.size, 0, none⟩) 0 0)) (w.alloc (.cells #[] e)) := by
    have e0 : Array.range 0 = #[] := Array.eq_empty_of_size_eq_zero (by simp)
    simp [execOp, hop, Instr.buildSlice, run_underlying (tab_sl htb hk), hs, Instr.fill, newRow, e0]
  unfold Oper.wp
  rw [hrun]
  simp only [Oper.upon]
  have hev : Evo K K w (w.alloc (.cells #[] e)) := ⟨(Below.refl _ _).alloc (Nat.le_refl _) _, fun _ _ h => h, fun _ _ h => .inl h, fun b o h => by have := hf.lt b o h; simp; omega⟩
  refine hKK _ _ (h.go _ _ ⟨put_size h1, put_defers h2, K, fun j => if j = i then .slice (some ⟨w.heap.size, 0, none⟩) 0 0 else ρ j, hf.fresh hev hi ⟨[], ⟨by simp, .inr ⟨w.heap.size, 0, #[], by simp, hf.below.size, heap_alloc_new w _, Nat.le_refl _, by simp [maxLen], by simp, by simp⟩⟩, Nat.le_of_ble_eq_true hsz, fun i e h => by simp at h, ?_⟩ (by simp [blockOf]), ?_⟩)
  · intro b hb o
    simp [Value.ownBlock] at hb
    subst hb
    refine ⟨fun h => ?_, fun h => by simp at h⟩
    have := hf.lt _ _ h
    omega
  · rw [hd]
    refine env_put h1 ht (he.keeps (hev.later hf.lt) (fresh_keeps hi _ _)) ?_
    have := ARel.own (K := K) (w := w.alloc (.cells #[] e)) (ρ := fun j => if j = i then .slice (some ⟨w.heap.size, 0, none⟩) 0 0 else ρ j) (H := (i, HE.row e (tb.size e) []) :: H) i (by simp [HEnv.get_nil, HEnv.get_cons])
    simpa using this

/-- The end of a body that hands back a row of its own. -/
def RetR (t : Nat) (e : TypeId) (sz : Nat) (es : List PV) : QC := fun ex env H => (ex = .normal ∨ ex = .ret) ∧ ∃ i, env.get t = some (.own i) ∧ H.get i = some (.row e sz es)

theorem acallR_intro {fn : Func} {c : Code} {f : FuncId} {args : List PV} {t : Nat} {e : TypeId} {sz : Nat} {es : List PV} (hf : P.funcs[f]? = some fn) (hb : fn.body = some c) (hn : (fn.name == "runtime.NumGoroutine") = false) (hnt : fn.ntmps = n) (hargs : args.length ≤ n)
    (hrs : fn.results.toList = [.tmp t]) (h : lensOk args → ∀ g, AW P n g c (argsE 0 args) [] (RetR t e sz es)) : ACallR P f args e sz es := by
  refine ⟨⟨fn, hf, by simp [hb], hn⟩, fun K w vs hl hv => ?_⟩
  refine calls_of_wp hf hb ?_
  have hlen : vs.length = args.length := hv.1
  refine wp_mono ((h hv.lensOk ⟨w, K⟩).go _ w ⟨by simp [hnt]; omega, rfl, K, fun _ => undef, ⟨.refl _ _, fun _ _ h => h, fun _ _ h => .inl h, hl, ⟨by simp [HEnv.get_nil, HEnv.get_cons], by simp [HEnv.get_nil, HEnv.get_cons]⟩⟩, ?_⟩) ?_
  · intro t av hg
    obtain ⟨_, p, hp, rfl⟩ := argsE_get args 0 t av hg
    have hlt : t < vs.length := by rw [hlen]; exact (List.getElem?_eq_some_iff.1 hp).1
    refine ⟨vs[t], ?_, .pv _ _ (hv.2 t p _ hp (List.getElem?_eq_getElem hlt))⟩
    rw [Array.getElem?_append_left (by simpa using hlt)]
    simp [hlt]
  · rintro ex a' w' ⟨env1, H', hi, he, i, hgi, hHi⟩
    obtain ⟨_, h2, K', ρ', hf', he0⟩ := hi
    obtain ⟨v, v1, v2⟩ := he0 t _ hgi
    cases v2
    obtain ⟨xs, hown, hsz, hcr, hk⟩ := hf'.heap.ok i _ hHi
    have hev : Evo K K' w w' := ⟨hf'.below, hf'.old, hf'.new, hf'.lt⟩
    have hres : (results fn a'.tmps).run P w' = .ok (ρ' i) w' := by
      unfold results
      rw [Array.mapM_eq_mapM_toList, hrs]
      simp [Array.getD_eq_getD_getElem?, v1]
    rcases he with rfl | rfl
    · exact ⟨h2, _, hres, _, K', xs, rfl, hev, hown, hcr, hk⟩
    · exact ⟨h2, _, hres, _, K', xs, rfl, hev, hown, hcr, hk⟩
end
end Go.Cg
