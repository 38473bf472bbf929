/- Texts and slices: an element, a part; append where there is no room; is it nil? -/
import Derived.Test.YtkbdoobcgifaaaaDraw
import Derived.WalkSpells
namespace Go.Cg
open Go.RowKit

section
variable {P : Program} {tb : Tab} {n : Nat} {g : Base} {K K' : KK} {w w' : World} {ρ ρ' : Nat → Value} {H H' : HEnv} {env : Env} {a : Act} {ops : List Oper} {o : Oper} {rest : List Oper} {Q : Env → HEnv → Prop} {QQ : QC} {c : Code}

/-- A byte of a text. -/
theorem q_strix {t : TypeId} {x i : Operand} {s : ByteArray} {k : IntKind} {m : Int} {b : UInt8} (htb : TabOK P tb) (hop : o.op = .index t x i) (hk : tb.k t = .str) (hx : env.pv H x = some (.base (.string s))) (hi : env.pv H i = some (.base (.int k m))) (h0 : 0 ≤ m) (hb : s[m.toNat]? = some b) :
    QStep P g H o env (.pv (.base (.int .u8 b.toNat))) := by
  refine ⟨fun K ρ a w hf hv => ?_⟩
  have hxr := opE_pv hf (hv x (by rw [hop]; simp [Op.operands])) hx
  have hir := opE_pv hf (hv i (by rw [hop]; simp [Op.operands])) hi
  generalize hxv : a.eval x = xv at hxr
  generalize hiv : a.eval i = iv at hir
  cases hir; cases hxr
  have : (execOp a.eval o).run P w = .ok (.value (.int .u8 b.toNat)) w := by
    simp [execOp, hop, hxv, hiv, Instr.index, asIntOf, run_underlying (tab_str htb hk), h0, hb]
  rw [this]
  exact qval hf (.pv _ _ (.base _ rfl))

/-- A bound of a slice expression: there, or not. -/
def boundE (env : Env) (H : HEnv) (d : Int) : Option Operand → Option Int
  | none => some d
  | some x => match env.pv H x with | some (.base (.int _ m)) => some m | _ => none

theorem bound_run (hf : FS g K ρ H w) {x : Option Operand} {d m : Int} (hv : ∀ y ∈ x.toArray, ∀ av, env.val y = some av → ARel K w ρ H av (a.eval y)) (h : boundE env H d x = some m) :
    (x = none ∧ m = d) ∨ ∃ y k, x = some y ∧ a.eval y = .int k m := by
  cases x with
  | none => simp [boundE] at h; exact .inl ⟨rfl, h.symm⟩
  | some y =>
    simp only [boundE] at h
    split at h
    · rename_i k m' hm
      simp only [Option.some.injEq] at h; subst h
      have := opE_pv hf (hv y (by simp)) hm
      generalize hyv : a.eval y = yv at this
      cases this
      exact .inr ⟨y, k, rfl, hyv⟩
    · cases h

/-- A part of a text. -/
theorem q_slice_str {t : TypeId} {x : Operand} {lo hi : Option Operand} {s : ByteArray} {l h : Int} (htb : TabOK P tb) (hop : o.op = .slice t x lo hi none) (hk : tb.k t = .str) (hx : env.pv H x = some (.base (.string s))) (hlo : boundE env H 0 lo = some l) (hhi : boundE env H s.size hi = some h)
    (h0 : 0 ≤ l) (h1 : l ≤ h) (h2 : h ≤ s.size) : QStep P g H o env (.pv (.base (.string (s.extract l.toNat h.toNat)))) := by
  refine ⟨fun K ρ a w hf hv => ?_⟩
  have hxr := opE_pv hf (hv x (by rw [hop]; simp [Op.operands])) hx
  generalize hxv : a.eval x = xv at hxr
  cases hxr with
  | base _ hok =>
  have el := bound_run (a := a) hf (x := lo) (fun y hy => hv y (by rw [hop]; simp [Op.operands] at hy ⊢; exact .inr (.inl hy))) hlo
  have eh := bound_run (a := a) hf (x := hi) (fun y hy => hv y (by rw [hop]; simp [Op.operands] at hy ⊢; exact .inr (.inr hy))) hhi
  have hh : h ≤ ((s.size : Nat) : Int) := h2
  have hh0 : 0 ≤ h := by omega
  have hlh : l ≤ ((h.toNat : Nat) : Int) := by omega
  have hrun : (execOp a.eval o).run P w = .ok (.value (.string (s.extract l.toNat h.toNat))) w := by
    rcases el with ⟨rfl, rfl⟩ | ⟨y, k, rfl, hy⟩ <;> rcases eh with ⟨rfl, rfl⟩ | ⟨z, k', rfl, hz⟩
    · simp [execOp, hop, hxv, Instr.sliceAt, Instr.slice, Instr.sliceBounds, run_underlying (tab_str htb hk)]
    · simp [execOp, hop, hxv, hz, Instr.sliceAt, Instr.slice, Instr.sliceBounds, Instr.sliceBound, asIntOf, run_underlying (tab_str htb hk), hh, hh0]
    · simp [execOp, hop, hxv, hy, Instr.sliceAt, Instr.slice, Instr.sliceBounds, Instr.sliceBound, asIntOf, run_underlying (tab_str htb hk), h0, h1]
    · simp [execOp, hop, hxv, hy, hz, Instr.sliceAt, Instr.slice, Instr.sliceBounds, Instr.sliceBound, asIntOf, run_underlying (tab_str htb hk), h0, hlh, hh, hh0]
      intro hc; omega
  rw [hrun]
  refine qval hf (.pv _ _ (.base _ ?_))
  simp only [baseOk, decide_eq_true_eq] at hok ⊢
  simp only [ByteArray.size_extract]
  omega

theorem q_slice0 {t e : TypeId} {parts : Array (Nat × Operand)} (htb : TabOK P tb) (hop : o.op = .buildSlice t 0 parts) (hp : parts = #[]) (hk : tb.k t = .sl e) (hke : tb.known e = true) (hsz : Nat.blt 0 (tb.size e) = true) : QStep P g H o env (.pv (.slc (tb.size e) [] true)) := by
  refine ⟨fun K ρ a w hf hv => ?_⟩
  subst hp
  have hko : tb.k e ≠ .oth := by intro h; simp [Tab.known, h] at hke
  have hs := run_sizeOf htb hko w
  have hrun : (execOp a.eval o).run P w = .ok (.value (.slice (some ⟨w.heap.size, 0, none⟩) 0 0)) (w.alloc (.cells #[] e)) := by
    have e0 : Array.range 0 = #[] := Array.eq_empty_of_size_eq_zero (by simp)
    simp [execOp, hop, Instr.buildSlice, run_underlying (tab_sl htb hk), hs, Instr.fill, newRow, e0]
  rw [hrun]
  refine ⟨_, evo_alloc hf.lt #[] e 0, .pv _ _ ?_⟩
  have := PRel.slc (K := withNew K w 0) (w := w.alloc (.cells #[] e)) (tb.size e) [] true w.heap.size 0 0 (fun _ => []) (Nat.le_of_ble_eq_true hsz) (Nat.le_refl _) (fun _ => rfl) (by simp [maxLen]) (by simp [maxLen]) (fun i e h => by simp at h) (fun i e k c v h => by simp at h)
  exact this

/-- A part of a slice. -/
theorem q_slice {t e : TypeId} {x : Operand} {lo hi : Option Operand} {sz : Nat} {es : List PV} {full : Bool} {l h : Int} (htb : TabOK P tb) (hop : o.op = .slice t x lo hi none) (hk : tb.k t = .sl e) (hke : tb.known e = true) (hsz : tb.size e = sz) (hx : env.pv H x = some (.slc sz es full))
    (hlo : boundE env H 0 lo = some l) (hhi : boundE env H es.length hi = some h) (h0 : 0 ≤ l) (h1 : l ≤ h) (h2 : h ≤ es.length) : QStep P g H o env (.pv (.slc sz ((es.take h.toNat).drop l.toNat) false)) := by
  refine ⟨fun K ρ a w hf hv => ?_⟩
  have hxr := opE_pv hf (hv x (by rw [hop]; simp [Op.operands])) hx
  generalize hxv : a.eval x = xv at hxr
  have el := bound_run (a := a) hf (x := lo) (fun y hy => hv y (by rw [hop]; simp [Op.operands] at hy ⊢; exact .inr (.inl hy))) hlo
  have eh := bound_run (a := a) hf (x := hi) (fun y hy => hv y (by rw [hop]; simp [Op.operands] at hy ⊢; exact .inr (.inr hy))) hhi
  have hko : tb.k e ≠ .oth := by intro h; simp [Tab.known, h] at hke
  have hs := run_sizeOf htb hko w
  have hh0 : 0 ≤ h := by omega
  have hlh : l ≤ ((h.toNat : Nat) : Int) := by omega
  have bounds : ∀ cap : Nat, es.length ≤ cap → (Instr.sliceBounds true es.length cap (lo.map a.eval) (hi.map a.eval) none).run P w = .ok (l.toNat, h.toNat, cap) w := by
    intro cap hcap
    have hhc : h ≤ (cap : Int) := by omega
    rcases el with ⟨rfl, rfl⟩ | ⟨y, k, rfl, hy⟩ <;> rcases eh with ⟨rfl, rfl⟩ | ⟨z, k', rfl, hz⟩
    · simp [Instr.sliceBounds]
    · simp [hz, Instr.sliceBounds, Instr.sliceBound, asIntOf, hhc, hh0]
    · simp [hy, Instr.sliceBounds, Instr.sliceBound, asIntOf, h0, h1]
    · simp [hy, hz, Instr.sliceBounds, Instr.sliceBound, asIntOf, h0, hlh, hhc, hh0]
      intro hc; omega
  cases hxr with
  | nil =>
    simp only [List.length_nil, Int.natCast_zero] at h2 bounds
    have e1 : l = 0 := by omega
    have e2 : h = 0 := by omega
    subst e1 e2
    have hrun : (execOp a.eval o).run P w = .ok (.value (.slice none 0 0)) w := by
      have := bounds 0 (Nat.le_refl _)
      simp [execOp, hop, hxv, Instr.sliceAt, Instr.slice, run_underlying (tab_sl htb hk), this, hs]
    rw [hrun]
    exact qval hf (.pv _ _ (by simpa using PRel.nil (K := K) (w := w) sz false))
  | emp _ _ ad =>
    simp only [List.length_nil, Int.natCast_zero] at h2 bounds
    have e1 : l = 0 := by omega
    have e2 : h = 0 := by omega
    subst e1 e2
    have hrun : (execOp a.eval o).run P w = .ok (.value (.slice (some ad) 0 0)) w := by
      have := bounds 0 (Nat.le_refl _)
      simp [execOp, hop, hxv, Instr.sliceAt, Instr.slice, run_underlying (tab_sl htb hk), this, hs]
    rw [hrun]
    exact qval hf (.pv _ _ (by simpa using PRel.emp (K := K) (w := w) sz false ad))
  | slc _ _ _ b off cap vss q0 q1 q2 q3 q4 q5 q6 =>
    have hb := bounds cap q1
    have hlen : ((es.take h.toNat).drop l.toNat).length = h.toNat - l.toNat := by simp; omega
    have hget : ∀ i e, ((es.take h.toNat).drop l.toNat)[i]? = some e → es[l.toNat + i]? = some e := by
      intro i e he
      rw [List.getElem?_drop, List.getElem?_take] at he
      split at he
      · exact he
      · cases he
    have hrun : (execOp a.eval o).run P w = .ok (.value (.slice (if cap = l.toNat then some ⟨b, off, none⟩ else some ⟨b, off + l.toNat * sz, none⟩) (h.toNat - l.toNat) (cap - l.toNat))) w := by
      simp [execOp, hop, hxv, Instr.sliceAt, Instr.slice, run_underlying (tab_sl htb hk), hb, hs, hsz, Addr.add_lit]
    rw [hrun]
    refine qval hf (.pv _ _ ?_)
    have key : ∀ off', (off' = off + l.toNat * sz ∨ h.toNat - l.toNat = 0) → PRel K w (.slc sz ((es.take h.toNat).drop l.toNat) false) (.slice (some ⟨b, off', none⟩) (h.toNat - l.toNat) (cap - l.toNat)) := by
      intro off' hoff
      have := PRel.slc (K := K) (w := w) sz ((es.take h.toNat).drop l.toNat) false b off' (cap - l.toNat) (fun i => vss (l.toNat + i)) q0 (by rw [hlen]; omega) (by simp) (by rw [hlen]; omega) (by omega)
        (fun i e he => by
          have he' := hget i e he
          obtain ⟨r1, r2, r3⟩ := q5 _ e he'
          refine ⟨r1, r2, ?_⟩
          rcases hoff with rfl | hz
          · rw [Nat.add_assoc, ← Nat.add_mul]; exact r3
          · have := (List.getElem?_eq_some_iff.1 he).1; rw [hlen] at this; omega)
        (fun i e k c v he => q6 _ e k c v (hget i e he))
      rw [hlen] at this
      exact this
    split
    · rename_i hcl
      exact key off (.inr (by omega))
    · exact key _ (.inl rfl)

/-- append onto a slice that has no room, or onto none: a new one. -/
theorem q_append {ty e : TypeId} {x y : Operand} {sz : Nat} {es xs : List PV} {full : Bool} (htb : TabOK P tb) (hop : o.op = .call { callee := .builtin .append, args := #[x, y], argTypes := #[ty, ty] }) (hk : tb.k ty = .sl e)
    (hx : env.pv H x = some (.slc sz es true) ∨ (es = [] ∧ env.pv H x = some (.base (.slice none 0 0)))) (hy : env.pv H y = some (.slc sz xs full))
    (hzz : (match tb.get e with | some ti => (match ti.zero with | some z => ti.size == sz && z.cells.size == sz && Nat.blt 0 sz | none => false) | none => false) = true)
    (hbound : (es.length + xs.length) * (match tb.get e with | some ti => ti.bytes | none => 0) ≤ 140737488355328) (hb2 : es.length + xs.length ≤ 140737488355328) : QStep P g H o env (.pv (.slc sz (es ++ xs) false)) := by
  refine ⟨fun K ρ a w hf hv => ?_⟩
  cases hti : tb.get e with
  | none => simp [hti] at hzz
  | some ti =>
    cases hz : ti.zero with
    | none => simp [hti, hz] at hzz
    | some z =>
      simp only [hti, hz, Bool.and_eq_true, beq_iff_eq] at hzz hbound
      obtain ⟨⟨z1, z2⟩, z3⟩ := hzz
      have hsz : 0 < sz := Nat.le_of_ble_eq_true z3
      obtain ⟨tin, q1, q2, q3, q4, _⟩ := tab_info htb hti
      have hyr := opE_pv hf (hv y (by rw [hop]; simp [Op.operands, Call.operands])) hy
      obtain ⟨news, n1, n2, n3, n4, n5⟩ := slc_flat hyr
      -- the slice, as a list of its cells
      have hxr : PRel K w (.slc sz es true) (a.eval x) := by
        rcases hx with hx | ⟨rfl, hx⟩
        · exact opE_pv hf (hv x (by rw [hop]; simp [Op.operands, Call.operands])) hx
        · have := opE_pv hf (hv x (by rw [hop]; simp [Op.operands, Call.operands])) hx
          generalize a.eval x = xv at this ⊢
          cases this
          exact .nil sz true
      obtain ⟨us, m1, m2, m3, m4, m5⟩ := slc_flat hxr
      have hall : (us ++ news).length = (es.length + xs.length) * sz := by rw [List.length_append, m1, n1, Nat.add_mul]
      have hone : ∀ v ∈ us ++ news, v.oneCell' = true := fun v hv' => (List.mem_append.1 hv').elim (m3 v) (n3 v)
      have hcr := m4.append m1 n4
      -- what a new block with all cells gives
      have fin : ∀ (w2 : World) (cap : Nat) (junk : List Value), Evo K K w w2 → es.length + xs.length ≤ cap → cap ≤ maxLen → ∀ (w3 : World) (arr : Array Value), arr = (us ++ news ++ junk).toArray → w3 = w2.alloc (.cells arr e) →
          ∃ K', Evo K K' w w3 ∧ PRel K' w3 (.slc sz (es ++ xs) false) (.slice (some ⟨w2.heap.size, 0, none⟩) (es.length + xs.length) cap) := by
        rintro w2 cap junk hev hc1 hc2 w3 arr rfl rfl
        have hlt2 : ∀ b o, K b o → b < w2.heap.size := hev.lt
        have h3 := evo_alloc hlt2 (us ++ news ++ junk).toArray e ((us ++ news).length)
        refine ⟨_, hev.trans h3, ?_⟩
        have hlat := (hev.trans h3).later hf.lt
        have hcell : ∀ j v, (us ++ news)[j]? = some v → withNew K w2 (us ++ news).length w2.heap.size j ∧ (w2.alloc (.cells (us ++ news ++ junk).toArray e)).cell? ⟨w2.heap.size, j, none⟩ = some v := by
          intro j v hj
          have hjl := (List.getElem?_eq_some_iff.1 hj).1
          refine ⟨.inr ⟨rfl, hjl⟩, ?_⟩
          rw [World.cell?_alloc_new]
          simp only [List.getElem?_toArray]
          rw [List.getElem?_append_left hjl]; exact hj
        have := PRel.slc (K := withNew K w2 (us ++ news).length) (w := w2.alloc (.cells (us ++ news ++ junk).toArray e)) sz (es ++ xs) false w2.heap.size 0 cap (fun i => ((us ++ news).drop (i * sz)).take sz) hsz (by rw [List.length_append]; exact hc1) (by simp) (by rw [List.length_append]; unfold maxLen; omega) hc2
          (fun i e' he => by
            obtain ⟨r1, r2⟩ := hcr i e' he
            have hi := (List.getElem?_eq_some_iff.1 he).1
            rw [List.length_append] at hi
            have hil := Nat.mul_le_mul_right sz (show i + 1 ≤ es.length + xs.length by omega)
            rw [Nat.add_mul] at hil
            refine ⟨r1, by simp only [List.length_take, List.length_drop]; omega, ?_⟩
            intro k v hv'
            rw [List.getElem?_take] at hv'
            split at hv'
            · rw [List.getElem?_drop] at hv'
              obtain ⟨c1, c2⟩ := hcell _ v hv'
              rw [Nat.zero_add]
              exact ⟨c1, c2, hone v (List.mem_of_getElem? hv')⟩
            · cases hv')
          (fun i e' k c v he hc hv' => by
            obtain ⟨r1, r2⟩ := hcr i e' he
            obtain ⟨v', e1, _, e3⟩ := r2 k c hc
            rw [List.getElem?_take] at hv'
            split at hv'
            · rw [List.getElem?_drop, e1] at hv'
              cases hv'
              exact e3.later hlat
            · cases hv')
        rw [show (es ++ xs).length = es.length + xs.length from List.length_append] at this
        exact this
      have hsmall : es.length + xs.length ≤ 9223372036854775807 := by omega
      have hrun0 : ∀ {v' : Value} {w' : World}, (Builtin.append_ #[ty, ty] o.type #[a.eval x, a.eval y]).run P w = .ok v' w' → (execOp a.eval o).run P w = .ok (.value v') w' := by
        intro v' w' h
        simp [execOp, hop, resolve, invoke, builtin, h]
      have hcapmax : ∀ need old, need ≤ 9223372036854775807 → grownCap w need old e ≤ maxLen := fun need old h => grownCap_le_maxLen w need old e (by unfold maxLen; omega)
      have hevd : Evo K K w w.drew := (Evo.refl hf.lt).drew
      rcases n2 with ⟨hy0, hxl⟩ | ⟨ad', c', hy1, hy2, _, hxc⟩
      · -- nothing is appended
        have hxs : xs = [] := List.eq_nil_of_length_eq_zero hxl
        subst hxs
        have hrun : (Builtin.append_ #[ty, ty] o.type #[a.eval x, a.eval y]).run P w = .ok (a.eval x) w := by
          rcases m2 with ⟨e1, _⟩ | ⟨ad1, c1, e1, _, _, hle⟩
          · rw [e1, hy0]; simp [Builtin.append_, run_underlying (tab_sl htb hk), sizeOf, typeInfo, q1, Builtin.lenOf, Builtin.firstCells]
          · rw [e1, hy0]; simp [Builtin.append_, run_underlying (tab_sl htb hk), sizeOf, typeInfo, q1, Builtin.lenOf, Builtin.firstCells, hle, storeCells]
        rw [hrun0 hrun]
        refine qval hf ?_
        rw [List.append_nil]
        exact tells_full sz es true _ _ ρ H _ (.pv _ _ hxr)
      · by_cases hx0 : xs.length = 0
        · have hxs : xs = [] := List.eq_nil_of_length_eq_zero hx0
          subst hxs
          have hnews : news = [] := List.eq_nil_of_length_eq_zero (by simpa using n1)
          have hrun : (Builtin.append_ #[ty, ty] o.type #[a.eval x, a.eval y]).run P w = .ok (a.eval x) w := by
            rcases m2 with ⟨e1, _⟩ | ⟨ad1, c1, e1, _, _, hle⟩
            · rw [e1, hy1]; simp [Builtin.append_, run_underlying (tab_sl htb hk), sizeOf, typeInfo, q1, Builtin.lenOf, Builtin.firstCells, loadCells, loadCellsFrom]
            · rw [e1, hy1]; simp [Builtin.append_, run_underlying (tab_sl htb hk), sizeOf, typeInfo, q1, Builtin.lenOf, Builtin.firstCells, hle, storeCells, loadCells, loadCellsFrom]
          rw [hrun0 hrun]
          refine qval hf ?_
          rw [List.append_nil]
          exact tells_full sz es true _ _ ρ H _ (.pv _ _ hxr)
        · have hns : tin.size = sz := by omega
          rcases m2 with ⟨e1, hel⟩ | ⟨ad1, c1, e1, e2, hfull, hle⟩
          · have hes : es = [] := List.eq_nil_of_length_eq_zero hel
            subst hes
            have hus : us = [] := List.eq_nil_of_length_eq_zero (by simpa using m1)
            subst hus
            have hr := run_append_nil (P := P) w ty o.type e tin z (tab_sl htb hk) q1 (by rw [q4]; exact hz) ad' xs.length c' news (by rw [hns]; exact n1) hy2 (by omega) (by simp at hsmall; omega) (by rw [q3]; simp at hbound; omega)
            rw [hrun0 (by rw [e1, hy1]; exact hr)]
            obtain ⟨K', f1, f2⟩ := fin w.drew (grownCap w xs.length 0 e) (Builtin.zeroCells z.cells (grownCap w xs.length 0 e - xs.length)).toList hevd (by simpa using grownCap_ge w xs.length 0 e) (hcapmax _ _ (by simp at hsmall; omega)) _ (news.toArray ++ Builtin.zeroCells z.cells (grownCap w xs.length 0 e - xs.length)) (by apply Array.ext'; simp) rfl
            refine ⟨K', ?_, .pv _ _ ?_⟩
            · simpa using f1
            · simpa using f2
          · have hc1 : c1 = es.length := hfull rfl
            subst hc1
            have hr := run_append_grow (P := P) w ty o.type e tin z (tab_sl htb hk) q1 (by rw [q4]; exact hz) ad1 es.length es.length us (by rw [hns]; exact m1) e2 ad' xs.length c' news (by rw [hns]; exact n1) hy2 (by omega) (by omega) (growslice_fits (by omega) (by rw [q3]; exact hbound))
            rw [hrun0 (by rw [e1, hy1]; exact hr)]
            obtain ⟨K', f1, f2⟩ := fin w.drew (grownCap w (es.length + xs.length) es.length e) (Builtin.zeroCells z.cells (grownCap w (es.length + xs.length) es.length e - (es.length + xs.length))).toList hevd (grownCap_ge w _ _ e) (hcapmax _ _ hsmall) _ (us.toArray ++ news.toArray ++ Builtin.zeroCells z.cells (grownCap w (es.length + xs.length) es.length e - (es.length + xs.length))) (by apply Array.ext'; simp) rfl
            refine ⟨K', ?_, .pv _ _ ?_⟩
            · simpa using f1
            · simpa using f2

/-- 's == nil': of an empty slice it isn't known. -/
theorem ao_isnil {t : TypeId} {x y : Operand} {sz : Nat} {es : List PV} {full : Bool} {e d : Nat} {t' : TypeId} (htb : TabOK P tb) (hg : guardE ops env o = some true) (hop : o.op = .binOp .eql t x y t') (hk : tb.k t = .sl e) (hx : env.pv H x = some (.slc sz es full)) (hy : env.pv H y = some (.base (.slice none 0 0))) (hd : o.dst = some d) (ht : Nat.blt d n = true)
    (h : ∀ b : Bool, (b = true → es = []) → AO P n g ops.toArray rest ((d, .pv (.base (.bool b))) :: env) H Q) : AO P n g ops.toArray (o :: rest) env H Q := by
  refine ⟨fun a w hinv => ?_⟩
  have hw := wanted_of hinv hg
  obtain ⟨h1, h2, K, ρ, hf, he⟩ := hinv
  refine wpList_step fun Kc hKc => ?_
  rw [if_pos hw]
  have hxr := opE_pv (a := a) hf (x := x) (fun av hh => val_rel he hh) hx
  have hyr := opE_pv (a := a) hf (x := y) (fun av hh => val_rel he hh) hy
  generalize hxv : a.eval x = xv at hxr
  generalize hyv : a.eval y = yv at hyr
  cases hyr
  have key : ∀ (b : Bool), (b = true → es = []) → (execOp a.eval o).run P w = .ok (.value (.bool b)) w → Oper.wp P o a w Kc (fun e a' w' => ∃ env' H', Inv n g env' H' a' w' ∧ e = .normal ∧ Q env' H') := by
    intro b hb hrun
    unfold Oper.wp
    rw [hrun]
    simp only [Oper.upon]
    exact hKc _ _ ((h b hb).go _ _ ⟨put_size h1, put_defers h2, K, ρ, hf, by rw [hd]; exact env_put h1 ht he (.pv _ _ (.base _ rfl))⟩)
  cases hxr with
  | nil =>
    refine key true (fun _ => rfl) ?_
    have : (binOp .eql t (.slice none 0 0) (.slice none 0 0)).run P w = .ok (.bool true) w := by
      exact Lib.run_eql_slice_nil w t e _ _ _ _ _ (tab_sl htb hk)
    simp [execOp, hop, hxv, hyv, eqGuard, this]
  | emp _ _ ad =>
    refine key false (by simp) ?_
    have : (binOp .eql t (.slice (some ad) 0 0) (.slice none 0 0)).run P w = .ok (.bool false) w := by
      exact Lib.run_eql_slice_nil w t e _ _ _ _ _ (tab_sl htb hk)
    simp [execOp, hop, hxv, hyv, eqGuard, this]
  | slc _ _ _ b off cap vss q0 q1 q2 q3 q4 q5 q6 =>
    refine key false (by simp) ?_
    have : (binOp .eql t (.slice (some ⟨b, off, none⟩) es.length cap) (.slice none 0 0)).run P w = .ok (.bool false) w := by
      exact Lib.run_eql_slice_nil w t e _ _ _ _ _ (tab_sl htb hk)
    simp [execOp, hop, hxv, hyv, eqGuard, this]
end
end Go.Cg
