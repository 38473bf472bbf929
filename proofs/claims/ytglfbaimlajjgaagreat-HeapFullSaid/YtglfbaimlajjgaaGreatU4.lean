/- A part of the walks by abstract values: no statement of its own. -/
import Derived.Test.YtglfbaimlajjgaaGreatU3
import Derived.WalkSpells
import Derived.Test.YtglfbaimlajjgaaGreatU2
import Derived.Test.YtglfbaimlajjgaaGreatProg
import Derived.KernelRfl
/- Texts and slices: an element, a part; append where there is no room; is it nil? -/
namespace Go.Cg
open Go.RowKit

section
variable {P : Program} {tb : Tab} {n : Nat} {g : Base} {K K' : KK} {w w' : World} {ρ ρ' : Nat → Value} {H H' : HEnv} {env : Env} {a : Act} {ops : List Oper} {o : Oper} {rest : List Oper} {Q : Env → HEnv → Prop} {QQ : QC} {c : Code}

/-- A byte of a text. -/
theorem q_strix {t : TypeId} {x i : Operand} {s : ByteArray} {k : IntKind} {m : Int} {b : UInt8} (htb : TabOK P tb) (hop : o.op = .index t x i) (hk : tb.k t = .str) (hx : env.pv H x = some (.base (.string s))) (hi : env.pv H i = some (.base (.int k m))) (h0 : 0 ≤ m) (hb : s[m.toNat]? = some b) :
    QStep P g H o env (.pv (.base (.int .u8 b.toNat))) := by
  refine ⟨fun K ρ a w hf hv => ?_⟩
  have hxr := opE_pv hf (hv x (by rw [hop]; simp [Op.operands])) hx
  have hir := opE_pv hf (hv i (by rw [hop]; simp [Op.operands])) hi
  generalize hxv : a.eval x = xv at hxr
  generalize hiv : a.eval i = iv at hir
  cases hir; cases hxr
  have : (execOp a.eval o).run P w = .ok (.value (.int .u8 b.toNat)) w := by
    simp [execOp, hop, hxv, hiv, Instr.index, asIntOf, run_underlying (tab_str htb hk), h0, hb]
  rw [this]
  exact qval hf (.pv _ _ (.base _ rfl))

/-- A bound of a slice expression: there, or not. -/
def boundE (env : Env) (H : HEnv) (d : Int) : Option Operand → Option Int
  | none => some d
  | some x => match env.pv H x with | some (.base (.int _ m)) => some m | _ => none

theorem bound_run (hf : FS g K ρ H w) {x : Option Operand} {d m : Int} (hv : ∀ y ∈ x.toArray, ∀ av, env.val y = some av → ARel K w ρ H av (a.eval y)) (h : boundE env H d x = some m) :
    (x = none ∧ m = d) ∨ ∃ y k, x = some y ∧ a.eval y = .int k m := by
  cases x with
  | none => simp [boundE] at h; exact .inl ⟨rfl, h.symm⟩
  | some y =>
    simp only [boundE] at h
    split at h
    · rename_i k m' hm
      simp only [Option.some.injEq] at h; subst h
      have := opE_pv hf (hv y (by simp)) hm
      generalize hyv : a.eval y = yv at this
      cases this
      exact .inr ⟨y, k, rfl, hyv⟩
    · cases h

/-- A part of a text. -/
theorem q_slice_str {t : TypeId} {x : Operand} {lo hi : Option Operand} {s : ByteArray} {l h : Int} (htb : TabOK P tb) (hop : o.op = .slice t x lo hi none) (hk : tb.k t = .str) (hx : env.pv H x = some (.base (.string s))) (hlo : boundE env H 0 lo = some l) (hhi : boundE env H s.size hi = some h)
    (h0 : 0 ≤ l) (h1 : l ≤ h) (h2 : h ≤ s.size) : QStep P g H o env (.pv (.base (.string (s.extract l.toNat h.toNat)))) := by
  refine ⟨fun K ρ a w hf hv => ?_⟩
  have hxr := opE_pv hf (hv x (by rw [hop]; simp [Op.operands])) hx
  generalize hxv : a.eval x = xv at hxr
  cases hxr with
  | base _ hok =>
  have el := bound_run (a := a) hf (x := lo) (fun y hy => hv y (by rw [hop]; simp [Op.operands] at hy ⊢; exact .inr (.inl hy))) hlo
  have eh := bound_run (a := a) hf (x := hi) (fun y hy => hv y (by rw [hop]; simp [Op.operands] at hy ⊢; exact .inr (.inr hy))) hhi
  have hh : h ≤ ((s.size : Nat) : Int) := h2
  have hh0 : 0 ≤ h := by omega
  have hlh : l ≤ ((h.toNat : Nat) : Int) := by omega
  have hrun : (execOp a.eval o).run P w = .ok (.value (.string (s.extract l.toNat h.toNat))) w := by
    rcases el with ⟨rfl, rfl⟩ | ⟨y, k, rfl, hy⟩ <;> rcases eh with ⟨rfl, rfl⟩ | ⟨z, k', rfl, hz⟩
    · simp [execOp, hop, hxv, Instr.sliceAt, Instr.slice, Instr.sliceBounds, run_underlying (tab_str htb hk)]
    · simp [execOp, hop, hxv, hz, Instr.sliceAt, Instr.slice, Instr.sliceBounds, Instr.sliceBound, asIntOf, run_underlying (tab_str htb hk), hh, hh0]
    · simp [execOp, hop, hxv, hy, Instr.sliceAt, Instr.slice, Instr.sliceBounds, Instr.sliceBound, asIntOf, run_underlying (tab_str htb hk), h0, h1]
    · simp [execOp, hop, hxv, hy, hz, Instr.sliceAt, Instr.slice, Instr.sliceBounds, Instr.sliceBound, asIntOf, run_underlying (tab_str htb hk), h0, hh, hh0]
      intro hc; omega
  rw [hrun]
  refine qval hf (.pv _ _ (.base _ ?_))
  simp only [baseOk, decide_eq_true_eq] at hok ⊢
  simp only [ByteArray.size_extract]
  omega

theorem q_slice0 {t e : TypeId} {parts : Array (Nat × Operand)} (htb : TabOK P tb) (hop : o.op = .buildSlice t 0 parts) (hp : parts = #[]) (hk : tb.k t = .sl e) (hke : tb.known e = true) (hsz : Nat.blt 0 (tb.size e) = true) : QStep P g H o env (.pv (.slc (tb.size e) [] true)) := by
  refine ⟨fun K ρ a w hf hv => ?_⟩
  subst hp
  have hko : tb.k e ≠ .oth := by intro h; simp [Tab.known, h] at hke
  have hs := run_sizeOf htb hko w
  have hrun : (execOp a.eval o).run P w = .ok (.value (.slice (some ⟨w.heap.size, 0, none⟩) 0 0)) (w.alloc (.cells #[] e)) := by
    have e0 : Array.range 0 = #[] := Array.eq_empty_of_size_eq_zero (by simp)
    simp [execOp, hop, Instr.buildSlice, run_underlying (tab_sl htb hk), hs, Instr.fill, newRow, e0]
  rw [hrun]
  refine ⟨_, evo_alloc hf.lt #[] e 0, .pv _ _ ?_⟩
  have := PRel.slc (K := withNew K w 0) (w := w.alloc (.cells #[] e)) (tb.size e) [] true w.heap.size 0 0 (fun _ => []) (Nat.le_of_ble_eq_true hsz) (Nat.le_refl _) (fun _ => rfl) (by simp [maxLen]) (by simp [maxLen]) (fun i e h => by simp at h) (fun i e k c v h => by simp at h)
  exact this

/-- A part of a slice. -/
theorem q_slice {t e : TypeId} {x : Operand} {lo hi : Option Operand} {sz : Nat} {es : List PV} {full : Bool} {l h : Int} (htb : TabOK P tb) (hop : o.op = .slice t x lo hi none) (hk : tb.k t = .sl e) (hke : tb.known e = true) (hsz : tb.size e = sz) (hx : env.pv H x = some (.slc sz es full))
    (hlo : boundE env H 0 lo = some l) (hhi : boundE env H es.length hi = some h) (h0 : 0 ≤ l) (h1 : l ≤ h) (h2 : h ≤ es.length) : QStep P g H o env (.pv (.slc sz ((es.take h.toNat).drop l.toNat) false)) := by
  refine ⟨fun K ρ a w hf hv => ?_⟩
  have hxr := opE_pv hf (hv x (by rw [hop]; simp [Op.operands])) hx
  generalize hxv : a.eval x = xv at hxr
  have el := bound_run (a := a) hf (x := lo) (fun y hy => hv y (by rw [hop]; simp [Op.operands] at hy ⊢; exact .inr (.inl hy))) hlo
  have eh := bound_run (a := a) hf (x := hi) (fun y hy => hv y (by rw [hop]; simp [Op.operands] at hy ⊢; exact .inr (.inr hy))) hhi
  have hko : tb.k e ≠ .oth := by intro h; simp [Tab.known, h] at hke
  have hs := run_sizeOf htb hko w
  have hh0 : 0 ≤ h := by omega
  have hlh : l ≤ ((h.toNat : Nat) : Int) := by omega
  have bounds : ∀ cap : Nat, es.length ≤ cap → (Instr.sliceBounds true es.length cap (lo.map a.eval) (hi.map a.eval) none).run P w = .ok (l.toNat, h.toNat, cap) w := by
    intro cap hcap
    have hhc : h ≤ (cap : Int) := by omega
    rcases el with ⟨rfl, rfl⟩ | ⟨y, k, rfl, hy⟩ <;> rcases eh with ⟨rfl, rfl⟩ | ⟨z, k', rfl, hz⟩
    · simp [Instr.sliceBounds]
    · simp [hz, Instr.sliceBounds, Instr.sliceBound, asIntOf, hhc, hh0]
    · simp [hy, Instr.sliceBounds, Instr.sliceBound, asIntOf, h0, h1]
    · simp [hy, hz, Instr.sliceBounds, Instr.sliceBound, asIntOf, h0, hhc, hh0]
      intro hc; omega
  cases hxr with
  | nil =>
    simp only [List.length_nil, Int.natCast_zero] at h2 bounds
    have e1 : l = 0 := by omega
    have e2 : h = 0 := by omega
    subst e1 e2
    have hrun : (execOp a.eval o).run P w = .ok (.value (.slice none 0 0)) w := by
      have := bounds 0 (Nat.le_refl _)
      simp [execOp, hop, hxv, Instr.sliceAt, Instr.slice, run_underlying (tab_sl htb hk), this, hs]
    rw [hrun]
    exact qval hf (.pv _ _ (by simpa using PRel.nil (K := K) (w := w) sz false))
  | emp _ _ ad =>
    simp only [List.length_nil, Int.natCast_zero] at h2 bounds
    have e1 : l = 0 := by omega
    have e2 : h = 0 := by omega
    subst e1 e2
    have hrun : (execOp a.eval o).run P w = .ok (.value (.slice (some ad) 0 0)) w := by
      have := bounds 0 (Nat.le_refl _)
      simp [execOp, hop, hxv, Instr.sliceAt, Instr.slice, run_underlying (tab_sl htb hk), this, hs]
    rw [hrun]
    exact qval hf (.pv _ _ (by simpa using PRel.emp (K := K) (w := w) sz false ad))
  | slc _ _ _ b off cap vss q0 q1 q2 q3 q4 q5 q6 =>
    have hb := bounds cap q1
    have hlen : ((es.take h.toNat).drop l.toNat).length = h.toNat - l.toNat := by simp; omega
    have hget : ∀ i e, ((es.take h.toNat).drop l.toNat)[i]? = some e → es[l.toNat + i]? = some e := by
      intro i e he
      rw [List.getElem?_drop, List.getElem?_take] at he
      split at he
      · exact he
      · cases he
    have hrun : (execOp a.eval o).run P w = .ok (.value (.slice (if cap = l.toNat then some ⟨b, off, none⟩ else some ⟨b, off + l.toNat * sz, none⟩) (h.toNat - l.toNat) (cap - l.toNat))) w := by
      simp [execOp, hop, hxv, Instr.sliceAt, Instr.slice, run_underlying (tab_sl htb hk), hb, hs, hsz, Addr.add_lit]
    rw [hrun]
    refine qval hf (.pv _ _ ?_)
    have key : ∀ off', (off' = off + l.toNat * sz ∨ h.toNat - l.toNat = 0) → PRel K w (.slc sz ((es.take h.toNat).drop l.toNat) false) (.slice (some ⟨b, off', none⟩) (h.toNat - l.toNat) (cap - l.toNat)) := by
      intro off' hoff
      have := PRel.slc (K := K) (w := w) sz ((es.take h.toNat).drop l.toNat) false b off' (cap - l.toNat) (fun i => vss (l.toNat + i)) q0 (by rw [hlen]; omega) (by simp) (by rw [hlen]; omega) (by omega)
        (fun i e he => by
          have he' := hget i e he
          obtain ⟨r1, r2, r3⟩ := q5 _ e he'
          refine ⟨r1, r2, ?_⟩
          rcases hoff with rfl | hz
          · rw [Nat.add_assoc, ← Nat.add_mul]; exact r3
          · have := (List.getElem?_eq_some_iff.1 he).1; rw [hlen] at this; omega)
        (fun i e k c v he => q6 _ e k c v (hget i e he))
      rw [hlen] at this
      exact this
    split
    · rename_i hcl
      exact key off (.inr (by omega))
    · exact key _ (.inl rfl)

/-- append onto a slice that has no room, or onto none: a new one. -/
theorem q_append {ty e : TypeId} {x y : Operand} {sz : Nat} {es xs : List PV} {full : Bool} (htb : TabOK P tb) (hop : o.op = .call { callee := .builtin .append, args := #[x, y], argTypes := #[ty, ty] }) (hk : tb.k ty = .sl e)
    (hx : env.pv H x = some (.slc sz es true) ∨ (es = [] ∧ env.pv H x = some (.base (.slice none 0 0)))) (hy : env.pv H y = some (.slc sz xs full))
    (hzz : (match tb.get e with | some ti => (match ti.zero with | some z => ti.size == sz && z.cells.size == sz && Nat.blt 0 sz | none => false) | none => false) = true)
    (hbound : (es.length + xs.length) * (match tb.get e with | some ti => ti.bytes | none => 0) ≤ 140737488355328) (hb2 : es.length + xs.length ≤ 140737488355328) : QStep P g H o env (.pv (.slc sz (es ++ xs) false)) := by
  refine ⟨fun K ρ a w hf hv => ?_⟩
  cases hti : tb.get e with
  | none => simp [hti] at hzz
  | some ti =>
    cases hz : ti.zero with
    | none => simp [hti, hz] at hzz
    | some z =>
      simp only [hti, hz, Bool.and_eq_true, beq_iff_eq] at hzz hbound
      obtain ⟨⟨z1, z2⟩, z3⟩ := hzz
      have hsz : 0 < sz := Nat.le_of_ble_eq_true z3
      obtain ⟨tin, q1, q2, q3, q4, _⟩ := tab_info htb hti
      have hyr := opE_pv hf (hv y (by rw [hop]; simp [Op.operands, Call.operands])) hy
      obtain ⟨news, n1, n2, n3, n4, n5⟩ := slc_flat hyr
      -- the slice, as a list of its cells
      have hxr : PRel K w (.slc sz es true) (a.eval x) := by
        rcases hx with hx | ⟨rfl, hx⟩
        · exact opE_pv hf (hv x (by rw [hop]; simp [Op.operands, Call.operands])) hx
        · have := opE_pv hf (hv x (by rw [hop]; simp [Op.operands, Call.operands])) hx
          generalize a.eval x = xv at this ⊢
          cases this
          exact .nil sz true
      obtain ⟨us, m1, m2, m3, m4, m5⟩ := slc_flat hxr
      have hall : (us ++ news).length = (es.length + xs.length) * sz := by rw [List.length_append, m1, n1, Nat.add_mul]
      have hone : ∀ v ∈ us ++ news, v.oneCell' = true := fun v hv' => (List.mem_append.1 hv').elim (m3 v) (n3 v)
      have hcr := m4.append m1 n4
      -- what a new block with all cells gives
      have fin : ∀ (w2 : World) (cap : Nat) (junk : List Value), Evo K K w w2 → es.length + xs.length ≤ cap → cap ≤ maxLen → ∀ (w3 : World) (arr : Array Value), arr = (us ++ news ++ junk).toArray → w3 = w2.alloc (.cells arr e) →
          ∃ K', Evo K K' w w3 ∧ PRel K' w3 (.slc sz (es ++ xs) false) (.slice (some ⟨w2.heap.size, 0, none⟩) (es.length + xs.length) cap) := by
        rintro w2 cap junk hev hc1 hc2 w3 arr rfl rfl
        have hlt2 : ∀ b o, K b o → b < w2.heap.size := hev.lt
        have h3 := evo_alloc hlt2 (us ++ news ++ junk).toArray e ((us ++ news).length)
        refine ⟨_, hev.trans h3, ?_⟩
        have hlat := (hev.trans h3).later hf.lt
        have hcell : ∀ j v, (us ++ news)[j]? = some v → withNew K w2 (us ++ news).length w2.heap.size j ∧ (w2.alloc (.cells (us ++ news ++ junk).toArray e)).cell? ⟨w2.heap.size, j, none⟩ = some v := by
          intro j v hj
          have hjl := (List.getElem?_eq_some_iff.1 hj).1
          refine ⟨.inr ⟨rfl, hjl⟩, ?_⟩
          rw [World.cell?_alloc_new]
          simp only [List.getElem?_toArray]
          rw [List.getElem?_append_left hjl]; exact hj
        have := PRel.slc (K := withNew K w2 (us ++ news).length) (w := w2.alloc (.cells (us ++ news ++ junk).toArray e)) sz (es ++ xs) false w2.heap.size 0 cap (fun i => ((us ++ news).drop (i * sz)).take sz) hsz (by rw [List.length_append]; exact hc1) (by simp) (by rw [List.length_append]; unfold maxLen; omega) hc2
          (fun i e' he => by
            obtain ⟨r1, r2⟩ := hcr i e' he
            have hi := (List.getElem?_eq_some_iff.1 he).1
            rw [List.length_append] at hi
            have hil := Nat.mul_le_mul_right sz (show i + 1 ≤ es.length + xs.length by omega)
            rw [Nat.add_mul] at hil
            refine ⟨r1, by simp only [List.length_take, List.length_drop]; omega, ?_⟩
            intro k v hv'
            rw [List.getElem?_take] at hv'
            split at hv'
            · rw [List.getElem?_drop] at hv'
              obtain ⟨c1, c2⟩ := hcell _ v hv'
              rw [Nat.zero_add]
              exact ⟨c1, c2, hone v (List.mem_of_getElem? hv')⟩
            · cases hv')
          (fun i e' k c v he hc hv' => by
            obtain ⟨r1, r2⟩ := hcr i e' he
            obtain ⟨v', e1, _, e3⟩ := r2 k c hc
            rw [List.getElem?_take] at hv'
            split at hv'
            · rw [List.getElem?_drop, e1] at hv'
              cases hv'
              exact e3.later hlat
            · cases hv')
        rw [show (es ++ xs).length = es.length + xs.length from List.length_append] at this
        exact this
      have hsmall : es.length + xs.length ≤ 9223372036854775807 := by omega
      have hrun0 : ∀ {v' : Value} {w' : World}, (Builtin.append_ #[ty, ty] o.type #[a.eval x, a.eval y]).run P w = .ok v' w' → (execOp a.eval o).run P w = .ok (.value v') w' := by
        intro v' w' h
        simp [execOp, hop, resolve, invoke, builtin, h]
      have hcapmax : ∀ need old, need ≤ 9223372036854775807 → grownCap w need old e ≤ maxLen := fun need old h => grownCap_le_maxLen w need old e (by unfold maxLen; omega)
      have hevd : Evo K K w w.drew := (Evo.refl hf.lt).drew
      rcases n2 with ⟨hy0, hxl⟩ | ⟨ad', c', hy1, hy2, _, hxc⟩
      · -- nothing is appended
        have hxs : xs = [] := List.eq_nil_of_length_eq_zero hxl
        subst hxs
        have hrun : (Builtin.append_ #[ty, ty] o.type #[a.eval x, a.eval y]).run P w = .ok (a.eval x) w := by
          rcases m2 with ⟨e1, _⟩ | ⟨ad1, c1, e1, _, _, hle⟩
          · rw [e1, hy0]; simp [Builtin.append_, run_underlying (tab_sl htb hk), sizeOf, typeInfo, q1, Builtin.lenOf, Builtin.firstCells]
          · rw [e1, hy0]; simp [Builtin.append_, run_underlying (tab_sl htb hk), sizeOf, typeInfo, q1, Builtin.lenOf, Builtin.firstCells, hle, storeCells]
        rw [hrun0 hrun]
        refine qval hf ?_
        rw [List.append_nil]
        exact tells_full sz es true _ _ ρ H _ (.pv _ _ hxr)
      · by_cases hx0 : xs.length = 0
        · have hxs : xs = [] := List.eq_nil_of_length_eq_zero hx0
          subst hxs
          have hnews : news = [] := List.eq_nil_of_length_eq_zero (by simpa using n1)
          have hrun : (Builtin.append_ #[ty, ty] o.type #[a.eval x, a.eval y]).run P w = .ok (a.eval x) w := by
            rcases m2 with ⟨e1, _⟩ | ⟨ad1, c1, e1, _, _, hle⟩
            · rw [e1, hy1]; simp [Builtin.append_, run_underlying (tab_sl htb hk), sizeOf, typeInfo, q1, Builtin.lenOf, Builtin.firstCells, loadCells, loadCellsFrom]
            · rw [e1, hy1]; simp [Builtin.append_, run_underlying (tab_sl htb hk), sizeOf, typeInfo, q1, Builtin.lenOf, Builtin.firstCells, hle, storeCells, loadCells, loadCellsFrom]
          rw [hrun0 hrun]
          refine qval hf ?_
          rw [List.append_nil]
          exact tells_full sz es true _ _ ρ H _ (.pv _ _ hxr)
        · have hns : tin.size = sz := by omega
          rcases m2 with ⟨e1, hel⟩ | ⟨ad1, c1, e1, e2, hfull, hle⟩
          · have hes : es = [] := List.eq_nil_of_length_eq_zero hel
            subst hes
            have hus : us = [] := List.eq_nil_of_length_eq_zero (by simpa using m1)
            subst hus
            have hr := run_append_nil (P := P) w ty o.type e tin z (tab_sl htb hk) q1 (by rw [q4]; exact hz) ad' xs.length c' news (by rw [hns]; exact n1) hy2 (by omega) (by simp at hsmall; omega) (by rw [q3]; simp at hbound; omega)
            rw [hrun0 (by rw [e1, hy1]; exact hr)]
            obtain ⟨K', f1, f2⟩ := fin w.drew (grownCap w xs.length 0 e) (Builtin.zeroCells z.cells (grownCap w xs.length 0 e - xs.length)).toList hevd (by simpa using grownCap_ge w xs.length 0 e) (hcapmax _ _ (by simp at hsmall; omega)) _ (news.toArray ++ Builtin.zeroCells z.cells (grownCap w xs.length 0 e - xs.length)) (by apply Array.ext'; simp) rfl
            refine ⟨K', ?_, .pv _ _ ?_⟩
            · simpa using f1
            · simpa using f2
          · have hc1 : c1 = es.length := hfull rfl
            subst hc1
            have hr := run_append_grow (P := P) w ty o.type e tin z (tab_sl htb hk) q1 (by rw [q4]; exact hz) ad1 es.length es.length us (by rw [hns]; exact m1) e2 ad' xs.length c' news (by rw [hns]; exact n1) hy2 (by omega) (by omega) (growslice_fits (by omega) (by rw [q3]; exact hbound))
            rw [hrun0 (by rw [e1, hy1]; exact hr)]
            obtain ⟨K', f1, f2⟩ := fin w.drew (grownCap w (es.length + xs.length) es.length e) (Builtin.zeroCells z.cells (grownCap w (es.length + xs.length) es.length e - (es.length + xs.length))).toList hevd (grownCap_ge w _ _ e) (hcapmax _ _ hsmall) _ (us.toArray ++ news.toArray ++ Builtin.zeroCells z.cells (grownCap w (es.length + xs.length) es.length e - (es.length + xs.length))) (by apply Array.ext'; simp) rfl
            refine ⟨K', ?_, .pv _ _ ?_⟩
            · simpa using f1
            · simpa using f2

/-- 's == nil': of an empty slice it isn't known. -/
theorem ao_isnil {t : TypeId} {x y : Operand} {sz : Nat} {es : List PV} {full : Bool} {e d : Nat} {t' : TypeId} (htb : TabOK P tb) (hg : guardE ops env o = some true) (hop : o.op = .binOp .eql t x y t') (hk : tb.k t = .sl e) (hx : env.pv H x = some (.slc sz es full)) (hy : env.pv H y = some (.base (.slice none 0 0))) (hd : o.dst = some d) (ht : Nat.blt d n = true)
    (h : ∀ b : Bool, (b = true → es = []) → AO P n g ops.toArray rest ((d, .pv (.base (.bool b))) :: env) H Q) : AO P n g ops.toArray (o :: rest) env H Q := by
  refine ⟨fun a w hinv => ?_⟩
  have hw := wanted_of hinv hg
  obtain ⟨h1, h2, K, ρ, hf, he⟩ := hinv
  refine wpList_step fun Kc hKc => ?_
  rw [if_pos hw]
  have hxr := opE_pv (a := a) hf (x := x) (fun av hh => val_rel he hh) hx
  have hyr := opE_pv (a := a) hf (x := y) (fun av hh => val_rel he hh) hy
  generalize hxv : a.eval x = xv at hxr
  generalize hyv : a.eval y = yv at hyr
  cases hyr
  have key : ∀ (b : Bool), (b = true → es = []) → (execOp a.eval o).run P w = .ok (.value (.bool b)) w → Oper.wp P o a w Kc (fun e a' w' => ∃ env' H', Inv n g env' H' a' w' ∧ e = .normal ∧ Q env' H') := by
    intro b hb hrun
    unfold Oper.wp
    rw [hrun]
    simp only [Oper.upon]
    exact hKc _ _ ((h b hb).go _ _ ⟨put_size h1, put_defers h2, K, ρ, hf, by rw [hd]; exact env_put h1 ht he (.pv _ _ (.base _ rfl))⟩)
  cases hxr with
  | nil =>
    refine key true (fun _ => rfl) ?_
    have : (binOp .eql t (.slice none 0 0) (.slice none 0 0)).run P w = .ok (.bool true) w := by
      exact Lib.run_eql_slice_nil w t e _ _ _ _ _ (tab_sl htb hk)
    simp [execOp, hop, hxv, hyv, eqGuard, this]
  | emp _ _ ad =>
    refine key false (by simp) ?_
    have : (binOp .eql t (.slice (some ad) 0 0) (.slice none 0 0)).run P w = .ok (.bool false) w := by
      exact Lib.run_eql_slice_nil w t e _ _ _ _ _ (tab_sl htb hk)
    simp [execOp, hop, hxv, hyv, eqGuard, this]
  | slc _ _ _ b off cap vss q0 q1 q2 q3 q4 q5 q6 =>
    refine key false (by simp) ?_
    have : (binOp .eql t (.slice (some ⟨b, off, none⟩) es.length cap) (.slice none 0 0)).run P w = .ok (.bool false) w := by
      exact Lib.run_eql_slice_nil w t e _ _ _ _ _ (tab_sl htb hk)
    simp [execOp, hop, hxv, hyv, eqGuard, this]
end
end Go.Cg
/- The data of the program's types. -/
namespace Go.Cg

structure Ty where
  kind : Int
  index : Int
  dims : Int
  ref : Bool
  deriving DecidableEq, Inhabited

structure TD where
  name : ByteArray
  flags : Int
  ext : Int
  faces : List Int
  deriving Inhabited

structure Fd where
  name : ByteArray
  owner : Int
  ty : Ty
  static : Bool
  deriving Inhabited

structure Ins where
  op : Int
  arg : Int
  t : Ty
  deriving Inhabited, DecidableEq

structure Cl where
  kind : Int
  tf : Int
  tt : Int
  hf : Int
  ht : Int
  filter : Int
  t : Ty
  deriving Inhabited, DecidableEq

structure Me where
  name : ByteArray
  owner : Int
  flags : Int
  params : List Ty
  ret : Ty
  locals : List Ty
  max : Int
  code : List Ins
  clauses : List Cl
  deriving Inhabited

structure Img where
  types : List TD
  fields : List Fd
  methods : List Me
  entry : Int
  deriving Inhabited

abbrev pi (n : Int) : PV := .base (.int .i64 n)
abbrev pb (b : Bool) : PV := .base (.bool b)
abbrev ps (s : ByteArray) : PV := .base (.string s)
def ints (l : List Int) : PV := .slc 1 (l.map pi) false
def tyPV (t : Ty) : PV := .agg [pi t.kind, pi t.index, pi t.dims, pb t.ref]
def tys (l : List Ty) : PV := .slc 4 (l.map tyPV) false
def tdPV (t : TD) : PV := .agg [ps t.name, pi t.flags, pi t.ext, ints t.faces]
def fdPV (f : Fd) : PV := .agg [ps f.name, pi f.owner, pi f.ty.kind, pi f.ty.index, pi f.ty.dims, pb f.ty.ref, pb f.static]
def insPV (x : Ins) : PV := .agg [pi x.op, pi x.arg, pi x.t.kind, pi x.t.index, pi x.t.dims, pb x.t.ref]
def clPV (c : Cl) : PV := .agg [pi c.kind, pi c.tf, pi c.tt, pi c.hf, pi c.ht, pi c.filter, pi c.t.kind, pi c.t.index, pi c.t.dims, pb c.t.ref]
def mePV (m : Me) : PV := .agg [ps m.name, pi m.owner, pi m.flags, tys m.params, pi m.ret.kind, pi m.ret.index, pi m.ret.dims, pb m.ret.ref, tys m.locals, pi m.max, .slc 6 (m.code.map insPV) false, .slc 10 (m.clauses.map clPV) false]
def imgPV (g : Img) : PV := .agg [.slc 4 (g.types.map tdPV) false, .slc 7 (g.fields.map fdPV) false, .slc 12 (g.methods.map mePV) false, pi g.entry]

theorem wrap_in {a : Int} (h1 : -9223372036854775808 ≤ a) (h2 : a ≤ 9223372036854775807) : IntKind.i64.wrap a = a := by
  unfold IntKind.wrap
  simp only [IntKind.bits, IntKind.signed]
  simp
  split <;> omega
theorem sub_i {env env' : Env} {t : Nat} {k : IntKind} {a b : Int} (h : env.get t = some (.pv (.base (.int k a)))) (e : a = b) (hs : Sub env env') : Sub env ((t, .pv (.base (.int k b))) :: env') := sub_cons (by rw [h, e]) hs
theorem sub_v {env env' : Env} {t : Nat} {a b : AV} (h : env.get t = some a) (e : a = b) (hs : Sub env env') : Sub env ((t, b) :: env') := sub_cons (by rw [h, e]) hs
theorem aw_condT {P : Program} {n : Nat} {g : Base} {x y : Code} {env : Env} {H : HEnv} {QQ : QC} {t : Nat} {b : Bool} (hc : env.get t = some (.pv (.base (.bool b)))) (hb : b = true) (h : AW P n g x env H QQ) : AW P n g (.cond (.tmp t) x y) env H QQ := by subst hb; exact aw_cond_true hc h
theorem aw_condF {P : Program} {n : Nat} {g : Base} {x y : Code} {env : Env} {H : HEnv} {QQ : QC} {t : Nat} {b : Bool} (hc : env.get t = some (.pv (.base (.bool b)))) (hb : b = false) (h : AW P n g y env H QQ) : AW P n g (.cond (.tmp t) x y) env H QQ := by subst hb; exact aw_cond_false hc h
theorem ao_caseB {P : Program} {n : Nat} {g : Base} {ops l : List Oper} {Q : Env → HEnv → Prop} {o : Oper} {env : Env} {H : HEnv} {t : Nat} {b : Bool} (c : Bool) (_ : guardVar ops o = some t) (hb : env.get t = some (.pv (.base (.bool b)))) (hc : b = c)
    (h : AO P n g ops.toArray (o :: l) ((t, .pv (.base (.bool c))) :: env) H Q) : AO P n g ops.toArray (o :: l) env H Q := ⟨fun a w hi => h.go a w (inv_bool hi hb hc)⟩
theorem ad_caseB {P : Program} {n : Nat} {g : Base} {H : HEnv} {ops l : List Oper} {Q : Env → Prop} {o : Oper} {t : Nat} {env : Env} {b : Bool} (c : Bool) (_ : guardVar ops o = some t) (hb : env.get t = some (.pv (.base (.bool b)))) (hc : b = c)
    (h : AD P n g H ops Q (o :: l) ((t, .pv (.base (.bool c))) :: env)) : AD P n g H ops Q (o :: l) env := by
  subst hc
  refine .case _ _ _ _ hb (fun e => ?_) (fun e => ?_) <;> (subst e; exact h)

theorem ao_sh_call {P : Program} {n : Nat} {g : Base} {ops : Array Oper} {rest : List Oper} {env : Env} {H : HEnv} {Q : Env → HEnv → Prop} {d : Option Tmp} {ty : TypeId} {po : String} {af : Array Edge} {gu : Option (Nat × Bool)} {f : Operand} {xs : Array Operand} {ts : Array TypeId} (h : AO P n g ops (⟨d, .call ⟨.value f, xs, ts⟩, ty, po, af, gu⟩ :: rest) env H Q) : AO P n g ops (⟨d, .call ⟨.value f, xs, ts⟩, ty, po, af, gu⟩ :: rest) env H Q := h
theorem ad_sh_call {P : Program} {n : Nat} {g : Base} {ops rest : List Oper} {env : Env} {H : HEnv} {Q : Env → Prop} {d : Option Tmp} {ty : TypeId} {po : String} {af : Array Edge} {gu : Option (Nat × Bool)} {f : Operand} {xs : Array Operand} {ts : Array TypeId} (h : AD P n g H ops Q (⟨d, .call ⟨.value f, xs, ts⟩, ty, po, af, gu⟩ :: rest) env) : AD P n g H ops Q (⟨d, .call ⟨.value f, xs, ts⟩, ty, po, af, gu⟩ :: rest) env := h
theorem ao_sh_bi {P : Program} {n : Nat} {g : Base} {ops : Array Oper} {rest : List Oper} {env : Env} {H : HEnv} {Q : Env → HEnv → Prop} {d : Option Tmp} {ty : TypeId} {po : String} {af : Array Edge} {gu : Option (Nat × Bool)} {b : Builtin} {xs : Array Operand} {ts : Array TypeId} (h : AO P n g ops (⟨d, .call ⟨.builtin b, xs, ts⟩, ty, po, af, gu⟩ :: rest) env H Q) : AO P n g ops (⟨d, .call ⟨.builtin b, xs, ts⟩, ty, po, af, gu⟩ :: rest) env H Q := h
theorem ad_sh_bi {P : Program} {n : Nat} {g : Base} {ops rest : List Oper} {env : Env} {H : HEnv} {Q : Env → Prop} {d : Option Tmp} {ty : TypeId} {po : String} {af : Array Edge} {gu : Option (Nat × Bool)} {b : Builtin} {xs : Array Operand} {ts : Array TypeId} (h : AD P n g H ops Q (⟨d, .call ⟨.builtin b, xs, ts⟩, ty, po, af, gu⟩ :: rest) env) : AD P n g H ops Q (⟨d, .call ⟨.builtin b, xs, ts⟩, ty, po, af, gu⟩ :: rest) env := h
theorem ao_sh_ix {P : Program} {n : Nat} {g : Base} {ops : Array Oper} {rest : List Oper} {env : Env} {H : HEnv} {Q : Env → HEnv → Prop} {d : Option Tmp} {ty : TypeId} {po : String} {af : Array Edge} {gu : Option (Nat × Bool)} {u : TypeId} {x i : Operand} (h : AO P n g ops (⟨d, .indexAddr u x i, ty, po, af, gu⟩ :: rest) env H Q) : AO P n g ops (⟨d, .indexAddr u x i, ty, po, af, gu⟩ :: rest) env H Q := h
theorem ad_sh_ix {P : Program} {n : Nat} {g : Base} {ops rest : List Oper} {env : Env} {H : HEnv} {Q : Env → Prop} {d : Option Tmp} {ty : TypeId} {po : String} {af : Array Edge} {gu : Option (Nat × Bool)} {u : TypeId} {x i : Operand} (h : AD P n g H ops Q (⟨d, .indexAddr u x i, ty, po, af, gu⟩ :: rest) env) : AD P n g H ops Q (⟨d, .indexAddr u x i, ty, po, af, gu⟩ :: rest) env := h
theorem ao_sh_index {P : Program} {n : Nat} {g : Base} {ops : Array Oper} {rest : List Oper} {env : Env} {H : HEnv} {Q : Env → HEnv → Prop} {d : Option Tmp} {ty : TypeId} {po : String} {af : Array Edge} {gu : Option (Nat × Bool)} {u : TypeId} {x i : Operand} (h : AO P n g ops (⟨d, .index u x i, ty, po, af, gu⟩ :: rest) env H Q) : AO P n g ops (⟨d, .index u x i, ty, po, af, gu⟩ :: rest) env H Q := h
theorem ad_sh_index {P : Program} {n : Nat} {g : Base} {ops rest : List Oper} {env : Env} {H : HEnv} {Q : Env → Prop} {d : Option Tmp} {ty : TypeId} {po : String} {af : Array Edge} {gu : Option (Nat × Bool)} {u : TypeId} {x i : Operand} (h : AD P n g H ops Q (⟨d, .index u x i, ty, po, af, gu⟩ :: rest) env) : AD P n g H ops Q (⟨d, .index u x i, ty, po, af, gu⟩ :: rest) env := h
theorem ao_sh_slice {P : Program} {n : Nat} {g : Base} {ops : Array Oper} {rest : List Oper} {env : Env} {H : HEnv} {Q : Env → HEnv → Prop} {d : Option Tmp} {ty : TypeId} {po : String} {af : Array Edge} {gu : Option (Nat × Bool)} {u : TypeId} {x : Operand} {i j k : Option Operand} (h : AO P n g ops (⟨d, .slice u x i j k, ty, po, af, gu⟩ :: rest) env H Q) : AO P n g ops (⟨d, .slice u x i j k, ty, po, af, gu⟩ :: rest) env H Q := h
theorem ad_sh_slice {P : Program} {n : Nat} {g : Base} {ops rest : List Oper} {env : Env} {H : HEnv} {Q : Env → Prop} {d : Option Tmp} {ty : TypeId} {po : String} {af : Array Edge} {gu : Option (Nat × Bool)} {u : TypeId} {x : Operand} {i j k : Option Operand} (h : AD P n g H ops Q (⟨d, .slice u x i j k, ty, po, af, gu⟩ :: rest) env) : AD P n g H ops Q (⟨d, .slice u x i j k, ty, po, af, gu⟩ :: rest) env := h
theorem ao_sh_store {P : Program} {n : Nat} {g : Base} {ops : Array Oper} {rest : List Oper} {env : Env} {H : HEnv} {Q : Env → HEnv → Prop} {d : Option Tmp} {ty : TypeId} {po : String} {af : Array Edge} {gu : Option (Nat × Bool)} {u : TypeId} {x y : Operand} (h : AO P n g ops (⟨d, .store u x y, ty, po, af, gu⟩ :: rest) env H Q) : AO P n g ops (⟨d, .store u x y, ty, po, af, gu⟩ :: rest) env H Q := h
theorem ad_sh_store {P : Program} {n : Nat} {g : Base} {ops rest : List Oper} {env : Env} {H : HEnv} {Q : Env → Prop} {d : Option Tmp} {ty : TypeId} {po : String} {af : Array Edge} {gu : Option (Nat × Bool)} {u : TypeId} {x y : Operand} (h : AD P n g H ops Q (⟨d, .store u x y, ty, po, af, gu⟩ :: rest) env) : AD P n g H ops Q (⟨d, .store u x y, ty, po, af, gu⟩ :: rest) env := h
theorem ao_sh_alloc {P : Program} {n : Nat} {g : Base} {ops : Array Oper} {rest : List Oper} {env : Env} {H : HEnv} {Q : Env → HEnv → Prop} {d : Option Tmp} {ty : TypeId} {po : String} {af : Array Edge} {gu : Option (Nat × Bool)} {u : TypeId} (h : AO P n g ops (⟨d, .alloc u, ty, po, af, gu⟩ :: rest) env H Q) : AO P n g ops (⟨d, .alloc u, ty, po, af, gu⟩ :: rest) env H Q := h
theorem ad_sh_alloc {P : Program} {n : Nat} {g : Base} {ops rest : List Oper} {env : Env} {H : HEnv} {Q : Env → Prop} {d : Option Tmp} {ty : TypeId} {po : String} {af : Array Edge} {gu : Option (Nat × Bool)} {u : TypeId} (h : AD P n g H ops Q (⟨d, .alloc u, ty, po, af, gu⟩ :: rest) env) : AD P n g H ops Q (⟨d, .alloc u, ty, po, af, gu⟩ :: rest) env := h
theorem ao_sh_box {P : Program} {n : Nat} {g : Base} {ops : Array Oper} {rest : List Oper} {env : Env} {H : HEnv} {Q : Env → HEnv → Prop} {d : Option Tmp} {ty : TypeId} {po : String} {af : Array Edge} {gu : Option (Nat × Bool)} {u : TypeId} {x : Operand} (h : AO P n g ops (⟨d, .box u x, ty, po, af, gu⟩ :: rest) env H Q) : AO P n g ops (⟨d, .box u x, ty, po, af, gu⟩ :: rest) env H Q := h
theorem ad_sh_box {P : Program} {n : Nat} {g : Base} {ops rest : List Oper} {env : Env} {H : HEnv} {Q : Env → Prop} {d : Option Tmp} {ty : TypeId} {po : String} {af : Array Edge} {gu : Option (Nat × Bool)} {u : TypeId} {x : Operand} (h : AD P n g H ops Q (⟨d, .box u x, ty, po, af, gu⟩ :: rest) env) : AD P n g H ops Q (⟨d, .box u x, ty, po, af, gu⟩ :: rest) env := h
theorem ao_id {P : Program} {n : Nat} {g : Base} {ops : Array Oper} {l : List Oper} {env : Env} {H : HEnv} {Q : Env → HEnv → Prop} (h : AO P n g ops l env H Q) : AO P n g ops l env H Q := h
theorem ad_id {P : Program} {n : Nat} {g : Base} {ops l : List Oper} {env : Env} {H : HEnv} {Q : Env → Prop} (h : AD P n g H ops Q l env) : AD P n g H ops Q l env := h
theorem aw_sh_cond {P : Program} {n : Nat} {g : Base} {c : Operand} {x y : Code} {env : Env} {H : HEnv} {QQ : QC} (h : AW P n g (.cond c x y) env H QQ) : AW P n g (.cond c x y) env H QQ := h
theorem aw_id {P : Program} {n : Nat} {g : Base} {c : Code} {env : Env} {H : HEnv} {QQ : QC} (h : AW P n g c env H QQ) : AW P n g c env H QQ := h

/-- The ways meet again: the frame is told anew behind the first part. -/
def cutQ (env2 : Env) (H2 : HEnv) (QQ : QC) : QC
  | .normal, env', H' => Sub env' env2 ∧ HFit H' H2 env2
  | e, env', H' => QQ e env' H'
theorem aw_cut {P : Program} {n : Nat} {g : Base} {x y : Code} {env : Env} {H : HEnv} {QQ : QC} (env2 : Env) (H2 : HEnv) (h1 : AW P n g x env H (cutQ env2 H2 QQ)) (h2 : AW P n g y env2 H2 QQ) : AW P n g (.seq x y) env H QQ :=
  aw_seq (h1.mono fun e env' H' hq => by
    cases e <;> first
      | exact ⟨fun a w hi => h2.go a w ((hi.sub hq.1).hsub hq.2)⟩
      | exact hq)
theorem sub_b {env env' : Env} {t : Nat} {a b : Bool} (h : env.get t = some (.pv (.base (.bool a)))) (e : a = b) (hs : Sub env env') : Sub env ((t, .pv (.base (.bool b))) :: env') := sub_cons (by rw [h, e]) hs

theorem retq {tb : Tab} {rs : List ResultVar} {r : PV} {env : Env} {H : HEnv} {ps : List PV} (h : resEs tb H env rs = some ps) (hr : retPV ps = r) : RetQ tb rs r .ret env H := ⟨.inr rfl, env, .refl env, ps, h, hr⟩
theorem retn {tb : Tab} {rs : List ResultVar} {r : PV} {env : Env} {H : HEnv} {ps : List PV} (h : resEs tb H env rs = some ps) (hr : retPV ps = r) : RetQ tb rs r .normal env H := ⟨.inl rfl, env, .refl env, ps, h, hr⟩
/-- A slot told in a weaker way, and then the end. -/
theorem retq_w {tb : Tab} {rs : List ResultVar} {r : PV} {env : Env} {H : HEnv} {ps : List PV} {t : Nat} {a b : AV} (he : env.get t = some a) (ht : Tells a b) (h : resEs tb H ((t, b) :: env) rs = some ps) (hr : retPV ps = r) : RetQ tb rs r .ret env H := ⟨.inr rfl, _, .one he ht, ps, h, hr⟩
theorem ad_case {P : Program} {n : Nat} {g : Base} {H : HEnv} {ops l : List Oper} {Q : Env → Prop} {o : Oper} {t : Nat} {env : Env} {b : Bool} (_ : guardVar ops o = some t) (hb : env.get t = some (.pv (.base (.bool b))))
    (h1 : b = true → AD P n g H ops Q (o :: l) ((t, .pv (.base (.bool true))) :: env)) (h2 : b = false → AD P n g H ops Q (o :: l) ((t, .pv (.base (.bool false))) :: env)) : AD P n g H ops Q (o :: l) env := .case _ _ _ _ hb h1 h2

theorem tyEq_iff (a b : Ty) : (a.kind == b.kind && (a.index == b.index && (a.dims == b.dims && (a.ref == b.ref && true)))) = decide (a = b) := by
  obtain ⟨a1, a2, a3, a4⟩ := a; obtain ⟨b1, b2, b3, b4⟩ := b
  simp [Ty.mk.injEq, Bool.beq_eq_decide_eq, ← Bool.decide_and]
/-! The walk's tactics, each written once: the step is looked for where the lemma is used. -/
theorem sA {Q P : Prop} (k : Q) (h : Q → P := by
    intro k
    first
    | (refine ao_sh_store ?_; first | exact ao_store tbOK rfl rfl rfl rfl rfl rfl rfl rfl rfl k)
    | (refine ao_sh_alloc ?_; first | exact ao_alloc tbOK 0 rfl rfl rfl rfl rfl rfl rfl k | exact ao_alloc tbOK 1 rfl rfl rfl rfl rfl rfl rfl k | exact ao_alloc tbOK 2 rfl rfl rfl rfl rfl rfl rfl k | exact ao_alloc tbOK 3 rfl rfl rfl rfl rfl rfl rfl k | exact ao_alloc tbOK 4 rfl rfl rfl rfl rfl rfl rfl k | exact ao_alloc tbOK 5 rfl rfl rfl rfl rfl rfl rfl k)
    | (refine ao_id ?_; first | exact ao_step tbOK rfl rfl rfl rfl k | exact ao_nil k | exact ao_skip rfl rfl rfl k | (refine ao_caseB true rfl rfl ?_ k; (assumption)) | (refine ao_caseB false rfl rfl ?_ k; (assumption)))
    | (refine ad_id ?_; first | exact AD.step _ _ _ _ _ rfl (opE_sound tbOK rfl) rfl rfl k | exact AD.nil _ k | exact AD.skip _ _ _ _ rfl rfl rfl k | (refine ad_caseB true rfl rfl ?_ k; (assumption)) | (refine ad_caseB false rfl rfl ?_ k; (assumption)))
    | exact aw_seq k | exact aw_region k | exact aw_block k
    | (refine aw_sh_cond ?_; first | exact aw_cond_true rfl k | exact aw_cond_false rfl k | (refine aw_condT rfl ?_ k; (assumption)) | (refine aw_condF rfl ?_ k; (assumption)))
    | exact aw_skip k | exact aw_exit k | exact aw_ret k | exact aw_draw (by kernel_rfl) (by kernel_rfl) k | fail) : P := h k
theorem sK {Q P : Prop} (k : Q) (h : Q → P := by
    intro k
    first
    | (refine ao_sh_store ?_; first | exact ao_store tbOK rfl rfl rfl rfl rfl rfl rfl rfl rfl k)
    | (refine ao_sh_alloc ?_; first | exact ao_alloc tbOK 0 rfl rfl rfl rfl rfl rfl rfl k | exact ao_alloc tbOK 1 rfl rfl rfl rfl rfl rfl rfl k | exact ao_alloc tbOK 2 rfl rfl rfl rfl rfl rfl rfl k | exact ao_alloc tbOK 3 rfl rfl rfl rfl rfl rfl rfl k | exact ao_alloc tbOK 4 rfl rfl rfl rfl rfl rfl rfl k | exact ao_alloc tbOK 5 rfl rfl rfl rfl rfl rfl rfl k)
    | (refine ao_id ?_; first | exact ao_step tbOK rfl rfl rfl rfl k | exact ao_nil k | exact ao_skip rfl rfl rfl k | (refine ao_caseB true rfl rfl ?_ k; (first | assumption | (simp <;> omega))) | (refine ao_caseB false rfl rfl ?_ k; (first | assumption | (simp <;> omega))))
    | (refine ad_id ?_; first | exact AD.step _ _ _ _ _ rfl (opE_sound tbOK rfl) rfl rfl k | exact AD.nil _ k | exact AD.skip _ _ _ _ rfl rfl rfl k | (refine ad_caseB true rfl rfl ?_ k; (first | assumption | (simp <;> omega))) | (refine ad_caseB false rfl rfl ?_ k; (first | assumption | (simp <;> omega))))
    | exact aw_seq k | exact aw_region k | exact aw_block k
    | (refine aw_sh_cond ?_; first | exact aw_cond_true rfl k | exact aw_cond_false rfl k | (refine aw_condT rfl ?_ k; (first | assumption | (simp <;> omega))) | (refine aw_condF rfl ?_ k; (first | assumption | (simp <;> omega))))
    | exact aw_skip k | exact aw_exit k | exact aw_ret k | exact aw_draw (by kernel_rfl) (by kernel_rfl) k | fail) : P := h k
theorem sC {P A B C D : Prop} (x : A → B) (y : C → D) (h : (A → B) → (C → D) → P := by
    intro x y; first | exact ao_case rfl rfl x y | exact ad_case rfl rfl x y | exact aw_cond rfl x y | fail) : P := h x y
theorem shC {Q P : Prop} (k : Q) (h : Q → P := by intro k; first | exact ao_sh_call k | exact ad_sh_call k | fail) : P := h k
theorem shX {Q P : Prop} (k : Q) (h : Q → P := by intro k; first | exact ao_sh_ix k | exact ad_sh_ix k | fail) : P := h k
theorem shI {Q P : Prop} (k : Q) (h : Q → P := by intro k; first | exact ao_sh_index k | exact ad_sh_index k | fail) : P := h k
theorem qC {Q P C : Prop} (c : C) (k : Q) (h : C → Q → P := by intro c k; first | exact ao_q rfl (q_call rfl rfl c) rfl rfl k | exact AD.step _ _ _ _ _ rfl (q_call rfl rfl c) rfl rfl k | fail) : P := h c k
theorem qV {Q P C : Prop} (c : C) (k : Q) (h : C → Q → P := by intro c k; first | exact ao_q rfl (q_callv rfl rfl rfl c) rfl rfl k | exact AD.step _ _ _ _ _ rfl (q_callv rfl rfl rfl c) rfl rfl k | fail) : P := h c k
theorem qX {Q P E : Prop} (e : E) (k : Q) (h : E → Q → P := by intro he k; first | exact ao_q rfl (q_index tbOK rfl rfl rfl rfl rfl rfl (by omega) he) rfl rfl k | exact AD.step _ _ _ _ _ rfl (q_index tbOK rfl rfl rfl rfl rfl rfl (by omega) he) rfl rfl k | fail) : P := h e k
theorem tS {P : Prop} (h : P := by repeat (first | exact sub_nil | refine sub_cons rfl ?_ | (refine sub_i rfl ?_ ?_; · (first | (rw [wrap_in (by omega) (by omega)] <;> omega) | (dsimp only; rw [wrap_in (by omega) (by omega)] <;> omega) | (simp; done))))) : P := h
theorem tH {A : Prop} {α : Type} {x y : α} (h : A := by repeat (first | exact hsub_nil | refine hsub_cons rfl ?_)) (e : x = y := by rfl) : A ∧ x = y := ⟨h, e⟩
theorem tD {P : Prop} (h : P := by dsimp only; omega) : P := h
end Go.Cg
namespace Go.Cg
open Go.Proofs
def tb : Tab := .node 123 ⟨3, 32, some (.agg #[.string ByteArray.empty, .int .i64 0, .int .i64 0]), .agg [(0, 9, 1), (1, 3, 1), (2, 3, 1)] true⟩
 (.node 61 ⟨1, 8, some (.nilFunc), .scalar⟩
  (.node 30 ⟨1, 8, some (.int .i64 0), .int .i64⟩
   (.node 15 ⟨1, 8, some (.pointer none), .ptr 234⟩
    (.node 7 ⟨4, 24, some (.agg #[.int .i64 0, .int .i64 0, .bool false, .int .u8 0]), .agg [(0, 2, 1), (1, 3, 1), (2, 4, 1), (3, 6, 1)] true⟩
     (.node 3 ⟨1, 8, some (.int .i64 0), .int .i64⟩
      (.node 1 ⟨1, 8, some (.nilFunc), .scalar⟩
       (.node 0 ⟨1, 0, some (.tuple #[]), .scalar⟩
        (.leaf)
        (.leaf))
       (.node 2 ⟨1, 8, some (.int .i64 0), .int .i64⟩
        (.leaf)
        (.leaf)))
      (.node 5 ⟨1, 1, some (.int .u8 0), .int .u8⟩
       (.node 4 ⟨1, 1, some (.bool false), .bool⟩
        (.leaf)
        (.leaf))
       (.node 6 ⟨1, 1, some (.int .u8 0), .int .u8⟩
        (.leaf)
        (.leaf))))
     (.node 11 ⟨1, 16, some (.string ByteArray.empty), .str⟩
      (.node 9 ⟨1, 16, some (.string ByteArray.empty), .str⟩
       (.node 8 ⟨4, 24, some (.agg #[.int .i64 0, .int .i64 0, .bool false, .int .u8 0]), .agg [(0, 2, 1), (1, 3, 1), (2, 4, 1), (3, 6, 1)] true⟩
        (.leaf)
        (.leaf))
       (.node 10 ⟨1, 16, some (.string ByteArray.empty), .str⟩
        (.leaf)
        (.leaf)))
      (.node 13 ⟨2, 24, some (.agg #[.string ByteArray.empty, .int .u64 0]), .agg [(0, 9, 1), (1, 12, 1)] false⟩
       (.node 12 ⟨1, 8, some (.int .u64 0), .int .u64⟩
        (.leaf)
        (.leaf))
       (.node 14 ⟨2, 24, some (.agg #[.string ByteArray.empty, .int .u64 0]), .agg [(0, 9, 1), (1, 12, 1)] false⟩
        (.leaf)
        (.leaf)))))
    (.node 23 ⟨1, 24, some (.slice none 0 0), .sl 50⟩
     (.node 19 ⟨1, 8, some (.agg #[.pointer none]), .agg [(0, 17, 1)] false⟩
      (.node 17 ⟨1, 8, some (.pointer none), .ptr 245⟩
       (.node 16 ⟨1, 8, some (.pointer none), .ptr 237⟩
        (.leaf)
        (.leaf))
       (.node 18 ⟨1, 8, some (.agg #[.pointer none]), .agg [(0, 17, 1)] false⟩
        (.leaf)
        (.leaf)))
      (.node 21 ⟨1, 4, some (.int .i32 0), .int .i32⟩
       (.node 20 ⟨1, 16, some (.nilIface), .scalar⟩
        (.leaf)
        (.leaf))
       (.node 22 ⟨1, 24, some (.slice none 0 0), .sl 38⟩
        (.leaf)
        (.leaf))))
     (.node 27 ⟨1, 8, some (.nilFunc), .scalar⟩
      (.node 25 ⟨4, 80, some (.agg #[.slice none 0 0, .slice none 0 0, .slice none 0 0, .int .i64 0]), .agg [(0, 22, 1), (1, 23, 1), (2, 24, 1), (3, 3, 1)] true⟩
       (.node 24 ⟨1, 24, some (.slice none 0 0), .sl 65⟩
        (.leaf)
        (.leaf))
       (.node 26 ⟨4, 80, some (.agg #[.slice none 0 0, .slice none 0 0, .slice none 0 0, .int .i64 0]), .agg [(0, 22, 1), (1, 23, 1), (2, 24, 1), (3, 3, 1)] true⟩
        (.leaf)
        (.leaf)))
      (.node 29 ⟨1, 8, some (.nilFunc), .scalar⟩
       (.node 28 ⟨1, 8, some (.nilFunc), .scalar⟩
        (.leaf)
        (.leaf))
       (.leaf)))))
   (.node 46 ⟨1, 8, some (.nilFunc), .scalar⟩
    (.node 38 ⟨4, 56, some (.agg #[.string ByteArray.empty, .int .i64 0, .int .i64 0, .slice none 0 0]), .agg [(0, 9, 1), (1, 3, 1), (2, 3, 1), (3, 36, 1)] true⟩
     (.node 34 ⟨1, 8, some (.nilFunc), .scalar⟩
      (.node 32 ⟨1, 8, some (.nilFunc), .scalar⟩
       (.node 31 ⟨1, 0, some (.tuple #[.int .i64 0, .int .i64 0]), .scalar⟩
        (.leaf)
        (.leaf))
       (.node 33 ⟨1, 0, some (.tuple #[.int .i64 0, .int .i64 0]), .scalar⟩
        (.leaf)
        (.leaf)))
      (.node 36 ⟨1, 24, some (.slice none 0 0), .sl 3⟩
       (.node 35 ⟨1, 8, some (.nilFunc), .scalar⟩
        (.leaf)
        (.leaf))
       (.node 37 ⟨4, 56, some (.agg #[.string ByteArray.empty, .int .i64 0, .int .i64 0, .slice none 0 0]), .agg [(0, 9, 1), (1, 3, 1), (2, 3, 1), (3, 36, 1)] true⟩
        (.leaf)
        (.leaf))))
     (.node 42 ⟨1, 8, some (.nilFunc), .scalar⟩
      (.node 40 ⟨1, 8, some (.nilFunc), .scalar⟩
       (.node 39 ⟨1, 24, some (.slice none 0 0), .sl 48⟩
        (.leaf)
        (.leaf))
       (.node 41 ⟨1, 8, some (.nilFunc), .scalar⟩
        (.leaf)
        (.leaf)))
      (.node 44 ⟨1, 8, some (.nilFunc), .scalar⟩
       (.node 43 ⟨1, 8, some (.nilFunc), .scalar⟩
        (.leaf)
        (.leaf))
       (.node 45 ⟨1, 8, some (.nilFunc), .scalar⟩
        (.leaf)
        (.leaf)))))
    (.node 54 ⟨1, 8, some (.nilFunc), .scalar⟩
     (.node 50 ⟨7, 64, some (.agg #[.string ByteArray.empty, .int .i64 0, .int .i64 0, .int .i64 0, .int .i64 0, .bool false, .bool false]), .agg [(0, 9, 1), (1, 3, 1), (2, 48, 4), (6, 4, 1)] true⟩
      (.node 48 ⟨4, 32, some (.agg #[.int .i64 0, .int .i64 0, .int .i64 0, .bool false]), .agg [(0, 3, 1), (1, 3, 1), (2, 3, 1), (3, 4, 1)] true⟩
       (.node 47 ⟨4, 32, some (.agg #[.int .i64 0, .int .i64 0, .int .i64 0, .bool false]), .agg [(0, 3, 1), (1, 3, 1), (2, 3, 1), (3, 4, 1)] true⟩
        (.leaf)
        (.leaf))
       (.node 49 ⟨7, 64, some (.agg #[.string ByteArray.empty, .int .i64 0, .int .i64 0, .int .i64 0, .int .i64 0, .bool false, .bool false]), .agg [(0, 9, 1), (1, 3, 1), (2, 48, 4), (6, 4, 1)] true⟩
        (.leaf)
        (.leaf)))
      (.node 52 ⟨1, 8, some (.nilFunc), .scalar⟩
       (.node 51 ⟨1, 8, some (.nilFunc), .scalar⟩
        (.leaf)
        (.leaf))
       (.node 53 ⟨1, 8, some (.nilFunc), .scalar⟩
        (.leaf)
        (.leaf))))
     (.node 58 ⟨1, 8, some (.nilFunc), .scalar⟩
      (.node 56 ⟨2, 16, some (.agg #[.int .i64 0, .int .i64 0]), .agg [(0, 3, 1), (1, 3, 1)] true⟩
       (.node 55 ⟨2, 16, some (.agg #[.int .i64 0, .int .i64 0]), .agg [(0, 3, 1), (1, 3, 1)] true⟩
        (.leaf)
        (.leaf))
       (.node 57 ⟨1, 0, some (.tuple #[.agg #[.int .i64 0, .int .i64 0], .int .i64 0]), .scalar⟩
        (.leaf)
        (.leaf)))
      (.node 60 ⟨1, 8, some (.nilFunc), .scalar⟩
       (.node 59 ⟨1, 0, some (.tuple #[.agg #[.int .i64 0, .int .i64 0], .int .i64 0]), .scalar⟩
        (.leaf)
        (.leaf))
       (.leaf))))))
  (.node 92 ⟨1, 8, some (.nilFunc), .scalar⟩
   (.node 77 ⟨1, 8, some (.nilFunc), .scalar⟩
    (.node 69 ⟨1, 8, some (.nilFunc), .scalar⟩
     (.node 65 ⟨12, 168, some (.agg #[.string ByteArray.empty, .int .i64 0, .int .i64 0, .slice none 0 0, .int .i64 0, .int .i64 0, .int .i64 0, .bool false, .slice none 0 0, .int .i64 0, .slice none 0 0, .slice none 0 0]), .agg [(0, 9, 1), (1, 3, 1), (2, 3, 1), (3, 39, 1), (4, 48, 4), (8, 39, 1), (9, 3, 1), (10, 62, 1), (11, 63, 1)] true⟩
      (.node 63 ⟨1, 24, some (.slice none 0 0), .sl 113⟩
       (.node 62 ⟨1, 24, some (.slice none 0 0), .sl 119⟩
        (.leaf)
        (.leaf))
       (.node 64 ⟨12, 168, some (.agg #[.string ByteArray.empty, .int .i64 0, .int .i64 0, .slice none 0 0, .int .i64 0, .int .i64 0, .int .i64 0, .bool false, .slice none 0 0, .int .i64 0, .slice none 0 0, .slice none 0 0]), .agg [(0, 9, 1), (1, 3, 1), (2, 3, 1), (3, 39, 1), (4, 48, 4), (8, 39, 1), (9, 3, 1), (10, 62, 1), (11, 63, 1)] true⟩
        (.leaf)
        (.leaf)))
      (.node 67 ⟨1, 2, some (.int .u16 0), .int .u16⟩
       (.node 66 ⟨1, 8, some (.nilFunc), .scalar⟩
        (.leaf)
        (.leaf))
       (.node 68 ⟨1, 24, some (.slice none 0 0), .sl 75⟩
        (.leaf)
        (.leaf))))
     (.node 73 ⟨1, 24, some (.slice none 0 0), .sl 72⟩
      (.node 71 ⟨1, 8, some (.nilFunc), .scalar⟩
       (.node 70 ⟨1, 8, some (.pointer none), .ptr 101⟩
        (.leaf)
        (.leaf))
       (.node 72 ⟨1, 8, some (.int .u64 0), .int .u64⟩
        (.leaf)
        (.leaf)))
      (.node 75 ⟨9, 88, some (.agg #[.int .i64 0, .int .i64 0, .int .i64 0, .int .i64 0, .int .i64 0, .bool false, .int .u64 0, .int .u64 0, .slice none 0 0]), .agg [(0, 3, 1), (1, 3, 1), (2, 48, 4), (6, 72, 1), (7, 72, 1), (8, 73, 1)] true⟩
       (.node 74 ⟨9, 88, some (.agg #[.int .i64 0, .int .i64 0, .int .i64 0, .int .i64 0, .int .i64 0, .bool false, .int .u64 0, .int .u64 0, .slice none 0 0]), .agg [(0, 3, 1), (1, 3, 1), (2, 48, 4), (6, 72, 1), (7, 72, 1), (8, 73, 1)] true⟩
        (.leaf)
        (.leaf))
       (.node 76 ⟨1, 8, some (.nilFunc), .scalar⟩
        (.leaf)
        (.leaf)))))
    (.node 85 ⟨1, 8, some (.nilFunc), .scalar⟩
     (.node 81 ⟨1, 8, some (.nilFunc), .scalar⟩
      (.node 79 ⟨1, 8, some (.nilFunc), .scalar⟩
       (.node 78 ⟨1, 8, some (.nilFunc), .scalar⟩
        (.leaf)
        (.leaf))
       (.node 80 ⟨1, 8, some (.nilFunc), .scalar⟩
        (.leaf)
        (.leaf)))
      (.node 83 ⟨1, 8, some (.nilFunc), .scalar⟩
       (.node 82 ⟨1, 8, some (.nilFunc), .scalar⟩
        (.leaf)
        (.leaf))
       (.node 84 ⟨1, 8, some (.nilFunc), .scalar⟩
        (.leaf)
        (.leaf))))
     (.node 89 ⟨1, 8, some (.nilFunc), .scalar⟩
      (.node 87 ⟨1, 8, some (.nilFunc), .scalar⟩
       (.node 86 ⟨1, 8, some (.nilFunc), .scalar⟩
        (.leaf)
        (.leaf))
       (.node 88 ⟨1, 8, some (.nilFunc), .scalar⟩
        (.leaf)
        (.leaf)))
      (.node 91 ⟨1, 8, some (.nilFunc), .scalar⟩
       (.node 90 ⟨1, 8, some (.nilFunc), .scalar⟩
        (.leaf)
        (.leaf))
       (.leaf)))))
   (.node 108 ⟨1, 8, some (.nilFunc), .scalar⟩
    (.node 100 ⟨8, 112, some (.agg #[.slice none 0 0, .slice none 0 0, .slice none 0 0, .map none, .int .u64 0, .int .u64 0, .int .u64 0, .int .i64 0]), .agg [(0, 73, 1), (1, 99, 1), (2, 36, 1), (3, 98, 1), (4, 72, 1), (5, 72, 1), (6, 72, 1), (7, 3, 1)] true⟩
     (.node 96 ⟨1, 8, some (.nilFunc), .scalar⟩
      (.node 94 ⟨1, 8, some (.nilFunc), .scalar⟩
       (.node 93 ⟨1, 8, some (.nilFunc), .scalar⟩
        (.leaf)
        (.leaf))
       (.node 95 ⟨1, 8, some (.nilFunc), .scalar⟩
        (.leaf)
        (.leaf)))
      (.node 98 ⟨1, 8, some (.map none), .map 48 3⟩
       (.node 97 ⟨1, 8, some (.nilFunc), .scalar⟩
        (.leaf)
        (.leaf))
       (.node 99 ⟨1, 24, some (.slice none 0 0), .sl 39⟩
        (.leaf)
        (.leaf))))
     (.node 104 ⟨1, 8, some (.int .u64 0), .int .u64⟩
      (.node 102 ⟨1, 8, some (.nilFunc), .scalar⟩
       (.node 101 ⟨8, 112, some (.agg #[.slice none 0 0, .slice none 0 0, .slice none 0 0, .map none, .int .u64 0, .int .u64 0, .int .u64 0, .int .i64 0]), .agg [(0, 73, 1), (1, 99, 1), (2, 36, 1), (3, 98, 1), (4, 72, 1), (5, 72, 1), (6, 72, 1), (7, 3, 1)] true⟩
        (.leaf)
        (.leaf))
       (.node 103 ⟨1, 8, some (.nilFunc), .scalar⟩
        (.leaf)
        (.leaf)))
      (.node 106 ⟨1, 8, some (.nilFunc), .scalar⟩
       (.node 105 ⟨1, 8, some (.nilFunc), .scalar⟩
        (.leaf)
        (.leaf))
       (.node 107 ⟨1, 8, some (.nilFunc), .scalar⟩
        (.leaf)
        (.leaf)))))
    (.node 116 ⟨1, 8, some (.nilFunc), .scalar⟩
     (.node 112 ⟨10, 80, some (.agg #[.int .i64 0, .int .i64 0, .int .i64 0, .int .i64 0, .int .i64 0, .int .i64 0, .int .i64 0, .int .i64 0, .int .i64 0, .bool false]), .agg [(0, 3, 1), (1, 3, 1), (2, 3, 1), (3, 3, 1), (4, 3, 1), (5, 3, 1), (6, 48, 4)] true⟩
      (.node 110 ⟨1, 8, some (.nilFunc), .scalar⟩
       (.node 109 ⟨1, 8, some (.nilFunc), .scalar⟩
        (.leaf)
        (.leaf))
       (.node 111 ⟨1, 8, some (.nilFunc), .scalar⟩
        (.leaf)
        (.leaf)))
      (.node 114 ⟨1, 8, some (.nilFunc), .scalar⟩
       (.node 113 ⟨10, 80, some (.agg #[.int .i64 0, .int .i64 0, .int .i64 0, .int .i64 0, .int .i64 0, .int .i64 0, .int .i64 0, .int .i64 0, .int .i64 0, .bool false]), .agg [(0, 3, 1), (1, 3, 1), (2, 3, 1), (3, 3, 1), (4, 3, 1), (5, 3, 1), (6, 48, 4)] true⟩
        (.leaf)
        (.leaf))
       (.node 115 ⟨1, 8, some (.nilFunc), .scalar⟩
        (.leaf)
        (.leaf))))
     (.node 120 ⟨1, 8, some (.nilFunc), .scalar⟩
      (.node 118 ⟨6, 48, some (.agg #[.int .i64 0, .int .i64 0, .int .i64 0, .int .i64 0, .int .i64 0, .bool false]), .agg [(0, 3, 1), (1, 2, 1), (2, 48, 4)] true⟩
       (.node 117 ⟨1, 8, some (.nilFunc), .scalar⟩
        (.leaf)
        (.leaf))
       (.node 119 ⟨6, 48, some (.agg #[.int .i64 0, .int .i64 0, .int .i64 0, .int .i64 0, .int .i64 0, .bool false]), .agg [(0, 3, 1), (1, 2, 1), (2, 48, 4)] true⟩
        (.leaf)
        (.leaf)))
      (.node 122 ⟨3, 32, some (.agg #[.string ByteArray.empty, .int .i64 0, .int .i64 0]), .agg [(0, 9, 1), (1, 3, 1), (2, 3, 1)] true⟩
       (.node 121 ⟨1, 8, some (.nilFunc), .scalar⟩
        (.leaf)
        (.leaf))
       (.leaf)))))))
 (.node 185 ⟨1, 8, some (.nilFunc), .scalar⟩
  (.node 154 ⟨1, 8, some (.nilFunc), .scalar⟩
   (.node 139 ⟨1, 8, some (.nilFunc), .scalar⟩
    (.node 131 ⟨1, 8, some (.pointer none), .ptr 133⟩
     (.node 127 ⟨1, 8, some (.nilFunc), .scalar⟩
      (.node 125 ⟨1, 8, some (.nilFunc), .scalar⟩
       (.node 124 ⟨1, 0, some (.tuple #[.agg #[.string ByteArray.empty, .int .i64 0, .int .i64 0], .int .i64 0]), .scalar⟩
        (.leaf)
        (.leaf))
       (.node 126 ⟨1, 8, some (.nilFunc), .scalar⟩
        (.leaf)
        (.leaf)))
      (.node 129 ⟨1, 0, some (.tuple #[.agg #[.string ByteArray.empty, .int .i64 0, .int .i64 0], .int .i64 0]), .scalar⟩
       (.node 128 ⟨1, 8, some (.nilFunc), .scalar⟩
        (.leaf)
        (.leaf))
       (.node 130 ⟨1, 8, some (.nilFunc), .scalar⟩
        (.leaf)
        (.leaf))))
     (.node 135 ⟨5, 88, some (.agg #[.pointer none, .slice none 0 0, .slice none 0 0, .slice none 0 0, .int .i64 0]), .agg [(0, 131, 1), (1, 26, 4)] true⟩
      (.node 133 ⟨1, 24, some (.agg #[.slice none 0 0]), .agg [(0, 36, 1)] true⟩
       (.node 132 ⟨1, 24, some (.agg #[.slice none 0 0]), .agg [(0, 36, 1)] true⟩
        (.leaf)
        (.leaf))
       (.node 134 ⟨5, 88, some (.agg #[.pointer none, .slice none 0 0, .slice none 0 0, .slice none 0 0, .int .i64 0]), .agg [(0, 131, 1), (1, 26, 4)] true⟩
        (.leaf)
        (.leaf)))
      (.node 137 ⟨1, 8, some (.nilFunc), .scalar⟩
       (.node 136 ⟨1, 8, some (.nilFunc), .scalar⟩
        (.leaf)
        (.leaf))
       (.node 138 ⟨1, 8, some (.nilFunc), .scalar⟩
        (.leaf)
        (.leaf)))))
    (.node 147 ⟨1, 8, some (.nilFunc), .scalar⟩
     (.node 143 ⟨1, 8, some (.nilFunc), .scalar⟩
      (.node 141 ⟨1, 8, some (.nilFunc), .scalar⟩
       (.node 140 ⟨4, 32, some (.agg #[.int .i64 0, .int .i64 0, .int .i64 0, .bool false]), .agg [(0, 3, 1), (1, 3, 1), (2, 3, 1), (3, 4, 1)] true⟩
        (.leaf)
        (.leaf))
       (.node 142 ⟨1, 8, some (.nilFunc), .scalar⟩
        (.leaf)
        (.leaf)))
      (.node 145 ⟨1, 8, some (.nilFunc), .scalar⟩
       (.node 144 ⟨1, 8, some (.nilFunc), .scalar⟩
        (.leaf)
        (.leaf))
       (.node 146 ⟨1, 8, some (.nilFunc), .scalar⟩
        (.leaf)
        (.leaf))))
     (.node 151 ⟨1, 8, some (.nilFunc), .scalar⟩
      (.node 149 ⟨1, 8, some (.nilFunc), .scalar⟩
       (.node 148 ⟨1, 8, some (.nilFunc), .scalar⟩
        (.leaf)
        (.leaf))
       (.node 150 ⟨1, 8, some (.nilFunc), .scalar⟩
        (.leaf)
        (.leaf)))
      (.node 153 ⟨1, 8, some (.nilFunc), .scalar⟩
       (.node 152 ⟨1, 8, some (.nilFunc), .scalar⟩
        (.leaf)
        (.leaf))
       (.leaf)))))
   (.node 170 ⟨1, 8, some (.nilFunc), .scalar⟩
    (.node 162 ⟨1, 8, some (.nilFunc), .scalar⟩
     (.node 158 ⟨1, 8, some (.nilFunc), .scalar⟩
      (.node 156 ⟨1, 8, some (.map none), .map 3 3⟩
       (.node 155 ⟨1, 8, some (.nilFunc), .scalar⟩
        (.leaf)
        (.leaf))
       (.node 157 ⟨1, 8, some (.nilFunc), .scalar⟩
        (.leaf)
        (.leaf)))
      (.node 160 ⟨1, 8, some (.nilFunc), .scalar⟩
       (.node 159 ⟨1, 8, some (.nilFunc), .scalar⟩
        (.leaf)
        (.leaf))
       (.node 161 ⟨1, 8, some (.nilFunc), .scalar⟩
        (.leaf)
        (.leaf))))
     (.node 166 ⟨1, 8, some (.nilFunc), .scalar⟩
      (.node 164 ⟨1, 24, some (.slice none 0 0), .sl 5⟩
       (.node 163 ⟨1, 8, some (.nilFunc), .scalar⟩
        (.leaf)
        (.leaf))
       (.node 165 ⟨1, 0, some (.tuple #[.slice none 0 0, .int .i64 0]), .scalar⟩
        (.leaf)
        (.leaf)))
      (.node 168 ⟨1, 8, some (.nilFunc), .scalar⟩
       (.node 167 ⟨1, 8, some (.nilFunc), .scalar⟩
        (.leaf)
        (.leaf))
       (.node 169 ⟨1, 8, some (.nilFunc), .scalar⟩
        (.leaf)
        (.leaf)))))
    (.node 178 ⟨1, 8, some (.int .i64 0), .int .i64⟩
     (.node 174 ⟨1, 0, some (.tuple #[.int .i64 0, .int .i64 0]), .scalar⟩
      (.node 172 ⟨1, 8, some (.nilFunc), .scalar⟩
       (.node 171 ⟨1, 8, some (.nilFunc), .scalar⟩
        (.leaf)
        (.leaf))
       (.node 173 ⟨1, 8, some (.nilFunc), .scalar⟩
        (.leaf)
        (.leaf)))
      (.node 176 ⟨1, 8, some (.nilFunc), .scalar⟩
       (.node 175 ⟨1, 8, some (.nilFunc), .scalar⟩
        (.leaf)
        (.leaf))
       (.node 177 ⟨1, 8, some (.nilFunc), .scalar⟩
        (.leaf)
        (.leaf))))
     (.node 182 ⟨1, 8, some (.nilFunc), .scalar⟩
      (.node 180 ⟨1, 8, some (.nilFunc), .scalar⟩
       (.node 179 ⟨1, 0, some (.tuple #[.int .i64 0, .int .i64 0]), .scalar⟩
        (.leaf)
        (.leaf))
       (.node 181 ⟨1, 8, some (.nilFunc), .scalar⟩
        (.leaf)
        (.leaf)))
      (.node 184 ⟨1, 8, some (.nilFunc), .scalar⟩
       (.node 183 ⟨1, 0, some (.tuple #[.int .i64 0, .bool false]), .scalar⟩
        (.leaf)
        (.leaf))
       (.leaf))))))
  (.node 216 ⟨1, 8, some (.nilFunc), .scalar⟩
   (.node 201 ⟨1, 8, some (.nilFunc), .scalar⟩
    (.node 193 ⟨1, 8, some (.nilFunc), .scalar⟩
     (.node 189 ⟨1, 8, some (.nilFunc), .scalar⟩
      (.node 187 ⟨1, 8, some (.nilFunc), .scalar⟩
       (.node 186 ⟨1, 4, some (.int .u32 0), .int .u32⟩
        (.leaf)
        (.leaf))
       (.node 188 ⟨1, 8, some (.nilFunc), .scalar⟩
        (.leaf)
        (.leaf)))
      (.node 191 ⟨1, 8, some (.nilFunc), .scalar⟩
       (.node 190 ⟨1, 8, some (.nilFunc), .scalar⟩
        (.leaf)
        (.leaf))
       (.node 192 ⟨1, 8, some (.nilFunc), .scalar⟩
        (.leaf)
        (.leaf))))
     (.node 197 ⟨1, 8, some (.nilFunc), .scalar⟩
      (.node 195 ⟨1, 8, some (.int .u64 0), .int .u64⟩
       (.node 194 ⟨1, 8, some (.nilFunc), .scalar⟩
        (.leaf)
        (.leaf))
       (.node 196 ⟨1, 8, some (.nilFunc), .scalar⟩
        (.leaf)
        (.leaf)))
      (.node 199 ⟨1, 8, some (.nilFunc), .scalar⟩
       (.node 198 ⟨1, 8, some (.pointer none), .ptr 3⟩
        (.leaf)
        (.leaf))
       (.node 200 ⟨1, 8, some (.nilFunc), .scalar⟩
        (.leaf)
        (.leaf)))))
    (.node 209 ⟨1, 8, some (.nilFunc), .scalar⟩
     (.node 205 ⟨2, 16, some (.agg #[.int .i64 0, .int .i64 0]), .agg [(0, 3, 1), (1, 3, 1)] true⟩
      (.node 203 ⟨1, 8, some (.nilFunc), .scalar⟩
       (.node 202 ⟨1, 8, some (.nilFunc), .scalar⟩
        (.leaf)
        (.leaf))
       (.node 204 ⟨1, 8, some (.nilFunc), .scalar⟩
        (.leaf)
        (.leaf)))
      (.node 207 ⟨1, 8, some (.nilFunc), .scalar⟩
       (.node 206 ⟨2, 16, some (.agg #[.int .i64 0, .int .i64 0]), .agg [(0, 3, 1), (1, 3, 1)] true⟩
        (.leaf)
        (.leaf))
       (.node 208 ⟨1, 24, some (.slice none 0 0), .sl 213⟩
        (.leaf)
        (.leaf))))
     (.node 213 ⟨4, 32, some (.agg #[.int .i64 0, .int .i64 0, .int .i64 0, .int .i64 0]), .agg [(0, 211, 2), (2, 206, 2)] true⟩
      (.node 211 ⟨2, 16, some (.agg #[.int .i64 0, .int .i64 0]), .agg [(0, 3, 1), (1, 3, 1)] true⟩
       (.node 210 ⟨2, 16, some (.agg #[.int .i64 0, .int .i64 0]), .agg [(0, 3, 1), (1, 3, 1)] true⟩
        (.leaf)
        (.leaf))
       (.node 212 ⟨4, 32, some (.agg #[.int .i64 0, .int .i64 0, .int .i64 0, .int .i64 0]), .agg [(0, 211, 2), (2, 206, 2)] true⟩
        (.leaf)
        (.leaf)))
      (.node 215 ⟨1, 8, some (.nilFunc), .scalar⟩
       (.node 214 ⟨1, 8, some (.nilFunc), .scalar⟩
        (.leaf)
        (.leaf))
       (.leaf)))))
   (.node 232 ⟨1, 8, some (.nilFunc), .scalar⟩
    (.node 224 ⟨5, 20, some (.agg #[.int .u32 0, .int .u32 0, .int .u32 0, .int .u32 0, .int .u32 0]), .arr 5 186⟩
     (.node 220 ⟨1, 8, some (.pointer none), .ptr 195⟩
      (.node 218 ⟨1, 8, some (.nilFunc), .scalar⟩
       (.node 217 ⟨1, 8, some (.nilFunc), .scalar⟩
        (.leaf)
        (.leaf))
       (.node 219 ⟨1, 8, some (.nilFunc), .scalar⟩
        (.leaf)
        (.leaf)))
      (.node 222 ⟨1, 0, some (.tuple #[.int .u64 0, .int .u64 0]), .scalar⟩
       (.node 221 ⟨1, 8, some (.nilFunc), .scalar⟩
        (.leaf)
        (.leaf))
       (.node 223 ⟨1, 8, some (.nilFunc), .scalar⟩
        (.leaf)
        (.leaf))))
     (.node 228 ⟨1, 0, some (.tuple #[.int .u32 0, .int .u32 0]), .scalar⟩
      (.node 226 ⟨1, 8, some (.nilFunc), .scalar⟩
       (.node 225 ⟨1, 8, some (.nilFunc), .scalar⟩
        (.leaf)
        (.leaf))
       (.node 227 ⟨1, 8, some (.nilFunc), .scalar⟩
        (.leaf)
        (.leaf)))
      (.node 230 ⟨1, 0, some (.tuple #[.int .u64 0, .int .u64 0]), .scalar⟩
       (.node 229 ⟨1, 8, some (.nilFunc), .scalar⟩
        (.leaf)
        (.leaf))
       (.node 231 ⟨1, 8, some (.nilFunc), .scalar⟩
        (.leaf)
        (.leaf)))))
    (.node 240 ⟨1, 8, some (.nilFunc), .scalar⟩
     (.node 236 ⟨0, 0, some (.agg #[]), .agg [(0, 235, 0)] false⟩
      (.node 234 ⟨4, 40, some (.agg #[.pointer none, .pointer none, .pointer none, .string ByteArray.empty]), .agg [(0, 17, 1), (1, 17, 1), (2, 17, 1), (3, 9, 1)] false⟩
       (.node 233 ⟨4, 40, some (.agg #[.pointer none, .pointer none, .pointer none, .string ByteArray.empty]), .agg [(0, 17, 1), (1, 17, 1), (2, 17, 1), (3, 9, 1)] false⟩
        (.leaf)
        (.leaf))
       (.node 235 ⟨0, 0, some (.agg #[]), .arr 0 16⟩
        (.leaf)
        (.leaf)))
      (.node 238 ⟨1, 1, some (.int .u8 0), .int .u8⟩
       (.node 237 ⟨0, 0, some (.agg #[]), .agg [(0, 235, 0)] false⟩
        (.leaf)
        (.leaf))
       (.node 239 ⟨1, 1, some (.int .u8 0), .int .u8⟩
        (.leaf)
        (.leaf))))
     (.node 244 ⟨11, 48, some (.agg #[.int .u64 0, .int .u64 0, .int .u32 0, .int .u8 0, .int .u8 0, .int .u8 0, .int .u8 0, .nilFunc, .pointer none, .int .i32 0, .int .i32 0]), .agg [(0, 12, 1), (1, 12, 1), (2, 186, 1), (3, 238, 1), (4, 5, 1), (5, 5, 1), (6, 239, 1), (7, 240, 1), (8, 241, 1), (9, 242, 1), (10, 243, 1)] false⟩
      (.node 242 ⟨1, 4, some (.int .i32 0), .int .i32⟩
       (.node 241 ⟨1, 8, some (.pointer none), .ptr 5⟩
        (.leaf)
        (.leaf))
       (.node 243 ⟨1, 4, some (.int .i32 0), .int .i32⟩
        (.leaf)
        (.leaf)))
      (.node 246 ⟨1, 8, some (.pointer none), .scalar⟩
       (.node 245 ⟨11, 48, some (.agg #[.int .u64 0, .int .u64 0, .int .u32 0, .int .u8 0, .int .u8 0, .int .u8 0, .int .u8 0, .nilFunc, .pointer none, .int .i32 0, .int .i32 0]), .agg [(0, 12, 1), (1, 12, 1), (2, 186, 1), (3, 238, 1), (4, 5, 1), (5, 5, 1), (6, 239, 1), (7, 240, 1), (8, 241, 1), (9, 242, 1), (10, 243, 1)] false⟩
        (.leaf)
        (.leaf))
       (.leaf)))))))
theorem tbOK : TabOK Tryz.prog tb := tabOK_of (by kernel_rfl)
end Go.Cg
namespace Go.Cg
open Go.Proofs

def object (t : Ty) : Bool := !t.ref && (decide (0 < t.dims) || t.kind == 4 || t.kind == 5 || t.kind == 7 || t.kind == 8)
def there (g : Img) (t : Int) : Bool := decide (0 ≤ t) && decide (t < g.types.length)
set_option maxHeartbeats 1000000 in
theorem There_call (g : Img) (t : Int) : ACall Tryz.prog 73 [imgPV g, pi t] (pb (there g t)) := by
  refine acall_intro tbOK Tryz.func73 rfl (by kernel_rfl) Tryz.ntmps73 (by simp) _ rfl (fun hw gB hgB => ?_)
  repeat' (first | refine sA ?_ | refine sC (fun _ => ?_) (fun _ => ?_) | fail)
  all_goals (first | refine retq rfl ?_ | refine retn rfl ?_)
  all_goals (first | (simp_all [retPV, there]; done) | (simp_all [retPV, there]; omega))
set_option maxHeartbeats 1000000 in
theorem there_call (g : Img) (t : Int) : ACall Tryz.prog 106 [imgPV g, pi t] (pb (there g t)) := by
  refine acall_intro tbOK Tryz.func106 rfl (by kernel_rfl) Tryz.ntmps106 (by simp) _ rfl (fun hw gB hgB => ?_)
  repeat' (first | refine sA ?_ | refine sC (fun _ => ?_) (fun _ => ?_) | fail)
  all_goals (first | refine retq rfl ?_ | refine retn rfl ?_)
  all_goals (first | (simp_all [retPV, there]; done) | (simp_all [retPV, there]; omega))

def bit (f k : Int) : Bool := f.tdiv k % 2 == 1
def plain (t : Ty) (k : Int) : Bool := t.kind == k && t.dims == 0 && !t.ref
def nul (t : Ty) : Bool := t.kind == 8 || t.kind == 4
end Go.Cg
namespace Go.Cg
open Go.Proofs

theorem ints_len {l : List Int} (h : (ints l).lenOk) : l.length ≤ 9223372036854775807 := by
  simp [ints, PV.lenOk, maxLen] at h; exact h.1
theorem ints_get {l : List Int} {k : Nat} (h : k < l.length) : (l.map pi)[k]? = some (pi l[k]) := by simp [h]
theorem tys_get {l : List Ty} {k : Nat} (h : k < l.length) : (l.map tyPV)[k]? = some (tyPV l[k]) := by simp [h]

theorem take_mem_succ {α : Type} [DecidableEq α] {l : List α} {k : Nat} {n : α} (h : k < l.length) (hno : n ∉ l.take k) (hne : ¬ l[k] = n) : n ∉ l.take (k + 1) := by
  rw [List.take_succ_eq_append_getElem h]
  simp only [List.mem_append, List.mem_singleton, not_or]
  exact ⟨hno, fun e => hne e.symm⟩

set_option maxHeartbeats 1000000 in
theorem Has_call (l : List Int) (n : Int) : ACall Tryz.prog 37 [ints l, pi n] (pb (decide (n ∈ l))) := by
  refine acall_intro tbOK Tryz.func37 rfl (by kernel_rfl) Tryz.ntmps37 (by simp) _ rfl (fun hw gB hgB => ?_)
  have hl := ints_len hw.1
  repeat' (first | refine sA ?_ | refine sC (fun _ => ?_) (fun _ => ?_) | fail)
  refine aw_loop (fun k : Nat => [(0, .pv (ints l)), (1, .pv (pi n)), (5, .pv (pi k))]) (fun _ => []) (fun k => k ≤ l.length ∧ n ∉ l.take k) (fun k => l.length - k) 0 ⟨by simp, by simp⟩ (tS) tH ?_
  rintro k ⟨hk, hno⟩
  by_cases hlt : k < l.length
  · have he := ints_get hlt
    repeat' (first | (refine shX ?_; first | refine qX he ?_) | refine sK ?_ | refine sC (fun _ => ?_) (fun _ => ?_) | fail)
    · rename_i h
      refine retq rfl ?_
      have : n ∈ l := by have := List.getElem_mem hlt; simp at h; rwa [h] at this
      simp [retPV, this]
    · rename_i h
      simp at h
      exact ⟨k + 1, ⟨by omega, take_mem_succ hlt hno h⟩, tD, tS, tH⟩
  · repeat' (first | refine sK ?_ | refine sC (fun _ => ?_) (fun _ => ?_) | fail)
    refine retq rfl ?_
    have : n ∉ l := by rw [List.take_of_length_le (by omega)] at hno; exact hno
    simp [retPV, this]

def idx (l : List Int) (v : Int) : Int := if v ∈ l then (l.findIdx (· == v) : Nat) else -1
set_option maxHeartbeats 1000000 in
theorem Index_call (l : List Int) (n : Int) : ACall Tryz.prog 136 [ints l, pi n] (pi (idx l n)) := by
  refine acall_intro tbOK Tryz.func136 rfl (by kernel_rfl) Tryz.ntmps136 (by simp) _ rfl (fun hw gB hgB => ?_)
  have hl := ints_len hw.1
  repeat' (first | refine sA ?_ | refine sC (fun _ => ?_) (fun _ => ?_) | fail)
  refine aw_loop (fun k : Nat => [(0, .pv (ints l)), (1, .pv (pi n)), (7, .pv (pi l.length)), (8, .pv (pi k))]) (fun _ => []) (fun k => k ≤ l.length ∧ n ∉ l.take k) (fun k => l.length - k) 0 ⟨by simp, by simp⟩ (by repeat (first | exact sub_nil | refine sub_cons rfl ?_ | (refine sub_i rfl ?_ ?_; · simp))) tH ?_
  rintro k ⟨hk, hno⟩
  by_cases hlt : k < l.length
  · have he := ints_get hlt
    repeat' (first | (refine shX ?_; first | refine qX he ?_) | refine sK ?_ | refine sC (fun _ => ?_) (fun _ => ?_) | fail)
    · rename_i h
      refine retq rfl ?_
      simp at h
      have hm : n ∈ l := by have := List.getElem_mem hlt; rwa [← h] at this
      have hi : l.findIdx (· == n) = k := by
        rw [List.findIdx_eq hlt]
        refine ⟨by simp [h], fun j hj => ?_⟩
        simp only [beq_eq_false_iff_ne]
        intro e
        refine hno ?_
        rw [← e, List.mem_take_iff_getElem]
        exact ⟨j, by omega, rfl⟩
      simp [retPV, idx, hm, hi]
    · rename_i h
      simp at h
      exact ⟨k + 1, ⟨by omega, take_mem_succ hlt hno (fun e => h e.symm)⟩, tD, tS, tH⟩
  · repeat' (first | refine sK ?_ | refine sC (fun _ => ?_) (fun _ => ?_) | fail)
    refine retq rfl ?_
    have : n ∉ l := by rw [List.take_of_length_le (by omega)] at hno; exact hno
    simp [retPV, idx, this]

set_option maxHeartbeats 1000000 in
theorem Contains_call (l : List Int) (n : Int) : ACall Tryz.prog 145 [ints l, pi n] (pb (decide (n ∈ l))) := by
  refine acall_intro tbOK Tryz.func145 rfl (by kernel_rfl) Tryz.ntmps145 (by simp) _ rfl (fun hw gB hgB => ?_)
  repeat' (first | (refine shC ?_; first | refine qC (Index_call _ _) ?_) | refine sA ?_ | refine sC (fun _ => ?_) (fun _ => ?_) | fail)
  refine retq rfl ?_
  by_cases h : n ∈ l <;> simp [retPV, idx, h]
end Go.Cg
namespace Go.Cg
open Go.Proofs

theorem tys_len {l : List Ty} (h : (tys l).lenOk) : l.length ≤ 9223372036854775807 := by
  simp [tys, PV.lenOk, maxLen] at h; exact h.1
theorem take_eq_succ {α : Type} {a b : List α} {k : Nat} (ha : k < a.length) (hb : k < b.length) (h : a.take k = b.take k) (e : a[k] = b[k]) : a.take (k + 1) = b.take (k + 1) := by
  rw [List.take_succ_eq_append_getElem ha, List.take_succ_eq_append_getElem hb, h, e]

set_option maxHeartbeats 1000000 in
theorem SameTypes_call (a b : List Ty) : ACall Tryz.prog 23 [tys a, tys b] (pb (decide (a = b))) := by
  refine acall_intro tbOK Tryz.func23 rfl (by kernel_rfl) Tryz.ntmps23 (by simp) _ rfl (fun hw gB hgB => ?_)
  have hl := tys_len hw.1
  by_cases hlen : a.length = b.length
  · repeat' (first | refine sK ?_ | refine sC (fun _ => ?_) (fun _ => ?_) | fail)
    refine aw_loop (fun k : Nat => [(0, .pv (tys a)), (1, .pv (tys b)), (5, .pv (pi k))]) (fun _ => []) (fun k => k ≤ a.length ∧ a.take k = b.take k) (fun k => a.length - k) 0 ⟨by simp, by simp⟩ (tS) tH ?_
    rintro k ⟨hk, hno⟩
    by_cases hlt : k < a.length
    · have he := tys_get hlt
      have hltb : k < b.length := by omega
      have he' := tys_get hltb
      repeat' (first | (refine shX ?_; first | refine qX he ?_ | refine qX he' ?_) | refine sK ?_ | refine sC (fun _ => ?_) (fun _ => ?_) | fail)
      · rename_i h
        refine retq rfl ?_
        have : a ≠ b := by
          rintro rfl
          simp at h
        simp [retPV, this]
      · rename_i h
        have e : a[k] = b[k] := by
          simp only [Bool.not_eq_false'] at h
          rw [tyEq_iff] at h
          simpa using h
        exact ⟨k + 1, ⟨by omega, take_eq_succ hlt hltb hno e⟩, tD, tS, tH⟩
    · repeat' (first | refine sK ?_ | refine sC (fun _ => ?_) (fun _ => ?_) | fail)
      refine retq rfl ?_
      rw [List.take_of_length_le (by omega), List.take_of_length_le (by omega)] at hno
      simp [retPV, hno]
  · repeat' (first | refine sK ?_ | refine sC (fun _ => ?_) (fun _ => ?_) | fail)
    refine retq rfl ?_
    have : a ≠ b := by rintro rfl; exact hlen rfl
    simp [retPV, this]

def plainT (t : Ty) : Bool :=
  if decide (t.dims < 0) || decide (3 < t.dims) || decide (t.index < 0) then false
  else if t.kind == 1 then t.dims == 0 && !t.ref && t.index == 0
  else if t.kind == 2 || t.kind == 3 || t.kind == 4 then t.index == 0
  else if t.kind == 5 || t.kind == 6 then decide (t.index < 32)
  else if t.kind == 7 then decide (t.index ≤ 7)
  else false
set_option maxHeartbeats 1000000 in
theorem Plain_call (t : Ty) : ACall Tryz.prog 76 [tyPV t] (pb (plainT t)) := by
  refine acall_intro tbOK Tryz.func76 rfl (by kernel_rfl) Tryz.ntmps76 (by simp) _ rfl (fun hw gB hgB => ?_)
  repeat' (first | refine sA ?_ | refine sC (fun _ => ?_) (fun _ => ?_) | fail)
  all_goals (first | refine retq rfl ?_ | refine retn rfl ?_)
  all_goals (first | (simp_all [retPV, plainT]; done) | (simp_all [retPV, plainT]; omega))
def whereT (t : Ty) (place : Int) : Bool :=
  if !plainT t then false
  else if place == 1 then t.kind != 1 && !t.ref
  else if place == 2 then t.kind != 1
  else if place == 3 then !t.ref
  else true
set_option maxHeartbeats 1000000 in
theorem Where_call (t : Ty) (p : Int) : ACall Tryz.prog 176 [tyPV t, pi p] (pb (whereT t p)) := by
  refine acall_intro tbOK Tryz.func176 rfl (by kernel_rfl) Tryz.ntmps176 (by simp) _ rfl (fun hw gB hgB => ?_)
  repeat' (first | (refine shC ?_; first | refine qC (Plain_call _) ?_) | refine sA ?_ | refine sC (fun _ => ?_) (fun _ => ?_) | fail)
  all_goals (first | refine retq rfl ?_ | refine retn rfl ?_)
  all_goals (first | (simp_all [retPV, whereT]; done) | (simp_all [retPV, whereT]; omega))
def ownT (t : Ty) (n : Int) : Bool := (t.kind != 5 && t.kind != 6) || decide (t.index < n)
set_option maxHeartbeats 1000000 in
theorem Own_call (t : Ty) (n : Int) : ACall Tryz.prog 177 [tyPV t, pi n] (pb (ownT t n)) := by
  refine acall_intro tbOK Tryz.func177 rfl (by kernel_rfl) Tryz.ntmps177 (by simp) _ rfl (fun hw gB hgB => ?_)
  repeat' (first | refine sA ?_ | refine sC (fun _ => ?_) (fun _ => ?_) | fail)
  all_goals (first | refine retq rfl ?_ | refine retn rfl ?_)
  all_goals (first | (simp_all [retPV, ownT]; done) | (simp_all [retPV, ownT]; omega))
def mayT (t : Ty) (p n : Int) : Bool := whereT t p && ownT t n
set_option maxHeartbeats 1000000 in
theorem May_call (t : Ty) (p n : Int) : ACall Tryz.prog 150 [tyPV t, pi p, pi n] (pb (mayT t p n)) := by
  refine acall_intro tbOK Tryz.func150 rfl (by kernel_rfl) Tryz.ntmps150 (by simp) _ rfl (fun hw gB hgB => ?_)
  repeat' (first | (refine shC ?_; first | refine qC (Where_call _ _) ?_ | refine qC (Own_call _ _) ?_) | refine sA ?_ | refine sC (fun _ => ?_) (fun _ => ?_) | fail)
  all_goals (first | refine retq rfl ?_ | refine retn rfl ?_)
  all_goals (first | (simp_all [retPV, mayT]; done) | (simp_all [retPV, mayT]; omega))
end Go.Cg
/- Plain lemmas for loops over lists: what is behind an index. -/
namespace Go.Cg
/-- The laws of truth values, and of a list's length: in one word. -/
theorem BL : (∀ b : Bool, (b && true) = b) ∧ (∀ b : Bool, (true && b) = b) ∧ (∀ b : Bool, (b && false) = false) ∧ (∀ b : Bool, (false && b) = false) ∧ (∀ b : Bool, (b || true) = true) ∧ (∀ b : Bool, (true || b) = true) ∧ (∀ b : Bool, (b || false) = b)
    ∧ (∀ b : Bool, (false || b) = b) ∧ ((!true) = false) ∧ ((!false) = true) := by simp
theorem drop_cons {α : Type} {l : List α} {k : Nat} (h : k < l.length) : l.drop k = l[k] :: l.drop (k + 1) := List.drop_eq_getElem_cons h
theorem drop_all {α : Type} {l : List α} {p : α → Bool} {k : Nat} (h : k < l.length) : (l.drop k).all p = (p l[k] && (l.drop (k + 1)).all p) := by rw [drop_cons h]; rfl
theorem drop_any {α : Type} {l : List α} {p : α → Bool} {k : Nat} (h : k < l.length) : (l.drop k).any p = (p l[k] || (l.drop (k + 1)).any p) := by rw [drop_cons h]; rfl
theorem drop_end {α : Type} {l : List α} {k : Nat} (h : l.length ≤ k) : l.drop k = [] := List.drop_eq_nil_of_le h
end Go.Cg
namespace Go.Cg
open Go.Proofs

/-! texts, operations -/
def okCh (b : UInt8) : Bool := !(decide ((b.toNat : Int) < 33) || decide (126 < (b.toNat : Int)))
def fineS (s : ByteArray) : Bool := s.data.toList.all okCh && (decide (0 < (s.size : Int)) && decide ((s.size : Int) ≤ 24))
theorem str_len {s : ByteArray} (h : (ps s).lenOk) : s.size ≤ 9223372036854775807 := by
  simp [PV.lenOk, baseOk, maxLen] at h; exact of_decide_eq_true h
theorem str_get {s : ByteArray} {k : Nat} (h : k < s.size) : s[((k : Int)).toNat]? = some (s.data.toList[k]'(by simpa using h)) := by
  simp only [Int.toNat_natCast]
  rw [getElem?_pos s k h]
  simp [ByteArray.getElem_eq_getElem_data]
set_option maxHeartbeats 1000000 in
theorem Fine_call (s : ByteArray) : ACall Tryz.prog 149 [ps s] (pb (fineS s)) := by
  refine acall_intro tbOK Tryz.func149 rfl (by kernel_rfl) Tryz.ntmps149 (by simp) _ rfl (fun hw gB hgB => ?_)
  have hl := str_len hw.1
  repeat' (first | refine sA ?_ | refine sC (fun _ => ?_) (fun _ => ?_) | fail)
  refine aw_loop (fun k : Nat => [(0, .pv (ps s)), (3, .pv (pi k))]) (fun _ => []) (fun k => k ≤ s.size ∧ s.data.toList.all okCh = (s.data.toList.drop k).all okCh) (fun k => s.size - k) 0 ⟨by simp, by simp⟩ (tS) tH ?_
  rintro k ⟨hk, hr⟩
  by_cases hlt : k < s.size
  · have hb := str_get hlt
    rw [drop_all (by simpa using hlt)] at hr
    repeat' (first | (refine shI ?_; first | refine ao_q rfl (q_strix tbOK rfl rfl rfl rfl (by omega) hb) rfl rfl ?_ | refine AD.step _ _ _ _ _ rfl (q_strix tbOK rfl rfl rfl rfl (by omega) hb) rfl rfl ?_) | refine sK ?_ | refine sC (fun _ => ?_) (fun _ => ?_) | fail)
    all_goals first
      | exact ⟨k + 1, ⟨by omega, by simp_all [okCh]⟩, tD, tS, tH⟩
      | (refine retq rfl ?_; simp_all [retPV, fineS, okCh]; done)
  · rw [drop_end (by simp; omega)] at hr
    repeat' (first | refine sK ?_ | refine sC (fun _ => ?_) (fun _ => ?_) | fail)
    all_goals (refine retq rfl ?_; simp_all [retPV, fineS]; done)

/-! the operations' table, as texts -/
def most06 (o : Int) : Int × Int :=
  if o == 1 then (2147483647, -2147483648) else if o == 2 then (9223372036854775807, -9223372036854775808) else if o == 3 then (11, 0) else if o == 4 then (6, 0) else if o == 5 then (159, 0)
  else if o == 6 || o == 7 then (63, 0) else (0, 0)
set_option maxHeartbeats 1000000 in
theorem Most_call (o : Int) : ACall Tryz.prog 211 [pi o] (.tup [pi (most06 o).1, pi (most06 o).2]) := by
  refine acall_intro tbOK Tryz.func211 rfl (by kernel_rfl) Tryz.ntmps211 (by simp) _ rfl (fun hw gB hgB => ?_)
  repeat' (first | refine sA ?_ | refine sC (fun _ => ?_) (fun _ => ?_) | fail)
  all_goals (refine retq rfl ?_)
  all_goals (simp_all [retPV, most06])
end Go.Cg
namespace Go.Cg
open Go.Proofs

def names06 : ByteArray := { data := ((([110, 111, 112, 32, 108, 100, 97, 114, 103, 32, 115, 116, 97, 114, 103, 32, 108, 100, 97, 114, 103, 97, 32, 108, 100, 108, 111, 99, 32, 115, 116, 108, 111, 99, 32, 108, 100, 108, 111, 99, 97, 32, 108, 100, 99, 52, 32, 108, 100, 99, 56, 32, 108, 100].append [110, 117, 108, 108, 32, 100, 117, 112, 32, 112, 111, 112, 32, 97, 100, 100, 32, 115, 117, 98, 32, 109, 117, 108, 32, 100, 105, 118, 32, 114, 101, 109, 32, 97, 110, 100, 32, 111, 114, 32, 120, 111, 114, 32, 115, 104, 108, 32, 115, 104, 114, 32, 110, 101]).append ([103, 32, 110, 111, 116, 32, 97, 100, 100, 111, 118, 102, 32, 115, 117, 98, 111, 118, 102, 32, 109, 117, 108, 111, 118, 102, 32, 99, 111, 110, 118, 52, 32, 99, 111, 110, 118, 56, 32, 99, 111, 110, 118, 111, 118, 102, 52, 32, 99, 101, 113, 32, 99, 103].append [116, 32, 99, 108, 116, 32, 98, 114, 32, 98, 114, 116, 114, 117, 101, 32, 98, 114, 102, 97, 108, 115, 101, 32, 98, 101, 113, 32, 98, 103, 101, 32, 98, 103, 116, 32, 98, 108, 101, 32, 98, 108, 116, 32, 98, 110, 101, 32, 99, 97, 108, 108, 32, 99])).append (([97, 108, 108, 118, 105, 114, 116, 32, 110, 101, 119, 111, 98, 106, 32, 114, 101, 116, 32, 116, 97, 105, 108, 32, 108, 100, 102, 108, 100, 32, 115, 116, 102, 108, 100, 32, 108, 100, 102, 108, 100, 97, 32, 108, 100, 115, 102, 108, 100, 32, 115, 116, 115, 102].append [108, 100, 32, 108, 100, 115, 102, 108, 100, 97, 32, 108, 100, 111, 98, 106, 32, 115, 116, 111, 98, 106, 32, 105, 110, 105, 116, 111, 98, 106, 32, 110, 101, 119, 97, 114, 114, 32, 108, 100, 108, 101, 110, 32, 108, 100, 101, 108, 101, 109, 32, 115, 116, 101]).append ([108, 101, 109, 32, 108, 100, 101, 108, 101, 109, 97, 32, 98, 111, 120, 32, 117, 110, 98, 111, 120, 32, 117, 110, 98, 111, 120, 97, 110, 121, 32, 99, 97, 115, 116, 99, 108, 97, 115, 115, 32, 105, 115, 105, 110, 115, 116, 32, 108, 100, 102, 116, 110, 32].append [110, 101, 119, 100, 101, 108, 32, 116, 104, 114, 111, 119, 32, 114, 101, 116, 104, 114, 111, 119, 32, 108, 101, 97, 118, 101, 32, 101, 110, 100, 102, 105, 110, 97, 108, 108, 121, 32, 101, 110, 100, 102, 105, 108, 116, 101, 114, 32, 105, 110, 32, 111, 117, 116, 32]))).toArray }
def operands06 : ByteArray := { data := ([48, 52, 52, 52, 51, 51, 51, 49, 50, 48, 48, 48, 48, 48, 48, 48, 48, 48, 48, 48, 48, 48, 48, 48, 48, 48, 48, 48, 48, 48, 48, 48, 48, 53, 53, 53, 53].append [53, 53, 53, 53, 53, 54, 54, 54, 48, 48, 55, 55, 55, 55, 55, 55, 56, 56, 56, 56, 48, 56, 56, 56, 56, 56, 56, 56, 56, 54, 56, 48, 48, 53, 48, 48, 48, 48]).toArray }
def flows06 : ByteArray := { data := ([48, 48, 48, 48, 48, 48, 48, 48, 48, 48, 48, 48, 48, 48, 48, 48, 48, 48, 48, 48, 48, 48, 48, 48, 48, 48, 48, 48, 48, 48, 48, 48, 48, 49, 50, 50, 50].append [50, 50, 50, 50, 50, 48, 48, 48, 51, 48, 48, 48, 48, 48, 48, 48, 48, 48, 48, 48, 48, 48, 48, 48, 48, 48, 48, 48, 48, 48, 48, 51, 51, 52, 53, 53, 48, 48]).toArray }
theorem names06_size : names06.size = 433 := by kernel_rfl
theorem operands06_size : operands06.size = 75 := by kernel_rfl
theorem flows06_size : flows06.size = 75 := by kernel_rfl
/-- What is left to do at a place of all names. -/
def nameGo (op : Int) : Nat → Nat → Nat → Nat → ByteArray
  | 0, _, _, _ => ByteArray.empty
  | m + 1, i, n, from_ => if i < 433 then
      (if ((names06.data.toList.getD i 0).toNat : Int) == 32 then (if (n : Int) == op then names06.extract from_ i else nameGo op m (i + 1) (n + 1) (i + 1)) else nameGo op m (i + 1) n from_) else ByteArray.empty
def name06 (op : Int) : ByteArray := nameGo op 434 0 1 0
set_option maxRecDepth 100000 in
theorem Name_call (op : Int) : ACall Tryz.prog 162 [pi op] (ps (name06 op)) := by
  refine acall_intro tbOK Tryz.func162 rfl (by kernel_rfl) Tryz.ntmps162 (by simp) _ rfl (fun hw gB hgB => ?_)
  repeat' (first | refine sA ?_ | refine sC (fun _ => ?_) (fun _ => ?_) | fail)
  refine aw_loop (fun x : Nat × Nat × Nat => [(0, .pv (pi op)), (5, .pv (pi x.1)), (3, .pv (pi x.2.1)), (4, .pv (pi x.2.2))]) (fun _ => []) (fun x => x.1 ≤ 433 ∧ x.2.1 ≤ x.1 + 1 ∧ x.2.2 ≤ x.1 ∧ nameGo op (434 - x.1) x.1 x.2.1 x.2.2 = name06 op) (fun x => 433 - x.1) (0, 1, 0) ⟨by simp, by simp, by simp, rfl⟩ (tS) tH ?_
  rintro ⟨k, n, f⟩ ⟨hk, hn, hf, hr⟩
  simp only at hk hn hf hr
  rw [show 434 - k = (433 - k) + 1 by omega, nameGo] at hr
  by_cases hlt : k < 433
  · have hsz : k < names06.size := by rw [names06_size]; exact hlt
    have hb := str_get hsz
    have hg : names06.data.toList.getD k 0 = names06.data.toList[k]'(by simpa using hsz) := by rw [List.getD_eq_getElem?_getD, List.getElem?_eq_getElem (by simpa using hsz)]; rfl
    rw [if_pos hlt, hg] at hr
    generalize names06.data.toList[k]'(by simpa using hsz) = b at hb hr
    clear hg
    repeat' (first | refine ao_q rfl (q_slice_str (s := names06) (l := f) (h := k) tbOK rfl rfl rfl rfl rfl (by omega) (by omega) (by rw [names06_size]; omega)) rfl rfl ?_ | (refine shI ?_; first | refine ao_q rfl (q_strix tbOK rfl rfl rfl rfl (by omega) hb) rfl rfl ?_ | refine AD.step _ _ _ _ _ rfl (q_strix tbOK rfl rfl rfl rfl (by omega) hb) rfl rfl ?_) | refine sK ?_ | refine sC (fun _ => ?_) (fun _ => ?_) | fail)
    · refine retq rfl ?_; simp_all [retPV]
    · have hr2 : nameGo op (433 - k) (k + 1) (n + 1) (k + 1) = name06 op := by simp_all
      exact ⟨(k + 1, n + 1, k + 1), ⟨by simp; omega, by simp; omega, by simp, by simp only; rw [show 434 - (k + 1) = 433 - k by omega]; exact hr2⟩, tD, tS, tH⟩
    · have hr2 : nameGo op (433 - k) (k + 1) n f = name06 op := by simp_all
      exact ⟨(k + 1, n, f), ⟨by simp; omega, by simp; omega, by simp; omega, by simp only; rw [show 434 - (k + 1) = 433 - k by omega]; exact hr2⟩, tD, tS, tH⟩
  · rw [if_neg hlt] at hr
    repeat' (first | refine sK ?_ | refine sC (fun _ => ?_) (fun _ => ?_) | fail)
    rw [← hr]
    exact retq rfl rfl

def digit (s : ByteArray) (op : Int) : Int := IntKind.i64.wrap (IntKind.u8.wrap (((s.data.toList.getD (op - 1).toNat 0).toNat : Int) - 48))
def operand06 (op : Int) : Int := digit operands06 op
def flow06 (op : Int) : Int := digit flows06 op
def infoPV (s : ByteArray) (o f : Int) : PV := .agg [ps s, pi o, pi f]
set_option maxHeartbeats 1000000 in
theorem OfBad_call (op : Int) (h : op < 1 ∨ 75 < op) : ACall Tryz.prog 131 [pi op] (.tup [infoPV ByteArray.empty 0 0, pi 3]) := by
  refine acall_intro tbOK Tryz.func131 rfl (by kernel_rfl) Tryz.ntmps131 (by simp) _ rfl (fun hw gB hgB => ?_)
  by_cases h1 : op < 1
  · repeat' (first | refine sK ?_ | refine sC (fun _ => ?_) (fun _ => ?_) | fail)
    all_goals exact retq rfl rfl
  · have h2 : 75 < op := by omega
    repeat' (first | refine sK ?_ | refine sC (fun _ => ?_) (fun _ => ?_) | fail)
    all_goals exact retq rfl rfl
set_option maxHeartbeats 1000000 in
theorem Of_call (op : Int) (h1 : 1 ≤ op) (h2 : op ≤ 75) : ACall Tryz.prog 131 [pi op] (.tup [infoPV (name06 op) (operand06 op) (flow06 op), pi 0]) := by
  refine acall_intro tbOK Tryz.func131 rfl (by kernel_rfl) Tryz.ntmps131 (by simp) _ rfl (fun hw gB hgB => ?_)
  have hk1 : (op - 1).toNat < operands06.size := by rw [operands06_size]; omega
  have hk2 : (op - 1).toNat < flows06.size := by rw [flows06_size]; omega
  have hw1 : IntKind.i64.wrap (op - 1) = (((op - 1).toNat : Nat) : Int) := by rw [wrap_in (by omega) (by omega)]; omega
  have hb1 := str_get hk1
  have hb2 := str_get hk2
  rw [← hw1] at hb1 hb2
  repeat' (first | refine aw_draw_tail 13 (by kernel_rfl) (by kernel_rfl) (by kernel_rfl) (by decide) ?_ | (refine shC ?_; first | refine qC (Name_call op) ?_) | (refine shI ?_; first | refine ao_q rfl (q_strix tbOK rfl rfl rfl rfl (by omega) hb1) rfl rfl ?_ | refine AD.step _ _ _ _ _ rfl (q_strix tbOK rfl rfl rfl rfl (by omega) hb1) rfl rfl ?_ | refine ao_q rfl (q_strix tbOK rfl rfl rfl rfl (by omega) hb2) rfl rfl ?_ | refine AD.step _ _ _ _ _ rfl (q_strix tbOK rfl rfl rfl rfl (by omega) hb2) rfl rfl ?_) | refine sK ?_ | refine sC (fun _ => ?_) (fun _ => ?_) | fail)
  refine retq rfl ?_
  have e1 : ∀ (s : ByteArray) (h : (op - 1).toNat < s.data.toList.length), s.data.toList.getD (op - 1).toNat 0 = s.data.toList[(op - 1).toNat] := fun s h => by rw [List.getD_eq_getElem?_getD, List.getElem?_eq_getElem h]; rfl
  rw [operand06, flow06, digit, digit, e1 _ (by simpa using hk1), e1 _ (by simpa using hk2)]
  rfl

def ty0 : Ty := ⟨0, 0, 0, false⟩
def fits06 (x : Ins) : Int :=
  if x.op < 1 ∨ 75 < x.op then 3
  else if (most06 (operand06 x.op)).1 < x.arg ∨ x.arg < (most06 (operand06 x.op)).2 then 17
  else if operand06 x.op ≠ 8 ∧ x.t ≠ ty0 then 17
  else if operand06 x.op = 8 ∧ whereT x.t 1 = false then 17
  else 0
set_option maxHeartbeats 1000000 in
theorem Fits06_call (x : Ins) : ACall Tryz.prog 193 [insPV x] (pi (fits06 x)) := by
  refine acall_intro tbOK Tryz.func193 rfl (by kernel_rfl) Tryz.ntmps193 (by simp) _ rfl (fun hw gB hgB => ?_)
  by_cases hop : x.op < 1 ∨ 75 < x.op
  · repeat' (first | (refine shC ?_; first | refine qC (OfBad_call _ hop) ?_) | refine sA ?_ | refine sC (fun _ => ?_) (fun _ => ?_) | fail)
    exact retq rfl (by simp [retPV, fits06, hop])
  · have hty := tyEq_iff x.t ty0
    simp only [ty0] at hty
    repeat' (first | (refine shC ?_; first | refine ao_q rfl (q_call rfl rfl (Of_call _ (by omega) (by omega))) rfl rfl ?_ | refine AD.step _ _ _ _ _ rfl (q_call rfl rfl (Of_call _ (by omega) (by omega))) rfl rfl ?_ | refine qC (Most_call _) ?_ | refine qC (Where_call _ _) ?_) | refine sA ?_ | refine sC (fun _ => ?_) (fun _ => ?_) | fail)
    all_goals refine retq rfl ?_
    all_goals simp only [fits06, ty0, if_neg hop]
    all_goals simp_all [retPV]
    all_goals (rename_i h)
    · exact of_decide_eq_false h
    · rw [if_neg (by omega), if_pos (of_decide_eq_true h)]
end Go.Cg
