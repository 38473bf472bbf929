/- A part of the walks by abstract values: no statement of its own. -/
import Derived.Test.YtglfbaimlajjgaaGreatU15
import Derived.Test.YtglfbaimlajjgaaGreatU8
import Derived.Laws.OwnMore
namespace Go.Cg
open Go.Proofs

/-! the fields of an object share no word, and are all of it -/
def baseT (g : Img) (u : Int) : Nat := 1 + (objT g (extAt g u)).length
def cntO (g : Img) (u : Int) (i : Nat) : Nat := (fcs g ((g.fields.take i).filter (ownP u))).length
theorem cntO_all (g : Img) (u : Int) : cntO g u g.fields.length = (fcs g (ownF g u)).length := by rw [cntO, List.take_length]; rfl
theorem cntO_yes {g : Img} {u : Int} {i : Nat} (h : i < g.fields.length) (hp : ownP u g.fields[i] = true) : cntO g u (i + 1) = cntO g u i + (cellsT g g.fields[i].ty).length := by
  rw [cntO, List.take_succ_eq_append_getElem h, List.filter_append, fcs_len_append, cntO]
  simp [hp, fcs]
theorem cntO_no {g : Img} {u : Int} {i : Nat} (h : i < g.fields.length) (hp : ownP u g.fields[i] = false) : cntO g u (i + 1) = cntO g u i := by
  rw [cntO, List.take_succ_eq_append_getElem h, List.filter_append, fcs_len_append, cntO]
  simp [hp, fcs]
theorem cntO_le (g : Img) (u : Int) (i : Nat) : cntO g u i ≤ (fcs g (ownF g u)).length := by
  have : ownF g u = (g.fields.take i).filter (ownP u) ++ (g.fields.drop i).filter (ownP u) := by
    rw [← List.filter_append, List.take_append_drop]; rfl
  rw [this, fcs_len_append, cntO]; omega
theorem tile_cover {g : Img} (hW : Wl g) : ∀ (l : List Int) (t : Int), up g t = l → ∀ p, 1 ≤ p → p < 1 + (objT g t).length → ∃ u ∈ l, baseT g u ≤ p ∧ p < baseT g u + (fcs g (ownF g u)).length
  | [], t, h, p, h1, h2 => by
    cases ht : typeAt g t with
    | none => rw [objT_none ht] at h2; simp at h2; omega
    | some td => rw [hW.up_cons ht] at h; cases h
  | x :: l, t, h, p, h1, h2 => by
    cases ht : typeAt g t with
    | none => rw [up_nil ht] at h; cases h
    | some td =>
      rw [hW.up_cons ht] at h
      injection h with e1 e2
      subst e1
      rw [objT_cons hW ht, List.length_append] at h2
      by_cases hp : p < 1 + (objT g td.ext).length
      · obtain ⟨u, hu, hh⟩ := tile_cover hW l td.ext e2 p h1 hp
        exact ⟨u, List.mem_cons_of_mem _ hu, hh⟩
      · refine ⟨t, by simp, ?_⟩
        rw [baseT, extAt_some ht]; omega
theorem tile_below {g : Img} (hW : Wl g) : ∀ (l : List Int) (t : Int), up g t = l → ∀ u ∈ l, baseT g u + (fcs g (ownF g u)).length ≤ 1 + (objT g t).length
  | [], t, h, u, hu => by cases hu
  | x :: l, t, h, u, hu => by
    cases ht : typeAt g t with
    | none => rw [up_nil ht] at h; cases h
    | some td =>
      rw [hW.up_cons ht] at h
      injection h with e1 e2
      subst e1
      rw [objT_cons hW ht, List.length_append]
      rcases List.mem_cons.1 hu with rfl | hu
      · rw [baseT, extAt_some ht]; omega
      · have := tile_below hW l td.ext e2 u hu; omega
theorem tile_one {g : Img} (hW : Wl g) : ∀ (l : List Int) (t : Int), up g t = l → ∀ u ∈ l, ∀ u' ∈ l, ∀ p, baseT g u ≤ p → p < baseT g u + (fcs g (ownF g u)).length → baseT g u' ≤ p → p < baseT g u' + (fcs g (ownF g u')).length → u = u'
  | [], t, h, u, hu => by cases hu
  | x :: l, t, h, u, hu => by
    cases ht : typeAt g t with
    | none => rw [up_nil ht] at h; cases h
    | some td =>
      rw [hW.up_cons ht] at h
      injection h with e1 e2
      subst e1
      have hb : baseT g t = 1 + (objT g td.ext).length := by rw [baseT, extAt_some ht]
      intro u' hu' p h1 h2 h3 h4
      rcases List.mem_cons.1 hu with q1 | q1 <;> rcases List.mem_cons.1 hu' with q2 | q2
      · rw [q1, q2]
      · subst q1; have := tile_below hW l td.ext e2 u' q2; omega
      · subst q2; have := tile_below hW l td.ext e2 u q1; omega
      · exact tile_one hW l td.ext e2 u q1 u' q2 p h1 h2 h3 h4
theorem up_kind0 {g : Img} (hW : Wl g) : ∀ (l : List Int) (t : Int), up g t = l → kindG g t = 0 → ∀ u ∈ l, kindG g u = 0
  | [], t, h, hk, u, hu => by cases hu
  | x :: l, t, h, hk, u, hu => by
    cases ht : typeAt g t with
    | none => rw [up_nil ht] at h; cases h
    | some td =>
      rw [hW.up_cons ht] at h
      injection h with e1 e2
      subst e1
      rcases List.mem_cons.1 hu with rfl | hu
      · exact hk
      · have h0 : 0 ≤ td.ext := by
          cases hte : typeAt g td.ext with
          | none => rw [up_nil hte] at e2; subst e2; cases hu
          | some td2 => exact (typeAt_lt hte).1
        exact up_kind0 hW l td.ext e2 (ext_kind0 hW ht h0).2 u hu

/-- What a word was met by. -/
def metV (g : Img) (t : Int) (c : Int → Nat) (p : Nat) : Int :=
  if (p == 0 || (kindG g t == 0 && (up g t).any fun u => decide (baseT g u ≤ p) && decide (p < baseT g u + c u))) then 1 else 0
/-- How far fields are done. -/
def cK (g : Img) (i k : Nat) (u : Int) : Nat := cntO g u i + (if ownP u (g.fields.getD i default) then k else 0)
theorem metV_congr {g : Img} {t : Int} {c c' : Int → Nat} (h : kindG g t = 0 → ∀ u ∈ up g t, c u = c' u) (p : Nat) : metV g t c p = metV g t c' p := by
  unfold metV
  by_cases hk : kindG g t = 0
  · have : ((up g t).any fun u => decide (baseT g u ≤ p) && decide (p < baseT g u + c u)) = ((up g t).any fun u => decide (baseT g u ≤ p) && decide (p < baseT g u + c' u)) := by
      have key : ∀ l : List Int, (∀ u ∈ l, c u = c' u) → (l.any fun u => decide (baseT g u ≤ p) && decide (p < baseT g u + c u)) = (l.any fun u => decide (baseT g u ≤ p) && decide (p < baseT g u + c' u)) := by
        intro l
        induction l with
        | nil => intro _; rfl
        | cons x l ih => intro h; rw [List.any_cons, List.any_cons, ih (fun u hu => h u (by simp [hu])), h x (by simp)]
      exact key _ (h hk)
    rw [this]
  · have : (kindG g t == 0) = false := by simp [hk]
    rw [this]; rfl
theorem metV_step {g : Img} (hW : Wl g) {t : Int} (hk0 : kindG g t = 0) {i k : Nat} (hi : i < g.fields.length) (hu : g.fields[i].owner ∈ up g t) (hs : g.fields[i].static = false) (hk : k < (cellsT g g.fields[i].ty).length) :
    baseT g g.fields[i].owner + cntO g g.fields[i].owner i + k < 1 + (objT g t).length ∧
    metV g t (cK g i k) (baseT g g.fields[i].owner + cntO g g.fields[i].owner i + k) = 0 ∧
    ∀ p, metV g t (cK g i (k + 1)) p = if p = baseT g g.fields[i].owner + cntO g g.fields[i].owner i + k then 1 else metV g t (cK g i k) p := by
  obtain ⟨u0, e0⟩ : ∃ u, u = g.fields[i].owner := ⟨_, rfl⟩
  rw [← e0] at hu ⊢
  have hp0 : ownP u0 g.fields[i] = true := by simp [ownP, e0, hs]
  have hpn : ∀ u, u ≠ u0 → ownP u g.fields[i] = false := fun u hne => by simp [ownP, ← e0, Ne.symm hne]
  have hgd : g.fields.getD i default = g.fields[i] := getD_get hi
  have hc1 := cntO_yes hi hp0
  have hc2 := cntO_le g u0 (i + 1)
  have hbe := tile_below hW _ t rfl u0 hu
  have hcu0 : ∀ k, cK g i k u0 = cntO g u0 i + k := fun k => by rw [cK, hgd, hp0]; rfl
  have hcu : ∀ u k, u ≠ u0 → cK g i k u = cntO g u i := fun u k hne => by rw [cK, hgd, hpn u hne]; rfl
  refine ⟨by omega, ?_, fun p => ?_⟩
  · unfold metV
    rw [if_neg]
    simp only [Bool.or_eq_true, beq_iff_eq, Bool.and_eq_true, List.any_eq_true, decide_eq_true_eq, not_or, not_and, not_exists]
    refine ⟨by rw [baseT]; omega, fun _ u hu' h1 h2 => ?_⟩
    by_cases hne : u = u0
    · subst hne; rw [hcu0] at h2; omega
    · rw [hcu u k hne] at h2
      have h3 := cntO_le g u i
      exact hne (tile_one hW _ t rfl u hu' u0 hu _ h1 (by omega) (by omega) (by omega))
  · unfold metV
    by_cases hp : p = baseT g u0 + cntO g u0 i + k
    · rw [if_pos hp, if_pos]
      simp only [Bool.or_eq_true, beq_iff_eq, Bool.and_eq_true, List.any_eq_true, decide_eq_true_eq]
      exact .inr ⟨hk0, u0, hu, by omega, by rw [hcu0]; omega⟩
    · rw [if_neg hp]
      have : ((up g t).any fun u => decide (baseT g u ≤ p) && decide (p < baseT g u + cK g i (k + 1) u)) = ((up g t).any fun u => decide (baseT g u ≤ p) && decide (p < baseT g u + cK g i k u)) := by
        rw [Bool.eq_iff_iff]
        simp only [List.any_eq_true, Bool.and_eq_true, decide_eq_true_eq]
        constructor
        · rintro ⟨u, h1, h2, h3⟩
          refine ⟨u, h1, h2, ?_⟩
          by_cases hne : u = u0
          · subst hne; rw [hcu0] at h3 ⊢; omega
          · rw [hcu u _ hne] at h3 ⊢; exact h3
        · rintro ⟨u, h1, h2, h3⟩
          refine ⟨u, h1, h2, ?_⟩
          by_cases hne : u = u0
          · subst hne; rw [hcu0] at h3 ⊢; omega
          · rw [hcu u _ hne] at h3 ⊢; exact h3
      rw [this]
theorem metV_skip {g : Img} {t : Int} {i : Nat} (hi : i < g.fields.length) (h : ¬ (kindG g t = 0 ∧ g.fields[i].owner ∈ up g t ∧ g.fields[i].static = false)) (k k' p : Nat) : metV g t (cK g i k) p = metV g t (cK g i k') p := by
  refine metV_congr (fun hk u hu => ?_) p
  have : ownP u g.fields[i] = false := by
    cases hp : ownP u g.fields[i]
    · rfl
    · simp only [ownP, Bool.and_eq_true, beq_iff_eq, Bool.not_eq_true'] at hp
      exact absurd ⟨hk, by rw [hp.1]; exact hu, hp.2⟩ h
  rw [cK, cK, getD_get hi, this]; rfl
theorem metV_next {g : Img} {t : Int} {i : Nat} (hi : i < g.fields.length) (p : Nat) : metV g t (cK g i (cellsT g g.fields[i].ty).length) p = metV g t (cK g (i + 1) 0) p := by
  refine metV_congr (fun hk u hu => ?_) p
  have e : cK g (i + 1) 0 u = cntO g u (i + 1) := by rw [cK]; split <;> rfl
  rw [e, cK, getD_get hi]
  cases hp : ownP u g.fields[i]
  · rw [cntO_no hi hp]; rfl
  · rw [cntO_yes hi hp]; rfl
theorem metV_first {g : Img} {t : Int} (p : Nat) : metV g t (cK g 0 0) p = if p = 0 then 1 else 0 := by
  have e : ∀ u, cK g 0 0 u = 0 := fun u => by rw [cK]; simp [cntO, fcs]
  unfold metV
  by_cases hp : p = 0
  · simp [hp]
  · have : ((up g t).any fun u => decide (baseT g u ≤ p) && decide (p < baseT g u + cK g 0 0 u)) = false := by
      rw [List.any_eq_false]
      intro u hu
      rw [e]; simp only [Bool.and_eq_true, decide_eq_true_eq]; omega
    rw [this]; simp [hp]
theorem metV_last {g : Img} (hW : Wl g) {t : Int} (hk : kindG g t = 0) {p : Nat} (hp : p < 1 + (objT g t).length) : metV g t (cK g g.fields.length 0) p = 1 := by
  unfold metV
  rw [if_pos]
  simp only [Bool.or_eq_true, beq_iff_eq, Bool.and_eq_true, List.any_eq_true, decide_eq_true_eq]
  by_cases h0 : p = 0
  · exact .inl h0
  · obtain ⟨u, hu, h1, h2⟩ := tile_cover hW _ t rfl p (by omega) hp
    refine .inr ⟨hk, u, hu, h1, ?_⟩
    have : cK g g.fields.length 0 u = (fcs g (ownF g u)).length := by rw [← cntO_all, cK]; split <;> rfl
    rw [this]; exact h2
/-- What a static field's word was met by. -/
def stlN (g : Img) (i k : Nat) : Nat := (statT g i).length + (if (g.fields.getD i default).static then k else 0)
def stlV (g : Img) (i k p : Nat) : Int := if p < stlN g i k then 1 else 0
theorem stlN_next {g : Img} {i : Nat} (hi : i < g.fields.length) : stlN g i (cellsT g g.fields[i].ty).length = stlN g (i + 1) 0 := by
  have e : stlN g (i + 1) 0 = (statT g (i + 1)).length := by rw [stlN]; split <;> rfl
  rw [e, stlN, getD_get hi, statT, statT, List.take_succ_eq_append_getElem hi, List.filter_append, fcs_len_append]
  cases hs : g.fields[i].static <;> simp [hs, fcs]
theorem statT_mono (g : Img) (i : Nat) : (statT g i).length ≤ (statT g g.fields.length).length := by
  have : g.fields.filter (·.static) = (g.fields.take i).filter (·.static) ++ (g.fields.drop i).filter (·.static) := by
    rw [← List.filter_append, List.take_append_drop]
  rw [statT, statT, List.take_length, this, fcs_len_append]; omega
end Go.Cg
/- Rows that the call owns, and writes. -/
namespace Go.Cg
open Go.RowKit

/-- An element behind a store into some of its cells. -/
def storeP (p : PV) (j n : Nat) (q : PV) : Option PV :=
  if q.cells.length = n ∧ j + n ≤ p.cells.length then
    (if j = 0 ∧ p.cells.length = n then some q else match p with | .agg cs => some (.agg (cs.take j ++ q.cells ++ cs.drop (j + n))) | _ => none)
  else none
theorem storeP_cells {p q r : PV} {j n : Nat} (h : storeP p j n q = some r) : q.cells.length = n ∧ j + n ≤ p.cells.length ∧ r.cells = p.cells.take j ++ q.cells ++ p.cells.drop (j + n) := by
  unfold storeP at h
  split at h
  · rename_i hh
    refine ⟨hh.1, hh.2, ?_⟩
    split at h
    · rename_i h2
      simp only [Option.some.injEq] at h; subst h
      obtain ⟨rfl, h3⟩ := h2
      rw [List.take_zero, List.nil_append, Nat.zero_add, List.drop_eq_nil_of_le (by omega), List.append_nil]
    · split at h
      · simp only [Option.some.injEq] at h; subst h; rfl
      · cases h
  · cases h

theorem splice_get {α : Type} {xs ys : List α} {off t : Nat} (h : off + ys.length ≤ xs.length) :
    (xs.take off ++ ys ++ xs.drop (off + ys.length))[t]? = if t < off then xs[t]? else if t < off + ys.length then ys[t - off]? else xs[t]? := by
  have e1 : (xs.take off).length = off := by rw [List.length_take]; omega
  rw [List.append_assoc, List.getElem?_append, e1]
  split
  · rw [List.getElem?_take, if_pos (by assumption)]
  · rename_i h1
    rw [List.getElem?_append]
    split
    · rw [if_pos (by omega)]
    · rw [if_neg (by omega), List.getElem?_drop]; congr 1; omega
theorem splice_take {α : Type} {xs ys : List α} {off m : Nat} (h : off + ys.length ≤ m) (hm : m ≤ xs.length) :
    (xs.take off ++ ys ++ xs.drop (off + ys.length)).take m = (xs.take m).take off ++ ys ++ (xs.take m).drop (off + ys.length) := by
  apply List.ext_getElem?
  intro t
  rw [List.getElem?_take, splice_get (by omega), splice_get (by rw [List.length_take]; omega)]
  simp only [List.getElem?_take]
  split
  · rfl
  · rw [if_neg (by omega), if_neg (by omega)]

section
variable {P : Program} {tb : Tab} {n : Nat} {g : Base} {H : HEnv} {env : Env} {ops : List Oper} {o : Oper} {rest : List Oper} {Q : Env → HEnv → Prop} {QQ : QC} {c : Code}

/-- An element's address. -/
theorem ao_mindex (htb : TabOK P tb) {t e d : Nat} {x y : Operand} {i k sz : Nat} {es : List PV} {kk : IntKind} {m : Int} (hg : guardE ops env o = some true) (hop : o.op = .indexAddr t x y) (hx : env.val x = some (.own i)) (hi : H.get i = some (.mrow e sz es))
    (hk : tb.k t = .sl e) (hke : tb.known e = true) (hsz : tb.size e = sz) (hy : env.pv H y = some (.base (.int kk m))) (hm : m = (k : Nat)) (hlt : k < es.length) (hd : o.dst = some d) (ht : Nat.blt d n = true)
    (h : AO P n g ops.toArray rest ((d, .ad i (k * sz)) :: env) H Q) : AO P n g ops.toArray (o :: rest) env H Q := by
  refine ⟨fun a w hinv => ?_⟩
  have hw := wanted_of hinv hg
  obtain ⟨h1, h2, K, ρ, hf, he⟩ := hinv
  refine wpList_step fun KK hKK => ?_
  rw [if_pos hw]
  have hxr := val_rel he hx
  have hyr := opE_pv (a := a) hf (x := y) (fun av hh => val_rel he hh) hy
  generalize hxv : a.eval x = xv at hxr
  generalize hyv : a.eval y = yv at hyr
  obtain ⟨xs, hown, h0, hcr, hnK⟩ := hf.heap.ok i _ hi
  subst hm
  cases hyr
  cases hxr with
  | own _ hi' =>
    rcases hown.2 with ⟨hr, hz⟩ | ⟨b, cap, cur, hr, hB, hheap, hle, hcap, hsize, htake⟩
    · omega
    · have hko : tb.k e ≠ .oth := by intro h; simp [Tab.known, h] at hke
      have hs := run_sizeOf htb hko w
      have hrun : (execOp a.eval o).run P w = .ok (.value (.pointer (some ⟨b, k * sz, none⟩))) w := by
        simp [execOp, hop, hxv, hyv, hr, Instr.indexAt, asIntOf, run_underlying (tab_sl htb hk), hs, hsz, Addr.add_lit]
        intro hh; omega
      unfold Oper.wp
      rw [hrun]
      simp only [Oper.upon]
      refine hKK _ _ (h.go _ _ ⟨put_size h1, put_defers h2, K, ρ, hf, ?_⟩)
      rw [hd]
      exact env_put h1 ht he (.ad i (k * sz) b es.length cap hi' hr)

/-- How long it is. -/
theorem ao_mlen (htb : TabOK P tb) {ty e d : Nat} {x : Operand} {i sz : Nat} {es : List PV} (hg : guardE ops env o = some true) (hop : o.op = .call { callee := .builtin .len, args := #[x], argTypes := #[ty] }) (hx : env.val x = some (.own i)) (hi : H.get i = some (.mrow e sz es))
    (hk : tb.k ty = .sl e) (hd : o.dst = some d) (ht : Nat.blt d n = true) (h : AO P n g ops.toArray rest ((d, .pv (.base (.int .i64 (es.length : Nat)))) :: env) H Q) : AO P n g ops.toArray (o :: rest) env H Q := by
  refine ⟨fun a w hinv => ?_⟩
  have hw := wanted_of hinv hg
  obtain ⟨h1, h2, K, ρ, hf, he⟩ := hinv
  refine wpList_step fun KK hKK => ?_
  rw [if_pos hw]
  have hxr := val_rel he hx
  generalize hxv : a.eval x = xv at hxr
  obtain ⟨xs, hown, h0, hcr, hnK⟩ := hf.heap.ok i _ hi
  cases hxr with
  | own _ hi' =>
    have hv : ∃ ad' cap, ρ i = .slice ad' es.length cap := by
      rcases hown.2 with ⟨hr, hz⟩ | ⟨b, cap, cur, hr, _⟩
      · exact ⟨none, 0, by rw [hr, hz]⟩
      · exact ⟨_, _, hr⟩
    obtain ⟨ad', cap, hr⟩ := hv
    have hrun : (execOp a.eval o).run P w = .ok (.value (.int .i64 (es.length : Nat))) w := by
      simp [execOp, hop, resolve, invoke, builtin, Builtin.len_, hxv, hr, run_underlying (tab_sl htb hk), goInt]
    unfold Oper.wp
    rw [hrun]
    simp only [Oper.upon]
    refine hKK _ _ (h.go _ _ ⟨put_size h1, put_defers h2, K, ρ, hf, ?_⟩)
    rw [hd]
    exact env_put h1 ht he (.pv _ _ (.base _ rfl))

/-- A load of an element, or of some of its cells. -/
theorem ao_mload (htb : TabOK P tb) {ty d : Nat} {x : Operand} {i k j sz off e : Nat} {es : List PV} {p q : PV} (hg : guardE ops env o = some true) (hop : o.op = .load ty x) (hx : env.val x = some (.ad i off)) (hi : H.get i = some (.mrow e sz es)) (hoff : off = k * sz + j)
    (hp : es[k]? = some p) (hq : partE tb ty p.cells j = some q) (hd : o.dst = some d) (ht : Nat.blt d n = true)
    (h : AO P n g ops.toArray rest ((d, .pv q) :: env) H Q) : AO P n g ops.toArray (o :: rest) env H Q := by
  refine ⟨fun a w hinv => ?_⟩
  have hw := wanted_of hinv hg
  obtain ⟨h1, h2, K, ρ, hf, he⟩ := hinv
  refine wpList_step fun KK hKK => ?_
  rw [if_pos hw]
  have hxr := val_rel he hx
  generalize hxv : a.eval x = xv at hxr
  obtain ⟨xs, hown, h0, hcr, hnK⟩ := hf.heap.ok i _ hi
  have hkl : k < es.length := (List.getElem?_eq_some_iff.1 hp).1
  cases hxr with
  | ad _ _ b m c hi' hρ =>
    have hown' := hown
    rw [hρ] at hown'
    have hm : m = es.length := by
      rcases hown'.2 with ⟨hr, _⟩ | ⟨_, _, _, hr, _⟩
      · simp at hr
      · simp at hr; exact hr.2.1
    subst hm
    obtain ⟨hl, hc⟩ := hcr k p hp
    have hle : k * sz + sz ≤ es.length * sz := by rw [← Nat.succ_mul]; exact Nat.mul_le_mul_right _ hkl
    have hlen : xs.length = es.length * sz := hown.1
    have hcell : ∀ (t : Nat) (v : Value), ((xs.drop (k * sz)).take sz)[t]? = some v → w.cell? ⟨b, k * sz + t, none⟩ = some v := by
      intro t v hv
      rw [List.getElem?_take] at hv
      split at hv
      · rw [List.getElem?_drop] at hv
        rw [hown'.cellAt _ (by omega)]; exact hv
      · cases hv
    have hrels : PRels K w p.cells ((xs.drop (k * sz)).take sz) := by
      refine ⟨by rw [List.length_take, List.length_drop]; omega, fun t c v hc' hv => ?_⟩
      rw [List.getElem?_take] at hv
      split at hv
      · rw [List.getElem?_drop] at hv
        obtain ⟨u, hu, _, hr⟩ := hc t c hc'
        rw [hu, Option.some.injEq] at hv; subst hv; exact hr
      · cases hv
    have hone : ∀ v ∈ (xs.drop (k * sz)).take sz, v.oneCell' = true := by
      intro v hv
      obtain ⟨t, hlt, rfl⟩ := List.getElem_of_mem hv
      have hlt' : t < sz := by rw [List.length_take] at hlt; omega
      have ht' : t < p.cells.length := by omega
      obtain ⟨u, hu, h1u, _⟩ := hc t p.cells[t] (List.getElem?_eq_getElem ht')
      rw [List.getElem_take, List.getElem_drop]
      have := (List.getElem?_eq_some_iff.1 hu).2
      rw [this]; exact h1u
    obtain ⟨v, hv, hvr⟩ := run_loadVar_rows htb (b := b) (o := k * sz) hcell hrels hone hq
    have hrun : (execOp a.eval o).run P w = .ok (.value v) w := by
      subst hoff
      simp [execOp, hop, hxv, Instr.loadAt, Instr.sureAddr, hv]
    unfold Oper.wp
    rw [hrun]
    simp only [Oper.upon]
    refine hKK _ _ (h.go _ _ ⟨put_size h1, put_defers h2, K, ρ, hf, ?_⟩)
    rw [hd]
    exact env_put h1 ht he (.pv _ _ hvr)

/-- A store into an element, or into some of its cells. -/
theorem ao_mstore (htb : TabOK P tb) {ty : Nat} {x y : Operand} {i k j sz off e : Nat} {es : List PV} {p q p' : PV} (hg : guardE ops env o = some true) (hop : o.op = .store ty x y) (hx : env.val x = some (.ad i off)) (hi : H.get i = some (.mrow e sz es)) (hoff : off = k * sz + j)
    (hp : es[k]? = some p) (hy : env.pv H y = some q) (hnt : q.notTup = true) (hs : storeP p j (tb.size ty) q = some p') (hk : tb.known ty = true) (hd : o.dst = none)
    (h : AO P n g ops.toArray rest env ((i, .mrow e sz (es.set k p')) :: H) Q) : AO P n g ops.toArray (o :: rest) env H Q := by
  refine ⟨fun a w hinv => ?_⟩
  have hw := wanted_of hinv hg
  obtain ⟨h1, h2, K, ρ, hf, he⟩ := hinv
  refine wpList_step fun KK hKK => ?_
  rw [if_pos hw]
  have hxr := val_rel he hx
  have hyr := opE_pv (a := a) hf (x := y) (fun av hh => val_rel he hh) hy
  generalize hxv : a.eval x = xv at hxr
  generalize hyv : a.eval y = yv at hyr
  obtain ⟨xs, hown, h0, hcr, hnK⟩ := hf.heap.ok i _ hi
  have hkl : k < es.length := (List.getElem?_eq_some_iff.1 hp).1
  obtain ⟨s1, s2, s3⟩ := storeP_cells hs
  have hyc := cells_rel hyr
  have hy1 := cells_one hyr hnt
  obtain ⟨hpl, _⟩ := hcr k p hp
  have hle : k * sz + sz ≤ es.length * sz := by rw [← Nat.succ_mul]; exact Nat.mul_le_mul_right _ hkl
  have hyl : yv.cells.toList.length = tb.size ty := by rw [hyc.1, s1]
  cases hxr with
  | ad _ _ b m c hi' hρ =>
    rcases hown.2 with ⟨hr, _⟩ | ⟨g', cap, cur, hr, hB, hheap, hec, hcap, hsize, htake⟩
    · rw [hρ] at hr; simp at hr
    · rw [hρ] at hr
      simp only [Value.slice.injEq, Option.some.injEq, Addr.mk.injEq, and_true] at hr
      obtain ⟨rfl, rfl, rfl⟩ := hr
      have hcs : es.length * sz ≤ cur.size := by rw [hsize]; exact Nat.mul_le_mul_right _ hec
      have hko : tb.k ty ≠ .oth := by intro e; simp [Tab.known, e] at hk
      have hsz := run_sizeOf htb hko w
      have hst := run_storeCells_at P b off e yv.cells.toList 0 cur w hheap (by rw [hyl]; omega) hy1
      obtain ⟨arr, harr⟩ : ∃ arr, arr = (cur.toList.take off ++ yv.cells.toList ++ cur.toList.drop (off + yv.cells.toList.length)).toArray := ⟨_, rfl⟩
      have hrun : (execOp a.eval o).run P w = .ok .skip (w.setRow b arr) := by
        simp only [Nat.add_zero] at hst
        rw [← harr] at hst
        have hyl' : yv.cells.size = tb.size ty := by simpa using hyl
        simp [execOp, hop, hxv, hyv, Instr.storeAt, Instr.sureAddr, storeVar, hsz, hyl', hst]
      unfold Oper.wp
      rw [hrun]
      simp only [Oper.upon]
      have hgrow : w.grownBy (w.setRow b arr) (some b) := ⟨rfl, rfl, rfl, by simp, fun k _ hk => setRow_other w b k _ (fun e => hk (by simp [e]))⟩
      have hnKb : ∀ o, ¬ K b o := hnK b (by rw [hρ]; rfl)
      have hlat : Later K K w (w.setRow b arr) := ⟨fun _ _ h => h, fun b' o hk => by
        have : b' ≠ b := by rintro rfl; exact hnKb o hk
        exact cell_setRow_other w b _ ⟨b', o, none⟩ this⟩
      have hkeep : ∀ j, (H.get j).isSome = true → (HEnv.get ((i, .mrow e sz (es.set k p')) :: H) j).isSome = true ∧ ρ j = ρ j := by
        intro j hj
        refine ⟨?_, rfl⟩
        rw [HEnv.get_cons]
        split
        · rfl
        · exact hj
      have hd' : a.put o.dst undef = a := by rw [hd]; rfl
      rw [hd']
      refine hKK _ _ (h.go _ _ ⟨h1, h2, K, ρ, ⟨hf.below.grown hgrow hf.below.size (fun k hk => by simp at hk; omega), hf.old, hf.new, fun b o hk => by have := hf.lt b o hk; simpa using this, hf.others.trans (others_row hheap hgrow), hf.pt.grown hf.old hgrow hlat (fun b2 hb2 => by cases hb2; exact hf.away i _ b hi rfl (by rw [hρ]; rfl)) (fun _ _ h => .inl h), hf.away.set hi rfl, ?_, ?_⟩, he.keeps hlat hkeep⟩)
      · intro j' e' hj
        rw [HEnv.get_cons] at hj
        split at hj
        · rename_i e1; subst e1
          simp only [Option.some.injEq] at hj; subst hj
          have hxl : xs.length = es.length * sz := hown.1
          have hoffl : off + yv.cells.toList.length ≤ es.length * sz := by rw [hyl]; omega
          refine ⟨xs.take off ++ yv.cells.toList ++ xs.drop (off + yv.cells.toList.length), ⟨?_, .inr ⟨b, c, arr, by rw [hρ, List.length_set], hB, setRow_heap w b cur _ e _ hheap, by rw [List.length_set]; exact hec, hcap, ?_, ?_⟩⟩, h0, ?_, fun b' hb' => hnK b' hb'⟩
          · rw [List.length_set, List.length_append, List.length_append, List.length_take, List.length_drop]; omega
          · rw [← hsize, harr, List.size_toArray, List.length_append, List.length_append, List.length_take, List.length_drop, Array.length_toList]; omega
          · rw [List.length_set, harr, ← htake]
            exact splice_take hoffl (by simpa using hcs)
          · intro i1 e1 he1
            have hi1 : i1 < es.length := by have := (List.getElem?_eq_some_iff.1 he1).1; simpa using this
            by_cases hik : i1 = k
            · subst hik
              rw [List.getElem?_set_self hkl] at he1
              simp only [Option.some.injEq] at he1; subst he1
              have hpl' : p'.cells.length = sz := by rw [s3, List.length_append, List.length_append, List.length_take, List.length_drop]; omega
              refine ⟨hpl', fun t c' hc' => ?_⟩
              have htl : t < sz := by rw [← hpl']; exact (List.getElem?_eq_some_iff.1 hc').1
              rw [s3, ← s1, splice_get (by omega)] at hc'
              rw [splice_get (by omega)]
              split at hc'
              · obtain ⟨v, v1, v2, v3⟩ := (hcr i1 p hp).2 t c' hc'
                exact ⟨v, by rw [if_pos (by omega)]; exact v1, v2, v3.later hlat⟩
              · split at hc'
                · rename_i t1 t2
                  have hlt2 : t - j < yv.cells.toList.length := by omega
                  refine ⟨yv.cells.toList[t - j], ?_, hy1 _ (List.getElem_mem hlt2), (hyc.2 (t - j) c' _ hc' (List.getElem?_eq_getElem hlt2)).later hlat⟩
                  rw [if_neg (by omega), if_pos (by omega), show i1 * sz + t - off = t - j by omega]
                  exact List.getElem?_eq_getElem hlt2
                · obtain ⟨v, v1, v2, v3⟩ := (hcr i1 p hp).2 t c' hc'
                  exact ⟨v, by rw [if_neg (by omega), if_neg (by omega)]; exact v1, v2, v3.later hlat⟩
            · rw [List.getElem?_set_ne (Ne.symm hik)] at he1
              obtain ⟨g1, g2⟩ := hcr i1 e1 he1
              refine ⟨g1, fun t c' hc' => ?_⟩
              obtain ⟨v, v1, v2, v3⟩ := g2 t c' hc'
              have htl : t < sz := by rw [← g1]; exact (List.getElem?_eq_some_iff.1 hc').1
              refine ⟨v, ?_, v2, v3.later hlat⟩
              rw [splice_get (by omega)]
              rcases Nat.lt_or_gt_of_ne hik with hlt | hgt
              · have : i1 * sz + sz ≤ k * sz := by rw [← Nat.succ_mul]; exact Nat.mul_le_mul_right _ hlt
                rw [if_pos (by omega)]; exact v1
              · have : k * sz + sz ≤ i1 * sz := by rw [← Nat.succ_mul]; exact Nat.mul_le_mul_right _ hgt
                rw [if_neg (by omega), if_neg (by omega)]; exact v1
        · rename_i hne
          by_cases hlive : e'.live = true
          · have := (hf.heap.ok j' e' hj).grown (f := id) hgrow hlat (fun b o h => .inl h) (fun av v h => h.keeps hlat hkeep) hlive (fun b' hb' e' => by
              simp at e'; subst e'
              exact hf.heap.apart i j' _ _ b hne hi hj rfl hlive (by rw [hρ]; rfl) hb')
            cases e' <;> exact this
          · cases e' <;> simp [HE.live] at hlive
            · trivial
            · exact ARel.keeps hlat hkeep (hf.heap.ok j' _ hj)
      · intro j' k' e1 e2 bb hjk hj hk' hlj hlk hbj hbk
        have f1 : ∀ (j : Nat) (hh : HE), HEnv.get ((i, .mrow e sz (es.set k p')) :: H) j = some hh → hh.live = true → ∃ h0, H.get j = some h0 ∧ h0.live = true := by
          intro j hh hj hl
          rw [HEnv.get_cons] at hj
          split at hj
          · rename_i e'; subst e'; exact ⟨_, hi, rfl⟩
          · exact ⟨hh, hj, hl⟩
        obtain ⟨a1, a2, a3⟩ := f1 j' e1 hj hlj
        obtain ⟨b1, b2, b3⟩ := f1 k' e2 hk' hlk
        exact hf.heap.apart j' k' a1 b1 bb hjk a2 b2 a3 b3 hbj hbk

def zeroPV (v : Value) : Option PV := match zeroAV v with | some (.pv p) => some p | _ => none
theorem zeroPV_rel {K : KK} {w : World} {v : Value} {p : PV} (h : zeroPV v = some p) : PRel K w p v ∧ p.notTup = true := by
  unfold zeroPV at h
  split at h
  · rename_i p' hz
    simp only [Option.some.injEq] at h; subst h
    unfold zeroAV at hz
    split at hz
    · rename_i cs
      split at hz
      · rename_i ps hps
        simp only [Option.some.injEq, AV.pv.injEq] at hz; subst hz
        have hr := zeroPVs_rel (K := K) (w := w) hps
        have := PRel.agg ps cs.toList hr.1 (zeroPVs_one hps) hr.2
        exact ⟨by simpa using this, rfl⟩
      · cases hz
    · split at hz
      · rename_i ho
        simp only [Option.some.injEq, AV.pv.injEq] at hz; subst hz
        exact ⟨.base _ ho, rfl⟩
      · cases hz
  · cases h

/-- A row of zeros. -/
theorem ao_make (htb : TabOK P tb) {ty e d m : Nat} {x y : Operand} {sz : Nat} {z : PV} {mi : Int} (i : Nat) (hg : guardE ops env o = some true) (hop : o.op = .makeSlice ty x y) (hk : tb.k ty = .sl e) (hx : env.pv H x = some (.base (.int .i64 mi))) (hy : env.pv H y = some (.base (.int .i64 mi))) (hmi : mi = ((m : Nat) : Int))
    (hz : (match tb.zero e with | some v => zeroPV v | none => none) = some z) (hzz : (match tb.get e with | some ti => (match ti.zero with | some zv => ti.size == sz && zv.cells.size == sz && Nat.blt 0 sz | none => false) | none => false) = true)
    (hb : (match tb.get e with | some ti => ti.bytes | none => 0) * m ≤ 281474976710656) (hm : m ≤ maxLen) (hi : H.get i = none) (hd : o.dst = some d) (ht : Nat.blt d n = true)
    (h : AO P n g ops.toArray rest ((d, .own i) :: env) ((i, .mrow e sz (List.replicate m z)) :: H) Q) : AO P n g ops.toArray (o :: rest) env H Q := by
  refine ⟨fun a w hinv => ?_⟩
  have hw := wanted_of hinv hg
  obtain ⟨h1, h2, K, ρ, hf, he⟩ := hinv
  refine wpList_step fun KK hKK => ?_
  rw [if_pos hw]
  subst hmi
  cases hti : tb.get e with
  | none => simp [hti] at hzz
  | some ti =>
    cases hzv : ti.zero with
    | none => simp [hti, hzv] at hzz
    | some zv =>
      simp only [hti, hzv, Bool.and_eq_true, beq_iff_eq] at hzz hb
      obtain ⟨⟨z1, z2⟩, z3⟩ := hzz
      have hsz : 0 < sz := Nat.le_of_ble_eq_true z3
      obtain ⟨tin, q1, q2, q3, q4, _⟩ := tab_info htb hti
      have hzp : zeroPV zv = some z := by
        have : tb.zero e = some zv := by unfold Tab.zero; rw [hti]; exact hzv
        rw [this] at hz; exact hz
      have hxr := opE_pv (a := a) hf (x := x) (fun av hh => val_rel he hh) hx
      have hyr := opE_pv (a := a) hf (x := y) (fun av hh => val_rel he hh) hy
      generalize hxv : a.eval x = xv at hxr
      generalize hyv : a.eval y = yv at hyr
      cases hxr; cases hyr
      obtain ⟨w', r1, r2, r3⟩ := run_make_full w g.w0.heap.size ty e tin zv sz (tab_sl htb hk) q1 (by rw [q4]; exact hzv) (by omega) .i64 .i64 m (by rw [q3]; exact hb) hm hf.below.size
      have hrun : (execOp a.eval o).run P w = .ok (.value (.slice (some ⟨w.heap.size, 0, none⟩) m m)) w' := by
        simp [execOp, hop, hxv, hyv, r1]
      unfold Oper.wp
      rw [hrun]
      simp only [Oper.upon]
      have hev : Evo K K w w' := ⟨⟨r3.os, r3.tape, r3.output, r3.size, fun k hk => r3.block k hk (by simp)⟩, fun _ _ h => h, fun _ _ h => .inl h, fun b o h => Nat.lt_of_lt_of_le (hf.lt b o h) r3.size⟩
      obtain ⟨hzr, hznt⟩ := zeroPV_rel (K := K) (w := w') hzp
      have hzc := cells_rel hzr
      have hzo := cells_one hzr hznt
      have hzl : zv.cells.toList.length = sz := by simpa using z2
      refine hKK _ _ (h.go _ _ ⟨put_size h1, put_defers h2, K, fun j => if j = i then .slice (some ⟨w.heap.size, 0, none⟩) m m else ρ j, hf.fresh hev hi ⟨(madeCells zv.cells (m * sz)).toList, by rw [List.length_replicate]; exact r2, hsz, ?_, ?_⟩ (by simp [blockOf]), ?_⟩)
      · intro i1 e1 he1
        have hi1 : i1 < m := by have := (List.getElem?_eq_some_iff.1 he1).1; simpa using this
        have e2 : e1 = z := by rw [List.getElem?_replicate, if_pos hi1] at he1; simpa using he1.symm
        subst e2
        have hl : e1.cells.length = sz := by rw [← hzl, hzc.1]
        refine ⟨hl, fun k c' hc' => ?_⟩
        have hk : k < sz := by rw [← hl]; exact (List.getElem?_eq_some_iff.1 hc').1
        have hkz : k < zv.cells.size := by omega
        have hu : zv.cells.toList[k]? = some zv.cells[k] := by simp [hkz]
        refine ⟨zv.cells[k], ?_, hzo _ (List.mem_of_getElem? hu), hzc.2 k c' _ hc' hu⟩
        have hlt : i1 * sz + k < m * sz := by
          have : i1 * sz + sz ≤ m * sz := by rw [← Nat.succ_mul]; exact Nat.mul_le_mul_right _ hi1
          omega
        have hmod : (i1 * sz + k) % zv.cells.size = k := by rw [z2, Nat.add_comm, Nat.add_mul_mod_self_right]; exact Nat.mod_eq_of_lt hk
        simp [madeCells, hlt, hmod, hkz]
      · intro b hb o ho
        simp [Value.ownBlock] at hb
        subst hb
        have := hf.lt _ _ ho
        omega
      · rw [hd]
        refine env_put h1 ht (he.keeps (hev.later hf.lt) (fresh_keeps hi _ _)) ?_
        have := ARel.own (K := K) (w := w') (ρ := fun j => if j = i then .slice (some ⟨w.heap.size, 0, none⟩) m m else ρ j) (H := (i, HE.mrow e sz (List.replicate m z)) :: H) i (by simp [HEnv.get_cons])
        simpa using this

/-- A row that is written no more is committed. -/
theorem inv_mfreeze {i e sz : Nat} {es : List PV} {a : Act} {w : World} (hi : H.get i = some (.mrow e sz es)) (hinv : Inv n g env H a w) : Inv n g env ((i, .row e sz es) :: H) a w := by
  obtain ⟨h1, h2, K, ρ, hf, he⟩ := hinv
  obtain ⟨xs, hown, h0, hcr, hnK⟩ := hf.heap.ok i _ hi
  obtain ⟨K', hK'⟩ : ∃ K' : KK, ∀ b o, K' b o ↔ (K b o ∨ ((ρ i).ownBlock = some b ∧ o < es.length * sz)) := ⟨fun b o => K b o ∨ ((ρ i).ownBlock = some b ∧ o < es.length * sz), fun _ _ => Iff.rfl⟩
  have hlat : Later K K' w w := ⟨fun b o h => (hK' b o).2 (.inl h), fun _ _ _ => rfl⟩
  have hk : ∀ j, (H.get j).isSome = true → (HEnv.get ((i, .row e sz es) :: H) j).isSome = true ∧ ρ j = ρ j := fun j hj => by
    refine ⟨?_, rfl⟩
    rw [HEnv.get_cons]
    split
    · rfl
    · exact hj
  have hbo : ∀ {v : Value} {nn : Nat} {zs : List Value} {ww : World} {BB t s : Nat}, ww.ownsRow BB t s v nn zs → ∀ b, blockOf v = some b ↔ v.ownBlock = some b := by
    intro v nn zs ww BB t s h b
    rcases h.2 with ⟨rfl, _⟩ | ⟨_, _, _, rfl, _⟩ <;> simp [blockOf, Value.ownBlock]
  have hne : ∀ {j : Nat} {h : HE} {b' : Nat}, i ≠ j → H.get j = some h → h.live = true → blockOf (ρ j) = some b' → (ρ i).ownBlock ≠ some b' := fun {j h b'} hij hg hl hb e =>
    hf.heap.apart i j _ h b' hij hi hg rfl hl ((hbo hown b').2 e) hb
  refine ⟨h1, h2, K', ρ, ⟨hf.below, fun b o h => (hK' b o).2 (.inl (hf.old b o h)), fun b' o h => ?_, fun b' o h => ?_, hf.others, hf.pt.grown hf.old (row := (ρ i).ownBlock) ⟨rfl, rfl, rfl, Nat.le_refl _, fun _ _ _ => rfl⟩ hlat (fun b hb => hf.away i _ b hi rfl ((hbo hown b).2 hb)) (fun b o h => (hK' b o).1 h |>.elim .inl (fun h => .inr (.inl h.1))), hf.away.set hi rfl, ?_, ?_⟩, he.keeps hlat hk⟩
  · rcases (hK' b' o).1 h with h | ⟨h, _⟩
    · exact hf.new b' o h
    · exact .inr (hown.lt b' h).1
  · rcases (hK' b' o).1 h with h | ⟨h, _⟩
    · exact hf.lt b' o h
    · exact (hown.lt b' h).2
  · intro j h hg
    rw [HEnv.get_cons] at hg
    split at hg
    · rename_i e1; subst e1
      simp only [Option.some.injEq] at hg; subst hg
      refine ⟨xs, hown, h0, fun k e he => ?_, fun b' hb o => ?_⟩
      · obtain ⟨c1, c2⟩ := hcr k e he
        exact ⟨c1, fun k c hc => let ⟨v, h4, h5, h6⟩ := c2 k c hc; ⟨v, h4, h5, h6.later hlat⟩⟩
      · rw [hK']
        exact ⟨fun h => (h.resolve_left (hnK b' hb o)).2, fun h => .inr ⟨hb, h⟩⟩
    · rename_i hij
      have ho := hf.heap.ok j h hg
      by_cases hlive : h.live = true
      · have := ho.grown (f := id) (w' := w) (K' := K') (ρ' := ρ) (H' := (i, .row e sz es) :: H) (row := (ρ i).ownBlock) ⟨rfl, rfl, rfl, Nat.le_refl _, fun _ _ _ => rfl⟩ hlat (fun b o h => (hK' b o).1 h |>.elim .inl (fun h => .inr (.inl h.1))) (fun av v h => h.keeps hlat hk) hlive (fun b' hb' => hne hij hg hlive hb')
        cases h <;> exact this
      · cases h <;> simp [HE.live] at hlive
        · trivial
        · exact ARel.keeps hlat hk ho
  · intro j k h h' b' hjk hg hg' hl hl'
    have f1 : ∀ (j : Nat) (hh : HE), HEnv.get ((i, .row e sz es) :: H) j = some hh → hh.live = true → ∃ h0, H.get j = some h0 ∧ h0.live = true := by
      intro j hh hj hl
      rw [HEnv.get_cons] at hj
      split at hj
      · rename_i e'; subst e'; exact ⟨_, hi, rfl⟩
      · exact ⟨hh, hj, hl⟩
    obtain ⟨a1, a2, a3⟩ := f1 j h hg hl
    obtain ⟨b1, b2, b3⟩ := f1 k h' hg' hl'
    exact hf.heap.apart j k a1 b1 b' hjk a2 b2 a3 b3
theorem aw_mfreeze (i : Nat) {e sz : Nat} {es : List PV} (hi : H.get i = some (.mrow e sz es)) (k : AW P n g c env ((i, .row e sz es) :: H) QQ) : AW P n g c env H QQ := ⟨fun a w hinv => k.go a w (inv_mfreeze hi hinv)⟩
theorem ao_mfreeze {l : List Oper} (i : Nat) {e sz : Nat} {es : List PV} (hi : H.get i = some (.mrow e sz es)) (k : AO P n g ops.toArray l env ((i, .row e sz es) :: H) Q) : AO P n g ops.toArray l env H Q := ⟨fun a w hinv => k.go a w (inv_mfreeze hi hinv)⟩

theorem hsub_m {H' : HEnv} {i : Nat} {t sz : Nat} {es es' : List PV} (h : H.get i = some (.mrow t sz es)) (e : es = es') (hs : HSub H H') : HSub H ((i, .mrow t sz es') :: H') := hsub_cons (by rw [h, e]) hs
theorem rng_get {α : Type} {f : Nat → α} {m k : Nat} (h : k < m) : ((List.range m).map f)[k]? = some (f k) := by simp [h]
theorem rng_set {α : Type} {f f' : Nat → α} {m k : Nat} {v : α} (h : ∀ p, p < m → f' p = if p = k then v else f p) : ((List.range m).map f).set k v = (List.range m).map f' := by
  apply List.ext_getElem?
  intro t
  by_cases ht : t < m
  · rw [List.getElem?_set]
    split
    · rename_i e; subst e; simp [ht, h k ht]
    · rename_i e; simp [ht, h t ht, Ne.symm e]
  · rw [List.getElem?_eq_none (by simp; omega), List.getElem?_eq_none (by simp; omega)]
theorem rng_rep {α : Type} {f : Nat → α} {m : Nat} {v : α} (h : ∀ p, p < m → f p = v) : List.replicate m v = (List.range m).map f := by
  apply List.ext_getElem?
  intro t
  by_cases ht : t < m
  · simp [ht, h t ht]
  · rw [List.getElem?_eq_none (by simp; omega), List.getElem?_eq_none (by simp; omega)]

/-- A nil slice is a row that may be written. -/
theorem aw_mown_nil {t : Nat} (i : Nat) (e : TypeId) (sz : Nat) (hsz : 0 < sz) (ht : env.get t = some (.pv (.base (.slice none 0 0)))) (hi : H.get i = none) (h : AW P n g c ((t, .own i) :: env) ((i, .mrow e sz []) :: H) QQ) : AW P n g c env H QQ := by
  refine ⟨fun a w hinv => h.go a w ?_⟩
  obtain ⟨h1, h2, K, ρ, hf, he⟩ := hinv
  have hev : Evo K K w w := .refl hf.lt
  refine ⟨h1, h2, K, fun j => if j = i then .slice none 0 0 else ρ j, hf.fresh hev hi ⟨[], World.ownsRow_nil w _ e sz, hsz, fun i e h => by simp at h, by simp [Value.ownBlock]⟩ (by simp [blockOf]), ?_⟩
  have he' := he.keeps (hev.later hf.lt) (H' := (i, .mrow e sz []) :: H) (fresh_keeps hi _ (.slice none 0 0))
  intro t' av hg
  rw [Env.get_cons] at hg
  split at hg
  · rename_i e'; subst e'
    simp only [Option.some.injEq] at hg; subst hg
    obtain ⟨v, hv, hr⟩ := he _ _ ht
    cases hr with
    | pv _ _ hp =>
      cases hp
      refine ⟨_, hv, ?_⟩
      have := ARel.own (K := K) (w := w) (ρ := fun j => if j = i then .slice none 0 0 else ρ j) (H := (i, HE.mrow e sz []) :: H) i (by simp [HEnv.get_cons])
      simpa using this
  · exact he' _ _ hg
end
end Go.Cg
namespace Go.Cg
open Go.Proofs

set_option maxHeartbeats 4000000 in
theorem LayoutFull_call (g : Img) (hx : OkA g) (a : Int) (ha0 : 0 ≤ a) (ha1 : a ≤ 255) : ACall Tryz.prog 8 [imgPV g, .base (.int .u8 a)] (pb true) := by
  refine acall_intro tbOK Tryz.func8 rfl (by kernel_rfl) Tryz.ntmps8 (by simp) _ rfl (fun hw gB hgB => ?_)
  have c1 := Long_call g
  cases hl : longG g
  · rw [hl] at c1
    have c7 := FineR_call g
    cases hfi : fineR g
    · rw [hfi] at c7
      repeat' (first | (refine shC ?_; first | refine qC wakes12_call ?_ | refine qC c1 ?_ | refine qC c7 ?_) | refine sK ?_ | refine sC (fun _ => ?_) (fun _ => ?_) | fail)
      all_goals exact retq rfl rfl
    · have hF := fine_of hfi
      have hW := well_wl hF.well
      have hN := (formedG_bounds hF.formed).1
      have hgl := (formedG_bounds hF.formed).2.1
      rw [hfi] at c7
      by_cases hn : g.types.length = 0
      · have hnb : ((((g.types.map tdPV).length : Nat) : Int) == 0) = true := by simp [hn]
        repeat' (first | (refine shC ?_; first | refine qC wakes12_call ?_ | refine qC c1 ?_ | refine qC c7 ?_) | refine sK ?_ | refine sC (fun _ => ?_) (fun _ => ?_) | fail)
        all_goals exact retq rfl rfl
      · have hnb : ((((g.types.map tdPV).length : Nat) : Int) == 0) = false := by rw [List.length_map, beq_eq_false_iff_ne]; omega
        have hne : (((g.types.map tdPV).length : Nat) : Int) ≠ 0 := by rw [List.length_map]; omega
        have hlen : (g.types.map tdPV).length = g.types.length := by simp
        obtain ⟨hx0, hx1⟩ := u8_rem ha0 ha1 hn
        rw [← hlen] at hx0 hx1
        obtain ⟨t, hxx⟩ : ∃ x, (IntKind.i64.wrap a).tmod (((g.types.map tdPV).length : Nat) : Int) = x := ⟨_, rfl⟩
        rw [hxx] at hx0 hx1
        rw [hlen] at hx1
        have ck := KindR_call g t
        have cu := UpR_call g t (by omega)
        have co := ObjectA_call g hx t
        have cs := StaticsA_call g hx
        rw [show staticsA g = statT g g.fields.length by simp [staticsA, hfi]] at cs
        have hsl := statT_le hF g.fields.length
        have hol : (objectA g t).length ≤ 512 := by
          rw [objectA]; split
          · exact objT_le hF t
          · simp
        obtain ⟨M, hM⟩ : ∃ M, M = (objectA g t).length + 1 := ⟨_, rfl⟩
        obtain ⟨S, hS⟩ : ∃ S, S = (statT g g.fields.length).length := ⟨_, rfl⟩
        have hp0 : (List.replicate M (pi 0))[0]? = some (pi 0) := by rw [List.getElem?_replicate, if_pos (by omega)]
        have hi0 : 0 < (List.replicate M (pi 0)).length := by rw [List.length_replicate]; omega
        have hMl : IntKind.i64.wrap ((((objectA g t).map tyPV).length : Nat) + 1 : Int) = ((M : Nat) : Int) := by rw [List.length_map, wrap_in (by omega) (by omega)]; omega
        have hSl : ((((statT g g.fields.length).map tyPV).length : Nat) : Int) = ((S : Nat) : Int) := by rw [List.length_map]; omega
        repeat' (first | refine ao_q rfl (q_rem t tbOK rfl rfl rfl hne hxx) rfl rfl ?_ | refine ao_make (m := M) (sz := 1) tbOK 10 rfl rfl rfl rfl rfl hMl rfl rfl (by show 8 * _ ≤ _; omega) (by simp [maxLen]; omega) rfl rfl rfl ?_ | refine ao_make (m := S) (sz := 1) tbOK 11 rfl rfl rfl rfl rfl hSl rfl rfl (by show 8 * _ ≤ _; omega) (by simp [maxLen]; omega) rfl rfl rfl ?_ | (refine shC ?_; first | refine qC wakes12_call ?_ | refine qC c1 ?_ | refine qC c7 ?_ | refine qC co ?_ | refine qC cs ?_ | refine qC cu ?_) | (refine ao_sh_ix ?_; first | refine ao_mindex (k := 0) tbOK rfl rfl rfl rfl rfl rfl rfl rfl rfl hi0 rfl rfl ?_) | (refine ao_sh_store ?_; first | refine ao_mstore (k := 0) (j := 0) tbOK rfl rfl rfl rfl rfl hp0 rfl rfl rfl rfl rfl ?_) | refine sK ?_ | refine sC (fun _ => ?_) (fun _ => ?_) | fail)
        have hset : (List.replicate M (pi 0)).set 0 (pi 1) = (List.range M).map fun p => pi (metV g t (cK g 0 0) p) := by
          rw [rng_rep (f := fun _ => pi 0) (fun _ _ => rfl)]
          refine rng_set fun p _ => ?_
          rw [metV_first]; split <;> rfl
        have hrep : List.replicate S (pi 0) = (List.range S).map fun p => pi (stlV g 0 0 p) := rng_rep fun p _ => by
          have : stlN g 0 0 = 0 := by rw [stlN]; split <;> simp [statT, fcs]
          rw [stlV, this, if_neg (by omega)]
        refine aw_loop (fun i : Nat => [(2, .pv (.ptr (imgPV g) 0)), (5, .pv (pi t)), (6, .own 10), (7, .own 11), (8, .pv (ints (up g t))), (56, .pv (pi g.fields.length)), (57, .pv (pi i))])
          (fun i => [(10, .mrow 3 1 ((List.range M).map fun p => pi (metV g t (cK g i 0) p))), (11, .mrow 3 1 ((List.range S).map fun p => pi (stlV g i 0 p)))])
          (fun i => i ≤ g.fields.length) (fun i => g.fields.length - i) 0 (by omega) (tS) ⟨hsub_m rfl hset (hsub_m rfl hrep hsub_nil), rfl⟩ ?_
        rintro i hi
        by_cases hlt : i < g.fields.length
        · have he := map_get (f := fdPV) hlt
          have cw := Words_call g hx g.fields[i].ty
          have hu := allUsed_at hF.used (List.getElem_mem hlt)
          rw [cellsA_yes hfi hu] at cw
          have hcf := hF.used_le hu
          have cp := PlaceA_call g hx i
          have e : placeA g (i : Int) = placeT g i := by simp [placeA, hfi, hlt]
          rw [e] at cp
          obtain ⟨N, hN'⟩ : ∃ N, N = (cellsT g g.fields[i].ty).length := ⟨_, rfl⟩
          rw [← hN'] at cw hcf
          have hpl : placeT g i ≤ 2000 := by
            rw [placeT]
            have h1 := statT_le hF i
            have h2 := fcs_filter_le hF (ownP (g.fields.getD i default).owner) i
            have h3 := objT_le hF (extAt g (g.fields.getD i default).owner)
            split
            · omega
            · rw [headT]; split <;> omega
          repeat' (first | (refine shC ?_; first | refine qC cw ?_ | refine qC cp ?_) | (refine shX ?_; first | refine qX he ?_) | refine sK ?_ | refine sC (fun _ => ?_) (fun _ => ?_) | fail)
          refine aw_loop (fun k : Nat => [(2, .pv (.ptr (imgPV g) 0)), (5, .pv (pi t)), (6, .own 10), (7, .own 11), (8, .pv (ints (up g t))), (56, .pv (pi g.fields.length)), (57, .pv (pi i)), (10, .box 0 0), (12, .pv (pi (placeT g i))), (72, .pv (pi N)), (73, .pv (pi k))])
            (fun k => [(0, .cell (.pv (fdPV g.fields[i]))), (10, .mrow 3 1 ((List.range M).map fun p => pi (metV g t (cK g i k) p))), (11, .mrow 3 1 ((List.range S).map fun p => pi (stlV g i k p)))])
            (fun k => k ≤ N) (fun k => N - k) 0 (by omega) (tS) tH ?_
          rintro k hk
          by_cases hkl : k < N
          · obtain ⟨idx, hix⟩ : ∃ x, x = placeT g i + k := ⟨_, rfl⟩
            have hidx : IntKind.i64.wrap ((placeT g i : Int) + (k : Int)) = ((idx : Nat) : Int) := by rw [wrap_in (by omega) (by omega)]; omega
            cases hst : g.fields[i].static
            · by_cases hin : kindG g t = 0 ∧ g.fields[i].owner ∈ up g t
              · obtain ⟨hk0, hmem⟩ := hin
                have hM' : M = (objT g t).length + 1 := by rw [hM, objectA, hfi, hk0]; rfl
                obtain ⟨s1, s2, s3⟩ := metV_step hW hk0 hlt hmem hst (k := k) (by omega)
                have hpe : placeT g i = baseT g g.fields[i].owner + cntO g g.fields[i].owner i := by
                  rw [placeT, getD_get hlt, hst, headT, up_kind0 hW _ t rfl hk0 _ hmem]; rfl
                have hie : idx = baseT g g.fields[i].owner + cntO g g.fields[i].owner i + k := by omega
                rw [← hie] at s1 s2 s3
                have hpp : ((List.range M).map fun p => pi (metV g t (cK g i k) p))[idx]? = some (pi 0) := by rw [rng_get (by omega), s2]
                have hil : idx < ((List.range M).map fun p => pi (metV g t (cK g i k) p)).length := by rw [List.length_map, List.length_range]; omega
                have hge : decide (((((List.range M).map fun p => pi (metV g t (cK g i k) p)).length : Nat) : Int) ≤ IntKind.i64.wrap ((placeT g i : Int) + (k : Int))) = false := by
                  rw [hidx, List.length_map, List.length_range]; exact decide_eq_false (by omega)
                have hmet : ((List.range M).map fun p => pi (metV g t (cK g i k) p)).set idx (pi (IntKind.i64.wrap (0 + 1))) = (List.range M).map fun p => pi (metV g t (cK g i (k + 1)) p) :=
                  rng_set fun p _ => by rw [s3 p]; split <;> rfl
                have hstl : ((List.range S).map fun p => pi (stlV g i k p)) = (List.range S).map fun p => pi (stlV g i (k + 1) p) :=
                  List.map_congr_left fun p _ => by rw [stlV, stlV, stlN, stlN, getD_get hlt, hst]; rfl
                have chas := Has_call (up g t) g.fields[i].owner
                rw [decide_eq_true hmem] at chas
                have ck0 := ck
                rw [hk0] at ck0
                repeat' (first | refine ao_mload (k := idx) (j := 0) tbOK rfl rfl rfl rfl rfl hpp rfl rfl rfl ?_ | (refine shC ?_; first | refine qC ck0 ?_ | refine qC chas ?_) | (refine ao_sh_bi ?_; first | refine ao_mlen tbOK rfl rfl rfl rfl rfl rfl rfl ?_) | (refine ao_sh_ix ?_; first | refine ao_mindex (k := idx) tbOK rfl rfl rfl rfl rfl rfl rfl rfl hidx hil rfl rfl ?_) | (refine ao_sh_store ?_; first | refine ao_mstore (k := idx) (j := 0) tbOK rfl rfl rfl rfl rfl hpp rfl rfl rfl rfl rfl ?_) | refine sK ?_ | refine sC (fun _ => ?_) (fun _ => ?_) | fail)
                all_goals exact ⟨k + 1, hkl, tD, tS, ⟨hsub_cons rfl (hsub_m rfl hmet (hsub_m rfl hstl hsub_nil)), rfl⟩⟩
              · have hsk := metV_skip (t := t) hlt (fun h => hin ⟨h.1, h.2.1⟩) k (k + 1)
                have hmet : ((List.range M).map fun p => pi (metV g t (cK g i k) p)) = (List.range M).map fun p => pi (metV g t (cK g i (k + 1)) p) := List.map_congr_left fun p _ => by rw [hsk]
                have hstl : ((List.range S).map fun p => pi (stlV g i k p)) = (List.range S).map fun p => pi (stlV g i (k + 1) p) :=
                  List.map_congr_left fun p _ => by rw [stlV, stlV, stlN, stlN, getD_get hlt, hst]; rfl
                by_cases hk0 : kindG g t = 0
                · have chas := Has_call (up g t) g.fields[i].owner
                  rw [decide_eq_false (fun h => hin ⟨hk0, h⟩)] at chas
                  have ck0 := ck
                  rw [hk0] at ck0
                  repeat' (first | (refine shC ?_; first | refine qC ck0 ?_ | refine qC chas ?_) | refine sK ?_ | refine sC (fun _ => ?_) (fun _ => ?_) | fail)
                  all_goals exact ⟨k + 1, hkl, tD, tS, ⟨hsub_cons rfl (hsub_m rfl hmet (hsub_m rfl hstl hsub_nil)), rfl⟩⟩
                · have hkb : (kindG g t == 0) = false := by simp [hk0]
                  repeat' (first | (refine shC ?_; first | refine qC ck ?_) | refine sK ?_ | refine sC (fun _ => ?_) (fun _ => ?_) | fail)
                  all_goals exact ⟨k + 1, hkl, tD, tS, ⟨hsub_cons rfl (hsub_m rfl hmet (hsub_m rfl hstl hsub_nil)), rfl⟩⟩
            · have hpe : placeT g i = (statT g i).length := by rw [placeT, getD_get hlt, hst]; rfl
              have hnx := stlN_next hlt
              have hn1 : stlN g (i + 1) 0 = (statT g (i + 1)).length := by rw [stlN]; split <;> rfl
              have hn2 : ∀ k, stlN g i k = (statT g i).length + k := fun k => by rw [stlN, getD_get hlt, hst]; rfl
              have hn3 := statT_mono g (i + 1)
              rw [hn1, ← hN', hn2] at hnx
              have hv0 : stlV g i k idx = 0 := by rw [stlV, hn2, if_neg (by omega)]
              have hpp : ((List.range S).map fun p => pi (stlV g i k p))[idx]? = some (pi 0) := by rw [rng_get (by omega), hv0]
              have hil : idx < ((List.range S).map fun p => pi (stlV g i k p)).length := by rw [List.length_map, List.length_range]; omega
              have hge : decide (((((List.range S).map fun p => pi (stlV g i k p)).length : Nat) : Int) ≤ IntKind.i64.wrap ((placeT g i : Int) + (k : Int))) = false := by
                rw [hidx, List.length_map, List.length_range]; exact decide_eq_false (by omega)
              have hstl : ((List.range S).map fun p => pi (stlV g i k p)).set idx (pi (IntKind.i64.wrap (0 + 1))) = (List.range S).map fun p => pi (stlV g i (k + 1) p) :=
                rng_set fun p _ => by
                  rw [stlV, stlV, hn2, hn2]
                  by_cases hp : p = idx
                  · rw [if_pos hp, if_pos (by omega)]; rfl
                  · rw [if_neg hp]
                    by_cases hp2 : p < (statT g i).length + k
                    · rw [if_pos hp2, if_pos (by omega)]
                    · rw [if_neg hp2, if_neg (by omega)]
              have hsk := metV_skip (t := t) hlt (fun h => by rw [hst] at h; exact absurd h.2.2 (by simp)) k (k + 1)
              have hmet : ((List.range M).map fun p => pi (metV g t (cK g i k) p)) = (List.range M).map fun p => pi (metV g t (cK g i (k + 1)) p) := List.map_congr_left fun p _ => by rw [hsk]
              repeat' (first | refine ao_mload (k := idx) (j := 0) tbOK rfl rfl rfl rfl rfl hpp rfl rfl rfl ?_ | (refine ao_sh_bi ?_; first | refine ao_mlen tbOK rfl rfl rfl rfl rfl rfl rfl ?_) | (refine ao_sh_ix ?_; first | refine ao_mindex (k := idx) tbOK rfl rfl rfl rfl rfl rfl rfl rfl hidx hil rfl rfl ?_) | (refine ao_sh_store ?_; first | refine ao_mstore (k := idx) (j := 0) tbOK rfl rfl rfl rfl rfl hpp rfl rfl rfl rfl rfl ?_) | refine sK ?_ | refine sC (fun _ => ?_) (fun _ => ?_) | fail)
              all_goals exact ⟨k + 1, hkl, tD, tS, ⟨hsub_cons rfl (hsub_m rfl hmet (hsub_m rfl hstl hsub_nil)), rfl⟩⟩
          · obtain rfl : k = N := by omega
            repeat' (first | refine sK ?_ | refine sC (fun _ => ?_) (fun _ => ?_) | fail)
            refine ⟨i + 1, hlt, tD, tS, ⟨hsub_m rfl ?_ (hsub_m rfl ?_ hsub_nil), rfl⟩⟩
            · refine List.map_congr_left fun p _ => ?_
              rw [hN', metV_next hlt]
            · refine List.map_congr_left fun p _ => ?_
              rw [hN', stlV, stlV, stlN_next hlt]
        · obtain rfl : i = g.fields.length := by omega
          have hstl : ((List.range S).map fun p => pi (stlV g g.fields.length 0 p)) = (List.range S).map fun _ => pi 1 := List.map_congr_left fun p hp => by
            have : stlN g g.fields.length 0 = S := by rw [stlN, hS]; split <;> rfl
            rw [stlV, this, if_pos (List.mem_range.1 hp)]
          rw [hstl]
          repeat' (first | (refine ao_sh_bi ?_; first | refine ao_mlen tbOK rfl rfl rfl rfl rfl rfl rfl ?_) | refine sK ?_ | refine sC (fun _ => ?_) (fun _ => ?_) | fail)
          refine aw_loop (fun k : Nat => [(2, .pv (.ptr (imgPV g) 0)), (5, .pv (pi t)), (6, .own 10), (118, .own 11), (119, .pv (pi S)), (120, .pv (pi k))])
            (fun k => [(10, .mrow 3 1 ((List.range M).map fun p => pi (metV g t (cK g g.fields.length 0) p))), (11, .mrow 3 1 ((List.range S).map fun _ => pi 1))])
            (fun k => k ≤ S) (fun k => S - k) 0 (by omega) (tS) tH ?_
          rintro k hk
          by_cases hkl : k < S
          · have hpp : ((List.range S).map fun _ => pi 1)[k]? = some (pi 1) := rng_get hkl
            have hil : k < ((List.range S).map fun _ => pi 1).length := by rw [List.length_map, List.length_range]; omega
            repeat' (first | refine ao_mload (k := k) (j := 0) tbOK rfl rfl rfl rfl rfl hpp rfl rfl rfl ?_ | (refine ao_sh_ix ?_; first | refine ao_mindex (k := k) tbOK rfl rfl rfl rfl rfl rfl rfl rfl rfl hil rfl rfl ?_) | refine sK ?_ | refine sC (fun _ => ?_) (fun _ => ?_) | fail)
            all_goals exact ⟨k + 1, hkl, tD, tS, tH⟩
          · repeat' (first | (refine ao_sh_bi ?_; first | refine ao_mlen tbOK rfl rfl rfl rfl rfl rfl rfl ?_) | refine sK ?_ | refine sC (fun _ => ?_) (fun _ => ?_) | fail)
            refine aw_loop (fun k : Nat => [(2, .pv (.ptr (imgPV g) 0)), (5, .pv (pi t)), (127, .own 10), (128, .pv (pi M)), (129, .pv (pi k))])
              (fun k => [(10, .mrow 3 1 ((List.range M).map fun p => pi (metV g t (cK g g.fields.length 0) p)))])
              (fun k => k ≤ M) (fun k => M - k) 0 (by omega) (tS) tH ?_
            clear hk hkl
            rintro k hk
            by_cases hkl : k < M
            · have hpp : ((List.range M).map fun p => pi (metV g t (cK g g.fields.length 0) p))[k]? = some (pi (metV g t (cK g g.fields.length 0) k)) := rng_get hkl
              have hil : k < ((List.range M).map fun p => pi (metV g t (cK g g.fields.length 0) p)).length := by rw [List.length_map, List.length_range]; omega
              by_cases hk0 : kindG g t = 0
              · have hM' : M = (objT g t).length + 1 := by rw [hM, objectA, hfi, hk0]; rfl
                rw [metV_last hW hk0 (by omega)] at hpp
                repeat' (first | refine ao_mload (k := k) (j := 0) tbOK rfl rfl rfl rfl rfl hpp rfl rfl rfl ?_ | (refine ao_sh_ix ?_; first | refine ao_mindex (k := k) tbOK rfl rfl rfl rfl rfl rfl rfl rfl rfl hil rfl rfl ?_) | refine sK ?_ | refine sC (fun _ => ?_) (fun _ => ?_) | fail)
                all_goals exact ⟨k + 1, hkl, tD, tS, tH⟩
              · have hkb : (kindG g t == 0) = false := by simp [hk0]
                generalize metV g t (cK g g.fields.length 0) k = v at hpp
                by_cases hv : v = 1
                · subst hv
                  repeat' (first | refine ao_mload (k := k) (j := 0) tbOK rfl rfl rfl rfl rfl hpp rfl rfl rfl ?_ | (refine ao_sh_ix ?_; first | refine ao_mindex (k := k) tbOK rfl rfl rfl rfl rfl rfl rfl rfl rfl hil rfl rfl ?_) | refine sK ?_ | refine sC (fun _ => ?_) (fun _ => ?_) | fail)
                  all_goals exact ⟨k + 1, hkl, tD, tS, tH⟩
                · have hvb : (v != 1) = true := by simp [hv]
                  repeat' (first | refine ao_mload (k := k) (j := 0) tbOK rfl rfl rfl rfl rfl hpp rfl rfl rfl ?_ | (refine shC ?_; first | refine qC ck ?_) | (refine ao_sh_ix ?_; first | refine ao_mindex (k := k) tbOK rfl rfl rfl rfl rfl rfl rfl rfl rfl hil rfl rfl ?_) | refine sK ?_ | refine sC (fun _ => ?_) (fun _ => ?_) | fail)
                  all_goals exact ⟨k + 1, hkl, tD, tS, tH⟩
            · repeat' (first | refine sK ?_ | refine sC (fun _ => ?_) (fun _ => ?_) | fail)
              all_goals exact retq rfl rfl
  · rw [hl] at c1
    repeat' (first | (refine shC ?_; first | refine qC wakes12_call ?_ | refine qC c1 ?_) | refine sK ?_ | refine sC (fun _ => ?_) (fun _ => ?_) | fail)
    all_goals exact retq rfl rfl
end Go.Cg
