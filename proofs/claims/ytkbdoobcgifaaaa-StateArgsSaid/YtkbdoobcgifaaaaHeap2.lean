/- Cells of the call's own, written; rows of the call's own, appended to. -/
import Derived.Test.YtkbdoobcgifaaaaHeap
namespace Go.Cg
open Go.RowKit

def mapHE (f : AV → AV) : HE → HE
  | .cell v => .cell (f v)
  | .pin v u => .pin (f v) u
  | h => h

def AV.flat : AV → List AV
  | .agg cs => cs
  | .pv (.agg cs) => cs.map .pv
  | v => [v]

def AV.isAgg : AV → Bool
  | .agg _ => true
  | .pv (.agg _) => true
  | _ => false
def aggAlike (c v : AV) : Bool := c.isAgg == v.isAgg

/-- What a cell holds behind a store into it. -/
def storeA (tb : Tab) (H : HEnv) (ty : Nat) (c : AV) (off : Nat) (v : AV) : Option AV :=
  if v.flat.length = tb.size ty ∧ off + tb.size ty ≤ c.flat.length ∧ (v.flat.all (oneA H)) = true then
    (if off = 0 ∧ c.flat.length = tb.size ty ∧ aggAlike c v = true then some v
    else match c with
      | .agg cs => some (.agg (cs.take off ++ v.flat ++ cs.drop (off + tb.size ty)))
      | .pv (.agg cs) => some (.agg ((cs.map .pv).take off ++ v.flat ++ (cs.map .pv).drop (off + tb.size ty)))
      | _ => none)
  else none

def cellOk (H : HEnv) : AV → Bool
  | .any => false
  | .own i => isVal H i
  | .pv (.tup _) => false
  | _ => true

section
variable {P : Program} {tb : Tab} {n : Nat} {g : Base} {K K' : KK} {w w' : World} {ρ ρ' : Nat → Value} {H H' : HEnv} {env : Env} {a : Act} {ops : List Oper} {o : Oper} {rest : List Oper} {Q : Env → HEnv → Prop} {QQ : QC} {c : Code}

theorem HOk.grown {B : Nat} {row : Option Nat} {f : AV → AV} (hg : w.grownBy w' row) (hl : Later K K' w w') (hK : ∀ b o, K' b o → K b o ∨ row = some b ∨ w.heap.size ≤ b)
    (tr : ∀ av v, ARel K w ρ H av v → ARel K' w' ρ' H' (f av) v) {e : HE} {r : Value} (h : HOk K w B ρ H e r) (hlive : e.live = true) (hne : ∀ b, blockOf r = some b → row ≠ some b) : HOk K' w' B ρ' H' (mapHE f e) r := by
  cases e with
  | cell v =>
    obtain ⟨b, t, arr, u, rfl, hB, hb, hu, ha, hn⟩ := h
    have hlt : b < w.heap.size := (Array.getElem?_eq_some_iff.1 hb).1
    have h1 := hne b rfl
    exact ⟨b, t, arr, u, rfl, hB, by rw [hg.block b hlt (Ne.symm h1)]; exact hb, tr _ _ hu, ha, fun o ho => (hK b o ho).elim (hn o) (fun h => h.elim h1 (by omega))⟩
  | row t sz es =>
    obtain ⟨xs, hown, h0, hc, hkk⟩ := h
    have hbr : ∀ b, r.ownBlock = some b → blockOf r = some b := by
      intro b hb
      rcases hown.2 with ⟨rfl, _⟩ | ⟨g, _, _, rfl, _⟩
      · simp [Value.ownBlock] at hb
      · simpa [blockOf, Value.ownBlock] using hb
    refine ⟨xs, hown.kept (row := row) hg ?_, h0, ?_, ?_⟩
    · cases hb : r.ownBlock with
      | none => exact .inl rfl
      | some b => exact .inr (fun e => hne b (hbr b hb) e.symm)
    · intro i e he
      obtain ⟨h2, h3⟩ := hc i e he
      exact ⟨h2, fun k c hc => let ⟨v, h4, h5, h6⟩ := h3 k c hc; ⟨v, h4, h5, h6.later hl⟩⟩
    · intro b hb o
      rw [← hkk b hb o]
      have hlt := (hown.lt b hb).2
      exact ⟨fun ho => (hK b o ho).elim id (fun h => h.elim (fun h => (hne b (hbr b hb) h).elim) (by omega)), hl.sub b o⟩
  | dead => simp [HE.live] at hlive
  | pin v u => simp [HE.live] at hlive
  | obj X =>
    obtain ⟨b, ob, rfl, hB, hb, hx, hn⟩ := h
    have hlt : b < w.heap.size := (Array.getElem?_eq_some_iff.1 hb).1
    have h1 := hne b rfl
    exact ⟨b, ob, rfl, hB, by rw [hg.block b hlt (Ne.symm h1)]; exact hb, hx, fun o ho => (hK b o ho).elim (hn o) (fun h => h.elim h1 (by omega))⟩

theorem flat_rel {av : AV} {v : Value} (h : ARel K w ρ H av v) (hone : (av.flat.all (oneA H)) = true) (hr : ∀ i, isVal H i = true → (ρ i).cells = #[ρ i] ∧ (ρ i).oneCell' = true) :
    v.cells.size = av.flat.length ∧ (∀ u ∈ v.cells.toList, u.oneCell' = true) ∧ ∀ (k : Nat) (c : AV) (u : Value), av.flat[k]? = some c → v.cells.toList[k]? = some u → ARel K w ρ H c u := by
  have single : ∀ (x : AV) (u : Value), u.cells = #[u] → u.oneCell' = true → ARel K w ρ H x u → u.cells.size = [x].length ∧ (∀ y ∈ u.cells.toList, y.oneCell' = true) ∧ ∀ (k : Nat) (c : AV) (y : Value), [x][k]? = some c → u.cells.toList[k]? = some y → ARel K w ρ H c y := by
    intro x u h1 h2 h3
    rw [h1]
    refine ⟨rfl, by simpa using h2, fun k c y hc hy => ?_⟩
    cases k with
    | zero => simp at hc hy; subst hc hy; exact h3
    | succ k => simp at hc
  cases h with
  | pv p v hp =>
    have hnt : p.notTup = true := by cases p <;> first | rfl | (simp [AV.flat, oneA] at hone)
    have h1 := cells_rel hp
    have h2 := cells_one hp hnt
    have e : (AV.pv p).flat = p.cells.map .pv := by cases p <;> rfl
    rw [e]
    refine ⟨by rw [List.length_map, ← h1.1]; simp, h2, fun k c u hc hu => ?_⟩
    rw [List.getElem?_map] at hc
    cases hk : p.cells[k]? with
    | none => simp [hk] at hc
    | some q => simp [hk] at hc; subst hc; exact .pv _ _ (h1.2 k q u hk hu)
  | own i hi =>
    simp only [AV.flat, List.all_cons, List.all_nil, Bool.and_true, oneA] at hone
    obtain ⟨h1, h2⟩ := hr i hone
    exact single _ _ h1 h2 (.own i hi)
  | box i off b hi hb => exact single _ _ rfl rfl (.box i off b hi hb)
  | agg cs vs h1 h2 h3 => exact ⟨by simp [Value.cells, AV.flat, h1], by simpa [Value.cells] using h2, fun k c u hc hu => h3 k c u hc (by simpa [Value.cells] using hu)⟩
  | fn f first cap vf vc h1 h2 h3 h4 => exact single _ _ rfl rfl (.fn f first cap vf vc h1 h2 h3 h4)
  | any v => simp [AV.flat, oneA] at hone
  | any1 v _ _ => simp [AV.flat, oneA] at hone

theorem row_one (hf : FS g K ρ H w) : ∀ i, isVal H i = true → (ρ i).cells = #[ρ i] ∧ (ρ i).oneCell' = true := by
  intro i hv
  unfold isVal at hv
  split at hv
  · rename_i t sz es hh
    obtain ⟨xs, hown, _⟩ := hf.heap.ok i _ hh
    generalize ρ i = r at hown
    rcases hown.2 with ⟨rfl, _⟩ | ⟨_, _, _, rfl, _⟩ <;> exact ⟨rfl, rfl⟩
  · rename_i X hh
    obtain ⟨b, ob, hr, _⟩ := hf.heap.ok i _ hh
    rw [hr]; exact ⟨rfl, rfl⟩
  · cases hv

theorem storeA_rel {ty off : Nat} {c v r : AV} {cu vu : Value} (h : storeA tb H ty c off v = some r) (hc : ARel K w ρ H c cu) (hv : ARel K w ρ H v vu) (hr : ∀ i, isVal H i = true → (ρ i).cells = #[ρ i] ∧ (ρ i).oneCell' = true)
    (hccells : cu.cells.size = c.flat.length) :
    vu.cells.size = tb.size ty ∧ (∀ u ∈ vu.cells.toList, u.oneCell' = true) ∧ off + tb.size ty ≤ cu.cells.size ∧ ∃ ru, ARel K w ρ H r ru ∧ ru.cells.toList = cu.cells.toList.take off ++ vu.cells.toList ++ cu.cells.toList.drop (off + tb.size ty) := by
  unfold storeA at h
  split at h
  · rename_i hh
    obtain ⟨h1, h2, h3⟩ := hh
    obtain ⟨e1, e2, e3⟩ := flat_rel hv h3 hr
    refine ⟨by omega, e2, by omega, ?_⟩
    split at h
    · rename_i hw
      obtain ⟨w1, w2, _⟩ := hw
      simp only [Option.some.injEq] at h; subst h w1
      refine ⟨vu, hv, ?_⟩
      simp only [List.take_zero, List.nil_append, Nat.zero_add]
      rw [List.drop_eq_nil_of_le (by simp; omega), List.append_nil]
    · rename_i hnw
      have key : ∀ (cs : List AV) (us : List Value), us.length = cs.length → (∀ v ∈ us, v.oneCell' = true) → (∀ (k : Nat) (c : AV) (v : Value), cs[k]? = some c → us[k]? = some v → ARel K w ρ H c v) → off + tb.size ty ≤ cs.length →
          ARel K w ρ H (.agg (cs.take off ++ v.flat ++ cs.drop (off + tb.size ty))) (.agg (us.take off ++ vu.cells.toList ++ us.drop (off + tb.size ty)).toArray) := by
        intro cs us hl ho hr' hle
        refine .agg _ _ (by simp; omega) ?_ ?_
        · intro x hx
          simp only [List.mem_append] at hx
          rcases hx with (hx | hx) | hx
          · exact ho x (List.mem_of_mem_take hx)
          · exact e2 x hx
          · exact ho x (List.mem_of_mem_drop hx)
        · intro k c' x hc' hx
          have hs : vu.cells.toList.length = v.flat.length := by simpa using e1
          simp only [List.getElem?_append, List.length_append, List.length_take, hs, hl] at hc' hx
          split at hc'
          · rename_i hlt
            split at hc'
            · rename_i hlt2
              rw [if_pos hlt, if_pos hlt2] at hx
              rw [List.getElem?_take] at hc' hx
              split at hc'
              · rename_i hlt3; rw [if_pos hlt3] at hx; exact hr' k c' x hc' hx
              · cases hc'
            · rename_i hlt2
              rw [if_pos hlt, if_neg hlt2] at hx
              exact e3 _ c' x hc' hx
          · rename_i hlt
            rw [if_neg hlt] at hx
            rw [List.getElem?_drop] at hc' hx
            exact hr' _ c' x hc' hx
      split at h
      · rename_i cs
        simp only [Option.some.injEq] at h; subst h
        cases hc with
        | agg _ vs a1 a2 a3 =>
          exact ⟨_, key cs vs a1 a2 a3 h2, by simp [Value.cells]⟩
      · rename_i cs
        simp only [Option.some.injEq] at h; subst h
        cases hc with
        | pv _ _ hp =>
          cases hp with
          | agg _ vs a1 a2 a3 =>
            refine ⟨_, key (cs.map .pv) vs (by simpa using a1) a2 (fun k c v hc hv => ?_) (by simpa [AV.flat] using h2), by simp [Value.cells]⟩
            rw [List.getElem?_map] at hc
            cases hk : cs[k]? with
            | none => simp [hk] at hc
            | some q => simp [hk] at hc; subst hc; exact .pv _ _ (a3 k q v hk hv)
      · cases h
  · cases h

theorem cell_flat (hf : FS g K ρ H w) {c : AV} {cu : Value} (hc : ARel K w ρ H c cu) (hn : cellOk H c = true) : cu.cells.size = c.flat.length := by
  cases hc with
  | pv p v hp =>
    have e : (AV.pv p).flat = p.cells.map .pv := by cases p <;> rfl
    rw [e, List.length_map, ← (cells_rel hp).1]; simp
  | own i hi =>
    simp only [cellOk] at hn
    rw [(row_one hf i hn).1]; rfl
  | box i off b hi hb => rfl
  | agg cs vs h1 h2 h3 => simp [Value.cells, AV.flat, h1]
  | fn => rfl
  | any v => cases hn
  | any1 v h1 _ => simp [h1, AV.flat]

/-- A store into a cell of the call's own. -/
theorem ao_store (htb : TabOK P tb) {ty : Nat} {x y : Operand} {i off : Nat} {c v r : AV} (hg : guardE ops env o = some true) (hop : o.op = .store ty x y) (hx : env.val x = some (.box i off)) (hi : H.get i = some (.cell c)) (hy : env.val y = some v)
    (hr : storeA tb H ty c off v = some r) (hk : tb.known ty = true) (hn : cellOk H c = true) (hd : o.dst = none)
    (h : AO P n g ops.toArray rest env ((i, .cell r) :: H) Q) : AO P n g ops.toArray (o :: rest) env H Q := by
  refine ⟨fun a w hinv => ?_⟩
  have hw := wanted_of hinv hg
  obtain ⟨h1, h2, K, ρ, hf, he⟩ := hinv
  refine wpList_step fun KK hKK => ?_
  rw [if_pos hw]
  have hxr := val_rel he hx
  have hyr := val_rel he hy
  generalize hxv : a.eval x = xv at hxr
  generalize hyv : a.eval y = yv at hyr
  obtain ⟨b, t, arr, u, hρ, hB, hheap, hu, harr, hnK⟩ := hf.heap.ok i _ hi
  cases hxr with
  | box _ _ b' hi' hb' =>
    rw [hρ] at hb'
    simp only [Value.pointer.injEq, Option.some.injEq, Addr.mk.injEq, and_true] at hb'
    obtain rfl := hb'
    obtain ⟨s1, s2, s3, ru, hru, hcells⟩ := storeA_rel hr hu hyr (row_one hf) (cell_flat hf hu hn)
    have hko : tb.k ty ≠ .oth := by intro e; simp [Tab.known, e] at hk
    have hs := run_sizeOf htb hko w
    rw [harr] at s3 hcells
    have hst := run_storeCells_at P b off t yv.cells.toList 0 arr w hheap (by simp; omega) s2
    have hrun : (execOp a.eval o).run P w = .ok .skip (w.setRow b ru.cells) := by
      simp only [Nat.add_zero, Array.length_toList, s1] at hst
      rw [← hcells, Array.toArray_toList] at hst
      simp [execOp, hop, hxv, hyv, Instr.storeAt, Instr.sureAddr, storeVar, hs, s1, hst]
    unfold Oper.wp
    rw [hrun]
    simp only [Oper.upon]
    have hgrow : w.grownBy (w.setRow b ru.cells) (some b) := ⟨rfl, rfl, rfl, by simp, fun k _ hk => setRow_other w b k _ (fun e => hk (by simp [e]))⟩
    have hlat : Later K K w (w.setRow b ru.cells) := ⟨fun _ _ h => h, fun b' o hk => by
      have : b' ≠ b := by rintro rfl; exact hnK o hk
      exact cell_setRow_other w b _ ⟨b', o, none⟩ this⟩
    have hkeep : ∀ j, (H.get j).isSome = true → (HEnv.get ((i, .cell r) :: H) j).isSome = true ∧ ρ j = ρ j := by
      intro j hj
      refine ⟨?_, rfl⟩
      simp only [HEnv.get_nil, HEnv.get_cons]
      split
      · rfl
      · exact hj
    have hd' : a.put o.dst undef = a := by rw [hd]; rfl
    rw [hd']
    refine hKK _ _ (h.go _ _ ⟨h1, h2, K, ρ, ⟨hf.below.grown hgrow hf.below.size (fun k hk => by simp at hk; omega), hf.old, hf.new, fun b o hk => by have := hf.lt b o hk; simpa using this, ?_, ?_⟩, he.keeps hlat hkeep⟩)
    · intro j e hj
      simp only [HEnv.get_nil, HEnv.get_cons] at hj
      split at hj
      · rename_i e'; subst e'
        simp only [Option.some.injEq] at hj; subst hj
        exact ⟨b, t, ru.cells, ru, hρ, hB, setRow_heap w b arr _ t _ hheap, hru.keeps hlat hkeep, rfl, hnK⟩
      · rename_i hne
        by_cases hlive : e.live = true
        · have := (hf.heap.ok j e hj).grown (f := id) hgrow hlat (fun b o h => .inl h) (fun av v h => h.keeps hlat hkeep) hlive (fun b' hb' e' => by
            simp at e'; subst e'
            exact hf.heap.apart i j _ e b hne hi hj rfl hlive (by rw [hρ]; rfl) hb')
          cases e <;> exact this
        · cases e <;> simp [HE.live] at hlive
          · trivial
          · exact ARel.keeps hlat hkeep (hf.heap.ok j _ hj)
    · intro j k e e' bb hjk hj hk' hlj hlk hbj hbk
      have e1 : ∀ (j : Nat) (hh : HE), HEnv.get ((i, .cell r) :: H) j = some hh → hh.live = true → ∃ h0, H.get j = some h0 ∧ h0.live = true := by
        intro j hh hj hl
        rw [HEnv.get_cons] at hj
        split at hj
        · rename_i e'; subst e'; exact ⟨_, hi, rfl⟩
        · exact ⟨hh, hj, hl⟩
      obtain ⟨a1, a2, a3⟩ := e1 j e hj hlj
      obtain ⟨b1, b2, b3⟩ := e1 k e' hk' hlk
      exact hf.heap.apart j k a1 b1 bb hjk a2 b2 a3 b3 hbj hbk

end
end Go.Cg
