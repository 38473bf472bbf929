/- slices.Sort, of a row of the call's own. -/
import Derived.Test.YtkbdoobcgifaaaaGreatG5
import Derived.Test.YtkbdoobcgifaaaaGreatSortP
import Derived.Sort.OwnSortedInts
namespace Go.Cg
open Go.RowKit Go.Proofs

mutual
/-- Values that bear no address. -/
def PV.free : PV → Bool
  | .base _ => true
  | .agg cs => frees cs
  | .slc _ es _ => es.isEmpty
  | .ptr _ _ => false
  | .fn _ a b => frees a && frees b
  | .tup cs => frees cs
def frees : List PV → Bool
  | [] => true
  | c :: cs => c.free && frees cs
end
theorem frees_get : ∀ {cs : List PV}, frees cs = true → ∀ (k : Nat) (c : PV), cs[k]? = some c → c.free = true
  | [], _, k, c, h => by simp at h
  | c :: cs, h, k, c', hk => by
    simp only [frees, Bool.and_eq_true] at h
    cases k with
    | zero => simp at hk; subst hk; exact h.1
    | succ k => simp at hk; exact frees_get h.2 k c' hk
mutual
def AV.freeA : AV → Bool
  | .pv p => p.free
  | .agg cs => freesA cs
  | .fn _ a b => freesA a && freesA b
  | _ => true
def freesA : List AV → Bool
  | [] => true
  | c :: cs => c.freeA && freesA cs
end
theorem freesA_get : ∀ {cs : List AV}, freesA cs = true → ∀ (k : Nat) (c : AV), cs[k]? = some c → c.freeA = true
  | [], _, k, c, h => by simp at h
  | c :: cs, h, k, c', hk => by
    simp only [freesA, Bool.and_eq_true] at h
    cases k with
    | zero => simp at hk; subst hk; exact h.1
    | succ k => simp at hk; exact freesA_get h.2 k c' hk
def HE.freeH : HE → Bool
  | .cell v => v.freeA
  | .pin v _ => v.freeA
  | .row _ _ es => frees es
  | _ => true
def envFree : Env → Bool
  | [] => true
  | (_, v) :: e => v.freeA && envFree e
def hFree (i : Nat) : HEnv → Bool
  | [] => true
  | (j, h) :: e => (Nat.beq i j || h.freeH) && hFree i e
theorem envFree_get : ∀ {e : Env}, envFree e = true → ∀ t v, e.get t = some v → v.freeA = true
  | [], _, t, v, h => by simp [Env.get_nil] at h
  | (t', v') :: e, h, t, v, hv => by
    simp only [envFree, Bool.and_eq_true] at h
    rw [Env.get_cons] at hv
    split at hv
    · simp only [Option.some.injEq] at hv; subst hv; exact h.1
    · exact envFree_get h.2 t v hv
theorem hFree_get {i : Nat} : ∀ {e : HEnv}, hFree i e = true → ∀ j h, e.get j = some h → j ≠ i → h.freeH = true
  | [], _, j, h, hg, _ => by simp [HEnv.get_nil] at hg
  | (k, x) :: e, hf, j, h, hg, hne => by
    simp only [hFree, Bool.and_eq_true, Bool.or_eq_true] at hf
    rw [HEnv.get_cons] at hg
    split at hg
    · rename_i e'; subst e'
      simp only [Option.some.injEq] at hg; subst hg
      rcases hf.1 with h1 | h1
      · exact (hne (Nat.eq_of_beq_eq_true h1).symm).elim
      · exact h1
    · exact hFree_get hf.2 j h hg hne

section
variable {K K' : KK} {w w' : World} {ρ : Nat → Value} {H H' : HEnv}
theorem PRel.free {p : PV} {v : Value} (h : PRel K w p v) : p.free = true → PRel K' w' p v := by
  induction h with
  | base v h1 => exact fun _ => .base v h1
  | agg cs vs hl h1 _ ih => exact fun hf => .agg cs vs hl h1 fun k c v hc hv => ih k c v hc hv (frees_get hf k c hc)
  | nil sz full => exact fun _ => .nil sz full
  | emp sz full a => exact fun _ => .emp sz full a
  | slc sz es full b o cap vss h0 h1 h2 h3 h4 h5 h6 ih =>
    intro hf
    have hes : es = [] := by simpa [PV.free] using hf
    subst hes
    refine .slc sz [] full b o cap vss h0 h1 h2 h3 h4 (fun i e he => by simp at he) (fun i e k c v he => by simp at he)
  | ptr p off b o vs hl hr _ ih => intro hf; simp [PV.free] at hf
  | fn f a b vf vc h1 h2 _ _ ih1 ih2 =>
    intro hf
    simp only [PV.free, Bool.and_eq_true] at hf
    exact .fn f a b vf vc h1 h2 (fun k c v hc hv => ih1 k c v hc hv (frees_get hf.1 k c hc)) (fun k c v hc hv => ih2 k c v hc hv (frees_get hf.2 k c hc))
  | tup cs vs hl _ ih => exact fun hf => .tup cs vs hl fun k c v hc hv => ih k c v hc hv (frees_get hf k c hc)
theorem ARel.free (hk : ∀ j, (H.get j).isSome = true → (H'.get j).isSome = true) {av : AV} {v : Value} (h : ARel K w ρ H av v) : av.freeA = true → ARel K' w' ρ H' av v := by
  induction h with
  | pv p v hp => exact fun hf => .pv p v (hp.free hf)
  | own j hj => exact fun _ => .own j (hk j hj)
  | box j off b hj hr => exact fun _ => .box j off b (hk j hj) hr
  | agg cs vs h1 h2 _ ih => exact fun hf => .agg cs vs h1 h2 fun k c v hc hv => ih k c v hc hv (freesA_get hf k c hc)
  | fn f a b vf vc h1 h2 _ _ ih1 ih2 =>
    intro hf
    simp only [AV.freeA, Bool.and_eq_true] at hf
    exact .fn f a b vf vc h1 h2 (fun k c v hc hv => ih1 k c v hc hv (freesA_get hf.1 k c hc)) (fun k c v hc hv => ih2 k c v hc hv (freesA_get hf.2 k c hc))
  | any v => exact fun _ => .any v
  | any1 v h1 h2 => exact fun _ => .any1 v h1 h2
end

def sortL (l : List Int) : List Int := l.mergeSort fun x y => decide (x ≤ y)
theorem sortL_len (l : List Int) : (sortL l).length = l.length := List.length_mergeSort _
theorem sortL_mem {l : List Int} {x : Int} : x ∈ sortL l ↔ x ∈ l := List.mem_mergeSort

section
variable {n : Nat} {g : Base} {H : HEnv} {env : Env} {ops : List Oper} {o : Oper} {rest : List Oper} {Q : Env → HEnv → Prop}
theorem sort_row {w : World} {B : Nat} {v : Value} {l : List Int} (h : w.ownsRow B 3 1 v l.length (l.map (Value.int .i64))) (hl : l.length < 4611686018427387904) :
    Calls Tryz.prog 44 #[v] w fun e w' => e = .returned (.tuple #[]) ∧ w'.ownsRow B 3 1 v l.length ((sortL l).map (Value.int .i64)) ∧ w.grownBy w' v.ownBlock := by
  rcases h.2 with ⟨rfl, h0⟩ | ⟨b, cap, cur, rfl, hb, hheap, h1, h2, h3, h4⟩
  · have : l = [] := List.eq_nil_of_length_eq_zero h0
    subst this
    refine (Tryz.slices_Sort_int_none none 0 w).mono fun e w' ⟨e1, e2⟩ => ?_
    subst e2
    exact ⟨e1, by simpa [sortL] using h, ⟨rfl, rfl, rfl, Nat.le_refl _, fun _ _ _ => rfl⟩⟩
  · have hlt : b < w.heap.size := (Array.getElem?_eq_some_iff.1 hheap).1
    refine (Tryz.slices_Sort_int b 0 cap l w (holds_of_blockI hheap (by simpa using h4)) hlt hl).mono fun e w' ⟨e1, m, os, e2⟩ => ?_
    subst e2
    refine ⟨e1, ?_, grownBy_sortedI _⟩
    exact ownsRow_sortedI (sortL_len l) hb hheap h1 h2 h3

/-- slices.Sort, of a row of the call's own: the frame is told anew. -/
theorem ao_sort {d : Tmp} {x : Operand} {ts : Array TypeId} {i : Nat} {l : List Int} (env2 : Env) (hg : guardE ops env o = some true) (hop : o.op = .call { callee := .value (.func 44), args := #[x], argTypes := ts }) (hst : Stands Tryz.prog 44)
    (hx : env.val x = some (.own i)) (hi : H.get i = some (.row 3 1 (l.map pi))) (hl : l.length ≤ 100000) (hs : Sub env env2) (hfe : envFree env2 = true) (hfh : hFree i H = true) (hd : o.dst = some d) (hdt : Nat.blt d n = true)
    (h : AO Tryz.prog n g ops.toArray rest ((d, .pv (.tup [])) :: env2) ((i, .row 3 1 ((sortL l).map pi)) :: H) Q) : AO Tryz.prog n g ops.toArray (o :: rest) env H Q := by
  refine ⟨fun a w hinv => ?_⟩
  have hw := wanted_of hinv hg
  obtain ⟨h1, h2, K, ρ, hf, he⟩ := hinv
  refine wpList_step fun KK hKK => ?_
  rw [if_pos hw]
  have hxr := val_rel he hx
  generalize hxv : a.eval x = xv at hxr
  obtain ⟨us, hown, hsz, hcr, hKK'⟩ := hf.heap.ok i _ hi
  have hus : us = l.map (Value.int .i64) := by
    apply List.ext_getElem?
    intro j
    have hlen := hown.1
    simp at hlen
    by_cases hj : j < l.length
    · obtain ⟨_, h3⟩ := hcr j (pi l[j]) (by simp [hj])
      obtain ⟨v, h4, _, h5⟩ := h3 0 (pi l[j]) rfl
      cases h5
      simp only [Nat.mul_one, Nat.add_zero] at h4
      rw [h4]; simp [hj]
    · rw [List.getElem?_eq_none (by omega), List.getElem?_eq_none (by simp; omega)]
  subst hus
  rw [List.length_map] at hown
  cases hxr with
  | own _ _ =>
    have hrun : (execOp a.eval o).run Tryz.prog w = .ok (.enter 44 #[ρ i]) w := by
      simp [execOp, hop, resolve, Act.eval, Deferred.ofValue, invoke, call_run hst]
      simpa [Act.eval] using hxv
    unfold Oper.wp
    rw [hrun]
    simp only [Oper.upon]
    refine (sort_row hown (by omega)).mono fun e w' ⟨e1, hown', hgrow⟩ => ?_
    subst e1
    have hlow : ∀ b, (ρ i).ownBlock = some b → g.w0.heap.size ≤ b := fun b hb => (hown.lt b hb).1
    have hsome : ∀ j, (H.get j).isSome = true → (HEnv.get ((i, .row 3 1 ((sortL l).map pi)) :: H) j).isSome = true := by
      intro j hj
      simp only [HEnv.get_cons]
      split
      · rfl
      · exact hj
    have hbo : ∀ b, blockOf (ρ i) = some b ↔ (ρ i).ownBlock = some b := by
      intro b
      rcases hown.2 with ⟨e, _⟩ | ⟨_, _, _, e, _⟩ <;> rw [e] <;> simp [blockOf, Value.ownBlock]
    refine hKK _ _ (h.go _ _ ⟨put_size h1, put_defers h2, K, ρ, ⟨hf.below.grown hgrow hf.below.size hlow, hf.old, hf.new, fun b o hk => Nat.lt_of_lt_of_le (hf.lt b o hk) hgrow.size, ?_, ?_⟩, ?_⟩)
    · intro j e hj
      rw [HEnv.get_cons] at hj
      split at hj
      · rename_i e'; subst e'
        simp only [Option.some.injEq] at hj; subst hj
        refine ⟨(sortL l).map (Value.int .i64), by rw [List.length_map, sortL_len]; exact hown', hsz, ?_, ?_⟩
        · intro k c hc
          rw [List.getElem?_map] at hc
          cases hk : (sortL l)[k]? with
          | none => simp [hk] at hc
          | some y =>
            simp [hk] at hc; subst hc
            refine ⟨rfl, fun m c hm => ?_⟩
            cases m with
            | zero => simp [PV.cells] at hm; subst hm; exact ⟨.int .i64 y, by simp [hk], rfl, .base _ rfl⟩
            | succ m => simp [PV.cells] at hm
        · intro b hb o'
          rw [List.length_map, sortL_len]
          have := hKK' b hb o'
          simpa using this
      · rename_i hne
        have hfree := hFree_get hfh j e hj (Ne.symm hne)
        have hok := hf.heap.ok j e hj
        have hblk : e.live = true → ∀ b, blockOf (ρ j) = some b → (ρ i).ownBlock ≠ some b := fun hlive b hb e' =>
          hf.heap.apart i j _ e b hne hi hj rfl hlive ((hbo b).2 e') hb
        cases e with
        | cell v =>
          obtain ⟨b, t, arr, u, r1, r2, r3, r4, r5, r6⟩ := hok
          have hlt : b < w.heap.size := (Array.getElem?_eq_some_iff.1 r3).1
          have := hblk rfl b (by rw [r1]; rfl)
          exact ⟨b, t, arr, u, r1, r2, by rw [hgrow.block b hlt (Ne.symm this)]; exact r3, r4.free hsome hfree, r5, r6⟩
        | row t sz es =>
          obtain ⟨xs, r1, r2, r3, r4⟩ := hok
          refine ⟨xs, r1.kept hgrow ?_, r2, fun k c hc => ⟨(r3 k c hc).1, fun m q hq => ?_⟩, r4⟩
          · cases hb : (ρ j).ownBlock with
            | none => exact .inl rfl
            | some b =>
              refine .inr fun e' => ?_
              have hb2 : blockOf (ρ j) = some b := by
                rcases r1.2 with ⟨e, _⟩ | ⟨_, _, _, e, _⟩
                · rw [e] at hb; simp [Value.ownBlock] at hb
                · rw [e] at hb ⊢; simpa [blockOf, Value.ownBlock] using hb
              exact hblk rfl b hb2 e'.symm
          · obtain ⟨v, v1, v2, v3⟩ := (r3 k c hc).2 m q hq
            refine ⟨v, v1, v2, v3.free ?_⟩
            have hcf := frees_get hfree k c hc
            cases c <;> simp only [PV.cells] at hq <;> first
              | exact frees_get hcf m q hq
              | (cases m with
                 | zero => simp at hq; subst hq; exact hcf
                 | succ m => simp at hq)
        | dead => trivial
        | pin v u => exact ARel.free hsome hok hfree
        | obj X =>
          obtain ⟨b, ob, r1, r2, r3, r4, r5⟩ := hok
          have hlt : b < w.heap.size := (Array.getElem?_eq_some_iff.1 r3).1
          have := hblk rfl b (by rw [r1]; rfl)
          exact ⟨b, ob, r1, r2, by rw [hgrow.block b hlt (Ne.symm this)]; exact r3, r4, r5⟩
    · intro j k e e' bb hjk hj hk' hlj hlk hbj hbk
      have e1 : ∀ (j : Nat) (hh : HE), HEnv.get ((i, .row 3 1 ((sortL l).map pi)) :: H) j = some hh → hh.live = true → ∃ h0, H.get j = some h0 ∧ h0.live = true := by
        intro j hh hj hl
        rw [HEnv.get_cons] at hj
        split at hj
        · rename_i e'; subst e'; exact ⟨_, hi, rfl⟩
        · exact ⟨hh, hj, hl⟩
      obtain ⟨a1, a2, a3⟩ := e1 j e hj hlj
      obtain ⟨b1, b2, b3⟩ := e1 k e' hk' hlk
      exact hf.heap.apart j k a1 b1 bb hjk a2 b2 a3 b3 hbj hbk
    · rw [hd]
      refine env_put h1 hdt (fun t av ht => ?_) (.pv _ _ (.tup [] [] rfl (by simp)))
      obtain ⟨v, v1, v2⟩ := he t av (hs t av ht)
      exact ⟨v, v1, v2.free hsome (envFree_get hfe t av ht)⟩
end
end Go.Cg
