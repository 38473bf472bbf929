/- What is known of a value, told with less; a variable that is written no more, told as plain memory. -/
import Derived.Test.YtkbdoobcgifaaaaGreatG5
import Derived.Test.YtkbdoobcgifaaaaGreatG4
namespace Go.Cg
open Go.RowKit

/-! ## Less is told -/
def PTells (a b : PV) : Prop := ∀ (K : KK) (w : World) (v : Value), PRel K w a v → PRel K w b v
theorem PTells.refl (a : PV) : PTells a a := fun _ _ _ h => h
def PTL (cs ds : List PV) : Prop := cs.length = ds.length ∧ ∀ (k : Nat) (c d : PV), cs[k]? = some c → ds[k]? = some d → PTells c d
theorem ptl_nil : PTL [] [] := ⟨rfl, by simp⟩
theorem ptl_cons {c d : PV} {cs ds : List PV} (h : PTells c d) (hs : PTL cs ds) : PTL (c :: cs) (d :: ds) := by
  refine ⟨by simp [hs.1], fun k c' d' hc hd => ?_⟩
  cases k with
  | zero => simp at hc hd; subst hc hd; exact h
  | succ k => exact hs.2 k c' d' (by simpa using hc) (by simpa using hd)
theorem pt_nil (sz : Nat) (f : Bool) : PTells (.base (.slice none 0 0)) (.slc sz [] f) := fun K w v h => by cases h; exact .nil sz f
theorem pt_agg {cs ds : List PV} (h : PTL cs ds) : PTells (.agg cs) (.agg ds) := fun K w v hp => by
  cases hp with
  | agg _ vs hl ho hr =>
    refine .agg ds vs (by rw [hl, h.1]) ho fun k d v hd hv => ?_
    have hk : k < cs.length := by
      rcases Nat.lt_or_ge k cs.length with h' | h'
      · exact h'
      · rw [List.getElem?_eq_none (by omega)] at hv; cases hv
    exact h.2 k _ d (List.getElem?_eq_getElem hk) hd K w v (hr k _ v (List.getElem?_eq_getElem hk) hv)
def PCL (es ds : List PV) : Prop := es.length = ds.length ∧ ∀ (k : Nat) (c d : PV), es[k]? = some c → ds[k]? = some d → PTL c.cells d.cells
theorem pcl_nil : PCL [] [] := ⟨rfl, by simp⟩
theorem pcl_cons {c d : PV} {cs ds : List PV} (h : PTL c.cells d.cells) (hs : PCL cs ds) : PCL (c :: cs) (d :: ds) := by
  refine ⟨by simp [hs.1], fun k c' d' hc hd => ?_⟩
  cases k with
  | zero => simp at hc hd; subst hc hd; exact h
  | succ k => exact hs.2 k c' d' (by simpa using hc) (by simpa using hd)
theorem pt_slc {sz : Nat} {es ds : List PV} {f : Bool} (h : PCL es ds) : PTells (.slc sz es f) (.slc sz ds false) := fun K w v hp => by
  obtain ⟨hl, hc⟩ := h
  cases hp with
  | nil => have : ds = [] := List.eq_nil_of_length_eq_zero (by simpa using hl.symm); subst this; exact .nil sz false
  | emp _ _ a => have : ds = [] := List.eq_nil_of_length_eq_zero (by simpa using hl.symm); subst this; exact .emp sz false a
  | slc _ _ _ b o cap vss h0 h1 h2 h3 h4 h5 h6 =>
    rw [hl]
    have hget : ∀ (i : Nat) (d : PV), ds[i]? = some d → ∃ e, es[i]? = some e := fun i d hd => by
      have : i < es.length := by
        rcases Nat.lt_or_ge i es.length with h' | h'
        · exact h'
        · rw [List.getElem?_eq_none (by omega)] at hd; cases hd
      exact ⟨_, List.getElem?_eq_getElem this⟩
    refine .slc sz ds false b o cap vss h0 (by omega) (by simp) (by omega) h4 (fun i d hd => ?_) (fun i d k c v hd hk hv => ?_)
    · obtain ⟨e, he⟩ := hget i d hd
      obtain ⟨a1, a2, a3⟩ := h5 i e he
      exact ⟨by rw [← (hc i e d he hd).1]; exact a1, a2, a3⟩
    · obtain ⟨e, he⟩ := hget i d hd
      have hh := hc i e d he hd
      have hk' : k < e.cells.length := by
        rcases Nat.lt_or_ge k e.cells.length with h' | h'
        · exact h'
        · rw [List.getElem?_eq_none (by rw [← hh.1]; exact h')] at hk; cases hk
      exact hh.2 k _ c (List.getElem?_eq_getElem hk') hk K w v (h6 i e k _ v he (List.getElem?_eq_getElem hk') hv)
theorem PTells.tells {a b : PV} (h : PTells a b) : Tells (.pv a) (.pv b) := fun K w ρ H v hr => by
  cases hr with | pv _ _ hp => exact .pv _ _ (h K w v hp)

section
variable {P : Program} {n : Nat} {g : Base} {H : HEnv} {env : Env} {a : Act} {w : World} {ops : List Oper} {Q : Env → HEnv → Prop} {c : Code} {QQ : QC}
theorem inv_tells {t : Nat} {x y : AV} (ht : env.get t = some x) (h : Tells x y) (hinv : Inv n g env H a w) : Inv n g ((t, y) :: env) H a w := by
  obtain ⟨h1, h2, K, ρ, hf, he⟩ := hinv
  refine ⟨h1, h2, K, ρ, hf, fun t' av hg => ?_⟩
  rw [Env.get_cons] at hg
  split at hg
  · rename_i e; subst e
    simp only [Option.some.injEq] at hg; subst hg
    obtain ⟨v, hv, hr⟩ := he _ _ ht
    exact ⟨v, hv, h K w ρ H v hr⟩
  · exact he _ _ hg
theorem ao_tells {l : List Oper} {x y : PV} (t : Nat) (h : PTells x y) (ht : env.get t = some (.pv x)) (k : AO P n g ops.toArray l ((t, .pv y) :: env) H Q) : AO P n g ops.toArray l env H Q :=
  ⟨fun a w hi => k.go a w (inv_tells ht h.tells hi)⟩
theorem aw_tells {x y : PV} (t : Nat) (h : PTells x y) (ht : env.get t = some (.pv x)) (k : AW P n g c ((t, .pv y) :: env) H QQ) : AW P n g c env H QQ :=
  ⟨fun a w hi => k.go a w (inv_tells ht h.tells hi)⟩

/-! ## A variable that is written no more -/
theorem inv_freeze {t i off : Nat} {p : PV} (hp : p.notTup = true) (ht : env.get t = some (.box i off)) (hi : H.get i = some (.cell (.pv p))) (hinv : Inv n g env H a w) : Inv n g ((t, .pv (.ptr p off)) :: env) ((i, .dead) :: H) a w := by
  obtain ⟨h1, h2, K, ρ, hf, he⟩ := hinv
  obtain ⟨b, ty, arr, u, hr, hB, hheap, hu, harr, hn⟩ := hf.heap.ok i _ hi
  obtain ⟨K', hK'⟩ : ∃ K' : KK, ∀ b' o, K' b' o ↔ (K b' o ∨ (b' = b ∧ o < arr.size)) := ⟨fun b' o => K b' o ∨ (b' = b ∧ o < arr.size), fun _ _ => Iff.rfl⟩
  have hlat : Later K K' w w := ⟨fun b o h => (hK' b o).2 (.inl h), fun _ _ _ => rfl⟩
  have hk : ∀ j, (H.get j).isSome = true → (HEnv.get ((i, .dead) :: H) j).isSome = true ∧ ρ j = ρ j := fun j hj => by
    refine ⟨?_, rfl⟩
    rw [HEnv.get_cons]
    split
    · rfl
    · exact hj
  have hblt : b < w.heap.size := (Array.getElem?_eq_some_iff.1 hheap).1
  have hne : ∀ {j : Nat} {h : HE} {b' : Nat}, i ≠ j → H.get j = some h → h.live = true → blockOf (ρ j) = some b' → b' ≠ b := fun {j h b'} hij hg hl hb e => by
    subst e
    exact hf.heap.apart i j _ h b' hij hi hg rfl hl (by rw [hr]; rfl) hb
  refine ⟨h1, h2, K', ρ, ⟨hf.below, fun b o h => (hK' b o).2 (.inl (hf.old b o h)), fun b' o h => ?_, fun b' o h => ?_, ?_, ?_⟩, fun t' av hg => ?_⟩
  · rcases (hK' b' o).1 h with h | ⟨rfl, _⟩
    · exact hf.new b' o h
    · exact .inr hB
  · rcases (hK' b' o).1 h with h | ⟨rfl, _⟩
    · exact hf.lt b' o h
    · exact hblt
  · intro j h hg
    rw [HEnv.get_cons] at hg
    split at hg
    · simp only [Option.some.injEq] at hg; subst hg; trivial
    · rename_i hij
      have ho := hf.heap.ok j h hg
      cases h with
      | cell v =>
        obtain ⟨b', t', arr', u', hr', hB', hh', hu', ha', hn'⟩ := ho
        refine ⟨b', t', arr', u', hr', hB', hh', hu'.keeps hlat hk, ha', fun o ho => ?_⟩
        rcases (hK' b' o).1 ho with h | ⟨h, _⟩
        · exact hn' o h
        · exact hne hij hg rfl (by rw [hr']; rfl) h
      | row t' sz es =>
        obtain ⟨xs, hown, h0, hc, hkk⟩ := ho
        refine ⟨xs, hown, h0, fun k e he => ?_, fun b' hb o => ?_⟩
        · obtain ⟨c1, c2⟩ := hc k e he
          exact ⟨c1, fun k c hc => let ⟨v, h4, h5, h6⟩ := c2 k c hc; ⟨v, h4, h5, h6.later hlat⟩⟩
        · rw [← hkk b' hb o, hK']
          have hb2 : blockOf (ρ j) = some b' := by
            rcases hown.2 with ⟨e, _⟩ | ⟨b2, cap, cur, e, _⟩
            · rw [e] at hb; simp [Value.ownBlock] at hb
            · rw [e] at hb ⊢; simpa [Value.ownBlock, blockOf] using hb
          exact ⟨fun h => h.resolve_right fun h => hne hij hg rfl hb2 h.1, .inl⟩
      | dead => trivial
      | pin v u' => exact ARel.keeps hlat hk ho
      | obj X =>
        obtain ⟨b', ob, hr', hB', hh', hx, hn'⟩ := ho
        refine ⟨b', ob, hr', hB', hh', hx, fun o ho => ?_⟩
        rcases (hK' b' o).1 ho with h | ⟨h, _⟩
        · exact hn' o h
        · exact hne hij hg rfl (by rw [hr']; rfl) h
  · intro j k h h' b' hjk hg hg' hl hl'
    rw [HEnv.get_cons] at hg hg'
    split at hg
    · simp only [Option.some.injEq] at hg; subst hg; simp [HE.live] at hl
    · split at hg'
      · simp only [Option.some.injEq] at hg'; subst hg'; simp [HE.live] at hl'
      · exact hf.heap.apart j k h h' b' hjk hg hg' hl hl'
  · rw [Env.get_cons] at hg
    split at hg
    · rename_i e; subst e
      simp only [Option.some.injEq] at hg; subst hg
      obtain ⟨v, hv, hrv⟩ := he _ _ ht
      refine ⟨v, hv, ?_⟩
      cases hrv with
      | box _ _ b2 _ hr2 =>
        rw [hr] at hr2
        simp only [Value.pointer.injEq, Option.some.injEq, Addr.mk.injEq, and_true] at hr2
        subst hr2
        cases hu with
        | pv _ _ hpr =>
          have hcr := cells_rel hpr
          rw [harr] at hcr
          have := PRel.ptr (K := K') (w := w) p off b 0 arr.toList (hcr.1) (fun k x hx => ?_) (fun k c x hc hx => (hcr.2 k c x hc hx).later hlat)
          · exact .pv _ _ (by simpa using this)
          · have hk : k < arr.size := by
              rcases Nat.lt_or_ge k arr.size with h' | h'
              · exact h'
              · rw [List.getElem?_eq_none (by simpa using h')] at hx; cases hx
            refine ⟨(hK' b (0 + k)).2 (.inr ⟨rfl, by omega⟩), ?_, ?_⟩
            · simp only [World.cell?, hheap, Nat.zero_add]
              simpa using hx
            · exact cells_one hpr hp x (by rw [harr]; exact List.mem_of_getElem? hx)
    · obtain ⟨v, hv, hrv⟩ := he _ _ hg
      exact ⟨v, hv, hrv.keeps hlat hk⟩
theorem aw_freeze {t i off : Nat} {p : PV} (hp : p.notTup = true) (ht : env.get t = some (.box i off)) (hi : H.get i = some (.cell (.pv p))) (k : AW P n g c ((t, .pv (.ptr p off)) :: env) ((i, .dead) :: H) QQ) : AW P n g c env H QQ :=
  ⟨fun a w hinv => k.go a w (inv_freeze hp ht hi hinv)⟩
theorem ao_freeze {l : List Oper} {t i off : Nat} {p : PV} (hp : p.notTup = true) (ht : env.get t = some (.box i off)) (hi : H.get i = some (.cell (.pv p))) (k : AO P n g ops.toArray l ((t, .pv (.ptr p off)) :: env) ((i, .dead) :: H) Q) : AO P n g ops.toArray l env H Q :=
  ⟨fun a w hinv => k.go a w (inv_freeze hp ht hi hinv)⟩
/-- A remainder. -/
theorem q_rem {tb : Tab} {o : Oper} {t t' : Nat} {x y : Operand} {k : IntKind} {m d : Int} (r : Int) (htb : TabOK P tb) (hop : o.op = .binOp .rem t x y t') (hx : env.pv H x = some (.base (.int k m))) (hy : env.pv H y = some (.base (.int k d))) (hd : d ≠ 0) (hr : m.tmod d = r) : QStep P g H o env (.pv (.base (.int k r))) := by
  refine opE_sound htb ?_
  unfold opE
  rw [hop]
  simp only [hx, hy, binE, numOp, if_true, if_neg hd, hr]
/-- All behind the first. -/
theorem q_tail {tb : Tab} {o : Oper} {α : Type} {f : α → PV} {xs r : List α} {y : α} {t e : TypeId} {x : Operand} {lo : Option Operand} {sz : Nat} {full : Bool} (hxs : xs = y :: r) (htb : TabOK P tb) (hop : o.op = .slice t x lo none none) (hk : tb.k t = .sl e) (hke : tb.known e = true) (hsz : tb.size e = sz) (hx : env.pv H x = some (.slc sz (xs.map f) full))
    (hlo : boundE env H 0 lo = some 1) : QStep P g H o env (.pv (.slc sz (r.map f) false)) := by
  have := q_slice_map (g := g) (o := o) (lo := lo) (hi := none) 1 xs.length htb hop hk hke hsz hx hlo (by simp [boundE]) (by rw [hxs]; simp) (Nat.le_refl _)
  rw [List.take_length, hxs] at this
  simpa using this
end
end Go.Cg
