/- Cells and rows of the call's own: made, written, appended to. -/
import Derived.Test.YtkbdoobcgifaaaaCalls
namespace Go.Cg
open Go.RowKit

mutual
def kill (i : Nat) : AV → AV
  | .own j => if j = i then .any1 else .own j
  | .agg cs => .agg (kills i cs)
  | .fn f a b => .fn f (kills i a) (kills i b)
  | .pv p => .pv p
  | .box j o => .box j o
  | .any => .any
  | .any1 => .any1
def kills (i : Nat) : List AV → List AV
  | [] => []
  | c :: cs => kill i c :: kills i cs
end

def killEnv (i : Nat) : Env → Env
  | [] => []
  | (t, v) :: e => (t, kill i v) :: killEnv i e
def killH (i : Nat) : HEnv → HEnv
  | [] => []
  | (j, .cell v) :: e => (j, .cell (kill i v)) :: killH i e
  | (j, .pin v u) :: e => (j, .pin (kill i v) u) :: killH i e
  | x :: e => x :: killH i e

/-- A value of one cell that the call owns: a row, an object. -/
def isVal (H : HEnv) (i : Nat) : Bool := match H.get i with | some (.row _ _ _) => true | some (.obj _) => true | _ => false
def oneA (H : HEnv) : AV → Bool
  | .pv (.agg _) => false
  | .pv (.tup _) => false
  | .pv _ => true
  | .own i => isVal H i
  | .box _ _ => true
  | .fn _ _ _ => true
  | _ => false

section
variable {P : Program} {tb : Tab} {n : Nat} {g : Base} {K K' : KK} {w w' : World} {ρ ρ' : Nat → Value} {H H' : HEnv} {env : Env} {a : Act} {ops : List Oper} {o : Oper} {rest : List Oper} {Q : Env → HEnv → Prop} {QQ : QC} {c : Code}

theorem kills_get (i : Nat) : ∀ (cs : List AV) (k : Nat), (kills i cs)[k]? = (cs[k]?).map (kill i)
  | [], k => by simp [kills]
  | c :: cs, k => by
    cases k with
    | zero => simp [kills]
    | succ k => simp [kills, kills_get i cs k]
theorem kills_length (i : Nat) : ∀ (cs : List AV), (kills i cs).length = cs.length
  | [] => rfl
  | c :: cs => by simp [kills, kills_length i cs]
theorem killEnv_get (i : Nat) : ∀ (e : Env) (t : Nat), (killEnv i e).get t = (e.get t).map (kill i)
  | [], t => rfl
  | (t', v) :: e, t => by
    simp only [killEnv, Env.get_nil, Env.get_cons]
    split
    · rfl
    · exact killEnv_get i e t
def killHE (i : Nat) : HE → HE
  | .cell v => .cell (kill i v)
  | .pin v u => .pin (kill i v) u
  | h => h
theorem killH_get (i : Nat) : ∀ (e : HEnv) (t : Nat), (killH i e).get t = (e.get t).map (killHE i)
  | [], t => rfl
  | (j, h) :: e, t => by
    cases h <;> simp only [killH, HEnv.get_nil, HEnv.get_cons] <;> split <;> first | rfl | exact killH_get i e t

/-- The world goes on, and what is owned goes on; but for one row, which nobody knows any more. -/
theorem ARel.kill (hl : Later K K' w w') (i : Nat) (hk : ∀ j, j ≠ i → (H.get j).isSome = true → (H'.get j).isSome = true ∧ ρ' j = ρ j)
    (hb : ∀ b, ρ i = .pointer (some ⟨b, 0, none⟩) → False) (h1 : (ρ i).cells = #[ρ i] ∧ (ρ i).oneCell' = true) {av : AV} {v : Value} (h : ARel K w ρ H av v) : ARel K' w' ρ' H' (Cg.kill i av) v := by
  induction h with
  | pv p v hp => exact .pv p v (hp.later hl)
  | own j hj =>
    simp only [Cg.kill]
    split
    · rename_i e; subst e; exact .any1 _ h1.1 h1.2
    · rename_i hne
      obtain ⟨h1, h2⟩ := hk j hne hj
      rw [← h2]; exact .own j h1
  | box j off b hj hr =>
    by_cases e : j = i
    · subst e; exact (hb b hr).elim
    · obtain ⟨h1, h2⟩ := hk j e hj
      exact .box j off b h1 (by rw [h2]; exact hr)
  | agg cs vs h1 h2 _ ih =>
    refine .agg _ vs (by rw [kills_length]; exact h1) h2 fun k c v hc hv => ?_
    rw [kills_get] at hc
    cases hcs : cs[k]? with
    | none => simp [hcs] at hc
    | some c' => simp [hcs] at hc; subst hc; exact ih k c' v hcs hv
  | fn f first cap vf vc h1 h2 _ _ ih1 ih2 =>
    refine .fn f _ _ vf vc (by rw [kills_length]; exact h1) (by rw [kills_length]; exact h2) (fun k c v hc hv => ?_) (fun k c v hc hv => ?_)
    · rw [kills_get] at hc
      cases hcs : first[k]? with
      | none => simp [hcs] at hc
      | some c' => simp [hcs] at hc; subst hc; exact ih1 k c' v hcs hv
    · rw [kills_get] at hc
      cases hcs : cap[k]? with
      | none => simp [hcs] at hc
      | some c' => simp [hcs] at hc; subst hc; exact ih2 k c' v hcs hv
  | any v => exact .any v
  | any1 v h1 h2 => exact .any1 v h1 h2

/-- The same where all that is owned stays known. -/
theorem ARel.keeps (hl : Later K K' w w') (hk : ∀ j, (H.get j).isSome = true → (H'.get j).isSome = true ∧ ρ' j = ρ j) {av : AV} {v : Value} (h : ARel K w ρ H av v) : ARel K' w' ρ' H' av v := by
  induction h with
  | pv p v hp => exact .pv p v (hp.later hl)
  | own j hj => obtain ⟨h1, h2⟩ := hk j hj; rw [← h2]; exact .own j h1
  | box j off b hj hr => obtain ⟨h1, h2⟩ := hk j hj; exact .box j off b h1 (by rw [h2]; exact hr)
  | agg cs vs h1 h2 _ ih => exact .agg cs vs h1 h2 ih
  | fn f first cap vf vc h1 h2 _ _ ih1 ih2 => exact .fn f first cap vf vc h1 h2 ih1 ih2
  | any v => exact .any v
  | any1 v h1 h2 => exact .any1 v h1 h2

theorem HOk.keeps {B : Nat} (hev : Evo K K' w w') (hl : ∀ b o, K b o → b < w.heap.size) (hk : ∀ j, (H.get j).isSome = true → (H'.get j).isSome = true ∧ ρ' j = ρ j) {e : HE} {r : Value} (h : HOk K w B ρ H e r) : HOk K' w' B ρ' H' e r := by
  have hlat := hev.later hl
  cases e with
  | cell v =>
    obtain ⟨b, t, arr, u, rfl, hB, hb, hu, ha, hn⟩ := h
    have hlt : b < w.heap.size := (Array.getElem?_eq_some_iff.1 hb).1
    exact ⟨b, t, arr, u, rfl, hB, by rw [hev.below.block b hlt]; exact hb, hu.keeps hlat hk, ha, fun o ho => (hev.new b o ho).elim (hn o) (fun h2 => by omega)⟩
  | row t sz es =>
    obtain ⟨xs, hown, h0, hc, hkk⟩ := h
    refine ⟨xs, hown.kept (row := none) ⟨hev.below.os, hev.below.tape, hev.below.output, hev.below.size, fun k hk _ => hev.below.block k hk⟩ ?_, h0, ?_, ?_⟩
    · cases hb : r.ownBlock <;> simp
    · intro i e he
      obtain ⟨h2, h3⟩ := hc i e he
      exact ⟨h2, fun k c hc => let ⟨v, h4, h5, h6⟩ := h3 k c hc; ⟨v, h4, h5, h6.later hlat⟩⟩
    · intro b hb o
      rw [← hkk b hb o]
      have hlt := (hown.lt b hb).2
      exact ⟨fun ho => (hev.new b o ho).resolve_right (by omega), hev.sub b o⟩
  | dead => trivial
  | pin v u => exact ARel.keeps hlat hk h
  | obj X =>
    obtain ⟨b, ob, rfl, hB, hb, hx, hn⟩ := h
    have hlt : b < w.heap.size := (Array.getElem?_eq_some_iff.1 hb).1
    exact ⟨b, ob, rfl, hB, by rw [hev.below.block b hlt]; exact hb, hx, fun o ho => (hev.new b o ho).elim (hn o) (fun h2 => by omega)⟩

theorem HOk.block_lt {B : Nat} {e : HE} {r : Value} (h : HOk K w B ρ H e r) (hl : e.live = true) {b : Nat} (hb : blockOf r = some b) : B ≤ b ∧ b < w.heap.size := by
  cases e with
  | cell v =>
    obtain ⟨b', t, arr, u, rfl, hB, hb', _⟩ := h
    simp only [blockOf, Option.some.injEq] at hb; subst hb
    exact ⟨hB, (Array.getElem?_eq_some_iff.1 hb').1⟩
  | row t sz es =>
    obtain ⟨xs, hown, _⟩ := h
    refine hown.lt b ?_
    rcases hown.2 with ⟨rfl, _⟩ | ⟨g, _, _, rfl, _⟩
    · simp [blockOf] at hb
    · simpa [blockOf, Value.ownBlock] using hb
  | dead => simp [HE.live] at hl
  | pin v u => simp [HE.live] at hl
  | obj X =>
    obtain ⟨b', ob, rfl, hB, hb', _⟩ := h
    simp only [blockOf, Option.some.injEq] at hb; subst hb
    exact ⟨hB, (Array.getElem?_eq_some_iff.1 hb').1⟩

/-- Something new is owned, in a new block or in none. -/
theorem FS.fresh (hf : FS g K ρ H w) (hev : Evo K K' w w') {i : Nat} (hi : H.get i = none) {e : HE} {r : Value} (hok : HOk K' w' g.w0.heap.size (fun j => if j = i then r else ρ j) ((i, e) :: H) e r)
    (hnew : ∀ b, blockOf r = some b → w.heap.size ≤ b) : FS g K' (fun j => if j = i then r else ρ j) ((i, e) :: H) w' := by
  have hk : ∀ j, (H.get j).isSome = true → (HEnv.get ((i, e) :: H) j).isSome = true ∧ (fun j => if j = i then r else ρ j) j = ρ j := by
    intro j hj
    have hne : j ≠ i := by rintro rfl; simp [hi] at hj
    refine ⟨?_, by simp [hne]⟩
    simp only [HEnv.get_nil, HEnv.get_cons]; rw [if_neg (Ne.symm hne)]; exact hj
  have h1 := hf.evo hev
  refine ⟨h1.below, h1.old, h1.new, h1.lt, ?_, ?_⟩
  · intro j h hj
    simp only [HEnv.get_nil, HEnv.get_cons] at hj
    split at hj
    · rename_i e'; subst e'; simp only [Option.some.injEq] at hj; subst hj; simpa using hok
    · rename_i hne
      have := (hf.heap.ok j h hj).keeps hev hf.lt hk
      simpa [Ne.symm hne] using this
  · intro j k h h' b hjk hj hk' hlj hlk hbj hbk
    simp only [HEnv.get_nil, HEnv.get_cons] at hj hk'
    split at hj
    · rename_i e'; subst e'
      split at hk'
      · rename_i e''; exact hjk (by omega)
      · rename_i hne
        simp only [if_true] at hbj
        simp only [Ne.symm hne, if_false] at hbk
        have := hnew b hbj
        have := ((hf.heap.ok k h' hk').block_lt hlk hbk).2
        omega
    · rename_i hne
      simp only [Ne.symm hne, if_false] at hbj
      split at hk'
      · rename_i e''; subst e''
        simp only [if_true] at hbk
        have := hnew b hbk
        have := ((hf.heap.ok j h hj).block_lt hlj hbj).2
        omega
      · rename_i hne'
        simp only [Ne.symm hne', if_false] at hbk
        exact hf.heap.apart j k h h' b hjk hj hk' hlj hlk hbj hbk

theorem EnvR.keeps {tmps : Array Value} (hl : Later K K' w w') (hk : ∀ j, (H.get j).isSome = true → (H'.get j).isSome = true ∧ ρ' j = ρ j) (he : EnvR K w ρ H env tmps) : EnvR K' w' ρ' H' env tmps :=
  fun t av ht => let ⟨v, h1, h2⟩ := he t av ht; ⟨v, h1, h2.keeps hl hk⟩

theorem fresh_keeps {i : Nat} (hi : H.get i = none) (e : HE) (r : Value) : ∀ j, (H.get j).isSome = true → (HEnv.get ((i, e) :: H) j).isSome = true ∧ (fun j => if j = i then r else ρ j) j = ρ j := by
  intro j hj
  have hne : j ≠ i := by rintro rfl; simp [hi] at hj
  refine ⟨?_, by simp [hne]⟩
  simp only [HEnv.get_nil, HEnv.get_cons]; rw [if_neg (Ne.symm hne)]; exact hj

/-- 'var x T', whose address is taken; the zero value lies there. -/
def zeroAV (v : Value) : Option AV :=
  match v with
  | .agg cs => match zeroPVs cs.toList with | some ps => some (.pv (.agg ps)) | none => none
  | v => if baseOk v then some (.pv (.base v)) else none

theorem ao_alloc (htb : TabOK P tb) {ty t : Nat} (i : Nat) (hg : guardE ops env o = some true) (hop : o.op = .alloc ty) {z : Value} (hz : tb.zero ty = some z) {za : AV} (hza : zeroAV z = some za) (hi : H.get i = none) (hd : o.dst = some t) (ht : Nat.blt t n = true)
    (h : AO P n g ops.toArray rest ((t, .box i 0) :: env) ((i, .cell za) :: H) Q) : AO P n g ops.toArray (o :: rest) env H Q := by
  refine ⟨fun a w hinv => ?_⟩
  have hw := wanted_of hinv hg
  obtain ⟨h1, h2, K, ρ, hf, he⟩ := hinv
  refine wpList_step fun KK hKK => ?_
  rw [if_pos hw]
  have hzi : ∃ i, P.info? ty = some i ∧ i.zero = some z := by
    unfold Tab.zero at hz
    split at hz
    · rename_i ti hti
      obtain ⟨i, e1, _, _, e4, _⟩ := tab_info htb hti
      exact ⟨i, e1, by rw [e4]; exact hz⟩
    · cases hz
  obtain ⟨ti, hti, htz⟩ := hzi
  have hrun : (execOp a.eval o).run P w = .ok (.value (.pointer (some ⟨w.heap.size, 0, none⟩))) (w.alloc (.cells z.cells ty)) := by
    simp [execOp, hop, Instr.alloc, zeroValue, typeInfo, hti, htz, newVar, newRow]
  unfold Oper.wp
  rw [hrun]
  simp only [Oper.upon]
  have hev : Evo K K w (w.alloc (.cells z.cells ty)) := ⟨(Below.refl _ _).alloc (Nat.le_refl _) _, fun _ _ h => h, fun _ _ h => .inl h, fun b o h => by have := hf.lt b o h; simp; omega⟩
  have hzr : ARel K (w.alloc (.cells z.cells ty)) (fun j => if j = i then .pointer (some ⟨w.heap.size, 0, none⟩) else ρ j) ((i, .cell za) :: H) za z := by
    unfold zeroAV at hza
    split at hza
    · rename_i cs
      split at hza
      · rename_i ps hps
        simp only [Option.some.injEq] at hza; subst hza
        have hr := zeroPVs_rel (K := K) (w := w.alloc (.cells (Value.agg cs).cells ty)) hps
        have := PRel.agg ps cs.toList hr.1 (zeroPVs_one hps) hr.2
        exact .pv _ _ (by simpa using this)
      · cases hza
    · split at hza
      · rename_i ho
        simp only [Option.some.injEq] at hza; subst hza
        exact .pv _ _ (.base _ ho)
      · cases hza
  refine hKK _ _ (h.go _ _ ⟨put_size h1, put_defers h2, K, fun j => if j = i then .pointer (some ⟨w.heap.size, 0, none⟩) else ρ j, hf.fresh hev hi ⟨w.heap.size, ty, z.cells, z, rfl, hf.below.size, heap_alloc_new w _, hzr, rfl, fun o ho => by have := hf.lt _ o ho; omega⟩ (by simp [blockOf]), ?_⟩)
  rw [hd]
  exact env_put h1 ht (he.keeps (hev.later hf.lt) (fresh_keeps hi _ _)) (.box i 0 _ (by simp [HEnv.get_nil, HEnv.get_cons]) (by simp))

/-- A parameter that is written: it lies in a cell of the call's own. -/
theorem ao_boxm {ty : TypeId} {x : Operand} {t : Nat} (i : Nat) (hg : guardE ops env o = some true) (hop : o.op = .box ty x) {v : AV} (hx : env.val x = some v) (hi : H.get i = none) (hd : o.dst = some t) (ht : Nat.blt t n = true)
    (h : AO P n g ops.toArray rest ((t, .box i 0) :: env) ((i, .cell v) :: H) Q) : AO P n g ops.toArray (o :: rest) env H Q := by
  refine ⟨fun a w hinv => ?_⟩
  have hw := wanted_of hinv hg
  obtain ⟨h1, h2, K, ρ, hf, he⟩ := hinv
  refine wpList_step fun KK hKK => ?_
  rw [if_pos hw]
  have hrun : (execOp a.eval o).run P w = .ok (.value (.pointer (some ⟨w.heap.size, 0, none⟩))) (w.alloc (.cells (a.eval x).cells ty)) := by
    simp [execOp, hop, Instr.box, newVar, newRow]
  unfold Oper.wp
  rw [hrun]
  simp only [Oper.upon]
  have hev : Evo K K w (w.alloc (.cells (a.eval x).cells ty)) := ⟨(Below.refl _ _).alloc (Nat.le_refl _) _, fun _ _ h => h, fun _ _ h => .inl h, fun b o h => by have := hf.lt b o h; simp; omega⟩
  have hxr := val_rel he hx
  refine hKK _ _ (h.go _ _ ⟨put_size h1, put_defers h2, K, fun j => if j = i then .pointer (some ⟨w.heap.size, 0, none⟩) else ρ j, hf.fresh hev hi ⟨w.heap.size, ty, _, a.eval x, rfl, hf.below.size, heap_alloc_new w _, hxr.keeps (hev.later hf.lt) (fresh_keeps hi _ _), rfl, fun o ho => by have := hf.lt _ o ho; omega⟩ (by simp [blockOf]), ?_⟩)
  rw [hd]
  exact env_put h1 ht (he.keeps (hev.later hf.lt) (fresh_keeps hi _ _)) (.box i 0 _ (by simp [HEnv.get_nil, HEnv.get_cons]) (by simp))

/-- A nil slice is owned: it may be appended to. -/
theorem inv_own_nil {t : Nat} (i : Nat) (e : TypeId) (sz : Nat) (hsz : 0 < sz) (ht : env.get t = some (.pv (.base (.slice none 0 0)))) (hi : H.get i = none) (hinv : Inv n g env H a w) : Inv n g ((t, .own i) :: env) ((i, .row e sz []) :: H) a w := by
  obtain ⟨h1, h2, K, ρ, hf, he⟩ := hinv
  have hev : Evo K K w w := .refl hf.lt
  refine ⟨h1, h2, K, fun j => if j = i then .slice none 0 0 else ρ j, hf.fresh hev hi ⟨[], World.ownsRow_nil w _ e sz, hsz, fun i e h => by simp at h, by simp [Value.ownBlock]⟩ (by simp [blockOf]), ?_⟩
  have he' := he.keeps (hev.later hf.lt) (H' := (i, .row e sz []) :: H) (fresh_keeps hi _ (.slice none 0 0))
  intro t' av hg
  simp only [Env.get_nil, Env.get_cons] at hg
  split at hg
  · rename_i e'; subst e'
    simp only [Option.some.injEq] at hg; subst hg
    obtain ⟨v, hv, hr⟩ := he _ _ ht
    cases hr with
    | pv _ _ hp =>
      cases hp
      refine ⟨_, hv, ?_⟩
      have := ARel.own (K := K) (w := w) (ρ := fun j => if j = i then .slice none 0 0 else ρ j) (H := (i, HE.row e sz []) :: H) i (by simp [HEnv.get_nil, HEnv.get_cons])
      simpa using this
  · exact he' _ _ hg

theorem aw_own_nil {t : Nat} (i : Nat) (e : TypeId) (sz : Nat) (hsz : 0 < sz) (ht : env.get t = some (.pv (.base (.slice none 0 0)))) (hi : H.get i = none) (h : AW P n g c ((t, .own i) :: env) ((i, .row e sz []) :: H) QQ) : AW P n g c env H QQ :=
  ⟨fun a w hinv => h.go a w (inv_own_nil i e sz hsz ht hi hinv)⟩

/-- The same for a nil slice in a cell. -/
theorem aw_own_nil_cell (b i : Nat) (e : TypeId) (sz : Nat) (hsz : 0 < sz) (hb : H.get b = some (.cell (.pv (.base (.slice none 0 0))))) (hi : H.get i = none) (h : AW P n g c env ((b, .cell (.own i)) :: (i, .row e sz []) :: H) QQ) : AW P n g c env H QQ := by
  refine ⟨fun a w hinv => h.go a w ?_⟩
  obtain ⟨h1, h2, K, ρ, hf, he⟩ := hinv
  have hev : Evo K K w w := .refl hf.lt
  have hne : b ≠ i := by rintro rfl; simp [hi] at hb
  have hf2 : FS g K (fun j => if j = i then .slice none 0 0 else ρ j) ((i, .row e sz []) :: H) w := hf.fresh hev hi ⟨[], World.ownsRow_nil w _ e sz, hsz, fun i e h => by simp at h, by simp [Value.ownBlock]⟩ (by simp [blockOf])
  have hk : ∀ j, (HEnv.get ((i, HE.row e sz []) :: H) j).isSome = true → (HEnv.get ((b, .cell (.own i)) :: (i, HE.row e sz []) :: H) j).isSome = true ∧ (fun j => if j = i then Value.slice none 0 0 else ρ j) j = (fun j => if j = i then Value.slice none 0 0 else ρ j) j := by
    intro j hj
    refine ⟨?_, rfl⟩
    simp only [HEnv.get_nil, HEnv.get_cons] at hj ⊢
    split
    · rfl
    · exact hj
  have hlat := hev.later hf.lt
  refine ⟨h1, h2, K, fun j => if j = i then .slice none 0 0 else ρ j, ⟨hf2.below, hf2.old, hf2.new, hf2.lt, ?_, ?_⟩, (he.keeps hlat (fresh_keeps hi _ _)).keeps hlat hk⟩
  · intro j hh hj
    simp only [HEnv.get_nil, HEnv.get_cons] at hj
    split at hj
    · rename_i e'; subst e'
      simp only [Option.some.injEq] at hj; subst hj
      obtain ⟨b', t', arr, u, hr, hB, hheap, hu, harr, hn⟩ := hf.heap.ok b _ hb
      refine ⟨b', t', arr, u, by simpa [hne] using hr, hB, hheap, ?_, harr, hn⟩
      cases hu with
      | pv _ _ hp =>
        cases hp
        have := ARel.own (K := K) (w := w) (ρ := fun j => if j = i then .slice none 0 0 else ρ j) (H := (b, .cell (.own i)) :: (i, HE.row e sz []) :: H) i (by simp [HEnv.get_nil, HEnv.get_cons, hne])
        simpa using this
    · have := (hf2.heap.ok j hh (by simpa only [HEnv.get_nil, HEnv.get_cons] using hj)).keeps hev hf.lt hk
      exact this
  · intro j k hh hh' bb hjk hj hk' hlj hlk hbj hbk
    have e1 : ∀ (j : Nat) (hh : HE), HEnv.get ((b, .cell (.own i)) :: (i, HE.row e sz []) :: H) j = some hh → hh.live = true → ∃ h0, HEnv.get ((i, HE.row e sz []) :: H) j = some h0 ∧ h0.live = true := by
      intro j hh hj hl
      rw [HEnv.get_cons] at hj
      split at hj
      · rename_i e'; subst e'
        refine ⟨.cell (.pv (.base (.slice none 0 0))), ?_, rfl⟩
        simp only [HEnv.get_nil, HEnv.get_cons]; rw [if_neg (Ne.symm hne)]; exact hb
      · exact ⟨hh, hj, hl⟩
    obtain ⟨a1, a2, a3⟩ := e1 j hh hj hlj
    obtain ⟨b1, b2, b3⟩ := e1 k hh' hk' hlk
    exact hf2.heap.apart j k a1 b1 bb hjk a2 b2 a3 b3 hbj hbk
end
end Go.Cg
