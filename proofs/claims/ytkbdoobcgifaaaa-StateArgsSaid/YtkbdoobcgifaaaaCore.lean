/- The core of the walks by abstract values: what a value in memory is, said without addresses. -/
import Derived.WalkKit
namespace Go.Cg
open Go.RowKit

/-! ## Pure values: whatever is committed, and is never written again -/

inductive PV where
  | base (v : Value)
  | agg (cs : List PV)
  | slc (sz : Nat) (es : List PV) (full : Bool)
  | ptr (p : PV) (off : Nat)
  | fn (f : Fn) (first cap : List PV)
  | tup (vs : List PV)
  deriving Inhabited

def PV.cells : PV → List PV
  | .agg cs => cs
  | p => [p]

abbrev KK := Nat → Nat → Prop

/-- The cells at a place are committed, and hold these values. -/
def Rows (K : KK) (w : World) (b o : Nat) (vs : List Value) : Prop :=
  ∀ k v, vs[k]? = some v → K b (o + k) ∧ w.cell? ⟨b, o + k, none⟩ = some v ∧ v.oneCell' = true

/-- A value of one cell that bears no address of its own; a text no longer than the reach. -/
def baseOk : Value → Bool
  | .agg _ => false
  | .tuple _ => false
  | .string s => decide (s.size ≤ maxLen)
  | _ => true
theorem baseOk_one {v : Value} (h : baseOk v = true) : v.oneCell' = true := by cases v <;> first | rfl | (simp [baseOk] at h)

inductive PRel (K : KK) (w : World) : PV → Value → Prop where
  | base (v : Value) : baseOk v = true → PRel K w (.base v) v
  | agg (cs : List PV) (vs : List Value) : vs.length = cs.length → (∀ v ∈ vs, v.oneCell' = true) → (∀ (k : Nat) (c : PV) (v : Value), cs[k]? = some c → vs[k]? = some v → PRel K w c v) →
      PRel K w (.agg cs) (.agg vs.toArray)
  | nil (sz : Nat) (full : Bool) : PRel K w (.slc sz [] full) (.slice none 0 0)
  | emp (sz : Nat) (full : Bool) (a : Addr) : PRel K w (.slc sz [] full) (.slice (some a) 0 0)
  | slc (sz : Nat) (es : List PV) (full : Bool) (b o cap : Nat) (vss : Nat → List Value) : 0 < sz → es.length ≤ cap → (full = true → cap = es.length) →
      es.length ≤ maxLen → cap ≤ maxLen →
      (∀ (i : Nat) (e : PV), es[i]? = some e → e.cells.length = sz ∧ (vss i).length = sz ∧ Rows K w b (o + i * sz) (vss i)) →
      (∀ (i : Nat) (e : PV) (k : Nat) (c : PV) (v : Value), es[i]? = some e → e.cells[k]? = some c → (vss i)[k]? = some v → PRel K w c v) →
      PRel K w (.slc sz es full) (.slice (some ⟨b, o, none⟩) es.length cap)
  | ptr (p : PV) (off b o : Nat) (vs : List Value) : vs.length = p.cells.length → Rows K w b o vs →
      (∀ (k : Nat) (c : PV) (v : Value), p.cells[k]? = some c → vs[k]? = some v → PRel K w c v) → PRel K w (.ptr p off) (.pointer (some ⟨b, o + off, none⟩))
  | fn (f : Fn) (first cap : List PV) (vf vc : List Value) : vf.length = first.length → vc.length = cap.length →
      (∀ (k : Nat) (c : PV) (v : Value), first[k]? = some c → vf[k]? = some v → PRel K w c v) → (∀ (k : Nat) (c : PV) (v : Value), cap[k]? = some c → vc[k]? = some v → PRel K w c v) →
      PRel K w (.fn f first cap) (.func f vf.toArray vc.toArray)
  | tup (cs : List PV) (vs : List Value) : vs.length = cs.length → (∀ (k : Nat) (c : PV) (v : Value), cs[k]? = some c → vs[k]? = some v → PRel K w c v) →
      PRel K w (.tup cs) (.tuple vs.toArray)

/-- A list of values, each of its own. -/
def PRels (K : KK) (w : World) (ps : List PV) (vs : List Value) : Prop :=
  vs.length = ps.length ∧ ∀ (k : Nat) (c : PV) (v : Value), ps[k]? = some c → vs[k]? = some v → PRel K w c v

theorem PRels.nil {K : KK} {w : World} : PRels K w [] [] := ⟨rfl, fun k c v h => by simp at h⟩
theorem PRels.cons {K : KK} {w : World} {p : PV} {v : Value} {ps : List PV} {vs : List Value} (h : PRel K w p v) (hs : PRels K w ps vs) : PRels K w (p :: ps) (v :: vs) := by
  refine ⟨by simp [hs.1], fun k c u hc hu => ?_⟩
  cases k with
  | zero => simp at hc hu; subst hc hu; exact h
  | succ k => simp at hc hu; exact hs.2 k c u hc hu
theorem PRels.cons_inv {K : KK} {w : World} {p : PV} {ps : List PV} {vs : List Value} (h : PRels K w (p :: ps) vs) : ∃ v vs', vs = v :: vs' ∧ PRel K w p v ∧ PRels K w ps vs' := by
  obtain ⟨hl, hs⟩ := h
  cases vs with
  | nil => simp at hl
  | cons v vs => exact ⟨v, vs, rfl, hs 0 p v (by simp) (by simp), by simpa using hl, fun k c u hc hu => hs (k + 1) c u (by simpa using hc) (by simpa using hu)⟩
theorem PRels.nil_inv {K : KK} {w : World} {vs : List Value} (h : PRels K w [] vs) : vs = [] := List.eq_nil_of_length_eq_zero (by simpa using h.1)

/-- What is committed stays: from one world to a later one. -/
structure Later (K K' : KK) (w w' : World) : Prop where
  sub : ∀ b o, K b o → K' b o
  cell : ∀ b o, K b o → w'.cell? ⟨b, o, none⟩ = w.cell? ⟨b, o, none⟩

theorem Later.refl (K : KK) (w : World) : Later K K w w := ⟨fun _ _ h => h, fun _ _ _ => rfl⟩
theorem Later.trans {K K' K'' : KK} {w w' w'' : World} (h : Later K K' w w') (h' : Later K' K'' w' w'') : Later K K'' w w'' :=
  ⟨fun b o hk => h'.sub b o (h.sub b o hk), fun b o hk => (h'.cell b o (h.sub b o hk)).trans (h.cell b o hk)⟩

theorem Rows.later {K K' : KK} {w w' : World} {b o : Nat} {vs : List Value} (h : Later K K' w w') (hr : Rows K w b o vs) : Rows K' w' b o vs :=
  fun k v hv => ⟨h.sub _ _ (hr k v hv).1, (h.cell _ _ (hr k v hv).1).trans (hr k v hv).2.1, (hr k v hv).2.2⟩

theorem PRel.later {K K' : KK} {w w' : World} (h : Later K K' w w') {p : PV} {v : Value} (hp : PRel K w p v) : PRel K' w' p v := by
  induction hp with
  | base v h1 => exact .base v h1
  | agg cs vs hl h1 _ ih => exact .agg cs vs hl h1 ih
  | nil sz full => exact .nil sz full
  | emp sz full a => exact .emp sz full a
  | slc sz es full b o cap vss h0 hc hf hm hm' hr _ ih => exact .slc sz es full b o cap vss h0 hc hf hm hm' (fun i e he => ⟨(hr i e he).1, (hr i e he).2.1, (hr i e he).2.2.later h⟩) ih
  | ptr p off b o vs hl hr _ ih => exact .ptr p off b o vs hl (hr.later h) ih
  | fn f first cap vf vc h1 h2 _ _ ih1 ih2 => exact .fn f first cap vf vc h1 h2 ih1 ih2
  | tup cs vs hl _ ih => exact .tup cs vs hl ih

theorem PRels.later {K K' : KK} {w w' : World} (h : Later K K' w w') {ps : List PV} {vs : List Value} (hp : PRels K w ps vs) : PRels K' w' ps vs :=
  ⟨hp.1, fun k c v hc hv => (hp.2 k c v hc hv).later h⟩

/-! ## Values in a frame: pure ones, and what the call itself owns -/

inductive AV where
  | pv (p : PV)
  | own (i : Nat)
  | box (i off : Nat)
  | agg (cs : List AV)
  | fn (f : Fn) (first cap : List AV)
  | any
  | any1
  deriving Inhabited

def AV.cells : AV → List AV
  | .agg cs => cs
  | .pv (.agg cs) => cs.map .pv
  | p => [p]

/-- What the call owns: a cell's content; a row that grows; what is owned no more. -/
inductive HE where
  | cell (v : AV)
  | row (t : TypeId) (sz : Nat) (es : List PV)
  | dead
  | pin (v : AV) (u : Value)
  | obj (X : Obj → Prop)
  deriving Inhabited

abbrev HEnv := List (Nat × HE)
def HEnv.get : HEnv → Nat → Option HE
  | [], _ => none
  | (i', v) :: e, i => match Nat.beq i' i with | true => some v | false => HEnv.get e i
theorem HEnv.get_nil (i : Nat) : HEnv.get [] i = none := rfl
theorem HEnv.get_cons (i' : Nat) (v : HE) (e : HEnv) (i : Nat) : HEnv.get ((i', v) :: e) i = if i' = i then some v else HEnv.get e i := by
  rw [HEnv.get]
  cases h : Nat.beq i' i
  · rw [if_neg (Nat.ne_of_beq_eq_false h)]
  · rw [if_pos (Nat.eq_of_beq_eq_true h)]

inductive ARel (K : KK) (w : World) (ρ : Nat → Value) (H : HEnv) : AV → Value → Prop where
  | pv (p : PV) (v : Value) : PRel K w p v → ARel K w ρ H (.pv p) v
  | own (i : Nat) : (H.get i).isSome = true → ARel K w ρ H (.own i) (ρ i)
  | box (i off b : Nat) : (H.get i).isSome = true → ρ i = .pointer (some ⟨b, 0, none⟩) → ARel K w ρ H (.box i off) (.pointer (some ⟨b, off, none⟩))
  | agg (cs : List AV) (vs : List Value) : vs.length = cs.length → (∀ v ∈ vs, v.oneCell' = true) → (∀ (k : Nat) (c : AV) (v : Value), cs[k]? = some c → vs[k]? = some v → ARel K w ρ H c v) → ARel K w ρ H (.agg cs) (.agg vs.toArray)
  | fn (f : Fn) (first cap : List AV) (vf vc : List Value) : vf.length = first.length → vc.length = cap.length →
      (∀ (k : Nat) (c : AV) (v : Value), first[k]? = some c → vf[k]? = some v → ARel K w ρ H c v) → (∀ (k : Nat) (c : AV) (v : Value), cap[k]? = some c → vc[k]? = some v → ARel K w ρ H c v) →
      ARel K w ρ H (.fn f first cap) (.func f vf.toArray vc.toArray)
  | any (v : Value) : ARel K w ρ H .any v
  | any1 (v : Value) : v.cells = #[v] → v.oneCell' = true → ARel K w ρ H .any1 v

/-- The cells of elements, laid one behind the other. -/
def CellsRel (K : KK) (w : World) (sz : Nat) (es : List PV) (xs : List Value) : Prop :=
  ∀ (i : Nat) (e : PV), es[i]? = some e → e.cells.length = sz ∧ ∀ (k : Nat) (c : PV), e.cells[k]? = some c → ∃ v, xs[i * sz + k]? = some v ∧ v.oneCell' = true ∧ PRel K w c v

def HOk (K : KK) (w : World) (B : Nat) (ρ : Nat → Value) (H : HEnv) : HE → Value → Prop
  | .cell v, r => ∃ b t arr u, r = .pointer (some ⟨b, 0, none⟩) ∧ B ≤ b ∧ w.heap[b]? = some (.cells arr t (0, 0)) ∧ ARel K w ρ H v u ∧ u.cells = arr ∧ (∀ o, ¬ K b o)
  | .row t sz es, r => ∃ xs, w.ownsRow B t sz r es.length xs ∧ 0 < sz ∧ CellsRel K w sz es xs ∧ (∀ b, r.ownBlock = some b → ∀ o, K b o ↔ o < es.length * sz)
  | .dead, _ => True
  | .pin v u, _ => ARel K w ρ H v u
  | .obj X, r => ∃ b ob, r = .map (some b) ∧ B ≤ b ∧ w.heap[b]? = some ob ∧ X ob ∧ (∀ o, ¬ K b o)

def blockOf : Value → Option Nat
  | .pointer (some a) => some a.block
  | .slice (some a) _ _ => some a.block
  | .map (some b) => some b
  | _ => none

def HE.live : HE → Bool
  | .dead => false
  | .pin _ _ => false
  | _ => true

structure HRel (K : KK) (w : World) (B : Nat) (ρ : Nat → Value) (H : HEnv) : Prop where
  ok : ∀ (i : Nat) (h : HE), H.get i = some h → HOk K w B ρ H h (ρ i)
  apart : ∀ (i j : Nat) (h h' : HE) (b : Nat), i ≠ j → H.get i = some h → H.get j = some h' → h.live = true → h'.live = true → blockOf (ρ i) = some b → blockOf (ρ j) = some b → False

/-- The call that runs: the world that it began in, what was committed then. -/
structure Base where
  w0 : World
  K0 : KK

structure FS (g : Base) (K : KK) (ρ : Nat → Value) (H : HEnv) (w : World) : Prop where
  below : Below g.w0.heap.size g.w0 w
  old : ∀ b o, g.K0 b o → K b o
  new : ∀ b o, K b o → g.K0 b o ∨ g.w0.heap.size ≤ b
  lt : ∀ b o, K b o → b < w.heap.size
  heap : HRel K w g.w0.heap.size ρ H

abbrev Env := List (Nat × AV)

def Env.get : Env → Nat → Option AV
  | [], _ => none
  | (t', v) :: e, t => match Nat.beq t' t with | true => some v | false => Env.get e t
theorem Env.get_nil (t : Nat) : Env.get [] t = none := rfl
theorem Env.get_cons (t' : Nat) (v : AV) (e : Env) (t : Nat) : Env.get ((t', v) :: e) t = if t' = t then some v else Env.get e t := by
  rw [Env.get]
  cases h : Nat.beq t' t
  · rw [if_neg (Nat.ne_of_beq_eq_false h)]
  · rw [if_pos (Nat.eq_of_beq_eq_true h)]

def EnvR (K : KK) (w : World) (ρ : Nat → Value) (H : HEnv) (env : Env) (tmps : Array Value) : Prop :=
  ∀ t av, env.get t = some av → ∃ v, tmps[t]? = some v ∧ ARel K w ρ H av v

structure Inv (n : Nat) (g : Base) (env : Env) (H : HEnv) (a : Act) (w : World) : Prop where
  size : a.tmps.size = n
  defers : a.defers = []
  st : ∃ K ρ, FS g K ρ H w ∧ EnvR K w ρ H env a.tmps

abbrev QC := Exit → Env → HEnv → Prop

/-- A piece of code, from whatever state fits, comes to an end that is told. -/
structure AW (P : Program) (n : Nat) (g : Base) (c : Code) (env : Env) (H : HEnv) (Q : QC) : Prop where
  go : ∀ a w, Inv n g env H a w → c.wp P (fun e a' w' => ∃ env' H', Inv n g env' H' a' w' ∧ Q e env' H') a w

/-- Operations, one behind the other. -/
structure AO (P : Program) (n : Nat) (g : Base) (ops : Array Oper) (l : List Oper) (env : Env) (H : HEnv) (Q : Env → HEnv → Prop) : Prop where
  go : ∀ a w, Inv n g env H a w → wpList P ops (fun e a' w' => ∃ env' H', Inv n g env' H' a' w' ∧ e = .normal ∧ Q env' H') l a w

/-- What may come about while something only computes: new blocks, and what is committed in them. -/
structure Evo (K K' : KK) (w w' : World) : Prop where
  below : Below w.heap.size w w'
  sub : ∀ b o, K b o → K' b o
  new : ∀ b o, K' b o → K b o ∨ w.heap.size ≤ b
  lt : ∀ b o, K' b o → b < w'.heap.size

/-- The function is there, and has a body. -/
def Stands (P : Program) (f : FuncId) : Prop := ∃ fn, P.funcs[f]? = some fn ∧ fn.body.isNone = false ∧ (fn.name == "runtime.NumGoroutine") = false

/-- The contract of a function that only computes: pure values in, a pure value out; nothing that was there turns. -/
structure ACall (P : Program) (f : FuncId) (args : List PV) (r : PV) : Prop where
  stands : Stands P f
  calls : ∀ (K : KK) (w : World) (vs : List Value), (∀ b o, K b o → b < w.heap.size) → PRels K w args vs →
    Calls P f vs.toArray w fun e w' => ∃ v K', e = .returned v ∧ Evo K K' w w' ∧ PRel K' w' r v

end Go.Cg
