/- 'opE': what an operation that only computes comes to; and that the machine does so. -/
import Derived.Test.YtkbdoobcgifaaaaEval
import Derived.Great.BuildSlice
namespace Go.Cg
open Go.RowKit

def wholeP (tb : Tab) (t : Nat) (p : PV) (off : Nat) : Bool :=
  match p with
  | .agg cs => (tb.k t).isAgg && off == 0 && cs.length == tb.size t
  | _ => false

def ptrPart (tb : Tab) (t : Nat) (p : PV) (off : Nat) : Option PV := if wholeP tb t p off then some p else partE tb t p.cells off

def scalarK : TK → Bool
  | .oth | .agg _ _ | .arr _ _ => false
  | _ => true

def boxPart (tb : Tab) (H : HEnv) (t : Nat) (v : AV) (off : Nat) : Option AV :=
  match v with
  | .any => none
  | .any1 => none
  | .own j => match H.get j with | some (.row _ _ _) => if off == 0 && scalarK (tb.k t) then some v else none | some (.obj _) => if off == 0 && scalarK (tb.k t) then some v else none | _ => none
  | .pv p => match p.notTup, ptrPart tb t p off with | true, some q => some (.pv q) | _, _ => none
  | .agg cs => if (tb.k t).isAgg && off == 0 && cs.length == tb.size t then some v else if scalarK (tb.k t) then cs[off]? else none
  | _ => if off == 0 && scalarK (tb.k t) then some v else none

def seqParts : Nat → List (Nat × Operand) → Option (List Operand)
  | _, [] => some []
  | k, (i, x) :: r => if i = k then match seqParts (k + 1) r with | some l => some (x :: l) | none => none else none

def pvs (env : Env) (H : HEnv) : List Operand → Option (List PV)
  | [] => some []
  | x :: xs => match env.pv H x, pvs env H xs with | some p, some ps => some (p :: ps) | _, _ => none

def idxPvs (env : Env) (H : HEnv) : List (Nat × Operand) → Option (List (Nat × PV))
  | [] => some []
  | (i, x) :: xs => match env.pv H x, idxPvs env H xs with | some p, some ps => some ((i, p) :: ps) | _, _ => none

def fillE (place : Nat → Option (Nat × Nat)) : List PV → List (Nat × PV) → Option (List PV)
  | cells, [] => some cells
  | cells, (i, p) :: r =>
    match place i with
    | none => none
    | some (off, size) => if p.cells.length = size ∧ off + size ≤ cells.length then fillE place (cells.take off ++ p.cells ++ cells.drop (off + size)) r else none

def zeroPVs : List Value → Option (List PV)
  | [] => some []
  | v :: r => if baseOk v then match zeroPVs r with | some l => some (.base v :: l) | none => none else none

def Tab.zero (tb : Tab) (t : Nat) : Option Value := match tb.get t with | some ti => ti.zero | none => none

def vals (env : Env) : List Operand → Option (List AV)
  | [] => some []
  | x :: xs => match env.val x, vals env xs with | some p, some ps => some (p :: ps) | _, _ => none

def lenE (tb : Tab) (t : Nat) (p : PV) : Option Int :=
  match tb.k t, p with
  | .sl _, .slc _ es _ => some es.length
  | .sl _, .base (.slice _ n _) => some n
  | .str, .base (.string s) => some s.size
  | _, _ => none

def Tab.known (tb : Tab) (t : Nat) : Bool := match tb.k t with | .oth => false | _ => true
def fieldOk (tb : Tab) (t s : Nat) : Bool := s != 0 && tb.known t && tb.size t == s

def placeE (fs : List (Nat × Nat × Nat)) (i : Nat) : Option (Nat × Nat) := match fs[i]? with | some (o', _, s) => some (o', s) | none => none

def opE (tb : Tab) (H : HEnv) (env : Env) (o : Oper) : Option AV :=
  match o.op with
  | .move x => env.val x
  | .assign x => env.val x
  | .pick c a b => match env.val c with
    | some (.pv (.base (.bool true))) => env.val a
    | some (.pv (.base (.bool false))) => env.val b
    | _ => none
  | .box _ x => match env.pv H x with | some p => some (.pv (.ptr p 0)) | none => none
  | .load t x => match env.val x with
    | some (.pv (.ptr p off)) => match ptrPart tb t p off with | some q => some (.pv q) | none => none
    | some (.box i off) => match H.get i with | some (.cell v) => boxPart tb H t v off | _ => none
    | _ => none
  | .fieldAddr t x f => match tb.k t with
    | .agg fs _ => match fs[f]? with
      | some (o', ft, s) => match fieldOk tb ft s, env.val x with
        | true, some (.pv (.ptr p off)) => some (.pv (.ptr p (off + o')))
        | true, some (.box i off) => some (.box i (off + o'))
        | _, _ => none
      | none => none
    | _ => none
  | .field t x f => match tb.k t with
    | .agg fs _ => match fs[f]? with
      | some (o', ft, _) => match env.pv H x with
        | some (.agg cs) => match partE tb ft cs o' with | some q => some (.pv q) | none => none
        | _ => none
      | none => none
    | _ => none
  | .binOp op t x y _ => match env.pv H x, env.pv H y with
    | some p, some q => match binE tb op t p q with | some v => some (.pv (.base v)) | none => none
    | _, _ => none
  | .unOp op _ x => match op, env.val x with
    | .not, some (.pv (.base (.bool b))) => some (.pv (.base (.bool (!b))))
    | .neg, some (.pv (.base (.int k n))) => some (.pv (.base (.int k (k.wrap (0 - n)))))
    | _, _ => none
  | .convert s d x => match tb.k s, tb.k d, env.val x with
    | .int _, .int k, some (.pv (.base (.int _ n))) => some (.pv (.base (.int k (k.wrap n))))
    | _, _, _ => none
  | .extract x i => match env.val x with
    | some (.pv (.tup vs)) => match vs[i]? with | some p => some (.pv p) | none => none
    | _ => none
  | .makeFunc fn first cap => match vals env first.toList, vals env cap.toList with
    | some a, some b => match cellPVs H a, cellPVs H b with
      | some pa, some pb => some (.pv (.fn fn pa pb))
      | _, _ => some (.fn fn a b)
    | _, _ => none
  | .call c => match c.callee, c.args.toList, c.argTypes.toList with
    | .builtin .len, [x], [t] => match env.pv H x with
      | some p => match lenE tb t p with | some n => some (.pv (.base (.int .i64 n))) | none => none
      | none => none
    | _, _, _ => none
  | .nilCheck x => match env.val x with
    | some (.pv (.ptr p off)) => some (.pv (.ptr p off))
    | some (.box i off) => some (.box i off)
    | some (.pv (.fn (.func f) a b)) => some (.pv (.fn (.func f) a b))
    | some (.fn (.func f) a b) => some (.fn (.func f) a b)
    | _ => none
  | .build t parts => match tb.k t, tb.zero t with
    | .agg fs _, some z => if (tb.size t = 0) then none else match zeroPVs z.cells.toList, idxPvs env H parts.toList with
      | some zs, some ps => if (fs.all fun f => tb.known f.2.1 && tb.size f.2.1 == f.2.2) then match fillE (placeE fs) zs ps with
          | some cs => some (.pv (.agg cs))
          | none => none
        else none
      | _, _ => none
    | _, _ => none
  | .buildSlice t len parts => match tb.k t with
    | .sl e => match seqParts 0 parts.toList with
      | some xs => match pvs env H xs with
        | some ps => if ps.length = len ∧ 0 < len ∧ len * tb.size e ≤ 16777216 ∧ 0 < tb.size e ∧ (tb.zero e).isSome ∧ (ps.all fun p => p.cells.length == tb.size e) then some (.pv (.slc (tb.size e) ps true)) else none
        | none => none
      | none => none
    | _ => none
  | _ => none

section
variable {P : Program} {tb : Tab} {g : Base} {K : KK} {w : World} {ρ : Nat → Value} {H : HEnv} {env : Env} {a : Act}

/-- What the operands are, as far as they are told. -/
def ValOn (K : KK) (w : World) (ρ : Nat → Value) (H : HEnv) (env : Env) (a : Act) (xs : List Operand) : Prop :=
  ∀ x ∈ xs, ∀ av, env.val x = some av → ARel K w ρ H av (a.eval x)

theorem pvs_rel (hfs : FS g K ρ H w) : ∀ {xs : List Operand} {ps : List PV}, ValOn K w ρ H env a xs → pvs env H xs = some ps → PRels K w ps (xs.map a.eval)
  | [], ps, _, h => by simp [pvs] at h; subst h; exact .nil
  | x :: xs, ps, hv, h => by
    simp only [pvs, Env.pv] at h
    split at h
    · rename_i p ps' h1 h2
      simp only [Option.some.injEq] at h; subst h
      split at h1
      · rename_i av hav
        exact .cons (toPV_rel hfs (hv x (by simp) av hav) h1) (pvs_rel hfs (fun y hy => hv y (by simp [hy])) h2)
      · cases h1
    · cases h

theorem idxPvs_rel (hfs : FS g K ρ H w) : ∀ {xs : List (Nat × Operand)} {ps : List (Nat × PV)}, (∀ x ∈ xs, ∀ av, env.val x.2 = some av → ARel K w ρ H av (a.eval x.2)) → idxPvs env H xs = some ps →
    ps.map (·.1) = xs.map (·.1) ∧ PRels K w (ps.map (·.2)) (xs.map fun x => a.eval x.2)
  | [], ps, _, h => by simp [idxPvs] at h; subst h; exact ⟨rfl, .nil⟩
  | (i, x) :: xs, ps, hv, h => by
    simp only [idxPvs, Env.pv] at h
    split at h
    · rename_i p ps' h1 h2
      simp only [Option.some.injEq] at h; subst h
      split at h1
      · rename_i av hav
        obtain ⟨h3, h4⟩ := idxPvs_rel hfs (fun y hy => hv y (by simp [hy])) h2
        exact ⟨by simp [h3], .cons (toPV_rel hfs (hv (i, x) (by simp) av hav) h1) h4⟩
      · cases h1
    · cases h

theorem vals_rel : ∀ {xs : List Operand} {ps : List AV}, ValOn K w ρ H env a xs → vals env xs = some ps → (xs.map a.eval).length = ps.length ∧ ∀ (k : Nat) (c : AV) (v : Value), ps[k]? = some c → (xs.map a.eval)[k]? = some v → ARel K w ρ H c v
  | [], ps, _, h => by simp [vals] at h; subst h; exact ⟨rfl, by simp⟩
  | x :: xs, ps, hv, h => by
    simp only [vals] at h
    split at h
    · rename_i p ps' h1 h2
      simp only [Option.some.injEq] at h; subst h
      obtain ⟨h3, h4⟩ := vals_rel (fun y hy => hv y (by simp [hy])) h2
      refine ⟨by simp at h3 ⊢; omega, fun k c v hc hv' => ?_⟩
      cases k with
      | zero => simp at hc hv'; subst hc hv'; exact hv x (by simp) _ h1
      | succ k => simp at hc hv'; exact h4 k c v hc (by simpa using hv')
    · cases h

theorem zeroPVs_rel : ∀ {vs : List Value} {ps : List PV}, zeroPVs vs = some ps → PRels K w ps vs
  | [], ps, h => by simp [zeroPVs] at h; subst h; exact .nil
  | v :: vs, ps, h => by
    simp only [zeroPVs] at h
    split at h
    · rename_i h1
      split at h
      · rename_i l hl
        simp only [Option.some.injEq] at h; subst h
        exact .cons (.base v h1) (zeroPVs_rel hl)
      · cases h
    · cases h

theorem PRels.append {ps qs : List PV} {vs us : List Value} (h : PRels K w ps vs) (h' : PRels K w qs us) : PRels K w (ps ++ qs) (vs ++ us) := by
  refine ⟨by simp [h.1, h'.1], fun k c v hc hv => ?_⟩
  by_cases hk : k < ps.length
  · rw [List.getElem?_append_left hk] at hc
    rw [List.getElem?_append_left (by rw [h.1]; exact hk)] at hv
    exact h.2 k c v hc hv
  · rw [List.getElem?_append_right (by omega)] at hc
    rw [List.getElem?_append_right (by rw [h.1]; omega), h.1] at hv
    exact h'.2 _ c v hc hv
theorem PRels.take {ps : List PV} {vs : List Value} (h : PRels K w ps vs) (n : Nat) : PRels K w (ps.take n) (vs.take n) := by
  refine ⟨by simp [h.1], fun k c v hc hv => ?_⟩
  rw [List.getElem?_take] at hc hv
  split at hc
  · rename_i hlt; simp only [hlt, if_true] at hv; exact h.2 k c v hc hv
  · cases hc
theorem PRels.drop {ps : List PV} {vs : List Value} (h : PRels K w ps vs) (n : Nat) : PRels K w (ps.drop n) (vs.drop n) := by
  refine ⟨by simp [h.1], fun k c v hc hv => ?_⟩
  rw [List.getElem?_drop] at hc hv
  exact h.2 _ c v hc hv

theorem foldl_set (off : Nat) : ∀ (l : List Value) (k : Nat) (cells : Array Value), off + k + l.length ≤ cells.size →
    ((l.zipIdx k).foldl (fun cs (c : Value × Nat) => cs.setIfInBounds (off + c.2) c.1) cells).toList = cells.toList.take (off + k) ++ l ++ cells.toList.drop (off + k + l.length)
  | [], k, cells, _ => by simp
  | v :: l, k, cells, h => by
    simp only [List.length_cons] at h
    simp only [List.zipIdx_cons, List.foldl_cons]
    rw [foldl_set off l (k + 1) _ (by simp; omega)]
    simp only [Array.toList_setIfInBounds, List.length_cons]
    apply List.ext_getElem?
    intro j
    simp only [List.getElem?_append, List.length_take, List.length_append, List.length_set, Array.length_toList, List.getElem?_take, List.getElem?_drop, List.getElem?_set]
    by_cases h1 : j < off + k
    · have : j < off + (k + 1) := by omega
      have e1 : min (off + (k + 1)) cells.size = off + (k + 1) := by omega
      have e2 : min (off + k) cells.size = off + k := by omega
      simp [e1, e2, h1, this, show ¬ off + k = j by omega, show j < off + (k + 1) + l.length by omega, show j < off + k + (l.length + 1) by omega]
    · by_cases h2 : j = off + k
      · subst h2
        have e1 : min (off + (k + 1)) cells.size = off + (k + 1) := by omega
        have e2 : min (off + k) cells.size = off + k := by omega
        simp [e1, e2, show off + k < off + (k + 1) + l.length by omega, show off + k < off + (k + 1) by omega, show off + k < cells.size by omega]
      · have e1 : min (off + (k + 1)) cells.size = off + (k + 1) := by omega
        have e2 : min (off + k) cells.size = off + k := by omega
        have e3 : j - (off + k) = (j - (off + (k + 1))) + 1 := by omega
        by_cases h3 : j < off + (k + 1) + l.length
        · simp [e1, e2, e3, h1, h3, show ¬ j < off + (k + 1) by omega, show j < off + k + (l.length + 1) by omega]
        · simp [e1, e2, h1, h3, show ¬ j < off + k + (l.length + 1) by omega, show off + (k + 1) + l.length + (j - (off + (k + 1) + l.length)) = off + k + (l.length + 1) + (j - (off + k + (l.length + 1))) by omega,
            show ¬ off + k = off + k + (l.length + 1) + (j - (off + k + (l.length + 1))) by omega]

theorem fill_rel (place : Nat → Option (Nat × Nat)) : ∀ {ps : List (Nat × PV)} {cells cs : List PV} {vcells : Array Value} {vps : List (Nat × Value)}, PRels K w cells vcells.toList → ps.map (·.1) = vps.map (·.1) →
    PRels K w (ps.map (·.2)) (vps.map (·.2)) → fillE place cells ps = some cs → ∃ r, Instr.fill place vcells vps = some r ∧ PRels K w cs r.toList
  | [], cells, cs, vcells, vps, hc, hi, hp, h => by
    have : vps = [] := by simpa using hi.symm
    subst this
    simp [fillE] at h; subst h
    exact ⟨vcells, rfl, hc⟩
  | (i, p) :: ps, cells, cs, vcells, vps, hc, hi, hp, h => by
    cases vps with
    | nil => simp at hi
    | cons x vps =>
      obtain ⟨j, v⟩ := x
      simp at hi
      obtain ⟨rfl, hi⟩ := hi
      simp only [List.map_cons] at hp
      obtain ⟨v', vs', hv, hpv, hps⟩ := hp.cons_inv
      simp only [List.cons.injEq] at hv
      obtain ⟨rfl, rfl⟩ := hv
      simp only [fillE] at h
      split at h
      · cases h
      · rename_i off size hpl
        split at h
        · rename_i hle
          have hcr := cells_rel hpv
          have hsz : v.cells.size = size := by rw [← hle.1, ← hcr.1]; simp
          have hcs : vcells.size = cells.length := by rw [← hc.1]; simp
          have hfold := foldl_set off v.cells.toList 0 vcells (by simp; omega)
          obtain ⟨r, hr1, hr2⟩ := fill_rel place (vcells := (v.cells.toList.zipIdx 0).foldl (fun cs (c : Value × Nat) => cs.setIfInBounds (off + c.2) c.1) vcells) (vps := vps) (cells := cells.take off ++ p.cells ++ cells.drop (off + size)) (cs := cs)
            (by rw [hfold]; simp only [Nat.add_zero, Array.length_toList, hsz]; exact ((hc.take off).append hcr).append (hc.drop _)) (by simpa using hi) hps h
          refine ⟨r, ?_, hr2⟩
          rw [← hr1]
          simp only [Instr.fill, hpl]
          rw [← Array.foldl_toList, Array.toList_zipIdx, if_neg (by simp; omega)]
        · cases h
theorem mem_foldl_set (off : Nat) (u : Value) : ∀ (l : List (Value × Nat)) (cells : Array Value), u ∈ (l.foldl (fun cs (c : Value × Nat) => cs.setIfInBounds (off + c.2) c.1) cells).toList → u ∈ cells.toList ∨ u ∈ l.map (·.1)
  | [], cells, h => .inl h
  | x :: l, cells, h => by
    rcases mem_foldl_set off u l _ h with h | h
    · rw [Array.toList_setIfInBounds] at h
      rcases List.mem_or_eq_of_mem_set h with h | h
      · exact .inl h
      · exact .inr (by simp [h])
    · exact .inr (by simp at h ⊢; exact .inr h)

theorem fill_one (place : Nat → Option (Nat × Nat)) : ∀ {vps : List (Nat × Value)} {vcells r : Array Value}, Instr.fill place vcells vps = some r → (∀ v ∈ vcells.toList, v.oneCell' = true) → (∀ x ∈ vps, ∀ v ∈ x.2.cells.toList, v.oneCell' = true) →
    ∀ v ∈ r.toList, v.oneCell' = true
  | [], vcells, r, h, h1, _ => by simp [Instr.fill] at h; subst h; exact h1
  | (i, v) :: vps, vcells, r, h, h1, h2 => by
    simp only [Instr.fill] at h
    split at h
    · cases h
    · rename_i off size hp
      split at h
      · cases h
      · refine fill_one place h ?_ (fun x hx => h2 x (by simp [hx]))
        intro u hu
        rw [← Array.foldl_toList, Array.toList_zipIdx] at hu
        rcases mem_foldl_set off u _ _ hu with hu | hu
        · exact h1 u hu
        · exact h2 (i, v) (by simp) u (by simpa using hu)

theorem idxPvs_notTup : ∀ {xs : List (Nat × Operand)} {ps : List (Nat × PV)}, idxPvs env H xs = some ps → ∀ x ∈ ps, x.2.notTup = true
  | [], ps, h => by simp [idxPvs] at h; subst h; simp
  | (i, x) :: xs, ps, h => by
    simp only [idxPvs, Env.pv] at h
    split at h
    · rename_i p ps' h1 h2
      simp only [Option.some.injEq] at h; subst h
      split at h1
      · intro y hy
        rcases List.mem_cons.1 hy with rfl | hy
        · exact toPV_notTup h1
        · exact idxPvs_notTup h2 y hy
      · cases h1
    · cases h
theorem pvs_notTup : ∀ {xs : List Operand} {ps : List PV}, pvs env H xs = some ps → ∀ x ∈ ps, x.notTup = true
  | [], ps, h => by simp [pvs] at h; subst h; simp
  | x :: xs, ps, h => by
    simp only [pvs, Env.pv] at h
    split at h
    · rename_i p ps' h1 h2
      simp only [Option.some.injEq] at h; subst h
      split at h1
      · intro y hy
        rcases List.mem_cons.1 hy with rfl | hy
        · exact toPV_notTup h1
        · exact pvs_notTup h2 y hy
      · cases h1
    · cases h
theorem zeroPVs_one : ∀ {vs : List Value} {ps : List PV}, zeroPVs vs = some ps → ∀ v ∈ vs, v.oneCell' = true
  | [], ps, _ => by simp
  | v :: vs, ps, h => by
    simp only [zeroPVs] at h
    split at h
    · rename_i h1
      split at h
      · rename_i l hl
        intro u hu
        rcases List.mem_cons.1 hu with rfl | hu
        · exact baseOk_one h1
        · exact zeroPVs_one hl u hu
      · cases h
    · cases h
end

end Go.Cg
