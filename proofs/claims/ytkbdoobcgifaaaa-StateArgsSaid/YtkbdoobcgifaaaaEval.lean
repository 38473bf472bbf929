/- Operations that only compute, on abstract values: 'opEval', and that it tells what the machine does. -/
import Derived.Test.YtkbdoobcgifaaaaOps
namespace Go.Cg
open Go.RowKit

section
variable {g : Base} {K K' K'' : KK} {w w' w'' : World} {ρ : Nat → Value} {H : HEnv}

theorem Evo.refl (hl : ∀ b o, K b o → b < w.heap.size) : Evo K K w w := ⟨.refl _ _, fun _ _ h => h, fun _ _ h => .inl h, hl⟩
theorem Evo.trans (h : Evo K K' w w') (h' : Evo K' K'' w' w'') : Evo K K'' w w'' :=
  ⟨h.below.trans (h'.below.mono h.below.size), fun b o k => h'.sub b o (h.sub b o k),
   fun b o k => (h'.new b o k).elim (h.new b o) (fun h2 => .inr (Nat.le_trans h.below.size h2)), h'.lt⟩
theorem Evo.later (h : Evo K K' w w') (hl : ∀ b o, K b o → b < w.heap.size) : Later K K' w w' :=
  ⟨h.sub, fun b o hk => h.below.cell (p := ⟨b, o, none⟩) (hl b o hk)⟩
theorem Evo.drew (h : Evo K K' w w') : Evo K K' w w'.drew := ⟨h.below.drew, h.sub, h.new, h.lt⟩

theorem ARel.later (h : Later K K' w w') {av : AV} {v : Value} (ha : ARel K w ρ H av v) : ARel K' w' ρ H av v := by
  induction ha with
  | pv p v hp => exact .pv p v (hp.later h)
  | own i hv => exact .own i hv
  | box i off b hi hb => exact .box i off b hi hb
  | agg cs vs hl h1 _ ih => exact .agg cs vs hl h1 ih
  | fn f first cap vf vc h1 h2 _ _ ih1 ih2 => exact .fn f first cap vf vc h1 h2 ih1 ih2
  | any v => exact .any v
  | any1 v h1 h2 => exact .any1 v h1 h2

theorem EnvR.later (h : Later K K' w w') {env : Env} {tmps : Array Value} (he : EnvR K w ρ H env tmps) : EnvR K' w' ρ H env tmps :=
  fun t av ht => let ⟨v, h1, h2⟩ := he t av ht; ⟨v, h1, h2.later h⟩

theorem HRel.evo {B : Nat} (hl : ∀ b o, K b o → b < w.heap.size) (h : Evo K K' w w') (hh : HRel K w B ρ H) : HRel K' w' B ρ H := by
  refine ⟨fun i e hi => ?_, hh.apart⟩
  have h1 := hh.ok i e hi
  generalize ρ i = r at h1 ⊢
  have hlat := h.later hl
  cases e with
  | cell v =>
    obtain ⟨b, t, arr, u, rfl, hB, hb, hu, ha, hn⟩ := h1
    have hlt : b < w.heap.size := (Array.getElem?_eq_some_iff.1 hb).1
    exact ⟨b, t, arr, u, rfl, hB, by rw [h.below.block b hlt]; exact hb, hu.later hlat, ha, fun o ho => (h.new b o ho).elim (hn o) (fun h2 => by omega)⟩
  | row t sz es =>
    obtain ⟨xs, hown, h0, hc, hk⟩ := h1
    refine ⟨xs, hown.kept (row := none) ⟨h.below.os, h.below.tape, h.below.output, h.below.size, fun k hk _ => h.below.block k hk⟩ ?_, h0, ?_, ?_⟩
    · cases hb : r.ownBlock <;> simp
    · intro i e he
      obtain ⟨h2, h3⟩ := hc i e he
      exact ⟨h2, fun k c hc => let ⟨v, h4, h5, h6⟩ := h3 k c hc; ⟨v, h4, h5, h6.later hlat⟩⟩
    · intro b hb o
      rw [← hk b hb o]
      have hlt := (hown.lt b hb).2
      exact ⟨fun ho => (h.new b o ho).resolve_right (by omega), h.sub b o⟩
  | dead => trivial
  | pin v u => exact ARel.later hlat h1
  | obj X =>
    obtain ⟨b, ob, rfl, hB, hb, hx, hn⟩ := h1
    have hlt : b < w.heap.size := (Array.getElem?_eq_some_iff.1 hb).1
    exact ⟨b, ob, rfl, hB, by rw [h.below.block b hlt]; exact hb, hx, fun o ho => (h.new b o ho).elim (hn o) (fun h2 => by omega)⟩

theorem FS.evo (hf : FS g K ρ H w) (h : Evo K K' w w') : FS g K' ρ H w' :=
  ⟨hf.below.trans (h.below.mono hf.below.size), fun b o k => h.sub b o (hf.old b o k),
   fun b o k => (h.new b o k).elim (hf.new b o) (fun h2 => .inr (Nat.le_trans hf.below.size h2)), h.lt, hf.heap.evo hf.lt h⟩
end

/-! ## A step that only computes -/
def QRes (P : Program) (K : KK) (ρ : Nat → Value) (H : HEnv) (w : World) (r : AV) : Result Next → Prop
  | .ok (.value v) w' => ∃ K', Evo K K' w w' ∧ ARel K' w' ρ H r v
  | .ok (.enter f args) w' => w' = w ∧ Calls P f args w (fun e w'' => ∃ v K', e = .returned v ∧ Evo K K' w w'' ∧ ARel K' w'' ρ H r v)
  | _ => False

/-- The operation o, where its operands are as env tells, comes to r. -/
structure QStep (P : Program) (g : Base) (H : HEnv) (o : Oper) (env : Env) (r : AV) : Prop where
  go : ∀ (K : KK) (ρ : Nat → Value) (a : Act) (w : World), FS g K ρ H w → (∀ x ∈ o.op.operands, ∀ av, env.val x = some av → ARel K w ρ H av (a.eval x)) → QRes P K ρ H w r ((execOp a.eval o).run P w)

/-! ## Numbers, texts, and so on -/
def numOp (op : BinOp) (k : IntKind) (a b : Int) : Option Value :=
  match op with
  | .eql => some (.bool (a == b))
  | .neq => some (.bool (a != b))
  | .lss => some (.bool (decide (a < b)))
  | .leq => some (.bool (decide (a ≤ b)))
  | .gtr => some (.bool (decide (b < a)))
  | .geq => some (.bool (decide (b ≤ a)))
  | .add => some (.int k (k.wrap (a + b)))
  | .sub => some (.int k (k.wrap (a - b)))
  | .mul => some (.int k (k.wrap (a * b)))
  | .quo => if b = 0 then none else some (.int k (k.wrap (a.tdiv b)))
  | .rem => if b = 0 then none else some (.int k (a.tmod b))
  | .and => some (.int k (k.wrap (BitVec.ofInt k.bits a &&& BitVec.ofInt k.bits b).toNat))
  | .or => some (.int k (k.wrap (BitVec.ofInt k.bits a ||| BitVec.ofInt k.bits b).toNat))
  | .xor => some (.int k (k.wrap (BitVec.ofInt k.bits a ^^^ BitVec.ofInt k.bits b).toNat))
  | .andNot => some (.int k (k.wrap (BitVec.ofInt k.bits a &&& ~~~ BitVec.ofInt k.bits b).toNat))
  | _ => none

def strOp (op : BinOp) (a b : ByteArray) : Option Value :=
  match op with
  | .eql => some (.bool (a.toList == b.toList))
  | .neq => some (.bool (!(a.toList == b.toList)))
  | .lss => some (.bool (Op.bytesLess a.toList b.toList))
  | _ => none

def partE (tb : Tab) (t : Nat) (cs : List PV) (off : Nat) : Option PV :=
  match tb.k t with
  | .oth => none
  | .agg _ _ | .arr _ _ => if off + tb.size t ≤ cs.length then some (.agg ((cs.drop off).take (tb.size t))) else none
  | _ => cs[off]?

def eqFs (tb : Tab) (eq : Nat → PV → PV → Option Bool) : List (Nat × Nat × Nat) → List PV → List PV → Option Bool
  | [], _, _ => some true
  | (o, t, _) :: fs, xs, ys =>
    match partE tb t xs o, partE tb t ys o with
    | some a, some b => match eq t a b, eqFs tb eq fs xs ys with
      | some r, some r' => some (r && r')
      | _, _ => none
    | _, _ => none

def eqE (tb : Tab) : Nat → Nat → PV → PV → Option Bool
  | 0, _, _, _ => none
  | d + 1, t, x, y =>
    match tb.k t, x, y with
    | .int _, .base (.int k a), .base (.int k' b) => if k = k' then some (a == b) else none
    | .bool, .base (.bool a), .base (.bool b) => some (a == b)
    | .str, .base (.string a), .base (.string b) => some (a.toList == b.toList)
    | .agg fs true, .agg xs, .agg ys => eqFs tb (eqE tb d) fs xs ys
    | _, _, _ => none

def binE (tb : Tab) (op : BinOp) (t : Nat) (x y : PV) : Option Value :=
  match x, y with
  | .base (.int k a), .base (.int k' b) => if k = k' then numOp op k a b else none
  | .base (.string a), .base (.string b) => strOp op a b
  | .base (.bool a), .base (.bool b) => match tb.k t, op with
    | .bool, .eql => some (.bool (a == b))
    | .bool, .neq => some (.bool (!(a == b)))
    | _, _ => none
  | .agg xs, .agg ys => match op with
    | .eql => match eqE tb 8 t (.agg xs) (.agg ys) with | some b => some (.bool b) | none => none
    | .neq => match eqE tb 8 t (.agg xs) (.agg ys) with | some b => some (.bool (!b)) | none => none
    | _ => none
  | _, _ => none

section
variable {P : Program} {tb : Tab} {K : KK} {w : World}

theorem run_part (htb : TabOK P tb) {t : Nat} {cs : List PV} {vs : List Value} (hr : PRels K w cs vs) (ho : ∀ v ∈ vs, v.oneCell' = true) {off : Nat} {p : PV} (h : partE tb t cs off = some p) (w1 : World) :
    ∃ v, (part t vs.toArray off).run P w1 = .ok v w1 ∧ PRel K w p v := by
  unfold partE at h
  have hk : tb.k t ≠ .oth := by intro e; simp [e] at h
  have h1 := run_isAgg htb hk w1
  have h2 := run_sizeOf htb hk w1
  have agg : (tb.k t).isAgg = true → (if off + tb.size t ≤ cs.length then some (PV.agg ((cs.drop off).take (tb.size t))) else none) = some p → ∃ v, (part t vs.toArray off).run P w1 = .ok v w1 ∧ PRel K w p v := by
    intro ha h
    split at h
    · rename_i hle
      simp only [Option.some.injEq] at h
      subst h
      refine ⟨.agg (vs.toArray.extract off (off + tb.size t)), by simp only [part, Sem.run_bind, h1, h2, ha, Result.andThen_ok, if_true, Sem.run_pure], ?_⟩
      have he : vs.toArray.extract off (off + tb.size t) = ((vs.drop off).take (tb.size t)).toArray := by simp [List.extract_toArray, List.extract_eq_take_drop]
      rw [he]
      refine .agg _ _ (by simp [hr.1]) (fun v hv => ho v (List.mem_of_mem_drop (List.mem_of_mem_take hv))) fun k c v hc hv => ?_
      rw [List.getElem?_take] at hc hv
      split at hc
      · rename_i hlt
        simp only [hlt, if_true, List.getElem?_drop] at hc hv
        exact hr.2 _ c v hc hv
      · cases hc
    · cases h
  have sc : (tb.k t).isAgg = false → cs[off]? = some p → ∃ v, (part t vs.toArray off).run P w1 = .ok v w1 ∧ PRel K w p v := by
    intro ha h
    have hlt : off < vs.length := by
      rw [hr.1]
      rcases Nat.lt_or_ge off cs.length with h' | h'
      · exact h'
      · rw [List.getElem?_eq_none h'] at h; cases h
    refine ⟨vs[off], ?_, hr.2 off p _ h (List.getElem?_eq_getElem hlt)⟩
    simp [part, h1, ha, List.getElem?_eq_getElem hlt]
  cases hkk : tb.k t <;> simp only [hkk] at h agg sc <;> first | (exact absurd hkk hk) | (exact agg rfl h) | (exact sc rfl h)

theorem run_eqFs (htb : TabOK P tb) (d : Nat) (eq : Nat → PV → PV → Option Bool)
    (ih : ∀ t x y vx vy b, PRel K w x vx → PRel K w y vy → eq t x y = some b → ∀ w1, (Op.equalIn d t vx vy).run P w1 = .ok b w1)
    {xs ys : List PV} {vx vy : List Value} (hx : PRels K w xs vx) (hy : PRels K w ys vy) (hox : ∀ v ∈ vx, v.oneCell' = true) (hoy : ∀ v ∈ vy, v.oneCell' = true) : ∀ (F : List Field) (b : Bool), (F.all fun f => f.name != "_") = true →
    eqFs tb eq (F.map fun f => (f.offset, f.type, P.cellsOf f.type)) xs ys = some b → ∀ w1, (Op.eqFields d vx.toArray vy.toArray F).run P w1 = .ok b w1
  | [], b, _, h, w1 => by simp [eqFs] at h; subst h; simp [Op.eqFields]
  | f :: F, b, hn, h, w1 => by
    simp only [List.all_cons, Bool.and_eq_true] at hn
    simp only [List.map_cons, eqFs] at h
    split at h
    · rename_i a c ha hc
      split at h
      · rename_i r r' h1 h2
        simp only [Option.some.injEq] at h
        subst h
        obtain ⟨va, hva, hra⟩ := run_part htb hx hox ha w1
        obtain ⟨vc, hvc, hrc⟩ := run_part htb hy hoy hc w1
        have e1 := ih _ _ _ _ _ _ hra hrc h1 w1
        have e2 := run_eqFs htb d eq ih hx hy hox hoy F r' hn.2 h2 w1
        have hne : f.name ≠ "_" := by simpa using hn.1
        simp only [Op.eqFields, hne, ne_eq, not_false_iff, if_true, Sem.run_bind, hva, hvc, e1, Result.andThen_ok, Sem.run_ite, Sem.run_pure, e2]
        cases r <;> simp
      · cases h
    · cases h

theorem run_eqE (htb : TabOK P tb) : ∀ (d t : Nat) (x y : PV) (vx vy : Value) (b : Bool), PRel K w x vx → PRel K w y vy → eqE tb d t x y = some b → ∀ d' w1, (Op.equalIn (d + d') t vx vy).run P w1 = .ok b w1
  | 0, _, _, _, _, _, _, _, _, h, _, _ => by simp [eqE] at h
  | d + 1, t, x, y, vx, vy, b, hx, hy, h, d', w1 => by
    rw [show d + 1 + d' = (d + d') + 1 by omega]
    unfold eqE at h
    split at h
    · rename_i k' k a k'' b' hk
      split at h
      · rename_i hkk
        simp only [Option.some.injEq] at h
        subst hkk h
        cases hx; cases hy
        exact run_equalIn_int w1 _ t k k' a b' (tab_int htb hk)
      · cases h
    · rename_i a b' hk
      simp only [Option.some.injEq] at h
      subst h
      cases hx; cases hy
      exact run_equalIn_bool' w1 _ t a b' (tab_bool htb hk)
    · rename_i a b' hk
      simp only [Option.some.injEq] at h
      subst h
      cases hx; cases hy
      exact run_equalIn_string w1 _ t a b' (tab_str htb hk)
    · rename_i fs xs ys hk
      obtain ⟨F, hF, hfs, hq⟩ := tab_agg htb hk
      simp only [Bool.and_eq_true, Bool.not_eq_true'] at hq
      have hof : P.fieldsOf t = F := by simp [Program.fieldsOf, hF]
      cases hx with
      | agg _ vx hlx hox hrx =>
        cases hy with
        | agg _ vy hly hoy hry =>
          rw [run_equalIn_agg w1 _ t _ _ (by rw [hof]; exact hF) hq.1.1, hof]
          subst hfs
          exact run_eqFs htb (d + d') (eqE tb d) (fun t x y vx vy b h1 h2 h3 w1 => run_eqE htb d t x y vx vy b h1 h2 h3 d' w1) ⟨hlx, hrx⟩ ⟨hly, hry⟩ hox hoy F.toList b hq.2 h w1
    · cases h

theorem run_numOp {op : BinOp} {k : IntKind} {a b : Int} {v : Value} (h : numOp op k a b = some v) (t : Nat) (w1 : World) : (binOp op t (.int k a) (.int k b)).run P w1 = .ok v w1 := by
  cases op <;> simp only [numOp, Option.some.injEq] at h <;>
    first
    | (subst h; simp [binOp, Op.intArith, Op.intCmp, Op.intBits]; done)
    | (split at h
       · cases h
       · rename_i hb; simp only [Option.some.injEq] at h; subst h; simp [binOp, Op.intDiv, hb])
    | cases h

omit P K w in
theorem eqE_agg {d t : Nat} {xs ys : List PV} {b : Bool} (h : eqE tb (d + 1) t (.agg xs) (.agg ys) = some b) : ∃ fs, tb.k t = .agg fs true := by
  cases hk : tb.k t <;> simp only [eqE, hk] at h <;> first | cases h | skip
  rename_i fs q
  cases q
  · simp at h
  · exact ⟨fs, rfl⟩

theorem run_binE (htb : TabOK P tb) {op : BinOp} {t : Nat} {x y : PV} {vx vy v : Value} (hx : PRel K w x vx) (hy : PRel K w y vy) (h : binE tb op t x y = some v) (ox oy : Operand) (w1 : World) :
    (do eqGuard op t ox oy vx vy; binOp op t vx vy : Sem Value).run P w1 = .ok v w1 ∧ baseOk v = true := by
  unfold binE at h
  split at h
  · rename_i k a k' b
    split at h
    · rename_i hk
      subst hk
      cases hx; cases hy
      refine ⟨?_, ?_⟩
      · have := run_numOp (P := P) h t w1
        cases op <;> simp [eqGuard, this]
      · cases op <;> simp only [numOp, Option.some.injEq] at h <;> first
          | (subst h; rfl)
          | cases h
          | (split at h
             · cases h
             · simp only [Option.some.injEq] at h; subst h; rfl)
    · cases h
  · rename_i a b
    cases hx; cases hy
    cases op <;> simp only [strOp, Option.some.injEq] at h <;> first | (subst h; exact ⟨by simp [eqGuard, binOp, Op.stringOp], rfl⟩) | cases h
  · rename_i a b
    cases hx; cases hy
    split at h
    · rename_i hk
      simp only [Option.some.injEq] at h; subst h
      have := run_eql_bool (P := P) w1 t a b (tab_bool htb hk)
      exact ⟨by simp [eqGuard, this], rfl⟩
    · rename_i hk
      simp only [Option.some.injEq] at h; subst h
      have := run_neq_bool (P := P) w1 t a b (tab_bool htb hk)
      exact ⟨by simp [eqGuard, this], rfl⟩
    · cases h
  · rename_i xs ys
    have key : ∀ b, eqE tb 8 t (.agg xs) (.agg ys) = some b → (Op.equalIn 10000 t vx vy).run P w1 = .ok b w1 ∧ ∃ cx cy, vx = .agg cx ∧ vy = .agg cy ∧ P.eqGuardType P.depth t = false := by
      intro b hb
      refine ⟨run_eqE htb 8 t _ _ vx vy b hx hy hb 9992 w1, ?_⟩
      obtain ⟨fs, hk⟩ := eqE_agg hb
      cases hx with
      | agg _ vx' _ _ _ =>
        cases hy with
        | agg _ vy' _ _ _ =>
          obtain ⟨F, hF, hfs, hq⟩ := tab_agg htb hk
          simp only [Bool.and_eq_true, Bool.not_eq_true'] at hq
          exact ⟨_, _, rfl, rfl, hq.1.2⟩
    split at h
    · split at h
      · rename_i b hb
        simp only [Option.some.injEq] at h; subst h
        obtain ⟨h1, cx, cy, rfl, rfl, h2⟩ := key b hb
        refine ⟨?_, rfl⟩
        rw [Sem.run_bind, run_eqGuard_agg w1 _ t ox oy cx cy h2, Result.andThen_ok, run_eql_struct, h1]; rfl
      · cases h
    · split at h
      · rename_i b hb
        simp only [Option.some.injEq] at h; subst h
        obtain ⟨h1, cx, cy, rfl, rfl, h2⟩ := key b hb
        refine ⟨?_, rfl⟩
        rw [Sem.run_bind, run_eqGuard_agg w1 _ t ox oy cx cy h2, Result.andThen_ok, run_neq_struct, h1]; rfl
      · cases h
    · cases h
  · cases h
end

end Go.Cg
