/- A function's contract out of its body; calls; elements of slices. -/
import Derived.Test.YtkbdoobcgifaaaaRules
namespace Go.Cg
open Go.RowKit

/-- What one frame tells of a slot, the other one tells too. -/
def Tells (a b : AV) : Prop := ∀ (K : KK) (w : World) (ρ : Nat → Value) (H : HEnv) (v : Value), ARel K w ρ H a v → ARel K w ρ H b v
theorem Tells.refl (a : AV) : Tells a a := fun _ _ _ _ _ h => h
theorem Tells.trans {a b c : AV} (h : Tells a b) (h' : Tells b c) : Tells a c := fun K w ρ H v x => h' K w ρ H v (h K w ρ H v x)
theorem tells_nil (sz : Nat) (f : Bool) : Tells (.pv (.base (.slice none 0 0))) (.pv (.slc sz [] f)) := fun K w ρ H v h => by
  cases h with | pv _ _ hp => cases hp; exact .pv _ _ (.nil sz f)
theorem tells_full (sz : Nat) (es : List PV) (f : Bool) : Tells (.pv (.slc sz es f)) (.pv (.slc sz es false)) := fun K w ρ H v h => by
  cases h with
  | pv _ _ hp => cases hp with
    | nil => exact .pv _ _ (.nil sz false)
    | emp _ _ a => exact .pv _ _ (.emp sz false a)
    | slc _ _ _ b o cap vss h0 h1 h2 h3 h4 h5 h6 => exact .pv _ _ (.slc sz es false b o cap vss h0 h1 (by simp) h3 h4 h5 h6)
def EntE (env env2 : Env) : Prop := ∀ t av2, env2.get t = some av2 → ∃ av, env.get t = some av ∧ Tells av av2
theorem EntE.refl (env : Env) : EntE env env := fun t av h => ⟨av, h, .refl av⟩
theorem EntE.one {env : Env} {t : Nat} {a b : AV} (h : env.get t = some a) (ht : Tells a b) : EntE env ((t, b) :: env) := fun t' av h' => by
  simp only [Env.get_nil, Env.get_cons] at h'
  split at h'
  · rename_i e; subst e; simp only [Option.some.injEq] at h'; subst h'; exact ⟨a, h, ht⟩
  · exact ⟨av, h', .refl av⟩

def argsE : Nat → List PV → Env
  | _, [] => []
  | k, p :: ps => (k, .pv p) :: argsE (k + 1) ps

def resE (tb : Tab) (H : HEnv) (env : Env) : ResultVar → Option PV
  | .tmp t => env.pv H (.tmp t)
  | .cell a ty => match env.get a with
    | some (.box i off) => match H.get i with
      | some (.cell v) => match boxPart tb H ty v off with | some x => x.toPV H | none => none
      | _ => none
    | some (.pv (.ptr p off)) => ptrPart tb ty p off
    | _ => none

def resEs (tb : Tab) (H : HEnv) (env : Env) : List ResultVar → Option (List PV)
  | [] => some []
  | r :: rs => match resE tb H env r, resEs tb H env rs with | some p, some ps => some (p :: ps) | _, _ => none

def retPV : List PV → PV
  | [p] => p
  | ps => .tup ps

/-- The end of a body: it has come to its end or to a return, and what it answers is this. -/
def RetQ (tb : Tab) (rs : List ResultVar) (r : PV) : QC := fun e env H => (e = .normal ∨ e = .ret) ∧ ∃ env2, EntE env env2 ∧ ∃ ps, resEs tb H env2 rs = some ps ∧ retPV ps = r

section
variable {P : Program} {tb : Tab} {n : Nat} {g : Base} {K : KK} {w : World} {ρ : Nat → Value} {H : HEnv} {env : Env} {a : Act} {ops : List Oper} {o : Oper} {rest : List Oper} {Q : Env → HEnv → Prop} {r : PV} {f : FuncId} {args : List PV}

theorem argsE_get : ∀ (ps : List PV) (k t : Nat) (av : AV), (argsE k ps).get t = some av → k ≤ t ∧ ∃ p, ps[t - k]? = some p ∧ av = .pv p
  | [], k, t, av, h => by simp [argsE, Env.get_nil, Env.get_cons] at h
  | p :: ps, k, t, av, h => by
    simp only [argsE, Env.get_nil, Env.get_cons] at h
    split at h
    · rename_i e; subst e; simp only [Option.some.injEq] at h; exact ⟨Nat.le_refl _, p, by simp, h.symm⟩
    · obtain ⟨h1, q, h2, h3⟩ := argsE_get ps (k + 1) t av h
      refine ⟨by omega, q, ?_, h3⟩
      rw [show t - k = (t - (k + 1)) + 1 by omega]
      simpa using h2

theorem resE_rel (htb : TabOK P tb) (hf : FS g K ρ H w) (he : EnvR K w ρ H env a.tmps) {x : ResultVar} {p : PV} (h : resE tb H env x = some p) :
    ∃ v, (match x with | .tmp t => pure (a.tmps.getD t undef) | .cell c t => do loadVar t (← asAddr (a.tmps.getD c undef)) : Sem Value).run P w = .ok v w ∧ PRel K w p v := by
  cases x with
  | tmp t =>
    refine ⟨_, rfl, ?_⟩
    have := opE_pv (a := a) hf (x := .tmp t) (fun av hx => val_rel he hx) h
    exact this
  | cell c t =>
    simp only [resE] at h
    have hload : ∀ v, (∃ ad, v = .pointer (some ad)) → (do loadVar t (← asAddr v) : Sem Value).run P w = (Instr.loadAt t v).run P w := by
      rintro v ⟨ad, rfl⟩; simp [Instr.loadAt, Instr.sureAddr, asAddr]
    split at h
    · rename_i i off hx
      split at h
      · rename_i v hv
        split at h
        · rename_i x hxx
          have hb := val_rel he (x := .tmp c) hx
          obtain ⟨u, h1, h2⟩ := run_loadVar_box htb hf hb hv hxx
          refine ⟨u, ?_, toPV_rel hf h2 h⟩
          have hpt : ∃ ad, a.eval (.tmp c) = .pointer (some ad) := by generalize a.eval (.tmp c) = vv at hb; cases hb; exact ⟨_, rfl⟩
          exact (hload _ hpt).trans h1
        · cases h
      · cases h
    · rename_i q off hx
      have hb := val_rel he (x := .tmp c) hx
      generalize hvv : a.eval (.tmp c) = vv at hb
      cases hb with
      | pv _ _ hp =>
        obtain ⟨u, h1, h2⟩ := run_loadVar_ptr htb hp h
        refine ⟨u, ?_, h2⟩
        have hpt : ∃ ad, vv = .pointer (some ad) := by cases hp; exact ⟨_, rfl⟩
        have hh : a.tmps.getD c undef = vv := hvv
        subst hh
        exact (hload _ hpt).trans h1
    · cases h

theorem resEs_rel (htb : TabOK P tb) (hf : FS g K ρ H w) (he : EnvR K w ρ H env a.tmps) : ∀ {xs : List ResultVar} {ps : List PV}, resEs tb H env xs = some ps →
    ∃ vs, (xs.mapM fun | .tmp t => pure (a.tmps.getD t undef) | .cell c t => do loadVar t (← asAddr (a.tmps.getD c undef)) : Sem (List Value)).run P w = .ok vs w ∧ PRels K w ps vs
  | [], ps, h => by simp [resEs] at h; subst h; exact ⟨[], by simp, .nil⟩
  | x :: xs, ps, h => by
    simp only [resEs] at h
    split at h
    · rename_i p ps' h1 h2
      simp only [Option.some.injEq] at h; subst h
      obtain ⟨v, e1, r1⟩ := resE_rel htb hf he h1
      obtain ⟨vs, e2, r2⟩ := resEs_rel htb hf he h2
      refine ⟨v :: vs, ?_, .cons r1 r2⟩
      rw [List.mapM_cons, Sem.run_bind]
      erw [e1]
      rw [Result.andThen_ok, Sem.run_bind]
      erw [e2]
      rfl
    · cases h

theorem acall_intro (htb : TabOK P tb) {fn : Func} {c : Code} (hf : P.funcs[f]? = some fn) (hb : fn.body = some c) (hn : (fn.name == "runtime.NumGoroutine") = false) (hnt : fn.ntmps = n) (hargs : args.length ≤ n)
    (rs : List ResultVar) (hrs : fn.results.toList = rs) (h : lensOk args → ∀ g, AW P n g c (argsE 0 args) [] (RetQ tb rs r)) : ACall P f args r := by
  refine ⟨⟨fn, hf, by simp [hb], hn⟩, fun K w vs hl hv => ?_⟩
  refine calls_of_wp hf hb ?_
  have hlen : vs.length = args.length := hv.1
  refine wp_mono ((h hv.lensOk ⟨w, K⟩).go _ w ⟨by simp [hnt]; omega, rfl, K, fun _ => undef, ⟨.refl _ _, fun _ _ h => h, fun _ _ h => .inl h, hl, ⟨by simp [HEnv.get_nil, HEnv.get_cons], by simp [HEnv.get_nil, HEnv.get_cons]⟩⟩, ?_⟩) ?_
  · intro t av hg
    obtain ⟨_, p, hp, rfl⟩ := argsE_get args 0 t av hg
    have hlt : t < vs.length := by rw [hlen]; exact (List.getElem?_eq_some_iff.1 hp).1
    refine ⟨vs[t], ?_, .pv _ _ (hv.2 t p _ hp (List.getElem?_eq_getElem hlt))⟩
    rw [Array.getElem?_append_left (by simpa using hlt)]
    simp [hlt]
  · rintro e a' w' ⟨env1, H', hi, he, env', hent, ps, hps, rfl⟩
    obtain ⟨_, h2, K', ρ', hf', he0⟩ := hi
    have he' : EnvR K' w' ρ' H' env' a'.tmps := fun t av ht => by
      obtain ⟨av0, q1, q2⟩ := hent t av ht
      obtain ⟨v, v1, v2⟩ := he0 t av0 q1
      exact ⟨v, v1, q2 _ _ _ _ _ v2⟩
    obtain ⟨us, hrun, hru⟩ := resEs_rel htb hf' he' hps
    have hev : Evo K K' w w' := ⟨hf'.below, hf'.old, hf'.new, hf'.lt⟩
    have hres : (results fn a'.tmps).run P w' = .ok (if hh : us.toArray.size = 1 then us.toArray[0] else .tuple us.toArray) w' := by
      unfold results
      rw [Array.mapM_eq_mapM_toList, hrs]
      simp only [Sem.run_bind, Sem.run_map]
      erw [hrun]
      rfl
    have hval : PRel K' w' (retPV ps) (if hh : us.toArray.size = 1 then us.toArray[0] else .tuple us.toArray) := by
      split
      · rename_i hh
        have hl1 := hru.1
        have hu : us.length = 1 := by simpa using hh
        obtain ⟨u, rfl⟩ := List.length_eq_one_iff.1 hu
        obtain ⟨p, rfl⟩ := List.length_eq_one_iff.1 (show ps.length = 1 by omega)
        exact hru.2 0 p u (by simp) (by simp)
      · rename_i hh
        simp at hh
        have : retPV ps = .tup ps := by
          unfold retPV
          split
          · rename_i p; exact absurd (by have := hru.1; simpa using this) hh
          · rfl
        rw [this]
        exact .tup ps us hru.1 hru.2
    rcases he with rfl | rfl
    · exact ⟨h2, _, hres, _, K', rfl, hev, hval⟩
    · exact ⟨h2, _, hres, _, K', rfl, hev, hval⟩

theorem call_run {f : FuncId} (hs : Stands P f) (vs : Array Value) (w : World) : (callFunc f vs).run P w = .ok (.enter f vs) w := by
  obtain ⟨fn, h1, h2, h3⟩ := hs
  have h3' : fn.name ≠ "runtime.NumGoroutine" := by simpa using h3
  simp only [callFunc, Sem.run_bind, run_program, Result.andThen_ok, h1, h3, h2, Bool.false_eq_true, if_false, Sem.run_pure]

/-- A call of a function that only computes. -/
theorem q_call {xs : Array Operand} {ts : Array TypeId} (hop : o.op = .call { callee := .value (.func f), args := xs, argTypes := ts }) (hargs : pvs env H xs.toList = some args) (hc : ACall P f args r) : QStep P g H o env (.pv r) := by
  refine ⟨fun K ρ a w hf hv => ?_⟩
  have hp := pvs_rel hf (a := a) (xs := xs.toList) (fun x hx => hv x (by rw [hop]; simp [Op.operands, Call.operands]; exact .inr (by simpa using hx))) hargs
  have : (execOp a.eval o).run P w = .ok (.enter f (xs.toList.map a.eval).toArray) w := by
    have e : (xs.toList.map a.eval).toArray = xs.map a.eval := by rw [← Array.toList_map, Array.toArray_toList]
    rw [e]
    simp [execOp, hop, resolve, Act.eval, Deferred.ofValue, invoke, call_run hc.stands]
  rw [this]
  refine ⟨rfl, (hc.calls K w _ hf.lt hp).mono fun e w'' ⟨v, K', h1, h2, h3⟩ => ⟨v, K', h1, h2, .pv _ _ h3⟩⟩

/-- A call of a function value. -/
theorem q_callv {t : Tmp} {xs : Array Operand} {ts : Array TypeId} {first cap ps : List PV} (hop : o.op = .call { callee := .value (.tmp t), args := xs, argTypes := ts }) (ht : env.get t = some (.pv (.fn (.func f) first cap))) (hargs : pvs env H xs.toList = some ps)
    (hc : ACall P f (first ++ ps ++ cap) r) : QStep P g H o env (.pv r) := by
  refine ⟨fun K ρ a w hf hv => ?_⟩
  have hp := pvs_rel hf (a := a) (xs := xs.toList) (fun x hx => hv x (by rw [hop]; simp [Op.operands, Call.operands]; exact .inr (by simpa using hx))) hargs
  have hfn := hv (.tmp t) (by rw [hop]; simp [Op.operands, Call.operands]) _ ht
  generalize hfv : a.eval (.tmp t) = fv at hfn
  cases hfn with
  | pv _ _ hq =>
    cases hq with
    | fn _ _ _ vf vc h1 h2 h3 h4 =>
      have : (execOp a.eval o).run P w = .ok (.enter f (vf ++ xs.toList.map a.eval ++ vc).toArray) w := by
        have e : (vf ++ xs.toList.map a.eval ++ vc).toArray = vf.toArray ++ xs.map a.eval ++ vc.toArray := by
          rw [show xs.map a.eval = (xs.toList.map a.eval).toArray by rw [← Array.toList_map, Array.toArray_toList]]
          simp
        rw [e]
        simp [execOp, hop, resolve, hfv, Deferred.ofValue, invoke, call_run hc.stands]
      rw [this]
      refine ⟨rfl, (hc.calls K w _ hf.lt ((PRels.append ⟨h1, h3⟩ hp).append ⟨h2, h4⟩)).mono fun e w'' ⟨v, K', h1, h2, h3⟩ => ⟨v, K', h1, h2, .pv _ _ h3⟩⟩

/-- The address of an element of a slice. -/
theorem q_index {t e : TypeId} {x i : Operand} {sz : Nat} {es : List PV} {full : Bool} {k : IntKind} {m : Int} {p : PV} (htb : TabOK P tb) (hop : o.op = .indexAddr t x i) (hk : tb.k t = .sl e) (hke : tb.known e = true) (hsz : tb.size e = sz)
    (hx : env.pv H x = some (.slc sz es full)) (hi : env.pv H i = some (.base (.int k m))) (h0 : 0 ≤ m) (he : es[m.toNat]? = some p) : QStep P g H o env (.pv (.ptr p 0)) := by
  refine ⟨fun K ρ a w hf hv => ?_⟩
  have hxr := opE_pv hf (hv x (by rw [hop]; simp [Op.operands])) hx
  have hir := opE_pv hf (hv i (by rw [hop]; simp [Op.operands])) hi
  generalize hxv : a.eval x = xv at hxr
  generalize hiv : a.eval i = iv at hir
  cases hir
  have hko : tb.k e ≠ .oth := by intro h; simp [Tab.known, h] at hke
  have hs := run_sizeOf htb hko w
  have hlt : m.toNat < es.length := (List.getElem?_eq_some_iff.1 he).1
  cases hxr with
  | nil => simp at hlt
  | emp => simp at hlt
  | slc _ _ _ b off cap vss h1 h2 h3 h4 h5 h6 h7 =>
    have : (execOp a.eval o).run P w = .ok (.value (.pointer (some ⟨b, off + m.toNat * sz, none⟩))) w := by
      have hlt' : m < (es.length : Int) := by omega
      simp [execOp, hop, hxv, hiv, Instr.indexAt, asIntOf, run_underlying (tab_sl htb hk), h0, hlt', hs, hsz, Addr.add_lit]
    rw [this]
    refine qval hf (.pv _ _ ?_)
    obtain ⟨e1, e2, e3⟩ := h6 _ p he
    have := PRel.ptr (K := K) (w := w) p 0 b (off + m.toNat * sz) (vss m.toNat) (by omega) e3 (fun k c v hc hv => h7 _ p k c v he hc hv)
    simpa using this
end
end Go.Cg
