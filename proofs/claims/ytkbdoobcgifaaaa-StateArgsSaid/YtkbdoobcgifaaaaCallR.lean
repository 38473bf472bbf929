/- Calls that hand back a row of the caller's own from then on. -/
import Derived.Test.YtkbdoobcgifaaaaData
namespace Go.Cg
open Go.RowKit

structure ACallR (P : Program) (f : FuncId) (args : List PV) (e : TypeId) (sz : Nat) (es : List PV) : Prop where
  stands : Stands P f
  calls : ∀ (K : KK) (w : World) (vs : List Value), (∀ b o, K b o → b < w.heap.size) → PRels K w args vs →
    Calls P f vs.toArray w fun ex w' => ∃ v K' xs, ex = .returned v ∧ Evo K K' w w' ∧ w'.ownsRow w.heap.size e sz v es.length xs ∧ CellsRel K' w' sz es xs ∧ (∀ b, v.ownBlock = some b → ∀ o, K' b o ↔ o < es.length * sz)

section
variable {P : Program} {tb : Tab} {n : Nat} {g : Base} {H : HEnv} {env : Env} {ops : List Oper} {o : Oper} {rest : List Oper} {Q : Env → HEnv → Prop}

theorem ownsRow_lower {w : World} {B B' : Nat} {e : TypeId} {sz : Nat} {v : Value} {n : Nat} {xs : List Value} (hB : B' ≤ B) (h : w.ownsRow B e sz v n xs) : w.ownsRow B' e sz v n xs := by
  obtain ⟨h1, h2⟩ := h
  refine ⟨h1, h2.imp id ?_⟩
  rintro ⟨g, cap, cur, a, b, c⟩
  exact ⟨g, cap, cur, a, Nat.le_trans hB b, c⟩

theorem ao_callR {xs : Array Operand} {ts : Array TypeId} {f : FuncId} {args es : List PV} {e : TypeId} {sz t : Nat} (i : Nat) (hg : guardE ops env o = some true) (hop : o.op = .call { callee := .value (.func f), args := xs, argTypes := ts }) (hargs : pvs env H xs.toList = some args)
    (hc : ACallR P f args e sz es) (h0 : 0 < sz) (hi : H.get i = none) (hd : o.dst = some t) (ht : Nat.blt t n = true)
    (h : AO P n g ops.toArray rest ((t, .own i) :: env) ((i, .row e sz es) :: H) Q) : AO P n g ops.toArray (o :: rest) env H Q := by
  refine ⟨fun a w hinv => ?_⟩
  have hw := wanted_of hinv hg
  obtain ⟨h1, h2, K, ρ, hf, he⟩ := hinv
  refine wpList_step fun KK hKK => ?_
  rw [if_pos hw]
  have hp := pvs_rel hf (a := a) (xs := xs.toList) (fun x hx av hxx => val_rel he hxx) hargs
  have hrun : (execOp a.eval o).run P w = .ok (.enter f (xs.toList.map a.eval).toArray) w := by
    have e : (xs.toList.map a.eval).toArray = xs.map a.eval := by rw [← Array.toList_map, Array.toArray_toList]
    rw [e]
    simp [execOp, hop, resolve, Act.eval, Deferred.ofValue, invoke, call_run hc.stands]
  unfold Oper.wp
  rw [hrun]
  simp only [Oper.upon]
  refine (hc.calls K w _ hf.lt hp).mono ?_
  rintro ex w'' ⟨v, K', us, rfl, hev, hown, hcr, hk⟩
  have hlow := ownsRow_lower hf.below.size hown
  refine hKK _ _ (h.go _ _ ⟨put_size h1, put_defers h2, K', fun j => if j = i then v else ρ j, hf.fresh hev hi ⟨us, by simpa using hlow, h0, hcr, by simpa using hk⟩ ?_, ?_⟩)
  · intro b hb
    refine (hown.lt b ?_).1
    rcases hown.2 with ⟨rfl, _⟩ | ⟨g, _, _, rfl, _⟩
    · simp [blockOf] at hb
    · simpa [blockOf, Value.ownBlock] using hb
  · rw [hd]
    refine env_put h1 ht (he.keeps (hev.later hf.lt) (fresh_keeps hi _ _)) ?_
    have := ARel.own (K := K') (w := w'') (ρ := fun j => if j = i then v else ρ j) (H := (i, HE.row e sz es) :: H) i (by simp [HEnv.get_nil, HEnv.get_cons])
    simpa using this

/-- An empty literal is a row of the call's own. -/
theorem ao_slice0 (htb : TabOK P tb) {t e d : Nat} {parts : Array (Nat × Operand)} (i : Nat) (hg : guardE ops env o = some true) (hop : o.op = .buildSlice t 0 parts) (hp : parts = #[]) (hk : tb.k t = .sl e) (hke : tb.known e = true) (hsz : Nat.blt 0 (tb.size e) = true) (hi : H.get i = none) (hd : o.dst = some d) (ht : Nat.blt d n = true)
    (h : AO P n g ops.toArray rest ((d, .own i) :: env) ((i, .row e (tb.size e) []) :: H) Q) : AO P n g ops.toArray (o :: rest) env H Q := by
  refine ⟨fun a w hinv => ?_⟩
  have hw := wanted_of hinv hg
  obtain ⟨h1, h2, K, ρ, hf, he⟩ := hinv
  refine wpList_step fun KK hKK => ?_
  rw [if_pos hw]
  subst hp
  have hko : tb.k e ≠ .oth := by intro h; simp [Tab.known, h] at hke
  have hs := run_sizeOf htb hko w
  have hrun : (execOp a.eval o).run P w = .ok (.value (.slice (some ⟨w.heap.size, 0, none⟩) 0 0)) (w.alloc (.cells #[] e)) := by
    have e0 : Array.range 0 = #[] := Array.eq_empty_of_size_eq_zero (by simp)
    simp [execOp, hop, Instr.buildSlice, run_underlying (tab_sl htb hk), hs, Instr.fill, newRow, e0]
  unfold Oper.wp
  rw [hrun]
  simp only [Oper.upon]
  have hev : Evo K K w (w.alloc (.cells #[] e)) := ⟨(Below.refl _ _).alloc (Nat.le_refl _) _, fun _ _ h => h, fun _ _ h => .inl h, fun b o h => by have := hf.lt b o h; simp; omega⟩
  refine hKK _ _ (h.go _ _ ⟨put_size h1, put_defers h2, K, fun j => if j = i then .slice (some ⟨w.heap.size, 0, none⟩) 0 0 else ρ j, hf.fresh hev hi ⟨[], ⟨by simp, .inr ⟨w.heap.size, 0, #[], by simp, hf.below.size, heap_alloc_new w _, Nat.le_refl _, by simp [maxLen], by simp, by simp⟩⟩, Nat.le_of_ble_eq_true hsz, fun i e h => by simp at h, ?_⟩ (by simp [blockOf]), ?_⟩)
  · intro b hb o
    simp [Value.ownBlock] at hb
    subst hb
    refine ⟨fun h => ?_, fun h => by simp at h⟩
    have := hf.lt _ _ h
    omega
  · rw [hd]
    refine env_put h1 ht (he.keeps (hev.later hf.lt) (fresh_keeps hi _ _)) ?_
    have := ARel.own (K := K) (w := w.alloc (.cells #[] e)) (ρ := fun j => if j = i then .slice (some ⟨w.heap.size, 0, none⟩) 0 0 else ρ j) (H := (i, HE.row e (tb.size e) []) :: H) i (by simp [HEnv.get_nil, HEnv.get_cons])
    simpa using this

/-- The end of a body that hands back a row of its own. -/
def RetR (t : Nat) (e : TypeId) (sz : Nat) (es : List PV) : QC := fun ex env H => (ex = .normal ∨ ex = .ret) ∧ ∃ i, env.get t = some (.own i) ∧ H.get i = some (.row e sz es)

theorem acallR_intro {fn : Func} {c : Code} {f : FuncId} {args : List PV} {t : Nat} {e : TypeId} {sz : Nat} {es : List PV} (hf : P.funcs[f]? = some fn) (hb : fn.body = some c) (hn : (fn.name == "runtime.NumGoroutine") = false) (hnt : fn.ntmps = n) (hargs : args.length ≤ n)
    (hrs : fn.results.toList = [.tmp t]) (h : lensOk args → ∀ g, AW P n g c (argsE 0 args) [] (RetR t e sz es)) : ACallR P f args e sz es := by
  refine ⟨⟨fn, hf, by simp [hb], hn⟩, fun K w vs hl hv => ?_⟩
  refine calls_of_wp hf hb ?_
  have hlen : vs.length = args.length := hv.1
  refine wp_mono ((h hv.lensOk ⟨w, K⟩).go _ w ⟨by simp [hnt]; omega, rfl, K, fun _ => undef, ⟨.refl _ _, fun _ _ h => h, fun _ _ h => .inl h, hl, ⟨by simp [HEnv.get_nil, HEnv.get_cons], by simp [HEnv.get_nil, HEnv.get_cons]⟩⟩, ?_⟩) ?_
  · intro t av hg
    obtain ⟨_, p, hp, rfl⟩ := argsE_get args 0 t av hg
    have hlt : t < vs.length := by rw [hlen]; exact (List.getElem?_eq_some_iff.1 hp).1
    refine ⟨vs[t], ?_, .pv _ _ (hv.2 t p _ hp (List.getElem?_eq_getElem hlt))⟩
    rw [Array.getElem?_append_left (by simpa using hlt)]
    simp [hlt]
  · rintro ex a' w' ⟨env1, H', hi, he, i, hgi, hHi⟩
    obtain ⟨_, h2, K', ρ', hf', he0⟩ := hi
    obtain ⟨v, v1, v2⟩ := he0 t _ hgi
    cases v2
    obtain ⟨xs, hown, hsz, hcr, hk⟩ := hf'.heap.ok i _ hHi
    have hev : Evo K K' w w' := ⟨hf'.below, hf'.old, hf'.new, hf'.lt⟩
    have hres : (results fn a'.tmps).run P w' = .ok (ρ' i) w' := by
      unfold results
      rw [Array.mapM_eq_mapM_toList, hrs]
      simp [Array.getD_eq_getD_getElem?, v1]
    rcases he with rfl | rfl
    · exact ⟨h2, _, hres, _, K', xs, rfl, hev, hown, hcr, hk⟩
    · exact ⟨h2, _, hres, _, K', xs, rfl, hev, hown, hcr, hk⟩
end
end Go.Cg
