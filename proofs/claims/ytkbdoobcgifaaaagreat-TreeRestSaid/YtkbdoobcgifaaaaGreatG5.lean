/- A part of the walks by abstract values: no statement of its own. -/
import Derived.Test.YtkbdoobcgifaaaaGreatG4
import Derived.Maps.Own
import Derived.Maps.Views
/- Calls that turn what the caller owns: closures. Maps of the call's own. -/
namespace Go.Cg
open Go.RowKit Go.Maps Go.WideElems

/-! ## What the caller keeps, pinned -/
def pinsOf (us : Nat → Value) : Nat → Env → HEnv
  | _, [] => []
  | b, (t, av) :: e => (b, .pin av (us t)) :: pinsOf us (b + 1) e
def noDup : Env → Bool
  | [] => true
  | (t, _) :: e => (Env.get e t).isNone && noDup e
def idsLt (b : Nat) : HEnv → Bool
  | [] => true
  | (i, _) :: e => Nat.blt i b && idsLt b e

theorem get_append {H G : HEnv} {i : Nat} : HEnv.get (H ++ G) i = match HEnv.get H i with | some h => some h | none => HEnv.get G i := by
  induction H with
  | nil => rfl
  | cons x H ih =>
    obtain ⟨j, h⟩ := x
    rw [List.cons_append, HEnv.get_cons, HEnv.get_cons]
    split
    · rfl
    · exact ih
theorem idsLt_get {b : Nat} : ∀ {H : HEnv}, idsLt b H = true → ∀ i h, H.get i = some h → i < b
  | [], _, i, h, hg => by simp [HEnv.get_nil] at hg
  | (j, x) :: e, hi, i, h, hg => by
    simp only [idsLt, Bool.and_eq_true] at hi
    rw [HEnv.get_cons] at hg
    split at hg
    · rename_i e'; subst e'; exact Nat.le_of_ble_eq_true hi.1
    · exact idsLt_get hi.2 i h hg
theorem pins_get {us : Nat → Value} : ∀ {e : Env} {b i : Nat} {h : HE}, HEnv.get (pinsOf us b e) i = some h → b ≤ i ∧ ∃ t av, (t, av) ∈ e ∧ h = .pin av (us t)
  | [], b, i, h, hg => by simp [pinsOf, HEnv.get_nil] at hg
  | (t, av) :: e, b, i, h, hg => by
    rw [pinsOf, HEnv.get_cons] at hg
    split at hg
    · rename_i e'; subst e'
      simp only [Option.some.injEq] at hg; subst hg
      exact ⟨Nat.le_refl _, t, av, by simp, rfl⟩
    · obtain ⟨h1, t', av', h2, h3⟩ := pins_get hg
      exact ⟨by omega, t', av', by simp [h2], h3⟩
theorem pins_mem {us : Nat → Value} : ∀ {e : Env} {b : Nat} {t : Nat} {av : AV}, (t, av) ∈ e → ∃ i, b ≤ i ∧ HEnv.get (pinsOf us b e) i = some (.pin av (us t))
  | [], b, t, av, h => by simp at h
  | (t', av') :: e, b, t, av, h => by
    simp only [List.mem_cons, Prod.mk.injEq] at h
    rcases h with ⟨rfl, rfl⟩ | h
    · exact ⟨b, Nat.le_refl _, by rw [pinsOf, HEnv.get_cons, if_pos rfl]⟩
    · obtain ⟨i, h1, h2⟩ := pins_mem (b := b + 1) h
      exact ⟨i, by omega, by rw [pinsOf, HEnv.get_cons, if_neg (by omega)]; exact h2⟩
theorem env_mem : ∀ {e : Env} {t : Nat} {av : AV}, e.get t = some av → (t, av) ∈ e
  | [], t, av, h => by simp [Env.get_nil] at h
  | (t', av') :: e, t, av, h => by
    rw [Env.get_cons] at h
    split at h
    · rename_i e'; subst e'; simp only [Option.some.injEq] at h; subst h; simp
    · simp [env_mem h]
theorem env_get_of : ∀ {e : Env}, noDup e = true → ∀ {t : Nat} {av : AV}, (t, av) ∈ e → e.get t = some av
  | [], _, t, av, h => by simp at h
  | (t', av') :: e, hn, t, av, h => by
    simp only [noDup, Bool.and_eq_true, Option.isNone_iff_eq_none] at hn
    rw [Env.get_cons]
    simp only [List.mem_cons, Prod.mk.injEq] at h
    rcases h with ⟨rfl, rfl⟩ | h
    · simp
    · have := env_get_of hn.2 h
      split
      · rename_i e'; subst e'; rw [hn.1] at this; cases this
      · exact this

def ARels (K : KK) (w : World) (ρ : Nat → Value) (H : HEnv) (as : List AV) (vs : List Value) : Prop :=
  vs.length = as.length ∧ ∀ (k : Nat) (c : AV) (v : Value), as[k]? = some c → vs[k]? = some v → ARel K w ρ H c v

/-- The contract of a function that turns what its caller owns, and answers nothing. -/
structure ACallH (P : Program) (f : FuncId) (args : List AV) (H H' : HEnv) : Prop where
  stands : Stands P f
  calls : ∀ (g : Base) (K : KK) (ρ : Nat → Value) (w : World) (vs : List Value), FS g K ρ H w → ARels K w ρ H args vs →
    Calls P f vs.toArray w fun e w' => ∃ K' ρ', e = .returned (.tuple #[]) ∧ FS g K' ρ' H' w'

def argsEA : Nat → List AV → Env
  | _, [] => []
  | k, p :: ps => (k, p) :: argsEA (k + 1) ps
/-- The end of such a body. -/
def RetH (H' : HEnv) : QC := fun ex _ H => (ex = .normal ∨ ex = .ret) ∧ HFit H H' []

section
variable {P : Program} {tb : Tab} {n : Nat} {g : Base} {K : KK} {w : World} {ρ : Nat → Value} {H H' : HEnv} {env : Env} {a : Act} {ops : List Oper} {o : Oper} {rest : List Oper} {Q : Env → HEnv → Prop} {f : FuncId} {args : List AV}

theorem argsEA_get : ∀ (ps : List AV) (k t : Nat) (av : AV), (argsEA k ps).get t = some av → k ≤ t ∧ ps[t - k]? = some av
  | [], k, t, av, h => by simp [argsEA, Env.get_nil] at h
  | p :: ps, k, t, av, h => by
    simp only [argsEA, Env.get_cons] at h
    split at h
    · rename_i e; subst e; simp only [Option.some.injEq] at h; exact ⟨Nat.le_refl _, by simp [h]⟩
    · obtain ⟨h1, h2⟩ := argsEA_get ps (k + 1) t av h
      refine ⟨by omega, ?_⟩
      rw [show t - k = (t - (k + 1)) + 1 by omega]
      simpa using h2

theorem acallH_intro {fn : Func} {c : Code} (hf : P.funcs[f]? = some fn) (hb : fn.body = some c) (hn : (fn.name == "runtime.NumGoroutine") = false) (hnt : fn.ntmps = n) (hargs : args.length ≤ n) (hrs : fn.results = #[])
    (h : ∀ g, AW P n g c (argsEA 0 args) H (RetH H')) : ACallH P f args H H' := by
  refine ⟨⟨fn, hf, by simp [hb], hn⟩, fun g K ρ w vs hfs hv => ?_⟩
  refine calls_of_wp hf hb ?_
  have hlen : vs.length = args.length := hv.1
  refine wp_mono ((h g).go _ w ⟨by simp [hnt]; omega, rfl, K, ρ, hfs, ?_⟩) ?_
  · intro t av hg
    obtain ⟨_, hp⟩ := argsEA_get args 0 t av hg
    have hlt : t < vs.length := by rw [hlen]; exact (List.getElem?_eq_some_iff.1 hp).1
    refine ⟨vs[t], ?_, hv.2 t av _ hp (List.getElem?_eq_getElem hlt)⟩
    rw [Array.getElem?_append_left (by simpa using hlt)]
    simp [hlt]
  · rintro e a' w' ⟨env1, H1, hi, he, hfit⟩
    have hi2 : Inv n g [] H' a' w' := (hi.sub sub_nil).hsub hfit
    obtain ⟨_, h2, K', ρ', hf', _⟩ := hi2
    have hres : (results fn a'.tmps).run P w' = .ok (.tuple #[]) w' := by
      unfold results
      rw [hrs, Array.mapM_eq_mapM_toList]
      rfl
    rcases he with rfl | rfl
    · exact ⟨h2, _, hres, K', ρ', rfl, hf'⟩
    · exact ⟨h2, _, hres, K', ρ', rfl, hf'⟩

def avs (env : Env) : List Operand → Option (List AV)
  | [] => some []
  | x :: xs => match env.val x, avs env xs with | some v, some vs => some (v :: vs) | _, _ => none
theorem avs_rel (he : EnvR K w ρ H env a.tmps) : ∀ {xs : List Operand} {as : List AV}, avs env xs = some as → ARels K w ρ H as (xs.map a.eval)
  | [], as, h => by simp [avs] at h; subst h; exact ⟨rfl, fun k c v h => by simp at h⟩
  | x :: xs, as, h => by
    simp only [avs] at h
    split at h
    · rename_i v vs h1 h2
      simp only [Option.some.injEq] at h; subst h
      obtain ⟨l1, l2⟩ := avs_rel he h2
      refine ⟨by simpa using l1, fun k c u hc hu => ?_⟩
      cases k with
      | zero => simp at hc hu; subst hc hu; exact val_rel he h1
      | succ k => simp at hc hu; exact l2 k c u hc (by simpa using hu)
    · cases h

theorem isSome_append {G : HEnv} (j : Nat) (h : (H.get j).isSome = true) : (HEnv.get (H ++ G) j).isSome = true := by
  rw [get_append]
  cases hh : H.get j with
  | none => simp [hh] at h
  | some x => rfl

/-- A call of a closure of the call's own: it turns what is owned; the frame is told anew behind it. -/
theorem ao_callH {t d : Tmp} {xs : Array Operand} {ts : Array TypeId} {first cap as : List AV} (env2 : Env) (H' : HEnv) (b : Nat) (hg : guardE ops env o = some true) (hop : o.op = .call { callee := .value (.tmp t), args := xs, argTypes := ts })
    (ht : env.get t = some (.fn (.func f) first cap)) (hargs : avs env xs.toList = some as) (hs : Sub env env2) (hnd : noDup env2 = true) (hb : idsLt b H = true) (hb' : idsLt b H' = true)
    (hfit : (envIn H' env2 && hIn H' H') = true) (hd : o.dst = some d) (hdt : Nat.blt d n = true)
    (hc : ∀ us, ACallH P f (first ++ as ++ cap) (H ++ pinsOf us b env2) (H' ++ pinsOf us b env2))
    (h : AO P n g ops.toArray rest ((d, .pv (.tup [])) :: env2) H' Q) : AO P n g ops.toArray (o :: rest) env H Q := by
  refine ⟨fun a w hinv => ?_⟩
  have hw := wanted_of hinv hg
  have hinv2 := hinv.sub hs
  obtain ⟨h1, h2, K, ρ, hf, he⟩ := hinv
  have he2 : EnvR K w ρ H env2 a.tmps := fun t av ht => he t av (hs t av ht)
  refine wpList_step fun KK hKK => ?_
  rw [if_pos hw]
  let us : Nat → Value := fun t => a.tmps.getD t undef
  have hus : ∀ t av, (t, av) ∈ env2 → ARel K w ρ H av (us t) := by
    intro t av hm
    obtain ⟨v, v1, v2⟩ := he2 t av (env_get_of hnd hm)
    have : us t = v := by simp [us, Array.getD_eq_getD_getElem?, v1]
    rw [this]; exact v2
  have hlat : Later K K w w := .refl K w
  have hk : ∀ j, (H.get j).isSome = true → (HEnv.get (H ++ pinsOf us b env2) j).isSome = true ∧ ρ j = ρ j := fun j hj => ⟨isSome_append j hj, rfl⟩
  have hfs : FS g K ρ (H ++ pinsOf us b env2) w := by
    refine ⟨hf.below, hf.old, hf.new, hf.lt, ?_, ?_⟩
    · intro i e hi
      rw [get_append] at hi
      cases hh : H.get i with
      | some x => rw [hh] at hi; simp only [Option.some.injEq] at hi; subst hi; exact (hf.heap.ok i _ hh).keeps (.refl hf.lt) hf.lt hk
      | none =>
        rw [hh] at hi
        obtain ⟨_, t, av, hm, rfl⟩ := pins_get hi
        exact (hus t av hm).keeps hlat hk
    · intro i j x y bb hij hi hj lx ly bx bby
      have e1 : ∀ i x, HEnv.get (H ++ pinsOf us b env2) i = some x → x.live = true → H.get i = some x := by
        intro i x hi hl
        rw [get_append] at hi
        cases hh : H.get i with
        | some z => rw [hh] at hi; exact hi
        | none =>
          rw [hh] at hi
          obtain ⟨_, t, av, hm, rfl⟩ := pins_get hi
          simp [HE.live] at hl
      exact hf.heap.apart i j x y bb hij (e1 i x hi lx) (e1 j y hj ly) lx ly bx bby
  have hfn := val_rel he (x := .tmp t) ht
  generalize hfv : a.eval (.tmp t) = fv at hfn
  cases hfn with
  | fn _ _ _ vf vc f1 f2 f3 f4 =>
    have hpa := avs_rel (a := a) he hargs
    have hall : ARels K w ρ (H ++ pinsOf us b env2) (first ++ as ++ cap) (vf ++ xs.toList.map a.eval ++ vc) := by
      refine ⟨by have := hpa.1; simp at this; simp [f1, f2, this], fun k c v hc hv => ?_⟩
      have : ARel K w ρ H c v := by
        rw [List.append_assoc, List.getElem?_append] at hc hv
        split at hc
        · rename_i hl
          rw [if_pos (by omega)] at hv
          exact f3 k c v hc hv
        · rename_i hl
          rw [if_neg (by omega)] at hv
          rw [f1] at hv
          rw [List.getElem?_append] at hc hv
          have e : (xs.toList.map a.eval).length = as.length := hpa.1
          split at hc
          · rename_i hl2
            rw [if_pos (by omega)] at hv
            exact hpa.2 _ c v hc hv
          · rename_i hl2
            rw [if_neg (by omega), e] at hv
            exact f4 _ c v hc hv
      exact this.keeps hlat hk
    have hrun : (execOp a.eval o).run P w = .ok (.enter f (vf ++ xs.toList.map a.eval ++ vc).toArray) w := by
      have e : (vf ++ xs.toList.map a.eval ++ vc).toArray = vf.toArray ++ xs.map a.eval ++ vc.toArray := by
        rw [show xs.map a.eval = (xs.toList.map a.eval).toArray by rw [← Array.toList_map, Array.toArray_toList]]
        simp
      rw [e]
      simp [execOp, hop, resolve, hfv, Deferred.ofValue, invoke, call_run (hc us).stands]
    unfold Oper.wp
    rw [hrun]
    simp only [Oper.upon]
    refine ((hc us).calls g K ρ w _ hfs hall).mono fun e w'' ⟨K', ρ', e1, hfs'⟩ => ?_
    subst e1
    have hinv' : Inv n g env2 (H' ++ pinsOf us b env2) a w'' := by
      refine ⟨h1, h2, K', ρ', hfs', fun t av ht => ?_⟩
      obtain ⟨i, hi1, hi2⟩ := pins_mem (us := us) (b := b) (env_mem ht)
      have hno : H'.get i = none := by
        cases hh : H'.get i with
        | none => rfl
        | some x => have := idsLt_get hb' i x hh; omega
      have hget : HEnv.get (H' ++ pinsOf us b env2) i = some (.pin av (us t)) := by rw [get_append, hno]; exact hi2
      have hrel := hfs'.heap.ok i _ hget
      obtain ⟨v, v1, _⟩ := he2 t av ht
      have : us t = v := by simp [us, Array.getD_eq_getD_getElem?, v1]
      exact ⟨v, v1, by rw [← this]; exact hrel⟩
    have hinv3 : Inv n g env2 H' a w'' := hinv'.hsub ⟨fun i x hi => by rw [get_append, hi], hfit⟩
    obtain ⟨q1, q2, K3, ρ3, q3, q4⟩ := hinv3
    refine hKK _ _ (h.go _ _ ⟨put_size q1, put_defers q2, K3, ρ3, q3, ?_⟩)
    rw [hd]
    exact env_put q1 hdt q4 (.pv _ _ (.tup [] [] rfl (by simp)))
end
end Go.Cg
/- A map of the call's own, from numbers to 1: a set. -/
namespace Go.Cg
open Go.RowKit Go.Maps Go.WideElems Go.ChangeMaps Go.MapKept

def MapSet (P : Program) (kt et : TypeId) (met : List Int) (o : Obj) : Prop :=
  ∃ es clock, o = .map es clock ∧ Fit (H := Unit) P kt (plainElem P et) es clock ∧ es.size ≤ met.length ∧
    ∀ x, (Lit.int .i64 x).wf = true → (DataW.map ((es.toList.map (rg P kt (plainElem (H := Unit) P et))).foldr DataW.insert [])).atKey (.int .i64 x) (.lit (.int .i64 0)) = .lit (.int .i64 (if x ∈ met then 1 else 0))

section
variable {P : Program} {tb : Tab} {n : Nat} {g : Base} {K : KK} {w : World} {ρ : Nat → Value} {H : HEnv} {env : Env} {a : Act} {ops : List Oper} {o : Oper} {rest : List Oper} {Q : Env → HEnv → Prop}

theorem mapSet_nil (kt et : TypeId) : MapSet P kt et [] (.map #[] 0) :=
  ⟨#[], 0, rfl, ⟨by simp, stamped_empty 0, by simp⟩, Nat.le_refl _, fun x _ => by simp; rfl⟩

theorem ao_makeMap {t kt et d : Nat} (i : Nat) (hg : guardE ops env o = some true) (hop : o.op = .makeMap t none) (hi : H.get i = none) (hd : o.dst = some d) (ht : Nat.blt d n = true)
    (h : AO P n g ops.toArray rest ((d, .own i) :: env) ((i, .obj (MapSet P kt et [])) :: H) Q) : AO P n g ops.toArray (o :: rest) env H Q := by
  refine ⟨fun a w hinv => ?_⟩
  have hw := wanted_of hinv hg
  obtain ⟨h1, h2, K, ρ, hf, he⟩ := hinv
  refine wpList_step fun KK hKK => ?_
  rw [if_pos hw]
  have hrun : (execOp a.eval o).run P w = .ok (.value (.map (some w.heap.size))) (w.alloc (.map #[] 0)) := by
    simp [execOp, hop, run_makeMap]
  unfold Oper.wp
  rw [hrun]
  simp only [Oper.upon]
  have hev : Evo K K w (w.alloc (.map #[] 0)) := ⟨(Below.refl _ _).alloc (Nat.le_refl _) _, fun _ _ h => h, fun _ _ h => .inl h, fun b o h => by have := hf.lt b o h; simp; omega⟩
  refine hKK _ _ (h.go _ _ ⟨put_size h1, put_defers h2, K, fun j => if j = i then .map (some w.heap.size) else ρ j, hf.fresh hev hi ⟨w.heap.size, .map #[] 0, rfl, hf.below.size, heap_alloc_new w _, mapSet_nil kt et, fun o ho => by have := hf.lt _ o ho; omega⟩ (by simp [blockOf]), ?_⟩)
  rw [hd]
  have := ARel.own (K := K) (w := w.alloc (.map #[] 0)) (ρ := fun j => if j = i then .map (some w.heap.size) else ρ j) (H := (i, HE.obj (MapSet P kt et [])) :: H) i (by simp [HEnv.get_cons])
  exact env_put h1 ht (he.keeps (hev.later hf.lt) (fresh_keeps hi _ _)) (by simpa using this)

theorem owns_of {kt et : TypeId} {met : List Int} {b : Nat} {ob : Obj} (hb : w.heap[b]? = some ob) (h : MapSet P kt et met ob) :
    ∃ D : DataW Unit, w.ownsMap P kt (plainElem P et) b met.length D ∧ ∀ x, (Lit.int .i64 x).wf = true → D.atKey (.int .i64 x) (.lit (.int .i64 0)) = .lit (.int .i64 (if x ∈ met then 1 else 0)) := by
  obtain ⟨es, clock, rfl, F, hs, hat⟩ := h
  exact ⟨_, ⟨es, clock, hb, F, hs, rfl⟩, hat⟩

theorem tab_map {t kt et : Nat} (htb : TabOK P tb) (h : tb.k t = .map kt et) : P.underlying t = some (.map kt et) := by
  obtain ⟨d, i, h1, _, _, h2⟩ := tab_und htb h (by simp)
  cases d <;> simp [tkOf] at h2
  obtain ⟨rfl, rfl⟩ := h2; exact h1
theorem q_lookup {t kt et : Nat} {m x : Operand} {i : Nat} {met : List Int} {k : Int} (htb : TabOK P tb) (hop : o.op = .lookup t m x false) (hk : tb.k t = .map kt et) (hkt : tb.k kt = .int .i64) (het : tb.k et = .int .i64) (hz : tb.zero et = some (.int .i64 0))
    (hm : env.val m = some (.own i)) (hi : H.get i = some (.obj (MapSet P kt et met))) (hx : env.pv H x = some (.base (.int .i64 k))) (hwf : (Lit.int .i64 k).wf = true) :
    QStep P g H o env (.pv (.base (.int .i64 (if k ∈ met then 1 else 0)))) := by
  refine ⟨fun K ρ a w hf hv => ?_⟩
  have hmr := hv m (by rw [hop]; simp [Op.operands]) _ hm
  have hxr := opE_pv hf (hv x (by rw [hop]; simp [Op.operands])) hx
  generalize hmv : a.eval m = mv at hmr
  generalize hxv : a.eval x = xv at hxr
  cases hxr
  obtain ⟨b, ob, hr, hB, hheap, hX, hn⟩ := hf.heap.ok i _ hi
  cases hmr with
  | own _ _ =>
    obtain ⟨D, hown, hat⟩ := owns_of hheap hX
    have hzi : (zeroValue et).run P w = .ok (.int .i64 0) w := by
      unfold Tab.zero at hz
      split at hz
      · rename_i ti hti
        obtain ⟨i, e1, _, _, e4, _⟩ := tab_info htb hti
        simp [zeroValue, typeInfo, e1, e4, hz]
      · cases hz
    obtain ⟨c, hrun, hc, hwc⟩ := hown.lookup_int (t := t) (int_keyed (tab_int htb hkt)) (tab_map htb hk) (tab_int htb het) hzi (keyOf_int_mk (tab_int htb hkt) hwf)
    rw [hat k hwf] at hc
    simp only [DataW.lit.injEq, Lit.int.injEq, true_and] at hc
    subst hc
    have : (execOp a.eval o).run P w = .ok (.value (.int .i64 (if k ∈ met then 1 else 0))) w := by
      rw [← hr] at hrun
      simp [execOp, hop, hmv, hxv, hrun, Result.andThen]
    rw [this]
    exact qval hf (.pv _ _ (.base _ rfl))

theorem q_lookupC {t kt et : Nat} {m x : Operand} {i : Nat} {met : List Int} {k c : Int} (hc : (if k ∈ met then (1 : Int) else 0) = c) (htb : TabOK P tb) (hop : o.op = .lookup t m x false) (hk : tb.k t = .map kt et) (hkt : tb.k kt = .int .i64) (het : tb.k et = .int .i64) (hz : tb.zero et = some (.int .i64 0))
    (hm : env.val m = some (.own i)) (hi : H.get i = some (.obj (MapSet P kt et met))) (hx : env.pv H x = some (.base (.int .i64 k))) (hwf : (Lit.int .i64 k).wf = true) :
    QStep P g H o env (.pv (.base (.int .i64 c))) := by
  subst hc; exact q_lookup htb hop hk hkt het hz hm hi hx hwf
theorem AW.weak {c : Code} {QQ : QC} (env2 : Env) (H2 : HEnv) (hs : Sub env env2) (hf : HFit H H2 env2) (h : AW P n g c env2 H2 QQ) : AW P n g c env H QQ := ⟨fun a w hi => h.go a w ((hi.sub hs).hsub hf)⟩
theorem ao_weak {l : List Oper} (env2 : Env) (H2 : HEnv) (hs : Sub env env2) (hf : HFit H H2 env2) (h : AO P n g ops.toArray l env2 H2 Q) : AO P n g ops.toArray l env H Q := ⟨fun a w hi => h.go a w ((hi.sub hs).hsub hf)⟩

/-- 'm[k] = 1', of a key that is not there. -/
theorem ao_mapUpdate {t kt et : Nat} {m x v : Operand} {i : Nat} {met : List Int} {k : Int} (htb : TabOK P tb) (hg : guardE ops env o = some true) (hop : o.op = .mapUpdate t m x v) (hk : tb.k t = .map kt et) (hkt : tb.k kt = .int .i64) (het : tb.k et = .int .i64)
    (hm : env.val m = some (.own i)) (hi : H.get i = some (.obj (MapSet P kt et met))) (hx : env.pv H x = some (.base (.int .i64 k))) (hv : env.pv H v = some (.base (.int .i64 1))) (hwf : (Lit.int .i64 k).wf = true) (hlen : met.length < maxLen) (hd : o.dst = none)
    (h : AO P n g ops.toArray rest env ((i, .obj (MapSet P kt et (met ++ [k]))) :: H) Q) : AO P n g ops.toArray (o :: rest) env H Q := by
  refine ⟨fun a w hinv => ?_⟩
  have hw := wanted_of hinv hg
  obtain ⟨h1, h2, K, ρ, hf, he⟩ := hinv
  refine wpList_step fun KK hKK => ?_
  rw [if_pos hw]
  have hmr := val_rel he hm
  have hxr := opE_pv (a := a) hf (x := x) (fun av hh => val_rel he hh) hx
  have hvr := opE_pv (a := a) hf (x := v) (fun av hh => val_rel he hh) hv
  generalize hmv : a.eval m = mv at hmr
  generalize hxv : a.eval x = xv at hxr
  generalize hvv : a.eval v = vv at hvr
  cases hxr; cases hvr
  obtain ⟨b, ob, hr, hB, hheap, hX, hnK⟩ := hf.heap.ok i _ hi
  cases hmr with
  | own _ _ =>
    obtain ⟨D, hown, hat⟩ := owns_of hheap hX
    have h1wf : (Lit.int .i64 1).wf = true := by decide
    obtain ⟨w', hrun, hown', hgrow⟩ := hown.update (t := t) (int_keyed (tab_int htb hkt)) (tab_map htb hk) hlen (val := .int .i64 1) (keyOf_int_mk (tab_int htb hkt) hwf) (plainElem_int (tab_int htb het) h1wf)
    have hrun' : (execOp a.eval o).run P w = .ok .skip w' := by
      rw [← hr] at hrun
      simp [execOp, hop, hmv, hxv, hvv, hrun, Result.andThen]
    have hX' : ∃ ob', w'.heap[b]? = some ob' ∧ MapSet P kt et (met ++ [k]) ob' := by
      obtain ⟨es, clock, hb, F, hs, hD⟩ := hown'
      refine ⟨_, hb, es, clock, rfl, F, by simpa using hs, fun y hy => ?_⟩
      rw [← hD]
      by_cases e : y = k
      · subst e
        rw [atKey_put_same hown.isMap (by simp [WideAt.IsKeyLit])]
        simp
      · rw [atKey_put_other (by simpa using e), hat y hy]
        simp [e]
    obtain ⟨ob', hb', hX2⟩ := hX'
    unfold Oper.wp
    rw [hrun']
    simp only [Oper.upon]
    have hlat : Later K K w w' := ⟨fun _ _ h => h, fun b' o hk => by
      have hne : b' ≠ b := by rintro rfl; exact hnK o hk
      exact World.cell?_of_block (hgrow.block b' (hf.lt b' o hk) (by simp [hne]))⟩
    have hkeep : ∀ j, (H.get j).isSome = true → (HEnv.get ((i, .obj (MapSet P kt et (met ++ [k]))) :: H) j).isSome = true ∧ ρ j = ρ j := by
      intro j hj
      refine ⟨?_, rfl⟩
      simp only [HEnv.get_nil, HEnv.get_cons]
      split
      · rfl
      · exact hj
    have hd' : a.put o.dst undef = a := by rw [hd]; rfl
    rw [hd']
    refine hKK _ _ (h.go _ _ ⟨h1, h2, K, ρ, ⟨hf.below.grown hgrow hf.below.size (fun k hk => by simp at hk; omega), hf.old, hf.new, fun b o hk => Nat.lt_of_lt_of_le (hf.lt b o hk) hgrow.size, ?_, ?_⟩, he.keeps hlat hkeep⟩)
    · intro j e hj
      simp only [HEnv.get_nil, HEnv.get_cons] at hj
      split at hj
      · rename_i e'; subst e'
        simp only [Option.some.injEq] at hj; subst hj
        exact ⟨b, ob', hr, hB, hb', hX2, hnK⟩
      · rename_i hne
        by_cases hlive : e.live = true
        · have := (hf.heap.ok j e hj).grown (f := id) hgrow hlat (fun b o h => .inl h) (fun av v h => h.keeps hlat hkeep) hlive (fun b' hb' e' => by
            simp at e'; subst e'
            exact hf.heap.apart i j _ e b hne hi hj rfl hlive (by rw [hr]; rfl) hb')
          cases e <;> exact this
        · cases e <;> simp [HE.live] at hlive
          · trivial
          · exact ARel.keeps hlat hkeep (hf.heap.ok j _ hj)
    · intro j k2 e e' bb hjk hj hk' hlj hlk hbj hbk
      have e1 : ∀ (j : Nat) (hh : HE), HEnv.get ((i, .obj (MapSet P kt et (met ++ [k]))) :: H) j = some hh → hh.live = true → ∃ h0, H.get j = some h0 ∧ h0.live = true := by
        intro j hh hj hl
        rw [HEnv.get_cons] at hj
        split at hj
        · rename_i e'; subst e'; exact ⟨_, hi, rfl⟩
        · exact ⟨hh, hj, hl⟩
      obtain ⟨a1, a2, a3⟩ := e1 j e hj hlj
      obtain ⟨b1, b2, b3⟩ := e1 k2 e' hk' hlk
      exact hf.heap.apart j k2 a1 b1 bb hjk a2 b2 a3 b3 hbj hbk
end
end Go.Cg
