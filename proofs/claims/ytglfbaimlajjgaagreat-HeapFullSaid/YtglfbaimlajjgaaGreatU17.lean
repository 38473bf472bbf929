/- A part of the walks by abstract values: no statement of its own. -/
import Derived.Test.YtglfbaimlajjgaaGreatU7
import Derived.Test.YtglfbaimlajjgaaGreatU16
import Derived.Test.YtglfbaimlajjgaaGreatU14
/- Calls that turn what the caller hands over; all else stays. -/
namespace Go.Cg
open Go.RowKit

/-- The contract of a function that turns what it is handed. -/
structure ACallM (P : Program) (f : FuncId) (args : List AV) (H : HEnv) (r : AV) (H' : HEnv) (lone : Bool := false) : Prop where
  stands : Stands P f
  calls : ∀ (g : Base) (K : KK) (ρ : Nat → Value) (w : World) (vs : List Value), (lone = true → g.w1.heap.size = 0) → FS g K ρ H w → ARels K w ρ H args vs →
    Calls P f vs.toArray w fun e w' => ∃ v K' ρ', e = .returned v ∧ FS g K' ρ' H' w' ∧ ARel K' w' ρ' H' r v
/-- The end of such a body: what it answers is pure, or what a slot holds. -/
def RetM (tb : Tab) (rs : List ResultVar) (r : AV) (H' : HEnv) : QC := fun ex env H => (ex = .normal ∨ ex = .ret) ∧
  ((∃ ps, resEs tb H env rs = some ps ∧ r = .pv (retPV ps) ∧ HFit H H' []) ∨ (∃ t, rs = [.tmp t] ∧ env.get t = some r ∧ HFit H H' [(t, r)]))

section
variable {P : Program} {tb : Tab} {n : Nat} {g : Base} {K K' : KK} {w w' : World} {ρ ρ' : Nat → Value} {H H' : HEnv} {env : Env} {a : Act} {ops : List Oper} {o : Oper} {rest : List Oper} {Q : Env → HEnv → Prop} {f : FuncId} {args : List AV} {r : AV}

theorem FS.narrow {e : Env} (hf : FS g K ρ H w) (hs : HFit H H' e) : FS g K ρ H' w := by
  obtain ⟨hs, hin⟩ := hs
  simp only [Bool.and_eq_true] at hin
  refine ⟨hf.below, hf.old, hf.new, hf.lt, hf.others, hf.pt, fun i h b hi => hf.away i h b (hs i h hi), ?_, ?_⟩
  · intro i h hi
    have := hf.heap.ok i h (hs i h hi)
    cases h with
    | cell v => obtain ⟨b, t, arr, u, h1, h2, h3, h4, h5, h6⟩ := this; exact ⟨b, t, arr, u, h1, h2, h3, h4.refs (hIn_get hin.2 i v hi), h5, h6⟩
    | pin v u => exact ARel.refs this (hIn_getp hin.2 i v u hi)
    | row t sz es => exact this
    | mrow t sz es => exact this
    | dead => exact this
    | obj X => exact this
  · intro i j h h' b hij hi hj
    exact hf.heap.apart i j h h' b hij (hs i h hi) (hs j h' hj)
theorem acallM_intro (htb : TabOK P tb) {fn : Func} {c : Code} (hf : P.funcs[f]? = some fn) (hb : fn.body = some c) (hn : (fn.name == "runtime.NumGoroutine") = false) (hnt : fn.ntmps = n) (hargs : args.length ≤ n) (rs : List ResultVar) (hrs : fn.results.toList = rs)
    {lone : Bool} (h : ∀ g : Base, (lone = true → g.w1.heap.size = 0) → AW P n g c (argsEA 0 args) H (RetM tb rs r H')) : ACallM P f args H r H' lone := by
  refine ⟨⟨fn, hf, by simp [hb], hn⟩, fun g0 K ρ w vs hw1 hfs0 hv => ?_⟩
  obtain ⟨g, hg0⟩ : ∃ g : Base, g = ⟨g0.w0, g0.K0, g0.w1, [], g0.wp, g0.pr⟩ := ⟨_, rfl⟩
  have hfs : FS g K ρ H w := by subst hg0; exact ⟨hfs0.below, hfs0.old, hfs0.new, hfs0.lt, hfs0.others, ⟨hfs0.pt.same, hfs0.pt.kept⟩, hfs0.away, hfs0.heap⟩
  refine calls_of_wp hf hb ?_
  have hlen : vs.length = args.length := hv.1
  refine wp_mono (wpIn_wide.1 ((h g (by subst hg0; exact hw1)).go _ w ⟨by simp [hnt]; omega, by subst hg0; rfl, K, ρ, hfs, ?_⟩ none 0)) ?_
  · intro t av hg
    obtain ⟨_, hp⟩ := argsEA_get args 0 t av hg
    have hlt : t < vs.length := by rw [hlen]; exact (List.getElem?_eq_some_iff.1 hp).1
    refine ⟨vs[t], ?_, hv.2 t av _ hp (List.getElem?_eq_getElem hlt)⟩
    rw [Array.getElem?_append_left (by simpa using hlt)]
    simp [hlt]
  · rintro e a' w' ⟨env1, H1, hi, he, hq⟩
    have key : ∃ v K' ρ', (results fn a'.tmps).run P w' = .ok v w' ∧ a'.defers = [] ∧ FS g0 K' ρ' H' w' ∧ ARel K' w' ρ' H' r v := by
      have back : ∀ {K' : KK} {ρ' : Nat → Value}, FS g K' ρ' H' w' → FS g0 K' ρ' H' w' := fun hf1 => by
        subst hg0; exact ⟨hf1.below, hf1.old, hf1.new, hf1.lt, hf1.others, ⟨hf1.pt.same, hf1.pt.kept⟩, hf1.away, hf1.heap⟩
      rcases hq with ⟨ps, hps, rfl, hfit⟩ | ⟨t, ht, hget, hfit⟩
      · obtain ⟨_, h2, K', ρ', hf', he0⟩ := hi
        obtain ⟨us, hrun, hru⟩ := resEs_rel htb hf' he0 hps
        have hi2 : Inv n g [] H' a' w' := ((⟨‹_›, h2, K', ρ', hf', he0⟩ : Inv n g env1 H1 a' w').sub sub_nil).hsub hfit
        have hres : (results fn a'.tmps).run P w' = .ok (if hh : us.toArray.size = 1 then us.toArray[0] else .tuple us.toArray) w' := by
          unfold results
          rw [Array.mapM_eq_mapM_toList, hrs]
          simp only [Sem.run_bind, Sem.run_map]
          erw [hrun]
          rfl
        have hval : PRel K' w' (retPV ps) (if hh : us.toArray.size = 1 then us.toArray[0] else .tuple us.toArray) := by
          split
          · rename_i hh
            have hl1 := hru.1
            have hu : us.length = 1 := by simpa using hh
            obtain ⟨u, rfl⟩ := List.length_eq_one_iff.1 hu
            obtain ⟨p, rfl⟩ := List.length_eq_one_iff.1 (show ps.length = 1 by omega)
            exact hru.2 0 p u (by simp) (by simp)
          · rename_i hh
            simp at hh
            have : retPV ps = .tup ps := by
              unfold retPV
              split
              · rename_i p; exact absurd (by have := hru.1; simpa using this) hh
              · rfl
            rw [this]
            exact .tup ps us hru.1 hru.2
        have hf2 := FS.narrow hf' hfit
        exact ⟨_, K', ρ', hres, by rw [h2]; subst hg0; rfl, back hf2, .pv _ _ hval⟩
      · obtain ⟨h1, h2, K', ρ', hf', he0⟩ := hi
        obtain ⟨v, hv1, hv2⟩ := he0 t r hget
        have hf2 := FS.narrow hf' hfit
        have hin := hfit.2
        simp only [envIn, Bool.and_eq_true] at hin
        have hres : (results fn a'.tmps).run P w' = .ok v w' := by
          unfold results
          rw [Array.mapM_eq_mapM_toList, hrs, ht]
          simp [hv1]
        exact ⟨v, K', ρ', hres, by rw [h2]; subst hg0; rfl, back hf2, hv2.refs hin.1.1⟩
    obtain ⟨v, K', ρ', hres, hd, hf', hr⟩ := key
    rcases he with rfl | rfl
    · exact ⟨hd, _, hres, v, K', ρ', rfl, hf', hr⟩
    · exact ⟨hd, _, hres, v, K', ρ', rfl, hf', hr⟩

/-! ## The rest stays -/
def pinB (us : Nat → Value) (ps : List Nat) : HEnv := ps.map fun i => (1000 + i, .pin (.own i) (us i))
def deads (ps : List Nat) : HEnv := ps.map fun i => (i, .dead)
def disjH (A : HEnv) (B : HEnv) : Bool := A.all fun x => (B.get x.1).isNone
def callChk (Hc Hc' R : HEnv) (ps : List Nat) (ars : List AV) (env2 : Env) (r : AV) : Bool :=
  disjH Hc R && disjH Hc' R && idsLt 1000 Hc && idsLt 1000 Hc' && allRefsIn Hc ars && hIn Hc Hc && hIn Hc' Hc' && refsIn Hc' r && hIn (R ++ deads ps) R && envIn (R ++ deads ps) env2 && ps.all fun i => (Hc.get i).isSome && (Hc'.get i).isSome
theorem pinB_get {us : Nat → Value} : ∀ {ps : List Nat} {i : Nat} {h : HE}, HEnv.get (pinB us ps) i = some h → 1000 ≤ i ∧ i - 1000 ∈ ps ∧ h = .pin (.own (i - 1000)) (us (i - 1000))
  | [], i, h, hg => by simp [pinB, HEnv.get_nil] at hg
  | p :: ps, i, h, hg => by
    rw [pinB, List.map_cons, HEnv.get_cons] at hg
    split at hg
    · rename_i e; subst e
      simp only [Option.some.injEq] at hg; subst hg
      rw [Nat.add_sub_cancel_left]; exact ⟨by omega, by simp, rfl⟩
    · obtain ⟨h1, h2, h3⟩ := pinB_get (ps := ps) hg
      exact ⟨h1, by simp [h2], h3⟩
theorem pinB_mem {us : Nat → Value} : ∀ {ps : List Nat} {i : Nat}, i ∈ ps → HEnv.get (pinB us ps) (1000 + i) = some (.pin (.own i) (us i))
  | [], i, h => by cases h
  | p :: ps, i, h => by
    rw [pinB, List.map_cons, HEnv.get_cons]
    split
    · rename_i e
      have : p = i := by omega
      subst this; rfl
    · rename_i e
      rcases List.mem_cons.1 h with rfl | h
      · exact absurd rfl e
      · exact pinB_mem h
theorem disjH_get {A B : HEnv} (h : disjH A B = true) : ∀ i x, A.get i = some x → B.get i = none := by
  induction A with
  | nil => intro i x hx; simp [HEnv.get_nil] at hx
  | cons y A ih =>
    intro i x hx
    obtain ⟨j, z⟩ := y
    simp only [disjH, List.all_cons, Bool.and_eq_true] at h
    rw [HEnv.get_cons] at hx
    split at hx
    · rename_i e; subst e; simpa using h.1
    · exact ih h.2 i x hx
theorem deads_get {ps : List Nat} {i : Nat} (h : (HEnv.get (deads ps) i).isSome = true) : i ∈ ps := by
  induction ps with
  | nil => simp [deads, HEnv.get_nil] at h
  | cons p ps ih =>
    rw [deads, List.map_cons, HEnv.get_cons] at h
    split at h
    · rename_i e; simp [e]
    · simp [ih h]
theorem ownsRow_block {w w' : World} {B e sz n : Nat} {v : Value} {xs : List Value} (h : w.ownsRow B e sz v n xs) (hb : ∀ b, blockOf v = some b → w'.heap[b]? = w.heap[b]?) : w'.ownsRow B e sz v n xs := by
  obtain ⟨h1, h2⟩ := h
  refine ⟨h1, h2.imp id ?_⟩
  rintro ⟨g, cap, cur, a, b, c, d⟩
  exact ⟨g, cap, cur, a, b, by rw [hb g (by rw [a]; rfl)]; exact c, d⟩
theorem blockOf_own {w : World} {B e sz n : Nat} {v : Value} {xs : List Value} (h : w.ownsRow B e sz v n xs) (b : Nat) : blockOf v = some b ↔ v.ownBlock = some b := by
  rcases h.2 with ⟨rfl, _⟩ | ⟨_, _, _, rfl, _⟩ <;> simp [blockOf, Value.ownBlock]

/-- A call that turns what it is handed: all else stays. -/
theorem ao_callM {xs : Array Operand} {ts : Array TypeId} {d : Tmp} {ars : List AV} (Hc Hc' R : HEnv) (env2 : Env) {lone : Bool} (ps : List Nat) (hw1 : lone = true → g.w1.heap.size = 0) (hg : guardE ops env o = some true)
    (hop : o.op = .call { callee := .value (.func f), args := xs, argTypes := ts }) (hargs : avs env xs.toList = some ars) (hsub : HSub H (Hc ++ R)) (hs : Sub env env2) (hd : o.dst = some d) (hdt : Nat.blt d n = true)
    (hchk : callChk Hc Hc' R ps ars env2 r = true) (hc : ∀ us, ACallM P f ars (Hc ++ pinB us ps) r (Hc' ++ pinB us ps) lone)
    (h : AO P n g ops.toArray rest ((d, r) :: env2) (Hc' ++ R) Q) : AO P n g ops.toArray (o :: rest) env H Q := by
  simp only [callChk, Bool.and_eq_true] at hchk
  obtain ⟨⟨⟨⟨⟨⟨⟨⟨⟨⟨d1, d2⟩, d3⟩, d4⟩, i1⟩, i2⟩, i3⟩, i4⟩, i5⟩, i6⟩, i7⟩ := hchk
  have i7' : ∀ i ∈ ps, (Hc.get i).isSome = true ∧ (Hc'.get i).isSome = true := fun i hi => by simpa using List.all_eq_true.1 i7 i hi
  refine ⟨fun a w hinv => ?_⟩
  have hw := wanted_of hinv hg
  obtain ⟨h1, h2, K, ρ, hf, he⟩ := hinv
  refine wpList_step fun KK hKK => ?_
  rw [if_pos hw]
  have hlatR : Later K K w w := .refl K w
  have gC : ∀ i x, Hc.get i = some x → H.get i = some x := fun i x hx => hsub i x (by rw [get_append, hx])
  have gR : ∀ i x, R.get i = some x → H.get i = some x := fun i x hx => hsub i x (by
    rw [get_append]
    cases hh : Hc.get i with
    | none => exact hx
    | some y => rw [disjH_get d1 i y hh] at hx; cases hx)
  have nC : ∀ i x, R.get i = some x → Hc.get i = none := fun i x hx => by
    cases hh : Hc.get i with
    | none => rfl
    | some y => rw [disjH_get d1 i y hh] at hx; cases hx
  have nC' : ∀ i x, R.get i = some x → Hc'.get i = none := fun i x hx => by
    cases hh : Hc'.get i with
    | none => rfl
    | some y => rw [disjH_get d2 i y hh] at hx; cases hx
  have hpinC : ∀ {A : HEnv} {us : Nat → Value} {i : Nat} {x : HE}, HEnv.get (A ++ pinB us ps) i = some x → x.live = true → A.get i = some x := by
    intro A us i x hx hl
    rw [get_append] at hx
    cases hh : A.get i with
    | some z => rw [hh] at hx; exact hx
    | none =>
      rw [hh] at hx
      obtain ⟨_, _, rfl⟩ := pinB_get hx
      simp [HE.live] at hl
  -- the callee's base: all that is not handed over is protected
  obtain ⟨g', hg'⟩ : ∃ g' : Base, g' = ⟨g.w0, K, g.w1, g.ds, w, fun b => g.pr b ∨ ∃ i x, R.get i = some x ∧ x.live = true ∧ blockOf (ρ i) = some b⟩ := ⟨_, rfl⟩
  have hfs : FS g' K ρ (Hc ++ pinB ρ ps) w := by
    subst hg'
    refine ⟨hf.below, fun _ _ h => h, fun _ _ h => .inl h, hf.lt, hf.others, ⟨?_, fun _ _ _ => rfl⟩, ?_, ?_, ?_⟩
    · rintro b (hb | ⟨i, x, hi, hl, hb⟩)
      · exact ⟨(hf.pt.same b hb).1, rfl, fun _ => Iff.rfl⟩
      · exact ⟨((hf.heap.ok i x (gR i x hi)).block_lt hl hb).2, rfl, fun _ => Iff.rfl⟩
    · intro i x b hi hl hb
      have hC := hpinC hi hl
      rintro (hp | ⟨j, y, hj, hly, hbj⟩)
      · exact hf.away i x b (gC i x hC) hl hb hp
      · have hne : i ≠ j := by rintro rfl; rw [nC i y hj] at hC; cases hC
        exact hf.heap.apart i j x y b hne (gC i x hC) (gR j y hj) hl hly hb hbj
    · intro i x hi
      rw [get_append] at hi
      cases hh : Hc.get i with
      | some y =>
        rw [hh] at hi; simp only [Option.some.injEq] at hi; subst hi
        have hok := hf.heap.ok i y (gC i y hh)
        have hk : ∀ j, (HEnv.get Hc j).isSome = true → (HEnv.get (Hc ++ pinB ρ ps) j).isSome = true ∧ ρ j = ρ j := fun j hj => ⟨isSome_append j hj, rfl⟩
        cases y with
        | cell v => obtain ⟨b, t, arr, u, q1, q2, q3, q4, q5, q6⟩ := hok; exact ⟨b, t, arr, u, q1, q2, q3, (q4.refs (hIn_get i2 i v hh)).keeps hlatR hk, q5, q6⟩
        | pin v u => exact (ARel.refs hok (hIn_getp i2 i v u hh)).keeps hlatR hk
        | row t sz es => exact hok
        | mrow t sz es => exact hok
        | dead => exact hok
        | obj X => exact hok
      | none =>
        rw [hh] at hi
        obtain ⟨q1, q2, rfl⟩ := pinB_get hi
        exact .own _ (isSome_append _ (i7' _ q2).1)
    · intro i j x y b hij hi hj lx ly bx bj
      exact hf.heap.apart i j x y b hij (gC i x (hpinC hi lx)) (gC j y (hpinC hj ly)) lx ly bx bj
  have hpa := avs_rel (a := a) he hargs
  have hall : ARels K w ρ (Hc ++ pinB ρ ps) ars (xs.toList.map a.eval) :=
    ⟨hpa.1, fun k c v hc hv => ((hpa.2 k c v hc hv).refs (allRefsIn_get i1 k c hc)).keeps hlatR fun j hj => ⟨isSome_append j hj, rfl⟩⟩
  have hrun : (execOp a.eval o).run P w = .ok (.enter f (xs.toList.map a.eval).toArray) w := by
    have e : (xs.toList.map a.eval).toArray = xs.map a.eval := by rw [← Array.toList_map, Array.toArray_toList]
    rw [e]
    simp [execOp, hop, resolve, Act.eval, Deferred.ofValue, invoke, call_run (hc ρ).stands]
  unfold Oper.wp
  rw [hrun]
  simp only [Oper.upon]
  refine ((hc ρ).calls g' K ρ w _ (by subst hg'; exact hw1) hfs hall).mono fun e w' ⟨v, K', ρ', e1, hf', hv⟩ => ?_
  subst e1
  have hlat : Later K K' w w' := by subst hg'; exact ⟨hf'.old, hf'.pt.kept⟩
  have hprot : ∀ b, (g.pr b ∨ ∃ i x, R.get i = some x ∧ x.live = true ∧ blockOf (ρ i) = some b) → b < w'.heap.size ∧ w'.heap[b]? = w.heap[b]? ∧ ∀ o, K' b o ↔ K b o := by subst hg'; exact hf'.pt.same
  have haway : ∀ i x b, Hc'.get i = some x → x.live = true → blockOf (ρ' i) = some b → ¬ (g.pr b ∨ ∃ i x, R.get i = some x ∧ x.live = true ∧ blockOf (ρ i) = some b) := by
    subst hg'; exact fun i x b hi => hf'.away i x b (by rw [get_append, hi])
  obtain ⟨ρ2, hρ2⟩ : ∃ ρ2 : Nat → Value, ∀ j, ρ2 j = if (Hc'.get j).isSome then ρ' j else ρ j := ⟨_, fun _ => rfl⟩
  have r1 : ∀ j, (Hc'.get j).isSome = true → ρ2 j = ρ' j := fun j hj => by rw [hρ2, if_pos hj]
  have r2 : ∀ j, Hc'.get j = none → ρ2 j = ρ j := fun j hj => by rw [hρ2, hj]; rfl
  have hkC : ∀ j, (HEnv.get Hc' j).isSome = true → (HEnv.get (Hc' ++ R) j).isSome = true ∧ ρ2 j = ρ' j := fun j hj => ⟨isSome_append j hj, r1 j hj⟩
  have hps : ∀ i ∈ ps, ρ' i = ρ i := fun i hi => by
    have hnone : Hc'.get (1000 + i) = none := by
      cases hh : Hc'.get (1000 + i) with
      | none => rfl
      | some x => have := idsLt_get d4 _ x hh; omega
    have := hf'.heap.ok (1000 + i) _ (by rw [get_append, hnone]; exact pinB_mem hi)
    have this : ARel K' w' ρ' (Hc' ++ pinB ρ ps) (.own i) (ρ i) := this
    generalize hu : ρ i = u at this
    cases this with
    | own _ _ => rfl
  have hkR : ∀ j, (HEnv.get (R ++ deads ps) j).isSome = true → (HEnv.get (Hc' ++ R) j).isSome = true ∧ ρ2 j = ρ j := fun j hj => by
    rw [get_append] at hj
    cases hh : R.get j with
    | some x =>
      have hn := nC' j x hh
      exact ⟨by rw [get_append, hn, hh]; rfl, r2 j hn⟩
    | none =>
      rw [hh] at hj
      have hm := deads_get hj
      have hs' := (i7' j hm).2
      exact ⟨isSome_append j hs', by rw [r1 j hs', hps j hm]⟩
  have hfs2 : FS g K' ρ2 (Hc' ++ R) w' := by
    have b1 : Below g.w0.heap.size g.w0 w' := by subst hg'; exact hf'.below
    have b3 : ∀ b o, K' b o → K b o ∨ g.w0.heap.size ≤ b := by subst hg'; exact hf'.new
    have b5 : KeepsOthers g.w1 w' := by subst hg'; exact hf'.others
    have bB : HRel K' w' g.w0.heap.size ρ' (Hc' ++ pinB ρ ps) := by subst hg'; exact hf'.heap
    refine ⟨b1, fun b o h => hlat.sub b o (hf.old b o h), fun b o hk => (b3 b o hk).elim (hf.new b o) .inr, hf'.lt, b5, ⟨fun b hb => ?_, fun b o h0 => (hlat.cell b o (hf.old b o h0)).trans (hf.pt.kept b o h0)⟩, fun i x b hi hl hb => ?_, fun i x hi => ?_, fun i j x y b hij hi hj lx ly bx bj => ?_⟩
    · obtain ⟨p1, p2, p3⟩ := hprot b (.inl hb)
      obtain ⟨q1, q2, q3⟩ := hf.pt.same b hb
      exact ⟨p1, p2.trans q2, fun o => (p3 o).trans (q3 o)⟩
    · rw [get_append] at hi
      cases hh : Hc'.get i with
      | some y =>
        rw [hh] at hi; simp only [Option.some.injEq] at hi; subst hi
        rw [r1 i (by rw [hh]; rfl)] at hb
        exact fun hp => haway i y b hh hl hb (.inl hp)
      | none =>
        rw [hh] at hi
        rw [r2 i hh] at hb
        exact hf.away i x b (gR i x hi) hl hb
    · rw [get_append] at hi
      cases hh : Hc'.get i with
      | some y =>
        rw [hh] at hi; simp only [Option.some.injEq] at hi; subst hi
        rw [r1 i (by rw [hh]; rfl)]
        have hok := bB.ok i y (by rw [get_append, hh])
        have hl' := Later.refl K' w'
        cases y with
        | cell v => obtain ⟨b, t, arr, u, q1, q2, q3, q4, q5, q6⟩ := hok; exact ⟨b, t, arr, u, q1, q2, q3, (q4.refs (hIn_get i3 i v hh)).keeps hl' hkC, q5, q6⟩
        | pin v u => exact (ARel.refs hok (hIn_getp i3 i v u hh)).keeps hl' hkC
        | row t sz es => exact hok
        | mrow t sz es => exact hok
        | dead => exact hok
        | obj X => exact hok
      | none =>
        rw [hh] at hi
        rw [r2 i hh]
        have hok := hf.heap.ok i x (gR i x hi)
        have hsame : x.live = true → ∀ b, blockOf (ρ i) = some b → w'.heap[b]? = w.heap[b]? ∧ ∀ o, K' b o ↔ K b o := fun hl b hb => (hprot b (.inr ⟨i, x, hi, hl, hb⟩)).2
        cases x with
        | cell v =>
          obtain ⟨b, t, arr, u, q1, q2, q3, q4, q5, q6⟩ := hok
          obtain ⟨s1, s2⟩ := hsame rfl b (by rw [q1]; rfl)
          exact ⟨b, t, arr, u, q1, q2, by rw [s1]; exact q3, (q4.refs (hIn_get i5 i v hi)).keeps hlat hkR, q5, fun o hk => q6 o ((s2 o).1 hk)⟩
        | pin v u => exact (ARel.refs hok (hIn_getp i5 i v u hi)).keeps hlat hkR
        | row t sz es =>
          obtain ⟨xs, q1, q2, q3, q4⟩ := hok
          refine ⟨xs, ownsRow_block q1 fun b hb => (hsame rfl b hb).1, q2, fun k e he => ?_, fun b hb o => ?_⟩
          · obtain ⟨c1, c2⟩ := q3 k e he
            exact ⟨c1, fun k c hc => let ⟨v, h4, h5, h6⟩ := c2 k c hc; ⟨v, h4, h5, h6.later hlat⟩⟩
          · rw [(hsame rfl b ((blockOf_own q1 b).2 hb)).2 o]; exact q4 b hb o
        | mrow t sz es =>
          obtain ⟨xs, q1, q2, q3, q4⟩ := hok
          refine ⟨xs, ownsRow_block q1 fun b hb => (hsame rfl b hb).1, q2, fun k e he => ?_, fun b hb o hk => ?_⟩
          · obtain ⟨c1, c2⟩ := q3 k e he
            exact ⟨c1, fun k c hc => let ⟨v, h4, h5, h6⟩ := c2 k c hc; ⟨v, h4, h5, h6.later hlat⟩⟩
          · exact q4 b hb o (((hsame rfl b ((blockOf_own q1 b).2 hb)).2 o).1 hk)
        | dead => trivial
        | obj X =>
          obtain ⟨b, ob, q1, q2, q3, q4, q5⟩ := hok
          obtain ⟨s1, s2⟩ := hsame rfl b (by rw [q1]; rfl)
          exact ⟨b, ob, q1, q2, by rw [s1]; exact q3, q4, fun o hk => q5 o ((s2 o).1 hk)⟩
    · rw [get_append] at hi hj
      cases hhi : Hc'.get i with
      | some x' =>
        rw [hhi] at hi; simp only [Option.some.injEq] at hi; subst hi
        rw [r1 i (by rw [hhi]; rfl)] at bx
        cases hhj : Hc'.get j with
        | some y' =>
          rw [hhj] at hj; simp only [Option.some.injEq] at hj; subst hj
          rw [r1 j (by rw [hhj]; rfl)] at bj
          exact bB.apart i j x' y' b hij (by rw [get_append, hhi]) (by rw [get_append, hhj]) lx ly bx bj
        | none =>
          rw [hhj] at hj; rw [r2 j hhj] at bj
          exact haway i x' b hhi lx bx (.inr ⟨j, y, hj, ly, bj⟩)
      | none =>
        rw [hhi] at hi; rw [r2 i hhi] at bx
        cases hhj : Hc'.get j with
        | some y' =>
          rw [hhj] at hj; simp only [Option.some.injEq] at hj; subst hj
          rw [r1 j (by rw [hhj]; rfl)] at bj
          exact haway j y' b hhj ly bj (.inr ⟨i, x, hi, lx, bx⟩)
        | none =>
          rw [hhj] at hj; rw [r2 j hhj] at bj
          exact hf.heap.apart i j x y b hij (gR i x hi) (gR j y hj) lx ly bx bj
  have he2 : EnvR K' w' ρ2 (Hc' ++ R) env2 a.tmps := fun t av ht => by
    obtain ⟨u, u1, u2⟩ := he t av (hs t av ht)
    exact ⟨u, u1, (u2.refs (envIn_get i6 t av ht)).keeps hlat hkR⟩
  refine hKK _ _ (h.go _ _ ⟨put_size h1, put_defers h2, K', ρ2, hfs2, ?_⟩)
  rw [hd]
  exact env_put h1 hdt he2 ((hv.refs i4).keeps (Later.refl K' w') hkC)
end
end Go.Cg
/- append onto rows that may be written; pure calls that read them. -/
namespace Go.Cg
open Go.RowKit
section
variable {P : Program} {tb : Tab} {n : Nat} {g : Base} {H : HEnv} {env : Env} {ops : List Oper} {o : Oper} {rest : List Oper} {Q : Env → HEnv → Prop} {QQ : QC} {c : Code} {K : KK} {w : World} {ρ : Nat → Value} {a : Act}
/-- append onto a row of the call's own that may be written. -/
theorem ao_mappend (htb : TabOK P tb) {ty e : Nat} {x y : Operand} {i : Nat} {sz : Nat} {es xs : List PV} {full : Bool} {t : Nat} (hg : guardE ops env o = some true)
    (hop : o.op = .call { callee := .builtin .append, args := #[x, y], argTypes := #[ty, ty] }) (hk : tb.k ty = .sl e) (hx : env.val x = some (.own i)) (hi : H.get i = some (.mrow e sz es)) (hy : env.pv H y = some (.slc sz xs full))
    (hzz : (match tb.get e with | some ti => (match ti.zero with | some z => ti.size == sz && z.cells.size == sz | none => false) | none => false) = true)
    (hbound : (es.length + xs.length) * (match tb.get e with | some ti => ti.bytes | none => 0) ≤ 140737488355328) (hb2 : es.length + xs.length ≤ 140737488355328) (hd : o.dst = some t) (ht : Nat.blt t n = true)
    (h : AO P n g ops.toArray rest ((t, .own i) :: killEnv i env) ((i, .mrow e sz (es ++ xs)) :: killH i H) Q) : AO P n g ops.toArray (o :: rest) env H Q := by
  refine ⟨fun a w hinv => ?_⟩
  have hw := wanted_of hinv hg
  obtain ⟨h1, h2, K, ρ, hf, he⟩ := hinv
  refine wpList_step fun Kc hKc => ?_
  rw [if_pos hw]
  cases hti : tb.get e with
  | none => simp [hti] at hzz
  | some ti =>
    cases hz : ti.zero with
    | none => simp [hti, hz] at hzz
    | some z =>
      simp only [hti, hz, Bool.and_eq_true, beq_iff_eq] at hzz hbound
      obtain ⟨tin, q1, q2, q3, q4, _⟩ := tab_info htb hti
      have hxr := val_rel he hx
      have hyr := opE_pv (a := a) hf (x := y) (fun av hh => val_rel he hh) hy
      obtain ⟨us, hown, hsz, hcr, hKK'⟩ := hf.heap.ok i _ hi
      generalize hxv : a.eval x = xv at hxr
      cases hxr with
      | own _ hi' =>
        obtain ⟨news, n1, n2, n3, n4, n5⟩ := slc_flat hyr
        obtain ⟨v', w', r1, r2, r3⟩ := run_append_own' (P := P) w g.w0.heap.size ty o.type e tin z sz ti.bytes (tab_sl htb hk) q1 (by rw [q4]; exact hz) (by omega) q3 hzz.2 (ρ i) es.length us hown (a.eval y) xs.length news n1
          (n2.imp (fun h => ⟨h.1, by simpa using h.2⟩) (fun ⟨ad, c, hh, hh2, _⟩ => ⟨ad, c, hh, hh2⟩)) n3 (by unfold maxLen; omega) hbound hf.below.size
        have hrun : (execOp a.eval o).run P w = .ok (.value v') w' := by
          simp [execOp, hop, resolve, invoke, builtin, hxv, r1]
        unfold Oper.wp
        rw [hrun]
        simp only [Oper.upon]
        obtain ⟨row, hgrow, hrow⟩ : ∃ row, w.grownBy w' row ∧ ((row = (ρ i).ownBlock ∧ v'.ownBlock = (ρ i).ownBlock) ∨ (row = none ∧ ∀ b, v'.ownBlock = some b → w.heap.size ≤ b)) := by
          rcases r3 with ⟨h1, h2⟩ | ⟨h1, h2⟩
          · exact ⟨_, h1, .inl ⟨rfl, h2⟩⟩
          · exact ⟨_, h1, .inr ⟨rfl, h2⟩⟩
        -- what is committed now
        let K1 : KK := K
        have hcellsame : ∀ b o, K b o → w'.cell? ⟨b, o, none⟩ = w.cell? ⟨b, o, none⟩ := by
          intro b o hbo
          by_cases hbb : row = some b
          · rcases hrow with ⟨e1, e2⟩ | ⟨e1, _⟩
            · rw [hbb] at e1
              exact absurd hbo (hKK' b e1.symm o)
            · rw [hbb] at e1; cases e1
          · exact World.cell?_of_block (hgrow.block b (hf.lt b o hbo) (Ne.symm hbb))
        have hlat : Later K K1 w w' := ⟨fun b o h => h, hcellsame⟩
        have hvlt := r2.lt
        have hrowB : ∀ k, row = some k → g.w0.heap.size ≤ k := by
          intro k hk
          rcases hrow with ⟨e1, _⟩ | ⟨e1, _⟩
          · rw [hk] at e1; exact (hown.lt k e1.symm).1
          · rw [hk] at e1; cases e1
        have hnp : ∀ b, ρ i = .pointer (some ⟨b, 0, none⟩) → False := by
          intro b hb
          rcases hown.2 with ⟨e1, _⟩ | ⟨_, _, _, e1, _⟩ <;> rw [e1] at hb <;> cases hb
        have hkill_isSome : ∀ j, ((killH i H).get j).isSome = (H.get j).isSome := by intro j; rw [killH_get]; cases H.get j <;> rfl
        have hkeep : ∀ j, j ≠ i → (H.get j).isSome = true → (HEnv.get ((i, .mrow e sz (es ++ xs)) :: killH i H) j).isSome = true ∧ (fun j => if j = i then v' else ρ j) j = ρ j := by
          intro j hne hj
          refine ⟨?_, by simp [hne]⟩
          simp only [HEnv.get_cons]; rw [if_neg (Ne.symm hne), hkill_isSome]; exact hj
        have htr : ∀ av v, ARel K w ρ H av v → ARel K1 w' (fun j => if j = i then v' else ρ j) ((i, .mrow e sz (es ++ xs)) :: killH i H) (kill i av) v := fun av v h => h.kill hlat i hkeep hnp (row_one hf i (by simp [isVal, hi]))
        have hbo : ∀ {v : Value} {nn : Nat} {zs : List Value} {ww : World} {BB : Nat}, ww.ownsRow BB e sz v nn zs → ∀ b, blockOf v = some b ↔ v.ownBlock = some b := by
          intro v nn zs ww BB h b
          rcases h.2 with ⟨rfl, _⟩ | ⟨_, _, _, rfl, _⟩ <;> simp [blockOf, Value.ownBlock]
        have hK1 : ∀ b o, K1 b o → K b o ∨ row = some b ∨ w.heap.size ≤ b := by
          exact fun b o h => .inl h
        have hnl : (es ++ xs).length = es.length + xs.length := List.length_append
        have hcellsrow : ∀ (j : Nat) (o : Obj), row = some j → w.heap[j]? = some o → o.isCells = true := by
          intro j o hj ho
          rcases hrow with ⟨e1, _⟩ | ⟨e1, _⟩
          · rw [hj] at e1
            rcases hown.2 with ⟨h, _⟩ | ⟨b2, cap, cur, h, _, hh, _⟩
            · rw [h] at e1; simp [Value.ownBlock] at e1
            · rw [h] at e1
              simp only [Value.ownBlock, Option.some.injEq] at e1
              subst e1
              rw [hh] at ho; cases ho; rfl
          · rw [hj] at e1; cases e1
        refine hKc _ _ (h.go _ _ ⟨put_size h1, put_defers h2, K1, fun j => if j = i then v' else ρ j, ⟨hf.below.grown hgrow hf.below.size hrowB, fun b o h => hf.old b o h, fun b o h => hf.new b o h, fun b o h => Nat.lt_of_lt_of_le (hf.lt b o h) hgrow.size, hf.others.trans (KeepsOthers.of_grownBy hgrow hcellsrow), hf.pt.grown hf.old hgrow hlat (fun b hb => ?_) hK1, ?_, ?_, ?_⟩, ?_⟩)
        · rcases hrow with ⟨e1, _⟩ | ⟨e1, _⟩
          · rw [hb] at e1; exact hf.away i _ b hi rfl ((hbo hown b).2 e1.symm)
          · rw [hb] at e1; cases e1
        · intro j hh b hj hl hb
          rw [HEnv.get_cons] at hj
          split at hj
          · rename_i e'; subst e'
            simp only [if_true] at hb
            have hv := (hbo r2 b).1 hb
            rcases hrow with ⟨_, e2⟩ | ⟨_, e2⟩
            · exact hf.away i _ b hi rfl ((hbo hown b).2 (by rw [← e2]; exact hv))
            · exact hf.pt.lt (e2 b hv)
          · rename_i hne
            simp only [Ne.symm hne, if_false] at hb
            rw [killH_get] at hj
            cases hH : H.get j with
            | none => simp [hH] at hj
            | some e0 =>
              simp only [hH, Option.map_some, Option.some.injEq] at hj
              subst hj
              exact hf.away j e0 b hH (by cases e0 <;> first | rfl | exact hl) hb
        · intro j hh hj
          simp only [HEnv.get_cons] at hj
          split at hj
          · rename_i e'; subst e'
            simp only [Option.some.injEq] at hj; subst hj
            simp only [if_true]
            refine ⟨us ++ news, by rw [hnl]; exact r2, hsz, ?_, ?_⟩
            · have := hcr.append hown.1 n4
              intro k c hc
              obtain ⟨t1, t2⟩ := this k c hc
              exact ⟨t1, fun k' c' hc' => let ⟨v, t3, t4, t5⟩ := t2 k' c' hc'; ⟨v, t3, t4, t5.later hlat⟩⟩
            · intro b hb o h
              rcases hrow with ⟨e1, e2⟩ | ⟨_, e2⟩
              · exact hKK' b (by rw [← e2]; exact hb) o h
              · have := e2 b hb
                have := hf.lt b o h; omega
          · rename_i hne
            rw [killH_get] at hj
            cases hH : H.get j with
            | none => simp [hH] at hj
            | some e0 =>
              simp only [hH, Option.map_some, Option.some.injEq] at hj
              subst hj
              simp only [Ne.symm hne, if_false]
              by_cases hlive : e0.live = true
              · have := (hf.heap.ok j e0 hH).grown (f := kill i) hgrow hlat hK1 htr hlive (fun b hb hb' => by
                  rcases hrow with ⟨e1, _⟩ | ⟨e1, _⟩
                  · rw [hb'] at e1
                    exact hf.heap.apart i j _ e0 b hne hi hH rfl hlive ((hbo hown b).2 e1.symm) hb
                  · rw [hb'] at e1; cases e1)
                cases e0 <;> exact this
              · cases e0 <;> simp [HE.live] at hlive
                · trivial
                · exact htr _ _ (hf.heap.ok j _ hH)
        · have e1 : ∀ (j : Nat) (hh : HE), j ≠ i → HEnv.get ((i, .mrow e sz (es ++ xs)) :: killH i H) j = some hh → hh.live = true → ∃ h0, H.get j = some h0 ∧ h0.live = true := by
            intro j hh hne hj hl
            simp only [HEnv.get_cons] at hj
            rw [if_neg (Ne.symm hne), killH_get] at hj
            cases hH : H.get j with
            | none => simp [hH] at hj
            | some e0 =>
              simp only [hH, Option.map_some, Option.some.injEq] at hj
              subst hj
              refine ⟨e0, rfl, ?_⟩
              cases e0 <;> first | rfl | exact hl
          have e2 : ∀ (k : Nat) (hh : HE) (bb : Nat), k ≠ i → H.get k = some hh → hh.live = true → v'.ownBlock = some bb → blockOf (ρ k) = some bb → False := by
            intro k hh bb hne hk hl hv hb
            rcases hrow with ⟨_, e2⟩ | ⟨_, e2⟩
            · exact hf.heap.apart i k _ hh bb (Ne.symm hne) hi hk rfl hl ((hbo hown bb).2 (by rw [← e2]; exact hv)) hb
            · have := e2 bb hv
              have := ((hf.heap.ok k hh hk).block_lt hl hb).2
              omega
          intro j k hh hh' bb hjk hj hk' hlj hlk hbj hbk
          by_cases hji : j = i
          · subst hji
            have hki : k ≠ j := Ne.symm hjk
            obtain ⟨h0, a1, a2⟩ := e1 k hh' hki hk' hlk
            simp only [if_true] at hbj
            simp only [hki, if_false] at hbk
            exact e2 k h0 bb hki a1 a2 ((hbo r2 bb).1 hbj) hbk
          · obtain ⟨h0, a1, a2⟩ := e1 j hh hji hj hlj
            simp only [hji, if_false] at hbj
            by_cases hki : k = i
            · subst hki
              simp only [if_true] at hbk
              exact e2 j h0 bb hji a1 a2 ((hbo r2 bb).1 hbk) hbj
            · obtain ⟨h0', b1, b2⟩ := e1 k hh' hki hk' hlk
              simp only [hki, if_false] at hbk
              exact hf.heap.apart j k h0 h0' bb hjk a1 b1 a2 b2 hbj hbk
        · rw [hd]
          refine env_put h1 ht ?_ ?_
          · intro t' av hg'
            rw [killEnv_get] at hg'
            cases hE : env.get t' with
            | none => simp [hE] at hg'
            | some av0 =>
              simp only [hE, Option.map_some, Option.some.injEq] at hg'
              subst hg'
              obtain ⟨v, v1, v2⟩ := he t' av0 hE
              exact ⟨v, v1, htr _ _ v2⟩
          · have := ARel.own (K := K1) (w := w') (ρ := fun j => if j = i then v' else ρ j) (H := (i, HE.mrow e sz (es ++ xs)) :: killH i H) i (by simp [HEnv.get_cons])
            simpa using this

/-! ## A pure call may read such a row -/
def lpv (env : Env) (H : HEnv) (x : Operand) : Option PV := match env.val x with
  | some (.own i) => match H.get i with | some (.mrow _ sz es) => some (.slc sz es false) | _ => env.pv H x
  | _ => env.pv H x
def lpvs (env : Env) (H : HEnv) : List Operand → Option (List PV)
  | [] => some []
  | x :: xs => match lpv env H x, lpvs env H xs with | some p, some ps => some (p :: ps) | _, _ => none
/-- All rows that are owned are committed for a while. -/
def loanK (K : KK) (ρ : Nat → Value) (H : HEnv) : KK := fun b o => K b o ∨ ∃ i t sz es, H.get i = some (.mrow t sz es) ∧ (ρ i).ownBlock = some b ∧ o < es.length * sz
theorem loan_later : Later K (loanK K ρ H) w w := ⟨fun _ _ h => .inl h, fun _ _ _ => rfl⟩
theorem lpv_rel (hf : FS g K ρ H w) {x : Operand} (hv : ∀ av, env.val x = some av → ARel K w ρ H av (a.eval x)) {p : PV} (h : lpv env H x = some p) : PRel (loanK K ρ H) w p (a.eval x) := by
  have old : env.pv H x = some p → PRel (loanK K ρ H) w p (a.eval x) := fun h => (opE_pv hf hv h).later loan_later
  unfold lpv at h
  split at h
  · rename_i i hx
    split at h
    · rename_i t sz es hi
      simp only [Option.some.injEq] at h; subst h
      have hxr := hv _ hx
      generalize a.eval x = xv at hxr
      cases hxr with
      | own _ _ =>
        obtain ⟨xs, hown, h0, hcr, hnK⟩ := hf.heap.ok i _ hi
        rcases hown.2 with ⟨hr, hz⟩ | ⟨b, cap, cur, hr, hB, hheap, hle, hcap, hsize, htake⟩
        · rw [hr]
          have : es = [] := List.eq_nil_of_length_eq_zero hz
          subst this; exact .nil sz false
        · by_cases hes : es = []
          · subst hes
            have hown' := hown
            rw [hr] at hown' ⊢
            exact .slc sz [] false b 0 cap (fun _ => []) h0 (Nat.zero_le _) (by simp) (by simp [maxLen]) hcap (fun i e he => by simp at he) (fun i e k c v he => by simp at he)
          · have hown' := hown
            rw [hr] at hown' ⊢
            have hxl : xs.length = es.length * sz := hown.1
            refine .slc sz es false b 0 cap (fun i => (xs.drop (i * sz)).take sz) h0 hle (by simp) (by omega) hcap (fun k e he => ?_) (fun k e m c v he hc hvv => ?_)
            · obtain ⟨c1, c2⟩ := hcr k e he
              have hk : k < es.length := (List.getElem?_eq_some_iff.1 he).1
              have hle2 : k * sz + sz ≤ es.length * sz := by rw [← Nat.succ_mul]; exact Nat.mul_le_mul_right _ hk
              refine ⟨c1, by rw [List.length_take, List.length_drop]; omega, fun m v hm => ?_⟩
              rw [List.getElem?_take] at hm
              split at hm
              · rename_i hms
                rw [List.getElem?_drop] at hm
                obtain ⟨u, u1, u2, _⟩ := c2 m e.cells[m] (List.getElem?_eq_getElem (by omega))
                rw [u1, Option.some.injEq] at hm; subst hm
                exact ⟨.inr ⟨i, t, sz, es, hi, by rw [hr]; rfl, by omega⟩, by rw [Nat.zero_add, hown'.cellAt _ (by omega)]; exact u1, u2⟩
              · cases hm
            · obtain ⟨c1, c2⟩ := hcr k e he
              obtain ⟨u, u1, u2, u3⟩ := c2 m c hc
              rw [List.getElem?_take] at hvv
              split at hvv
              · rw [List.getElem?_drop, u1, Option.some.injEq] at hvv
                subst hvv; exact u3.later loan_later
              · cases hvv
    · exact old h
  · exact old h
theorem lpvs_rel (hf : FS g K ρ H w) : ∀ {xs : List Operand} {ps : List PV}, (∀ x ∈ xs, ∀ av, env.val x = some av → ARel K w ρ H av (a.eval x)) → lpvs env H xs = some ps → PRels (loanK K ρ H) w ps (xs.map a.eval)
  | [], ps, _, h => by simp [lpvs] at h; subst h; exact .nil
  | x :: xs, ps, hv, h => by
    simp only [lpvs] at h
    split at h
    · rename_i v vs e1 e2
      simp only [Option.some.injEq] at h; subst h
      exact .cons (lpv_rel hf (hv x (by simp)) e1) (lpvs_rel hf (fun y hy => hv y (by simp [hy])) e2)
    · cases h
/-- A call that reads rows of the call's own, and answers a plain value. -/
theorem ao_callL {xs : Array Operand} {ts : Array TypeId} {f : FuncId} {args : List PV} {r : Value} {t : Nat} (hg : guardE ops env o = some true) (hop : o.op = .call { callee := .value (.func f), args := xs, argTypes := ts }) (hargs : lpvs env H xs.toList = some args)
    (hc : ACall P f args (.base r)) (hd : o.dst = some t) (ht : Nat.blt t n = true)
    (h : AO P n g ops.toArray rest ((t, .pv (.base r)) :: env) H Q) : AO P n g ops.toArray (o :: rest) env H Q := by
  refine ⟨fun a w hinv => ?_⟩
  have hw := wanted_of hinv hg
  obtain ⟨h1, h2, K, ρ, hf, he⟩ := hinv
  refine wpList_step fun KK hKK => ?_
  rw [if_pos hw]
  have hp := lpvs_rel hf (a := a) (xs := xs.toList) (fun x hx av hxx => val_rel he hxx) hargs
  have hrun : (execOp a.eval o).run P w = .ok (.enter f (xs.toList.map a.eval).toArray) w := by
    have e : (xs.toList.map a.eval).toArray = xs.map a.eval := by rw [← Array.toList_map, Array.toArray_toList]
    rw [e]
    simp [execOp, hop, resolve, Act.eval, Deferred.ofValue, invoke, call_run hc.stands]
  unfold Oper.wp
  rw [hrun]
  simp only [Oper.upon]
  have hlt : ∀ b o, loanK K ρ H b o → b < w.heap.size := by
    rintro b o (h | ⟨i, t, sz, es, hi, hb, _⟩)
    · exact hf.lt b o h
    · obtain ⟨us, hown, _⟩ := hf.heap.ok i _ hi
      exact (hown.lt b hb).2
  refine (hc.calls _ w _ hlt hp).mono ?_
  rintro ex w'' ⟨v, K', rfl, hev, hr⟩
  cases hr with
  | base _ hb =>
    have hev2 : Evo K K w w'' := ⟨hev.below, fun _ _ h => h, fun _ _ h => .inl h, fun b o h => Nat.lt_of_lt_of_le (hf.lt b o h) hev.below.size⟩
    refine hKK _ _ (h.go _ _ ⟨put_size h1, put_defers h2, K, ρ, hf.evo hev2, ?_⟩)
    rw [hd]
    exact env_put h1 ht (he.keeps (hev2.later hf.lt) (fun j hj => ⟨hj, rfl⟩)) (.pv _ _ (.base _ hb))
end

/-! ## Reading such a row, as a pure step -/
section
variable {P : Program} {tb : Tab} {g : Base} {H : HEnv} {env : Env} {o : Oper}
theorem q_mindex (htb : TabOK P tb) {t e : Nat} {x y : Operand} {i k sz : Nat} {es : List PV} {kk : IntKind} {m : Int} (hop : o.op = .indexAddr t x y) (hx : env.val x = some (.own i)) (hi : H.get i = some (.mrow e sz es))
    (hk : tb.k t = .sl e) (hke : tb.known e = true) (hsz : tb.size e = sz) (hy : env.pv H y = some (.base (.int kk m))) (hm : m = (k : Nat)) (hlt : k < es.length) : QStep P g H o env (.ad i (k * sz)) := by
  refine ⟨fun K ρ a w hf hv => ?_⟩
  have hxr := hv x (by rw [hop]; simp [Op.operands]) _ hx
  have hyr := opE_pv hf (hv y (by rw [hop]; simp [Op.operands])) hy
  generalize hxv : a.eval x = xv at hxr
  generalize hyv : a.eval y = yv at hyr
  obtain ⟨xs, hown, h0, hcr, hnK⟩ := hf.heap.ok i _ hi
  subst hm
  cases hyr
  cases hxr with
  | own _ hi' =>
    rcases hown.2 with ⟨hr, hz⟩ | ⟨b, cap, cur, hr, hB, hheap, hle, hcap, hsize, htake⟩
    · omega
    · have hko : tb.k e ≠ .oth := by intro h; simp [Tab.known, h] at hke
      have hs := run_sizeOf htb hko w
      have hrun : (execOp a.eval o).run P w = .ok (.value (.pointer (some ⟨b, k * sz, none⟩))) w := by
        simp [execOp, hop, hxv, hyv, hr, Instr.indexAt, asIntOf, run_underlying (tab_sl htb hk), hs, hsz, Addr.add_lit]
        intro hh; omega
      rw [hrun]
      exact qval hf (.ad i (k * sz) b es.length cap hi' hr)
theorem q_mload (htb : TabOK P tb) {ty : Nat} {x : Operand} {i k j sz off e : Nat} {es : List PV} {p q : PV} (hop : o.op = .load ty x) (hx : env.val x = some (.ad i off)) (hi : H.get i = some (.mrow e sz es)) (hoff : off = k * sz + j)
    (hp : es[k]? = some p) (hq : partE tb ty p.cells j = some q) : QStep P g H o env (.pv q) := by
  refine ⟨fun K ρ a w hf hv => ?_⟩
  have hxr := hv x (by rw [hop]; simp [Op.operands]) _ hx
  generalize hxv : a.eval x = xv at hxr
  obtain ⟨xs, hown, h0, hcr, hnK⟩ := hf.heap.ok i _ hi
  have hkl : k < es.length := (List.getElem?_eq_some_iff.1 hp).1
  cases hxr with
  | ad _ _ b m c hi' hρ =>
    have hown' := hown
    rw [hρ] at hown'
    have hm : m = es.length := by
      rcases hown'.2 with ⟨hr, _⟩ | ⟨_, _, _, hr, _⟩
      · simp at hr
      · simp at hr; exact hr.2.1
    subst hm
    obtain ⟨hl, hc⟩ := hcr k p hp
    have hle : k * sz + sz ≤ es.length * sz := by rw [← Nat.succ_mul]; exact Nat.mul_le_mul_right _ hkl
    have hlen : xs.length = es.length * sz := hown.1
    have hcell : ∀ (t : Nat) (v : Value), ((xs.drop (k * sz)).take sz)[t]? = some v → w.cell? ⟨b, k * sz + t, none⟩ = some v := by
      intro t v hv
      rw [List.getElem?_take] at hv
      split at hv
      · rw [List.getElem?_drop] at hv
        rw [hown'.cellAt _ (by omega)]; exact hv
      · cases hv
    have hrels : PRels K w p.cells ((xs.drop (k * sz)).take sz) := by
      refine ⟨by rw [List.length_take, List.length_drop]; omega, fun t c v hc' hv => ?_⟩
      rw [List.getElem?_take] at hv
      split at hv
      · rw [List.getElem?_drop] at hv
        obtain ⟨u, hu, _, hr⟩ := hc t c hc'
        rw [hu, Option.some.injEq] at hv; subst hv; exact hr
      · cases hv
    have hone : ∀ v ∈ (xs.drop (k * sz)).take sz, v.oneCell' = true := by
      intro v hv
      obtain ⟨t, hlt, rfl⟩ := List.getElem_of_mem hv
      have hlt' : t < sz := by rw [List.length_take] at hlt; omega
      have ht' : t < p.cells.length := by omega
      obtain ⟨u, hu, h1u, _⟩ := hc t p.cells[t] (List.getElem?_eq_getElem ht')
      rw [List.getElem_take, List.getElem_drop]
      have := (List.getElem?_eq_some_iff.1 hu).2
      rw [this]; exact h1u
    obtain ⟨v, hv, hvr⟩ := run_loadVar_rows htb (b := b) (o := k * sz) hcell hrels hone hq
    have hrun : (execOp a.eval o).run P w = .ok (.value v) w := by
      subst hoff
      simp [execOp, hop, hxv, Instr.loadAt, Instr.sureAddr, hv]
    rw [hrun]
    exact qval hf (.pv _ _ hvr)
end
end Go.Cg
/- A nil slice in a field of a structure that the call owns is a row that may be written. -/
namespace Go.Cg
open Go.RowKit
section
variable {P : Program} {n : Nat} {g : Base} {H : HEnv} {env : Env} {c : Code} {QQ : QC} {K : KK} {w : World} {ρ : Nat → Value}
theorem aw_mown_nil_field (b i k : Nat) (e : TypeId) (sz : Nat) {v : AV} {cs : List AV} (hsz : 0 < sz) (hb : H.get b = some (.cell v)) (hv : aggOf v = some cs) (hk : cs[k]? = some (.pv (.base (.slice none 0 0)))) (hi : H.get i = none)
    (h : AW P n g c env ((b, .cell (.agg (cs.set k (.own i)))) :: (i, .mrow e sz []) :: H) QQ) : AW P n g c env H QQ := by
  refine ⟨fun a w hinv => h.go a w ?_⟩
  obtain ⟨h1, h2, K, ρ, hf, he⟩ := hinv
  have hev : Evo K K w w := .refl hf.lt
  have hne : b ≠ i := by rintro rfl; simp [hi] at hb
  have hf2 : FS g K (fun j => if j = i then .slice none 0 0 else ρ j) ((i, .mrow e sz []) :: H) w := hf.fresh hev hi ⟨[], World.ownsRow_nil w _ e sz, hsz, fun i e h => by simp at h, by simp [Value.ownBlock]⟩ (by simp [blockOf])
  have hkk : ∀ j, (HEnv.get ((i, HE.mrow e sz []) :: H) j).isSome = true → (HEnv.get ((b, .cell (.agg (cs.set k (.own i)))) :: (i, HE.mrow e sz []) :: H) j).isSome = true ∧ (fun j => if j = i then Value.slice none 0 0 else ρ j) j = (fun j => if j = i then Value.slice none 0 0 else ρ j) j := by
    intro j hj
    refine ⟨?_, rfl⟩
    simp only [HEnv.get_cons] at hj ⊢
    split
    · rfl
    · exact hj
  have hlat := hev.later hf.lt
  refine ⟨h1, h2, K, fun j => if j = i then .slice none 0 0 else ρ j, ⟨hf2.below, hf2.old, hf2.new, hf2.lt, hf2.others, hf2.pt, hf2.away.set (e0 := .cell v) (by rw [HEnv.get_cons, if_neg (Ne.symm hne)]; exact hb) rfl, ?_, ?_⟩, (he.keeps hlat (fresh_keeps hi _ _)).keeps hlat hkk⟩
  · intro j hh hj
    simp only [HEnv.get_cons] at hj
    split at hj
    · rename_i e'; subst e'
      simp only [Option.some.injEq] at hj; subst hj
      have hb2 := (hf2.heap.ok b (.cell v) (by rw [HEnv.get_cons, if_neg (Ne.symm hne)]; exact hb)).keeps hev hf.lt hkk
      obtain ⟨b', t', arr, u, hr, hB, hheap, hu, harr, hn⟩ := hb2
      refine ⟨b', t', arr, u, hr, hB, hheap, ?_, harr, hn⟩
      have hu' := hu.aggOf hv
      cases hu' with
      | agg _ vs a1 a2 a3 =>
        refine .agg _ vs (by simpa using a1) a2 fun m c x hc hx => ?_
        rw [List.getElem?_set] at hc
        split at hc
        · rename_i e1; subst e1
          split at hc
          · simp only [Option.some.injEq] at hc; subst hc
            have := a3 k _ x hk hx
            cases this with
            | pv _ _ hp =>
              cases hp
              have := ARel.own (K := K) (w := w) (ρ := fun j => if j = i then .slice none 0 0 else ρ j) (H := (b, .cell (.agg (cs.set k (.own i)))) :: (i, HE.mrow e sz []) :: H) i (by simp [HEnv.get_cons, hne])
              simpa using this
          · cases hc
        · exact a3 m c x hc hx
    · exact (hf2.heap.ok j hh (by simpa only [HEnv.get_nil, HEnv.get_cons] using hj)).keeps hev hf.lt hkk
  · intro j k' hh hh' bb hjk hj hk' hlj hlk hbj hbk
    have e1 : ∀ (j : Nat) (hh : HE), HEnv.get ((b, .cell (.agg (cs.set k (.own i)))) :: (i, HE.mrow e sz []) :: H) j = some hh → hh.live = true → ∃ h0, HEnv.get ((i, HE.mrow e sz []) :: H) j = some h0 ∧ h0.live = true := by
      intro j hh hj hl
      rw [HEnv.get_cons] at hj
      split at hj
      · rename_i e'; subst e'
        refine ⟨.cell v, ?_, rfl⟩
        simp only [HEnv.get_cons]; rw [if_neg (Ne.symm hne)]; exact hb
      · exact ⟨hh, hj, hl⟩
    obtain ⟨a1, a2, a3⟩ := e1 j hh hj hlj
    obtain ⟨b1, b2, b3⟩ := e1 k' hh' hk' hlk
    exact hf2.heap.apart j k' a1 b1 bb hjk a2 b2 a3 b3 hbj hbk
end

/-! ## Structures with owned parts: built, and read in part -/
section
variable {P : Program} {tb : Tab} {g : Base} {H : HEnv} {env : Env} {o : Oper} {K : KK} {w : World} {ρ : Nat → Value}
def AL (K : KK) (w : World) (ρ : Nat → Value) (H : HEnv) (cs : List AV) (vs : List Value) : Prop := vs.length = cs.length ∧ ∀ (k : Nat) (c : AV) (v : Value), cs[k]? = some c → vs[k]? = some v → ARel K w ρ H c v
theorem AL.take {cs : List AV} {vs : List Value} (h : AL K w ρ H cs vs) (n : Nat) : AL K w ρ H (cs.take n) (vs.take n) :=
  ⟨by simp [h.1], fun k c v hc hv => by
    rw [List.getElem?_take] at hc hv
    split at hc
    · rename_i hk; rw [if_pos hk] at hv; exact h.2 k c v hc hv
    · cases hc⟩
theorem AL.drop {cs : List AV} {vs : List Value} (h : AL K w ρ H cs vs) (n : Nat) : AL K w ρ H (cs.drop n) (vs.drop n) :=
  ⟨by simp [h.1], fun k c v hc hv => by
    rw [List.getElem?_drop] at hc hv
    exact h.2 _ c v hc hv⟩
theorem AL.append {cs ds : List AV} {vs us : List Value} (h : AL K w ρ H cs vs) (h' : AL K w ρ H ds us) : AL K w ρ H (cs ++ ds) (vs ++ us) :=
  ⟨by simp [h.1, h'.1], fun k c v hc hv => by
    rw [List.getElem?_append] at hc hv
    rw [h.1] at hv
    split at hc
    · rename_i hk; rw [if_pos hk] at hv; exact h.2 k c v hc hv
    · rename_i hk; rw [if_neg hk] at hv; exact h'.2 _ c v hc hv⟩
def fillA (place : Nat → Option (Nat × Nat)) : List AV → List (Nat × AV) → Option (List AV)
  | cells, [] => some cells
  | cells, (i, p) :: r =>
    match place i with
    | none => none
    | some (off, size) => if p.flat.length = size ∧ off + size ≤ cells.length then fillA place (cells.take off ++ p.flat ++ cells.drop (off + size)) r else none
def idxAvs (env : Env) : List (Nat × Operand) → Option (List (Nat × AV))
  | [] => some []
  | (i, x) :: xs => match env.val x, idxAvs env xs with | some p, some ps => some ((i, p) :: ps) | _, _ => none
theorem fill_relA (place : Nat → Option (Nat × Nat)) (hrow : ∀ i, isVal H i = true → (ρ i).cells = #[ρ i] ∧ (ρ i).oneCell' = true) : ∀ {ps : List (Nat × AV)} {cells cs : List AV} {vcells : Array Value} {vps : List (Nat × Value)}, AL K w ρ H cells vcells.toList → ps.map (·.1) = vps.map (·.1) →
    AL K w ρ H (ps.map (·.2)) (vps.map (·.2)) → (ps.all fun x => x.2.flat.all (oneA H)) = true → fillA place cells ps = some cs → ∃ r, Instr.fill place vcells vps = some r ∧ AL K w ρ H cs r.toList
  | [], cells, cs, vcells, vps, hc, hi, hp, _, h => by
    have : vps = [] := by simpa using hi.symm
    subst this
    simp [fillA] at h; subst h
    exact ⟨vcells, rfl, hc⟩
  | (i, p) :: ps, cells, cs, vcells, vps, hc, hi, hp, ho, h => by
    cases vps with
    | nil => simp at hi
    | cons x vps =>
      obtain ⟨j, v⟩ := x
      simp at hi
      obtain ⟨rfl, hi⟩ := hi
      simp only [List.map_cons] at hp
      have hpv := hp.2 0 p v rfl rfl
      have hps : AL K w ρ H (ps.map (·.2)) (vps.map (·.2)) := ⟨by have := hp.1; simpa using this, fun k c u h1 h2 => hp.2 (k + 1) c u (by simpa using h1) (by simpa using h2)⟩
      simp only [List.all_cons, Bool.and_eq_true] at ho
      simp only [fillA] at h
      split at h
      · cases h
      · rename_i off size hpl
        split at h
        · rename_i hle
          obtain ⟨f1, f2, f3⟩ := flat_rel hpv ho.1 hrow
          have hcr : AL K w ρ H p.flat v.cells.toList := ⟨by simpa using f1, f3⟩
          have hsz : v.cells.size = size := by rw [← hle.1, f1]
          have hcs : vcells.size = cells.length := by rw [← hc.1]; simp
          have hfold := foldl_set off v.cells.toList 0 vcells (by simp; omega)
          obtain ⟨r, hr1, hr2⟩ := fill_relA place hrow (vcells := (v.cells.toList.zipIdx 0).foldl (fun cs (c : Value × Nat) => cs.setIfInBounds (off + c.2) c.1) vcells) (vps := vps) (cells := cells.take off ++ p.flat ++ cells.drop (off + size)) (cs := cs)
            (by rw [hfold]; simp only [Nat.add_zero, Array.length_toList, hsz]; exact ((hc.take off).append hcr).append (hc.drop _)) (by simpa using hi) hps ho.2 h
          refine ⟨r, ?_, hr2⟩
          rw [← hr1]
          simp only [Instr.fill, hpl]
          rw [← Array.foldl_toList, Array.toList_zipIdx, if_neg (by simp; omega)]
        · cases h
theorem idxAvs_rel {a : Act} : ∀ {xs : List (Nat × Operand)} {ps : List (Nat × AV)}, (∀ x ∈ xs, ∀ av, env.val x.2 = some av → ARel K w ρ H av (a.eval x.2)) → idxAvs env xs = some ps →
    ps.map (·.1) = xs.map (·.1) ∧ AL K w ρ H (ps.map (·.2)) (xs.map fun x => a.eval x.2)
  | [], ps, _, h => by simp [idxAvs] at h; subst h; exact ⟨rfl, rfl, fun k c v h => by simp at h⟩
  | (i, x) :: xs, ps, hv, h => by
    simp only [idxAvs] at h
    split at h
    · rename_i p qs e1 e2
      simp only [Option.some.injEq] at h; subst h
      obtain ⟨r1, r2⟩ := idxAvs_rel (fun y hy => hv y (by simp [hy])) e2
      refine ⟨by simp [r1], by simp [r2.1], fun k c v hc hvv => ?_⟩
      cases k with
      | zero => simp at hc hvv; subst hc hvv; exact hv (i, x) (by simp) _ e1
      | succ k => exact r2.2 k c v (by simpa using hc) (by simpa using hvv)
    · cases h
theorem q_buildA (htb : TabOK P tb) {t : Nat} {parts : Array (Nat × Operand)} {fs : List (Nat × Nat × Nat)} {z : Value} {zs : List PV} {ps : List (Nat × AV)} {cs : List AV} (hop : o.op = .build t parts) (hk : ∃ q, tb.k t = .agg fs q) (hz : tb.zero t = some z)
    (hzs : zeroPVs z.cells.toList = some zs) (hps : idxAvs env parts.toList = some ps) (hone : (ps.all fun x => x.2.flat.all (oneA H)) = true) (hall : (fs.all fun f => tb.known f.2.1 && tb.size f.2.1 == f.2.2) = true)
    (hcs : fillA (placeE fs) (zs.map .pv) ps = some cs) : QStep P g H o env (.agg cs) := by
  refine ⟨fun K ρ a w hfs hv => ?_⟩
  obtain ⟨q, hk⟩ := hk
  obtain ⟨F, hF, hfs', _⟩ := tab_agg htb hk
  obtain ⟨h1, h2⟩ := idxAvs_rel (K := K) (w := w) (ρ := ρ) (H := H) (a := a) (xs := parts.toList) (fun x hx => hv x.2 (by rw [hop]; simp [Op.operands]; exact ⟨x.1, by simpa using hx⟩)) hps
  have hz0 : AL K w ρ H (zs.map .pv) z.cells.toList := by
    have := zeroPVs_rel (K := K) (w := w) hzs
    refine ⟨by rw [List.length_map]; exact this.1, fun k c v hc hvv => ?_⟩
    rw [List.getElem?_map] at hc
    cases hk2 : zs[k]? with
    | none => simp [hk2] at hc
    | some p => simp [hk2] at hc; subst hc; exact .pv _ _ (this.2 k p v hk2 hvv)
  obtain ⟨rr, hr1, hr2⟩ := fill_relA (K := K) (w := w) (ρ := ρ) (H := H) _ (row_one hfs) (vcells := z.cells) (vps := parts.toList.map fun x => (x.1, a.eval x.2)) hz0 (by simpa [List.map_map, Function.comp_def] using h1) (by simpa [List.map_map, Function.comp_def] using h2) hone hcs
  have hzi : ∃ i, P.info? t = some i ∧ i.zero = some z := by
    unfold Tab.zero at hz
    split at hz
    · rename_i ti hti
      obtain ⟨i, e1, _, _, e4, _⟩ := tab_info htb hti
      exact ⟨i, e1, by rw [e4]; exact hz⟩
    · cases hz
  obtain ⟨i, hi, hiz⟩ := hzi
  have hplaces : ∀ (l : List Field), (∀ f ∈ l, f ∈ F.toList) → (l.mapM fun f => (Prod.mk f.offset <$> sizeOf f.type : Sem (Nat × Nat))).run P w = .ok (l.map fun f => (f.offset, tb.size f.type)) w := by
    intro l
    induction l with
    | nil => intro _; simp
    | cons f l ih =>
      intro hl
      have hf : f ∈ F.toList := hl f (by simp)
      have hall' := List.all_eq_true.1 hall (f.offset, f.type, P.cellsOf f.type) (by rw [← hfs']; exact List.mem_map.2 ⟨f, hf, rfl⟩)
      simp only [Bool.and_eq_true] at hall'
      have hko : tb.k f.type ≠ .oth := by intro e; simp [Tab.known, e] at hall'
      have hs := run_sizeOf htb hko w
      have ih' := ih (fun f hf => hl f (by simp [hf]))
      simp [List.mapM_cons, hs, ih']
  have hpl := hplaces F.toList (fun f hf => hf)
  have hfun : placeE fs = fun i => ((F.toList.map fun f => (f.offset, tb.size f.type)).toArray)[i]? := by
    funext i
    rw [← hfs']
    simp only [placeE, List.getElem?_map, List.getElem?_toArray, Array.getElem?_toList]
    cases hfl : F[i]? with
    | none => rfl
    | some f =>
      simp only [Option.map_some, Option.some.injEq, Prod.mk.injEq, true_and]
      have hf : f ∈ F.toList := by simpa using Array.mem_of_getElem? hfl
      have hall' := List.all_eq_true.1 hall (f.offset, f.type, P.cellsOf f.type) (by rw [← hfs']; exact List.mem_map.2 ⟨f, hf, rfl⟩)
      simp only [Bool.and_eq_true, beq_iff_eq] at hall'
      exact hall'.2.symm
  rw [hfun] at hr1
  have : (execOp a.eval o).run P w = .ok (.value (.agg rr)) w := by
    have hm : (F.mapM fun f => (do pure (f.offset, ← sizeOf f.type) : Sem (Nat × Nat))).run P w = .ok (F.toList.map fun f => (f.offset, tb.size f.type)).toArray w := by
      rw [Array.mapM_eq_mapM_toList]
      simp only [bind_pure_comp, Sem.run_map, hpl, Result.andThen_ok]
    have hp2 : (parts.map fun x => (x.1, a.eval x.2)).toList = parts.toList.map fun x => (x.1, a.eval x.2) := by simp
    simp only [execOp, hop, Instr.build, Sem.run_bind, zeroValue, typeInfo, run_program, hi, hiz, Result.andThen_ok, Sem.run_pure, run_underlying hF, hm, hp2, hr1]
  rw [this]
  have hone' : ∀ v ∈ rr.toList, v.oneCell' = true := fill_one _ hr1 (zeroPVs_one hzs) (by
    intro x hx v hv'
    obtain ⟨k, hk⟩ := List.getElem?_of_mem hx
    have hk2 : (parts.toList.map fun x => a.eval x.2)[k]? = some x.2 := by
      rw [List.getElem?_map] at hk ⊢
      cases hpk : parts.toList[k]? with
      | none => rw [hpk] at hk; simp at hk
      | some y => rw [hpk] at hk; simp at hk; subst hk; rfl
    have hlt : k < (ps.map (·.2)).length := by rw [← h2.1]; exact (List.getElem?_eq_some_iff.1 hk2).1
    have hp := List.getElem?_eq_getElem hlt
    have hall1 := List.all_eq_true.1 hone (ps[k]'(by simpa using hlt)) (List.getElem_mem _)
    exact (flat_rel (h2.2 k _ _ hp hk2) (by simpa using hall1) (row_one hfs)).2.1 v hv')
  exact qval hfs (by have := ARel.agg (K := K) (w := w) (ρ := ρ) (H := H) cs rr.toList hr2.1 hone' hr2.2; simpa using this)
/-- A part of an owned structure that is plain. -/
theorem q_boxload (htb : TabOK P tb) {ty : Nat} {x : Operand} {i off : Nat} {cs : List AV} {ps : List PV} {q : PV} (hop : o.op = .load ty x) (hx : env.val x = some (.box i off)) (hi : H.get i = some (.cell (.agg cs))) (hps : (cs.drop off).take ps.length = ps.map .pv) (hq : partE tb ty ps 0 = some q) : QStep P g H o env (.pv q) := by
  refine ⟨fun K ρ a w hf hv => ?_⟩
  have hxr := hv x (by rw [hop]; simp [Op.operands]) _ hx
  generalize hxv : a.eval x = xv at hxr
  obtain ⟨b, t, arr, u, hr, hB, hheap, hu, harr, hn⟩ := hf.heap.ok i _ hi
  cases hxr with
  | box _ _ b' hi' hρ =>
    rw [hr] at hρ
    simp only [Value.pointer.injEq, Option.some.injEq, Addr.mk.injEq, and_true] at hρ
    subst hρ
    cases hu with
    | agg _ vs a1 a2 a3 =>
      have hcell : ∀ (k : Nat) (v : Value), ((vs.drop off).take ps.length)[k]? = some v → w.cell? ⟨b, off + k, none⟩ = some v := by
        intro k v hv
        rw [List.getElem?_take] at hv
        split at hv
        · rw [List.getElem?_drop] at hv
          simp only [World.cell?, hheap]
          rw [← harr]
          simpa [Value.cells] using hv
        · cases hv
      have hrels : PRels K w ps ((vs.drop off).take ps.length) := by
        have hl : ((cs.drop off).take ps.length).length = ps.length := by rw [hps, List.length_map]
        refine ⟨by rw [List.length_take, List.length_drop] at hl ⊢; rw [a1]; exact hl, fun k c v hc hv => ?_⟩
        have hck : ((cs.drop off).take ps.length)[k]? = some (.pv c) := by rw [hps, List.getElem?_map, hc]; rfl
        rw [List.getElem?_take] at hck hv
        split at hck
        · rename_i hk
          rw [if_pos hk, List.getElem?_drop] at hv
          rw [List.getElem?_drop] at hck
          have := a3 _ _ _ hck hv
          cases this with
          | pv _ _ hp => exact hp
        · cases hck
      have hone : ∀ v ∈ (vs.drop off).take ps.length, v.oneCell' = true := fun v hv => a2 v (List.mem_of_mem_drop (List.mem_of_mem_take hv))
      obtain ⟨v, hv, hvr⟩ := run_loadVar_rows htb (b := b) (o := off) hcell hrels hone hq
      have hrun : (execOp a.eval o).run P w = .ok (.value v) w := by
        have hv' : (loadVar ty ⟨b, off, none⟩).run P w = .ok v w := hv
        simp [execOp, hop, hxv, Instr.loadAt, Instr.sureAddr, hv']
      rw [hrun]
      exact qval hf (.pv _ _ hvr)
end
end Go.Cg
namespace Go.Cg
open Go.Proofs

/-! flags of methods, and which are alike: both sides -/
set_option maxHeartbeats 1000000 in
theorem has_call (m : Me) (f : Int) : ACall Tryz.prog 121 [mePV m, pi f] (pb (andB m.flags f)) := by
  refine acall_intro tbOK Tryz.func121 rfl (by kernel_rfl) Tryz.ntmps121 (by simp) _ rfl (fun hw gB hgB => ?_)
  repeat' (first | refine sA ?_ | refine sC (fun _ => ?_) (fun _ => ?_) | fail)
  all_goals (first | refine retq rfl ?_ | refine retn rfl ?_)
  all_goals (first | (simp_all [retPV, andB]; done) | (simp_all [retPV, andB]; omega))
set_option maxHeartbeats 1000000 in
theorem Bit1_call (m : Me) : ACall Tryz.prog 91 [mePV m, pi 1] (pb (bitF m.flags 1)) := by
  refine acall_intro tbOK Tryz.func91 rfl (by kernel_rfl) Tryz.ntmps91 (by simp) _ rfl (fun hw gB hgB => ?_)
  repeat' (first | refine sA ?_ | refine sC (fun _ => ?_) (fun _ => ?_) | fail)
  all_goals (first | refine retq rfl ?_ | refine retn rfl ?_)
  all_goals (first | (simp_all [retPV, bitF]; done) | (simp_all [retPV, bitF]; omega))
set_option maxHeartbeats 1000000 in
theorem Bit2_call (m : Me) : ACall Tryz.prog 91 [mePV m, pi 2] (pb (bitF m.flags 2)) := by
  refine acall_intro tbOK Tryz.func91 rfl (by kernel_rfl) Tryz.ntmps91 (by simp) _ rfl (fun hw gB hgB => ?_)
  repeat' (first | refine sA ?_ | refine sC (fun _ => ?_) (fun _ => ?_) | fail)
  all_goals (first | refine retq rfl ?_ | refine retn rfl ?_)
  all_goals (first | (simp_all [retPV, bitF]; done) | (simp_all [retPV, bitF]; omega))
set_option maxHeartbeats 1000000 in
theorem Bit4_call (m : Me) : ACall Tryz.prog 91 [mePV m, pi 4] (pb (bitF m.flags 4)) := by
  refine acall_intro tbOK Tryz.func91 rfl (by kernel_rfl) Tryz.ntmps91 (by simp) _ rfl (fun hw gB hgB => ?_)
  repeat' (first | refine sA ?_ | refine sC (fun _ => ?_) (fun _ => ?_) | fail)
  all_goals (first | refine retq rfl ?_ | refine retn rfl ?_)
  all_goals (first | (simp_all [retPV, bitF]; done) | (simp_all [retPV, bitF]; omega))
set_option maxHeartbeats 1000000 in
theorem Bit8_call (m : Me) : ACall Tryz.prog 91 [mePV m, pi 8] (pb (bitF m.flags 8)) := by
  refine acall_intro tbOK Tryz.func91 rfl (by kernel_rfl) Tryz.ntmps91 (by simp) _ rfl (fun hw gB hgB => ?_)
  repeat' (first | refine sA ?_ | refine sC (fun _ => ?_) (fun _ => ?_) | fail)
  all_goals (first | refine retq rfl ?_ | refine retn rfl ?_)
  all_goals (first | (simp_all [retPV, bitF]; done) | (simp_all [retPV, bitF]; omega))
set_option maxHeartbeats 1000000 in
theorem Bit16_call (m : Me) : ACall Tryz.prog 91 [mePV m, pi 16] (pb (bitF m.flags 16)) := by
  refine acall_intro tbOK Tryz.func91 rfl (by kernel_rfl) Tryz.ntmps91 (by simp) _ rfl (fun hw gB hgB => ?_)
  repeat' (first | refine sA ?_ | refine sC (fun _ => ?_) (fun _ => ?_) | fail)
  all_goals (first | refine retq rfl ?_ | refine retn rfl ?_)
  all_goals (first | (simp_all [retPV, bitF]; done) | (simp_all [retPV, bitF]; omega))
def alikeP (a b : Me) : Bool := a.name.toList == b.name.toList && decide (a.ret = b.ret) && (andB a.flags 1 == andB b.flags 1) && decide (a.params = b.params)
def alikeR (a b : Me) : Bool := a.name.toList == b.name.toList && sameSig a b
set_option maxHeartbeats 1000000 in
theorem AlikeP_call (a b : Me) : ACall Tryz.prog 161 [mePV a, mePV b] (pb (alikeP a b)) := by
  refine acall_intro tbOK Tryz.func161 rfl (by kernel_rfl) Tryz.ntmps161 (by simp) _ rfl (fun hw gB hgB => ?_)
  have hty := tyEq_iff a.ret b.ret
  repeat' (first | (refine shC ?_; first | refine qC (has_call _ _) ?_ | refine qC (EqualTy_call _ _) ?_) | refine sA ?_ | refine sC (fun _ => ?_) (fun _ => ?_) | fail)
  all_goals refine retq rfl ?_
  all_goals (simp only [retPV, alikeP, ← hty]; clear hty; simp_all)
set_option maxHeartbeats 1000000 in
theorem AlikeR_call (a b : Me) : ACall Tryz.prog 42 [mePV a, mePV b] (pb (alikeR a b)) := by
  refine acall_intro tbOK Tryz.func42 rfl (by kernel_rfl) Tryz.ntmps42 (by simp) _ rfl (fun hw gB hgB => ?_)
  repeat' (first | (refine shC ?_; first | refine qC (SameSig_call _ _) ?_) | refine sA ?_ | refine sC (fun _ => ?_) (fun _ => ?_) | fail)
  all_goals (first | refine retq rfl ?_ | refine retn rfl ?_)
  all_goals (first | (simp_all [retPV, alikeR]; done) | (simp_all [retPV, alikeR]; omega))
theorem andB2_fin : ∀ a b : Fin 32, (andB (a.val : Int) 1 == andB (b.val : Int) 1) = ((a.val : Int).tmod 2 == (b.val : Int).tmod 2) := by decide +kernel
theorem flags_fin : ∀ a : Fin 32, andB (a.val : Int) 1 = bitF a.val 1 ∧ andB (a.val : Int) 2 = bitF a.val 2 ∧ andB (a.val : Int) 4 = bitF a.val 4 ∧ andB (a.val : Int) 8 = bitF a.val 8 ∧ andB (a.val : Int) 16 = bitF a.val 16 := by decide +kernel
theorem flags_eq {f : Int} (h0 : 0 ≤ f) (h1 : f ≤ 31) : andB f 1 = bitF f 1 ∧ andB f 2 = bitF f 2 ∧ andB f 4 = bitF f 4 ∧ andB f 8 = bitF f 8 ∧ andB f 16 = bitF f 16 := by
  have := flags_fin ⟨f.toNat, by omega⟩
  simpa only [Int.toNat_of_nonneg h0] using this
theorem alike_eq {x y : Me} (hx0 : 0 ≤ x.flags) (hx1 : x.flags ≤ 31) (hy0 : 0 ≤ y.flags) (hy1 : y.flags ≤ 31) : alikeP x y = alikeR x y := by
  have := andB2_fin ⟨x.flags.toNat, by omega⟩ ⟨y.flags.toNat, by omega⟩
  simp only [Int.toNat_of_nonneg hx0, Int.toNat_of_nonneg hy0] at this
  rw [alikeP, alikeR, sameSig, this]
  simp only [Bool.and_assoc]
end Go.Cg
namespace Go.Cg
open Go.Proofs

/-! a class's table, plainly -/
def alk (g : Img) (a b : Int) : Bool := alikeR (mAt g a) (mAt g b)
def virt (g : Img) (m : Int) : Bool := bitF (mAt g m).flags 2
def fresh (g : Img) (m : Int) : Bool := bitF (mAt g m).flags 8
def tblStep (g : Img) (out : List Int) (m : Int) : List Int :=
  if virt g m then (if out.any (fun x => alk g x m) && !fresh g m then out.set (out.findIdx (fun x => alk g x m)) m else out ++ [m]) else out
def tblFold (g : Img) (out : List Int) (ms : List Int) : List Int := ms.foldl (tblStep g) out
def tblU (g : Img) (us : List Int) : List Int := us.foldl (fun out u => tblFold g out (methodsOf g u)) []
def tbl (g : Img) (t : Int) : List Int := tblU g (up g t).reverse
theorem tbl_none {g : Img} {t : Int} (h : typeAt g t = none) : tbl g t = [] := by rw [tbl, up_nil h]; rfl
theorem tbl_cons {g : Img} (hW : Wl g) {t : Int} {td : TD} (h : typeAt g t = some td) : tbl g t = tblFold g (tbl g td.ext) (methodsOf g t) := by
  rw [tbl, hW.up_cons h, List.reverse_cons, tblU, List.foldl_append]; rfl
def mOk (g : Img) (x : Int) : Prop := 0 ≤ x ∧ x.toNat < g.methods.length
theorem tblStep_mem {g : Img} {out : List Int} {m x : Int} (h : x ∈ tblStep g out m) : x ∈ out ∨ x = m := by
  rw [tblStep] at h
  split at h
  · split at h
    · exact List.mem_or_eq_of_mem_set h
    · simpa using h
  · exact .inl h
theorem tblStep_len (g : Img) (out : List Int) (m : Int) : out.length ≤ (tblStep g out m).length ∧ (tblStep g out m).length ≤ out.length + 1 := by
  rw [tblStep]
  split
  · split <;> simp
  · simp
theorem tblFold_mem {g : Img} {x : Int} : ∀ {ms out : List Int}, x ∈ tblFold g out ms → x ∈ out ∨ x ∈ ms
  | [], out, h => .inl h
  | m :: ms, out, h => by
    rcases tblFold_mem (ms := ms) (out := tblStep g out m) h with h | h
    · rcases tblStep_mem h with h | rfl
      · exact .inl h
      · exact .inr (by simp)
    · exact .inr (by simp [h])
theorem tblFold_len (g : Img) : ∀ (ms out : List Int), out.length ≤ (tblFold g out ms).length ∧ (tblFold g out ms).length ≤ out.length + ms.length
  | [], out => by simp [tblFold]
  | m :: ms, out => by
    have h1 := tblFold_len g ms (tblStep g out m)
    have h2 := tblStep_len g out m
    have e : tblFold g out (m :: ms) = tblFold g (tblStep g out m) ms := rfl
    rw [e, List.length_cons]; omega
theorem tblU_len {g : Img} (us : List Int) : (tblU g us).length ≤ g.methods.length * us.length := by
  rw [tblU]
  have key : ∀ (us : List Int) (out : List Int), (us.foldl (fun out u => tblFold g out (methodsOf g u)) out).length ≤ out.length + g.methods.length * us.length := by
    intro us
    induction us with
    | nil => intro out; simp
    | cons u us ih =>
      intro out
      have h1 := ih (tblFold g out (methodsOf g u))
      have h2 := (tblFold_len g (methodsOf g u) out).2
      have h3 := methodsOf_len g u
      rw [List.foldl_cons, List.length_cons, Nat.mul_succ]; omega
  have := key us []
  simpa using this
theorem tblU_mem {g : Img} {x : Int} : ∀ {us : List Int}, x ∈ tblU g us → mOk g x := by
  have key : ∀ (us : List Int) (out : List Int), (∀ x ∈ out, mOk g x) → ∀ x ∈ us.foldl (fun out u => tblFold g out (methodsOf g u)) out, mOk g x := by
    intro us
    induction us with
    | nil => intro out h; exact h
    | cons u us ih =>
      intro out h
      refine ih _ fun x hx => ?_
      rcases tblFold_mem hx with hx | hx
      · exact h x hx
      · exact methodsOf_mem hx
  intro us h
  exact key us [] (by simp) x h
theorem tbl_mem {g : Img} {t x : Int} (h : x ∈ tbl g t) : mOk g x := tblU_mem h
theorem tbl_len {g : Img} (hF : Fine g) (t : Int) : (tbl g t).length ≤ 2048 := by
  have h1 := tblU_len (g := g) (up g t).reverse
  obtain ⟨b1, _, b3, _⟩ := formedG_bounds hF.formed
  have hui := up_inv g t
  have hul := nodup_le _ _ hui.1 hui.2
  rw [List.length_reverse] at h1
  have : g.methods.length * (up g t).length ≤ 64 * 32 := Nat.mul_le_mul b3 (by omega)
  rw [tbl]; omega
/-! alike is an equivalence; what extends a class keeps its slots -/
theorem alikeR_iff {a b : Me} : alikeR a b = true ↔ (a.name.toList = b.name.toList ∧ a.ret = b.ret ∧ a.flags.tmod 2 = b.flags.tmod 2 ∧ a.params = b.params) := by
  simp [alikeR, sameSig, and_assoc]
theorem alk_refl (g : Img) (a : Int) : alk g a a = true := alikeR_iff.2 ⟨rfl, rfl, rfl, rfl⟩
theorem alk_symm {g : Img} {a b : Int} (h : alk g a b = true) : alk g b a = true := by
  obtain ⟨h1, h2, h3, h4⟩ := alikeR_iff.1 h
  exact alikeR_iff.2 ⟨h1.symm, h2.symm, h3.symm, h4.symm⟩
theorem alk_trans {g : Img} {a b c : Int} (h : alk g a b = true) (h' : alk g b c = true) : alk g a c = true := by
  obtain ⟨h1, h2, h3, h4⟩ := alikeR_iff.1 h
  obtain ⟨k1, k2, k3, k4⟩ := alikeR_iff.1 h'
  exact alikeR_iff.2 ⟨h1.trans k1, h2.trans k2, h3.trans k3, h4.trans k4⟩
theorem tblStep_alk (g : Img) (out : List Int) (m : Int) : ∀ i, i < out.length → alk g ((tblStep g out m).getD i 0) (out.getD i 0) = true := by
  intro i hi
  rw [tblStep]
  split
  · split
    · rename_i h
      simp only [Bool.and_eq_true] at h
      rw [List.getD_eq_getElem?_getD, List.getElem?_set]
      split
      · rename_i e
        subst e
        rw [if_pos hi, Option.getD_some, getD_get hi]
        exact alk_symm (List.findIdx_getElem (w := hi))
      · rw [← List.getD_eq_getElem?_getD]; exact alk_refl g _
    · rw [List.getD_eq_getElem?_getD, List.getElem?_append_left hi, ← List.getD_eq_getElem?_getD]; exact alk_refl g _
  · exact alk_refl g _
theorem tblFold_alk (g : Img) : ∀ (ms out : List Int), ∀ i, i < out.length → alk g ((tblFold g out ms).getD i 0) (out.getD i 0) = true
  | [], out, i, _ => alk_refl g _
  | m :: ms, out, i, hi => alk_trans (tblFold_alk g ms (tblStep g out m) i (by have := (tblStep_len g out m).1; omega)) (tblStep_alk g out m i hi)
/-- the search from behind -/
def atF (g : Img) (out : List Int) (m : Int) (k : Nat) : Int := if (out.drop k).any (fun x => alk g x m) then ((k + (out.drop k).findIdx (fun x => alk g x m) : Nat) : Int) else -1
theorem atF_end (g : Img) (out : List Int) (m : Int) : atF g out m out.length = -1 := by simp [atF]
theorem atF_step {g : Img} {out : List Int} {m : Int} {k : Nat} (h : k < out.length) : atF g out m k = if alk g out[k] m then (k : Int) else atF g out m (k + 1) := by
  rw [atF, atF, List.drop_eq_getElem_cons h, List.any_cons, List.findIdx_cons]
  cases alk g out[k] m <;> simp
  split <;> omega
theorem atF_range {g : Img} {out : List Int} {m : Int} (k : Nat) : atF g out m k = -1 ∨ (0 ≤ atF g out m k ∧ (atF g out m k).toNat < out.length) := by
  rw [atF]
  split
  · rename_i h
    right
    obtain ⟨x, hx, hp⟩ := List.any_eq_true.1 h
    have := List.findIdx_lt_length_of_exists (p := fun x => alk g x m) ⟨x, hx, hp⟩
    rw [List.length_drop] at this
    omega
  · exact .inl rfl
theorem tblStep_at {g : Img} {out : List Int} {m : Int} (hv : virt g m = true) : tblStep g out m = if decide (atF g out m 0 < 0) || fresh g m then out ++ [m] else out.set (atF g out m 0).toNat m := by
  rw [tblStep, if_pos hv, atF, List.drop_zero]
  cases out.any (fun x => alk g x m) <;> cases fresh g m <;> simp
  all_goals (first | done | omega | (intro; omega))
end Go.Cg
