/- A part of the walks by abstract values: no statement of its own. -/
import Derived.Test.YthekdpbplmigeaaGreatU7
import Derived.Test.YthekdpbplmigeaaGreatU12
import Derived.Laws.Pointers
import Derived.Laws.CopyRow
import Derived.Test.YthekdpbplmigeaaGreatU8
import Derived.Test.YthekdpbplmigeaaGreatU10
namespace Go.Cg
open Go.RowKit
structure ACallM (P : Program) (f : FuncId) (args : List AV) (H : HEnv) (r : AV) (H' : HEnv) (lone : Bool := false) : Prop where
 stands : Stands P f
 calls : ∀ (g : Base) (K : KK) (ρ : Nat → Value) (w : World) (vs : List Value), (lone = true → g.w1.heap.size = 0) → FS g K ρ H w → ARels K w ρ H args vs →
  Calls P f vs.toArray w fun e w' => ∃ v K' ρ', e = .returned v ∧ FS g K' ρ' H' w' ∧ ARel K' w' ρ' H' r v
def RetM (tb : Tab) (rs : List ResultVar) (r : AV) (H' : HEnv) : QC := fun ex env H => (ex = .normal ∨ ex = .ret) ∧
 ((∃ ps, resEs tb H env rs = some ps ∧ r = .pv (retPV ps) ∧ HFit H H' []) ∨ (∃ t, rs = [.tmp t] ∧ env.get t = some r ∧ HFit H H' [(t, r)]))
section
variable {P : Program} {tb : Tab} {n : Nat} {g : Base} {K K' : KK} {w w' : World} {ρ ρ' : Nat → Value} {H H' : HEnv} {env : Env} {a : Act} {ops : List Oper} {o : Oper} {rest : List Oper} {Q : Env → HEnv → Prop} {f : FuncId} {args : List AV} {r : AV}
theorem FS.narrow {e : Env} (hf : FS g K ρ H w) (hs : HFit H H' e) : FS g K ρ H' w := by
 obtain ⟨hs, hin⟩ := hs
 simp only [Bool.and_eq_true] at hin
 refine ⟨hf.below, hf.old, hf.new, hf.lt, hf.others, hf.pt, fun i h b hi => hf.away i h b (hs i h hi), ?_, ?_⟩
 ·intro i h hi
  have := hf.heap.ok i h (hs i h hi)
  cases h with
  | cell v => obtain ⟨b, t, arr, u, h1, h2, h3, h4, h5, h6⟩ := this; exact ⟨b, t, arr, u, h1, h2, h3, h4.refs (hIn_get hin.2 i v hi), h5, h6⟩
  | pin v u => exact ARel.refs this (hIn_getp hin.2 i v u hi)
  | row t sz es => exact this
  | mrow t sz es => exact this
  | dead => exact this
  | obj X => exact this
 ·intro i j h h' b hij hi hj
  exact hf.heap.apart i j h h' b hij (hs i h hi) (hs j h' hj)
theorem acallM_intro (htb : TabOK P tb) {fn : Func} {c : Code} (hf : P.funcs[f]? = some fn) (hb : fn.body = some c) (hn : (fn.name == "runtime.NumGoroutine") = false) (hnt : fn.ntmps = n) (hargs : args.length ≤ n) (rs : List ResultVar) (hrs : fn.results.toList = rs)
  {lone : Bool} (h : ∀ g : Base, (lone = true → g.w1.heap.size = 0) → AW P n g c (argsEA 0 args) H (RetM tb rs r H')) : ACallM P f args H r H' lone := by
 refine ⟨⟨fn, hf, by simp [hb], hn⟩, fun g0 K ρ w vs hw1 hfs0 hv => ?_⟩
 obtain ⟨g, hg0⟩ : ∃ g : Base, g = ⟨g0.w0, g0.K0, g0.w1, [], g0.wp, g0.pr⟩ := ⟨_, rfl⟩
 have hfs : FS g K ρ H w := by subst hg0; exact ⟨hfs0.below, hfs0.old, hfs0.new, hfs0.lt, hfs0.others, ⟨hfs0.pt.same, hfs0.pt.kept⟩, hfs0.away, hfs0.heap⟩
 refine calls_of_wp hf hb ?_
 have hlen : vs.length = args.length := hv.1
 refine wp_mono (wpIn_wide.1 ((h g (by subst hg0; exact hw1)).go _ w ⟨by simp [hnt]; omega, by subst hg0; rfl, K, ρ, hfs, ?_⟩ none 0)) ?_
 ·intro t av hg
  obtain ⟨_, hp⟩ := argsEA_get args 0 t av hg
  have hlt : t < vs.length := by rw [hlen]; exact (List.getElem?_eq_some_iff.1 hp).1
  refine ⟨vs[t], ?_, hv.2 t av _ hp (List.getElem?_eq_getElem hlt)⟩
  rw [Array.getElem?_append_left (by simpa using hlt)]
  simp [hlt]
 ·rintro e a' w' ⟨env1, H1, hi, he, hq⟩
  have key : ∃ v K' ρ', (results fn a'.tmps).run P w' = .ok v w' ∧ a'.defers = [] ∧ FS g0 K' ρ' H' w' ∧ ARel K' w' ρ' H' r v := by
   have back : ∀ {K' : KK} {ρ' : Nat → Value}, FS g K' ρ' H' w' → FS g0 K' ρ' H' w' := fun hf1 => by
    subst hg0; exact ⟨hf1.below, hf1.old, hf1.new, hf1.lt, hf1.others, ⟨hf1.pt.same, hf1.pt.kept⟩, hf1.away, hf1.heap⟩
   rcases hq with ⟨ps, hps, rfl, hfit⟩ | ⟨t, ht, hget, hfit⟩
   ·obtain ⟨_, h2, K', ρ', hf', he0⟩ := hi
    obtain ⟨us, hrun, hru⟩ := resEs_rel htb hf' he0 hps
    have hi2 : Inv n g [] H' a' w' := ((⟨‹_›, h2, K', ρ', hf', he0⟩ : Inv n g env1 H1 a' w').sub sub_nil).hsub hfit
    have hres : (results fn a'.tmps).run P w' = .ok (if hh : us.toArray.size = 1 then us.toArray[0] else .tuple us.toArray) w' := by
     unfold results
     rw [Array.mapM_eq_mapM_toList, hrs]
     simp only [Sem.run_bind, Sem.run_map]
     erw [hrun]
     rfl
    have hval : PRel K' w' (retPV ps) (if hh : us.toArray.size = 1 then us.toArray[0] else .tuple us.toArray) := by
     split
     ·rename_i hh
      have hl1 := hru.1
      have hu : us.length = 1 := by simpa using hh
      obtain ⟨u, rfl⟩ := List.length_eq_one_iff.1 hu
      obtain ⟨p, rfl⟩ := List.length_eq_one_iff.1 (show ps.length = 1 by omega)
      exact hru.2 0 p u (by simp) (by simp)
     ·rename_i hh
      simp at hh
      have : retPV ps = .tup ps := by
       unfold retPV
       split
       ·rename_i p; exact absurd (by have := hru.1; simpa using this) hh
       ·rfl
      rw [this]
      exact .tup ps us hru.1 hru.2
    have hf2 := FS.narrow hf' hfit
    exact ⟨_, K', ρ', hres, by rw [h2]; subst hg0; rfl, back hf2, .pv _ _ hval⟩
   ·obtain ⟨h1, h2, K', ρ', hf', he0⟩ := hi
    obtain ⟨v, hv1, hv2⟩ := he0 t r hget
    have hf2 := FS.narrow hf' hfit
    have hin := hfit.2
    simp only [envIn, Bool.and_eq_true] at hin
    have hres : (results fn a'.tmps).run P w' = .ok v w' := by
     unfold results
     rw [Array.mapM_eq_mapM_toList, hrs, ht]
     simp [hv1]
    exact ⟨v, K', ρ', hres, by rw [h2]; subst hg0; rfl, back hf2, hv2.refs hin.1.1⟩
  obtain ⟨v, K', ρ', hres, hd, hf', hr⟩ := key
  rcases he with rfl | rfl
  ·exact ⟨hd, _, hres, v, K', ρ', rfl, hf', hr⟩
  ·exact ⟨hd, _, hres, v, K', ρ', rfl, hf', hr⟩
def pinB (us : Nat → Value) (ps : List Nat) : HEnv := ps.map fun i => (1000 + i, .pin (.own i) (us i))
def deads (ps : List Nat) : HEnv := ps.map fun i => (i, .dead)
def disjH (A : HEnv) (B : HEnv) : Bool := A.all fun x => (B.get x.1).isNone
def callChk (Hc Hc' R : HEnv) (ps : List Nat) (ars : List AV) (env2 : Env) (r : AV) : Bool :=
 disjH Hc R && disjH Hc' R && idsLt 1000 Hc && idsLt 1000 Hc' && allRefsIn Hc ars && hIn Hc Hc && hIn Hc' Hc' && refsIn Hc' r && hIn (R ++ deads ps) R && envIn (R ++ deads ps) env2 && ps.all fun i => (Hc.get i).isSome && (Hc'.get i).isSome
theorem pinB_get {us : Nat → Value} : ∀ {ps : List Nat} {i : Nat} {h : HE}, HEnv.get (pinB us ps) i = some h → 1000 ≤ i ∧ i - 1000 ∈ ps ∧ h = .pin (.own (i - 1000)) (us (i - 1000))
 | [], i, h, hg => by simp [pinB, HEnv.get_nil] at hg
 | p :: ps, i, h, hg => by
  rw [pinB, List.map_cons, HEnv.get_cons] at hg
  split at hg
  ·rename_i e; subst e
   simp only [Option.some.injEq] at hg; subst hg
   rw [Nat.add_sub_cancel_left]; exact ⟨by omega, by simp, rfl⟩
  ·obtain ⟨h1, h2, h3⟩ := pinB_get (ps := ps) hg
   exact ⟨h1, by simp [h2], h3⟩
theorem pinB_mem {us : Nat → Value} : ∀ {ps : List Nat} {i : Nat}, i ∈ ps → HEnv.get (pinB us ps) (1000 + i) = some (.pin (.own i) (us i))
 | [], i, h => by cases h
 | p :: ps, i, h => by
  rw [pinB, List.map_cons, HEnv.get_cons]
  split
  ·rename_i e
   have : p = i := by omega
   subst this; rfl
  ·rename_i e
   rcases List.mem_cons.1 h with rfl | h
   ·exact absurd rfl e
   ·exact pinB_mem h
theorem disjH_get {A B : HEnv} (h : disjH A B = true) : ∀ i x, A.get i = some x → B.get i = none := by
 induction A with
 | nil => intro i x hx; simp [HEnv.get_nil] at hx
 | cons y A ih =>
  intro i x hx
  obtain ⟨j, z⟩ := y
  simp only [disjH, List.all_cons, Bool.and_eq_true] at h
  rw [HEnv.get_cons] at hx
  split at hx
  ·rename_i e; subst e; simpa using h.1
  ·exact ih h.2 i x hx
theorem deads_get {ps : List Nat} {i : Nat} (h : (HEnv.get (deads ps) i).isSome = true) : i ∈ ps := by
 induction ps with
 | nil => simp [deads, HEnv.get_nil] at h
 | cons p ps ih =>
  rw [deads, List.map_cons, HEnv.get_cons] at h
  split at h
  ·rename_i e; simp [e]
  ·simp [ih h]
theorem ownsRow_block {w w' : World} {B e sz n : Nat} {v : Value} {xs : List Value} (h : w.ownsRow B e sz v n xs) (hb : ∀ b, blockOf v = some b → w'.heap[b]? = w.heap[b]?) : w'.ownsRow B e sz v n xs := by
 obtain ⟨h1, h2⟩ := h
 refine ⟨h1, h2.imp id ?_⟩
 rintro ⟨g, cap, cur, a, b, c, d⟩
 exact ⟨g, cap, cur, a, b, by rw [hb g (by rw [a]; rfl)]; exact c, d⟩
theorem blockOf_own {w : World} {B e sz n : Nat} {v : Value} {xs : List Value} (h : w.ownsRow B e sz v n xs) (b : Nat) : blockOf v = some b ↔ v.ownBlock = some b := by
 rcases h.2 with ⟨rfl, _⟩ | ⟨_, _, _, rfl, _⟩ <;> simp [blockOf, Value.ownBlock]
theorem ao_callM {xs : Array Operand} {ts : Array TypeId} {d : Tmp} {ars : List AV} (Hc Hc' R : HEnv) (env2 : Env) {lone : Bool} (ps : List Nat) (hw1 : lone = true → g.w1.heap.size = 0) (hg : guardE ops env o = some true)
  (hop : o.op = .call { callee := .value (.func f), args := xs, argTypes := ts }) (hargs : avs env xs.toList = some ars) (hsub : HSub H (Hc ++ R)) (hs : Sub env env2) (hd : o.dst = some d) (hdt : Nat.blt d n = true)
  (hchk : callChk Hc Hc' R ps ars env2 r = true) (hc : ∀ us, ACallM P f ars (Hc ++ pinB us ps) r (Hc' ++ pinB us ps) lone)
  (h : AO P n g ops.toArray rest ((d, r) :: env2) (Hc' ++ R) Q) : AO P n g ops.toArray (o :: rest) env H Q := by
 simp only [callChk, Bool.and_eq_true] at hchk
 obtain ⟨⟨⟨⟨⟨⟨⟨⟨⟨⟨d1, d2⟩, d3⟩, d4⟩, i1⟩, i2⟩, i3⟩, i4⟩, i5⟩, i6⟩, i7⟩ := hchk
 have i7' : ∀ i ∈ ps, (Hc.get i).isSome = true ∧ (Hc'.get i).isSome = true := fun i hi => by simpa using List.all_eq_true.1 i7 i hi
 refine ⟨fun a w hinv => ?_⟩
 have hw := wanted_of hinv hg
 obtain ⟨h1, h2, K, ρ, hf, he⟩ := hinv
 refine wpList_step fun KK hKK => ?_
 rw [if_pos hw]
 have hlatR : Later K K w w := .refl K w
 have gC : ∀ i x, Hc.get i = some x → H.get i = some x := fun i x hx => hsub i x (by rw [get_append, hx])
 have gR : ∀ i x, R.get i = some x → H.get i = some x := fun i x hx => hsub i x (by
  rw [get_append]
  cases hh : Hc.get i with
  | none => exact hx
  | some y => rw [disjH_get d1 i y hh] at hx; cases hx)
 have nC : ∀ i x, R.get i = some x → Hc.get i = none := fun i x hx => by
  cases hh : Hc.get i with
  | none => rfl
  | some y => rw [disjH_get d1 i y hh] at hx; cases hx
 have nC' : ∀ i x, R.get i = some x → Hc'.get i = none := fun i x hx => by
  cases hh : Hc'.get i with
  | none => rfl
  | some y => rw [disjH_get d2 i y hh] at hx; cases hx
 have hpinC : ∀ {A : HEnv} {us : Nat → Value} {i : Nat} {x : HE}, HEnv.get (A ++ pinB us ps) i = some x → x.live = true → A.get i = some x := by
  intro A us i x hx hl
  rw [get_append] at hx
  cases hh : A.get i with
  | some z => rw [hh] at hx; exact hx
  | none =>
   rw [hh] at hx
   obtain ⟨_, _, rfl⟩ := pinB_get hx
   simp [HE.live] at hl
 obtain ⟨g', hg'⟩ : ∃ g' : Base, g' = ⟨g.w0, K, g.w1, g.ds, w, fun b => g.pr b ∨ ∃ i x, R.get i = some x ∧ x.live = true ∧ blockOf (ρ i) = some b⟩ := ⟨_, rfl⟩
 have hfs : FS g' K ρ (Hc ++ pinB ρ ps) w := by
  subst hg'
  refine ⟨hf.below, fun _ _ h => h, fun _ _ h => .inl h, hf.lt, hf.others, ⟨?_, fun _ _ _ => rfl⟩, ?_, ?_, ?_⟩
  ·rintro b (hb | ⟨i, x, hi, hl, hb⟩)
   ·exact ⟨(hf.pt.same b hb).1, rfl, fun _ => Iff.rfl⟩
   ·exact ⟨((hf.heap.ok i x (gR i x hi)).block_lt hl hb).2, rfl, fun _ => Iff.rfl⟩
  ·intro i x b hi hl hb
   have hC := hpinC hi hl
   rintro (hp | ⟨j, y, hj, hly, hbj⟩)
   ·exact hf.away i x b (gC i x hC) hl hb hp
   ·have hne : i ≠ j := by rintro rfl; rw [nC i y hj] at hC; cases hC
    exact hf.heap.apart i j x y b hne (gC i x hC) (gR j y hj) hl hly hb hbj
  ·intro i x hi
   rw [get_append] at hi
   cases hh : Hc.get i with
   | some y =>
    rw [hh] at hi; simp only [Option.some.injEq] at hi; subst hi
    have hok := hf.heap.ok i y (gC i y hh)
    have hk : ∀ j, (HEnv.get Hc j).isSome = true → (HEnv.get (Hc ++ pinB ρ ps) j).isSome = true ∧ ρ j = ρ j := fun j hj => ⟨isSome_append j hj, rfl⟩
    cases y with
    | cell v => obtain ⟨b, t, arr, u, q1, q2, q3, q4, q5, q6⟩ := hok; exact ⟨b, t, arr, u, q1, q2, q3, (q4.refs (hIn_get i2 i v hh)).keeps hlatR hk, q5, q6⟩
    | pin v u => exact (ARel.refs hok (hIn_getp i2 i v u hh)).keeps hlatR hk
    | row t sz es => exact hok
    | mrow t sz es => exact hok
    | dead => exact hok
    | obj X => exact hok
   | none =>
    rw [hh] at hi
    obtain ⟨q1, q2, rfl⟩ := pinB_get hi
    exact .own _ (isSome_append _ (i7' _ q2).1)
  ·intro i j x y b hij hi hj lx ly bx bj
   exact hf.heap.apart i j x y b hij (gC i x (hpinC hi lx)) (gC j y (hpinC hj ly)) lx ly bx bj
 have hpa := avs_rel (a := a) he hargs
 have hall : ARels K w ρ (Hc ++ pinB ρ ps) ars (xs.toList.map a.eval) :=
  ⟨hpa.1, fun k c v hc hv => ((hpa.2 k c v hc hv).refs (allRefsIn_get i1 k c hc)).keeps hlatR fun j hj => ⟨isSome_append j hj, rfl⟩⟩
 have hrun : (execOp a.eval o).run P w = .ok (.enter f (xs.toList.map a.eval).toArray) w := by
  have e : (xs.toList.map a.eval).toArray = xs.map a.eval := by rw [← Array.toList_map, Array.toArray_toList]
  rw [e]
  simp [execOp, hop, resolve, Act.eval, Deferred.ofValue, invoke, call_run (hc ρ).stands]
 unfold Oper.wp
 rw [hrun]
 simp only [Oper.upon]
 refine ((hc ρ).calls g' K ρ w _ (by subst hg'; exact hw1) hfs hall).mono fun e w' ⟨v, K', ρ', e1, hf', hv⟩ => ?_
 subst e1
 have hlat : Later K K' w w' := by subst hg'; exact ⟨hf'.old, hf'.pt.kept⟩
 have hprot : ∀ b, (g.pr b ∨ ∃ i x, R.get i = some x ∧ x.live = true ∧ blockOf (ρ i) = some b) → b < w'.heap.size ∧ w'.heap[b]? = w.heap[b]? ∧ ∀ o, K' b o ↔ K b o := by subst hg'; exact hf'.pt.same
 have haway : ∀ i x b, Hc'.get i = some x → x.live = true → blockOf (ρ' i) = some b → ¬ (g.pr b ∨ ∃ i x, R.get i = some x ∧ x.live = true ∧ blockOf (ρ i) = some b) := by
  subst hg'; exact fun i x b hi => hf'.away i x b (by rw [get_append, hi])
 obtain ⟨ρ2, hρ2⟩ : ∃ ρ2 : Nat → Value, ∀ j, ρ2 j = if (Hc'.get j).isSome then ρ' j else ρ j := ⟨_, fun _ => rfl⟩
 have r1 : ∀ j, (Hc'.get j).isSome = true → ρ2 j = ρ' j := fun j hj => by rw [hρ2, if_pos hj]
 have r2 : ∀ j, Hc'.get j = none → ρ2 j = ρ j := fun j hj => by rw [hρ2, hj]; rfl
 have hkC : ∀ j, (HEnv.get Hc' j).isSome = true → (HEnv.get (Hc' ++ R) j).isSome = true ∧ ρ2 j = ρ' j := fun j hj => ⟨isSome_append j hj, r1 j hj⟩
 have hps : ∀ i ∈ ps, ρ' i = ρ i := fun i hi => by
  have hnone : Hc'.get (1000 + i) = none := by
   cases hh : Hc'.get (1000 + i) with
   | none => rfl
   | some x => have := idsLt_get d4 _ x hh; omega
  have := hf'.heap.ok (1000 + i) _ (by rw [get_append, hnone]; exact pinB_mem hi)
  have this : ARel K' w' ρ' (Hc' ++ pinB ρ ps) (.own i) (ρ i) := this
  generalize hu : ρ i = u at this
  cases this with
  | own _ _ => rfl
 have hkR : ∀ j, (HEnv.get (R ++ deads ps) j).isSome = true → (HEnv.get (Hc' ++ R) j).isSome = true ∧ ρ2 j = ρ j := fun j hj => by
  rw [get_append] at hj
  cases hh : R.get j with
  | some x =>
   have hn := nC' j x hh
   exact ⟨by rw [get_append, hn, hh]; rfl, r2 j hn⟩
  | none =>
   rw [hh] at hj
   have hm := deads_get hj
   have hs' := (i7' j hm).2
   exact ⟨isSome_append j hs', by rw [r1 j hs', hps j hm]⟩
 have hfs2 : FS g K' ρ2 (Hc' ++ R) w' := by
  have b1 : Below g.w0.heap.size g.w0 w' := by subst hg'; exact hf'.below
  have b3 : ∀ b o, K' b o → K b o ∨ g.w0.heap.size ≤ b := by subst hg'; exact hf'.new
  have b5 : KeepsOthers g.w1 w' := by subst hg'; exact hf'.others
  have bB : HRel K' w' g.w0.heap.size ρ' (Hc' ++ pinB ρ ps) := by subst hg'; exact hf'.heap
  refine ⟨b1, fun b o h => hlat.sub b o (hf.old b o h), fun b o hk => (b3 b o hk).elim (hf.new b o) .inr, hf'.lt, b5, ⟨fun b hb => ?_, fun b o h0 => (hlat.cell b o (hf.old b o h0)).trans (hf.pt.kept b o h0)⟩, fun i x b hi hl hb => ?_, fun i x hi => ?_, fun i j x y b hij hi hj lx ly bx bj => ?_⟩
  ·obtain ⟨p1, p2, p3⟩ := hprot b (.inl hb)
   obtain ⟨q1, q2, q3⟩ := hf.pt.same b hb
   exact ⟨p1, p2.trans q2, fun o => (p3 o).trans (q3 o)⟩
  ·rw [get_append] at hi
   cases hh : Hc'.get i with
   | some y =>
    rw [hh] at hi; simp only [Option.some.injEq] at hi; subst hi
    rw [r1 i (by rw [hh]; rfl)] at hb
    exact fun hp => haway i y b hh hl hb (.inl hp)
   | none =>
    rw [hh] at hi
    rw [r2 i hh] at hb
    exact hf.away i x b (gR i x hi) hl hb
  ·rw [get_append] at hi
   cases hh : Hc'.get i with
   | some y =>
    rw [hh] at hi; simp only [Option.some.injEq] at hi; subst hi
    rw [r1 i (by rw [hh]; rfl)]
    have hok := bB.ok i y (by rw [get_append, hh])
    have hl' := Later.refl K' w'
    cases y with
    | cell v => obtain ⟨b, t, arr, u, q1, q2, q3, q4, q5, q6⟩ := hok; exact ⟨b, t, arr, u, q1, q2, q3, (q4.refs (hIn_get i3 i v hh)).keeps hl' hkC, q5, q6⟩
    | pin v u => exact (ARel.refs hok (hIn_getp i3 i v u hh)).keeps hl' hkC
    | row t sz es => exact hok
    | mrow t sz es => exact hok
    | dead => exact hok
    | obj X => exact hok
   | none =>
    rw [hh] at hi
    rw [r2 i hh]
    have hok := hf.heap.ok i x (gR i x hi)
    have hsame : x.live = true → ∀ b, blockOf (ρ i) = some b → w'.heap[b]? = w.heap[b]? ∧ ∀ o, K' b o ↔ K b o := fun hl b hb => (hprot b (.inr ⟨i, x, hi, hl, hb⟩)).2
    cases x with
    | cell v =>
     obtain ⟨b, t, arr, u, q1, q2, q3, q4, q5, q6⟩ := hok
     obtain ⟨s1, s2⟩ := hsame rfl b (by rw [q1]; rfl)
     exact ⟨b, t, arr, u, q1, q2, by rw [s1]; exact q3, (q4.refs (hIn_get i5 i v hi)).keeps hlat hkR, q5, fun o hk => q6 o ((s2 o).1 hk)⟩
    | pin v u => exact (ARel.refs hok (hIn_getp i5 i v u hi)).keeps hlat hkR
    | row t sz es =>
     obtain ⟨xs, q1, q2, q3, q4⟩ := hok
     refine ⟨xs, ownsRow_block q1 fun b hb => (hsame rfl b hb).1, q2, fun k e he => ?_, fun b hb o => ?_⟩
     ·obtain ⟨c1, c2⟩ := q3 k e he
      exact ⟨c1, fun k c hc => let ⟨v, h4, h5, h6⟩ := c2 k c hc; ⟨v, h4, h5, h6.later hlat⟩⟩
     ·rw [(hsame rfl b ((blockOf_own q1 b).2 hb)).2 o]; exact q4 b hb o
    | mrow t sz es =>
     obtain ⟨xs, q1, q2, q3, q4⟩ := hok
     refine ⟨xs, ownsRow_block q1 fun b hb => (hsame rfl b hb).1, q2, fun k e he => ?_, fun b hb o hk => ?_⟩
     ·obtain ⟨c1, c2⟩ := q3 k e he
      exact ⟨c1, fun k c hc => let ⟨v, h4, h5, h6⟩ := c2 k c hc; ⟨v, h4, h5, h6.later hlat⟩⟩
     ·exact q4 b hb o (((hsame rfl b ((blockOf_own q1 b).2 hb)).2 o).1 hk)
    | dead => trivial
    | obj X =>
     obtain ⟨b, ob, q1, q2, q3, q4, q5⟩ := hok
     obtain ⟨s1, s2⟩ := hsame rfl b (by rw [q1]; rfl)
     exact ⟨b, ob, q1, q2, by rw [s1]; exact q3, q4, fun o hk => q5 o ((s2 o).1 hk)⟩
  ·rw [get_append] at hi hj
   cases hhi : Hc'.get i with
   | some x' =>
    rw [hhi] at hi; simp only [Option.some.injEq] at hi; subst hi
    rw [r1 i (by rw [hhi]; rfl)] at bx
    cases hhj : Hc'.get j with
    | some y' =>
     rw [hhj] at hj; simp only [Option.some.injEq] at hj; subst hj
     rw [r1 j (by rw [hhj]; rfl)] at bj
     exact bB.apart i j x' y' b hij (by rw [get_append, hhi]) (by rw [get_append, hhj]) lx ly bx bj
    | none =>
     rw [hhj] at hj; rw [r2 j hhj] at bj
     exact haway i x' b hhi lx bx (.inr ⟨j, y, hj, ly, bj⟩)
   | none =>
    rw [hhi] at hi; rw [r2 i hhi] at bx
    cases hhj : Hc'.get j with
    | some y' =>
     rw [hhj] at hj; simp only [Option.some.injEq] at hj; subst hj
     rw [r1 j (by rw [hhj]; rfl)] at bj
     exact haway j y' b hhj ly bj (.inr ⟨i, x, hi, lx, bx⟩)
    | none =>
     rw [hhj] at hj; rw [r2 j hhj] at bj
     exact hf.heap.apart i j x y b hij (gR i x hi) (gR j y hj) lx ly bx bj
 have he2 : EnvR K' w' ρ2 (Hc' ++ R) env2 a.tmps := fun t av ht => by
  obtain ⟨u, u1, u2⟩ := he t av (hs t av ht)
  exact ⟨u, u1, (u2.refs (envIn_get i6 t av ht)).keeps hlat hkR⟩
 refine hKK _ _ (h.go _ _ ⟨put_size h1, put_defers h2, K', ρ2, hfs2, ?_⟩)
 rw [hd]
 exact env_put h1 hdt he2 ((hv.refs i4).keeps (Later.refl K' w') hkC)
end
end Go.Cg
namespace Go.Cg
open Go.RowKit
section
variable {P : Program} {n : Nat} {g : Base} {H : HEnv} {env : Env} {c : Code} {QQ : QC} {K : KK} {w : World} {ρ : Nat → Value}
theorem aw_mown_nil_field (b i k : Nat) (e : TypeId) (sz : Nat) {v : AV} {cs : List AV} (hsz : 0 < sz) (hb : H.get b = some (.cell v)) (hv : aggOf v = some cs) (hk : cs[k]? = some (.pv (.base (.slice none 0 0)))) (hi : H.get i = none)
  (h : AW P n g c env ((b, .cell (.agg (cs.set k (.own i)))) :: (i, .mrow e sz []) :: H) QQ) : AW P n g c env H QQ := by
 refine ⟨fun a w hinv => h.go a w ?_⟩
 obtain ⟨h1, h2, K, ρ, hf, he⟩ := hinv
 have hev : Evo K K w w := .refl hf.lt
 have hne : b ≠ i := by rintro rfl; simp [hi] at hb
 have hf2 : FS g K (fun j => if j = i then .slice none 0 0 else ρ j) ((i, .mrow e sz []) :: H) w := hf.fresh hev hi ⟨[], World.ownsRow_nil w _ e sz, hsz, fun i e h => by simp at h, by simp [Value.ownBlock]⟩ (by simp [blockOf])
 have hkk : ∀ j, (HEnv.get ((i, HE.mrow e sz []) :: H) j).isSome = true → (HEnv.get ((b, .cell (.agg (cs.set k (.own i)))) :: (i, HE.mrow e sz []) :: H) j).isSome = true ∧ (fun j => if j = i then Value.slice none 0 0 else ρ j) j = (fun j => if j = i then Value.slice none 0 0 else ρ j) j := by
  intro j hj
  refine ⟨?_, rfl⟩
  simp only [HEnv.get_cons] at hj ⊢
  split
  ·rfl
  ·exact hj
 have hlat := hev.later hf.lt
 refine ⟨h1, h2, K, fun j => if j = i then .slice none 0 0 else ρ j, ⟨hf2.below, hf2.old, hf2.new, hf2.lt, hf2.others, hf2.pt, hf2.away.set (e0 := .cell v) (by rw [HEnv.get_cons, if_neg (Ne.symm hne)]; exact hb) rfl, ?_, ?_⟩, (he.keeps hlat (fresh_keeps hi _ _)).keeps hlat hkk⟩
 ·intro j hh hj
  simp only [HEnv.get_cons] at hj
  split at hj
  ·rename_i e'; subst e'
   simp only [Option.some.injEq] at hj; subst hj
   have hb2 := (hf2.heap.ok b (.cell v) (by rw [HEnv.get_cons, if_neg (Ne.symm hne)]; exact hb)).keeps hev hf.lt hkk
   obtain ⟨b', t', arr, u, hr, hB, hheap, hu, harr, hn⟩ := hb2
   refine ⟨b', t', arr, u, hr, hB, hheap, ?_, harr, hn⟩
   have hu' := hu.aggOf hv
   cases hu' with
   | agg _ vs a1 a2 a3 =>
    refine .agg _ vs (by simpa using a1) a2 fun m c x hc hx => ?_
    rw [List.getElem?_set] at hc
    split at hc
    ·rename_i e1; subst e1
     split at hc
     ·simp only [Option.some.injEq] at hc; subst hc
      have := a3 k _ x hk hx
      cases this with
      | pv _ _ hp =>
       cases hp
       have := ARel.own (K := K) (w := w) (ρ := fun j => if j = i then .slice none 0 0 else ρ j) (H := (b, .cell (.agg (cs.set k (.own i)))) :: (i, HE.mrow e sz []) :: H) i (by simp [HEnv.get_cons, hne])
       simpa using this
     ·cases hc
    ·exact a3 m c x hc hx
  ·exact (hf2.heap.ok j hh (by simpa only [HEnv.get_nil, HEnv.get_cons] using hj)).keeps hev hf.lt hkk
 ·intro j k' hh hh' bb hjk hj hk' hlj hlk hbj hbk
  have e1 : ∀ (j : Nat) (hh : HE), HEnv.get ((b, .cell (.agg (cs.set k (.own i)))) :: (i, HE.mrow e sz []) :: H) j = some hh → hh.live = true → ∃ h0, HEnv.get ((i, HE.mrow e sz []) :: H) j = some h0 ∧ h0.live = true := by
   intro j hh hj hl
   rw [HEnv.get_cons] at hj
   split at hj
   ·rename_i e'; subst e'
    refine ⟨.cell v, ?_, rfl⟩
    simp only [HEnv.get_cons]; rw [if_neg (Ne.symm hne)]; exact hb
   ·exact ⟨hh, hj, hl⟩
  obtain ⟨a1, a2, a3⟩ := e1 j hh hj hlj
  obtain ⟨b1, b2, b3⟩ := e1 k' hh' hk' hlk
  exact hf2.heap.apart j k' a1 b1 bb hjk a2 b2 a3 b3 hbj hbk
end
section
variable {P : Program} {tb : Tab} {g : Base} {H : HEnv} {env : Env} {o : Oper} {K : KK} {w : World} {ρ : Nat → Value}
def AL (K : KK) (w : World) (ρ : Nat → Value) (H : HEnv) (cs : List AV) (vs : List Value) : Prop := vs.length = cs.length ∧ ∀ (k : Nat) (c : AV) (v : Value), cs[k]? = some c → vs[k]? = some v → ARel K w ρ H c v
theorem AL.take {cs : List AV} {vs : List Value} (h : AL K w ρ H cs vs) (n : Nat) : AL K w ρ H (cs.take n) (vs.take n) :=
 ⟨by simp [h.1], fun k c v hc hv => by
  rw [List.getElem?_take] at hc hv
  split at hc
  ·rename_i hk; rw [if_pos hk] at hv; exact h.2 k c v hc hv
  ·cases hc⟩
theorem AL.drop {cs : List AV} {vs : List Value} (h : AL K w ρ H cs vs) (n : Nat) : AL K w ρ H (cs.drop n) (vs.drop n) :=
 ⟨by simp [h.1], fun k c v hc hv => by
  rw [List.getElem?_drop] at hc hv
  exact h.2 _ c v hc hv⟩
theorem AL.append {cs ds : List AV} {vs us : List Value} (h : AL K w ρ H cs vs) (h' : AL K w ρ H ds us) : AL K w ρ H (cs ++ ds) (vs ++ us) :=
 ⟨by simp [h.1, h'.1], fun k c v hc hv => by
  rw [List.getElem?_append] at hc hv
  rw [h.1] at hv
  split at hc
  ·rename_i hk; rw [if_pos hk] at hv; exact h.2 k c v hc hv
  ·rename_i hk; rw [if_neg hk] at hv; exact h'.2 _ c v hc hv⟩
def fillA (place : Nat → Option (Nat × Nat)) : List AV → List (Nat × AV) → Option (List AV)
 | cells, [] => some cells
 | cells, (i, p) :: r =>
  match place i with
  | none => none
  | some (off, size) => if p.flat.length = size ∧ off + size ≤ cells.length then fillA place (cells.take off ++ p.flat ++ cells.drop (off + size)) r else none
def idxAvs (env : Env) : List (Nat × Operand) → Option (List (Nat × AV))
 | [] => some []
 | (i, x) :: xs => match env.val x, idxAvs env xs with | some p, some ps => some ((i, p) :: ps) | _, _ => none
theorem fill_relA (place : Nat → Option (Nat × Nat)) (hrow : ∀ i, isVal H i = true → (ρ i).cells = #[ρ i] ∧ (ρ i).oneCell' = true) : ∀ {ps : List (Nat × AV)} {cells cs : List AV} {vcells : Array Value} {vps : List (Nat × Value)}, AL K w ρ H cells vcells.toList → ps.map (·.1) = vps.map (·.1) →
  AL K w ρ H (ps.map (·.2)) (vps.map (·.2)) → (ps.all fun x => x.2.flat.all (oneA H)) = true → fillA place cells ps = some cs → ∃ r, Instr.fill place vcells vps = some r ∧ AL K w ρ H cs r.toList
 | [], cells, cs, vcells, vps, hc, hi, hp, _, h => by
  have : vps = [] := by simpa using hi.symm
  subst this
  simp [fillA] at h; subst h
  exact ⟨vcells, rfl, hc⟩
 | (i, p) :: ps, cells, cs, vcells, vps, hc, hi, hp, ho, h => by
  cases vps with
  | nil => simp at hi
  | cons x vps =>
   obtain ⟨j, v⟩ := x
   simp at hi
   obtain ⟨rfl, hi⟩ := hi
   simp only [List.map_cons] at hp
   have hpv := hp.2 0 p v rfl rfl
   have hps : AL K w ρ H (ps.map (·.2)) (vps.map (·.2)) := ⟨by have := hp.1; simpa using this, fun k c u h1 h2 => hp.2 (k + 1) c u (by simpa using h1) (by simpa using h2)⟩
   simp only [List.all_cons, Bool.and_eq_true] at ho
   simp only [fillA] at h
   split at h
   ·cases h
   ·rename_i off size hpl
    split at h
    ·rename_i hle
     obtain ⟨f1, f2, f3⟩ := flat_rel hpv ho.1 hrow
     have hcr : AL K w ρ H p.flat v.cells.toList := ⟨by simpa using f1, f3⟩
     have hsz : v.cells.size = size := by rw [← hle.1, f1]
     have hcs : vcells.size = cells.length := by rw [← hc.1]; simp
     have hfold := foldl_set off v.cells.toList 0 vcells (by simp; omega)
     obtain ⟨r, hr1, hr2⟩ := fill_relA place hrow (vcells := (v.cells.toList.zipIdx 0).foldl (fun cs (c : Value × Nat) => cs.setIfInBounds (off + c.2) c.1) vcells) (vps := vps) (cells := cells.take off ++ p.flat ++ cells.drop (off + size)) (cs := cs)
      (by rw [hfold]; simp only [Nat.add_zero, Array.length_toList, hsz]; exact ((hc.take off).append hcr).append (hc.drop _)) (by simpa using hi) hps ho.2 h
     refine ⟨r, ?_, hr2⟩
     rw [← hr1]
     simp only [Instr.fill, hpl]
     rw [← Array.foldl_toList, Array.toList_zipIdx, if_neg (by simp; omega)]
    ·cases h
theorem idxAvs_rel {a : Act} : ∀ {xs : List (Nat × Operand)} {ps : List (Nat × AV)}, (∀ x ∈ xs, ∀ av, env.val x.2 = some av → ARel K w ρ H av (a.eval x.2)) → idxAvs env xs = some ps →
  ps.map (·.1) = xs.map (·.1) ∧ AL K w ρ H (ps.map (·.2)) (xs.map fun x => a.eval x.2)
 | [], ps, _, h => by simp [idxAvs] at h; subst h; exact ⟨rfl, rfl, fun k c v h => by simp at h⟩
 | (i, x) :: xs, ps, hv, h => by
  simp only [idxAvs] at h
  split at h
  ·rename_i p qs e1 e2
   simp only [Option.some.injEq] at h; subst h
   obtain ⟨r1, r2⟩ := idxAvs_rel (fun y hy => hv y (by simp [hy])) e2
   refine ⟨by simp [r1], by simp [r2.1], fun k c v hc hvv => ?_⟩
   cases k with
   | zero => simp at hc hvv; subst hc hvv; exact hv (i, x) (by simp) _ e1
   | succ k => exact r2.2 k c v (by simpa using hc) (by simpa using hvv)
  ·cases h
theorem q_buildA (htb : TabOK P tb) {t : Nat} {parts : Array (Nat × Operand)} {fs : List (Nat × Nat × Nat)} {z : Value} {zs : List PV} {ps : List (Nat × AV)} {cs : List AV} (hop : o.op = .build t parts) (hk : ∃ q, tb.k t = .agg fs q) (hz : tb.zero t = some z)
  (hzs : zeroPVs z.cells.toList = some zs) (hps : idxAvs env parts.toList = some ps) (hone : (ps.all fun x => x.2.flat.all (oneA H)) = true) (hall : (fs.all fun f => tb.known f.2.1 && tb.size f.2.1 == f.2.2) = true)
  (hcs : fillA (placeE fs) (zs.map .pv) ps = some cs) : QStep P g H o env (.agg cs) := by
 refine ⟨fun K ρ a w hfs hv => ?_⟩
 obtain ⟨q, hk⟩ := hk
 obtain ⟨F, hF, hfs', _⟩ := tab_agg htb hk
 obtain ⟨h1, h2⟩ := idxAvs_rel (K := K) (w := w) (ρ := ρ) (H := H) (a := a) (xs := parts.toList) (fun x hx => hv x.2 (by rw [hop]; simp [Op.operands]; exact ⟨x.1, by simpa using hx⟩)) hps
 have hz0 : AL K w ρ H (zs.map .pv) z.cells.toList := by
  have := zeroPVs_rel (K := K) (w := w) hzs
  refine ⟨by rw [List.length_map]; exact this.1, fun k c v hc hvv => ?_⟩
  rw [List.getElem?_map] at hc
  cases hk2 : zs[k]? with
  | none => simp [hk2] at hc
  | some p => simp [hk2] at hc; subst hc; exact .pv _ _ (this.2 k p v hk2 hvv)
 obtain ⟨rr, hr1, hr2⟩ := fill_relA (K := K) (w := w) (ρ := ρ) (H := H) _ (row_one hfs) (vcells := z.cells) (vps := parts.toList.map fun x => (x.1, a.eval x.2)) hz0 (by simpa [List.map_map, Function.comp_def] using h1) (by simpa [List.map_map, Function.comp_def] using h2) hone hcs
 have hzi : ∃ i, P.info? t = some i ∧ i.zero = some z := by
  unfold Tab.zero at hz
  split at hz
  ·rename_i ti hti
   obtain ⟨i, e1, _, _, e4, _⟩ := tab_info htb hti
   exact ⟨i, e1, by rw [e4]; exact hz⟩
  ·cases hz
 obtain ⟨i, hi, hiz⟩ := hzi
 have hplaces : ∀ (l : List Field), (∀ f ∈ l, f ∈ F.toList) → (l.mapM fun f => (Prod.mk f.offset <$> sizeOf f.type : Sem (Nat × Nat))).run P w = .ok (l.map fun f => (f.offset, tb.size f.type)) w := by
  intro l
  induction l with
  | nil => intro _; simp
  | cons f l ih =>
   intro hl
   have hf : f ∈ F.toList := hl f (by simp)
   have hall' := List.all_eq_true.1 hall (f.offset, f.type, P.cellsOf f.type) (by rw [← hfs']; exact List.mem_map.2 ⟨f, hf, rfl⟩)
   simp only [Bool.and_eq_true] at hall'
   have hko : tb.k f.type ≠ .oth := by intro e; simp [Tab.known, e] at hall'
   have hs := run_sizeOf htb hko w
   have ih' := ih (fun f hf => hl f (by simp [hf]))
   simp [List.mapM_cons, hs, ih']
 have hpl := hplaces F.toList (fun f hf => hf)
 have hfun : placeE fs = fun i => ((F.toList.map fun f => (f.offset, tb.size f.type)).toArray)[i]? := by
  funext i
  rw [← hfs']
  simp only [placeE, List.getElem?_map, List.getElem?_toArray, Array.getElem?_toList]
  cases hfl : F[i]? with
  | none => rfl
  | some f =>
   simp only [Option.map_some, Option.some.injEq, Prod.mk.injEq, true_and]
   have hf : f ∈ F.toList := by simpa using Array.mem_of_getElem? hfl
   have hall' := List.all_eq_true.1 hall (f.offset, f.type, P.cellsOf f.type) (by rw [← hfs']; exact List.mem_map.2 ⟨f, hf, rfl⟩)
   simp only [Bool.and_eq_true, beq_iff_eq] at hall'
   exact hall'.2.symm
 rw [hfun] at hr1
 have : (execOp a.eval o).run P w = .ok (.value (.agg rr)) w := by
  have hm : (F.mapM fun f => (do pure (f.offset, ← sizeOf f.type) : Sem (Nat × Nat))).run P w = .ok (F.toList.map fun f => (f.offset, tb.size f.type)).toArray w := by
   rw [Array.mapM_eq_mapM_toList]
   simp only [bind_pure_comp, Sem.run_map, hpl, Result.andThen_ok]
  have hp2 : (parts.map fun x => (x.1, a.eval x.2)).toList = parts.toList.map fun x => (x.1, a.eval x.2) := by simp
  simp only [execOp, hop, Instr.build, Sem.run_bind, zeroValue, typeInfo, run_program, hi, hiz, Result.andThen_ok, Sem.run_pure, run_underlying hF, hm, hp2, hr1]
 rw [this]
 have hone' : ∀ v ∈ rr.toList, v.oneCell' = true := fill_one _ hr1 (zeroPVs_one hzs) (by
  intro x hx v hv'
  obtain ⟨k, hk⟩ := List.getElem?_of_mem hx
  have hk2 : (parts.toList.map fun x => a.eval x.2)[k]? = some x.2 := by
   rw [List.getElem?_map] at hk ⊢
   cases hpk : parts.toList[k]? with
   | none => rw [hpk] at hk; simp at hk
   | some y => rw [hpk] at hk; simp at hk; subst hk; rfl
  have hlt : k < (ps.map (·.2)).length := by rw [← h2.1]; exact (List.getElem?_eq_some_iff.1 hk2).1
  have hp := List.getElem?_eq_getElem hlt
  have hall1 := List.all_eq_true.1 hone (ps[k]'(by simpa using hlt)) (List.getElem_mem _)
  exact (flat_rel (h2.2 k _ _ hp hk2) (by simpa using hall1) (row_one hfs)).2.1 v hv')
 exact qval hfs (by have := ARel.agg (K := K) (w := w) (ρ := ρ) (H := H) cs rr.toList hr2.1 hone' hr2.2; simpa using this)
theorem q_boxload (htb : TabOK P tb) {ty : Nat} {x : Operand} {i off : Nat} {cs : List AV} {ps : List PV} {q : PV} (hop : o.op = .load ty x) (hx : env.val x = some (.box i off)) (hi : H.get i = some (.cell (.agg cs))) (hps : (cs.drop off).take ps.length = ps.map .pv) (hq : partE tb ty ps 0 = some q) : QStep P g H o env (.pv q) := by
 refine ⟨fun K ρ a w hf hv => ?_⟩
 have hxr := hv x (by rw [hop]; simp [Op.operands]) _ hx
 generalize hxv : a.eval x = xv at hxr
 obtain ⟨b, t, arr, u, hr, hB, hheap, hu, harr, hn⟩ := hf.heap.ok i _ hi
 cases hxr with
 | box _ _ b' hi' hρ =>
  rw [hr] at hρ
  simp only [Value.pointer.injEq, Option.some.injEq, Addr.mk.injEq, and_true] at hρ
  subst hρ
  cases hu with
  | agg _ vs a1 a2 a3 =>
   have hcell : ∀ (k : Nat) (v : Value), ((vs.drop off).take ps.length)[k]? = some v → w.cell? ⟨b, off + k, none⟩ = some v := by
    intro k v hv
    rw [List.getElem?_take] at hv
    split at hv
    ·rw [List.getElem?_drop] at hv
     simp only [World.cell?, hheap]
     rw [← harr]
     simpa [Value.cells] using hv
    ·cases hv
   have hrels : PRels K w ps ((vs.drop off).take ps.length) := by
    have hl : ((cs.drop off).take ps.length).length = ps.length := by rw [hps, List.length_map]
    refine ⟨by rw [List.length_take, List.length_drop] at hl ⊢; rw [a1]; exact hl, fun k c v hc hv => ?_⟩
    have hck : ((cs.drop off).take ps.length)[k]? = some (.pv c) := by rw [hps, List.getElem?_map, hc]; rfl
    rw [List.getElem?_take] at hck hv
    split at hck
    ·rename_i hk
     rw [if_pos hk, List.getElem?_drop] at hv
     rw [List.getElem?_drop] at hck
     have := a3 _ _ _ hck hv
     cases this with
     | pv _ _ hp => exact hp
    ·cases hck
   have hone : ∀ v ∈ (vs.drop off).take ps.length, v.oneCell' = true := fun v hv => a2 v (List.mem_of_mem_drop (List.mem_of_mem_take hv))
   obtain ⟨v, hv, hvr⟩ := run_loadVar_rows htb (b := b) (o := off) hcell hrels hone hq
   have hrun : (execOp a.eval o).run P w = .ok (.value v) w := by
    have hv' : (loadVar ty ⟨b, off, none⟩).run P w = .ok v w := hv
    simp [execOp, hop, hxv, Instr.loadAt, Instr.sureAddr, hv']
   rw [hrun]
   exact qval hf (.pv _ _ hvr)
end
end Go.Cg
namespace Go.Cg
open Go.RowKit
section
variable {P : Program} {tb : Tab} {n : Nat} {g : Base} {H : HEnv} {env : Env} {ops : List Oper} {o : Oper} {rest : List Oper} {Q : Env → HEnv → Prop} {QQ : QC} {c : Code} {K : KK} {w : World} {ρ : Nat → Value} {a : Act}
def nilOf : AV → Option Bool
 | .box _ _ => some false
 | .pv (.ptr _ _) => some false
 | .pv (.base (.pointer none)) => some true
 | _ => none
theorem q_isnil {t rt pe : TypeId} {x : Operand} {av : AV} {b : Bool} (hop : o.op = .binOp .eql t x (.const (.pointer none)) rt) (hu0 : P.underlying t = some (.pointer pe)) (hx : env.val x = some av) (hn : nilOf av = some b) : QStep P g H o env (.pv (.base (.bool b))) := by
 have hu : P.underlying t = some (.pointer (P.pointee t)) := by rw [hu0, Program.pointee, hu0]
 refine ⟨fun K ρ a w hf hv => ?_⟩
 have hxr := hv x (by rw [hop]; simp [Op.operands]) _ hx
 generalize hxv : a.eval x = xv at hxr
 have key : ∀ p : Option Addr, xv = .pointer p → p.isNone = b → QRes P K ρ H w (.pv (.base (.bool b))) ((execOp a.eval o).run P w) := by
  rintro p rfl rfl
  have h1 := run_eql_pointer_nil (P := P) w t p hu
  have h2 : a.eval (.const (.pointer none)) = .pointer none := rfl
  have hrun : (execOp a.eval o).run P w = .ok (.value (.bool p.isNone)) w := by
   simp [execOp, hop, hxv, h2, eqGuard, h1]
  rw [hrun]
  exact qval hf (.pv _ _ (.base _ rfl))
 cases hxr with
 | box i off b' hi hb => simp only [nilOf, Option.some.injEq] at hn; exact key _ rfl (by simpa using hn)
 | pv p v hp =>
  cases hp with
  | ptr => simp only [nilOf, Option.some.injEq] at hn; exact key _ rfl (by simpa using hn)
  | base v hb =>
   cases xv <;> simp only [nilOf] at hn <;> try cases hn
   rename_i p
   cases p with
   | none => simp only [Option.some.injEq] at hn; exact key _ rfl (by simpa using hn)
   | some ad => cases hn
  | _ => simp [nilOf] at hn
 | _ => simp [nilOf] at hn
def loanC (ρ : Nat → Value) (H : HEnv) : AV → Option PV
 | .pv p => some p
 | .own i => match H.get i with
  | some (.mrow _ sz es) => some (.slc sz es false)
  | some (.obj _) => some (.base (ρ i))
  | _ => none
 | _ => none
def loanL (ρ : Nat → Value) (H : HEnv) : List AV → Option (List PV)
 | [] => some []
 | x :: xs => match loanC ρ H x, loanL ρ H xs with | some p, some ps => some (p :: ps) | _, _ => none
def loanV (ρ : Nat → Value) (H : HEnv) : AV → Option PV
 | .box i off => match H.get i with
  | some (.cell v) => if v.flat.all (oneA H) then match loanL ρ H v.flat with | some cs => some (.ptr (.agg cs) off) | none => none else none
  | _ => none
 | av => loanC ρ H av
def loans (ρ : Nat → Value) (env : Env) (H : HEnv) : List Operand → Option (List PV)
 | [] => some []
 | x :: xs => match env.val x, loans ρ env H xs with
  | some av, some ps => match loanV ρ H av with | some p => some (p :: ps) | none => none
  | _, _ => none
def lentK (K : KK) (ρ : Nat → Value) (H : HEnv) : KK := fun b o => K b o ∨ (∃ i t sz es, H.get i = some (.mrow t sz es) ∧ (ρ i).ownBlock = some b ∧ o < es.length * sz) ∨ ∃ i v, H.get i = some (.cell v) ∧ blockOf (ρ i) = some b
theorem lent_later : Later K (lentK K ρ H) w w := ⟨fun _ _ h => .inl h, fun _ _ _ => rfl⟩
theorem lent_lt (hf : FS g K ρ H w) : ∀ b o, lentK K ρ H b o → b < w.heap.size := by
 rintro b o (h | ⟨i, t, sz, es, hi, hb, _⟩ | ⟨i, v, hi, hb⟩)
 ·exact hf.lt b o h
 ·obtain ⟨us, hown, _⟩ := hf.heap.ok i _ hi
  exact (hown.lt b hb).2
 ·exact ((hf.heap.ok i _ hi).block_lt rfl hb).2
theorem loanC_rel (hf : FS g K ρ H w) {av : AV} {v : Value} (h : ARel K w ρ H av v) {p : PV} (hp : loanC ρ H av = some p) : PRel (lentK K ρ H) w p v := by
 cases h with
 | pv p' v h => simp only [loanC, Option.some.injEq] at hp; subst hp; exact h.later lent_later
 | own i hi0 =>
  simp only [loanC] at hp
  split at hp
  ·rename_i t sz es hi
   simp only [Option.some.injEq] at hp; subst hp
   obtain ⟨xs, hown, h0, hcr, hnK⟩ := hf.heap.ok i _ hi
   rcases hown.2 with ⟨hr, hz⟩ | ⟨b, cap, cur, hr, hB, hheap, hle, hcap, hsize, htake⟩
   ·rw [hr]
    have : es = [] := List.eq_nil_of_length_eq_zero hz
    subst this; exact .nil sz false
   ·by_cases hes : es = []
    ·subst hes
     rw [hr]
     exact .slc sz [] false b 0 cap (fun _ => []) h0 (Nat.zero_le _) (by simp) (by simp [maxLen]) hcap (fun i e he => by simp at he) (fun i e k c v he => by simp at he)
    ·have hown' := hown
     rw [hr] at hown' ⊢
     have hxl : xs.length = es.length * sz := hown.1
     refine .slc sz es false b 0 cap (fun i => (xs.drop (i * sz)).take sz) h0 hle (by simp) (by omega) hcap (fun k e he => ?_) (fun k e m c v he hc hvv => ?_)
     ·obtain ⟨c1, c2⟩ := hcr k e he
      have hk : k < es.length := (List.getElem?_eq_some_iff.1 he).1
      have hle2 : k * sz + sz ≤ es.length * sz := by rw [← Nat.succ_mul]; exact Nat.mul_le_mul_right _ hk
      refine ⟨c1, by rw [List.length_take, List.length_drop]; omega, fun m v hm => ?_⟩
      rw [List.getElem?_take] at hm
      split at hm
      ·rename_i hms
       rw [List.getElem?_drop] at hm
       obtain ⟨u, u1, u2, _⟩ := c2 m e.cells[m] (List.getElem?_eq_getElem (by omega))
       rw [u1, Option.some.injEq] at hm; subst hm
       exact ⟨.inr (.inl ⟨i, t, sz, es, hi, by rw [hr]; rfl, by omega⟩), by rw [Nat.zero_add, hown'.cellAt _ (by omega)]; exact u1, u2⟩
      ·cases hm
     ·obtain ⟨c1, c2⟩ := hcr k e he
      obtain ⟨u, u1, u2, u3⟩ := c2 m c hc
      rw [List.getElem?_take] at hvv
      split at hvv
      ·rw [List.getElem?_drop, u1, Option.some.injEq] at hvv
       subst hvv; exact u3.later lent_later
      ·cases hvv
  ·rename_i X hi
   simp only [Option.some.injEq] at hp; subst hp
   obtain ⟨b, ob, hr, _⟩ := hf.heap.ok i _ hi
   exact .base _ (by rw [hr]; rfl)
  ·cases hp
 | _ => simp [loanC] at hp
theorem loanL_rel (hf : FS g K ρ H w) : ∀ {avs : List AV} {ps : List PV} {vs : List Value}, vs.length = avs.length → (∀ (k : Nat) (c : AV) (v : Value), avs[k]? = some c → vs[k]? = some v → ARel K w ρ H c v) → loanL ρ H avs = some ps → PRels (lentK K ρ H) w ps vs
 | [], ps, vs, hl, _, h => by
  simp only [loanL, Option.some.injEq] at h; subst h
  have : vs = [] := List.eq_nil_of_length_eq_zero (by simpa using hl)
  subst this; exact .nil
 | x :: xs, ps, vs, hl, hr, h => by
  cases vs with
  | nil => simp at hl
  | cons v vs =>
   simp only [loanL] at h
   split at h
   ·rename_i p qs e1 e2
    simp only [Option.some.injEq] at h; subst h
    exact .cons (loanC_rel hf (hr 0 x v rfl rfl) e1) (loanL_rel hf (by simpa using hl) (fun k c v hc hv => hr (k + 1) c v (by simpa using hc) (by simpa using hv)) e2)
   ·cases h
theorem loanV_rel (hf : FS g K ρ H w) {av : AV} {v : Value} (h : ARel K w ρ H av v) {p : PV} (hp : loanV ρ H av = some p) : PRel (lentK K ρ H) w p v := by
 by_cases hb : ∃ i off, av = .box i off
 ·obtain ⟨i, off, rfl⟩ := hb
  simp only [loanV] at hp
  split at hp
  ·rename_i u hi
   split at hp
   ·rename_i hone
    split at hp
    ·rename_i cs hcs
     simp only [Option.some.injEq] at hp; subst hp
     obtain ⟨b, t, arr, x, hr, hB, hheap, hx, harr, hn⟩ := hf.heap.ok i _ hi
     obtain ⟨f1, f2, f3⟩ := flat_rel hx hone (row_one hf)
     have hps := loanL_rel hf (by simpa using f1) f3 hcs
     cases h with
     | box _ _ b' hi' hρ =>
      rw [hr] at hρ
      simp only [Value.pointer.injEq, Option.some.injEq, Addr.mk.injEq, and_true] at hρ
      subst hρ
      have := PRel.ptr (K := lentK K ρ H) (w := w) (.agg cs) off b 0 x.cells.toList hps.1 (fun k v hk => ⟨.inr (.inr ⟨i, u, hi, by rw [hr]; rfl⟩), by
       simp only [World.cell?, hheap, Nat.zero_add]; rw [← harr]; simpa using hk, f2 v (List.mem_of_getElem? hk)⟩) hps.2
      simpa using this
    ·cases hp
   ·cases hp
  ·cases hp
 ·have : loanV ρ H av = loanC ρ H av := by
   cases av <;> first | rfl | (exact absurd ⟨_, _, rfl⟩ hb)
  rw [this] at hp
  exact loanC_rel hf h hp
theorem loans_rel (hf : FS g K ρ H w) : ∀ {xs : List Operand} {ps : List PV}, (∀ x ∈ xs, ∀ av, env.val x = some av → ARel K w ρ H av (a.eval x)) → loans ρ env H xs = some ps → PRels (lentK K ρ H) w ps (xs.map a.eval)
 | [], ps, _, h => by simp [loans] at h; subst h; exact .nil
 | x :: xs, ps, hv, h => by
  simp only [loans] at h
  split at h
  ·rename_i av qs e1 e2
   split at h
   ·rename_i p e3
    simp only [Option.some.injEq] at h; subst h
    exact .cons (loanV_rel hf (hv x (by simp) _ e1) e3) (loans_rel hf (fun y hy => hv y (by simp [hy])) e2)
   ·cases h
  ·cases h
theorem q_callO {xs : Array Operand} {ts : Array TypeId} {f : FuncId} {args : (Nat → Value) → List PV} {r : Value} (hop : o.op = .call { callee := .value (.func f), args := xs, argTypes := ts }) (hargs : ∀ ρ, loans ρ env H xs.toList = some (args ρ))
  (hc : ∀ ρ, ACall P f (args ρ) (.base r)) : QStep P g H o env (.pv (.base r)) := by
 refine ⟨fun K ρ a w hf hv => ?_⟩
 have hp := loans_rel hf (a := a) (xs := xs.toList) (fun x hx => hv x (by rw [hop]; simp [Op.operands, Call.operands]; exact .inr (by simpa using hx))) (hargs ρ)
 have : (execOp a.eval o).run P w = .ok (.enter f (xs.toList.map a.eval).toArray) w := by
  have e : (xs.toList.map a.eval).toArray = xs.map a.eval := by rw [← Array.toList_map, Array.toArray_toList]
  rw [e]
  simp [execOp, hop, resolve, Act.eval, Deferred.ofValue, invoke, call_run (hc ρ).stands]
 rw [this]
 refine ⟨rfl, ((hc ρ).calls _ w _ (lent_lt hf) hp).mono fun e w'' ⟨v, K', h1, h2, h3⟩ => ?_⟩
 cases h3 with
 | base _ hb => exact ⟨_, K, h1, ⟨h2.below, fun _ _ h => h, fun _ _ h => .inl h, fun b o h => Nat.lt_of_lt_of_le (hf.lt b o h) h2.below.size⟩, .pv _ _ (.base _ hb)⟩
def cut (sz : Nat) (u : Value) (l h : Nat) : Value := match u with
 | .slice (some a) _ c => .slice (some ⟨a.block, l * sz, none⟩) (h - l) (c - l)
 | v => v
theorem cut_ok (sz : Nat) (u : Value) (l h : Nat) (hu : ∃ a n c, u = .slice (some a) n c) : baseOk (cut sz u l h) = true := by
 obtain ⟨a, n, c, rfl⟩ := hu; rfl
theorem ao_mslice (htb : TabOK P tb) {t e d : Nat} {x : Operand} {lo hi : Option Operand} (i j : Nat) {sz : Nat} {es : List PV} {l h : Int} (hg : guardE ops env o = some true) (hop : o.op = .slice t x lo hi none) (hk : tb.k t = .sl e) (hke : tb.known e = true) (hsz : tb.size e = sz)
  (hx : env.val x = some (.own i)) (hi' : H.get i = some (.mrow e sz es)) (hlo : boundE env H 0 lo = some l) (hhi : boundE env H es.length hi = some h) (h0 : 0 ≤ l) (h1 : l ≤ h) (h2 : h ≤ es.length) (h3 : l < es.length) (hj : H.get j = none) (hd : o.dst = some d) (ht : Nat.blt d n = true)
  (k : ∀ u, AO P n g ops.toArray rest ((d, .pv (.base (cut sz u l.toNat h.toNat))) :: env) ((j, .pin (.own i) u) :: H) Q) : AO P n g ops.toArray (o :: rest) env H Q := by
 refine ⟨fun a w hinv => ?_⟩
 have hw := wanted_of hinv hg
 obtain ⟨g1, g2, K, ρ, hf, he⟩ := hinv
 refine wpList_step fun KK hKK => ?_
 rw [if_pos hw]
 have hxr := val_rel he hx
 generalize hxv : a.eval x = xv at hxr
 have el := bound_run (a := a) hf (x := lo) (fun y hy av hh => val_rel he hh) hlo
 have eh := bound_run (a := a) hf (x := hi) (fun y hy av hh => val_rel he hh) hhi
 have hko : tb.k e ≠ .oth := by intro h; simp [Tab.known, h] at hke
 have hs := run_sizeOf htb hko w
 have hh0 : 0 ≤ h := by omega
 have hlh : l ≤ ((h.toNat : Nat) : Int) := by omega
 have bounds : ∀ cap : Nat, es.length ≤ cap → (Instr.sliceBounds true es.length cap (lo.map a.eval) (hi.map a.eval) none).run P w = .ok (l.toNat, h.toNat, cap) w := by
  intro cap hcap
  have hhc : h ≤ (cap : Int) := by omega
  rcases el with ⟨rfl, rfl⟩ | ⟨y, k, rfl, hy⟩ <;> rcases eh with ⟨rfl, rfl⟩ | ⟨z, k', rfl, hz⟩
  ·simp [Instr.sliceBounds]
  ·simp [hz, Instr.sliceBounds, Instr.sliceBound, asIntOf, hhc, hh0]
  ·simp [hy, Instr.sliceBounds, Instr.sliceBound, asIntOf, h0, h1]
  ·simp [hy, hz, Instr.sliceBounds, Instr.sliceBound, asIntOf, h0, hhc, hh0]
   intro hc; omega
 obtain ⟨xs, hown, hz0, hcr, hnK⟩ := hf.heap.ok i _ hi'
 cases hxr with
 | own _ hi0 =>
  rcases hown.2 with ⟨hr, hz⟩ | ⟨b, cap, cur, hr, hB, hheap, hle, hcap, hsize, htake⟩
  ·omega
  ·have hb := bounds cap hle
   have hrun : (execOp a.eval o).run P w = .ok (.value (cut sz (ρ i) l.toNat h.toNat)) w := by
    rw [hr]
    have hne : ¬ cap = l.toNat := by omega
    simp [execOp, hop, hxv, hr, Instr.sliceAt, Instr.slice, run_underlying (tab_sl htb hk), hb, hs, hsz, Addr.add_lit, cut, hne]
   unfold Oper.wp
   rw [hrun]
   simp only [Oper.upon]
   have hkk : ∀ m, (H.get m).isSome = true → (HEnv.get ((j, .pin (.own i) (ρ i)) :: H) m).isSome = true ∧ (fun m => if m = j then undef else ρ m) m = ρ m := by
    intro m hm
    have hmj : m ≠ j := by rintro rfl; rw [hj] at hm; cases hm
    refine ⟨?_, by simp [hmj]⟩
    rw [HEnv.get_cons]; split <;> first | rfl | exact hm
   have hij : i ≠ j := by rintro rfl; rw [hj] at hi'; cases hi'
   refine hKK _ _ ((k (ρ i)).go _ _ ⟨put_size g1, put_defers g2, K, ρ, ⟨hf.below, hf.old, hf.new, hf.lt, hf.others, hf.pt, ?_, ?_, ?_⟩, ?_⟩)
   ·intro m hh bb hm hl hbb
    rw [HEnv.get_cons] at hm
    split at hm
    ·simp only [Option.some.injEq] at hm; subst hm; simp [HE.live] at hl
    ·exact hf.away m hh bb hm hl hbb
   ·intro m hh hm
    have hkk' : ∀ m, (H.get m).isSome = true → (HEnv.get ((j, .pin (.own i) (ρ i)) :: H) m).isSome = true ∧ ρ m = ρ m := fun m hm => ⟨(hkk m hm).1, rfl⟩
    rw [HEnv.get_cons] at hm
    split at hm
    ·simp only [Option.some.injEq] at hm; subst hm
     have hold : ARel K w ρ H (.own i) (ρ i) := .own i (by rw [hi']; rfl)
     exact hold.keeps (.refl K w) hkk'
    ·exact (hf.heap.ok m hh hm).keeps (.refl hf.lt) hf.lt hkk'
   ·intro m m' hh hh' bb hmm hm hm' hl hl' hb1 hb2
    have hq : ∀ m hh, HEnv.get ((j, .pin (.own i) (ρ i)) :: H) m = some hh → hh.live = true → H.get m = some hh := by
     intro m hh hm hl
     rw [HEnv.get_cons] at hm
     split at hm
     ·simp only [Option.some.injEq] at hm; subst hm; simp [HE.live] at hl
     ·exact hm
    exact hf.heap.apart m m' hh hh' bb hmm (hq m hh hm hl) (hq m' hh' hm' hl') hl hl' hb1 hb2
   ·rw [hd]
    refine env_put g1 ht (he.keeps (.refl K w) (fun m hm => ⟨(hkk m hm).1, rfl⟩)) (.pv _ _ (.base _ (cut_ok _ _ _ _ ⟨_, _, _, hr⟩)))
theorem cells1_splice {es ps : List PV} {xs vs : List Value} {off : Nat} (h : CellsRel K w 1 es xs) (hp : CellsRel K w 1 ps vs) (hx : xs.length = es.length) (hv : vs.length = ps.length) (ho : off + ps.length ≤ es.length) :
  CellsRel K w 1 (es.take off ++ ps ++ es.drop (off + ps.length)) (xs.take off ++ vs ++ xs.drop (off + vs.length)) := by
 intro i e he
 rw [splice_get ho] at he
 have key : ∀ k c, e.cells[k]? = some c → e.cells.length = 1 → k = 0 := fun k c hc hl => by have := (List.getElem?_eq_some_iff.1 hc).1; omega
 split at he
 ·rename_i h1
  obtain ⟨c1, c2⟩ := h i e he
  refine ⟨c1, fun k c hc => ?_⟩
  obtain rfl := key k c hc c1
  obtain ⟨v, v1, v2, v3⟩ := c2 0 c hc
  exact ⟨v, by rw [splice_get (by omega), if_pos (by omega)]; exact v1, v2, v3⟩
 ·split at he
  ·rename_i h1 h2
   obtain ⟨c1, c2⟩ := hp (i - off) e he
   refine ⟨c1, fun k c hc => ?_⟩
   obtain rfl := key k c hc c1
   obtain ⟨v, v1, v2, v3⟩ := c2 0 c hc
   exact ⟨v, by rw [splice_get (by omega), if_neg (by omega), if_pos (by omega), show i * 1 + 0 - off = (i - off) * 1 + 0 by omega]; exact v1, v2, v3⟩
  ·rename_i h1 h2
   obtain ⟨c1, c2⟩ := h i e he
   refine ⟨c1, fun k c hc => ?_⟩
   obtain rfl := key k c hc c1
   obtain ⟨v, v1, v2, v3⟩ := c2 0 c hc
   exact ⟨v, by rw [splice_get (by omega), if_neg (by omega), if_neg (by omega)]; exact v1, v2, v3⟩
theorem FS.splice (hf : FS g K ρ H w) {i e b cap off : Nat} {es ps : List PV} {cur : Array Value} {vs : List Value} (hi : H.get i = some (.mrow e 1 es)) (hρ : ρ i = .slice (some ⟨b, 0, none⟩) es.length cap) (hheap : w.heap[b]? = some (.cells cur e (0, 0)))
  (hp : CellsRel K w 1 ps vs) (hv : vs.length = ps.length) (ho : off + ps.length ≤ es.length) {arr : Array Value} (harr : arr = (cur.toList.take off ++ vs ++ cur.toList.drop (off + vs.length)).toArray) :
  FS g K ρ ((i, .mrow e 1 (es.take off ++ ps ++ es.drop (off + ps.length))) :: H) (w.setRow b arr) ∧ Later K K w (w.setRow b arr) := by
 obtain ⟨xs, hown, h0, hcr, hnK⟩ := hf.heap.ok i _ hi
 rcases hown.2 with ⟨hr, _⟩ | ⟨b', cap', cur', hr, hB, hheap', hec, hcap, hsize, htake⟩
 ·rw [hρ] at hr; simp at hr
 ·rw [hρ] at hr
  simp only [Value.slice.injEq, Option.some.injEq, Addr.mk.injEq, and_true, true_and] at hr
  obtain ⟨rfl, rfl⟩ := hr
  rw [hheap] at hheap'
  simp only [Option.some.injEq, Obj.cells.injEq, and_true] at hheap'
  subst hheap'
  have hlen : (es.take off ++ ps ++ es.drop (off + ps.length)).length = es.length := by rw [List.length_append, List.length_append, List.length_take, List.length_drop]; omega
  have hgrow : w.grownBy (w.setRow b arr) (some b) := ⟨rfl, rfl, rfl, by simp, fun k _ hk => setRow_other w b k _ (fun e => hk (by simp [e]))⟩
  have hnKb : ∀ o, ¬ K b o := hnK b (by rw [hρ]; rfl)
  have hlat : Later K K w (w.setRow b arr) := ⟨fun _ _ h => h, fun b' o hk => by
   have : b' ≠ b := by rintro rfl; exact hnKb o hk
   exact cell_setRow_other w b _ ⟨b', o, none⟩ this⟩
  have hxl : xs.length = es.length := by have := hown.1; simpa using this
  have hkeep : ∀ j, (H.get j).isSome = true → (HEnv.get ((i, .mrow e 1 (es.take off ++ ps ++ es.drop (off + ps.length))) :: H) j).isSome = true ∧ ρ j = ρ j := by
   intro j hj
   refine ⟨?_, rfl⟩
   rw [HEnv.get_cons]
   split
   ·rfl
   ·exact hj
  refine ⟨⟨hf.below.grown hgrow hf.below.size (fun k hk => by simp at hk; omega), hf.old, hf.new, fun b o hk => by have := hf.lt b o hk; simpa using this, hf.others.trans (others_row hheap hgrow), hf.pt.grown hf.old hgrow hlat (fun b2 hb2 => by cases hb2; exact hf.away i _ b hi rfl (by rw [hρ]; rfl)) (fun _ _ h => .inl h), hf.away.set hi rfl, ?_, ?_⟩, hlat⟩
  ·intro j' e' hj
   rw [HEnv.get_cons] at hj
   split at hj
   ·rename_i e1; subst e1
    simp only [Option.some.injEq] at hj; subst hj
    refine ⟨xs.take off ++ vs ++ xs.drop (off + vs.length), ⟨?_, .inr ⟨b, cap, arr, by rw [hρ, hlen], hB, setRow_heap w b cur _ e _ hheap, by rw [hlen]; exact hec, hcap, ?_, ?_⟩⟩, h0, ?_, fun b' hb' => hnK b' hb'⟩
    ·rw [hlen, List.length_append, List.length_append, List.length_take, List.length_drop]; omega
    ·rw [← hsize, harr, List.size_toArray, List.length_append, List.length_append, List.length_take, List.length_drop, Array.length_toList]; omega
    ·rw [hlen, harr, ← htake]
     have h9 : cur.toList.length = cur.size := by simp
     exact splice_take (by omega) (by omega)
    ·have := cells1_splice (off := off) hcr hp hxl hv ho
     intro i1 e1 he1
     obtain ⟨c1, c2⟩ := this i1 e1 he1
     exact ⟨c1, fun k c hc => let ⟨v, v1, v2, v3⟩ := c2 k c hc; ⟨v, v1, v2, v3.later hlat⟩⟩
   ·rename_i hne
    by_cases hlive : e'.live = true
    ·have := (hf.heap.ok j' e' hj).grown (f := id) hgrow hlat (fun b o h => .inl h) (fun av v h => h.keeps hlat hkeep) hlive (fun b' hb' e' => by
      simp at e'; subst e'
      exact hf.heap.apart i j' _ _ b hne hi hj rfl hlive (by rw [hρ]; rfl) hb')
     cases e' <;> exact this
    ·cases e' <;> simp [HE.live] at hlive
     ·trivial
     ·exact ARel.keeps hlat hkeep (hf.heap.ok j' _ hj)
  ·intro j' k' e1 e2 bb hjk hj hk' hlj hlk hbj hbk
   have f1 : ∀ (j : Nat) (hh : HE), HEnv.get ((i, .mrow e 1 (es.take off ++ ps ++ es.drop (off + ps.length))) :: H) j = some hh → hh.live = true → ∃ h0, H.get j = some h0 ∧ h0.live = true := by
    intro j hh hj hl
    rw [HEnv.get_cons] at hj
    split at hj
    ·rename_i e'; subst e'; exact ⟨_, hi, rfl⟩
    ·exact ⟨hh, hj, hl⟩
   obtain ⟨a1, a2, a3⟩ := f1 j' e1 hj hlj
   obtain ⟨b1, b2, b3⟩ := f1 k' e2 hk' hlk
   exact hf.heap.apart j' k' a1 b1 bb hjk a2 b2 a3 b3 hbj hbk
theorem ao_mclear (htb : TabOK P tb) {t e : Nat} {x : Operand} {i j l h : Nat} {u : Value} {es : List PV} {z : PV} {zv : Value} (hg : guardE ops env o = some true) (hop : o.op = .call { callee := .builtin .clear, args := #[x], argTypes := #[t] }) (hk : tb.k t = .sl e)
  (hx : env.val x = some (.pv (.base (cut 1 u l h)))) (hj : H.get j = some (.pin (.own i) u)) (hi : H.get i = some (.mrow e 1 es)) (hlh : l ≤ h) (hh : h ≤ es.length)
  (hz : tb.zero e = some zv) (hzz : zeroPV zv = some z) (hzc : zv.cells.size = 1) (hd : o.dst = none)
  (k : AO P n g ops.toArray rest env ((i, .mrow e 1 (es.take l ++ List.replicate (h - l) z ++ es.drop (l + (h - l)))) :: H) Q) : AO P n g ops.toArray (o :: rest) env H Q := by
 refine ⟨fun a w hinv => ?_⟩
 have hw := wanted_of hinv hg
 obtain ⟨g1, g2, K, ρ, hf, he⟩ := hinv
 refine wpList_step fun KK hKK => ?_
 rw [if_pos hw]
 have hxr := val_rel he hx
 generalize hxv : a.eval x = xv at hxr
 have hu : u = ρ i := by
  have h9 : ARel K w ρ H (.own i) u := hf.heap.ok j _ hj
  generalize hru : ρ i = ri
  cases h9 with
  | own _ _ => exact hru
 subst hu
 obtain ⟨xs, hown, h0, hcr, hnK⟩ := hf.heap.ok i _ hi
 have hzi : (zeroValue e).run P w = .ok zv w := by
  have hz' := hz
  unfold Tab.zero at hz'
  split at hz'
  ·rename_i ti hti
   obtain ⟨tin, e1, _, _, e4, _⟩ := tab_info htb hti
   simp [zeroValue, typeInfo, e1, e4, hz']
  ·cases hz'
 obtain ⟨hzr, hznt⟩ := zeroPV_rel (K := K) (w := w) hzz
 have hzcr := cells_rel hzr
 have hzo := cells_one hzr hznt
 obtain ⟨zc, hzc1⟩ : ∃ zc, zv.cells = #[zc] := ⟨zv.cells[0], by
  apply Array.ext
  ·simp [hzc]
  ·intro m m1 m2
   have : m = 0 := by omega
   subst this; simp⟩
 have hzl : z.cells.length = 1 := by rw [← hzcr.1, hzc1]; rfl
 have hrep : CellsRel K w 1 (List.replicate (h - l) z) (List.replicate (h - l) zc) := by
  intro m p hm
  have hml : m < h - l := by have := (List.getElem?_eq_some_iff.1 hm).1; simpa using this
  have hpz : p = z := by rw [List.getElem?_replicate, if_pos hml] at hm; simpa using hm.symm
  subst hpz
  refine ⟨hzl, fun q c hc => ?_⟩
  have hq : q = 0 := by have := (List.getElem?_eq_some_iff.1 hc).1; omega
  subst hq
  exact ⟨zc, by rw [List.getElem?_replicate, if_pos (by omega)], hzo zc (by rw [hzc1]; simp), hzcr.2 0 c zc hc (by rw [hzc1]; rfl)⟩
 cases hxr with
 | pv _ _ hpr =>
  cases hpr
  rcases hown.2 with ⟨hr, hz0⟩ | ⟨b, cap, cur, hr, hB, hheap, hle, hcap, hsize, htake⟩
  ·
   have hes : es = [] := List.eq_nil_of_length_eq_zero hz0
   subst hes
   have hl0 : l = 0 := by simp at hh; omega
   have hh0 : h = 0 := by simpa using hh
   subst hl0 hh0
   have hrun : (execOp a.eval o).run P w = .ok (.value (.tuple #[])) w := by
    simp [execOp, hop, hxv, hr, resolve, invoke, builtin, Builtin.clear_, run_underlying (tab_sl htb hk), cut]
   unfold Oper.wp
   rw [hrun]
   simp only [Oper.upon]
   have hd' : a.put o.dst (.tuple #[]) = a := by rw [hd]; rfl
   rw [hd']
   refine hKK _ _ (k.go _ _ ⟨g1, g2, K, ρ, ⟨hf.below, hf.old, hf.new, hf.lt, hf.others, hf.pt, hf.away.set hi rfl, ?_, ?_⟩, he.keeps (.refl K w) fun m hm => ⟨by rw [HEnv.get_cons]; split <;> first | rfl | exact hm, rfl⟩⟩)
   ·intro m hh' hm
    have hkk' : ∀ m, (H.get m).isSome = true → (HEnv.get ((i, .mrow e 1 (([] : List PV).take 0 ++ List.replicate (0 - 0) z ++ ([] : List PV).drop (0 + (0 - 0)))) :: H) m).isSome = true ∧ ρ m = ρ m := fun m hm => ⟨by rw [HEnv.get_cons]; split <;> first | rfl | exact hm, rfl⟩
    rw [HEnv.get_cons] at hm
    split at hm
    ·rename_i e1; subst e1
     simp only [Option.some.injEq] at hm; subst hm
     exact ⟨xs, by simpa using hown, h0, by simpa using hcr, hnK⟩
    ·exact (hf.heap.ok m hh' hm).keeps (.refl hf.lt) hf.lt hkk'
   ·intro j' k' e1 e2 bb hjk hj hk' hlj hlk hbj hbk
    have f1 : ∀ (j : Nat) (hh : HE), HEnv.get ((i, .mrow e 1 (([] : List PV).take 0 ++ List.replicate (0 - 0) z ++ ([] : List PV).drop (0 + (0 - 0)))) :: H) j = some hh → hh.live = true → ∃ h0, H.get j = some h0 ∧ h0.live = true := by
     intro j hh hj hl
     rw [HEnv.get_cons] at hj
     split at hj
     ·rename_i e'; subst e'; exact ⟨_, hi, rfl⟩
     ·exact ⟨hh, hj, hl⟩
    obtain ⟨a1, a2, a3⟩ := f1 j' e1 hj hlj
    obtain ⟨b1, b2, b3⟩ := f1 k' e2 hk' hlk
    exact hf.heap.apart j' k' a1 b1 bb hjk a2 b2 a3 b3 hbj hbk
  ·obtain ⟨arr, harr⟩ : ∃ arr, arr = (cur.toList.take l ++ List.replicate (h - l) zc ++ cur.toList.drop (l + (List.replicate (h - l) zc).length)).toArray := ⟨_, rfl⟩
   obtain ⟨hfs2, hlat⟩ := FS.splice hf hi hr hheap hrep (by simp) (by rw [List.length_replicate]; omega) harr
   rw [List.length_replicate] at hfs2
   have hst := run_storeCells_at P b l e (List.replicate (h - l) zc) 0 cur w hheap (by simp; omega) (fun v hv => by rw [List.eq_of_mem_replicate hv]; exact hzo zc (by rw [hzc1]; simp))
   simp only [Nat.add_zero] at hst
   rw [← harr] at hst
   have hzcells : (Builtin.zeroCells zv.cells (h - l)).toList = List.replicate (h - l) zc := by
    rw [hzc1]
    simp [Builtin.zeroCells]
    apply List.ext_getElem
    ·simp
    ·intro m h1 h2
     simp [Nat.mod_one]
   have hrun : (execOp a.eval o).run P w = .ok (.value (.tuple #[])) (w.setRow b arr) := by
    by_cases hz0 : h - l = 0
    ·have harr2 : arr = cur := by rw [harr, hz0]; simp
     have hset : w.setRow b cur = w := setRow_self w b cur e (0, 0) hheap
     rw [harr2, hset]
     simp [execOp, hop, hxv, hr, resolve, invoke, builtin, Builtin.clear_, run_underlying (tab_sl htb hk), cut, hz0]
    ·obtain ⟨m, hm⟩ : ∃ m, h - l = m + 1 := ⟨h - l - 1, by omega⟩
     rw [hm] at hst hzcells
     simp [execOp, hop, hxv, hr, resolve, invoke, builtin, Builtin.clear_, run_underlying (tab_sl htb hk), cut, hm, hzi, hzcells, hst]
   unfold Oper.wp
   rw [hrun]
   simp only [Oper.upon]
   have hd' : a.put o.dst (.tuple #[]) = a := by rw [hd]; rfl
   rw [hd']
   refine hKK _ _ (k.go _ _ ⟨g1, g2, K, ρ, hfs2, he.keeps hlat fun m hm => ⟨by rw [HEnv.get_cons]; split <;> first | rfl | exact hm, rfl⟩⟩)
theorem ao_mcopy (htb : TabOK P tb) {t t2 e d : Nat} {x y : Operand} {i j l h : Nat} {u : Value} {es xs : List PV} {full : Bool} (hg : guardE ops env o = some true) (hop : o.op = .call { callee := .builtin .copy, args := #[x, y], argTypes := #[t, t2] }) (hk : tb.k t = .sl e)
  (hx : env.val x = some (.pv (.base (cut 1 u l h)))) (hj : H.get j = some (.pin (.own i) u)) (hi : H.get i = some (.mrow e 1 es)) (hy : env.pv H y = some (.slc 1 xs full)) (hke : tb.known e = true) (hs1 : tb.size e = 1) (hl : l < es.length) (hfit : l + xs.length ≤ h) (hh : h ≤ es.length) (hd : o.dst = some d) (ht : Nat.blt d n = true)
  (k : AO P n g ops.toArray rest ((d, .pv (.base (.int .i64 (xs.length : Nat)))) :: env) ((i, .mrow e 1 (es.take l ++ xs ++ es.drop (l + xs.length))) :: H) Q) : AO P n g ops.toArray (o :: rest) env H Q := by
 refine ⟨fun a w hinv => ?_⟩
 have hw := wanted_of hinv hg
 obtain ⟨g1, g2, K, ρ, hf, he⟩ := hinv
 refine wpList_step fun KK hKK => ?_
 rw [if_pos hw]
 have hxr := val_rel he hx
 have hyr := opE_pv (a := a) hf (x := y) (fun av hh => val_rel he hh) hy
 generalize hxv : a.eval x = xv at hxr
 generalize hyv : a.eval y = yv at hyr
 have hu : u = ρ i := by
  have h9 : ARel K w ρ H (.own i) u := hf.heap.ok j _ hj
  generalize hru : ρ i = ri
  cases h9 with
  | own _ _ => exact hru
 subst hu
 obtain ⟨zs, hown, h0, hcr, hnK⟩ := hf.heap.ok i _ hi
 have hsz : (P.info? e).map (·.size) = some 1 := by
  have hko : tb.k e ≠ .oth := by intro h; simp [Tab.known, h] at hke
  have hs := run_sizeOf (P := P) htb hko w
  rw [hs1] at hs
  unfold sizeOf typeInfo at hs
  cases hq : P.info? e with
  | none => simp [hq, Result.andThen] at hs
  | some q => simp [hq, Result.andThen] at hs; simp [hs]
 obtain ⟨news, n1, n2, n3, n4, n5⟩ := slc_flat hyr
 rw [Nat.mul_one] at n1
 cases hxr with
 | pv _ _ hpr =>
  cases hpr
  rcases hown.2 with ⟨hr, hz0⟩ | ⟨b, cap, cur, hr, hB, hheap, hle, hcap, hsize, htake⟩
  ·omega
  ·obtain ⟨arr, harr⟩ : ∃ arr, arr = (cur.toList.take l ++ news ++ cur.toList.drop (l + news.length)).toArray := ⟨_, rfl⟩
   obtain ⟨hfs2, hlat⟩ := FS.splice hf hi hr hheap n4 n1 (by omega) harr
   have hcut : cut 1 (ρ i) l h = .slice (some ⟨b, l, none⟩) (h - l) (cap - l) := by rw [hr]; simp [cut]
   have hrun : (execOp a.eval o).run P w = .ok (.value (.int .i64 (xs.length : Nat))) (w.setRow b arr) := by
    by_cases hx0 : xs.length = 0
    ·have hn0 : news = [] := List.eq_nil_of_length_eq_zero (by omega)
     have harr2 : arr = cur := by rw [harr, hn0]; simp
     have hset : w.setRow b cur = w := setRow_self w b cur e (0, 0) hheap
     rw [harr2, hset]
     rcases n2 with ⟨rfl, _⟩ | ⟨ad, cc, rfl, _⟩
     ·have h1 := run_copy_none (P := P) w t t2 o.type e (some ⟨b, l, none⟩) none (h - l) (cap - l) 0 0 (tab_sl htb hk) hsz (by simp)
      simp [execOp, hop, hxv, hyv, hcut, resolve, invoke, builtin, h1, hx0, goInt]
     ·have h1 := run_copy_none (P := P) w t t2 o.type e (some ⟨b, l, none⟩) (some ad) (h - l) (cap - l) xs.length cc (tab_sl htb hk) hsz (by rw [hx0]; simp)
      rw [hx0] at h1
      simp [execOp, hop, hxv, hyv, hcut, resolve, invoke, builtin, h1, hx0, goInt]
    ·rcases n2 with ⟨_, hz⟩ | ⟨ad, cc, rfl, hcell, _⟩
     ·omega
     ·have h1 := run_copy_row (P := P) w t t2 o.type e b l (h - l) (cap - l) ad xs.length cc cur e news (tab_sl htb hk) hsz hheap (by rw [n1]; exact (Nat.min_eq_left (by omega)).symm) hcell (by rw [n1]; omega) n3
      rw [← harr] at h1
      simp [execOp, hop, hxv, hyv, hcut, resolve, invoke, builtin, h1, n1, goInt]
   unfold Oper.wp
   rw [hrun]
   simp only [Oper.upon]
   refine hKK _ _ (k.go _ _ ⟨put_size g1, put_defers g2, K, ρ, hfs2, ?_⟩)
   rw [hd]
   exact env_put g1 ht (he.keeps hlat fun m hm => ⟨by rw [HEnv.get_cons]; split <;> first | rfl | exact hm, rfl⟩) (.pv _ _ (.base _ rfl))
theorem ao_makeK (htb : TabOK P tb) {ty e d m : Nat} {x y : Operand} {sz : Nat} {z : PV} {mi : Int} {kl kc : IntKind} (i : Nat) (hg : guardE ops env o = some true) (hop : o.op = .makeSlice ty x y) (hk : tb.k ty = .sl e) (hx : env.pv H x = some (.base (.int kl mi))) (hy : env.pv H y = some (.base (.int kc mi))) (hmi : mi = ((m : Nat) : Int))
  (hz : (match tb.zero e with | some v => zeroPV v | none => none) = some z) (hzz : (match tb.get e with | some ti => (match ti.zero with | some zv => ti.size == sz && zv.cells.size == sz && Nat.blt 0 sz | none => false) | none => false) = true)
  (hb : (match tb.get e with | some ti => ti.bytes | none => 0) * m ≤ 281474976710656) (hm : m ≤ maxLen) (hi : H.get i = none) (hd : o.dst = some d) (ht : Nat.blt d n = true)
  (h : AO P n g ops.toArray rest ((d, .own i) :: env) ((i, .mrow e sz (List.replicate m z)) :: H) Q) : AO P n g ops.toArray (o :: rest) env H Q := by
 refine ⟨fun a w hinv => ?_⟩
 have hw := wanted_of hinv hg
 obtain ⟨h1, h2, K, ρ, hf, he⟩ := hinv
 refine wpList_step fun KK hKK => ?_
 rw [if_pos hw]
 subst hmi
 cases hti : tb.get e with
 | none => simp [hti] at hzz
 | some ti =>
  cases hzv : ti.zero with
  | none => simp [hti, hzv] at hzz
  | some zv =>
   simp only [hti, hzv, Bool.and_eq_true, beq_iff_eq] at hzz hb
   obtain ⟨⟨z1, z2⟩, z3⟩ := hzz
   have hsz : 0 < sz := Nat.le_of_ble_eq_true z3
   obtain ⟨tin, q1, q2, q3, q4, _⟩ := tab_info htb hti
   have hzp : zeroPV zv = some z := by
    have : tb.zero e = some zv := by unfold Tab.zero; rw [hti]; exact hzv
    rw [this] at hz; exact hz
   have hxr := opE_pv (a := a) hf (x := x) (fun av hh => val_rel he hh) hx
   have hyr := opE_pv (a := a) hf (x := y) (fun av hh => val_rel he hh) hy
   generalize hxv : a.eval x = xv at hxr
   generalize hyv : a.eval y = yv at hyr
   cases hxr; cases hyr
   obtain ⟨w', r1, r2, r3⟩ := run_make_full w g.w0.heap.size ty e tin zv sz (tab_sl htb hk) q1 (by rw [q4]; exact hzv) (by omega) kl kc m (by rw [q3]; exact hb) hm hf.below.size
   have hrun : (execOp a.eval o).run P w = .ok (.value (.slice (some ⟨w.heap.size, 0, none⟩) m m)) w' := by
    simp [execOp, hop, hxv, hyv, r1]
   unfold Oper.wp
   rw [hrun]
   simp only [Oper.upon]
   have hev : Evo K K w w' := ⟨⟨r3.os, r3.tape, r3.output, r3.size, fun k hk => r3.block k hk (by simp)⟩, fun _ _ h => h, fun _ _ h => .inl h, fun b o h => Nat.lt_of_lt_of_le (hf.lt b o h) r3.size⟩
   obtain ⟨hzr, hznt⟩ := zeroPV_rel (K := K) (w := w') hzp
   have hzc := cells_rel hzr
   have hzo := cells_one hzr hznt
   have hzl : zv.cells.toList.length = sz := by simpa using z2
   refine hKK _ _ (h.go _ _ ⟨put_size h1, put_defers h2, K, fun j => if j = i then .slice (some ⟨w.heap.size, 0, none⟩) m m else ρ j, hf.fresh hev hi ⟨(madeCells zv.cells (m * sz)).toList, by rw [List.length_replicate]; exact r2, hsz, ?_, ?_⟩ (by simp [blockOf]), ?_⟩)
   ·intro i1 e1 he1
    have hi1 : i1 < m := by have := (List.getElem?_eq_some_iff.1 he1).1; simpa using this
    have e2 : e1 = z := by rw [List.getElem?_replicate, if_pos hi1] at he1; simpa using he1.symm
    subst e2
    have hl : e1.cells.length = sz := by rw [← hzl, hzc.1]
    refine ⟨hl, fun k c' hc' => ?_⟩
    have hk : k < sz := by rw [← hl]; exact (List.getElem?_eq_some_iff.1 hc').1
    have hkz : k < zv.cells.size := by omega
    have hu : zv.cells.toList[k]? = some zv.cells[k] := by simp [hkz]
    refine ⟨zv.cells[k], ?_, hzo _ (List.mem_of_getElem? hu), hzc.2 k c' _ hc' hu⟩
    have hlt : i1 * sz + k < m * sz := by
     have : i1 * sz + sz ≤ m * sz := by rw [← Nat.succ_mul]; exact Nat.mul_le_mul_right _ hi1
     omega
    have hmod : (i1 * sz + k) % zv.cells.size = k := by rw [z2, Nat.add_comm, Nat.add_mul_mod_self_right]; exact Nat.mod_eq_of_lt hk
    simp [madeCells, hlt, hmod, hkz]
   ·intro b hb o ho
    simp [Value.ownBlock] at hb
    subst hb
    have := hf.lt _ _ ho
    omega
   ·rw [hd]
    refine env_put h1 ht (he.keeps (hev.later hf.lt) (fresh_keeps hi _ _)) ?_
    have := ARel.own (K := K) (w := w') (ρ := fun j => if j = i then .slice (some ⟨w.heap.size, 0, none⟩) m m else ρ j) (H := (i, HE.mrow e sz (List.replicate m z)) :: H) i (by simp [HEnv.get_cons])
    simpa using this
theorem ao_aggpv {l : List Oper} (t : Nat) {cs : List AV} (ps : List PV) (ht : env.get t = some (.agg cs)) (hc : cs = ps.map .pv) (k : AO P n g ops.toArray l ((t, .pv (.agg ps)) :: env) H Q) : AO P n g ops.toArray l env H Q := by
 refine ⟨fun a w hinv => k.go a w ?_⟩
 obtain ⟨h1, h2, K, ρ, hf, he⟩ := hinv
 refine ⟨h1, h2, K, ρ, hf, fun t' av hg => ?_⟩
 rw [Env.get_cons] at hg
 split at hg
 ·rename_i e; subst e
  simp only [Option.some.injEq] at hg; subst hg
  obtain ⟨v, v1, v2⟩ := he t _ ht
  refine ⟨v, v1, ?_⟩
  subst hc
  cases v2 with
  | agg _ vs a1 a2 a3 =>
   refine .pv _ _ (.agg ps vs (by simpa using a1) a2 fun k c v hk hv => ?_)
   have := a3 k (.pv c) v (by rw [List.getElem?_map, hk]; rfl) hv
   cases this with
   | pv _ _ hp => exact hp
 ·exact he t' av hg
end
end Go.Cg
namespace Go.Cg
open Go.Proofs
abbrev u64 (n : Int) : PV := .base (.int .u64 n)
def andU (k : IntKind) (a b : Int) : Int := k.wrap ((BitVec.ofInt k.bits a &&& BitVec.ofInt k.bits b).toNat : Int)
def orU (a b : Int) : Int := IntKind.u64.wrap ((BitVec.ofInt IntKind.u64.bits a ||| BitVec.ofInt IntKind.u64.bits b).toNat : Int)
def headP (t : Ty) : Int := orU (orU (IntKind.u64.wrap (andU .i64 t.kind 15)) (IntKind.u64.wrap (IntKind.u64.wrap (andU .i64 t.index 1023) * 2 ^ (min (4 : Int).toNat IntKind.u64.bits)))) (IntKind.u64.wrap (IntKind.u64.wrap (andU .i64 t.dims 15) * 2 ^ (min (14 : Int).toNat IntKind.u64.bits)))
set_option maxHeartbeats 1000000 in
theorem Head_call (t : Ty) : ACall Tryz.prog 66 [tyPV t] (u64 (headP t)) := by
 refine acall_intro tbOK Tryz.func66 rfl (by kernel_rfl) Tryz.ntmps66 (by simp) _ rfl (fun hw gB hgB => ?_)
 repeat' (first | refine ao_q rfl (q_shl rfl rfl rfl (by decide)) rfl rfl ?_ | refine sA ?_ | refine sC (fun _ => ?_) (fun _ => ?_) | fail)
 exact retq rfl rfl
def typeP (h : Int) : Ty := ⟨IntKind.i64.wrap (andU .u64 h 15), IntKind.i64.wrap (andU .u64 (h.fdiv (2 ^ (min (4 : Int).toNat IntKind.u64.bits))) 1023), IntKind.i64.wrap (andU .u64 (h.fdiv (2 ^ (min (14 : Int).toNat IntKind.u64.bits))) 15), false⟩
set_option maxHeartbeats 1000000 in
theorem Type_call (h : Int) : ACall Tryz.prog 84 [u64 h] (tyPV (typeP h)) := by
 refine acall_intro tbOK Tryz.func84 rfl (by kernel_rfl) Tryz.ntmps84 (by simp) _ rfl (fun hw gB hgB => ?_)
 repeat' (first | refine ao_q rfl (q_shr rfl rfl rfl (by decide)) rfl rfl ?_ | refine sA ?_ | refine sC (fun _ => ?_) (fun _ => ?_) | fail)
 exact retq rfl rfl
abbrev nilP : PV := .base (.pointer none)
set_option maxHeartbeats 1000000 in
theorem FaultN_call (k : Int) : ACall Tryz.prog 57 [nilP, pi k] (u64 0) := by
 refine acall_intro tbOK Tryz.func57 rfl (by kernel_rfl) Tryz.ntmps57 (by simp) _ rfl (fun hw gB hgB => ?_)
 repeat' (first | refine ao_q rfl (q_isnil (b := true) rfl Tryz.underlying31 rfl rfl) rfl rfl ?_ | refine sA ?_ | refine sC (fun _ => ?_) (fun _ => ?_) | fail)
 exact retq rfl rfl
set_option maxHeartbeats 1000000 in
theorem GetN_call (k : Int) : ACall Tryz.prog 59 [nilP, u64 k] (u64 0) := by
 refine acall_intro tbOK Tryz.func59 rfl (by kernel_rfl) Tryz.ntmps59 (by simp) _ rfl (fun hw gB hgB => ?_)
 repeat' (first | refine ao_q rfl (q_isnil (b := true) rfl Tryz.underlying31 rfl rfl) rfl rfl ?_ | refine sA ?_ | refine sC (fun _ => ?_) (fun _ => ?_) | fail)
 exact retq rfl rfl
set_option maxHeartbeats 1000000 in
theorem FramesN_call : ACall Tryz.prog 18 [nilP] (u64 0) := by
 refine acall_intro tbOK Tryz.func18 rfl (by kernel_rfl) Tryz.ntmps18 (by simp) _ rfl (fun hw gB hgB => ?_)
 repeat' (first | refine ao_q rfl (q_isnil (b := true) rfl Tryz.underlying31 rfl rfl) rfl rfl ?_ | refine sA ?_ | refine sC (fun _ => ?_) (fun _ => ?_) | fail)
 exact retq rfl rfl
set_option maxHeartbeats 1000000 in
theorem UsedN_call : ACall Tryz.prog 19 [nilP] (pi 0) := by
 refine acall_intro tbOK Tryz.func19 rfl (by kernel_rfl) Tryz.ntmps19 (by simp) _ rfl (fun hw gB hgB => ?_)
 repeat' (first | refine ao_q rfl (q_isnil (b := true) rfl Tryz.underlying31 rfl rfl) rfl rfl ?_ | refine sA ?_ | refine sC (fun _ => ?_) (fun _ => ?_) | fail)
 exact retq rfl rfl
set_option maxHeartbeats 1000000 in
theorem AllN_call : ACall Tryz.prog 31 [nilP] (.base (.slice none 0 0)) := by
 refine acall_intro tbOK Tryz.func31 rfl (by kernel_rfl) Tryz.ntmps31 (by simp) _ rfl (fun hw gB hgB => ?_)
 repeat' (first | refine ao_q rfl (q_isnil (b := true) rfl Tryz.underlying31 rfl rfl) rfl rfl ?_ | refine sA ?_ | refine sC (fun _ => ?_) (fun _ => ?_) | fail)
 exact retq rfl rfl
set_option maxHeartbeats 1000000 in
theorem ObjectN_call (t : Int) : ACall Tryz.prog 67 [nilP, pi t] (u64 0) := by
 refine acall_intro tbOK Tryz.func67 rfl (by kernel_rfl) Tryz.ntmps67 (by simp) _ rfl (fun hw gB hgB => ?_)
 repeat' (first | refine ao_q rfl (q_isnil (b := true) rfl Tryz.underlying31 rfl rfl) rfl rfl ?_ | refine sA ?_ | refine sC (fun _ => ?_) (fun _ => ?_) | fail)
 exact retq rfl rfl
set_option maxHeartbeats 1000000 in
theorem ArrayN_call (t : Ty) (n : Int) : ACall Tryz.prog 58 [nilP, tyPV t, pi n] (u64 0) := by
 refine acall_intro tbOK Tryz.func58 rfl (by kernel_rfl) Tryz.ntmps58 (by simp) _ rfl (fun hw gB hgB => ?_)
 repeat' (first | refine ao_q rfl (q_isnil (b := true) rfl Tryz.underlying31 rfl rfl) rfl rfl ?_ | refine sA ?_ | refine sC (fun _ => ?_) (fun _ => ?_) | fail)
 exact retq rfl rfl
set_option maxHeartbeats 1000000 in
theorem BoxN_call (t : Ty) (l : List PV) : ACall Tryz.prog 68 [nilP, tyPV t, .slc 1 l false] (u64 0) := by
 refine acall_intro tbOK Tryz.func68 rfl (by kernel_rfl) Tryz.ntmps68 (by simp) _ rfl (fun hw gB hgB => ?_)
 repeat' (first | refine ao_q rfl (q_isnil (b := true) rfl Tryz.underlying31 rfl rfl) rfl rfl ?_ | refine sA ?_ | refine sC (fun _ => ?_) (fun _ => ?_) | fail)
 all_goals exact retq rfl rfl
set_option maxHeartbeats 1000000 in
theorem DelegateN_call (t a n : Int) : ACall Tryz.prog 69 [nilP, pi t, u64 a, pi n] (u64 0) := by
 refine acall_intro tbOK Tryz.func69 rfl (by kernel_rfl) Tryz.ntmps69 (by simp) _ rfl (fun hw gB hgB => ?_)
 repeat' (first | refine ao_q rfl (q_isnil (b := true) rfl Tryz.underlying31 rfl rfl) rfl rfl ?_ | refine sA ?_ | refine sC (fun _ => ?_) (fun _ => ?_) | fail)
 exact retq rfl rfl
end Go.Cg
namespace Go.Cg
open Go.Proofs
def g0 : Img := ⟨[], [], [], -1⟩
abbrev nilS : PV := .base (.slice none 0 0)
abbrev memPV (ws : List Int) (mv : Value) (fr used : Int) : PV := .agg [.slc 1 (ws.map u64) false, nilS, nilS, .base mv, u64 1, u64 8, u64 fr, pi used]
theorem wrapU_in {a : Int} (h1 : 0 ≤ a) (h2 : a ≤ 18446744073709551615) : IntKind.u64.wrap a = a := by
 unfold IntKind.wrap
 simp only [IntKind.bits, IntKind.signed]
 simp
 omega
set_option maxHeartbeats 1000000 in
theorem Fault_call (ws : List Int) (mv : Value) (fr used k : Int) (h1 : 1 ≤ k) (h7 : k ≤ 7) : ACall Tryz.prog 57 [.ptr (memPV ws mv fr used) 0, pi k] (u64 k) := by
 refine acall_intro tbOK Tryz.func57 rfl (by kernel_rfl) Tryz.ntmps57 (by simp) _ rfl (fun hw gB hgB => ?_)
 have hd1 : decide (k < 1) = false := decide_eq_false (by omega)
 have hd2 : decide (7 < k) = false := decide_eq_false (by omega)
 repeat' (first | refine ao_q rfl (q_isnil (b := false) rfl Tryz.underlying31 rfl rfl) rfl rfl ?_ | refine sK ?_ | refine sC (fun _ => ?_) (fun _ => ?_) | fail)
 exact retq rfl (by
  simp only [retPV]
  rw [wrapU_in (a := k) (by omega) (by omega), wrapU_in (a := 1 + k) (by omega) (by omega), wrapU_in (by omega) (by omega)]
  congr 2; omega)
set_option maxHeartbeats 1000000 in
theorem Frames_call (ws : List Int) (mv : Value) (fr used : Int) : ACall Tryz.prog 18 [.ptr (memPV ws mv fr used) 0] (u64 fr) := by
 refine acall_intro tbOK Tryz.func18 rfl (by kernel_rfl) Tryz.ntmps18 (by simp) _ rfl (fun hw gB hgB => ?_)
 repeat' (first | refine ao_q rfl (q_isnil (b := false) rfl Tryz.underlying31 rfl rfl) rfl rfl ?_ | refine sA ?_ | refine sC (fun _ => ?_) (fun _ => ?_) | fail)
 exact retq rfl rfl
set_option maxHeartbeats 1000000 in
theorem Used_call (ws : List Int) (mv : Value) (fr used : Int) : ACall Tryz.prog 19 [.ptr (memPV ws mv fr used) 0] (pi used) := by
 refine acall_intro tbOK Tryz.func19 rfl (by kernel_rfl) Tryz.ntmps19 (by simp) _ rfl (fun hw gB hgB => ?_)
 repeat' (first | refine ao_q rfl (q_isnil (b := false) rfl Tryz.underlying31 rfl rfl) rfl rfl ?_ | refine sA ?_ | refine sC (fun _ => ?_) (fun _ => ?_) | fail)
 exact retq rfl rfl
set_option maxHeartbeats 1000000 in
theorem Get_call (ws : List Int) (mv : Value) (fr used : Int) (i : Nat) (h : i < ws.length) (hl : ws.length ≤ 100000) : ACall Tryz.prog 59 [.ptr (memPV ws mv fr used) 0, u64 i] (u64 ws[i]) := by
 refine acall_intro tbOK Tryz.func59 rfl (by kernel_rfl) Tryz.ntmps59 (by simp) _ rfl (fun hw gB hgB => ?_)
 have hd : decide (IntKind.u64.wrap (((ws.map u64).length : Nat) : Int) ≤ (i : Int)) = false := decide_eq_false (by rw [List.length_map, wrapU_in (by omega) (by omega)]; omega)
 have he : (ws.map u64)[i]? = some (u64 ws[i]) := by simp [h]
 repeat' (first | refine ao_q rfl (q_isnil (b := false) rfl Tryz.underlying31 rfl rfl) rfl rfl ?_ | (refine shX ?_; first | refine qX he ?_) | refine sK ?_ | refine sC (fun _ => ?_) (fun _ => ?_) | fail)
 exact retq rfl rfl
set_option maxHeartbeats 1000000 in
theorem size_call (ws : List Int) (mv : Value) (fr used k : Int) (hk : k = 2 ∨ k = 3) : ACall Tryz.prog 105 [.ptr (memPV ws mv fr used) 0, tyPV ⟨k, 0, 0, false⟩] (pi 1) := by
 rcases hk with rfl | rfl
 ·refine acall_intro tbOK Tryz.func105 rfl (by kernel_rfl) Tryz.ntmps105 (by simp) _ rfl (fun hw gB hgB => ?_)
  repeat' (first | refine sA ?_ | refine sC (fun _ => ?_) (fun _ => ?_) | fail)
  all_goals exact retq rfl rfl
 ·refine acall_intro tbOK Tryz.func105 rfl (by kernel_rfl) Tryz.ntmps105 (by simp) _ rfl (fun hw gB hgB => ?_)
  repeat' (first | refine sA ?_ | refine sC (fun _ => ?_) (fun _ => ?_) | fail)
  all_goals exact retq rfl rfl
end Go.Cg
namespace Go.Cg
open Go.Proofs
def gL : Img := ⟨[⟨⟨#[65]⟩, 0, -1, []⟩, ⟨⟨#[66]⟩, 0, 0, []⟩], [⟨⟨#[108]⟩, 0, ⟨3, 0, 0, false⟩, false⟩, ⟨⟨#[105]⟩, 1, ⟨2, 0, 0, false⟩, false⟩], [], -1⟩
theorem wellL : wellR gL = true := by decide +kernel
theorem usedL : allUsed gL = true := by decide +kernel
theorem sizeL : ∀ j, j < gL.types.length → sizeBad gL j = false := by
 intro j hj
 have : j = 0 ∨ j = 1 := by have : gL.types.length = 2 := rfl; omega
 rcases this with rfl | rfl <;> decide +kernel
theorem checkL : check12 gL = (0, 0) := check12_no wellL usedL sizeL
theorem fineL : fineR gL = true := by rw [fineR, checkL]; rfl
theorem place0 : placeT gL 0 = 1 := by decide +kernel
theorem place1 : placeT gL 1 = 2 := by decide +kernel
theorem objL : (objT gL 1).length = 2 := by decide +kernel
theorem okL : OkA gL := fun m hm => by cases hm
abbrev fPV (n : UInt8) (o k : Int) : PV := .agg [.base (.string ⟨#[n]⟩), pi o, pi k, pi 0, pi 0, pb false, pb false]
abbrev imgL : PV := .agg [.slc 4 [wTD 65 (-1), wTD 66 0] true, .slc 7 [fPV 108 0 3, fPV 105 1 2] true, .base (.slice none 0 0), pi (-1)]
theorem imgL_tells : PTells imgL (imgPV gL) :=
 pt_agg (ptl_cons (pt_slc (pcl_cons (wTD_tells 65 (-1)) (pcl_cons (wTD_tells 66 0) pcl_nil))) (ptl_cons (pt_slc (pcl_cons (ptl_cons (.refl _) (ptl_cons (.refl _) (ptl_cons (.refl _) (ptl_cons (.refl _) (ptl_cons (.refl _) (ptl_cons (.refl _) (ptl_cons (.refl _) ptl_nil))))))) (pcl_cons (ptl_cons (.refl _) (ptl_cons (.refl _) (ptl_cons (.refl _) (ptl_cons (.refl _) (ptl_cons (.refl _) (ptl_cons (.refl _) (ptl_cons (.refl _) ptl_nil))))))) pcl_nil))) (ptl_cons (pt_nil 12 false) (ptl_cons (.refl _) ptl_nil))))
end Go.Cg
namespace Go.Cg
open Go.Proofs
theorem cellsA_no {g : Img} {t : Ty} (h : (fineR g && usedR g t) = false) : cellsA g t = [] := by rw [cellsA, h]; rfl
theorem cellsA_yes {g : Img} {t : Ty} (h1 : fineR g = true) (h2 : usedR g t = true) : cellsA g t = cellsT g t := by rw [cellsA, h1, h2]; rfl
end Go.Cg
namespace Go.Cg
open Go.Proofs
end Go.Cg
namespace Go.Cg
open Go.Proofs
set_option maxHeartbeats 1000000 in
theorem has_call (m : Me) (f : Int) : ACall Tryz.prog 178 [mePV m, pi f] (pb (andB m.flags f)) := by
 refine acall_intro tbOK Tryz.func178 rfl (by kernel_rfl) Tryz.ntmps178 (by simp) _ rfl (fun hw gB hgB => ?_)
 repeat' (first | refine sA ?_ | refine sC (fun _ => ?_) (fun _ => ?_) | fail)
 all_goals (first | refine retq rfl ?_ | refine retn rfl ?_)
 all_goals (first | (simp_all [retPV, andB]; done) | (simp_all [retPV, andB]; omega))
set_option maxHeartbeats 1000000 in
theorem Bit1_call (m : Me) : ACall Tryz.prog 144 [mePV m, pi 1] (pb (bitF m.flags 1)) := by
 refine acall_intro tbOK Tryz.func144 rfl (by kernel_rfl) Tryz.ntmps144 (by simp) _ rfl (fun hw gB hgB => ?_)
 repeat' (first | refine sA ?_ | refine sC (fun _ => ?_) (fun _ => ?_) | fail)
 all_goals (first | refine retq rfl ?_ | refine retn rfl ?_)
 all_goals (first | (simp_all [retPV, bitF]; done) | (simp_all [retPV, bitF]; omega))
set_option maxHeartbeats 1000000 in
theorem Bit2_call (m : Me) : ACall Tryz.prog 144 [mePV m, pi 2] (pb (bitF m.flags 2)) := by
 refine acall_intro tbOK Tryz.func144 rfl (by kernel_rfl) Tryz.ntmps144 (by simp) _ rfl (fun hw gB hgB => ?_)
 repeat' (first | refine sA ?_ | refine sC (fun _ => ?_) (fun _ => ?_) | fail)
 all_goals (first | refine retq rfl ?_ | refine retn rfl ?_)
 all_goals (first | (simp_all [retPV, bitF]; done) | (simp_all [retPV, bitF]; omega))
set_option maxHeartbeats 1000000 in
theorem Bit4_call (m : Me) : ACall Tryz.prog 144 [mePV m, pi 4] (pb (bitF m.flags 4)) := by
 refine acall_intro tbOK Tryz.func144 rfl (by kernel_rfl) Tryz.ntmps144 (by simp) _ rfl (fun hw gB hgB => ?_)
 repeat' (first | refine sA ?_ | refine sC (fun _ => ?_) (fun _ => ?_) | fail)
 all_goals (first | refine retq rfl ?_ | refine retn rfl ?_)
 all_goals (first | (simp_all [retPV, bitF]; done) | (simp_all [retPV, bitF]; omega))
set_option maxHeartbeats 1000000 in
theorem Bit8_call (m : Me) : ACall Tryz.prog 144 [mePV m, pi 8] (pb (bitF m.flags 8)) := by
 refine acall_intro tbOK Tryz.func144 rfl (by kernel_rfl) Tryz.ntmps144 (by simp) _ rfl (fun hw gB hgB => ?_)
 repeat' (first | refine sA ?_ | refine sC (fun _ => ?_) (fun _ => ?_) | fail)
 all_goals (first | refine retq rfl ?_ | refine retn rfl ?_)
 all_goals (first | (simp_all [retPV, bitF]; done) | (simp_all [retPV, bitF]; omega))
set_option maxHeartbeats 1000000 in
theorem Bit16_call (m : Me) : ACall Tryz.prog 144 [mePV m, pi 16] (pb (bitF m.flags 16)) := by
 refine acall_intro tbOK Tryz.func144 rfl (by kernel_rfl) Tryz.ntmps144 (by simp) _ rfl (fun hw gB hgB => ?_)
 repeat' (first | refine sA ?_ | refine sC (fun _ => ?_) (fun _ => ?_) | fail)
 all_goals (first | refine retq rfl ?_ | refine retn rfl ?_)
 all_goals (first | (simp_all [retPV, bitF]; done) | (simp_all [retPV, bitF]; omega))
def alikeP (a b : Me) : Bool := a.name.toList == b.name.toList && decide (a.ret = b.ret) && (andB a.flags 1 == andB b.flags 1) && decide (a.params = b.params)
def alikeR (a b : Me) : Bool := a.name.toList == b.name.toList && sameSig a b
set_option maxHeartbeats 1000000 in
theorem AlikeP_call (a b : Me) : ACall Tryz.prog 239 [mePV a, mePV b] (pb (alikeP a b)) := by
 refine acall_intro tbOK Tryz.func239 rfl (by kernel_rfl) Tryz.ntmps239 (by simp) _ rfl (fun hw gB hgB => ?_)
 have hty := tyEq_iff a.ret b.ret
 repeat' (first | (refine shC ?_; first | refine qC (has_call _ _) ?_ | refine qC (EqualTy_call _ _) ?_) | refine sA ?_ | refine sC (fun _ => ?_) (fun _ => ?_) | fail)
 all_goals refine retq rfl ?_
 all_goals (simp only [retPV, alikeP, ← hty]; clear hty; simp_all)
set_option maxHeartbeats 1000000 in
theorem AlikeR_call (a b : Me) : ACall Tryz.prog 242 [mePV a, mePV b] (pb (alikeR a b)) := by
 refine acall_intro tbOK Tryz.func242 rfl (by kernel_rfl) Tryz.ntmps242 (by simp) _ rfl (fun hw gB hgB => ?_)
 repeat' (first | (refine shC ?_; first | refine qC (SameSig_call _ _) ?_) | refine sA ?_ | refine sC (fun _ => ?_) (fun _ => ?_) | fail)
 all_goals (first | refine retq rfl ?_ | refine retn rfl ?_)
 all_goals (first | (simp_all [retPV, alikeR]; done) | (simp_all [retPV, alikeR]; omega))
theorem andB2_fin : ∀ a b : Fin 32, (andB (a.val : Int) 1 == andB (b.val : Int) 1) = ((a.val : Int).tmod 2 == (b.val : Int).tmod 2) := by decide +kernel
theorem flags_fin : ∀ a : Fin 32, andB (a.val : Int) 1 = bitF a.val 1 ∧ andB (a.val : Int) 2 = bitF a.val 2 ∧ andB (a.val : Int) 4 = bitF a.val 4 ∧ andB (a.val : Int) 8 = bitF a.val 8 ∧ andB (a.val : Int) 16 = bitF a.val 16 := by decide +kernel
theorem flags_eq {f : Int} (h0 : 0 ≤ f) (h1 : f ≤ 31) : andB f 1 = bitF f 1 ∧ andB f 2 = bitF f 2 ∧ andB f 4 = bitF f 4 ∧ andB f 8 = bitF f 8 ∧ andB f 16 = bitF f 16 := by
 have := flags_fin ⟨f.toNat, by omega⟩
 simpa only [Int.toNat_of_nonneg h0] using this
theorem alike_eq {x y : Me} (hx0 : 0 ≤ x.flags) (hx1 : x.flags ≤ 31) (hy0 : 0 ≤ y.flags) (hy1 : y.flags ≤ 31) : alikeP x y = alikeR x y := by
 have := andB2_fin ⟨x.flags.toNat, by omega⟩ ⟨y.flags.toNat, by omega⟩
 simp only [Int.toNat_of_nonneg hx0, Int.toNat_of_nonneg hy0] at this
 rw [alikeP, alikeR, sameSig, this]
 simp only [Bool.and_assoc]
end Go.Cg
