/- A part of the walks by abstract values: no statement of its own. -/
import Derived.Test.YtglfbaimlajjgaaGreatU7
import Derived.Test.YtglfbaimlajjgaaGreatU6
import Derived.Test.YtglfbaimlajjgaaGreatU4
import Derived.RangeFuncFrom
import Derived.RangeFuncLeaves
import Derived.RangeFuncWrites
import Derived.Shelf.Abstract
import Derived.OwnWalkIn
import Derived.TacticsInMore
import Derived.LoopNIn
import Derived.LoopIn
import Derived.Test.YtglfbaimlajjgaaGreatU11
import Derived.Test.YtglfbaimlajjgaaGreatU9
/- A range over an iterator: the rounds' body is walked like other code; what is owned is told by the rounds that have been. -/
namespace Go.Cg
open Go.RowKit

/-- Nothing that is owned is a map. -/
def noObj : HEnv → Bool
  | [] => true
  | (_, .obj _) :: _ => false
  | _ :: e => noObj e
theorem noObj_get : ∀ {e : HEnv}, noObj e = true → ∀ i h, e.get i = some h → ∀ X, h ≠ .obj X
  | [], _, i, h, hg, _ => by simp [HEnv.get_nil] at hg
  | (j, x) :: e, hn, i, h, hg, X => by
    have hn' : noObj e = true ∧ ∀ X, x ≠ .obj X := by
      cases x <;> simp_all [noObj]
    rw [HEnv.get_cons] at hg
    split at hg
    · simp only [Option.some.injEq] at hg; subst hg; exact hn'.2 X
    · exact noObj_get hn'.1 i h hg X

section
variable {P : Program} {tb : Tab} {n : Nat} {g : Base} {K : KK} {w w' : World} {ρ : Nat → Value} {H H' : HEnv} {env : Env} {a : Act}

/-- A step that turns one block at most, which is no cells. -/
structure NC (B : Nat) (w w' : World) : Prop where
  row : ∃ row, w.grownBy w' row ∧ ∀ r, row = some r → B ≤ r ∧ ∃ o : Obj, w.heap[r]? = some o ∧ o.isCells = false
theorem NC.cell {B : Nat} (h : NC B w w') {x : Addr} {v : Value} (hc : w.cell? x = some v) : w'.cell? x = some v := by
  obtain ⟨row, hg, hr⟩ := h.row
  exact cell_kept hc hg fun r e => (hr r e).2
theorem Rows.nc {B : Nat} (h : NC B w w') {b o : Nat} {vs : List Value} (hr : Rows K w b o vs) : Rows K w' b o vs :=
  fun k v hv => ⟨(hr k v hv).1, h.cell (hr k v hv).2.1, (hr k v hv).2.2⟩
/-- What holds of a value holds of it later, where cells that hold something hold it still. -/
theorem PRel.keepc (h : ∀ (x : Addr) (v : Value), w.cell? x = some v → w'.cell? x = some v) {p : PV} {v : Value} (hp : PRel K w p v) : PRel K w' p v := by
  have hrow : ∀ {b o : Nat} {vs : List Value}, Rows K w b o vs → Rows K w' b o vs := fun hr k v hv => ⟨(hr k v hv).1, h _ _ (hr k v hv).2.1, (hr k v hv).2.2⟩
  induction hp with
  | base v h1 => exact .base v h1
  | agg cs vs hl h1 _ ih => exact .agg cs vs hl h1 ih
  | nil sz full => exact .nil sz full
  | emp sz full a => exact .emp sz full a
  | slc sz es full b o cap vss h0 hc hf hm hm' hr _ ih => exact .slc sz es full b o cap vss h0 hc hf hm hm' (fun i e he => ⟨(hr i e he).1, (hr i e he).2.1, hrow (hr i e he).2.2⟩) ih
  | ptr p off b o vs hl hr _ ih => exact .ptr p off b o vs hl (hrow hr) ih
  | fn f first cap vf vc h1 h2 _ _ ih1 ih2 => exact .fn f first cap vf vc h1 h2 ih1 ih2
  | tup cs vs hl _ ih => exact .tup cs vs hl ih
theorem PRels.keepc (h : ∀ (x : Addr) (v : Value), w.cell? x = some v → w'.cell? x = some v) {ps : List PV} {vs : List Value} (hp : PRels K w ps vs) : PRels K w' ps vs :=
  ⟨hp.1, fun k c v hc hv => (hp.2 k c v hc hv).keepc h⟩
theorem PRel.nc {B : Nat} (h : NC B w w') {p : PV} {v : Value} (hp : PRel K w p v) : PRel K w' p v := hp.keepc fun _ _ hc => h.cell hc
theorem PRels.nc {B : Nat} (h : NC B w w') {ps : List PV} {vs : List Value} (hp : PRels K w ps vs) : PRels K w' ps vs := hp.keepc fun _ _ hc => h.cell hc
theorem ARel.nc {B : Nat} (h : NC B w w') {av : AV} {v : Value} (ha : ARel K w ρ H av v) : ARel K w' ρ H av v := by
  induction ha with
  | pv p v hp => exact .pv p v (hp.nc h)
  | own i hv => exact .own i hv
  | box i off b hi hb => exact .box i off b hi hb
  | ad i off b m c hi hb => exact .ad i off b m c hi hb
  | agg cs vs hl h1 _ ih => exact .agg cs vs hl h1 ih
  | fn f first cap vf vc h1 h2 _ _ ih1 ih2 => exact .fn f first cap vf vc h1 h2 ih1 ih2
  | any v => exact .any v
  | any1 v h1 h2 => exact .any1 v h1 h2
theorem NC.block {B : Nat} (h : NC B w w') {b : Nat} {arr : Array Value} {t : TypeId} {x : Nat × Nat} (hb : w.heap[b]? = some (.cells arr t x)) : w'.heap[b]? = some (.cells arr t x) := by
  obtain ⟨row, hg, hr⟩ := h.row
  have hlt := (Array.getElem?_eq_some_iff.1 hb).1
  rw [hg.block b hlt (fun e => by
    obtain ⟨_, o, ho, hc⟩ := hr b e.symm
    rw [hb] at ho; cases ho; simp [Obj.isCells] at hc)]
  exact hb
theorem HOk.nc {B B0 : Nat} (h : NC B0 w w') {e : HE} {r : Value} (hX : ∀ X, e ≠ .obj X) (ho : HOk K w B ρ H e r) : HOk K w' B ρ H e r := by
  cases e with
  | cell v =>
    obtain ⟨b, t, arr, u, rfl, hB, hb, hu, ha, hn⟩ := ho
    exact ⟨b, t, arr, u, rfl, hB, h.block hb, hu.nc h, ha, hn⟩
  | row t sz es =>
    obtain ⟨xs, hown, h0, hc, hk⟩ := ho
    obtain ⟨row, hg, hr⟩ := h.row
    refine ⟨xs, hown.kept hg ?_, h0, fun i e he => ⟨(hc i e he).1, fun k c hkc => ?_⟩, hk⟩
    · rcases hown.2 with ⟨e, _⟩ | ⟨b, cap, cur, e, _, hb, _⟩
      · left; rw [e]; rfl
      · right; rw [e]; intro e2
        obtain ⟨_, o, ho, hcc⟩ := hr b e2.symm
        rw [hb] at ho; cases ho; simp [Obj.isCells] at hcc
    · obtain ⟨v, v1, v2, v3⟩ := (hc i e he).2 k c hkc
      exact ⟨v, v1, v2, v3.nc h⟩
  | mrow t sz es =>
    obtain ⟨xs, hown, h0, hc, hk⟩ := ho
    obtain ⟨row, hg, hr⟩ := h.row
    refine ⟨xs, hown.kept hg ?_, h0, fun i e he => ⟨(hc i e he).1, fun k c hkc => ?_⟩, hk⟩
    · rcases hown.2 with ⟨e, _⟩ | ⟨b, cap, cur, e, _, hb, _⟩
      · left; rw [e]; rfl
      · right; rw [e]; intro e2
        obtain ⟨_, o, ho, hcc⟩ := hr b e2.symm
        rw [hb] at ho; cases ho; simp [Obj.isCells] at hcc
    · obtain ⟨v, v1, v2, v3⟩ := (hc i e he).2 k c hkc
      exact ⟨v, v1, v2, v3.nc h⟩
  | dead => trivial
  | pin v u => exact ARel.nc h ho
  | obj X => exact (hX X rfl).elim
/-- A base with nothing in it. -/
structure Bare (g : Base) : Prop where
  ds : g.ds = []
  pr : ∀ b, ¬ g.pr b
  k0 : ∀ b o, g.K0 b o → b < g.w0.heap.size
theorem FS.nc (hf : FS g K ρ H w) (hpr : ∀ b, ¬ g.pr b) (hk0 : ∀ b o, g.K0 b o → b < g.w0.heap.size) (hw1 : g.w1.heap.size = 0) (hno : noObj H = true) (h : NC g.w0.heap.size w w') : FS g K ρ H w' := by
  obtain ⟨row, hg, hr⟩ := h.row
  have hpt : Prot g K w' := ⟨fun b hb => (hpr b hb).elim, fun b o h0 => by
    rw [← hf.pt.kept b o h0]
    refine World.cell?_of_block (hg.block b (hf.lt b o (hf.old b o h0)) fun e => ?_)
    have h1 := (hr b e.symm).1
    have h2 := hk0 b o h0
    omega⟩
  refine ⟨hf.below.grown hg hf.below.size (fun k e => (hr k e).1), hf.old, hf.new, fun b o hk => Nat.lt_of_lt_of_le (hf.lt b o hk) hg.size, ⟨by rw [hw1]; omega, fun k o hk => by have := (Array.getElem?_eq_some_iff.1 hk).1; omega⟩, hpt, hf.away, ?_, hf.heap.apart⟩
  intro i e hi
  exact (hf.heap.ok i e hi).nc h (noObj_get hno i e hi)
theorem EnvR.nc {B : Nat} (h : NC B w w') {tmps : Array Value} (he : EnvR K w ρ H env tmps) : EnvR K w' ρ H env tmps :=
  fun t av ht => let ⟨v, h1, h2⟩ := he t av ht; ⟨v, h1, h2.nc h⟩

/-- An iterator's contract: what it hands over, round by round; it needs what it has captured. -/
structure AIter (P : Program) (f : FuncId) (cap : List PV) {α : Type} (encs : α → Array Value) (all : List α) : Prop where
  stands : Stands P f
  stops : ∀ (K : KK) (w : World) (vc : List Value) (n : Nat), PRels K w cap vc → SeqStopsK Fence.wide n P f vc.toArray encs (fun A B => (∃ K, PRels K A cap vc) → ∃ K, PRels K B cap vc) (fun xs => xs = all) (fun _ => True) all.length w

/-- The mark that a range over an iterator leaves. -/
def mark (D : Nat) : Deferred := { target := .collected D, args := #[] }
/-- A piece of code with such a range in it: it leaves its mark. -/
structure AW2 (P : Program) (n : Nat) (g : Base) (c : Code) (env : Env) (H : HEnv) (Q : QC) : Prop where
  go : ∀ a w, Inv n g env H a w → ∀ d, 2 ≤ d → c.wpIn Fence.wide d P (fun e a' w' => ∃ (g2 : Base) (D : Nat), g2.w0 = g.w0 ∧ g2.K0 = g.K0 ∧ g2.ds = [mark D] ∧ g.w0.heap.size ≤ D ∧ g2.w1.heap[D]? = some (.deferred (some [])) ∧
    ∃ env' H', Inv n g2 env' H' a' w' ∧ Q e env' H') a w

variable {x y c : Code} {QQ : QC} {ops : List Oper}
/-- Ahead of the range. -/
def thenQ2 (next : Env → HEnv → Prop) : QC
  | .normal, env, H => next env H
  | _, _, _ => False
theorem aw2_seqL (h : AW P n g x env H (thenQ2 fun env' H' => AW2 P n g y env' H' QQ)) : AW2 P n g (.seq x y) env H QQ :=
  ⟨fun a w hi d hd => wpIn_seq (wpIn_mono (h.go a w hi none d) fun e a' w' ⟨env', H', h1, h2⟩ => by
    cases e <;> first
      | exact h2.go a' w' h1 d hd
      | exact h2.elim)⟩
/-- Behind it. -/
theorem aw2_seqR (h : AW2 P n g x env H (thenQ2 fun env' H' => ∀ g2 : Base, AW P n g2 y env' H' QQ)) : AW2 P n g (.seq x y) env H QQ :=
  ⟨fun a w hi d hd => wpIn_seq (wpIn_mono (h.go a w hi d hd) fun e a' w' ⟨g2, D, q1, q2, q3, q4, q5, env', H', h1, h2⟩ => by
    cases e <;> first
      | exact wpIn_mono ((h2 g2).go a' w' h1 none d) (fun e a2 w2 ⟨env2, H2, k1, k2⟩ => ⟨g2, D, q1, q2, q3, q4, q5, env2, H2, k1, k2⟩)
      | exact h2.elim)⟩
theorem aw2_block {id : Nat} (h : AW2 P n g c env H (thenQ2 fun env' H' => QQ .normal env' H')) : AW2 P n g (.block id c) env H QQ :=
  ⟨fun a w hi d hd => wpIn_block (wpIn_mono (h.go a w hi d hd) fun e a' w' ⟨g2, D, q1, q2, q3, q4, q5, env', H', h1, h2⟩ => by
    cases e <;> first
      | exact ⟨g2, D, q1, q2, q3, q4, q5, env', H', h1, h2⟩
      | exact h2.elim)⟩

theorem acall2_intro (htb : TabOK P tb) {f : FuncId} {args : List PV} {r : PV} {fn : Func} (hf : P.funcs[f]? = some fn) (hb : fn.body = some c) (hn : (fn.name == "runtime.NumGoroutine") = false) (hnt : fn.ntmps = n) (hargs : args.length ≤ n)
    (rs : List ResultVar) (hrs : fn.results.toList = rs) (h : lensOk args → ∀ g : Base, g.w1.heap.size = 0 → Bare g → AW2 P n g c (argsE 0 args) [] (fun e env H => noObj H = true ∧ RetQ tb rs r e env H)) : ACall P f args r := by
  refine ⟨⟨fn, hf, by simp [hb], hn⟩, fun K w vs hl hv => ?_⟩
  refine callsIn_wide.1 (callsIn_of_wp_marks (F := Fence.wide) (n := 2) hf hb trivial ?_)
  have hlen : vs.length = args.length := hv.1
  refine wpIn_mono ((h hv.lensOk (Base.of w K (bare w) []) rfl ⟨rfl, fun _ h => h, hl⟩).go _ w ⟨by simp [hnt]; omega, rfl, K, fun _ => undef, ⟨.refl _ _, fun _ _ h => h, fun _ _ h => .inl h, hl, bare_others _ _, .base, .none _ _, ⟨by simp [HEnv.get_nil], by simp [HEnv.get_nil]⟩⟩, ?_⟩ 2 (Nat.le_refl _)) ?_
  · intro t av hg
    obtain ⟨_, p, hp, rfl⟩ := argsE_get args 0 t av hg
    have hlt : t < vs.length := by rw [hlen]; exact (List.getElem?_eq_some_iff.1 hp).1
    refine ⟨vs[t], ?_, .pv _ _ (hv.2 t p _ hp (List.getElem?_eq_getElem hlt))⟩
    rw [Array.getElem?_append_left (by simpa using hlt)]
    simp [hlt]
  · rintro e a' w' ⟨g2, D, q1, q2, q3, q4, q5, env1, H', hi, hno, he, env', hent, ps, hps, rfl⟩
    obtain ⟨_, h2, K', ρ', hf2, he0⟩ := hi
    have hD : w'.heap[D]? = some (.deferred (some [])) := hf2.others.same D _ q5 rfl
    -- the frame, told of a base with nothing in it
    have hf' : FS (Base.of w K (bare w) []) K' ρ' H' w' := by
      have b1 := hf2.below; rw [q1] at b1
      have b2 := hf2.old; rw [q2] at b2
      have b3 := hf2.new; rw [q1, q2] at b3
      have b5 := hf2.heap; rw [q1] at b5
      exact ⟨b1, b2, b3, hf2.lt, bare_others _ _, ⟨fun _ h => h.elim, fun b o h0 => World.cell?_of_block (b1.block b (hl b o h0))⟩, .none _ _, b5⟩
    obtain ⟨w3, hw3⟩ : ∃ w3, w3 = w'.putObj D (.deferred none) := ⟨_, rfl⟩
    have hnc : NC w.heap.size w' w3 := ⟨some D, by rw [hw3]; exact grownBy_putObj' _ _ _, fun r e => by cases e; exact ⟨q4, _, hD, rfl⟩⟩
    have hf3 := hf'.nc (fun _ h => h) hl rfl hno hnc
    have he' : EnvR K' w3 ρ' H' env' a'.tmps := fun t av ht => by
      obtain ⟨av0, q1, q2⟩ := hent t av ht
      obtain ⟨v, v1, v2⟩ := he0 t av0 q1
      exact ⟨v, v1, q2 _ _ _ _ _ (v2.nc hnc)⟩
    obtain ⟨us, hrun, hru⟩ := resEs_rel htb hf3 he' hps
    have hev : Evo K K' w w3 := ⟨hf3.below, hf3.old, hf3.new, hf3.lt⟩
    have hres : (results fn a'.tmps).run P w3 = .ok (if hh : us.toArray.size = 1 then us.toArray[0] else .tuple us.toArray) w3 := by
      unfold results
      rw [Array.mapM_eq_mapM_toList, hrs]
      simp only [Sem.run_bind, Sem.run_map]
      erw [hrun]
      rfl
    have hval : PRel K' w3 (retPV ps) (if hh : us.toArray.size = 1 then us.toArray[0] else .tuple us.toArray) := by
      split
      · rename_i hh
        have hl1 := hru.1
        have hu : us.length = 1 := by simpa using hh
        obtain ⟨u, rfl⟩ := List.length_eq_one_iff.1 hu
        obtain ⟨p, rfl⟩ := List.length_eq_one_iff.1 (show ps.length = 1 by omega)
        exact hru.2 0 p u (by simp) (by simp)
      · rename_i hh
        simp at hh
        have : retPV ps = .tup ps := by
          unfold retPV
          split
          · rename_i p; exact absurd (by have := hru.1; simpa using this) hh
          · rfl
        rw [this]
        exact .tup ps us hru.1 hru.2
    have hds : a'.defers = [mark D] := h2.trans q3
    have hleave : LeavesInM Fence.wide 2 P fn a'.tmps (fun e w' => ∃ v K', e = .returned v ∧ Evo K K' w w' ∧ PRel K' w' (retPV ps) v) a'.defers .returning w' := by
      rw [hds]
      refine ⟨by simp, .inl ⟨D, w3, rfl, by rw [hw3]; exact run_takeDeferred hD, ?_⟩⟩
      exact ⟨_, hres, _, K', rfl, hev, hval⟩
    rcases he with rfl | rfl
    · exact hleave
    · exact hleave

def envFresh (ts : List Nat) (env : Env) : Bool := ts.all fun t => (env.get t).isNone
/-- The range itself: of an iterator that hands two values over, of which the second one is put into a variable. -/
theorem aw2_range {α : Type} {tf p0 p1 tv : Nat} {id : Nat} {ty : TypeId} {po : String} {af : Array Edge} {body : Code} {fB : FuncId} {cap : List PV} {encs : α → Array Value} {all : List α} (v0 v1 : α → Value) (hit : AIter P fB cap encs all)
    (env2 : Env) (HH : List α → HEnv) (b : Nat) (hw1 : g.w1.heap.size = 0) (hbg : Bare g)
    (henc : ∀ x, encs x = #[v0 x, v1 x]) (hv1 : ∀ x, baseOk (v1 x) = true)
    (_ht : env.get tf = some (.pv (.fn (.func fB) [] cap))) (hs : Sub env env2) (hft : env2.get tf = some (.pv (.fn (.func fB) [] cap))) (hnd : noDup env2 = true) (hfr : envFresh [p0, p1, tv] env2 = true) (hpp : p0 < n ∧ p1 < n ∧ tv < n ∧ p0 ≠ p1)
    (hfit : HFit H (HH []) env2) (hids : ∀ pre, idsLt b (HH pre) = true) (hno : ∀ pre, noObj (HH pre) = true)
    (hend : (envIn (HH all) env2 && hIn (HH all) (HH all)) = true)
    (hbody : ∀ (g2 : Base) (us : Nat → Value) (pre : List α) (x : α), pre.length < all.length → AW P n g2 body ((tv, .pv (.base (v1 x))) :: env2) (HH pre ++ pinsOf us b env2) (thenQ2 fun _env' H' => HFit H' (HH (pre ++ [x]) ++ pinsOf us b env2) []))
    (h : QQ .normal env2 (HH all)) : AW2 P n g (.rangeFunc (.tmp tf) #[p0, p1] (.region id #[{ dst := some tv, op := .assign (.tmp p1), type := ty, pos := po, after := af, guard := none }] false) body) env H QQ := by
  refine ⟨fun a w hinv d hd => ?_⟩
  have hinv2 := (hinv.sub hs).hsub hfit
  obtain ⟨h1, h2, K, ρ, hf, he⟩ := hinv2
  let us : Nat → Value := fun t => a.tmps.getD t undef
  have hus : ∀ t av, (t, av) ∈ env2 → ARel K w ρ (HH []) av (us t) := by
    intro t av hm
    obtain ⟨v, v1, v2⟩ := he t av (env_get_of hnd hm)
    have : us t = v := by simp [us, Array.getD_eq_getD_getElem?, v1]
    rw [this]; exact v2
  have hpins : ∀ (pre : List α), noObj (HH pre ++ pinsOf us b env2) = true := by
    intro pre
    have h3 : ∀ (e : Env) (k : Nat), noObj (pinsOf us k e) = true := by
      intro e
      induction e with
      | nil => intro k; rfl
      | cons x e ih => intro k; exact ih (k + 1)
    have h4 : ∀ (A B : HEnv), noObj A = true → noObj B = true → noObj (A ++ B) = true := by
      intro A
      induction A with
      | nil => intro B _ hB; exact hB
      | cons x A ih =>
        intro B hA hB
        obtain ⟨j, x⟩ := x
        cases x <;> simp only [noObj, List.cons_append] at hA ⊢ <;> first | exact ih B hA hB | cases hA
    exact h4 _ _ (hno pre) (h3 _ _)
  have hfs0 : FS g K ρ (HH [] ++ pinsOf us b env2) w := by
    have hlat : Later K K w w := .refl K w
    have hk : ∀ j, (HEnv.get (HH []) j).isSome = true → (HEnv.get (HH [] ++ pinsOf us b env2) j).isSome = true ∧ ρ j = ρ j := fun j hj => ⟨isSome_append j hj, rfl⟩
    refine ⟨hf.below, hf.old, hf.new, hf.lt, hf.others, hf.pt, fun i h bb _ _ _ => hbg.pr bb, ?_, ?_⟩
    · intro i e hi
      rw [get_append] at hi
      cases hh : HEnv.get (HH []) i with
      | some x => rw [hh] at hi; simp only [Option.some.injEq] at hi; subst hi; exact (hf.heap.ok i _ hh).keeps (.refl hf.lt) hf.lt hk
      | none =>
        rw [hh] at hi
        obtain ⟨_, t, av, hm, rfl⟩ := pins_get hi
        exact (hus t av hm).keeps hlat hk
    · intro i j x y bb hij hi hj lx ly bx bby
      have e1 : ∀ i x, HEnv.get (HH [] ++ pinsOf us b env2) i = some x → x.live = true → HEnv.get (HH []) i = some x := by
        intro i x hi hl
        rw [get_append] at hi
        cases hh : HEnv.get (HH []) i with
        | some z => rw [hh] at hi; exact hi
        | none =>
          rw [hh] at hi
          obtain ⟨_, t, av, hm, rfl⟩ := pins_get hi
          simp [HE.live] at hl
      exact hf.heap.apart i j x y bb hij (e1 i x hi lx) (e1 j y hj ly) lx ly bx bby
  -- what is pinned, read again
  have hread : ∀ {K' : KK} {ρ' : Nat → Value} {pre : List α} {W : World} {g' : Base}, FS g' K' ρ' (HH pre ++ pinsOf us b env2) W → ∀ t av, env2.get t = some av → a.tmps[t]? = some (us t) ∧ ARel K' W ρ' (HH pre ++ pinsOf us b env2) av (us t) := by
    intro K' ρ' pre W g' hf' t av hg
    obtain ⟨v, v1, v2⟩ := he t av hg
    have hu : us t = v := by simp [us, Array.getD_eq_getD_getElem?, v1]
    obtain ⟨i, hbi, hgi⟩ := pins_mem (us := us) (b := b) (env_mem hg)
    have hn : HEnv.get (HH pre) i = none := by
      cases hh : HEnv.get (HH pre) i with
      | none => rfl
      | some z => have := idsLt_get (hids pre) i z hh; omega
    have hget : HEnv.get (HH pre ++ pinsOf us b env2) i = some (.pin av (us t)) := by rw [get_append, hn]; exact hgi
    exact ⟨by rw [hu]; exact v1, hf'.heap.ok i _ hget⟩
  -- the iterator
  have hfn : ∃ vc, us tf = .func (.func fB) #[] vc.toArray ∧ PRels K w cap vc := by
    have := (hus tf _ (env_mem hft))
    cases this with
    | pv _ _ hp =>
      generalize us tf = u at hp
      cases hp with
      | fn _ _ _ vf vc f1 f2 f3 f4 =>
        have : vf = [] := List.eq_nil_of_length_eq_zero (by simpa using f1)
        subst this
        exact ⟨vc, rfl, f2, f4⟩
  obtain ⟨vc, hvc, hpc⟩ := hfn
  have hev : a.eval (.tmp tf) = .func (.func fB) #[] vc.toArray := by rw [← hvc]; rfl
  have hcapW : ∀ {K' : KK} {ρ' : Nat → Value} {pre : List α} {W : World} {g' : Base}, FS g' K' ρ' (HH pre ++ pinsOf us b env2) W → PRels K' W cap vc := by
    intro K' ρ' pre W g' hf'
    have := (hread hf' tf _ hft).2
    rw [hvc] at this
    cases this with
    | pv _ _ hp =>
      cases hp with
      | fn _ _ _ vf vc' f1 f2 f3 f4 => exact ⟨f2, f4⟩
  have hseq := hit.stops K w vc (d - 1) hpc
  let a₁ : α → Act := fun x => { tmps := ((a.tmps.setIfInBounds p0 (v0 x)).setIfInBounds p1 (v1 x)).setIfInBounds tv (v1 x), defers := [] }
  let I : List α → World → Prop := fun pre W => ∃ K ρ, FS g K ρ (HH pre ++ pinsOf us b env2) W
  refine wpIn_rangeFunc_ownF (α := α) (F := Fence.wide) (n := d) (w0 := w) (N := all.length) rfl (by omega) hev trivial (fun args w => call_run hit.stands args w) hseq
    (fun h1 h2 h => h2 (h1 h)) (fun W l o o' hl hlo ho _ => fun ⟨K', hK'⟩ => ⟨K', hK'.nc (B := 0) ⟨some l, grownBy_putObj' _ _ _, fun r e => by cases e; exact ⟨Nat.zero_le _, o, hlo, ho⟩⟩⟩) (.refl _ _)
    (fun x => by rw [henc]; rfl) I (fun _ _ _ => False) ?_ (fun _ _ _ _ _ h => h.elim) ⟨K, ρ, hfs0⟩ a₁ ?_ ?_ ?_ (fun _ _ _ _ _ _ h _ => h.elim)
  · rintro pre W W' row ⟨K', ρ', hf'⟩ hg hr
    exact ⟨K', ρ', hf'.nc hbg.pr hbg.k0 hw1 (hpins pre) ⟨row, hg, fun r e => ⟨Nat.le_trans hf.below.size (hr r e).1, (hr r e).2⟩⟩⟩
  · intro l x W KK hKK
    refine wpIn_region_list ?_
    have hK : KK (a₁ x) W := hKK
    show wpListIn _ _ _ _ _ [_] _ _
    refine wpListIn_plain rfl fun K2 hK2 => ?_
    refine ⟨fun _ _ => trivial, ?_⟩
    rw [Oper.semAt_eq _ _ _ (fun c hc => by cases hc)]
    have hrun : ∀ ρ : Operand → Value, (execOp ρ { dst := some tv, op := .assign (.tmp p1), type := ty, pos := po, after := af, guard := none : Oper }).run P W = .ok (.value (ρ (.tmp p1))) W := fun ρ => by simp [execOp]
    rw [hrun]
    simp only [Oper.uponIn]
    refine hK2 _ _ ?_
    show Exit.then KK _ .normal _ W
    have e1 : (({ tmps := ((#[p0, p1] : Array Tmp).zip (encs x)).foldl (fun t (p, v) => t.setIfInBounds p v) a.tmps, defers := [] } : Act).put (some tv) (({ tmps := ((#[p0, p1] : Array Tmp).zip (encs x)).foldl (fun t (p, v) => t.setIfInBounds p v) a.tmps, defers := [] } : Act).eval (.tmp p1))) = a₁ x := by
      rw [henc x]
      have hsz : p1 < (a.tmps.setIfInBounds p0 (v0 x)).size := by simp; omega
      have hz : ((#[p0, p1] : Array Tmp).zip #[v0 x, v1 x]).foldl (fun t (p, v) => t.setIfInBounds p v) a.tmps = (a.tmps.setIfInBounds p0 (v0 x)).setIfInBounds p1 (v1 x) := by
        have hz0 : (#[p0, p1] : Array Tmp).zip #[v0 x, v1 x] = #[(p0, v0 x), (p1, v1 x)] := Array.ext' (by rw [Array.toList_zip]; rfl)
        rw [hz0]; rfl
      rw [hz]
      simp only [Act.put, Act.eval, a₁]
      congr 2
      simp [Array.getD_eq_getD_getElem?]
      intro h; omega
    rw [e1]
    exact hK
  · rintro l pre x W ⟨K', ρ', hf'⟩ hlen
    have hf2 : FS ⟨g.w0, g.K0, W, [], g.wp, g.pr⟩ K' ρ' (HH pre ++ pinsOf us b env2) W := ⟨hf'.below, hf'.old, hf'.new, hf'.lt, KeepsOthers.refl W, ⟨hf'.pt.same, hf'.pt.kept⟩, hf'.away, hf'.heap⟩
    have hinvB : Inv n ⟨g.w0, g.K0, W, [], g.wp, g.pr⟩ ((tv, .pv (.base (v1 x))) :: env2) (HH pre ++ pinsOf us b env2) (a₁ x) W := by
      refine ⟨by simp [a₁, h1], rfl, K', ρ', hf2, fun t av hg => ?_⟩
      rw [Env.get_cons] at hg
      split at hg
      · rename_i e; subst e
        simp only [Option.some.injEq] at hg; subst hg
        refine ⟨v1 x, ?_, .pv _ _ (.base _ (hv1 x))⟩
        show (((a.tmps.setIfInBounds p0 (v0 x)).setIfInBounds p1 (v1 x)).setIfInBounds tv (v1 x))[tv]? = some (v1 x)
        exact Array.getElem?_setIfInBounds_self_of_lt (by simp; omega)
      · rename_i hne
        obtain ⟨q1, q2⟩ := hread hf' t av hg
        have hfresh : ∀ p, p ∈ [p0, p1, tv] → p ≠ t := by
          intro p hp e; subst e
          have := List.all_eq_true.1 hfr p hp
          rw [hg] at this; cases this
        refine ⟨us t, ?_, q2⟩
        show (((a.tmps.setIfInBounds p0 (v0 x)).setIfInBounds p1 (v1 x)).setIfInBounds tv (v1 x))[t]? = _
        rw [Array.getElem?_setIfInBounds_ne (hfresh tv (by simp)), Array.getElem?_setIfInBounds_ne (hfresh p1 (by simp)), Array.getElem?_setIfInBounds_ne (hfresh p0 (by simp))]
        exact q1
    refine wpIn_mono ((hbody ⟨g.w0, g.K0, W, [], g.wp, g.pr⟩ us pre x hlen).go (a₁ x) W hinvB (some l) (d - 1 - 1)) ?_
    rintro e a' W' ⟨env', H', hi', hq⟩
    cases e with
    | normal =>
      obtain ⟨_, _, K2, ρ2, hfe, _⟩ := (hi'.sub sub_nil).hsub (H' := HH (pre ++ [x]) ++ pinsOf us b env2) hq
      refine ⟨hfe.others, fun _ => ⟨K2, hcapW hfe⟩, K2, ρ2, ⟨hfe.below, hfe.old, hfe.new, hfe.lt, ⟨by rw [hw1]; omega, fun k o hk => by have := (Array.getElem?_eq_some_iff.1 hk).1; omega⟩, ⟨hfe.pt.same, hfe.pt.kept⟩, hfe.away, hfe.heap⟩⟩
    | _ => exact hq.elim
  · rintro D xs W hD rfl ⟨K', ρ', hf'⟩ hWD
    have hend' := hend
    simp only [Bool.and_eq_true] at hend'
    have hfe : FS ⟨g.w0, g.K0, W, [mark D], g.wp, g.pr⟩ K' ρ' (HH xs ++ pinsOf us b env2) W := ⟨hf'.below, hf'.old, hf'.new, hf'.lt, KeepsOthers.refl W, ⟨hf'.pt.same, hf'.pt.kept⟩, hf'.away, hf'.heap⟩
    have hinvE : Inv n ⟨g.w0, g.K0, W, [mark D], g.wp, g.pr⟩ env2 (HH xs ++ pinsOf us b env2) { a with defers := mark D :: a.defers } W := by
      refine ⟨h1, ?_, K', ρ', hfe, fun t av hg => ?_⟩
      · show mark D :: a.defers = [mark D]
        rw [h2, hbg.ds]
      · obtain ⟨q1, q2⟩ := hread hf' t av hg
        exact ⟨us t, q1, q2⟩
    have hsub : HSub (HH xs ++ pinsOf us b env2) (HH xs) := fun i h hi => by rw [get_append, hi]
    exact ⟨⟨g.w0, g.K0, W, [mark D], g.wp, g.pr⟩, D, rfl, rfl, rfl, Nat.le_trans hf.below.size hD, hWD, env2, HH xs, hinvE.hsub ⟨hsub, hend⟩, h⟩
end
end Go.Cg
set_option linter.unusedVariables false
set_option linter.unusedSimpArgs false
namespace Go.Cg
open Go.Proofs Go.RowKit Go.Shelf

attribute [local go_sem] Oper.semAt_some

/-! slices.Backward, of numbers -/
def backL (l : List Int) (r : Nat) : List (Int × Int) := (List.range (l.length - r)).map fun k => (((l.length - 1 - k : Nat) : Int), l.getD (l.length - 1 - k) 0)
theorem backL_none (l : List Int) : backL l l.length = [] := by simp [backL]
theorem backL_len (l : List Int) (r : Nat) : (backL l r).length = l.length - r := by simp [backL]
theorem backL_step {l : List Int} {m : Nat} (h : m < l.length) : backL l m = backL l (m + 1) ++ [((m : Int), l.getD m 0)] := by
  rw [backL, backL, show l.length - m = (l.length - (m + 1)) + 1 by omega, List.range_succ, List.map_append, List.map_singleton]
  rw [show l.length - 1 - (l.length - (m + 1)) = m by omega]
/-- The slice that a cell holds. -/
def SlHolds (W : World) (v : Value) (l : List Int) : Prop :=
  ∃ (Bs o : Nat) (sv : Value), v = .pointer (some ⟨Bs, o, none⟩) ∧ W.cell? ⟨Bs, o, none⟩ = some sv ∧
    ((l = [] ∧ ∃ p, sv = .slice p 0 0) ∨ ∃ b off cap, sv = .slice (some ⟨b, off, none⟩) l.length cap ∧ ∀ j, j < l.length → W.cell? ⟨b, off + j, none⟩ = some (.int .i64 (l.getD j 0)))
theorem slHolds_of {K : Cg.KK} {W : World} {l : List Int} {vc : List Value} (h : PRels K W [.ptr (ints l) 0] vc) : ∃ v, vc = [v] ∧ SlHolds W v l := by
  obtain ⟨v, vs, rfl, r, h2⟩ := h.cons_inv
  obtain rfl := h2.nil_inv
  refine ⟨v, rfl, ?_⟩
  cases r with
  | ptr _ _ b o vs hl hr hc =>
    cases vs with
    | nil => simp [PV.cells, ints] at hl
    | cons sv vs' =>
      have h0 := hr 0 sv rfl
      have hp := hc 0 (ints l) sv rfl rfl
      refine ⟨b, o, sv, by simp, by simpa using h0.2.1, ?_⟩
      generalize hls : ints l = p at hp
      cases hp with
      | nil sz full =>
        simp [ints] at hls
        exact .inl ⟨hls.2.1, none, rfl⟩
      | emp sz full a =>
        simp [ints] at hls
        exact .inl ⟨hls.2.1, some a, rfl⟩
      | slc sz es full b2 o2 cap vss q0 q1 q2 q3 q4 q5 q6 =>
        simp only [ints, PV.slc.injEq] at hls
        obtain ⟨rfl, rfl, _⟩ := hls
        refine .inr ⟨b2, o2, cap, by simp, fun j hj => ?_⟩
        have he : (l.map pi)[j]? = some (pi l[j]) := by simp [hj]
        obtain ⟨_, e2, e3⟩ := q5 j _ he
        have hlt : 0 < (vss j).length := by omega
        have hv := q6 j _ 0 _ (vss j)[0] he rfl (List.getElem?_eq_getElem hlt)
        have hcell := (e3 0 _ (List.getElem?_eq_getElem hlt)).2.1
        generalize (vss j)[0] = y at hv hcell
        cases hv
        rw [List.getD_eq_getElem?_getD, List.getElem?_eq_getElem hj, Option.getD_some]
        simpa using hcell
      | _ => simp [ints] at hls

set_option maxRecDepth 100000 in
set_option maxHeartbeats 4000000 in
theorem back1_in (n : Nat) (rn : Nat) (v : Value) (l : List Int) (hreach : l.length ≤ 1000) (J Jx : List (Int × Int) → World → Prop)
    (hY : ∀ pre x W, J pre W → pre.length < l.length → YieldAt Fence.wide (n - 1) Tryz.prog rn #[.int .i64 x.1, .int .i64 x.2] W fun e W' =>
      (e = .returned (.bool true) ∧ J (pre ++ [x]) W' ∧ ((∃ K, PRels K W [.ptr (ints l) 0] [v]) → ∃ K, PRels K W' [.ptr (ints l) 0] [v])) ∨ (e = .returned (.bool false) ∧ Jx (pre ++ [x]) W'))
    (W : World) (hvP : ∃ K, PRels K W [.ptr (ints l) 0] [v]) (h0 : J [] W) :
    CallsIn Fence.wide n Tryz.prog 147 #[.func (.yield rn) #[] #[], v] W fun e W' => (∃ u, e = .returned u) ∧
      ((∃ ys, ys = backL l 0 ∧ J ys W') ∨ (∃ pre, Jx pre W')) := by
  obtain ⟨Bs, o, sv, rfl, hBs, hsv⟩ : SlHolds W v l := by
    obtain ⟨K, hp⟩ := hvP
    obtain ⟨v2, e, hv2⟩ := slHolds_of hp
    simp only [List.cons.injEq, and_true] at e; subst e; exact hv2
  obtain ⟨p, cap, hsve⟩ : ∃ p cap, sv = .slice p l.length cap := by
    rcases hsv with ⟨rfl, p, rfl⟩ | ⟨b, off, cap, rfl, _⟩
    · exact ⟨p, 0, rfl⟩
    · exact ⟨_, cap, rfl⟩
  subst hsve
  refine callsIn_of_wp Tryz.func147 rfl trivial ?_ rfl
  simp only [Tryz.ntmps147, List.size_toArray, List.length_cons, List.length_nil, Nat.reduceAdd, Nat.reduceSub, Array.replicate_succ, Array.replicate_zero, List.push_toArray, List.append_toArray, List.nil_append, List.cons_append]
  gi_wp2
  gi_loopw [3] (fun i wr => ∃ r : Nat, r ≤ l.length ∧ i = .int .i64 ((r : Int) - 1) ∧ J (backL l r) wr ∧ ∃ K, PRels K wr [.ptr (ints l) 0] [.pointer (some ⟨Bs, o, none⟩)])
    (fun i _ => (RowKit.intOf i + 1).toNat)
  case atStart => exact ⟨l.length, Nat.le_refl _, by first | rfl | (simp; done) | (congr 1; exact wrap_in (by omega) (by omega)), by rw [backL_none]; exact h0, hvP⟩
  case round =>
    obtain ⟨r, hk, rfl, hJs, hnx⟩ := hrel
    clear hsv hBs
    obtain ⟨Bs', o', sv, e1, hBs, hsv⟩ : SlHolds wr (.pointer (some ⟨Bs, o, none⟩)) l := by
      obtain ⟨K, hp⟩ := hnx
      obtain ⟨v2, e, hv2⟩ := slHolds_of hp
      simp only [List.cons.injEq, and_true] at e; subst e; exact hv2
    simp only [Value.pointer.injEq, Option.some.injEq, Addr.mk.injEq, and_true] at e1
    obtain ⟨rfl, rfl⟩ := e1
    cases r with
    | zero =>
      gi_wp2
      go_end0
      exact ⟨⟨_, rfl⟩, .inl ⟨_, rfl, hJs⟩⟩
    | succ m =>
      have hm : m < l.length := by omega
      rcases hsv with ⟨rfl, _⟩ | ⟨b, off, cap2, rfl, hcs⟩
      · simp at hm
      · have hcx := hcs m hm
        obtain ⟨fn, tmps, assign, body, hy, hR⟩ := hY _ ((m : Int), l.getD m 0) wr hJs (by rw [backL_len]; omega)
        dsimp only at hy
        have hgd : l.getD m 0 = l[m] := by rw [List.getD_eq_getElem?_getD, List.getElem?_eq_getElem hm, Option.getD_some]
        rw [hgd] at hy hcx
        rw [show (((m + 1 : Nat) : Int) - 1) = ((m : Nat) : Int) by omega]
        gi_wp2
        refine ⟨fun hh => by simp [Fence.wide] at hh, hR.mono ?_⟩
        rintro e W3 (⟨rfl, hJ3, hk3⟩ | ⟨rfl, hJx3⟩)
        · gi_wp2
          go_roundw
          case rel => exact ⟨m, by omega, by first | rfl | (simp; done) | (congr 1; exact wrap_in (by omega) (by omega)), by rw [backL_step hm]; exact hJ3, hk3 hnx⟩
          case measure => simp [RowKit.intOf]
        · gi_wp2
          refine bodyPost_ret (results_none rfl _ _ _) rfl ?_
          exact ⟨⟨_, rfl⟩, .inr ⟨_, hJx3⟩⟩
theorem back_iter (l : List Int) (hreach : l.length ≤ 1000) : AIter Tryz.prog 147 [.ptr (ints l) 0] (fun x : Int × Int => #[.int .i64 x.1, .int .i64 x.2]) (backL l 0) := by
  refine ⟨⟨_, Tryz.func147, rfl, by kernel_rfl⟩, fun K w vc n hp => ?_⟩
  obtain ⟨v, rfl, _⟩ := slHolds_of hp
  intro rn J Jx W hW hJ hJx hY h0
  have hpW : PRels K W [.ptr (ints l) 0] [v] := hp.keepc fun x u hx => by
    obtain ⟨o, ho, _⟩ := cells_of_cell hx
    exact (hW.cell (p := x) (Array.getElem?_eq_some_iff.1 ho).1).trans hx
  rw [show (backL l 0).length = l.length by rw [backL_len]; omega] at hY
  refine (back1_in n rn v l hreach J Jx hY W ⟨K, hpW⟩ h0).mono ?_
  rintro e W' ⟨h1, h2 | ⟨pre, h2⟩⟩
  · exact ⟨h1, .inl h2⟩
  · exact ⟨h1, .inr ⟨pre, trivial, h2⟩⟩
set_option maxHeartbeats 1000000 in
theorem Backward_call (l : List Int) : ACall Tryz.prog 112 [ints l] (.fn (.func 147) [] [.ptr (ints l) 0]) := by
  refine acall_intro tbOK Tryz.func112 rfl (by kernel_rfl) Tryz.ntmps112 (by simp) _ rfl (fun hw gB hgB => ?_)
  repeat' (first | refine sA ?_ | refine sC (fun _ => ?_) (fun _ => ?_) | fail)
  exact retq rfl rfl
end Go.Cg
namespace Go.Cg
open Go.Proofs

/-! an object, as the program goes through it -/
theorem backL_snd (l : List Int) : (backL l 0).map (·.2) = l.reverse := by
  apply List.ext_getElem
  · simp [backL]
  · intro i h1 h2
    have hi : i < l.length := by simpa [backL] using h1
    simp only [backL, List.getElem_map, List.getElem_range, List.getElem_reverse]
    rw [List.getD_eq_getElem?_getD, List.getElem?_eq_getElem (by omega), Option.getD_some]
theorem ownF_cells_le {g : Img} (hF : Fine g) (u : Int) : (fcs g (ownF g u)).length ≤ 512 := by
  have := fcs_filter_le hF (ownP u) g.fields.length
  rw [List.take_length] at this
  exact this
theorem upCells_any {g : Img} (hF : Fine g) : ∀ us : List Int, (upCells g us).length ≤ 512 * us.length
  | [] => by simp [upCells]
  | u :: us => by
    have h1 := ownF_cells_le hF u
    have h2 := upCells_any hF us
    rw [upCells, List.flatMap_cons, List.length_append]
    rw [upCells] at h2
    simp only [List.length_cons]; omega
set_option maxHeartbeats 1000000 in
theorem object_call (g : Img) (hF : Fine g) (t : Int) : ACall Tryz.prog 70 [imgPV g, pi t] (tys (objT g t)) := by
  have hgl : g.fields.length ≤ 64 := by have := (formedG_bounds hF.formed).2.1; omega
  have hgt : g.types.length ≤ 32 := (formedG_bounds hF.formed).1
  have hui := up_inv g t
  have hul := nodup_le _ _ hui.1 hui.2
  refine acall2_intro tbOK Tryz.func70 rfl (by kernel_rfl) Tryz.ntmps70 (by simp) _ rfl (fun hw gB hgB hds => ?_)
  refine aw2_seqL ?_
  repeat' (first | refine sA ?_ | refine sC (fun _ => ?_) (fun _ => ?_) | fail)
  refine aw2_seqL ?_
  repeat' (first | refine sA ?_ | refine sC (fun _ => ?_) (fun _ => ?_) | fail)
  refine aw2_seqR ?_
  refine aw2_seqL ?_
  repeat' (first | refine aw_own_nil_cell 0 1 48 4 (by decide) rfl rfl ?_ | (refine shC ?_; first | refine ao_q rfl (q_call rfl rfl (UpP_call g t (by omega))) rfl rfl ?_ | refine AD.step _ _ _ _ _ rfl (q_call rfl rfl (UpP_call g t (by omega))) rfl rfl ?_ | refine qC (Backward_call _) ?_) | refine sA ?_ | refine sC (fun _ => ?_) (fun _ => ?_) | fail)
  refine aw2_block ?_
  refine aw2_range (fun x => .int .i64 x.1) (fun x => .int .i64 x.2) (back_iter (up g t) (by omega)) [(2, .pv (.ptr (imgPV g) 0)), (5, .box 0 0), (13, .pv (.fn (.func 147) [] [.ptr (ints (up g t)) 0]))]
    (fun pre => [(0, .cell (.own 1)), (1, .row 48 4 ((upCells g (pre.map (·.2))).map tyPV))]) 100 hgB hds (fun _ => rfl) (fun _ => rfl) rfl (tS) rfl rfl rfl (by decide) ⟨by repeat (first | exact hsub_nil | refine hsub_cons rfl ?_), rfl⟩ (fun _ => rfl) (fun _ => rfl) rfl ?_ ?_
  · intro g2 us pre x hlen
    rw [backL_len] at hlen
    have hb1 := upCells_any hF (pre.map (·.2))
    rw [List.length_map] at hb1
    have hol := ownF_len g x.2
    repeat' (first | (refine shC ?_; first | refine qC (own_call g x.2 hF.formed) ?_) | refine sA ?_ | refine sC (fun _ => ?_) (fun _ => ?_) | fail)
    refine aw_loop (fun k : Nat => [(2, .pv (.ptr (imgPV g) 0)), (5, .box 0 0), (18, .pv (.slc 7 ((ownF g x.2).map fdPV) false)), (19, .pv (pi (ownF g x.2).length)), (20, .pv (pi k))])
      (fun k => [(0, .cell (.own 1)), (1, .row 48 4 ((upCells g (pre.map (·.2)) ++ fcs g ((ownF g x.2).take k)).map tyPV))] ++ pinsOf us 100 [(2, .pv (.ptr (imgPV g) 0)), (5, .box 0 0), (13, .pv (.fn (.func 147) [] [.ptr (ints (up g t)) 0]))])
      (fun k => k ≤ (ownF g x.2).length) (fun k => (ownF g x.2).length - k) 0 (by omega) (tS) ⟨hsub_cons rfl (hsub_r rfl (by simp [fcs]) (by repeat (first | exact hsub_nil | refine hsub_cons rfl ?_))), rfl⟩ ?_
    rintro k hk
    have hle := fcs_le hF ((ownF g x.2).take k) (fun f h => ownF_sub (List.mem_of_mem_take h))
    have hlk : ((ownF g x.2).take k).length ≤ k := by simp; omega
    by_cases hlt : k < (ownF g x.2).length
    · have he := map_get (f := fdPV) hlt
      have c1 := cellsPT_call g hF (ownF g x.2)[k].ty
      have hs := fcs_take_succ' (g := g) hlt
      have hcl := hF.field_le (ownF_sub (List.getElem_mem hlt))
      repeat' (first | refine aw_draw_tailL 7 5 rfl (by kernel_rfl) (by kernel_rfl) (by kernel_rfl) (by kernel_rfl) (by kernel_rfl) ?_ | (refine shC ?_; first | refine qC c1 ?_) | (refine shX ?_; first | refine qX he ?_) | (refine ao_sh_bi ?_; first | refine ao_append tbOK rfl rfl rfl rfl rfl rfl rfl (by show _ * 32 ≤ _; simp; omega) (by simp; omega) rfl rfl ?_) | refine sK ?_ | refine sC (fun _ => ?_) (fun _ => ?_) | fail)
      exact ⟨k + 1, hlt, tD, tS, ⟨hsub_cons rfl (hsub_r rfl (by rw [hs]; simp) (by repeat (first | exact hsub_nil | refine hsub_cons rfl ?_))), rfl⟩⟩
    · rw [List.take_of_length_le (by omega)]
      repeat' (first | refine sK ?_ | refine sC (fun _ => ?_) (fun _ => ?_) | fail)
      exact ⟨hsub_cons rfl (hsub_r rfl (by simp [upCells]) (by repeat (first | exact hsub_nil | refine hsub_cons rfl ?_))), rfl⟩
  · intro g3
    repeat' (first | refine sA ?_ | refine sC (fun _ => ?_) (fun _ => ?_) | fail)
    exact ⟨rfl, retq rfl (by rw [backL_snd]; rfl)⟩
end Go.Cg
namespace Go.Cg
open Go.Proofs

/-! how many cells an object has; whether all fields are well -/
theorem sum_take_succ {l : List Int} {f : Int → Nat} {k : Nat} (h : k < l.length) : ((l.take (k + 1)).map f).sum = ((l.take k).map f).sum + f l[k] := by
  rw [List.take_succ_eq_append_getElem h, List.map_append, List.sum_append]; simp
set_option maxHeartbeats 1000000 in
theorem total_call (g : Img) (hwl : wellR g = true) (hu : allUsed g = true) (t : Int) : ∃ r : Nat, Cnt 32 r (objT g t).length ∧ ACall Tryz.prog 65 [imgPV g, pi t] (pi (r : Nat)) := by
  have hf := well_formed hwl
  have hgl : g.fields.length ≤ 64 := by have := (formedG_bounds hf).2.1; omega
  have hgt : g.types.length ≤ 32 := (formedG_bounds hf).1
  have hui := up_inv g t
  have hul := nodup_le _ _ hui.1 hui.2
  -- what is counted, in plain words
  let add : Nat → Fd → Nat := fun r f => if r ≤ 32 then r + cntT g 32 f.ty else r
  let addU : Nat → Int → Nat := fun r u => (ownF g u).foldl add r
  have hadd : ∀ (l : List Fd) (r s : Nat), r ≤ 65 → Cnt 32 r s → l.foldl add r ≤ 65 ∧ Cnt 32 (l.foldl add r) (s + (fcs g l).length) := by
    intro l
    induction l with
    | nil => intro r s h1 h2; exact ⟨h1, by simpa [fcs] using h2⟩
    | cons f l ih =>
      intro r s h1 h2
      rw [List.foldl_cons, fcs_len_cons, ← Nat.add_assoc]
      have hcl : cntT g 32 f.ty ≤ 33 := Nat.min_le_right _ _
      refine ih _ _ ?_ ?_
      · simp only [add]; split <;> omega
      · simp only [add]
        split
        · rename_i h; exact h2.add h
        · rename_i h; exact h2.stay (by omega)
  have haddU : ∀ (us : List Int) (r s : Nat), r ≤ 65 → Cnt 32 r s → us.foldl addU r ≤ 65 ∧ Cnt 32 (us.foldl addU r) (s + (us.map fun u => (fcs g (ownF g u)).length).sum) := by
    intro us
    induction us with
    | nil => intro r s h1 h2; exact ⟨h1, by simpa using h2⟩
    | cons u us ih =>
      intro r s h1 h2
      obtain ⟨k1, k2⟩ := hadd (ownF g u) r s h1 h2
      rw [List.foldl_cons, List.map_cons, List.sum_cons, ← Nat.add_assoc]
      exact ih _ _ k1 k2
  obtain ⟨hb, hc⟩ := haddU (up g t) 0 0 (by omega) (Cnt.zero _)
  rw [Nat.zero_add, ← objT_len] at hc
  refine ⟨(up g t).foldl addU 0, hc, ?_⟩
  clear hc
  refine acall_intro tbOK Tryz.func65 rfl (by kernel_rfl) Tryz.ntmps65 (by simp) _ rfl (fun hw gB hgB => ?_)
  repeat' (first | (refine shC ?_; first | refine ao_q rfl (q_call rfl rfl (UpP_call g t (by omega))) rfl rfl ?_ | refine AD.step _ _ _ _ _ rfl (q_call rfl rfl (UpP_call g t (by omega))) rfl rfl ?_) | refine sA ?_ | refine sC (fun _ => ?_) (fun _ => ?_) | fail)
  refine aw_loop (fun x : Nat × Nat => [(2, .pv (.ptr (imgPV g) 0)), (5, .pv (pi x.2)), (12, .pv (ints (up g t))), (13, .pv (pi (up g t).length)), (14, .pv (pi x.1))]) (fun _ => [])
    (fun x => x.1 ≤ (up g t).length ∧ x.2 ≤ 65 ∧ ((up g t).drop x.1).foldl addU x.2 = (up g t).foldl addU 0) (fun x => (up g t).length - x.1) (0, 0) ⟨by simp, by simp, rfl⟩ (tS) tH ?_
  rintro ⟨k, r⟩ ⟨hk, hr, hfd⟩
  simp only at hk hr hfd
  by_cases hlt : k < (up g t).length
  · have heU := ints_get hlt
    rw [drop_foldl hlt] at hfd
    have hol := ownF_len g (up g t)[k]
    repeat' (first | (refine shC ?_; first | refine qC (own_call g _ hf) ?_) | (refine shX ?_; first | refine qX heU ?_) | refine sK ?_ | refine sC (fun _ => ?_) (fun _ => ?_) | fail)
    refine aw_loop (fun x : Nat × Nat => [(2, .pv (.ptr (imgPV g) 0)), (5, .pv (pi x.2)), (12, .pv (ints (up g t))), (13, .pv (pi (up g t).length)), (14, .pv (pi k)), (20, .pv (.slc 7 ((ownF g (up g t)[k]).map fdPV) false)), (21, .pv (pi (ownF g (up g t)[k]).length)), (22, .pv (pi x.1))]) (fun _ => [])
      (fun x => x.1 ≤ (ownF g (up g t)[k]).length ∧ x.2 ≤ 65 ∧ ((ownF g (up g t)[k]).drop x.1).foldl add x.2 = addU r (up g t)[k]) (fun x => (ownF g (up g t)[k]).length - x.1) (0, r) ⟨by simp, hr, rfl⟩ (tS) tH ?_
    rintro ⟨m, s⟩ ⟨hm, hs, hfs⟩
    simp only at hm hs hfs
    by_cases hltm : m < (ownF g (up g t)[k]).length
    · have he := map_get (f := fdPV) hltm
      rw [drop_foldl hltm] at hfs
      have c1 := count_call g hwl hu 32 (by omega) (by omega) _ (ownF g (up g t)[k])[m].ty (dp_all hwl hu _)
      have hcl : cntT g 32 (ownF g (up g t)[k])[m].ty ≤ 33 := Nat.min_le_right _ _
      simp only [add] at hfs
      generalize cntT g 32 (ownF g (up g t)[k])[m].ty = c at c1 hcl hfs
      by_cases hsb : s ≤ 32
      · rw [if_pos hsb] at hfs
        have hd1 : decide ((s : Int) ≤ 32) = true := by simp; omega
        repeat' (first | (refine shC ?_; first | refine qC c1 ?_) | (refine shX ?_; first | refine qX he ?_) | refine sK ?_ | refine sC (fun _ => ?_) (fun _ => ?_) | fail)
        exact ⟨(m + 1, s + c), ⟨hltm, by simp only; omega, hfs⟩, tD, by repeat (first | exact sub_nil | refine sub_cons rfl ?_ | (refine sub_i rfl ?_ ?_; · (first | (rw [wrap_in (by omega) (by omega)] <;> omega) | (dsimp only; rw [wrap_in (by omega) (by omega)] <;> (push_cast; omega))))), tH⟩
      · rw [if_neg hsb] at hfs
        have hd1 : decide ((s : Int) ≤ 32) = false := by simp; omega
        repeat' (first | (refine shX ?_; first | refine qX he ?_) | refine sK ?_ | refine sC (fun _ => ?_) (fun _ => ?_) | fail)
        exact ⟨(m + 1, s), ⟨hltm, hs, hfs⟩, tD, tS, tH⟩
    · rw [drop_end (by omega)] at hfs
      simp only [List.foldl_nil] at hfs
      repeat' (first | refine sK ?_ | refine sC (fun _ => ?_) (fun _ => ?_) | fail)
      exact ⟨(k + 1, s), ⟨hlt, hs, by rw [hfs]; exact hfd⟩, tD, tS, tH⟩
  · rw [drop_end (by omega)] at hfd
    simp only [List.foldl_nil] at hfd
    repeat' (first | refine sK ?_ | refine sC (fun _ => ?_) (fun _ => ?_) | fail)
    exact retq rfl (by rw [← hfd]; rfl)
theorem fd_getD {g : Img} {k : Nat} (h : k < g.fields.length) : g.fields.getD k default = g.fields[k] := getD_get h
set_option maxHeartbeats 1000000 in
theorem CheckL_call (g : Img) (hx : OkA g) : ACall Tryz.prog 18 [imgPV g] (.tup [pi (check12 g).1, pi (check12 g).2]) := by
  refine acall_intro tbOK Tryz.func18 rfl (by kernel_rfl) Tryz.ntmps18 (by simp) _ rfl (fun hw gB hgB => ?_)
  have c0 := wellP_call g hx
  cases hwl : wellR g
  · rw [hwl] at c0
    repeat' (first | (refine shC ?_; first | refine qC c0 ?_) | refine sK ?_ | refine sC (fun _ => ?_) (fun _ => ?_) | fail)
    exact retq rfl (by simp [retPV, check12, hwl])
  · rw [hwl] at c0
    have hf := well_formed hwl
    have hgl : g.fields.length ≤ 64 := by have := (formedG_bounds hf).2.1; omega
    have hgt : g.types.length ≤ 32 := (formedG_bounds hf).1
    repeat' (first | (refine shC ?_; first | refine qC c0 ?_) | refine sK ?_ | refine sC (fun _ => ?_) (fun _ => ?_) | fail)
    refine aw_loop (fun k : Nat => [(1, .pv (.ptr (imgPV g) 0)), (11, .pv (.slc 7 (g.fields.map fdPV) false)), (12, .pv (pi g.fields.length)), (13, .pv (pi k))]) (fun _ => []) (fun k => k ≤ g.fields.length ∧ ∀ j, j < k → usedR g (g.fields.getD j default).ty = true) (fun k => g.fields.length - k) 0 ⟨by omega, fun j h => by omega⟩ (tS) tH ?_
    rintro k ⟨hk, hno⟩
    by_cases hlt : k < g.fields.length
    · have he := map_get (f := fdPV) hlt
      have c1 := usedP_call g g.fields[k].ty hf
      cases hus : usedR g g.fields[k].ty
      · have hfin := check12_used hwl hlt hno (by rw [fd_getD hlt]; exact hus)
        rw [hus] at c1
        repeat' (first | (refine shC ?_; first | refine qC c1 ?_) | (refine shX ?_; first | refine qX he ?_) | refine sK ?_ | refine sC (fun _ => ?_) (fun _ => ?_) | fail)
        exact retq rfl (by rw [hfin]; rfl)
      · rw [hus] at c1
        repeat' (first | (refine shC ?_; first | refine qC c1 ?_) | (refine shX ?_; first | refine qX he ?_) | refine sK ?_ | refine sC (fun _ => ?_) (fun _ => ?_) | fail)
        exact ⟨k + 1, ⟨hlt, fun j hj => by
          by_cases e : j = k
          · subst e; rw [fd_getD hlt]; exact hus
          · exact hno j (by omega)⟩, tD, tS, tH⟩
    · have hu : allUsed g = true := List.all_eq_true.2 fun j hj => hno j (by have := List.mem_range.1 hj; omega)
      clear hno
      repeat' (first | refine sK ?_ | refine sC (fun _ => ?_) (fun _ => ?_) | fail)
      refine aw_loop (fun k : Nat => [(1, .pv (.ptr (imgPV g) 0)), (27, .pv (pi g.types.length)), (28, .pv (pi k))]) (fun _ => []) (fun k => k ≤ g.types.length ∧ ∀ j, j < k → sizeBad g j = false) (fun k => g.types.length - k) 0 ⟨by omega, fun j h => by omega⟩ (tS) tH ?_
      clear hk hlt
      rintro k ⟨hk, hno⟩
      by_cases hlt : k < g.types.length
      · have c1 := KindPG_call g hf (k : Int)
        have hfin := fun h => check12_size hwl hu hlt hno h
        have hnx : sizeBad g k = false → ∀ j, j < k + 1 → sizeBad g j = false := fun h j hj => by
          by_cases e : j = k
          · subst e; exact h
          · exact hno j (by omega)
        have hsb : sizeBad g k = ((kindG g k == 1 && decide (8 < (cellsT g ⟨6, k, 0, false⟩).length)) || (kindG g k == 0 && decide (32 < (objT g k).length))) := rfl
        clear hno
        by_cases hk1 : kindG g k = 1
        · have c2 := long_call g hwl hu 8 (by omega) (by omega) ⟨6, k, 0, false⟩
          rw [hk1] at hsb c1
          cases hl : decide (8 < (cellsT g ⟨6, k, 0, false⟩).length)
          · rw [hl] at c2 hsb
            repeat' (first | (refine shC ?_; first | refine qC c1 ?_ | refine qC c2 ?_) | refine sK ?_ | refine sC (fun _ => ?_) (fun _ => ?_) | fail)
            exact ⟨k + 1, ⟨hlt, hnx (by rw [hsb]; rfl)⟩, tD, tS, tH⟩
          · rw [hl] at c2 hsb
            repeat' (first | (refine shC ?_; first | refine qC c1 ?_ | refine qC c2 ?_) | refine sK ?_ | refine sC (fun _ => ?_) (fun _ => ?_) | fail)
            exact retq rfl (by rw [hfin (by rw [hsb]; rfl)]; rfl)
        · have hb1 : (kindG g k == 1) = false := by simp [hk1]
          by_cases hk0 : kindG g k = 0
          · obtain ⟨r, hr, c2⟩ := total_call g hwl hu k
            rw [hk0] at hsb c1
            have hd : decide (32 < (r : Int)) = decide (32 < (objT g k).length) := by rw [decide_eq_decide, ← hr.more]; omega
            cases hl : decide (32 < (objT g k).length)
            · rw [hl] at hsb hd
              repeat' (first | (refine shC ?_; first | refine qC c1 ?_ | refine qC c2 ?_) | refine sK ?_ | refine sC (fun _ => ?_) (fun _ => ?_) | fail)
              exact ⟨k + 1, ⟨hlt, hnx (by rw [hsb]; rfl)⟩, tD, tS, tH⟩
            · rw [hl] at hsb hd
              repeat' (first | (refine shC ?_; first | refine qC c1 ?_ | refine qC c2 ?_) | refine sK ?_ | refine sC (fun _ => ?_) (fun _ => ?_) | fail)
              exact retq rfl (by rw [hfin (by rw [hsb]; rfl)]; rfl)
          · have hb0 : (kindG g k == 0) = false := by simp [hk0]
            rw [hb1, hb0] at hsb
            repeat' (first | (refine shC ?_; first | refine qC c1 ?_) | refine sK ?_ | refine sC (fun _ => ?_) (fun _ => ?_) | fail)
            exact ⟨k + 1, ⟨hlt, hnx (by rw [hsb]; rfl)⟩, tD, tS, tH⟩
      · repeat' (first | refine sK ?_ | refine sC (fun _ => ?_) (fun _ => ?_) | fail)
        exact retq rfl (by rw [check12_no hwl hu (fun j hj => hno j (by omega))]; rfl)
end Go.Cg
namespace Go.Cg
open Go.Proofs

/-! whether all fields are well: the document's side -/
def objP (g : Img) (t : Int) (f : Fd) : Bool := decide (f.owner ∈ up g t) && !f.static
set_option maxHeartbeats 1000000 in
theorem CheckR12_call (g : Img) : ACall Tryz.prog 19 [imgPV g] (.tup [pi (check12 g).1, pi (check12 g).2]) := by
  refine acall_intro tbOK Tryz.func19 rfl (by kernel_rfl) Tryz.ntmps19 (by simp) _ rfl (fun hw gB hgB => ?_)
  have c0 := Well_call g
  cases hwl : wellR g
  · rw [hwl] at c0
    repeat' (first | (refine shC ?_; first | refine qC c0 ?_) | refine sK ?_ | refine sC (fun _ => ?_) (fun _ => ?_) | fail)
    exact retq rfl (by simp [retPV, check12, hwl])
  · rw [hwl] at c0
    have hf := well_formed hwl
    have hgl : g.fields.length ≤ 64 := by have := (formedG_bounds hf).2.1; omega
    have hgt : g.types.length ≤ 32 := (formedG_bounds hf).1
    repeat' (first | (refine shC ?_; first | refine qC c0 ?_) | refine sK ?_ | refine sC (fun _ => ?_) (fun _ => ?_) | fail)
    refine aw_loop (fun k : Nat => [(1, .pv (.ptr (imgPV g) 0)), (4, .pv (pi k))]) (fun _ => []) (fun k => k ≤ g.fields.length ∧ ∀ j, j < k → usedR g (g.fields.getD j default).ty = true) (fun k => g.fields.length - k) 0 ⟨by omega, fun j h => by omega⟩ (tS) tH ?_
    rintro k ⟨hk, hno⟩
    by_cases hlt : k < g.fields.length
    · have he := map_get (f := fdPV) hlt
      have c1 := UsedR_call g g.fields[k].ty
      cases hus : usedR g g.fields[k].ty
      · have hfin := check12_used hwl hlt hno (by rw [fd_getD hlt]; exact hus)
        rw [hus] at c1
        repeat' (first | (refine shC ?_; first | refine qC c1 ?_) | (refine shX ?_; first | refine qX he ?_) | refine sK ?_ | refine sC (fun _ => ?_) (fun _ => ?_) | fail)
        exact retq rfl (by rw [hfin]; rfl)
      · rw [hus] at c1
        repeat' (first | (refine shC ?_; first | refine qC c1 ?_) | (refine shX ?_; first | refine qX he ?_) | refine sK ?_ | refine sC (fun _ => ?_) (fun _ => ?_) | fail)
        exact ⟨k + 1, ⟨hlt, fun j hj => by
          by_cases e : j = k
          · subst e; rw [fd_getD hlt]; exact hus
          · exact hno j (by omega)⟩, tD, tS, tH⟩
    · have hu : allUsed g = true := List.all_eq_true.2 fun j hj => hno j (by have := List.mem_range.1 hj; omega)
      clear hno
      repeat' (first | refine sK ?_ | refine sC (fun _ => ?_) (fun _ => ?_) | fail)
      refine aw_loop (fun k : Nat => [(1, .pv (.ptr (imgPV g) 0)), (5, .pv (pi k))]) (fun _ => []) (fun k => k ≤ g.types.length ∧ ∀ j, j < k → sizeBad g j = false) (fun k => g.types.length - k) 0 ⟨by omega, fun j h => by omega⟩ (tS) tH ?_
      clear hk hlt
      rintro k ⟨hk, hno⟩
      by_cases hlt : k < g.types.length
      · have c1 := KindR_call g (k : Int)
        have hfin := fun h => check12_size hwl hu hlt hno h
        have hnx : sizeBad g k = false → ∀ j, j < k + 1 → sizeBad g j = false := fun h j hj => by
          by_cases e : j = k
          · subst e; exact h
          · exact hno j (by omega)
        have hsb : sizeBad g k = ((kindG g k == 1 && decide (8 < (cellsT g ⟨6, k, 0, false⟩).length)) || (kindG g k == 0 && decide (32 < (objT g k).length))) := rfl
        clear hno
        by_cases hk1 : kindG g k = 1
        · have c2 := CountR_call g hwl hu 8 (by omega) (by omega) _ ⟨6, k, 0, false⟩ (dp_all hwl hu _)
          rw [hk1] at hsb c1
          have hd : decide (8 < ((cntT g 8 ⟨6, k, 0, false⟩ : Nat) : Int)) = decide (8 < (cellsT g ⟨6, k, 0, false⟩).length) := by rw [decide_eq_decide]; unfold cntT; omega
          generalize cntT g 8 ⟨6, k, 0, false⟩ = c at c2 hd
          cases hl : decide (8 < (cellsT g ⟨6, k, 0, false⟩).length)
          · rw [hl] at hsb hd
            repeat' (first | (refine shC ?_; first | refine qC c1 ?_ | refine qC c2 ?_) | refine sK ?_ | refine sC (fun _ => ?_) (fun _ => ?_) | fail)
            exact ⟨k + 1, ⟨hlt, hnx (by rw [hsb]; rfl)⟩, tD, tS, tH⟩
          · rw [hl] at hsb hd
            repeat' (first | (refine shC ?_; first | refine qC c1 ?_ | refine qC c2 ?_) | refine sK ?_ | refine sC (fun _ => ?_) (fun _ => ?_) | fail)
            exact retq rfl (by rw [hfin (by rw [hsb]; rfl)]; rfl)
        · have hb1 : (kindG g k == 1) = false := by simp [hk1]
          by_cases hk0 : kindG g k = 0
          · rw [hk0] at hsb c1
            have hui := up_inv g k
            have hul := nodup_le _ _ hui.1 hui.2
            have hobl : (fcs g (g.fields.filter (objP g k))).length = (objT g k).length := objF_len g k
            repeat' (first | (refine shC ?_; first | refine qC c1 ?_ | refine ao_q rfl (q_call rfl rfl (UpR_call g k (by omega))) rfl rfl ?_ | refine AD.step _ _ _ _ _ rfl (q_call rfl rfl (UpR_call g k (by omega))) rfl rfl ?_) | refine sK ?_ | refine sC (fun _ => ?_) (fun _ => ?_) | fail)
            refine aw_loop (fun x : Nat × Nat => [(1, .pv (.ptr (imgPV g) 0)), (5, .pv (pi k)), (7, .pv (pi x.2)), (8, .pv (ints (up g k))), (9, .pv (pi x.1))]) (fun _ => [])
              (fun x => x.1 ≤ g.fields.length ∧ x.2 ≤ 65 ∧ Cnt 32 x.2 (fcs g ((g.fields.take x.1).filter (objP g k))).length) (fun x => g.fields.length - x.1) (0, 0) ⟨by simp, by simp, rfl⟩ (tS) tH ?_
            rintro ⟨m, r⟩ ⟨hm, hr, hc⟩
            simp only at hm hr hc
            have hle := fcs_sub_le g (objP g k) g.fields m
            rw [hobl] at hle
            have hend : (32 < r ∨ m = g.fields.length) → decide (32 < (r : Int)) = decide (32 < (objT g k).length) := by
              intro h
              rw [decide_eq_decide]
              have := hc.more
              rcases h with h | h
              · exact ⟨fun _ => by omega, fun _ => by omega⟩
              · subst h
                rw [List.take_length, hobl] at hc
                have := hc.more; omega
            by_cases hltm : m < g.fields.length
            · by_cases hrb : r ≤ 32
              · have he := map_get (f := fdPV) hltm
                have cH := Has_call (up g k) g.fields[m].owner
                clear hend
                cases hp : objP g k g.fields[m]
                · have hcn : Cnt 32 r (fcs g ((g.fields.take (m + 1)).filter (objP g k))).length := by rw [filter_take_no hltm hp]; exact hc
                  have hpa : (decide (g.fields[m].owner ∈ up g k) && !g.fields[m].static) = false := hp
                  generalize decide (g.fields[m].owner ∈ up g k) = bo at cH hpa
                  repeat' (first | (refine shC ?_; first | refine qC cH ?_) | (refine shX ?_; first | refine qX he ?_) | refine sA ?_ | refine sC (fun _ => ?_) (fun _ => ?_) | fail)
                  all_goals first
                    | exact ⟨(m + 1, r), ⟨hltm, hr, hcn⟩, tD, tS, tH⟩
                    | (exfalso; simp_all; done)
                    | (exfalso; simp_all; omega)
                · have c2 := CountR_call g hwl hu 32 (by omega) (by omega) _ g.fields[m].ty (dp_all hwl hu _)
                  have hs := filter_take_yes (g := g) hltm hp
                  have hcl : cntT g 32 g.fields[m].ty ≤ 33 := Nat.min_le_right _ _
                  have hcn := hc.add (l := (cellsT g g.fields[m].ty).length) hrb
                  rw [← List.length_append, ← hs] at hcn
                  rw [show min (cellsT g g.fields[m].ty).length (32 + 1) = cntT g 32 g.fields[m].ty from rfl] at hcn
                  generalize cntT g 32 g.fields[m].ty = c at c2 hcl hcn
                  have hpa : (decide (g.fields[m].owner ∈ up g k) && !g.fields[m].static) = true := hp
                  rw [Bool.and_eq_true] at hpa
                  obtain ⟨hp1, hp2⟩ := hpa
                  rw [hp1] at cH
                  have hd1 : decide ((r : Int) ≤ 32) = true := by simp; omega
                  repeat' (first | (refine shC ?_; first | refine qC cH ?_ | refine qC c2 ?_) | (refine shX ?_; first | refine qX he ?_) | refine sK ?_ | refine sC (fun _ => ?_) (fun _ => ?_) | fail)
                  all_goals first
                    | exact ⟨(m + 1, r + c), ⟨hltm, by simp only; omega, hcn⟩, tD, by repeat (first | exact sub_nil | refine sub_cons rfl ?_ | (refine sub_i rfl ?_ ?_; · (first | (rw [wrap_in (by omega) (by omega)] <;> omega) | (dsimp only; rw [wrap_in (by omega) (by omega)] <;> (push_cast; omega))))), tH⟩
                    | (exfalso; simp_all; done)
              · have hd1 : decide ((r : Int) ≤ 32) = false := by simp; omega
                have hee := hend (.inl (by omega))
                have hd2 : decide (32 < (r : Int)) = true := by simp; omega
                rw [← hee, hd2] at hsb
                clear hend
                repeat' (first | refine sK ?_ | refine sC (fun _ => ?_) (fun _ => ?_) | fail)
                all_goals first
                  | exact retq rfl (by rw [hfin (by rw [hsb]; rfl)]; rfl)
                  | (exfalso; simp_all; done)
                  | (exfalso; simp_all; omega)
            · have hee := hend (.inr (by omega))
              clear hend
              cases hl : decide (32 < (r : Int))
              · rw [hl] at hee
                rw [← hee] at hsb
                repeat' (first | refine sA ?_ | refine sC (fun _ => ?_) (fun _ => ?_) | fail)
                all_goals first
                  | exact ⟨k + 1, ⟨hlt, hnx (by rw [hsb]; rfl)⟩, tD, tS, tH⟩
                  | (exfalso; simp_all; done)
                  | (exfalso; simp_all; omega)
              · rw [hl] at hee
                rw [← hee] at hsb
                repeat' (first | refine sA ?_ | refine sC (fun _ => ?_) (fun _ => ?_) | fail)
                all_goals first
                  | exact retq rfl (by rw [hfin (by rw [hsb]; rfl)]; rfl)
                  | (exfalso; simp_all; done)
                  | (exfalso; simp_all; omega)
          · have hb0 : (kindG g k == 0) = false := by simp [hk0]
            have hb2 : (kindG g k != 0) = true := by simp [hk0]
            rw [hb1, hb0] at hsb
            repeat' (first | (refine shC ?_; first | refine qC c1 ?_) | refine sK ?_ | refine sC (fun _ => ?_) (fun _ => ?_) | fail)
            exact ⟨k + 1, ⟨hlt, hnx (by rw [hsb]; rfl)⟩, tD, tS, tH⟩
      · repeat' (first | refine sK ?_ | refine sC (fun _ => ?_) (fun _ => ?_) | fail)
        exact retq rfl (by rw [check12_no hwl hu (fun j hj => hno j (by omega))]; rfl)
set_option maxHeartbeats 1000000 in
theorem FineR_call (g : Img) : ACall Tryz.prog 21 [imgPV g] (pb (fineR g)) := by
  refine acall_intro tbOK Tryz.func21 rfl (by kernel_rfl) Tryz.ntmps21 (by simp) _ rfl (fun hw gB hgB => ?_)
  repeat' (first | (refine shC ?_; first | refine qC (CheckR12_call g) ?_) | refine sA ?_ | refine sC (fun _ => ?_) (fun _ => ?_) | fail)
  exact retq rfl rfl
set_option maxHeartbeats 1000000 in
theorem fineP_call (g : Img) (hx : OkA g) : ACall Tryz.prog 69 [imgPV g] (pb (fineR g)) := by
  refine acall_intro tbOK Tryz.func69 rfl (by kernel_rfl) Tryz.ntmps69 (by simp) _ rfl (fun hw gB hgB => ?_)
  repeat' (first | (refine shC ?_; first | refine qC (CheckL_call g hx) ?_) | refine sA ?_ | refine sC (fun _ => ?_) (fun _ => ?_) | fail)
  exact retq rfl rfl
/-! what is asked of layout -/
def cellsA (g : Img) (t : Ty) : List Ty := if fineR g && usedR g t then cellsT g t else []
set_option maxHeartbeats 1000000 in
theorem CellsA_call (g : Img) (hx : OkA g) (t : Ty) : ACall Tryz.prog 34 [imgPV g, tyPV t] (tys (cellsA g t)) := by
  refine acall_intro tbOK Tryz.func34 rfl (by kernel_rfl) Tryz.ntmps34 (by simp) _ rfl (fun hw gB hgB => ?_)
  have c0 := fineP_call g hx
  cases hfi : fineR g
  · rw [hfi] at c0
    repeat' (first | (refine shC ?_; first | refine qC c0 ?_) | refine sK ?_ | refine sC (fun _ => ?_) (fun _ => ?_) | fail)
    all_goals (rw [show cellsA g t = [] by simp [cellsA, hfi]]; exact retq_w (t := 4) (ps := [tys []]) rfl (tells_nil 4 false) rfl rfl)
  · rw [hfi] at c0
    have hF := fine_of hfi
    have c1 := usedP_call g t hF.formed
    cases hus : usedR g t
    · rw [hus] at c1
      repeat' (first | (refine shC ?_; first | refine qC c0 ?_ | refine qC c1 ?_) | refine sK ?_ | refine sC (fun _ => ?_) (fun _ => ?_) | fail)
      all_goals (rw [show cellsA g t = [] by simp [cellsA, hus]]; exact retq_w (t := 4) (ps := [tys []]) rfl (tells_nil 4 false) rfl rfl)
    · rw [hus] at c1
      repeat' (first | (refine shC ?_; first | refine qC c0 ?_ | refine qC c1 ?_ | refine qC (cellsPT_call g hF t) ?_) | refine sK ?_ | refine sC (fun _ => ?_) (fun _ => ?_) | fail)
      all_goals exact retq rfl (by simp [retPV, cellsA, hfi, hus])
set_option maxHeartbeats 1000000 in
theorem Words_call (g : Img) (hx : OkA g) (t : Ty) : ACall Tryz.prog 30 [imgPV g, tyPV t] (pi (cellsA g t).length) := by
  refine acall_intro tbOK Tryz.func30 rfl (by kernel_rfl) Tryz.ntmps30 (by simp) _ rfl (fun hw gB hgB => ?_)
  repeat' (first | (refine shC ?_; first | refine qC (CellsA_call g hx t) ?_) | refine sA ?_ | refine sC (fun _ => ?_) (fun _ => ?_) | fail)
  exact retq rfl (by simp [retPV])
def objectA (g : Img) (t : Int) : List Ty := if fineR g && kindG g t == 0 then objT g t else []
set_option maxHeartbeats 1000000 in
theorem ObjectA_call (g : Img) (hx : OkA g) (t : Int) : ACall Tryz.prog 22 [imgPV g, pi t] (tys (objectA g t)) := by
  refine acall_intro tbOK Tryz.func22 rfl (by kernel_rfl) Tryz.ntmps22 (by simp) _ rfl (fun hw gB hgB => ?_)
  have c0 := fineP_call g hx
  cases hfi : fineR g
  · rw [hfi] at c0
    repeat' (first | (refine shC ?_; first | refine qC c0 ?_) | refine sK ?_ | refine sC (fun _ => ?_) (fun _ => ?_) | fail)
    all_goals (rw [show objectA g t = [] by simp [objectA, hfi]]; exact retq_w (t := 4) (ps := [tys []]) rfl (tells_nil 4 false) rfl rfl)
  · rw [hfi] at c0
    have hF := fine_of hfi
    have c1 := KindPG_call g hF.formed t
    by_cases hk : kindG g t = 0
    · rw [hk] at c1
      repeat' (first | (refine shC ?_; first | refine qC c0 ?_ | refine qC c1 ?_ | refine qC (object_call g hF t) ?_) | refine sK ?_ | refine sC (fun _ => ?_) (fun _ => ?_) | fail)
      all_goals exact retq rfl (by simp [retPV, objectA, hfi, hk])
    · have hkb : (kindG g t != 0) = true := by simp [hk]
      repeat' (first | (refine shC ?_; first | refine qC c0 ?_ | refine qC c1 ?_) | refine sK ?_ | refine sC (fun _ => ?_) (fun _ => ?_) | fail)
      all_goals (rw [show objectA g t = [] by simp [objectA, hk]]; exact retq_w (t := 4) (ps := [tys []]) rfl (tells_nil 4 false) rfl rfl)
def staticsA (g : Img) : List Ty := if fineR g then statT g g.fields.length else []
set_option maxHeartbeats 1000000 in
theorem StaticsA_call (g : Img) (hx : OkA g) : ACall Tryz.prog 24 [imgPV g] (tys (staticsA g)) := by
  refine acall_intro tbOK Tryz.func24 rfl (by kernel_rfl) Tryz.ntmps24 (by simp) _ rfl (fun hw gB hgB => ?_)
  have c0 := fineP_call g hx
  cases hfi : fineR g
  · rw [hfi] at c0
    repeat' (first | (refine shC ?_; first | refine qC c0 ?_) | refine sK ?_ | refine sC (fun _ => ?_) (fun _ => ?_) | fail)
    all_goals (rw [show staticsA g = [] by simp [staticsA, hfi]]; exact retq_w (t := 2) (ps := [tys []]) rfl (tells_nil 4 false) rfl rfl)
  · rw [hfi] at c0
    have hF := fine_of hfi
    have c1 := statics_call g hF g.fields.length (Nat.le_refl _)
    rw [show ((g.fields.length : Nat) : Int) = (((g.fields.map fdPV).length : Nat) : Int) by simp] at c1
    repeat' (first | (refine shC ?_; first | refine qC c0 ?_ | refine qC c1 ?_) | refine sK ?_ | refine sC (fun _ => ?_) (fun _ => ?_) | fail)
    all_goals exact retq rfl (by simp [retPV, staticsA, hfi])
set_option maxHeartbeats 1000000 in
theorem UsedA_call (g : Img) (hx : OkA g) (t : Ty) : ACall Tryz.prog 31 [imgPV g, tyPV t] (pb (wellR g && usedR g t)) := by
  refine acall_intro tbOK Tryz.func31 rfl (by kernel_rfl) Tryz.ntmps31 (by simp) _ rfl (fun hw gB hgB => ?_)
  have c0 := wellP_call g hx
  cases hwl : wellR g
  · rw [hwl] at c0
    repeat' (first | (refine shC ?_; first | refine qC c0 ?_) | refine sK ?_ | refine sC (fun _ => ?_) (fun _ => ?_) | fail)
    all_goals exact retq rfl rfl
  · rw [hwl] at c0
    repeat' (first | (refine shC ?_; first | refine qC c0 ?_ | refine qC (usedP_call g t (well_formed hwl)) ?_) | refine sK ?_ | refine sC (fun _ => ?_) (fun _ => ?_) | fail)
    all_goals exact retq rfl (by simp [retPV, *])
end Go.Cg
namespace Go.Cg
open Go.Proofs

/-! places -/
def headT (g : Img) (o : Int) : Nat := if kindG g o == 0 then 1 + (objT g (extAt g o)).length else 0
def placeT (g : Img) (f : Nat) : Nat :=
  if (g.fields.getD f default).static then (statT g f).length
  else headT g (g.fields.getD f default).owner + (fcs g ((g.fields.take f).filter (ownP (g.fields.getD f default).owner))).length
def placeA (g : Img) (f : Int) : Int := if fineR g && decide (0 ≤ f) && decide (f < g.fields.length) then placeT g f.toNat else -1
theorem objT_le {g : Img} (hF : Fine g) (t : Int) : (objT g t).length ≤ 512 := by
  have h := upCells_len hF _ (nodup_rev (up_inv g t).1)
  exact h
theorem extAt_some {g : Img} {t : Int} {td : TD} (h : typeAt g t = some td) : extAt g t = td.ext := by rw [extAt, h]
theorem objT_none {g : Img} {t : Int} (h : typeAt g t = none) : objT g t = [] := by rw [objT, up_nil h]; rfl
theorem statT_le {g : Img} (hF : Fine g) (n : Nat) : (statT g n).length ≤ 512 := fcs_filter_le hF _ n
set_option maxHeartbeats 1000000 in
theorem PlaceA_call (g : Img) (hx : OkA g) (f : Int) : ACall Tryz.prog 25 [imgPV g, pi f] (pi (placeA g f)) := by
  refine acall_intro tbOK Tryz.func25 rfl (by kernel_rfl) Tryz.ntmps25 (by simp) _ rfl (fun hw gB hgB => ?_)
  have c0 := fineP_call g hx
  cases hfi : fineR g
  · rw [hfi] at c0
    have e : placeA g f = -1 := by simp [placeA, hfi]
    repeat' (first | (refine shC ?_; first | refine qC c0 ?_) | refine sK ?_ | refine sC (fun _ => ?_) (fun _ => ?_) | fail)
    all_goals exact retq rfl (by rw [e]; rfl)
  · rw [hfi] at c0
    have hF := fine_of hfi
    have hf := hF.formed
    have hgl : g.fields.length ≤ 64 := (by have := (formedG_bounds hf).2.1; omega)
    by_cases hin : 0 ≤ f ∧ f < g.fields.length
    · obtain ⟨k, rfl⟩ : ∃ k : Nat, f = k := ⟨f.toNat, by omega⟩
      have hk : k < g.fields.length := by omega
      have e : placeA g (k : Int) = placeT g k := by simp [placeA, hfi, hk]
      have he := map_get (f := fdPV) hk
      have hd1 : decide ((k : Int) < 0) = false := by simp <;> omega
      have hd2 : decide ((((g.fields.map fdPV).length : Nat) : Int) ≤ (k : Int)) = false := by simp <;> omega
      rw [placeT, fd_getD hk] at e
      cases hst : g.fields[k].static
      · rw [hst] at e
        simp only [Bool.false_eq_true, if_false] at e
        obtain ⟨o0, o1, _⟩ := formed_fd hf (List.getElem_mem hk)
        obtain ⟨td, htd⟩ := typeAt_of_lt ⟨o0, o1⟩
        obtain ⟨t0, het⟩ := typeAt_get htd
        have c1 := KindPG_call g hf g.fields[k].owner
        have hol := objT_le hF td.ext
        have hex := extAt_some htd
        have hown := fcs_filter_le hF (ownP g.fields[k].owner)
        by_cases hk0 : kindG g g.fields[k].owner = 0
        · have hh : headT g g.fields[k].owner = 1 + (objT g td.ext).length := by rw [headT, hk0, hex]; rfl
          rw [hk0] at c1
          rw [hh] at e
          repeat' (first | (refine shC ?_; first | refine qC c0 ?_ | refine qC c1 ?_ | refine qC (object_call g hF td.ext) ?_) | (refine shX ?_; first | refine qX he ?_ | refine ao_q rfl (q_index tbOK rfl rfl rfl rfl rfl rfl t0 het) rfl rfl ?_ | refine AD.step _ _ _ _ _ rfl (q_index tbOK rfl rfl rfl rfl rfl rfl t0 het) rfl rfl ?_) | refine sK ?_ | refine sC (fun _ => ?_) (fun _ => ?_) | fail)
          refine aw_loop (fun m : Nat => [(1, .pv (pi k)), (2, .pv (.ptr (imgPV g) 0)), (5, .box 0 0), (6, .pv (pi ((1 + (objT g td.ext).length + (fcs g ((g.fields.take m).filter (ownP g.fields[k].owner))).length : Nat)))), (50, .pv (pi k)), (51, .pv (pi m))]) (fun _ => [(0, .cell (.pv (fdPV g.fields[k])))])
            (fun m => m ≤ k) (fun m => k - m) 0 (by omega) (by repeat (first | exact sub_nil | refine sub_cons rfl ?_ | (refine sub_i rfl ?_ ?_; · (rw [List.length_map, wrap_in (by omega) (by omega)]; simp [fcs])))) ⟨by repeat (first | exact hsub_nil | refine hsub_cons rfl ?_), rfl⟩ ?_
          rintro m hm
          have hb1 := hown m
          by_cases hlt : m < k
          · have hlm : m < g.fields.length := by omega
            have hem := map_get (f := fdPV) hlm
            have c2 := cellsPT_call g hF g.fields[m].ty
            have hcl := hF.field_le (List.getElem_mem hlm)
            cases hp : ownP g.fields[k].owner g.fields[m]
            · have hs := filter_take_no (g := g) hlm hp
              have hpa : (g.fields[m].owner == g.fields[k].owner && !g.fields[m].static) = false := hp
              repeat' (first | (refine shX ?_; first | refine qX hem ?_) | refine sA ?_ | refine sC (fun _ => ?_) (fun _ => ?_) | fail)
              all_goals first
                | exact ⟨m + 1, hlt, tD, by repeat (first | exact sub_nil | refine sub_cons rfl ?_ | (refine sub_i rfl ?_ ?_; · (first | (rw [hs]; done) | (rw [wrap_in (by omega) (by omega)] <;> omega)))), ⟨by repeat (first | exact hsub_nil | refine hsub_cons rfl ?_), rfl⟩⟩
                | (exfalso; simp_all; done)
            · have hs := filter_take_yes (g := g) hlm hp
              have hpa : (g.fields[m].owner == g.fields[k].owner && !g.fields[m].static) = true := hp
              rw [Bool.and_eq_true] at hpa
              obtain ⟨hp1, hp2⟩ := hpa
              repeat' (first | (refine shC ?_; first | refine qC c2 ?_) | (refine shX ?_; first | refine qX hem ?_) | refine sK ?_ | refine sC (fun _ => ?_) (fun _ => ?_) | fail)
              all_goals first
                | exact ⟨m + 1, hlt, tD, by repeat (first | exact sub_nil | refine sub_cons rfl ?_ | (refine sub_i rfl ?_ ?_; · (first | (rw [hs, List.length_append, List.length_map, wrap_in (by omega) (by omega)]; omega) | (rw [wrap_in (by omega) (by omega)] <;> omega)))), ⟨by repeat (first | exact hsub_nil | refine hsub_cons rfl ?_), rfl⟩⟩
                | (exfalso; simp_all; done)
          · obtain rfl : m = k := by omega
            repeat' (first | refine sK ?_ | refine sC (fun _ => ?_) (fun _ => ?_) | fail)
            exact retq rfl (by rw [e]; rfl)
        · have hh : headT g g.fields[k].owner = 0 := by rw [headT]; simp [hk0]
          have hkb : (kindG g g.fields[k].owner == 0) = false := by simp [hk0]
          rw [hh, Nat.zero_add] at e
          repeat' (first | (refine shC ?_; first | refine qC c0 ?_ | refine qC c1 ?_) | (refine shX ?_; first | refine qX he ?_) | refine sK ?_ | refine sC (fun _ => ?_) (fun _ => ?_) | fail)
          refine aw_loop (fun m : Nat => [(1, .pv (pi k)), (2, .pv (.ptr (imgPV g) 0)), (5, .box 0 0), (6, .pv (pi (((fcs g ((g.fields.take m).filter (ownP g.fields[k].owner))).length : Nat)))), (50, .pv (pi k)), (51, .pv (pi m))]) (fun _ => [(0, .cell (.pv (fdPV g.fields[k])))])
            (fun m => m ≤ k) (fun m => k - m) 0 (by omega) (by repeat (first | exact sub_nil | refine sub_cons rfl ?_ | (refine sub_i rfl ?_ ?_; · (simp [fcs])))) ⟨by repeat (first | exact hsub_nil | refine hsub_cons rfl ?_), rfl⟩ ?_
          rintro m hm
          have hb1 := hown m
          by_cases hlt : m < k
          · have hlm : m < g.fields.length := by omega
            have hem := map_get (f := fdPV) hlm
            have c2 := cellsPT_call g hF g.fields[m].ty
            have hcl := hF.field_le (List.getElem_mem hlm)
            cases hp : ownP g.fields[k].owner g.fields[m]
            · have hs := filter_take_no (g := g) hlm hp
              have hpa : (g.fields[m].owner == g.fields[k].owner && !g.fields[m].static) = false := hp
              repeat' (first | (refine shX ?_; first | refine qX hem ?_) | refine sA ?_ | refine sC (fun _ => ?_) (fun _ => ?_) | fail)
              all_goals first
                | exact ⟨m + 1, hlt, tD, by repeat (first | exact sub_nil | refine sub_cons rfl ?_ | (refine sub_i rfl ?_ ?_; · (first | (rw [hs]; done) | (rw [wrap_in (by omega) (by omega)] <;> omega)))), ⟨by repeat (first | exact hsub_nil | refine hsub_cons rfl ?_), rfl⟩⟩
                | (exfalso; simp_all; done)
            · have hs := filter_take_yes (g := g) hlm hp
              have hpa : (g.fields[m].owner == g.fields[k].owner && !g.fields[m].static) = true := hp
              rw [Bool.and_eq_true] at hpa
              obtain ⟨hp1, hp2⟩ := hpa
              repeat' (first | (refine shC ?_; first | refine qC c2 ?_) | (refine shX ?_; first | refine qX hem ?_) | refine sK ?_ | refine sC (fun _ => ?_) (fun _ => ?_) | fail)
              all_goals first
                | exact ⟨m + 1, hlt, tD, by repeat (first | exact sub_nil | refine sub_cons rfl ?_ | (refine sub_i rfl ?_ ?_; · (first | (rw [hs, List.length_append, List.length_map, wrap_in (by omega) (by omega)]; omega) | (rw [wrap_in (by omega) (by omega)] <;> omega)))), ⟨by repeat (first | exact hsub_nil | refine hsub_cons rfl ?_), rfl⟩⟩
                | (exfalso; simp_all; done)
          · obtain rfl : m = k := by omega
            repeat' (first | refine sK ?_ | refine sC (fun _ => ?_) (fun _ => ?_) | fail)
            exact retq rfl (by rw [e]; rfl)
      · rw [hst] at e
        simp only [if_true] at e
        have c1 := statics_call g hF k (by omega)
        repeat' (first | (refine shC ?_; first | refine qC c0 ?_ | refine qC c1 ?_) | (refine shX ?_; first | refine qX he ?_) | refine sK ?_ | refine sC (fun _ => ?_) (fun _ => ?_) | fail)
        exact retq rfl (by rw [e]; simp [retPV])
    · have e : placeA g f = -1 := by
        simp only [placeA, hfi, Bool.true_and]
        rw [if_neg (by simpa using hin)]
      repeat' (first | (refine shC ?_; first | refine qC c0 ?_) | refine sA ?_ | refine sC (fun _ => ?_) (fun _ => ?_) | fail)
      all_goals first
        | exact retq rfl (by rw [e]; rfl)
        | (exfalso; simp_all; done)
        | (exfalso; simp_all; omega)
set_option maxHeartbeats 1000000 in
theorem PlaceR_call (g : Img) (hF : Fine g) (k : Nat) (hk : k < g.fields.length) : ACall Tryz.prog 29 [imgPV g, pi k] (pi (placeT g k)) := by
  refine acall_intro tbOK Tryz.func29 rfl (by kernel_rfl) Tryz.ntmps29 (by simp) _ rfl (fun hw gB hgB => ?_)
  have hf := hF.formed
  have hgl : g.fields.length ≤ 64 := by have := (formedG_bounds hf).2.1; omega
  have e : placeT g k = placeT g k := rfl
  have he := map_get (f := fdPV) hk
  rw [placeT, fd_getD hk]
  cases hst : g.fields[k].static
  · simp only [Bool.false_eq_true, if_false]
    obtain ⟨o0, o1, _⟩ := formed_fd hf (List.getElem_mem hk)
    obtain ⟨td, htd⟩ := typeAt_of_lt ⟨o0, o1⟩
    obtain ⟨t0, het⟩ := typeAt_get htd
    have c1 := KindR_call g g.fields[k].owner
    have hol := objT_le hF td.ext
    have hex := extAt_some htd
    have hown := fcs_filter_le hF (ownP g.fields[k].owner)
    by_cases hk0 : kindG g g.fields[k].owner = 0
    · have hh : headT g g.fields[k].owner = 1 + (objT g td.ext).length := by rw [headT, hk0, hex]; rfl
      rw [hk0] at c1
      rw [hh]
      by_cases hb : 0 ≤ td.ext
      · have hbd : decide (0 ≤ td.ext) = true := by simp [hb]
        repeat' (first | (refine shC ?_; first | refine qC c1 ?_ | refine qC (ObjectR_call g hF td.ext) ?_) | (refine shX ?_; first | refine qX he ?_ | refine ao_q rfl (q_index tbOK rfl rfl rfl rfl rfl rfl t0 het) rfl rfl ?_ | refine AD.step _ _ _ _ _ rfl (q_index tbOK rfl rfl rfl rfl rfl rfl t0 het) rfl rfl ?_) | refine sK ?_ | refine sC (fun _ => ?_) (fun _ => ?_) | fail)
        refine aw_loop (fun m : Nat => [(1, .pv (pi k)), (2, .pv (.ptr (imgPV g) 0)), (5, .box 0 0), (6, .pv (pi ((1 + (objT g td.ext).length + (fcs g ((g.fields.take m).filter (ownP g.fields[k].owner))).length : Nat)))), (8, .pv (pi m))]) (fun _ => [(0, .cell (.pv (fdPV g.fields[k])))])
          (fun m => m ≤ k) (fun m => k - m) 0 (by omega) (by repeat (first | exact sub_nil | refine sub_cons rfl ?_ | (refine sub_i rfl ?_ ?_; · (rw [List.length_map, wrap_in (by omega) (by omega)]; simp [fcs])))) ⟨by repeat (first | exact hsub_nil | refine hsub_cons rfl ?_), rfl⟩ ?_
        rintro m hm
        have hb1 := hown m
        by_cases hlt : m < k
        · have hlm : m < g.fields.length := by omega
          have hem := map_get (f := fdPV) hlm
          have c2 := CellsRT_call g hF g.fields[m].ty
          have hcl := hF.field_le (List.getElem_mem hlm)
          cases hp : ownP g.fields[k].owner g.fields[m]
          · have hs := filter_take_no (g := g) hlm hp
            have hpa : (g.fields[m].owner == g.fields[k].owner && !g.fields[m].static) = false := hp
            repeat' (first | (refine shX ?_; first | refine qX hem ?_) | refine sA ?_ | refine sC (fun _ => ?_) (fun _ => ?_) | fail)
            all_goals first
              | exact ⟨m + 1, hlt, tD, by repeat (first | exact sub_nil | refine sub_cons rfl ?_ | (refine sub_i rfl ?_ ?_; · (first | (rw [hs]; done) | (rw [wrap_in (by omega) (by omega)] <;> omega)))), ⟨by repeat (first | exact hsub_nil | refine hsub_cons rfl ?_), rfl⟩⟩
              | (exfalso; simp_all; done)
          · have hs := filter_take_yes (g := g) hlm hp
            have hpa : (g.fields[m].owner == g.fields[k].owner && !g.fields[m].static) = true := hp
            rw [Bool.and_eq_true] at hpa
            obtain ⟨hp1, hp2⟩ := hpa
            repeat' (first | (refine shC ?_; first | refine qC c2 ?_) | (refine shX ?_; first | refine qX hem ?_) | refine sK ?_ | refine sC (fun _ => ?_) (fun _ => ?_) | fail)
            all_goals first
              | exact ⟨m + 1, hlt, tD, by repeat (first | exact sub_nil | refine sub_cons rfl ?_ | (refine sub_i rfl ?_ ?_; · (first | (rw [hs, List.length_append, List.length_map, wrap_in (by omega) (by omega)]; omega) | (rw [wrap_in (by omega) (by omega)] <;> omega)))), ⟨by repeat (first | exact hsub_nil | refine hsub_cons rfl ?_), rfl⟩⟩
              | (exfalso; simp_all; done)
        · obtain rfl : m = k := by omega
          repeat' (first | refine sK ?_ | refine sC (fun _ => ?_) (fun _ => ?_) | fail)
          exact retq rfl (rfl)
      · have hn : objT g td.ext = [] := objT_none (by rw [typeAt, if_neg hb])
        have hbd : decide (0 ≤ td.ext) = false := decide_eq_false hb
        repeat' (first | (refine shC ?_; first | refine qC c1 ?_) | (refine shX ?_; first | refine qX he ?_ | refine ao_q rfl (q_index tbOK rfl rfl rfl rfl rfl rfl t0 het) rfl rfl ?_ | refine AD.step _ _ _ _ _ rfl (q_index tbOK rfl rfl rfl rfl rfl rfl t0 het) rfl rfl ?_) | refine sK ?_ | refine sC (fun _ => ?_) (fun _ => ?_) | fail)
        refine aw_loop (fun m : Nat => [(1, .pv (pi k)), (2, .pv (.ptr (imgPV g) 0)), (5, .box 0 0), (6, .pv (pi ((1 + (objT g td.ext).length + (fcs g ((g.fields.take m).filter (ownP g.fields[k].owner))).length : Nat)))), (8, .pv (pi m))]) (fun _ => [(0, .cell (.pv (fdPV g.fields[k])))])
          (fun m => m ≤ k) (fun m => k - m) 0 (by omega) (by repeat (first | exact sub_nil | refine sub_cons rfl ?_ | (refine sub_i rfl ?_ ?_; · (simp [fcs, hn])))) ⟨by repeat (first | exact hsub_nil | refine hsub_cons rfl ?_), rfl⟩ ?_
        rintro m hm
        have hb1 := hown m
        by_cases hlt : m < k
        · have hlm : m < g.fields.length := by omega
          have hem := map_get (f := fdPV) hlm
          have c2 := CellsRT_call g hF g.fields[m].ty
          have hcl := hF.field_le (List.getElem_mem hlm)
          cases hp : ownP g.fields[k].owner g.fields[m]
          · have hs := filter_take_no (g := g) hlm hp
            have hpa : (g.fields[m].owner == g.fields[k].owner && !g.fields[m].static) = false := hp
            repeat' (first | (refine shX ?_; first | refine qX hem ?_) | refine sA ?_ | refine sC (fun _ => ?_) (fun _ => ?_) | fail)
            all_goals first
              | exact ⟨m + 1, hlt, tD, by repeat (first | exact sub_nil | refine sub_cons rfl ?_ | (refine sub_i rfl ?_ ?_; · (first | (rw [hs]; done) | (rw [wrap_in (by omega) (by omega)] <;> omega)))), ⟨by repeat (first | exact hsub_nil | refine hsub_cons rfl ?_), rfl⟩⟩
              | (exfalso; simp_all; done)
          · have hs := filter_take_yes (g := g) hlm hp
            have hpa : (g.fields[m].owner == g.fields[k].owner && !g.fields[m].static) = true := hp
            rw [Bool.and_eq_true] at hpa
            obtain ⟨hp1, hp2⟩ := hpa
            repeat' (first | (refine shC ?_; first | refine qC c2 ?_) | (refine shX ?_; first | refine qX hem ?_) | refine sK ?_ | refine sC (fun _ => ?_) (fun _ => ?_) | fail)
            all_goals first
              | exact ⟨m + 1, hlt, tD, by repeat (first | exact sub_nil | refine sub_cons rfl ?_ | (refine sub_i rfl ?_ ?_; · (first | (rw [hs, List.length_append, List.length_map, wrap_in (by omega) (by omega)]; omega) | (rw [wrap_in (by omega) (by omega)] <;> omega)))), ⟨by repeat (first | exact hsub_nil | refine hsub_cons rfl ?_), rfl⟩⟩
              | (exfalso; simp_all; done)
        · obtain rfl : m = k := by omega
          repeat' (first | refine sK ?_ | refine sC (fun _ => ?_) (fun _ => ?_) | fail)
          exact retq rfl (rfl)
    · have hh : headT g g.fields[k].owner = 0 := by rw [headT]; simp [hk0]
      have hkb : (kindG g g.fields[k].owner == 0) = false := by simp [hk0]
      rw [hh, Nat.zero_add]
      repeat' (first | (refine shC ?_; first | refine qC c1 ?_) | (refine shX ?_; first | refine qX he ?_) | refine sK ?_ | refine sC (fun _ => ?_) (fun _ => ?_) | fail)
      refine aw_loop (fun m : Nat => [(1, .pv (pi k)), (2, .pv (.ptr (imgPV g) 0)), (5, .box 0 0), (6, .pv (pi (((fcs g ((g.fields.take m).filter (ownP g.fields[k].owner))).length : Nat)))), (8, .pv (pi m))]) (fun _ => [(0, .cell (.pv (fdPV g.fields[k])))])
        (fun m => m ≤ k) (fun m => k - m) 0 (by omega) (by repeat (first | exact sub_nil | refine sub_cons rfl ?_ | (refine sub_i rfl ?_ ?_; · (simp [fcs])))) ⟨by repeat (first | exact hsub_nil | refine hsub_cons rfl ?_), rfl⟩ ?_
      rintro m hm
      have hb1 := hown m
      by_cases hlt : m < k
      · have hlm : m < g.fields.length := by omega
        have hem := map_get (f := fdPV) hlm
        have c2 := CellsRT_call g hF g.fields[m].ty
        have hcl := hF.field_le (List.getElem_mem hlm)
        cases hp : ownP g.fields[k].owner g.fields[m]
        · have hs := filter_take_no (g := g) hlm hp
          have hpa : (g.fields[m].owner == g.fields[k].owner && !g.fields[m].static) = false := hp
          repeat' (first | (refine shX ?_; first | refine qX hem ?_) | refine sA ?_ | refine sC (fun _ => ?_) (fun _ => ?_) | fail)
          all_goals first
            | exact ⟨m + 1, hlt, tD, by repeat (first | exact sub_nil | refine sub_cons rfl ?_ | (refine sub_i rfl ?_ ?_; · (first | (rw [hs]; done) | (rw [wrap_in (by omega) (by omega)] <;> omega)))), ⟨by repeat (first | exact hsub_nil | refine hsub_cons rfl ?_), rfl⟩⟩
            | (exfalso; simp_all; done)
        · have hs := filter_take_yes (g := g) hlm hp
          have hpa : (g.fields[m].owner == g.fields[k].owner && !g.fields[m].static) = true := hp
          rw [Bool.and_eq_true] at hpa
          obtain ⟨hp1, hp2⟩ := hpa
          repeat' (first | (refine shC ?_; first | refine qC c2 ?_) | (refine shX ?_; first | refine qX hem ?_) | refine sK ?_ | refine sC (fun _ => ?_) (fun _ => ?_) | fail)
          all_goals first
            | exact ⟨m + 1, hlt, tD, by repeat (first | exact sub_nil | refine sub_cons rfl ?_ | (refine sub_i rfl ?_ ?_; · (first | (rw [hs, List.length_append, List.length_map, wrap_in (by omega) (by omega)]; omega) | (rw [wrap_in (by omega) (by omega)] <;> omega)))), ⟨by repeat (first | exact hsub_nil | refine hsub_cons rfl ?_), rfl⟩⟩
            | (exfalso; simp_all; done)
      · obtain rfl : m = k := by omega
        repeat' (first | refine sK ?_ | refine sC (fun _ => ?_) (fun _ => ?_) | fail)
        exact retq rfl (rfl)
  · simp only [if_true]
    have c1 := StaticsR_call g hF k (by omega)
    repeat' (first | (refine shC ?_; first | refine qC c1 ?_) | (refine shX ?_; first | refine qX he ?_) | refine sK ?_ | refine sC (fun _ => ?_) (fun _ => ?_) | fail)
    exact retq rfl (by simp [retPV])
end Go.Cg
namespace Go.Cg
open Go.Proofs

/-! the law's example -/
def gL : Img := ⟨[⟨⟨#[65]⟩, 0, -1, []⟩, ⟨⟨#[66]⟩, 0, 0, []⟩], [⟨⟨#[108]⟩, 0, ⟨3, 0, 0, false⟩, false⟩, ⟨⟨#[105]⟩, 1, ⟨2, 0, 0, false⟩, false⟩], [], -1⟩
theorem wellL : wellR gL = true := by decide +kernel
theorem usedL : allUsed gL = true := by decide +kernel
theorem sizeL : ∀ j, j < gL.types.length → sizeBad gL j = false := by
  intro j hj
  have : j = 0 ∨ j = 1 := by have : gL.types.length = 2 := rfl; omega
  rcases this with rfl | rfl <;> decide +kernel
theorem checkL : check12 gL = (0, 0) := check12_no wellL usedL sizeL
theorem fineL : fineR gL = true := by rw [fineR, checkL]; rfl
theorem place0 : placeT gL 0 = 1 := by decide +kernel
theorem place1 : placeT gL 1 = 2 := by decide +kernel
theorem objL : (objT gL 1).length = 2 := by decide +kernel
theorem okL : OkA gL := fun m hm => by cases hm
abbrev fPV (n : UInt8) (o k : Int) : PV := .agg [.base (.string ⟨#[n]⟩), pi o, pi k, pi 0, pi 0, pb false, pb false]
abbrev imgL : PV := .agg [.slc 4 [wTD 65 (-1), wTD 66 0] true, .slc 7 [fPV 108 0 3, fPV 105 1 2] true, .base (.slice none 0 0), pi (-1)]
theorem imgL_tells : PTells imgL (imgPV gL) :=
  pt_agg (ptl_cons (pt_slc (pcl_cons (wTD_tells 65 (-1)) (pcl_cons (wTD_tells 66 0) pcl_nil))) (ptl_cons (pt_slc (pcl_cons (ptl_cons (.refl _) (ptl_cons (.refl _) (ptl_cons (.refl _) (ptl_cons (.refl _) (ptl_cons (.refl _) (ptl_cons (.refl _) (ptl_cons (.refl _) ptl_nil))))))) (pcl_cons (ptl_cons (.refl _) (ptl_cons (.refl _) (ptl_cons (.refl _) (ptl_cons (.refl _) (ptl_cons (.refl _) (ptl_cons (.refl _) (ptl_cons (.refl _) ptl_nil))))))) pcl_nil))) (ptl_cons (pt_nil 12 false) (ptl_cons (.refl _) ptl_nil))))
set_option maxHeartbeats 1000000 in
theorem wakes12_call : ACall Tryz.prog 15 [] (pb true) := by
  refine acall_intro tbOK Tryz.func15 rfl (by kernel_rfl) Tryz.ntmps15 (by simp) _ rfl (fun hw gB hgB => ?_)
  have c0 := CheckL_call gL okL
  rw [checkL] at c0
  have p0 := PlaceA_call gL okL 0
  rw [show placeA gL 0 = 1 by rw [placeA, fineL]; show ((placeT gL 0 : Nat) : Int) = 1; rw [place0]; rfl] at p0
  have p1 := PlaceA_call gL okL 1
  rw [show placeA gL 1 = 2 by rw [placeA, fineL]; show ((placeT gL 1 : Nat) : Int) = 2; rw [place1]; rfl] at p1
  have o1 := ObjectA_call gL okL 1
  have hol : (((((objectA gL 1).map tyPV).length : Nat) : Int) == 2) = true := by
    rw [show objectA gL 1 = objT gL 1 by rw [objectA, fineL, show kindG gL 1 = 0 by decide +kernel]; rfl, List.length_map, objL]; rfl
  repeat' (first | refine ao_tells 12 imgL_tells rfl ?_ | (refine shC ?_; first | refine qC c0 ?_ | refine qC p0 ?_ | refine qC p1 ?_ | refine qC o1 ?_) | refine sK ?_ | refine sC (fun _ => ?_) (fun _ => ?_) | fail)
  all_goals (refine retq rfl ?_; first | (simp only [retPV, hol]; done) | rfl)
end Go.Cg
