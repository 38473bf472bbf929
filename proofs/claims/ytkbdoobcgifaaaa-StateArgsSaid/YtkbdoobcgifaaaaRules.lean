/- The rules of the walk: operations, code, calls. -/
import Derived.Test.YtkbdoobcgifaaaaSound2
namespace Go.Cg
open Go.RowKit


def guardVar (ops : List Oper) (o : Oper) : Option Tmp := match o.guard with | none => none | some (j, _) => match ops[j]? with | some o' => o'.dst | none => none

def guardE (ops : List Oper) (env : Env) (o : Oper) : Option Bool :=
  match o.guard with
  | none => some true
  | some (_, want) => match guardVar ops o with
    | some t => match env.get t with
      | some (.pv (.base (.bool b))) => some (b == want)
      | some (.pv (.tup _)) => some false
      | _ => none
    | none => none

section
variable {P : Program} {tb : Tab} {n : Nat} {g : Base} {K : KK} {w : World} {ρ : Nat → Value} {H : HEnv} {env : Env} {a : Act} {ops : List Oper} {o : Oper} {rest : List Oper} {Q : Env → HEnv → Prop} {r : AV}

theorem env_put {K : KK} {w : World} {t : Nat} {v : Value} (hs : a.tmps.size = n) (hd : Nat.blt t n = true) (he : EnvR K w ρ H env a.tmps) (hr : ARel K w ρ H r v) : EnvR K w ρ H ((t, r) :: env) (a.put (some t) v).tmps := by
  have hd := Nat.le_of_ble_eq_true hd
  intro t' av hg
  simp only [Env.get_nil, Env.get_cons] at hg
  simp only [Act.put]
  split at hg
  · rename_i e
    subst e
    simp only [Option.some.injEq] at hg; subst hg
    exact ⟨v, by rw [Array.getElem?_setIfInBounds_self_of_lt (by rw [hs]; exact hd)], hr⟩
  · rename_i hne
    obtain ⟨u, h1, h2⟩ := he t' av hg
    exact ⟨u, by rw [Array.getElem?_setIfInBounds_ne hne]; exact h1, h2⟩

theorem put_size {d : Option Tmp} {v : Value} (hs : a.tmps.size = n) : (a.put d v).tmps.size = n := by cases d <;> simp [Act.put, hs]
theorem put_defers {d : Option Tmp} {v : Value} (hs : a.defers = []) : (a.put d v).defers = [] := by cases d <;> simp [Act.put, hs]

theorem val_rel (he : EnvR K w ρ H env a.tmps) {x : Operand} {av : AV} (h : env.val x = some av) : ARel K w ρ H av (a.eval x) := by
  cases x with
  | tmp t =>
    obtain ⟨v, h1, h2⟩ := he t av h
    simpa [Act.eval, Array.getD_eq_getD_getElem?, h1] using h2
  | const v =>
    simp only [Env.val] at h
    split at h
    · rename_i h1; simp only [Option.some.injEq] at h; subst h; exact .pv _ _ (.base v h1)
    · cases h
  | func f =>
    simp only [Env.val, Option.some.injEq] at h; subst h
    exact .pv _ _ (.fn (.func f) [] [] [] [] rfl rfl (by simp) (by simp))
  | global g =>
    simp only [Env.val, Option.some.injEq] at h; subst h
    exact .pv _ _ (.base _ rfl)

theorem wanted_of (hi : Inv n g env H a w) {b : Bool} (h : guardE ops env o = some b) : Region.wanted o (yielded ops.toArray a.tmps) = b := by
  obtain ⟨_, _, K, ρ, hf, he⟩ := hi
  unfold guardE guardVar at h
  cases hg : o.guard with
  | none => simp [hg] at h; subst h; simp [Region.wanted, hg]
  | some x =>
    obtain ⟨j, want⟩ := x
    simp only [hg] at h
    cases hj : ops[j]? with
    | none => simp [hj] at h
    | some o' =>
      simp only [hj] at h
      cases hd : o'.dst with
      | none => simp [hd] at h
      | some t =>
        simp only [hd] at h
        split at h
        · rename_i bb hb
          simp only [Option.some.injEq] at h; subst h
          obtain ⟨v, h1, h2⟩ := he t _ hb
          cases h2 with
          | pv _ _ hp => cases hp; simp only [Region.wanted, hg, yielded, List.getElem?_toArray, hj, Option.bind_some, hd, h1]; cases bb <;> cases want <;> rfl
        · rename_i vs hb
          simp only [Option.some.injEq] at h; subst h
          obtain ⟨v, h1, h2⟩ := he t _ hb
          cases h2 with
          | pv _ _ hp => cases hp; simp only [Region.wanted, hg, yielded, List.getElem?_toArray, hj, Option.bind_some, hd, h1]; cases want <;> rfl
        · cases h

theorem undef_rel {K : KK} {w : World} {ρ : Nat → Value} {H : HEnv} : ARel K w ρ H (.pv (.tup [])) undef := .pv _ _ (.tup [] [] rfl (by simp))

theorem ao_nil (h : Q env H) : AO P n g ops.toArray [] env H Q := ⟨fun a w hi => ⟨env, H, hi, rfl, h⟩⟩

theorem ao_q (hg : guardE ops env o = some true) (hq : QStep P g H o env r) {t : Nat} (hd : o.dst = some t) (ht : Nat.blt t n = true) (h : AO P n g ops.toArray rest ((t, r) :: env) H Q) : AO P n g ops.toArray (o :: rest) env H Q := by
  refine ⟨fun a w hi => ?_⟩
  have hw := wanted_of hi hg
  obtain ⟨h1, h2, K, ρ, hf, he⟩ := hi
  refine wpList_step fun KK hKK => ?_
  rw [if_pos hw]
  unfold Oper.wp
  have := hq.go K ρ a w hf (fun x _ av hx => val_rel he hx)
  generalize (execOp a.eval o).run P w = res at this
  cases res with
  | halt x w' => simp only [QRes] at this
  | ok nx w' =>
    cases nx <;> simp only [QRes] at this <;> simp only [Oper.upon]
    case value v =>
      obtain ⟨K', hev, hr⟩ := this
      exact hKK _ _ (h.go _ _ ⟨put_size h1, put_defers h2, K', ρ, hf.evo hev, by rw [hd]; exact env_put h1 ht (he.later (hev.later hf.lt)) hr⟩)
    case enter f args =>
      obtain ⟨rfl, hc⟩ := this
      refine hc.mono fun e w'' ⟨v, K', he', hev, hr⟩ => ?_
      subst he'
      exact hKK _ _ (h.go _ _ ⟨put_size h1, put_defers h2, K', ρ, hf.evo hev, by rw [hd]; exact env_put h1 ht (he.later (hev.later hf.lt)) hr⟩)

theorem ao_step (htb : TabOK P tb) (hg : guardE ops env o = some true) (hq : opE tb H env o = some r) {t : Nat} (hd : o.dst = some t) (ht : Nat.blt t n = true) (h : AO P n g ops.toArray rest ((t, r) :: env) H Q) : AO P n g ops.toArray (o :: rest) env H Q :=
  ao_q hg (opE_sound htb hq) hd ht h

theorem ao_skip (hg : guardE ops env o = some false) {t : Nat} (hd : o.dst = some t) (ht : Nat.blt t n = true) (h : AO P n g ops.toArray rest ((t, .pv (.tup [])) :: env) H Q) : AO P n g ops.toArray (o :: rest) env H Q := by
  refine ⟨fun a w hi => ?_⟩
  have hw := wanted_of hi hg
  obtain ⟨h1, h2, K, ρ, hf, he⟩ := hi
  refine wpList_step fun KK hKK => ?_
  rw [if_neg (by rw [hw]; simp)]
  exact hKK _ _ (h.go _ _ ⟨put_size h1, put_defers h2, K, ρ, hf, by rw [hd]; exact env_put h1 ht he undef_rel⟩)

/-- What is known of a truth value is told in the frame. -/
theorem inv_bool (hi : Inv n g env H a w) {t : Nat} {b : Bool} (hb : env.get t = some (.pv (.base (.bool b)))) {c : Bool} (hc : b = c) : Inv n g ((t, .pv (.base (.bool c))) :: env) H a w := by
  subst hc
  obtain ⟨h1, h2, K, ρ, hf, he⟩ := hi
  refine ⟨h1, h2, K, ρ, hf, fun t' av hg => ?_⟩
  simp only [Env.get_nil, Env.get_cons] at hg
  split at hg
  · rename_i e; subst e; simp only [Option.some.injEq] at hg; subst hg; exact he _ _ hb
  · exact he _ _ hg

theorem ao_case {l : List Oper} {t : Nat} {b : Bool} (hv : (match l with | o :: _ => guardVar ops o | [] => none) = some t) (hb : env.get t = some (.pv (.base (.bool b)))) (h1 : b = true → AO P n g ops.toArray l ((t, .pv (.base (.bool true))) :: env) H Q)
    (h2 : b = false → AO P n g ops.toArray l ((t, .pv (.base (.bool false))) :: env) H Q) : AO P n g ops.toArray l env H Q := by
  refine ⟨fun a w hi => ?_⟩
  cases hb' : b
  · exact (h2 hb').go a w (inv_bool hi hb hb')
  · exact (h1 hb').go a w (inv_bool hi hb hb')

/-! ## Code -/
variable {QQ : QC} {c x y : Code}

theorem wpList_mono {R R' : Exit → Act → World → Prop} (hq : ∀ e a w, R e a w → R' e a w) : ∀ {l : List Oper} {a : Act} {w : World}, wpList P ops.toArray R l a w → wpList P ops.toArray R' l a w
  | [], a, w, h => hq _ _ _ h
  | o :: l, a, w, h => by
    unfold wpList at h ⊢
    split
    · rename_i hw
      rw [if_pos hw] at h
      rcases h with h | ⟨h1, a', w', h2⟩
      · refine .inl ?_
        unfold Oper.wp at h ⊢
        generalize (execOp a.eval o).run P w = r at *
        cases r with
        | ok nx w' =>
          cases nx <;> simp only [Oper.upon] at h ⊢ <;>
            first
              | exact wpList_mono hq h
              | exact Calls.mono h (fun e w'' he => by cases e <;> first | exact wpList_mono hq he | exact hq _ _ _ he | (obtain ⟨a', w', hh⟩ := he; exact ⟨a', w', hq _ _ _ hh⟩))
              | exact Rows.mono h (fun _ _ he => wpList_mono hq he)
        | halt x w' => cases x <;> simp only [Oper.upon] at h ⊢ <;> exact hq _ _ _ h
      · exact .inr ⟨h1, a', w', hq _ _ _ h2⟩
    · rename_i hw
      rw [if_neg hw] at h
      exact wpList_mono hq h

theorem AW.mono {QQ' : QC} (h : AW P n g c env H QQ) (hq : ∀ e env H, QQ e env H → QQ' e env H) : AW P n g c env H QQ' :=
  ⟨fun a w hi => wp_mono (h.go a w hi) fun e _ _ ⟨env', H', h1, h2⟩ => ⟨env', H', h1, hq e env' H' h2⟩⟩

theorem aw_region {id : Nat} (h : AO P n g ops.toArray ops env H (fun env' H' => QQ .normal env' H')) : AW P n g (.region id ops.toArray false) env H QQ :=
  ⟨fun a w hi => wp_region_lit (wpList_mono (fun e a' w' ⟨env', H', h1, h2, h3⟩ => ⟨env', H', h1, by subst h2; exact h3⟩) (h.go a w hi))⟩

def thenQ (next : Env → HEnv → Prop) (QQ : QC) : QC
  | .normal, env, H => next env H
  | e, env, H => QQ e env H

theorem aw_seq (h : AW P n g x env H (thenQ (fun env' H' => AW P n g y env' H' QQ) QQ)) : AW P n g (.seq x y) env H QQ :=
  ⟨fun a w hi => wp_seq (wp_mono (h.go a w hi) fun e a' w' ⟨env', H', h1, h2⟩ => by
    cases e <;> first
      | exact h2.go a' w' h1
      | exact ⟨env', H', h1, h2⟩)⟩

theorem aw_skip (h : QQ .normal env H) : AW P n g .skip env H QQ := ⟨fun _ _ hi => wp_skip ⟨env, H, hi, h⟩⟩
theorem aw_ret (h : QQ .ret env H) : AW P n g .ret env H QQ := ⟨fun _ _ hi => wp_ret ⟨env, H, hi, h⟩⟩
theorem aw_exit {id : Nat} (h : QQ (.exit id) env H) : AW P n g (.exit id) env H QQ := ⟨fun _ _ hi => wp_exit ⟨env, H, hi, h⟩⟩

def blockQ (id : Nat) (QQ : QC) : QC
  | .exit id', env, H => if id' = id then QQ .normal env H else QQ (.exit id') env H
  | e, env, H => QQ e env H

theorem aw_block {id : Nat} (h : AW P n g c env H (blockQ id QQ)) : AW P n g (.block id c) env H QQ :=
  ⟨fun a w hi => wp_block (wp_mono (h.go a w hi) fun e a' w' ⟨env', H', h1, h2⟩ => by
    cases e <;> first
      | exact ⟨env', H', h1, h2⟩
      | (simp only [blockQ, Exit.inBlock] at h2 ⊢
         split
         · rename_i he; rw [if_pos he] at h2; exact ⟨env', H', h1, h2⟩
         · rename_i he; rw [if_neg he] at h2; exact ⟨env', H', h1, h2⟩))⟩

theorem cond_eval (hi : Inv n g env H a w) {c : Operand} {b : Bool} (hc : env.val c = some (.pv (.base (.bool b)))) : a.eval c = .bool b := by
  obtain ⟨_, _, K, ρ, _, he⟩ := hi
  have := val_rel he hc
  generalize a.eval c = v at this
  cases this with | pv _ _ hp => cases hp; rfl

theorem aw_cond_true {c : Operand} (hc : env.val c = some (.pv (.base (.bool true)))) (h : AW P n g x env H QQ) : AW P n g (.cond c x y) env H QQ :=
  ⟨fun a w hi => wp_cond_true (cond_eval hi hc) (h.go a w hi)⟩
theorem aw_cond_false {c : Operand} (hc : env.val c = some (.pv (.base (.bool false)))) (h : AW P n g y env H QQ) : AW P n g (.cond c x y) env H QQ :=
  ⟨fun a w hi => wp_cond_false (cond_eval hi hc) (h.go a w hi)⟩
theorem aw_cond {t : Nat} {b : Bool} (hc : env.get t = some (.pv (.base (.bool b)))) (h1 : b = true → AW P n g x env H QQ) (h2 : b = false → AW P n g y env H QQ) : AW P n g (.cond (.tmp t) x y) env H QQ :=
  ⟨fun a w hi => wp_cond_split (cond_eval (c := .tmp t) hi hc) (fun h => (h1 h).go a w hi) (fun h => (h2 h).go a w hi)⟩

/-! ## The frame, told anew -/
def Sub (env env' : Env) : Prop := ∀ t av, env'.get t = some av → env.get t = some av
theorem sub_nil : Sub env [] := fun t av h => by simp [Env.get_nil, Env.get_cons] at h
theorem sub_cons {env' : Env} {t : Nat} {av : AV} (h : env.get t = some av) (hs : Sub env env') : Sub env ((t, av) :: env') := fun t' av' h' => by
  simp only [Env.get_nil, Env.get_cons] at h'
  split at h'
  · rename_i e; subst e; simp only [Option.some.injEq] at h'; subst h'; exact h
  · exact hs t' av' h'
theorem sub_any {env' : Env} {t : Nat} {av : AV} (h : env.get t = some av) (hs : Sub env env') : Sub env env' := hs
theorem Inv.sub {env' : Env} (hi : Inv n g env H a w) (hs : Sub env env') : Inv n g env' H a w :=
  let ⟨h1, h2, K, ρ, hf, he⟩ := hi; ⟨h1, h2, K, ρ, hf, fun t av h => he t av (hs t av h)⟩
theorem AW.sub {env' : Env} (hs : Sub env env') (h : AW P n g c env' H QQ) : AW P n g c env H QQ := ⟨fun a w hi => h.go a w (hi.sub hs)⟩

mutual
def refsIn (H : HEnv) : AV → Bool
  | .own i => (H.get i).isSome
  | .box i _ => (H.get i).isSome
  | .agg cs => allRefsIn H cs
  | .fn _ a b => allRefsIn H a && allRefsIn H b
  | .pv _ => true
  | .any => true
  | .any1 => true
def allRefsIn (H : HEnv) : List AV → Bool
  | [] => true
  | c :: cs => refsIn H c && allRefsIn H cs
end
theorem allRefsIn_get {H : HEnv} : ∀ {cs : List AV}, allRefsIn H cs = true → ∀ (k : Nat) (c : AV), cs[k]? = some c → refsIn H c = true
  | [], _, k, c, h => by simp at h
  | c :: cs, h, k, c', hk => by
    simp only [allRefsIn, Bool.and_eq_true] at h
    cases k with
    | zero => simp at hk; subst hk; exact h.1
    | succ k => simp at hk; exact allRefsIn_get h.2 k c' hk
def envIn (H : HEnv) : Env → Bool
  | [] => true
  | (_, v) :: e => refsIn H v && envIn H e
def hIn (H : HEnv) : HEnv → Bool
  | [] => true
  | (_, .cell v) :: e => refsIn H v && hIn H e
  | (_, .pin v _) :: e => refsIn H v && hIn H e
  | _ :: e => hIn H e
theorem envIn_get {H : HEnv} : ∀ {e : Env}, envIn H e = true → ∀ t v, e.get t = some v → refsIn H v = true
  | [], _, t, v, h => by simp [Env.get_nil, Env.get_cons] at h
  | (t', v') :: e, h, t, v, hv => by
    simp only [envIn, Bool.and_eq_true] at h
    simp only [Env.get_nil, Env.get_cons] at hv
    split at hv
    · simp only [Option.some.injEq] at hv; subst hv; exact h.1
    · exact envIn_get h.2 t v hv
theorem hIn_get {H : HEnv} : ∀ {e : HEnv}, hIn H e = true → ∀ i v, e.get i = some (.cell v) → refsIn H v = true
  | [], _, t, v, h => by simp [HEnv.get_nil, HEnv.get_cons] at h
  | (j, h') :: e, h, i, v, hv => by
    simp only [HEnv.get_nil, HEnv.get_cons] at hv
    split at hv
    · simp only [Option.some.injEq] at hv; subst hv
      simp only [hIn, Bool.and_eq_true] at h; exact h.1
    · cases h' <;> simp only [hIn, Bool.and_eq_true] at h <;> first | exact hIn_get h.2 i v hv | exact hIn_get h i v hv
theorem hIn_getp {H : HEnv} : ∀ {e : HEnv}, hIn H e = true → ∀ i v u, e.get i = some (.pin v u) → refsIn H v = true
  | [], _, t, v, _, h => by simp [HEnv.get_nil, HEnv.get_cons] at h
  | (j, h') :: e, h, i, v, u, hv => by
    simp only [HEnv.get_nil, HEnv.get_cons] at hv
    split at hv
    · simp only [Option.some.injEq] at hv; subst hv
      simp only [hIn, Bool.and_eq_true] at h; exact h.1
    · cases h' <;> simp only [hIn, Bool.and_eq_true] at h <;> first | exact hIn_getp h.2 i v u hv | exact hIn_getp h i v u hv
theorem ARel.refs {K : KK} {w : World} {ρ : Nat → Value} {H H' : HEnv} {av : AV} {v : Value} (h : ARel K w ρ H av v) : refsIn H' av = true → ARel K w ρ H' av v := by
  induction h with
  | pv p v hp => exact fun _ => .pv p v hp
  | own i _ => exact fun h => .own i h
  | box i off b _ hb => exact fun h => .box i off b h hb
  | agg cs vs h1 h2 _ ih => exact fun h => .agg cs vs h1 h2 fun k c v hc hv => ih k c v hc hv (allRefsIn_get h k c hc)
  | fn f a b vf vc h1 h2 _ _ ih1 ih2 =>
    intro h
    simp only [refsIn, Bool.and_eq_true] at h
    exact .fn f a b vf vc h1 h2 (fun k c v hc hv => ih1 k c v hc hv (allRefsIn_get h.1 k c hc)) (fun k c v hc hv => ih2 k c v hc hv (allRefsIn_get h.2 k c hc))
  | any v => exact fun _ => .any v
  | any1 v h1 h2 => exact fun _ => .any1 v h1 h2

/-- Less is owned. -/
def HSub (H H' : HEnv) : Prop := ∀ i h, H'.get i = some h → H.get i = some h
theorem hsub_nil : HSub H [] := fun i h e => by simp [HEnv.get_nil, HEnv.get_cons] at e
theorem hsub_cons {H' : HEnv} {i : Nat} {e : HE} (h : H.get i = some e) (hs : HSub H H') : HSub H ((i, e) :: H') := fun i' e' h' => by
  simp only [HEnv.get_nil, HEnv.get_cons] at h'
  split at h'
  · rename_i q; subst q; simp only [Option.some.injEq] at h'; subst h'; exact h
  · exact hs i' e' h'
theorem hsub_r {H' : HEnv} {i : Nat} {t sz : Nat} {es es' : List PV} (h : H.get i = some (.row t sz es)) (e : es = es') (hs : HSub H H') : HSub H ((i, .row t sz es') :: H') := hsub_cons (by rw [h, e]) hs
def HFit (H H' : HEnv) (env' : Env) : Prop := HSub H H' ∧ (envIn H' env' && hIn H' H') = true
theorem Inv.hsub {H' : HEnv} (hi : Inv n g env H a w) (hs : HFit H H' env) : Inv n g env H' a w := by
  obtain ⟨h1, h2, K, ρ, hf, he⟩ := hi
  obtain ⟨hs, hin⟩ := hs
  simp only [Bool.and_eq_true] at hin
  refine ⟨h1, h2, K, ρ, ⟨hf.below, hf.old, hf.new, hf.lt, ?_, ?_⟩, fun t av ht => let ⟨v, v1, v2⟩ := he t av ht; ⟨v, v1, v2.refs (envIn_get hin.1 t av ht)⟩⟩
  · intro i h hi
    have := hf.heap.ok i h (hs i h hi)
    cases h with
    | cell v =>
      obtain ⟨b, t, arr, u, e1, e2, e3, e4, e5, e6⟩ := this
      exact ⟨b, t, arr, u, e1, e2, e3, e4.refs (hIn_get hin.2 i v hi), e5, e6⟩
    | row t sz es => exact this
    | dead => trivial
    | pin v u => exact ARel.refs this (hIn_getp hin.2 i v u hi)
    | obj X => exact this
  · intro i j h h' b hij h1 h2
    exact hf.heap.apart i j h h' b hij (hs i h h1) (hs j h' h2)

/-- A loop: what the frame is at each round's head is told by an index. -/
def loopQ {ι : Type} (E : ι → Env) (HH : ι → HEnv) (Pre : ι → Prop) (μ : ι → Nat) (i : ι) (QQ : QC) : QC
  | .normal, env', H' => ∃ j, Pre j ∧ μ j < μ i ∧ Sub env' (E j) ∧ HFit H' (HH j) (E j)
  | e, env', H' => QQ e env' H'

theorem aw_loop {ι : Type} (E : ι → Env) (HH : ι → HEnv) (Pre : ι → Prop) (μ : ι → Nat) (i0 : ι) (hpre : Pre i0) (hs : Sub env (E i0)) (hH : HFit H (HH i0) (E i0))
    (round : ∀ i, Pre i → AW P n g c (E i) (HH i) (loopQ E HH Pre μ i QQ)) : AW P n g (.loop c) env H QQ := by
  refine ⟨fun a w hi b k cs => ?_⟩
  have key : ∀ m i, μ i = m → Pre i → ∀ a w, Inv n g (E i) (HH i) a w →
      ∃ e a' w', (∃ env' H', Inv n g env' H' a' w' ∧ QQ e env' H') ∧ Arrives P (lone (b.at a (.code c :: .inLoop c :: k)) cs w) b k cs e a' w' := by
    intro m
    induction m using Nat.strongRecOn with
    | _ m ih =>
      intro i hm hp a w hi
      obtain ⟨e, a₁, w₁, ⟨env', H', h1, h2⟩, harr⟩ := (round i hp).go a w hi b (.inLoop c :: k) cs
      cases e with
      | normal =>
        obtain ⟨j, hpj, hlt, hsub, hfit⟩ := h2
        obtain ⟨e₂, a₂, w₂, hq₂, harr₂⟩ := ih (μ j) (by omega) j rfl hpj a₁ w₁ ((h1.sub hsub).hsub hfit)
        exact ⟨e₂, a₂, w₂, hq₂, .of_steps (Steps.trans harr (.one step_inLoop)) harr₂⟩
      | exit id => exact ⟨_, a₁, w₁, ⟨env', H', h1, h2⟩, .pass (x := .inLoop c) rfl (fun _ _ => .inl (by simp)) harr⟩
      | goto l => exact ⟨_, a₁, w₁, ⟨env', H', h1, h2⟩, .pass (x := .inLoop c) rfl (fun _ _ => .inl (by simp)) harr⟩
      | ret => exact ⟨_, a₁, w₁, ⟨env', H', h1, h2⟩, .pass (x := .inLoop c) rfl (fun _ _ => .inl (by simp)) harr⟩
      | panic ch => exact ⟨_, a₁, w₁, ⟨env', H', h1, h2⟩, .pass (x := .inLoop c) rfl (fun _ _ => .inl (by simp)) harr⟩
      | outgrown => exact ⟨_, a₁, w₁, ⟨env', H', h1, h2⟩, .pass (x := .inLoop c) rfl (fun _ _ => .inl (by simp)) harr⟩
  obtain ⟨e, a', w', hq, harr⟩ := key _ i0 rfl hpre a w ((hi.sub hs).hsub hH)
  exact ⟨e, a', w', hq, .of_steps (.one step_loop) harr⟩
end
end Go.Cg
