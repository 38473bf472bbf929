/- A part of the walks by abstract values: no statement of its own. -/
import Derived.Test.YtglfbaimlajjgaaGreatU17
import Derived.Test.YtglfbaimlajjgaaGreatU7
import Derived.Laws.Pointers
import Derived.Laws.CopyRow
import Derived.Test.YtglfbaimlajjgaaGreatU12
import Derived.Test.YtglfbaimlajjgaaGreatU8
import Derived.Test.YtglfbaimlajjgaaGreatU18
/- Rows of the call's own: cut, cleared, copied into; structures lent to calls that read them. -/
namespace Go.Cg
open Go.RowKit
section
variable {P : Program} {tb : Tab} {n : Nat} {g : Base} {H : HEnv} {env : Env} {ops : List Oper} {o : Oper} {rest : List Oper} {Q : Env → HEnv → Prop} {QQ : QC} {c : Code} {K : KK} {w : World} {ρ : Nat → Value} {a : Act}

/-! ## Is it nil? -/
def nilOf : AV → Option Bool
  | .box _ _ => some false
  | .pv (.ptr _ _) => some false
  | .pv (.base (.pointer none)) => some true
  | _ => none
theorem q_isnil {t rt pe : TypeId} {x : Operand} {av : AV} {b : Bool} (hop : o.op = .binOp .eql t x (.const (.pointer none)) rt) (hu0 : P.underlying t = some (.pointer pe)) (hx : env.val x = some av) (hn : nilOf av = some b) : QStep P g H o env (.pv (.base (.bool b))) := by
  have hu : P.underlying t = some (.pointer (P.pointee t)) := by rw [hu0, Program.pointee, hu0]
  refine ⟨fun K ρ a w hf hv => ?_⟩
  have hxr := hv x (by rw [hop]; simp [Op.operands]) _ hx
  generalize hxv : a.eval x = xv at hxr
  have key : ∀ p : Option Addr, xv = .pointer p → p.isNone = b → QRes P K ρ H w (.pv (.base (.bool b))) ((execOp a.eval o).run P w) := by
    rintro p rfl rfl
    have h1 := run_eql_pointer_nil (P := P) w t p hu
    have h2 : a.eval (.const (.pointer none)) = .pointer none := rfl
    have hrun : (execOp a.eval o).run P w = .ok (.value (.bool p.isNone)) w := by
      simp [execOp, hop, hxv, h2, eqGuard, h1]
    rw [hrun]
    exact qval hf (.pv _ _ (.base _ rfl))
  cases hxr with
  | box i off b' hi hb => simp only [nilOf, Option.some.injEq] at hn; exact key _ rfl (by simpa using hn)
  | pv p v hp =>
    cases hp with
    | ptr => simp only [nilOf, Option.some.injEq] at hn; exact key _ rfl (by simpa using hn)
    | base v hb =>
      cases xv <;> simp only [nilOf] at hn <;> try cases hn
      rename_i p
      cases p with
      | none => simp only [Option.some.injEq] at hn; exact key _ rfl (by simpa using hn)
      | some ad => cases hn
    | _ => simp [nilOf] at hn
  | _ => simp [nilOf] at hn

/-! ## A call that reads what the caller owns -/
def loanC (ρ : Nat → Value) (H : HEnv) : AV → Option PV
  | .pv p => some p
  | .own i => match H.get i with
    | some (.mrow _ sz es) => some (.slc sz es false)
    | some (.obj _) => some (.base (ρ i))
    | _ => none
  | _ => none
def loanL (ρ : Nat → Value) (H : HEnv) : List AV → Option (List PV)
  | [] => some []
  | x :: xs => match loanC ρ H x, loanL ρ H xs with | some p, some ps => some (p :: ps) | _, _ => none
def loanV (ρ : Nat → Value) (H : HEnv) : AV → Option PV
  | .box i off => match H.get i with
    | some (.cell v) => if v.flat.all (oneA H) then match loanL ρ H v.flat with | some cs => some (.ptr (.agg cs) off) | none => none else none
    | _ => none
  | av => loanC ρ H av
def loans (ρ : Nat → Value) (env : Env) (H : HEnv) : List Operand → Option (List PV)
  | [] => some []
  | x :: xs => match env.val x, loans ρ env H xs with
    | some av, some ps => match loanV ρ H av with | some p => some (p :: ps) | none => none
    | _, _ => none
def lentK (K : KK) (ρ : Nat → Value) (H : HEnv) : KK := fun b o => K b o ∨ (∃ i t sz es, H.get i = some (.mrow t sz es) ∧ (ρ i).ownBlock = some b ∧ o < es.length * sz) ∨ ∃ i v, H.get i = some (.cell v) ∧ blockOf (ρ i) = some b
theorem lent_later : Later K (lentK K ρ H) w w := ⟨fun _ _ h => .inl h, fun _ _ _ => rfl⟩
theorem lent_lt (hf : FS g K ρ H w) : ∀ b o, lentK K ρ H b o → b < w.heap.size := by
  rintro b o (h | ⟨i, t, sz, es, hi, hb, _⟩ | ⟨i, v, hi, hb⟩)
  · exact hf.lt b o h
  · obtain ⟨us, hown, _⟩ := hf.heap.ok i _ hi
    exact (hown.lt b hb).2
  · exact ((hf.heap.ok i _ hi).block_lt rfl hb).2
theorem loanC_rel (hf : FS g K ρ H w) {av : AV} {v : Value} (h : ARel K w ρ H av v) {p : PV} (hp : loanC ρ H av = some p) : PRel (lentK K ρ H) w p v := by
  cases h with
  | pv p' v h => simp only [loanC, Option.some.injEq] at hp; subst hp; exact h.later lent_later
  | own i hi0 =>
    simp only [loanC] at hp
    split at hp
    · rename_i t sz es hi
      simp only [Option.some.injEq] at hp; subst hp
      obtain ⟨xs, hown, h0, hcr, hnK⟩ := hf.heap.ok i _ hi
      rcases hown.2 with ⟨hr, hz⟩ | ⟨b, cap, cur, hr, hB, hheap, hle, hcap, hsize, htake⟩
      · rw [hr]
        have : es = [] := List.eq_nil_of_length_eq_zero hz
        subst this; exact .nil sz false
      · by_cases hes : es = []
        · subst hes
          rw [hr]
          exact .slc sz [] false b 0 cap (fun _ => []) h0 (Nat.zero_le _) (by simp) (by simp [maxLen]) hcap (fun i e he => by simp at he) (fun i e k c v he => by simp at he)
        · have hown' := hown
          rw [hr] at hown' ⊢
          have hxl : xs.length = es.length * sz := hown.1
          refine .slc sz es false b 0 cap (fun i => (xs.drop (i * sz)).take sz) h0 hle (by simp) (by omega) hcap (fun k e he => ?_) (fun k e m c v he hc hvv => ?_)
          · obtain ⟨c1, c2⟩ := hcr k e he
            have hk : k < es.length := (List.getElem?_eq_some_iff.1 he).1
            have hle2 : k * sz + sz ≤ es.length * sz := by rw [← Nat.succ_mul]; exact Nat.mul_le_mul_right _ hk
            refine ⟨c1, by rw [List.length_take, List.length_drop]; omega, fun m v hm => ?_⟩
            rw [List.getElem?_take] at hm
            split at hm
            · rename_i hms
              rw [List.getElem?_drop] at hm
              obtain ⟨u, u1, u2, _⟩ := c2 m e.cells[m] (List.getElem?_eq_getElem (by omega))
              rw [u1, Option.some.injEq] at hm; subst hm
              exact ⟨.inr (.inl ⟨i, t, sz, es, hi, by rw [hr]; rfl, by omega⟩), by rw [Nat.zero_add, hown'.cellAt _ (by omega)]; exact u1, u2⟩
            · cases hm
          · obtain ⟨c1, c2⟩ := hcr k e he
            obtain ⟨u, u1, u2, u3⟩ := c2 m c hc
            rw [List.getElem?_take] at hvv
            split at hvv
            · rw [List.getElem?_drop, u1, Option.some.injEq] at hvv
              subst hvv; exact u3.later lent_later
            · cases hvv
    · rename_i X hi
      simp only [Option.some.injEq] at hp; subst hp
      obtain ⟨b, ob, hr, _⟩ := hf.heap.ok i _ hi
      exact .base _ (by rw [hr]; rfl)
    · cases hp
  | _ => simp [loanC] at hp
theorem loanL_rel (hf : FS g K ρ H w) : ∀ {avs : List AV} {ps : List PV} {vs : List Value}, vs.length = avs.length → (∀ (k : Nat) (c : AV) (v : Value), avs[k]? = some c → vs[k]? = some v → ARel K w ρ H c v) → loanL ρ H avs = some ps → PRels (lentK K ρ H) w ps vs
  | [], ps, vs, hl, _, h => by
    simp only [loanL, Option.some.injEq] at h; subst h
    have : vs = [] := List.eq_nil_of_length_eq_zero (by simpa using hl)
    subst this; exact .nil
  | x :: xs, ps, vs, hl, hr, h => by
    cases vs with
    | nil => simp at hl
    | cons v vs =>
      simp only [loanL] at h
      split at h
      · rename_i p qs e1 e2
        simp only [Option.some.injEq] at h; subst h
        exact .cons (loanC_rel hf (hr 0 x v rfl rfl) e1) (loanL_rel hf (by simpa using hl) (fun k c v hc hv => hr (k + 1) c v (by simpa using hc) (by simpa using hv)) e2)
      · cases h
theorem loanV_rel (hf : FS g K ρ H w) {av : AV} {v : Value} (h : ARel K w ρ H av v) {p : PV} (hp : loanV ρ H av = some p) : PRel (lentK K ρ H) w p v := by
  by_cases hb : ∃ i off, av = .box i off
  · obtain ⟨i, off, rfl⟩ := hb
    simp only [loanV] at hp
    split at hp
    · rename_i u hi
      split at hp
      · rename_i hone
        split at hp
        · rename_i cs hcs
          simp only [Option.some.injEq] at hp; subst hp
          obtain ⟨b, t, arr, x, hr, hB, hheap, hx, harr, hn⟩ := hf.heap.ok i _ hi
          obtain ⟨f1, f2, f3⟩ := flat_rel hx hone (row_one hf)
          have hps := loanL_rel hf (by simpa using f1) f3 hcs
          cases h with
          | box _ _ b' hi' hρ =>
            rw [hr] at hρ
            simp only [Value.pointer.injEq, Option.some.injEq, Addr.mk.injEq, and_true] at hρ
            subst hρ
            have := PRel.ptr (K := lentK K ρ H) (w := w) (.agg cs) off b 0 x.cells.toList hps.1 (fun k v hk => ⟨.inr (.inr ⟨i, u, hi, by rw [hr]; rfl⟩), by
              simp only [World.cell?, hheap, Nat.zero_add]; rw [← harr]; simpa using hk, f2 v (List.mem_of_getElem? hk)⟩) hps.2
            simpa using this
        · cases hp
      · cases hp
    · cases hp
  · have : loanV ρ H av = loanC ρ H av := by
      cases av <;> first | rfl | (exact absurd ⟨_, _, rfl⟩ hb)
    rw [this] at hp
    exact loanC_rel hf h hp
theorem loans_rel (hf : FS g K ρ H w) : ∀ {xs : List Operand} {ps : List PV}, (∀ x ∈ xs, ∀ av, env.val x = some av → ARel K w ρ H av (a.eval x)) → loans ρ env H xs = some ps → PRels (lentK K ρ H) w ps (xs.map a.eval)
  | [], ps, _, h => by simp [loans] at h; subst h; exact .nil
  | x :: xs, ps, hv, h => by
    simp only [loans] at h
    split at h
    · rename_i av qs e1 e2
      split at h
      · rename_i p e3
        simp only [Option.some.injEq] at h; subst h
        exact .cons (loanV_rel hf (hv x (by simp) _ e1) e3) (loans_rel hf (fun y hy => hv y (by simp [hy])) e2)
      · cases h
    · cases h
/-- A call that only reads; it may be handed pointers to what the caller owns. -/
theorem q_callO {xs : Array Operand} {ts : Array TypeId} {f : FuncId} {args : (Nat → Value) → List PV} {r : Value} (hop : o.op = .call { callee := .value (.func f), args := xs, argTypes := ts }) (hargs : ∀ ρ, loans ρ env H xs.toList = some (args ρ))
    (hc : ∀ ρ, ACall P f (args ρ) (.base r)) : QStep P g H o env (.pv (.base r)) := by
  refine ⟨fun K ρ a w hf hv => ?_⟩
  have hp := loans_rel hf (a := a) (xs := xs.toList) (fun x hx => hv x (by rw [hop]; simp [Op.operands, Call.operands]; exact .inr (by simpa using hx))) (hargs ρ)
  have : (execOp a.eval o).run P w = .ok (.enter f (xs.toList.map a.eval).toArray) w := by
    have e : (xs.toList.map a.eval).toArray = xs.map a.eval := by rw [← Array.toList_map, Array.toArray_toList]
    rw [e]
    simp [execOp, hop, resolve, Act.eval, Deferred.ofValue, invoke, call_run (hc ρ).stands]
  rw [this]
  refine ⟨rfl, ((hc ρ).calls _ w _ (lent_lt hf) hp).mono fun e w'' ⟨v, K', h1, h2, h3⟩ => ?_⟩
  cases h3 with
  | base _ hb => exact ⟨_, K, h1, ⟨h2.below, fun _ _ h => h, fun _ _ h => .inl h, fun b o h => Nat.lt_of_lt_of_le (hf.lt b o h) h2.below.size⟩, .pv _ _ (.base _ hb)⟩

/-! ## A part of a row is cut off, and written -/
def cut (sz : Nat) (u : Value) (l h : Nat) : Value := match u with
  | .slice (some a) _ c => .slice (some ⟨a.block, l * sz, none⟩) (h - l) (c - l)
  | v => v
theorem cut_ok (sz : Nat) (u : Value) (l h : Nat) (hu : ∃ a n c, u = .slice (some a) n c) : baseOk (cut sz u l h) = true := by
  obtain ⟨a, n, c, rfl⟩ := hu; rfl
/-- A part of a row of the call's own. -/
theorem ao_mslice (htb : TabOK P tb) {t e d : Nat} {x : Operand} {lo hi : Option Operand} (i j : Nat) {sz : Nat} {es : List PV} {l h : Int} (hg : guardE ops env o = some true) (hop : o.op = .slice t x lo hi none) (hk : tb.k t = .sl e) (hke : tb.known e = true) (hsz : tb.size e = sz)
    (hx : env.val x = some (.own i)) (hi' : H.get i = some (.mrow e sz es)) (hlo : boundE env H 0 lo = some l) (hhi : boundE env H es.length hi = some h) (h0 : 0 ≤ l) (h1 : l ≤ h) (h2 : h ≤ es.length) (h3 : l < es.length) (hj : H.get j = none) (hd : o.dst = some d) (ht : Nat.blt d n = true)
    (k : ∀ u, AO P n g ops.toArray rest ((d, .pv (.base (cut sz u l.toNat h.toNat))) :: env) ((j, .pin (.own i) u) :: H) Q) : AO P n g ops.toArray (o :: rest) env H Q := by
  refine ⟨fun a w hinv => ?_⟩
  have hw := wanted_of hinv hg
  obtain ⟨g1, g2, K, ρ, hf, he⟩ := hinv
  refine wpList_step fun KK hKK => ?_
  rw [if_pos hw]
  have hxr := val_rel he hx
  generalize hxv : a.eval x = xv at hxr
  have el := bound_run (a := a) hf (x := lo) (fun y hy av hh => val_rel he hh) hlo
  have eh := bound_run (a := a) hf (x := hi) (fun y hy av hh => val_rel he hh) hhi
  have hko : tb.k e ≠ .oth := by intro h; simp [Tab.known, h] at hke
  have hs := run_sizeOf htb hko w
  have hh0 : 0 ≤ h := by omega
  have hlh : l ≤ ((h.toNat : Nat) : Int) := by omega
  have bounds : ∀ cap : Nat, es.length ≤ cap → (Instr.sliceBounds true es.length cap (lo.map a.eval) (hi.map a.eval) none).run P w = .ok (l.toNat, h.toNat, cap) w := by
    intro cap hcap
    have hhc : h ≤ (cap : Int) := by omega
    rcases el with ⟨rfl, rfl⟩ | ⟨y, k, rfl, hy⟩ <;> rcases eh with ⟨rfl, rfl⟩ | ⟨z, k', rfl, hz⟩
    · simp [Instr.sliceBounds]
    · simp [hz, Instr.sliceBounds, Instr.sliceBound, asIntOf, hhc, hh0]
    · simp [hy, Instr.sliceBounds, Instr.sliceBound, asIntOf, h0, h1]
    · simp [hy, hz, Instr.sliceBounds, Instr.sliceBound, asIntOf, h0, hhc, hh0]
      intro hc; omega
  obtain ⟨xs, hown, hz0, hcr, hnK⟩ := hf.heap.ok i _ hi'
  cases hxr with
  | own _ hi0 =>
    rcases hown.2 with ⟨hr, hz⟩ | ⟨b, cap, cur, hr, hB, hheap, hle, hcap, hsize, htake⟩
    · omega
    · have hb := bounds cap hle
      have hrun : (execOp a.eval o).run P w = .ok (.value (cut sz (ρ i) l.toNat h.toNat)) w := by
        rw [hr]
        have hne : ¬ cap = l.toNat := by omega
        simp [execOp, hop, hxv, hr, Instr.sliceAt, Instr.slice, run_underlying (tab_sl htb hk), hb, hs, hsz, Addr.add_lit, cut, hne]
      unfold Oper.wp
      rw [hrun]
      simp only [Oper.upon]
      have hkk : ∀ m, (H.get m).isSome = true → (HEnv.get ((j, .pin (.own i) (ρ i)) :: H) m).isSome = true ∧ (fun m => if m = j then undef else ρ m) m = ρ m := by
        intro m hm
        have hmj : m ≠ j := by rintro rfl; rw [hj] at hm; cases hm
        refine ⟨?_, by simp [hmj]⟩
        rw [HEnv.get_cons]; split <;> first | rfl | exact hm
      have hij : i ≠ j := by rintro rfl; rw [hj] at hi'; cases hi'
      refine hKK _ _ ((k (ρ i)).go _ _ ⟨put_size g1, put_defers g2, K, ρ, ⟨hf.below, hf.old, hf.new, hf.lt, hf.others, hf.pt, ?_, ?_, ?_⟩, ?_⟩)
      · intro m hh bb hm hl hbb
        rw [HEnv.get_cons] at hm
        split at hm
        · simp only [Option.some.injEq] at hm; subst hm; simp [HE.live] at hl
        · exact hf.away m hh bb hm hl hbb
      · intro m hh hm
        have hkk' : ∀ m, (H.get m).isSome = true → (HEnv.get ((j, .pin (.own i) (ρ i)) :: H) m).isSome = true ∧ ρ m = ρ m := fun m hm => ⟨(hkk m hm).1, rfl⟩
        rw [HEnv.get_cons] at hm
        split at hm
        · simp only [Option.some.injEq] at hm; subst hm
          have hold : ARel K w ρ H (.own i) (ρ i) := .own i (by rw [hi']; rfl)
          exact hold.keeps (.refl K w) hkk'
        · exact (hf.heap.ok m hh hm).keeps (.refl hf.lt) hf.lt hkk'
      · intro m m' hh hh' bb hmm hm hm' hl hl' hb1 hb2
        have hq : ∀ m hh, HEnv.get ((j, .pin (.own i) (ρ i)) :: H) m = some hh → hh.live = true → H.get m = some hh := by
          intro m hh hm hl
          rw [HEnv.get_cons] at hm
          split at hm
          · simp only [Option.some.injEq] at hm; subst hm; simp [HE.live] at hl
          · exact hm
        exact hf.heap.apart m m' hh hh' bb hmm (hq m hh hm hl) (hq m' hh' hm' hl') hl hl' hb1 hb2
      · rw [hd]
        refine env_put g1 ht (he.keeps (.refl K w) (fun m hm => ⟨(hkk m hm).1, rfl⟩)) (.pv _ _ (.base _ (cut_ok _ _ _ _ ⟨_, _, _, hr⟩)))
theorem cells1_splice {es ps : List PV} {xs vs : List Value} {off : Nat} (h : CellsRel K w 1 es xs) (hp : CellsRel K w 1 ps vs) (hx : xs.length = es.length) (hv : vs.length = ps.length) (ho : off + ps.length ≤ es.length) :
    CellsRel K w 1 (es.take off ++ ps ++ es.drop (off + ps.length)) (xs.take off ++ vs ++ xs.drop (off + vs.length)) := by
  intro i e he
  rw [splice_get ho] at he
  have key : ∀ k c, e.cells[k]? = some c → e.cells.length = 1 → k = 0 := fun k c hc hl => by have := (List.getElem?_eq_some_iff.1 hc).1; omega
  split at he
  · rename_i h1
    obtain ⟨c1, c2⟩ := h i e he
    refine ⟨c1, fun k c hc => ?_⟩
    obtain rfl := key k c hc c1
    obtain ⟨v, v1, v2, v3⟩ := c2 0 c hc
    exact ⟨v, by rw [splice_get (by omega), if_pos (by omega)]; exact v1, v2, v3⟩
  · split at he
    · rename_i h1 h2
      obtain ⟨c1, c2⟩ := hp (i - off) e he
      refine ⟨c1, fun k c hc => ?_⟩
      obtain rfl := key k c hc c1
      obtain ⟨v, v1, v2, v3⟩ := c2 0 c hc
      exact ⟨v, by rw [splice_get (by omega), if_neg (by omega), if_pos (by omega), show i * 1 + 0 - off = (i - off) * 1 + 0 by omega]; exact v1, v2, v3⟩
    · rename_i h1 h2
      obtain ⟨c1, c2⟩ := h i e he
      refine ⟨c1, fun k c hc => ?_⟩
      obtain rfl := key k c hc c1
      obtain ⟨v, v1, v2, v3⟩ := c2 0 c hc
      exact ⟨v, by rw [splice_get (by omega), if_neg (by omega), if_neg (by omega)]; exact v1, v2, v3⟩
/-- Cells of a row of the call's own are written anew. -/
theorem FS.splice (hf : FS g K ρ H w) {i e b cap off : Nat} {es ps : List PV} {cur : Array Value} {vs : List Value} (hi : H.get i = some (.mrow e 1 es)) (hρ : ρ i = .slice (some ⟨b, 0, none⟩) es.length cap) (hheap : w.heap[b]? = some (.cells cur e (0, 0)))
    (hp : CellsRel K w 1 ps vs) (hv : vs.length = ps.length) (ho : off + ps.length ≤ es.length) {arr : Array Value} (harr : arr = (cur.toList.take off ++ vs ++ cur.toList.drop (off + vs.length)).toArray) :
    FS g K ρ ((i, .mrow e 1 (es.take off ++ ps ++ es.drop (off + ps.length))) :: H) (w.setRow b arr) ∧ Later K K w (w.setRow b arr) := by
  obtain ⟨xs, hown, h0, hcr, hnK⟩ := hf.heap.ok i _ hi
  rcases hown.2 with ⟨hr, _⟩ | ⟨b', cap', cur', hr, hB, hheap', hec, hcap, hsize, htake⟩
  · rw [hρ] at hr; simp at hr
  · rw [hρ] at hr
    simp only [Value.slice.injEq, Option.some.injEq, Addr.mk.injEq, and_true, true_and] at hr
    obtain ⟨rfl, rfl⟩ := hr
    rw [hheap] at hheap'
    simp only [Option.some.injEq, Obj.cells.injEq, and_true] at hheap'
    subst hheap'
    have hlen : (es.take off ++ ps ++ es.drop (off + ps.length)).length = es.length := by rw [List.length_append, List.length_append, List.length_take, List.length_drop]; omega
    have hgrow : w.grownBy (w.setRow b arr) (some b) := ⟨rfl, rfl, rfl, by simp, fun k _ hk => setRow_other w b k _ (fun e => hk (by simp [e]))⟩
    have hnKb : ∀ o, ¬ K b o := hnK b (by rw [hρ]; rfl)
    have hlat : Later K K w (w.setRow b arr) := ⟨fun _ _ h => h, fun b' o hk => by
      have : b' ≠ b := by rintro rfl; exact hnKb o hk
      exact cell_setRow_other w b _ ⟨b', o, none⟩ this⟩
    have hxl : xs.length = es.length := by have := hown.1; simpa using this
    have hkeep : ∀ j, (H.get j).isSome = true → (HEnv.get ((i, .mrow e 1 (es.take off ++ ps ++ es.drop (off + ps.length))) :: H) j).isSome = true ∧ ρ j = ρ j := by
      intro j hj
      refine ⟨?_, rfl⟩
      rw [HEnv.get_cons]
      split
      · rfl
      · exact hj
    refine ⟨⟨hf.below.grown hgrow hf.below.size (fun k hk => by simp at hk; omega), hf.old, hf.new, fun b o hk => by have := hf.lt b o hk; simpa using this, hf.others.trans (others_row hheap hgrow), hf.pt.grown hf.old hgrow hlat (fun b2 hb2 => by cases hb2; exact hf.away i _ b hi rfl (by rw [hρ]; rfl)) (fun _ _ h => .inl h), hf.away.set hi rfl, ?_, ?_⟩, hlat⟩
    · intro j' e' hj
      rw [HEnv.get_cons] at hj
      split at hj
      · rename_i e1; subst e1
        simp only [Option.some.injEq] at hj; subst hj
        refine ⟨xs.take off ++ vs ++ xs.drop (off + vs.length), ⟨?_, .inr ⟨b, cap, arr, by rw [hρ, hlen], hB, setRow_heap w b cur _ e _ hheap, by rw [hlen]; exact hec, hcap, ?_, ?_⟩⟩, h0, ?_, fun b' hb' => hnK b' hb'⟩
        · rw [hlen, List.length_append, List.length_append, List.length_take, List.length_drop]; omega
        · rw [← hsize, harr, List.size_toArray, List.length_append, List.length_append, List.length_take, List.length_drop, Array.length_toList]; omega
        · rw [hlen, harr, ← htake]
          have h9 : cur.toList.length = cur.size := by simp
          exact splice_take (by omega) (by omega)
        · have := cells1_splice (off := off) hcr hp hxl hv ho
          intro i1 e1 he1
          obtain ⟨c1, c2⟩ := this i1 e1 he1
          exact ⟨c1, fun k c hc => let ⟨v, v1, v2, v3⟩ := c2 k c hc; ⟨v, v1, v2, v3.later hlat⟩⟩
      · rename_i hne
        by_cases hlive : e'.live = true
        · have := (hf.heap.ok j' e' hj).grown (f := id) hgrow hlat (fun b o h => .inl h) (fun av v h => h.keeps hlat hkeep) hlive (fun b' hb' e' => by
            simp at e'; subst e'
            exact hf.heap.apart i j' _ _ b hne hi hj rfl hlive (by rw [hρ]; rfl) hb')
          cases e' <;> exact this
        · cases e' <;> simp [HE.live] at hlive
          · trivial
          · exact ARel.keeps hlat hkeep (hf.heap.ok j' _ hj)
    · intro j' k' e1 e2 bb hjk hj hk' hlj hlk hbj hbk
      have f1 : ∀ (j : Nat) (hh : HE), HEnv.get ((i, .mrow e 1 (es.take off ++ ps ++ es.drop (off + ps.length))) :: H) j = some hh → hh.live = true → ∃ h0, H.get j = some h0 ∧ h0.live = true := by
        intro j hh hj hl
        rw [HEnv.get_cons] at hj
        split at hj
        · rename_i e'; subst e'; exact ⟨_, hi, rfl⟩
        · exact ⟨hh, hj, hl⟩
      obtain ⟨a1, a2, a3⟩ := f1 j' e1 hj hlj
      obtain ⟨b1, b2, b3⟩ := f1 k' e2 hk' hlk
      exact hf.heap.apart j' k' a1 b1 bb hjk a2 b2 a3 b3 hbj hbk

/-- clear, of a part. -/
theorem ao_mclear (htb : TabOK P tb) {t e : Nat} {x : Operand} {i j l h : Nat} {u : Value} {es : List PV} {z : PV} {zv : Value} (hg : guardE ops env o = some true) (hop : o.op = .call { callee := .builtin .clear, args := #[x], argTypes := #[t] }) (hk : tb.k t = .sl e)
    (hx : env.val x = some (.pv (.base (cut 1 u l h)))) (hj : H.get j = some (.pin (.own i) u)) (hi : H.get i = some (.mrow e 1 es)) (hlh : l ≤ h) (hh : h ≤ es.length)
    (hz : tb.zero e = some zv) (hzz : zeroPV zv = some z) (hzc : zv.cells.size = 1) (hd : o.dst = none)
    (k : AO P n g ops.toArray rest env ((i, .mrow e 1 (es.take l ++ List.replicate (h - l) z ++ es.drop (l + (h - l)))) :: H) Q) : AO P n g ops.toArray (o :: rest) env H Q := by
  refine ⟨fun a w hinv => ?_⟩
  have hw := wanted_of hinv hg
  obtain ⟨g1, g2, K, ρ, hf, he⟩ := hinv
  refine wpList_step fun KK hKK => ?_
  rw [if_pos hw]
  have hxr := val_rel he hx
  generalize hxv : a.eval x = xv at hxr
  have hu : u = ρ i := by
    have h9 : ARel K w ρ H (.own i) u := hf.heap.ok j _ hj
    generalize hru : ρ i = ri
    cases h9 with
    | own _ _ => exact hru
  subst hu
  obtain ⟨xs, hown, h0, hcr, hnK⟩ := hf.heap.ok i _ hi
  have hzi : (zeroValue e).run P w = .ok zv w := by
    have hz' := hz
    unfold Tab.zero at hz'
    split at hz'
    · rename_i ti hti
      obtain ⟨tin, e1, _, _, e4, _⟩ := tab_info htb hti
      simp [zeroValue, typeInfo, e1, e4, hz']
    · cases hz'
  obtain ⟨hzr, hznt⟩ := zeroPV_rel (K := K) (w := w) hzz
  have hzcr := cells_rel hzr
  have hzo := cells_one hzr hznt
  obtain ⟨zc, hzc1⟩ : ∃ zc, zv.cells = #[zc] := ⟨zv.cells[0], by
    apply Array.ext
    · simp [hzc]
    · intro m m1 m2
      have : m = 0 := by omega
      subst this; simp⟩
  have hzl : z.cells.length = 1 := by rw [← hzcr.1, hzc1]; rfl
  have hrep : CellsRel K w 1 (List.replicate (h - l) z) (List.replicate (h - l) zc) := by
    intro m p hm
    have hml : m < h - l := by have := (List.getElem?_eq_some_iff.1 hm).1; simpa using this
    have hpz : p = z := by rw [List.getElem?_replicate, if_pos hml] at hm; simpa using hm.symm
    subst hpz
    refine ⟨hzl, fun q c hc => ?_⟩
    have hq : q = 0 := by have := (List.getElem?_eq_some_iff.1 hc).1; omega
    subst hq
    exact ⟨zc, by rw [List.getElem?_replicate, if_pos (by omega)], hzo zc (by rw [hzc1]; simp), hzcr.2 0 c zc hc (by rw [hzc1]; rfl)⟩
  cases hxr with
  | pv _ _ hpr =>
    cases hpr
    rcases hown.2 with ⟨hr, hz0⟩ | ⟨b, cap, cur, hr, hB, hheap, hle, hcap, hsize, htake⟩
    · -- an empty row
      have hes : es = [] := List.eq_nil_of_length_eq_zero hz0
      subst hes
      have hl0 : l = 0 := by simp at hh; omega
      have hh0 : h = 0 := by simpa using hh
      subst hl0 hh0
      have hrun : (execOp a.eval o).run P w = .ok (.value (.tuple #[])) w := by
        simp [execOp, hop, hxv, hr, resolve, invoke, builtin, Builtin.clear_, run_underlying (tab_sl htb hk), cut]
      unfold Oper.wp
      rw [hrun]
      simp only [Oper.upon]
      have hd' : a.put o.dst (.tuple #[]) = a := by rw [hd]; rfl
      rw [hd']
      refine hKK _ _ (k.go _ _ ⟨g1, g2, K, ρ, ⟨hf.below, hf.old, hf.new, hf.lt, hf.others, hf.pt, hf.away.set hi rfl, ?_, ?_⟩, he.keeps (.refl K w) fun m hm => ⟨by rw [HEnv.get_cons]; split <;> first | rfl | exact hm, rfl⟩⟩)
      · intro m hh' hm
        have hkk' : ∀ m, (H.get m).isSome = true → (HEnv.get ((i, .mrow e 1 (([] : List PV).take 0 ++ List.replicate (0 - 0) z ++ ([] : List PV).drop (0 + (0 - 0)))) :: H) m).isSome = true ∧ ρ m = ρ m := fun m hm => ⟨by rw [HEnv.get_cons]; split <;> first | rfl | exact hm, rfl⟩
        rw [HEnv.get_cons] at hm
        split at hm
        · rename_i e1; subst e1
          simp only [Option.some.injEq] at hm; subst hm
          exact ⟨xs, by simpa using hown, h0, by simpa using hcr, hnK⟩
        · exact (hf.heap.ok m hh' hm).keeps (.refl hf.lt) hf.lt hkk'
      · intro j' k' e1 e2 bb hjk hj hk' hlj hlk hbj hbk
        have f1 : ∀ (j : Nat) (hh : HE), HEnv.get ((i, .mrow e 1 (([] : List PV).take 0 ++ List.replicate (0 - 0) z ++ ([] : List PV).drop (0 + (0 - 0)))) :: H) j = some hh → hh.live = true → ∃ h0, H.get j = some h0 ∧ h0.live = true := by
          intro j hh hj hl
          rw [HEnv.get_cons] at hj
          split at hj
          · rename_i e'; subst e'; exact ⟨_, hi, rfl⟩
          · exact ⟨hh, hj, hl⟩
        obtain ⟨a1, a2, a3⟩ := f1 j' e1 hj hlj
        obtain ⟨b1, b2, b3⟩ := f1 k' e2 hk' hlk
        exact hf.heap.apart j' k' a1 b1 bb hjk a2 b2 a3 b3 hbj hbk
    · obtain ⟨arr, harr⟩ : ∃ arr, arr = (cur.toList.take l ++ List.replicate (h - l) zc ++ cur.toList.drop (l + (List.replicate (h - l) zc).length)).toArray := ⟨_, rfl⟩
      obtain ⟨hfs2, hlat⟩ := FS.splice hf hi hr hheap hrep (by simp) (by rw [List.length_replicate]; omega) harr
      rw [List.length_replicate] at hfs2
      have hst := run_storeCells_at P b l e (List.replicate (h - l) zc) 0 cur w hheap (by simp; omega) (fun v hv => by rw [List.eq_of_mem_replicate hv]; exact hzo zc (by rw [hzc1]; simp))
      simp only [Nat.add_zero] at hst
      rw [← harr] at hst
      have hzcells : (Builtin.zeroCells zv.cells (h - l)).toList = List.replicate (h - l) zc := by
        rw [hzc1]
        simp [Builtin.zeroCells]
        apply List.ext_getElem
        · simp
        · intro m h1 h2
          simp [Nat.mod_one]
      have hrun : (execOp a.eval o).run P w = .ok (.value (.tuple #[])) (w.setRow b arr) := by
        by_cases hz0 : h - l = 0
        · have harr2 : arr = cur := by rw [harr, hz0]; simp
          have hset : w.setRow b cur = w := setRow_self w b cur e (0, 0) hheap
          rw [harr2, hset]
          simp [execOp, hop, hxv, hr, resolve, invoke, builtin, Builtin.clear_, run_underlying (tab_sl htb hk), cut, hz0]
        · obtain ⟨m, hm⟩ : ∃ m, h - l = m + 1 := ⟨h - l - 1, by omega⟩
          rw [hm] at hst hzcells
          simp [execOp, hop, hxv, hr, resolve, invoke, builtin, Builtin.clear_, run_underlying (tab_sl htb hk), cut, hm, hzi, hzcells, hst]
      unfold Oper.wp
      rw [hrun]
      simp only [Oper.upon]
      have hd' : a.put o.dst (.tuple #[]) = a := by rw [hd]; rfl
      rw [hd']
      refine hKK _ _ (k.go _ _ ⟨g1, g2, K, ρ, hfs2, he.keeps hlat fun m hm => ⟨by rw [HEnv.get_cons]; split <;> first | rfl | exact hm, rfl⟩⟩)

/-- copy, into a part that is long enough. -/
theorem ao_mcopy (htb : TabOK P tb) {t t2 e d : Nat} {x y : Operand} {i j l h : Nat} {u : Value} {es xs : List PV} {full : Bool} (hg : guardE ops env o = some true) (hop : o.op = .call { callee := .builtin .copy, args := #[x, y], argTypes := #[t, t2] }) (hk : tb.k t = .sl e)
    (hx : env.val x = some (.pv (.base (cut 1 u l h)))) (hj : H.get j = some (.pin (.own i) u)) (hi : H.get i = some (.mrow e 1 es)) (hy : env.pv H y = some (.slc 1 xs full)) (hke : tb.known e = true) (hs1 : tb.size e = 1) (hl : l < es.length) (hfit : l + xs.length ≤ h) (hh : h ≤ es.length) (hd : o.dst = some d) (ht : Nat.blt d n = true)
    (k : AO P n g ops.toArray rest ((d, .pv (.base (.int .i64 (xs.length : Nat)))) :: env) ((i, .mrow e 1 (es.take l ++ xs ++ es.drop (l + xs.length))) :: H) Q) : AO P n g ops.toArray (o :: rest) env H Q := by
  refine ⟨fun a w hinv => ?_⟩
  have hw := wanted_of hinv hg
  obtain ⟨g1, g2, K, ρ, hf, he⟩ := hinv
  refine wpList_step fun KK hKK => ?_
  rw [if_pos hw]
  have hxr := val_rel he hx
  have hyr := opE_pv (a := a) hf (x := y) (fun av hh => val_rel he hh) hy
  generalize hxv : a.eval x = xv at hxr
  generalize hyv : a.eval y = yv at hyr
  have hu : u = ρ i := by
    have h9 : ARel K w ρ H (.own i) u := hf.heap.ok j _ hj
    generalize hru : ρ i = ri
    cases h9 with
    | own _ _ => exact hru
  subst hu
  obtain ⟨zs, hown, h0, hcr, hnK⟩ := hf.heap.ok i _ hi
  have hsz : (P.info? e).map (·.size) = some 1 := by
    have hko : tb.k e ≠ .oth := by intro h; simp [Tab.known, h] at hke
    have hs := run_sizeOf (P := P) htb hko w
    rw [hs1] at hs
    unfold sizeOf typeInfo at hs
    cases hq : P.info? e with
    | none => simp [hq, Result.andThen] at hs
    | some q => simp [hq, Result.andThen] at hs; simp [hs]
  obtain ⟨news, n1, n2, n3, n4, n5⟩ := slc_flat hyr
  rw [Nat.mul_one] at n1
  cases hxr with
  | pv _ _ hpr =>
    cases hpr
    rcases hown.2 with ⟨hr, hz0⟩ | ⟨b, cap, cur, hr, hB, hheap, hle, hcap, hsize, htake⟩
    · omega
    · obtain ⟨arr, harr⟩ : ∃ arr, arr = (cur.toList.take l ++ news ++ cur.toList.drop (l + news.length)).toArray := ⟨_, rfl⟩
      obtain ⟨hfs2, hlat⟩ := FS.splice hf hi hr hheap n4 n1 (by omega) harr
      have hcut : cut 1 (ρ i) l h = .slice (some ⟨b, l, none⟩) (h - l) (cap - l) := by rw [hr]; simp [cut]
      have hrun : (execOp a.eval o).run P w = .ok (.value (.int .i64 (xs.length : Nat))) (w.setRow b arr) := by
        by_cases hx0 : xs.length = 0
        · have hn0 : news = [] := List.eq_nil_of_length_eq_zero (by omega)
          have harr2 : arr = cur := by rw [harr, hn0]; simp
          have hset : w.setRow b cur = w := setRow_self w b cur e (0, 0) hheap
          rw [harr2, hset]
          rcases n2 with ⟨rfl, _⟩ | ⟨ad, cc, rfl, _⟩
          · have h1 := run_copy_none (P := P) w t t2 o.type e (some ⟨b, l, none⟩) none (h - l) (cap - l) 0 0 (tab_sl htb hk) hsz (by simp)
            simp [execOp, hop, hxv, hyv, hcut, resolve, invoke, builtin, h1, hx0, goInt]
          · have h1 := run_copy_none (P := P) w t t2 o.type e (some ⟨b, l, none⟩) (some ad) (h - l) (cap - l) xs.length cc (tab_sl htb hk) hsz (by rw [hx0]; simp)
            rw [hx0] at h1
            simp [execOp, hop, hxv, hyv, hcut, resolve, invoke, builtin, h1, hx0, goInt]
        · rcases n2 with ⟨_, hz⟩ | ⟨ad, cc, rfl, hcell, _⟩
          · omega
          · have h1 := run_copy_row (P := P) w t t2 o.type e b l (h - l) (cap - l) ad xs.length cc cur e news (tab_sl htb hk) hsz hheap (by rw [n1]; exact (Nat.min_eq_left (by omega)).symm) hcell (by rw [n1]; omega) n3
            rw [← harr] at h1
            simp [execOp, hop, hxv, hyv, hcut, resolve, invoke, builtin, h1, n1, goInt]
      unfold Oper.wp
      rw [hrun]
      simp only [Oper.upon]
      refine hKK _ _ (k.go _ _ ⟨put_size g1, put_defers g2, K, ρ, hfs2, ?_⟩)
      rw [hd]
      exact env_put g1 ht (he.keeps hlat fun m hm => ⟨by rw [HEnv.get_cons]; split <;> first | rfl | exact hm, rfl⟩) (.pv _ _ (.base _ rfl))
/-- make, of a length of any kind of number. -/
theorem ao_makeK (htb : TabOK P tb) {ty e d m : Nat} {x y : Operand} {sz : Nat} {z : PV} {mi : Int} {kl kc : IntKind} (i : Nat) (hg : guardE ops env o = some true) (hop : o.op = .makeSlice ty x y) (hk : tb.k ty = .sl e) (hx : env.pv H x = some (.base (.int kl mi))) (hy : env.pv H y = some (.base (.int kc mi))) (hmi : mi = ((m : Nat) : Int))
    (hz : (match tb.zero e with | some v => zeroPV v | none => none) = some z) (hzz : (match tb.get e with | some ti => (match ti.zero with | some zv => ti.size == sz && zv.cells.size == sz && Nat.blt 0 sz | none => false) | none => false) = true)
    (hb : (match tb.get e with | some ti => ti.bytes | none => 0) * m ≤ 281474976710656) (hm : m ≤ maxLen) (hi : H.get i = none) (hd : o.dst = some d) (ht : Nat.blt d n = true)
    (h : AO P n g ops.toArray rest ((d, .own i) :: env) ((i, .mrow e sz (List.replicate m z)) :: H) Q) : AO P n g ops.toArray (o :: rest) env H Q := by
  refine ⟨fun a w hinv => ?_⟩
  have hw := wanted_of hinv hg
  obtain ⟨h1, h2, K, ρ, hf, he⟩ := hinv
  refine wpList_step fun KK hKK => ?_
  rw [if_pos hw]
  subst hmi
  cases hti : tb.get e with
  | none => simp [hti] at hzz
  | some ti =>
    cases hzv : ti.zero with
    | none => simp [hti, hzv] at hzz
    | some zv =>
      simp only [hti, hzv, Bool.and_eq_true, beq_iff_eq] at hzz hb
      obtain ⟨⟨z1, z2⟩, z3⟩ := hzz
      have hsz : 0 < sz := Nat.le_of_ble_eq_true z3
      obtain ⟨tin, q1, q2, q3, q4, _⟩ := tab_info htb hti
      have hzp : zeroPV zv = some z := by
        have : tb.zero e = some zv := by unfold Tab.zero; rw [hti]; exact hzv
        rw [this] at hz; exact hz
      have hxr := opE_pv (a := a) hf (x := x) (fun av hh => val_rel he hh) hx
      have hyr := opE_pv (a := a) hf (x := y) (fun av hh => val_rel he hh) hy
      generalize hxv : a.eval x = xv at hxr
      generalize hyv : a.eval y = yv at hyr
      cases hxr; cases hyr
      obtain ⟨w', r1, r2, r3⟩ := run_make_full w g.w0.heap.size ty e tin zv sz (tab_sl htb hk) q1 (by rw [q4]; exact hzv) (by omega) kl kc m (by rw [q3]; exact hb) hm hf.below.size
      have hrun : (execOp a.eval o).run P w = .ok (.value (.slice (some ⟨w.heap.size, 0, none⟩) m m)) w' := by
        simp [execOp, hop, hxv, hyv, r1]
      unfold Oper.wp
      rw [hrun]
      simp only [Oper.upon]
      have hev : Evo K K w w' := ⟨⟨r3.os, r3.tape, r3.output, r3.size, fun k hk => r3.block k hk (by simp)⟩, fun _ _ h => h, fun _ _ h => .inl h, fun b o h => Nat.lt_of_lt_of_le (hf.lt b o h) r3.size⟩
      obtain ⟨hzr, hznt⟩ := zeroPV_rel (K := K) (w := w') hzp
      have hzc := cells_rel hzr
      have hzo := cells_one hzr hznt
      have hzl : zv.cells.toList.length = sz := by simpa using z2
      refine hKK _ _ (h.go _ _ ⟨put_size h1, put_defers h2, K, fun j => if j = i then .slice (some ⟨w.heap.size, 0, none⟩) m m else ρ j, hf.fresh hev hi ⟨(madeCells zv.cells (m * sz)).toList, by rw [List.length_replicate]; exact r2, hsz, ?_, ?_⟩ (by simp [blockOf]), ?_⟩)
      · intro i1 e1 he1
        have hi1 : i1 < m := by have := (List.getElem?_eq_some_iff.1 he1).1; simpa using this
        have e2 : e1 = z := by rw [List.getElem?_replicate, if_pos hi1] at he1; simpa using he1.symm
        subst e2
        have hl : e1.cells.length = sz := by rw [← hzl, hzc.1]
        refine ⟨hl, fun k c' hc' => ?_⟩
        have hk : k < sz := by rw [← hl]; exact (List.getElem?_eq_some_iff.1 hc').1
        have hkz : k < zv.cells.size := by omega
        have hu : zv.cells.toList[k]? = some zv.cells[k] := by simp [hkz]
        refine ⟨zv.cells[k], ?_, hzo _ (List.mem_of_getElem? hu), hzc.2 k c' _ hc' hu⟩
        have hlt : i1 * sz + k < m * sz := by
          have : i1 * sz + sz ≤ m * sz := by rw [← Nat.succ_mul]; exact Nat.mul_le_mul_right _ hi1
          omega
        have hmod : (i1 * sz + k) % zv.cells.size = k := by rw [z2, Nat.add_comm, Nat.add_mul_mod_self_right]; exact Nat.mod_eq_of_lt hk
        simp [madeCells, hlt, hmod, hkz]
      · intro b hb o ho
        simp [Value.ownBlock] at hb
        subst hb
        have := hf.lt _ _ ho
        omega
      · rw [hd]
        refine env_put h1 ht (he.keeps (hev.later hf.lt) (fresh_keeps hi _ _)) ?_
        have := ARel.own (K := K) (w := w') (ρ := fun j => if j = i then .slice (some ⟨w.heap.size, 0, none⟩) m m else ρ j) (H := (i, HE.mrow e sz (List.replicate m z)) :: H) i (by simp [HEnv.get_cons])
        simpa using this

/-- A structure all of whose parts are plain is plain. -/
theorem ao_aggpv {l : List Oper} (t : Nat) {cs : List AV} (ps : List PV) (ht : env.get t = some (.agg cs)) (hc : cs = ps.map .pv) (k : AO P n g ops.toArray l ((t, .pv (.agg ps)) :: env) H Q) : AO P n g ops.toArray l env H Q := by
  refine ⟨fun a w hinv => k.go a w ?_⟩
  obtain ⟨h1, h2, K, ρ, hf, he⟩ := hinv
  refine ⟨h1, h2, K, ρ, hf, fun t' av hg => ?_⟩
  rw [Env.get_cons] at hg
  split at hg
  · rename_i e; subst e
    simp only [Option.some.injEq] at hg; subst hg
    obtain ⟨v, v1, v2⟩ := he t _ ht
    refine ⟨v, v1, ?_⟩
    subst hc
    cases v2 with
    | agg _ vs a1 a2 a3 =>
      refine .pv _ _ (.agg ps vs (by simpa using a1) a2 fun k c v hk hv => ?_)
      have := a3 k (.pv c) v (by rw [List.getElem?_map, hk]; rfl) hv
      cases this with
      | pv _ _ hp => exact hp
  · exact he t' av hg
end
end Go.Cg
namespace Go.Cg
open Go.Proofs

/-! heads and types: both sides -/
abbrev u64 (n : Int) : PV := .base (.int .u64 n)
def andU (k : IntKind) (a b : Int) : Int := k.wrap ((BitVec.ofInt k.bits a &&& BitVec.ofInt k.bits b).toNat : Int)
def orU (a b : Int) : Int := IntKind.u64.wrap ((BitVec.ofInt IntKind.u64.bits a ||| BitVec.ofInt IntKind.u64.bits b).toNat : Int)
def headP (t : Ty) : Int := orU (orU (IntKind.u64.wrap (andU .i64 t.kind 15)) (IntKind.u64.wrap (IntKind.u64.wrap (andU .i64 t.index 1023) * 2 ^ (min (4 : Int).toNat IntKind.u64.bits)))) (IntKind.u64.wrap (IntKind.u64.wrap (andU .i64 t.dims 15) * 2 ^ (min (14 : Int).toNat IntKind.u64.bits)))
set_option maxHeartbeats 1000000 in
theorem Head_call (t : Ty) : ACall Tryz.prog 53 [tyPV t] (u64 (headP t)) := by
  refine acall_intro tbOK Tryz.func53 rfl (by kernel_rfl) Tryz.ntmps53 (by simp) _ rfl (fun hw gB hgB => ?_)
  repeat' (first | refine ao_q rfl (q_shl rfl rfl rfl (by decide)) rfl rfl ?_ | refine sA ?_ | refine sC (fun _ => ?_) (fun _ => ?_) | fail)
  exact retq rfl rfl
def typeP (h : Int) : Ty := ⟨IntKind.i64.wrap (andU .u64 h 15), IntKind.i64.wrap (andU .u64 (h.fdiv (2 ^ (min (4 : Int).toNat IntKind.u64.bits))) 1023), IntKind.i64.wrap (andU .u64 (h.fdiv (2 ^ (min (14 : Int).toNat IntKind.u64.bits))) 15), false⟩
set_option maxHeartbeats 1000000 in
theorem Type_call (h : Int) : ACall Tryz.prog 52 [u64 h] (tyPV (typeP h)) := by
  refine acall_intro tbOK Tryz.func52 rfl (by kernel_rfl) Tryz.ntmps52 (by simp) _ rfl (fun hw gB hgB => ?_)
  repeat' (first | refine ao_q rfl (q_shr rfl rfl rfl (by decide)) rfl rfl ?_ | refine sA ?_ | refine sC (fun _ => ?_) (fun _ => ?_) | fail)
  exact retq rfl rfl
/-! the memory that is not there -/
abbrev nilP : PV := .base (.pointer none)
set_option maxHeartbeats 1000000 in
theorem FaultN_call (k : Int) : ACall Tryz.prog 57 [nilP, pi k] (u64 0) := by
  refine acall_intro tbOK Tryz.func57 rfl (by kernel_rfl) Tryz.ntmps57 (by simp) _ rfl (fun hw gB hgB => ?_)
  repeat' (first | refine ao_q rfl (q_isnil (b := true) rfl Tryz.underlying70 rfl rfl) rfl rfl ?_ | refine sA ?_ | refine sC (fun _ => ?_) (fun _ => ?_) | fail)
  exact retq rfl rfl
set_option maxHeartbeats 1000000 in
theorem GetN_call (k : Int) : ACall Tryz.prog 95 [nilP, u64 k] (u64 0) := by
  refine acall_intro tbOK Tryz.func95 rfl (by kernel_rfl) Tryz.ntmps95 (by simp) _ rfl (fun hw gB hgB => ?_)
  repeat' (first | refine ao_q rfl (q_isnil (b := true) rfl Tryz.underlying70 rfl rfl) rfl rfl ?_ | refine sA ?_ | refine sC (fun _ => ?_) (fun _ => ?_) | fail)
  exact retq rfl rfl
set_option maxHeartbeats 1000000 in
theorem FramesN_call : ACall Tryz.prog 59 [nilP] (u64 0) := by
  refine acall_intro tbOK Tryz.func59 rfl (by kernel_rfl) Tryz.ntmps59 (by simp) _ rfl (fun hw gB hgB => ?_)
  repeat' (first | refine ao_q rfl (q_isnil (b := true) rfl Tryz.underlying70 rfl rfl) rfl rfl ?_ | refine sA ?_ | refine sC (fun _ => ?_) (fun _ => ?_) | fail)
  exact retq rfl rfl
set_option maxHeartbeats 1000000 in
theorem UsedN_call : ACall Tryz.prog 50 [nilP] (pi 0) := by
  refine acall_intro tbOK Tryz.func50 rfl (by kernel_rfl) Tryz.ntmps50 (by simp) _ rfl (fun hw gB hgB => ?_)
  repeat' (first | refine ao_q rfl (q_isnil (b := true) rfl Tryz.underlying70 rfl rfl) rfl rfl ?_ | refine sA ?_ | refine sC (fun _ => ?_) (fun _ => ?_) | fail)
  exact retq rfl rfl
set_option maxHeartbeats 1000000 in
theorem AllN_call : ACall Tryz.prog 60 [nilP] (.base (.slice none 0 0)) := by
  refine acall_intro tbOK Tryz.func60 rfl (by kernel_rfl) Tryz.ntmps60 (by simp) _ rfl (fun hw gB hgB => ?_)
  repeat' (first | refine ao_q rfl (q_isnil (b := true) rfl Tryz.underlying70 rfl rfl) rfl rfl ?_ | refine sA ?_ | refine sC (fun _ => ?_) (fun _ => ?_) | fail)
  exact retq rfl rfl
set_option maxHeartbeats 1000000 in
theorem ObjectN_call (t : Int) : ACall Tryz.prog 99 [nilP, pi t] (u64 0) := by
  refine acall_intro tbOK Tryz.func99 rfl (by kernel_rfl) Tryz.ntmps99 (by simp) _ rfl (fun hw gB hgB => ?_)
  repeat' (first | refine ao_q rfl (q_isnil (b := true) rfl Tryz.underlying70 rfl rfl) rfl rfl ?_ | refine sA ?_ | refine sC (fun _ => ?_) (fun _ => ?_) | fail)
  exact retq rfl rfl
set_option maxHeartbeats 1000000 in
theorem ArrayN_call (t : Ty) (n : Int) : ACall Tryz.prog 51 [nilP, tyPV t, pi n] (u64 0) := by
  refine acall_intro tbOK Tryz.func51 rfl (by kernel_rfl) Tryz.ntmps51 (by simp) _ rfl (fun hw gB hgB => ?_)
  repeat' (first | refine ao_q rfl (q_isnil (b := true) rfl Tryz.underlying70 rfl rfl) rfl rfl ?_ | refine sA ?_ | refine sC (fun _ => ?_) (fun _ => ?_) | fail)
  exact retq rfl rfl
set_option maxHeartbeats 1000000 in
theorem BoxN_call (t : Ty) (l : List PV) : ACall Tryz.prog 100 [nilP, tyPV t, .slc 1 l false] (u64 0) := by
  refine acall_intro tbOK Tryz.func100 rfl (by kernel_rfl) Tryz.ntmps100 (by simp) _ rfl (fun hw gB hgB => ?_)
  repeat' (first | refine ao_q rfl (q_isnil (b := true) rfl Tryz.underlying70 rfl rfl) rfl rfl ?_ | refine sA ?_ | refine sC (fun _ => ?_) (fun _ => ?_) | fail)
  all_goals exact retq rfl rfl
set_option maxHeartbeats 1000000 in
theorem DelegateN_call (t a n : Int) : ACall Tryz.prog 101 [nilP, pi t, u64 a, pi n] (u64 0) := by
  refine acall_intro tbOK Tryz.func101 rfl (by kernel_rfl) Tryz.ntmps101 (by simp) _ rfl (fun hw gB hgB => ?_)
  repeat' (first | refine ao_q rfl (q_isnil (b := true) rfl Tryz.underlying70 rfl rfl) rfl rfl ?_ | refine sA ?_ | refine sC (fun _ => ?_) (fun _ => ?_) | fail)
  exact retq rfl rfl
end Go.Cg
namespace Go.Cg
open Go.Proofs

/-! a memory of an image without anything: reading it -/
def g0 : Img := ⟨[], [], [], -1⟩
abbrev nilS : PV := .base (.slice none 0 0)
abbrev memPV (ws : List Int) (mv : Value) (fr used : Int) : PV := .agg [.slc 1 (ws.map u64) false, nilS, nilS, .base mv, u64 1, u64 8, u64 fr, pi used]
theorem wrapU_in {a : Int} (h1 : 0 ≤ a) (h2 : a ≤ 18446744073709551615) : IntKind.u64.wrap a = a := by
  unfold IntKind.wrap
  simp only [IntKind.bits, IntKind.signed]
  simp
  omega
set_option maxHeartbeats 1000000 in
theorem Fault_call (ws : List Int) (mv : Value) (fr used k : Int) (h1 : 1 ≤ k) (h7 : k ≤ 7) : ACall Tryz.prog 57 [.ptr (memPV ws mv fr used) 0, pi k] (u64 k) := by
  refine acall_intro tbOK Tryz.func57 rfl (by kernel_rfl) Tryz.ntmps57 (by simp) _ rfl (fun hw gB hgB => ?_)
  have hd1 : decide (k < 1) = false := decide_eq_false (by omega)
  have hd2 : decide (7 < k) = false := decide_eq_false (by omega)
  repeat' (first | refine ao_q rfl (q_isnil (b := false) rfl Tryz.underlying70 rfl rfl) rfl rfl ?_ | refine sK ?_ | refine sC (fun _ => ?_) (fun _ => ?_) | fail)
  exact retq rfl (by
    simp only [retPV]
    rw [wrapU_in (a := k) (by omega) (by omega), wrapU_in (a := 1 + k) (by omega) (by omega), wrapU_in (by omega) (by omega)]
    congr 2; omega)
set_option maxHeartbeats 1000000 in
theorem Frames_call (ws : List Int) (mv : Value) (fr used : Int) : ACall Tryz.prog 59 [.ptr (memPV ws mv fr used) 0] (u64 fr) := by
  refine acall_intro tbOK Tryz.func59 rfl (by kernel_rfl) Tryz.ntmps59 (by simp) _ rfl (fun hw gB hgB => ?_)
  repeat' (first | refine ao_q rfl (q_isnil (b := false) rfl Tryz.underlying70 rfl rfl) rfl rfl ?_ | refine sA ?_ | refine sC (fun _ => ?_) (fun _ => ?_) | fail)
  exact retq rfl rfl
set_option maxHeartbeats 1000000 in
theorem Used_call (ws : List Int) (mv : Value) (fr used : Int) : ACall Tryz.prog 50 [.ptr (memPV ws mv fr used) 0] (pi used) := by
  refine acall_intro tbOK Tryz.func50 rfl (by kernel_rfl) Tryz.ntmps50 (by simp) _ rfl (fun hw gB hgB => ?_)
  repeat' (first | refine ao_q rfl (q_isnil (b := false) rfl Tryz.underlying70 rfl rfl) rfl rfl ?_ | refine sA ?_ | refine sC (fun _ => ?_) (fun _ => ?_) | fail)
  exact retq rfl rfl
set_option maxHeartbeats 1000000 in
theorem Get_call (ws : List Int) (mv : Value) (fr used : Int) (i : Nat) (h : i < ws.length) (hl : ws.length ≤ 100000) : ACall Tryz.prog 95 [.ptr (memPV ws mv fr used) 0, u64 i] (u64 ws[i]) := by
  refine acall_intro tbOK Tryz.func95 rfl (by kernel_rfl) Tryz.ntmps95 (by simp) _ rfl (fun hw gB hgB => ?_)
  have hd : decide (IntKind.u64.wrap (((ws.map u64).length : Nat) : Int) ≤ (i : Int)) = false := decide_eq_false (by rw [List.length_map, wrapU_in (by omega) (by omega)]; omega)
  have he : (ws.map u64)[i]? = some (u64 ws[i]) := by simp [h]
  repeat' (first | refine ao_q rfl (q_isnil (b := false) rfl Tryz.underlying70 rfl rfl) rfl rfl ?_ | (refine shX ?_; first | refine qX he ?_) | refine sK ?_ | refine sC (fun _ => ?_) (fun _ => ?_) | fail)
  exact retq rfl rfl
set_option maxHeartbeats 1000000 in
theorem size_call (ws : List Int) (mv : Value) (fr used k : Int) (hk : k = 2 ∨ k = 3) : ACall Tryz.prog 96 [.ptr (memPV ws mv fr used) 0, tyPV ⟨k, 0, 0, false⟩] (pi 1) := by
  rcases hk with rfl | rfl
  · refine acall_intro tbOK Tryz.func96 rfl (by kernel_rfl) Tryz.ntmps96 (by simp) _ rfl (fun hw gB hgB => ?_)
    repeat' (first | refine sA ?_ | refine sC (fun _ => ?_) (fun _ => ?_) | fail)
    all_goals exact retq rfl rfl
  · refine acall_intro tbOK Tryz.func96 rfl (by kernel_rfl) Tryz.ntmps96 (by simp) _ rfl (fun hw gB hgB => ?_)
    repeat' (first | refine sA ?_ | refine sC (fun _ => ?_) (fun _ => ?_) | fail)
    all_goals exact retq rfl rfl
end Go.Cg
namespace Go.Cg
open Go.Proofs

/-! a new memory -/
abbrev memH (ws : List Int) (fr used : Int) : HEnv := [(0, .cell (.agg [.own 7, .pv nilS, .pv nilS, .own 8, .pv (u64 1), .pv (u64 8), .pv (u64 fr), .pv (pi used)])), (7, .mrow 72 1 (ws.map u64)), (8, .obj (MapSet Tryz.prog 48 3 []))]
theorem check0 : check12 g0 = (0, 0) := by decide +kernel
theorem stat0 : staticsA g0 = [] := by decide +kernel
theorem ok0 : OkA g0 := fun m hm => by cases hm
def ws0 (w : Int) : Nat → List Int
  | 0 => List.replicate (16392 + w).toNat 0
  | k + 1 => (ws0 w k).set (k + 1) (headP ⟨7, ((k + 1 : Nat) : Int), 0, false⟩)
theorem ws0_len (w : Int) : ∀ k, (ws0 w k).length = (16392 + w).toNat
  | 0 => by simp [ws0]
  | k + 1 => by rw [ws0, List.length_set, ws0_len w k]
set_option maxHeartbeats 2000000 in
theorem New_call (w : Int) (h0 : 0 ≤ w) (h1 : w ≤ 4096) : ACallM Tryz.prog 49 [.pv (imgPV g0), .pv (pi w)] [] (.box 0 0) (memH (ws0 w 7) (8 + w) 0) := by
  have c0 := CheckL_call g0 ok0
  rw [check0] at c0
  have c1 := StaticsA_call g0 ok0
  rw [stat0] at c1
  have hd1 : decide (w < 0) = false := decide_eq_false (by omega)
  have hd2 : decide (4096 < w) = false := decide_eq_false (by omega)
  obtain ⟨N, hN⟩ : ∃ N, N = (16392 + w).toNat := ⟨_, rfl⟩
  refine acallM_intro tbOK Tryz.func49 rfl (by kernel_rfl) Tryz.ntmps49 (by simp) _ rfl (fun gB hw1 => ?_)
  repeat' (first | (refine shC ?_; first | refine qC c0 ?_) | refine sK ?_ | refine sC (fun _ => ?_) (fun _ => ?_) | fail)
  repeat' (first | refine ao_makeMap (kt := 48) (et := 3) 8 rfl rfl rfl rfl rfl ?_ | refine ao_q rfl (q_buildA tbOK rfl ⟨_, rfl⟩ rfl rfl rfl rfl rfl rfl) rfl rfl ?_ | (refine ao_sh_box ?_; first | refine ao_boxm 0 rfl rfl rfl rfl rfl rfl ?_) | refine sK ?_ | refine sC (fun _ => ?_) (fun _ => ?_) | fail)
  refine aw_loop (fun _ : Nat => [(1, .pv (pi w)), (2, .pv (.ptr (imgPV g0) 0)), (7, .box 0 0), (31, .pv (pi 0)), (32, .pv (pi 0))])
    (fun _ => [(0, .cell (.agg [.pv nilS, .pv nilS, .pv nilS, .own 8, .pv (u64 0), .pv (u64 0), .pv (u64 0), .pv (pi 0)])), (8, .obj (MapSet Tryz.prog 48 3 []))]) (fun k => k = 0) (fun k => k) 0 rfl (tS) ⟨by repeat (first | exact hsub_nil | refine hsub_cons rfl ?_), rfl⟩ ?_
  rintro k rfl
  obtain ⟨E1, hE1⟩ : ∃ E, E = IntKind.u64.wrap (1 + IntKind.u64.wrap ((((([] : List Ty).map tyPV).length : Nat)) : Int)) := ⟨_, rfl⟩
  have e1 : E1 = 1 := by rw [hE1]; rfl
  obtain ⟨E2, hE2⟩ : ∃ E, E = IntKind.u64.wrap (E1 + 7) := ⟨_, rfl⟩
  have e2 : E2 = 8 := by rw [hE2, e1]; rfl
  obtain ⟨E3, hE3⟩ : ∃ E, E = IntKind.u64.wrap (E2 + IntKind.u64.wrap w) := ⟨_, rfl⟩
  have e3 : E3 = 8 + w := by rw [hE3, e2, wrapU_in (a := w) (by omega) (by omega), wrapU_in (by omega) (by omega)]
  have hmi : IntKind.u64.wrap (E3 + 16384) = ((N : Nat) : Int) := by rw [e3, wrapU_in (by omega) (by omega)]; omega
  rw [hE3, hE2, hE1] at hmi
  repeat' (first | refine ao_makeK (m := N) (sz := 1) tbOK 7 rfl rfl rfl rfl rfl hmi rfl rfl (by show 8 * _ ≤ _; omega) (by simp [maxLen]; omega) rfl rfl rfl ?_ | (refine shC ?_; first | refine qC c1 ?_) | refine sK ?_ | refine sC (fun _ => ?_) (fun _ => ?_) | fail)
  refine aw_loop (fun j : Nat => [(7, .box 0 0), (10, .pv (pi ((j + 1 : Nat) : Int)))]) (fun j => memH (ws0 w j) (8 + w) 0) (fun j => j ≤ 7) (fun j => 7 - j) 0 (by omega) (tS)
    ⟨hsub_cons (show some (HE.cell (.agg [.own 7, .pv nilS, .pv nilS, .own 8, .pv (u64 (IntKind.u64.wrap (1 + IntKind.u64.wrap ((((([] : List Ty).map tyPV).length : Nat)) : Int)))), .pv (u64 (IntKind.u64.wrap (IntKind.u64.wrap (1 + IntKind.u64.wrap ((((([] : List Ty).map tyPV).length : Nat)) : Int)) + 7))), .pv (u64 (IntKind.u64.wrap (IntKind.u64.wrap (IntKind.u64.wrap (1 + IntKind.u64.wrap ((((([] : List Ty).map tyPV).length : Nat)) : Int)) + 7) + IntKind.u64.wrap w))), .pv (pi 0)])) = _ from by
        rw [← hE1, ← hE2, ← hE3, e3, e2, e1]) (hsub_m rfl (by rw [ws0, List.map_replicate, hN]) (hsub_cons rfl hsub_nil)), rfl⟩ ?_
  rintro j hj
  by_cases hlt : j < 7
  · have hl := ws0_len w j
    have hil : j + 1 < ((ws0 w j).map u64).length := by rw [List.length_map, hl]; omega
    have hpp : ((ws0 w j).map u64)[j + 1]? = some (u64 ((ws0 w j)[j + 1]'(by rw [hl]; omega))) := by rw [List.getElem?_map, List.getElem?_eq_getElem (by rw [hl]; omega)]; rfl
    repeat' (first | refine aw_draw_tailL 12 11 rfl (by kernel_rfl) (by kernel_rfl) (by kernel_rfl) (by kernel_rfl) (by kernel_rfl) ?_ | refine AD.step _ _ _ _ _ rfl (q_callO rfl (fun _ => rfl) (fun ρ => Fault_call (ws0 w j) (ρ 8) (8 + w) 0 ((j + 1 : Nat) : Int) (by omega) (by omega))) rfl rfl ?_ | (refine shC ?_; first | refine qC (Head_call ⟨7, ((j + 1 : Nat) : Int), 0, false⟩) ?_) | (refine shX ?_; first | refine ao_q rfl (q_mindex (k := j + 1) tbOK rfl rfl rfl rfl rfl rfl rfl rfl hil) rfl rfl ?_ | refine AD.step _ _ _ _ _ rfl (q_mindex (k := j + 1) tbOK rfl rfl rfl rfl rfl rfl rfl rfl hil) rfl rfl ?_) | (refine ao_sh_store ?_; first | refine ao_mstore (k := j + 1) (j := 0) tbOK rfl rfl rfl rfl rfl hpp rfl rfl rfl rfl rfl ?_) | refine sK ?_ | refine sC (fun _ => ?_) (fun _ => ?_) | fail)
    exact ⟨j + 1, hlt, tD, tSO, ⟨hsub_cons rfl (hsub_m rfl (by rw [ws0, List.map_set]) (hsub_cons rfl hsub_nil)), rfl⟩⟩
  · have hj2 : j = 7 := by omega
    subst hj2
    repeat' (first | refine sK ?_ | refine sC (fun _ => ?_) (fun _ => ?_) | fail)
    exact ⟨.inr rfl, .inr ⟨4, rfl, rfl, ⟨by repeat (first | exact hsub_nil | refine hsub_cons rfl ?_), rfl⟩⟩⟩
end Go.Cg
namespace Go.Cg
open Go.Proofs

/-! words are given out -/
def makeW (ws : List Int) (u : Nat) (hd : Int) (l : List Int) (z : Nat) : List Int :=
  let a := ws.set (8 + u) hd
  let b := a.take (9 + u) ++ l ++ a.drop (9 + u + l.length)
  b.take (9 + u + l.length) ++ List.replicate z 0 ++ b.drop (9 + u + l.length + z)
theorem makeW_len {ws : List Int} {u z : Nat} {hd : Int} {l : List Int} (h : 9 + u + l.length + z ≤ ws.length) : (makeW ws u hd l z).length = ws.length := by
  simp only [makeW, List.length_append, List.length_take, List.length_drop, List.length_set, List.length_replicate]; omega
abbrev lu (l : List Int) : PV := .slc 1 (l.map u64) true
theorem left_eq {w u : Nat} (hw : w ≤ 4096) (hu : u ≤ w) : IntKind.i64.wrap (IntKind.i64.wrap (IntKind.u64.wrap ((8 + (w : Int)) - 8)) - (u : Int)) = (w : Int) - u := by
  rw [wrapU_in (by omega) (by omega), wrap_in (a := 8 + (w : Int) - 8) (by omega) (by omega), wrap_in (by omega) (by omega)]; omega
theorem need_eq {l : List Int} {z : Nat} (hl : l.length ≤ 100) (hz : z ≤ 100000) : IntKind.i64.wrap (IntKind.i64.wrap (1 + (((l.map u64).length : Nat) : Int)) + (z : Int)) = 1 + (l.length : Int) + z := by
  rw [List.length_map, wrap_in (a := 1 + (l.length : Int)) (by omega) (by omega), wrap_in (by omega) (by omega)]
set_option maxHeartbeats 2000000 in
theorem makeNo_call (ws : List Int) (w u z : Nat) (t : Ty) (l : List Int) (hw : w ≤ 4096) (hu : u ≤ w) (hl : l.length ≤ 100) (hz : z ≤ 100000) (hno : w < u + 1 + l.length + z) (us : Nat → Value) :
    ACallM Tryz.prog 97 [.box 0 0, .pv (tyPV t), .pv (pi z), .pv (lu l)] (memH ws (8 + (w : Int)) u ++ pinB us [0]) (.pv (u64 0)) (memH ws (8 + (w : Int)) u ++ pinB us [0]) := by
  have hL := left_eq hw hu
  have hN := need_eq hl hz
  by_cases h1 : (w : Int) - u < z
  · have hd1 : decide (IntKind.i64.wrap (IntKind.i64.wrap (IntKind.u64.wrap ((8 + (w : Int)) - 8)) - (u : Int)) < (z : Int)) = true := decide_eq_true (by rw [hL]; exact h1)
    refine acallM_intro tbOK Tryz.func97 rfl (by kernel_rfl) Tryz.ntmps97 (by simp) _ rfl (fun gB hw1 => ?_)
    repeat' (first | refine sK ?_ | refine sC (fun _ => ?_) (fun _ => ?_) | fail)
    exact ⟨.inr rfl, .inl ⟨_, rfl, rfl, ⟨by repeat (first | exact hsub_nil | refine hsub_cons rfl ?_), rfl⟩⟩⟩
  · have hd1 : decide (IntKind.i64.wrap (IntKind.i64.wrap (IntKind.u64.wrap ((8 + (w : Int)) - 8)) - (u : Int)) < (z : Int)) = false := decide_eq_false (by rw [hL]; exact h1)
    have hd2 : decide (IntKind.i64.wrap (IntKind.i64.wrap (IntKind.u64.wrap ((8 + (w : Int)) - 8)) - (u : Int)) < IntKind.i64.wrap (IntKind.i64.wrap (1 + (((l.map u64).length : Nat) : Int)) + (z : Int))) = true := decide_eq_true (by rw [hL, hN]; omega)
    refine acallM_intro tbOK Tryz.func97 rfl (by kernel_rfl) Tryz.ntmps97 (by simp) _ rfl (fun gB hw1 => ?_)
    repeat' (first | refine sK ?_ | refine sC (fun _ => ?_) (fun _ => ?_) | fail)
    exact ⟨.inr rfl, .inl ⟨_, rfl, rfl, ⟨by repeat (first | exact hsub_nil | refine hsub_cons rfl ?_), rfl⟩⟩⟩
set_option maxHeartbeats 2000000 in
theorem make_call (ws : List Int) (w u z : Nat) (t : Ty) (l : List Int) (hw : w ≤ 4096) (hl : l.length ≤ 100) (hz : z ≤ 100000) (hyes : u + 1 + l.length + z ≤ w) (hws : ws.length = 16392 + w) (us : Nat → Value) :
    ACallM Tryz.prog 97 [.box 0 0, .pv (tyPV t), .pv (pi z), .pv (lu l)] (memH ws (8 + (w : Int)) u ++ pinB us [0]) (.pv (u64 ((8 + u : Nat) : Int))) (memH (makeW ws u (headP t) l z) (8 + (w : Int)) ((u + 1 + l.length + z : Nat) : Int) ++ pinB us [0]) := by
  have hL := left_eq hw (show u ≤ w by omega)
  have hN := need_eq hl hz
  have hd1 : decide (IntKind.i64.wrap (IntKind.i64.wrap (IntKind.u64.wrap ((8 + (w : Int)) - 8)) - (u : Int)) < (z : Int)) = false := decide_eq_false (by rw [hL]; omega)
  have hd2 : decide (IntKind.i64.wrap (IntKind.i64.wrap (IntKind.u64.wrap ((8 + (w : Int)) - 8)) - (u : Int)) < IntKind.i64.wrap (IntKind.i64.wrap (1 + (((l.map u64).length : Nat) : Int)) + (z : Int))) = false := decide_eq_false (by rw [hL, hN]; omega)
  have hA : IntKind.u64.wrap (8 + IntKind.u64.wrap (u : Int)) = ((8 + u : Nat) : Int) := by rw [wrapU_in (a := (u : Int)) (by omega) (by omega), wrapU_in (by omega) (by omega)]; omega
  have hB : IntKind.u64.wrap (IntKind.u64.wrap (8 + IntKind.u64.wrap (u : Int)) + 1) = ((9 + u : Nat) : Int) := by rw [hA, wrapU_in (by omega) (by omega)]; omega
  have hC : IntKind.u64.wrap (IntKind.u64.wrap (IntKind.u64.wrap (8 + IntKind.u64.wrap (u : Int)) + 1) + IntKind.u64.wrap (((l.map u64).length : Nat) : Int)) = ((9 + u + l.length : Nat) : Int) := by
    rw [hB, List.length_map, wrapU_in (a := (l.length : Int)) (by omega) (by omega), wrapU_in (by omega) (by omega)]; omega
  have hD : IntKind.u64.wrap (IntKind.u64.wrap (IntKind.u64.wrap (IntKind.u64.wrap (8 + IntKind.u64.wrap (u : Int)) + 1) + IntKind.u64.wrap (((l.map u64).length : Nat) : Int)) + IntKind.u64.wrap (z : Int)) = ((9 + u + l.length + z : Nat) : Int) := by
    rw [hC, wrapU_in (a := (z : Int)) (by omega) (by omega), wrapU_in (by omega) (by omega)]; omega
  have hB' : some (IntKind.u64.wrap (IntKind.u64.wrap (8 + IntKind.u64.wrap (u : Int)) + 1)) = some ((9 + u : Nat) : Int) := by rw [hB]
  have hC' : some (IntKind.u64.wrap (IntKind.u64.wrap (IntKind.u64.wrap (8 + IntKind.u64.wrap (u : Int)) + 1) + IntKind.u64.wrap (((l.map u64).length : Nat) : Int))) = some ((9 + u + l.length : Nat) : Int) := by rw [hC]
  have hD' : some (IntKind.u64.wrap (IntKind.u64.wrap (IntKind.u64.wrap (IntKind.u64.wrap (8 + IntKind.u64.wrap (u : Int)) + 1) + IntKind.u64.wrap (((l.map u64).length : Nat) : Int)) + IntKind.u64.wrap (z : Int))) = some ((9 + u + l.length + z : Nat) : Int) := by rw [hD]
  have hE : IntKind.i64.wrap ((u : Int) + IntKind.i64.wrap (IntKind.i64.wrap (1 + (((l.map u64).length : Nat) : Int)) + (z : Int))) = ((u + 1 + l.length + z : Nat) : Int) := by rw [hN, wrap_in (by omega) (by omega)]; omega
  have hil : 8 + u < (ws.map u64).length := by rw [List.length_map]; omega
  have hpp : (ws.map u64)[8 + u]? = some (u64 (ws[8 + u]'(by omega))) := by rw [List.getElem?_map, List.getElem?_eq_getElem (by omega)]; rfl
  refine acallM_intro tbOK Tryz.func97 rfl (by kernel_rfl) Tryz.ntmps97 (by simp) _ rfl (fun gB hw1 => ?_)
  repeat' (first | refine aw_draw_tailL 9 8 rfl (by kernel_rfl) (by kernel_rfl) (by kernel_rfl) (by kernel_rfl) (by kernel_rfl) ?_ | refine ao_mslice tbOK 7 20 rfl rfl rfl rfl rfl rfl rfl hB' rfl (by omega) (by simp only [List.length_set, List.length_map]; omega) (by omega) (by simp only [List.length_set, List.length_map]; omega) rfl rfl rfl (fun uu => ?_) | refine ao_mslice tbOK 7 21 rfl rfl rfl rfl rfl rfl rfl hC' hD' (by omega) (by omega) (by simp only [List.length_append, List.length_take, List.length_drop, List.length_set, List.length_map]; omega) (by simp only [List.length_append, List.length_take, List.length_drop, List.length_set, List.length_map]; omega) rfl rfl rfl (fun uu => ?_) | (refine shC ?_; first | refine qC (Head_call t) ?_) | (refine shX ?_; first | refine ao_q rfl (q_mindex (k := 8 + u) tbOK rfl rfl rfl rfl rfl rfl rfl hA hil) rfl rfl ?_ | refine AD.step _ _ _ _ _ rfl (q_mindex (k := 8 + u) tbOK rfl rfl rfl rfl rfl rfl rfl hA hil) rfl rfl ?_) | (refine ao_sh_store ?_; first | refine ao_mstore (k := 8 + u) (j := 0) tbOK rfl rfl rfl rfl rfl hpp rfl rfl rfl rfl rfl ?_) | (refine ao_sh_bi ?_; first | refine ao_mcopy (i := 7) (j := 20) tbOK rfl rfl rfl rfl rfl rfl rfl rfl rfl (by simp only [List.length_set, List.length_map]; omega) (by simp only [List.length_set, List.length_map]; omega) (by simp only [List.length_set, List.length_map]; omega) rfl rfl ?_ | refine ao_mclear (i := 7) (j := 21) (zv := .int .u64 0) (z := u64 0) tbOK rfl rfl rfl rfl rfl rfl (by omega) (by simp only [List.length_append, List.length_take, List.length_drop, List.length_set, List.length_map]; omega) rfl rfl rfl rfl ?_) | refine sK ?_ | refine sC (fun _ => ?_) (fun _ => ?_) | fail)
  refine ⟨.inr rfl, .inl ⟨_, rfl, ?_, ?_⟩⟩
  · show AV.pv _ = AV.pv (u64 (IntKind.u64.wrap (8 + IntKind.u64.wrap (u : Int))))
    rw [hA]
  · refine ⟨hsub_cons (show some (HE.cell (.agg [.own 7, .pv nilS, .pv nilS, .own 8, .pv (u64 1), .pv (u64 8), .pv (u64 (8 + (w : Int))), .pv (pi (IntKind.i64.wrap ((u : Int) + IntKind.i64.wrap (IntKind.i64.wrap (1 + (((l.map u64).length : Nat) : Int)) + (z : Int)))))])) = _ from by rw [hE]) (hsub_m rfl ?_ (by repeat (first | exact hsub_nil | refine hsub_cons rfl ?_))), rfl⟩
    have e1 : ((9 + u + l.length + z : Nat) : Int).toNat - ((9 + u + l.length : Nat) : Int).toNat = z := by omega
    rw [e1]
    simp only [makeW, List.map_append, List.map_take, List.map_drop, List.map_set, List.map_replicate, List.length_map, Int.toNat_natCast]
end Go.Cg
