/- A region that draws its order, whose operations only compute: one walk in the order of the text. -/
import Derived.Test.YtkbdoobcgifaaaaAppend
namespace Go.Cg
open Go.RowKit

def opTmps : List Operand → List Nat
  | [] => []
  | .tmp t :: xs => t :: opTmps xs
  | _ :: xs => opTmps xs

def readsOf (ops : List Oper) (o : Oper) : List Nat := opTmps o.op.operands.toList ++ (guardVar ops o).toList

def hasEdge (o : Oper) (i : Nat) : Bool := o.after.toList.any fun e => Region.binds .any e && e.on == i

def drawOk (ops l : List Oper) : Bool :=
  l.zipIdx.all fun x => x.1.dst.isSome && x.1.after.toList.all (fun e => !Region.binds .any e || decide (e.on < x.2)) &&
    (match x.1.op with | .select _ _ => false | _ => true) &&
    l.zipIdx.all fun y => (y.2 == x.2 || y.1.dst != x.1.dst) &&
      (match y.1.dst with
       | none => false
       | some t => !(readsOf ops x.1).contains t || (decide (y.2 < x.2) && hasEdge x.1 y.2) || (decide (x.2 < y.2) && hasEdge y.1 x.2))

/-- What comes behind all that is ahead of it, one by one. -/
def tailOk (ops : List Oper) (k : Nat) : Bool := (ops.zipIdx.drop k).all fun x => (List.range x.2).all (fun i => hasEdge x.1 i) && x.1.after.toList.all (fun e => !Region.binds .any e || decide (e.on < x.2))

/-- The walk of such a region. -/
inductive AD (P : Program) (n : Nat) (g : Base) (H : HEnv) (ops : List Oper) (Q : Env → Prop) : List Oper → Env → Prop where
  | nil (env : Env) : Q env → AD P n g H ops Q [] env
  | step (o : Oper) (rest : List Oper) (env : Env) (r : AV) (t : Nat) : guardE ops env o = some true → QStep P g H o env r → o.dst = some t → Nat.blt t n = true → AD P n g H ops Q rest ((t, r) :: env) → AD P n g H ops Q (o :: rest) env
  | skip (o : Oper) (rest : List Oper) (env : Env) (t : Nat) : guardE ops env o = some false → o.dst = some t → Nat.blt t n = true → AD P n g H ops Q rest ((t, .pv (.tup [])) :: env) → AD P n g H ops Q (o :: rest) env
  | case (l : List Oper) (env : Env) (t : Nat) (b : Bool) : env.get t = some (.pv (.base (.bool b))) → (b = true → AD P n g H ops Q l ((t, .pv (.base (.bool true))) :: env)) → (b = false → AD P n g H ops Q l ((t, .pv (.base (.bool false))) :: env)) → AD P n g H ops Q l env

/-- A script: of each operation what it comes to, and what is known ahead of it. -/
structure Script (P : Program) (n : Nat) (g : Base) (H : HEnv) (ops : List Oper) (l : List Oper) (env : Env) (Q : Env → Prop) where
  r : List AV
  e : List Env
  last : Env
  lenr : r.length = l.length
  lene : e.length = l.length
  ok : ∀ (j : Nat) (o : Oper) (rj : AV) (ej : Env), l[j]? = some o → r[j]? = some rj → e[j]? = some ej → ∃ t, o.dst = some t ∧ t < n ∧
    ((guardE ops ej o = some true ∧ QStep P g H o ej rj) ∨ (guardE ops ej o = some false ∧ rj = .pv (.tup [])))
  src : ∀ (j : Nat) (ej : Env), (e ++ [last])[j]? = some ej → ∀ (t : Nat) (av : AV), ej.get t = some av → (∃ i o ri, i < j ∧ l[i]? = some o ∧ o.dst = some t ∧ r[i]? = some ri ∧ Tells ri av ∧ (∀ i' o', i < i' → i' < j → l[i']? = some o' → o'.dst ≠ some t)) ∨
    ((∀ i o, i < j → l[i]? = some o → o.dst ≠ some t) ∧ ∃ av0, env.get t = some av0 ∧ Tells av0 av)
  fin : Q last

section
variable {P : Program} {n : Nat} {g : Base} {K : KK} {w : World} {ρ : Nat → Value} {H : HEnv} {env : Env} {a : Act} {ops l : List Oper} {Q : Env → Prop}


theorem script_of {l : List Oper} (h : AD P n g H ops Q l env) : Nonempty (Script P n g H ops l env Q) := by
  induction h with
  | nil env hq =>
    refine ⟨⟨[], [], env, rfl, rfl, by simp, ?_, hq⟩⟩
    intro j ej hj t av hav
    cases j with
    | zero => simp at hj; subst hj; exact .inr ⟨by simp, av, hav, .refl _⟩
    | succ j => simp at hj
  | step o rest env r t hg hq hd ht _ ih =>
    obtain ⟨s⟩ := ih
    refine ⟨⟨r :: s.r, env :: s.e, s.last, by simp [s.lenr], by simp [s.lene], ?_, ?_, s.fin⟩⟩
    · intro j o' rj ej ho hr he
      cases j with
      | zero => simp at ho hr he; subst ho hr he; exact ⟨t, hd, Nat.le_of_ble_eq_true ht, .inl ⟨hg, hq⟩⟩
      | succ j => simp at ho hr he; exact s.ok j o' rj ej ho hr he
    · intro j ej hj t' av hav
      cases j with
      | zero => simp at hj; subst hj; exact .inr ⟨by simp, av, hav, .refl _⟩
      | succ j =>
        have hj' : (s.e ++ [s.last])[j]? = some ej := by simpa using hj
        rcases s.src j ej hj' t' av hav with ⟨i, o', ri, h1, h2, h3, h4, h5, h6⟩ | ⟨h1, av0, h2, h3⟩
        · refine .inl ⟨i + 1, o', ri, by omega, by simpa using h2, h3, by simpa using h4, h5, fun i' o'' hi hi' ho => ?_⟩
          cases i' with
          | zero => omega
          | succ i' => exact h6 i' o'' (by omega) (by omega) (by simpa using ho)
        · simp only [Env.get_nil, Env.get_cons] at h2
          split at h2
          · rename_i e; subst e
            simp only [Option.some.injEq] at h2; subst h2
            refine .inl ⟨0, o, r, by omega, rfl, hd, rfl, h3, fun i' o'' hi hi' ho => ?_⟩
            cases i' with
            | zero => omega
            | succ i' => exact h1 i' o'' (by omega) (by simpa using ho)
          · rename_i hne
            refine .inr ⟨fun i o' hi ho => ?_, av0, h2, h3⟩
            cases i with
            | zero => simp at ho; subst ho; rw [hd]; simpa using hne
            | succ i => exact h1 i o' (by omega) (by simpa using ho)
  | skip o rest env t hg hd ht _ ih =>
    obtain ⟨s⟩ := ih
    refine ⟨⟨.pv (.tup []) :: s.r, env :: s.e, s.last, by simp [s.lenr], by simp [s.lene], ?_, ?_, s.fin⟩⟩
    · intro j o' rj ej ho hr he
      cases j with
      | zero => simp at ho hr he; subst ho hr he; exact ⟨t, hd, Nat.le_of_ble_eq_true ht, .inr ⟨hg, rfl⟩⟩
      | succ j => simp at ho hr he; exact s.ok j o' rj ej ho hr he
    · intro j ej hj t' av hav
      cases j with
      | zero => simp at hj; subst hj; exact .inr ⟨by simp, av, hav, .refl _⟩
      | succ j =>
        have hj' : (s.e ++ [s.last])[j]? = some ej := by simpa using hj
        rcases s.src j ej hj' t' av hav with ⟨i, o', ri, h1, h2, h3, h4, h5, h6⟩ | ⟨h1, av0, h2, h3⟩
        · refine .inl ⟨i + 1, o', ri, by omega, by simpa using h2, h3, by simpa using h4, h5, fun i' o'' hi hi' ho => ?_⟩
          cases i' with
          | zero => omega
          | succ i' => exact h6 i' o'' (by omega) (by omega) (by simpa using ho)
        · simp only [Env.get_nil, Env.get_cons] at h2
          split at h2
          · rename_i e; subst e
            simp only [Option.some.injEq] at h2; subst h2
            refine   .inl ⟨0, o, .pv (.tup []), by omega, rfl, hd, rfl, h3, fun i' o'' hi hi' ho => ?_⟩
            cases i' with
            | zero => omega
            | succ i' => exact h1 i' o'' (by omega) (by simpa using ho)
          · rename_i hne
            refine .inr ⟨fun i o' hi ho => ?_, av0, h2, h3⟩
            cases i with
            | zero => simp at ho; subst ho; rw [hd]; simpa using hne
            | succ i => exact h1 i o' (by omega) (by simpa using ho)
  | case l env t b hb h1 h2 ih1 ih2 =>
    have key : ∀ c, b = c → Nonempty (Script P n g H ops l ((t, .pv (.base (.bool c))) :: env) Q) → Nonempty (Script P n g H ops l env Q) := by
      rintro c rfl ⟨s⟩
      refine ⟨⟨s.r, s.e, s.last, s.lenr, s.lene, s.ok, ?_, s.fin⟩⟩
      intro j ej hj t' av hav
      rcases s.src j ej hj t' av hav with h | ⟨h1, av0, h2, h3⟩
      · exact .inl h
      · refine .inr ⟨h1, ?_⟩
        simp only [Env.get_nil, Env.get_cons] at h2
        split at h2
        · rename_i e; subst e; simp only [Option.some.injEq] at h2; subst h2; exact ⟨_, hb, h3⟩
        · exact ⟨av0, h2, h3⟩
    cases hb' : b
    · exact key false hb' (ih2 hb')
    · exact key true hb' (ih1 hb')

theorem mem_zipIdx_get {l : List Oper} {o : Oper} {j : Nat} (h : l[j]? = some o) : (o, j) ∈ l.zipIdx := by
  rw [List.mem_zipIdx_iff_getElem?]; exact h

theorem mem_opTmps {t : Nat} : ∀ {xs : List Operand}, .tmp t ∈ xs → t ∈ opTmps xs
  | .tmp t' :: xs, h => by
    rcases List.mem_cons.1 h with h | h
    · cases h; simp [opTmps]
    · simp [opTmps, mem_opTmps h]
  | .const _ :: xs, h => mem_opTmps (xs := xs) ((List.mem_cons.1 h).resolve_left (fun h => by cases h))
  | .global _ :: xs, h => mem_opTmps (xs := xs) ((List.mem_cons.1 h).resolve_left (fun h => by cases h))
  | .func _ :: xs, h => mem_opTmps (xs := xs) ((List.mem_cons.1 h).resolve_left (fun h => by cases h))

/-- What holds while some operations have come up. -/
structure Mid (P : Program) (n : Nat) (g : Base) (H : HEnv) (ops l : List Oper) (env : Env) (Q : Env → Prop) (s : Script P n g H ops l env Q) (listed : Array Bool) (a : Act) (w : World) : Prop where
  size : a.tmps.size = n
  defers : a.defers = []
  lsize : listed.size = ops.length
  llen : l.length ≤ ops.length
  notail : ∀ j, l.length ≤ j → j < ops.length → listed.getD j true = false
  closed : ∀ (i : Nat) (o : Oper), l[i]? = some o → listed.getD i true = true → ∀ j, hasEdge o j = true → listed.getD j false = true
  st : ∃ K ρ, FS g K ρ H w ∧
    (∀ (i : Nat) (o : Oper) (ri : AV) (t : Nat), l[i]? = some o → listed.getD i true = true → s.r[i]? = some ri → o.dst = some t → ∃ v, a.tmps[t]? = some v ∧ ARel K w ρ H ri v) ∧
    (∀ (t : Nat) (av : AV), env.get t = some av → (∀ (i : Nat) (o : Oper), l[i]? = some o → listed.getD i true = true → o.dst ≠ some t) → ∃ v, a.tmps[t]? = some v ∧ ARel K w ρ H av v)

theorem drawOk_at (hB : drawOk ops l = true) {j : Nat} {o : Oper} (ho : l[j]? = some o) : (∃ t, o.dst = some t) ∧ (∀ i, hasEdge o i = true → i < j) ∧
    (∀ i o', l[i]? = some o' → i ≠ j → o'.dst ≠ o.dst) ∧
    (∀ i o' t, l[i]? = some o' → o'.dst = some t → t ∈ readsOf ops o → (i < j ∧ hasEdge o i = true) ∨ (j < i ∧ hasEdge o' j = true)) := by
  have h := List.all_eq_true.1 hB (o, j) (mem_zipIdx_get ho)
  simp only [Bool.and_eq_true] at h
  obtain ⟨⟨⟨h1, h2⟩, _⟩, h3⟩ := h
  refine ⟨Option.isSome_iff_exists.1 h1, fun i hi => ?_, fun i o' hi hne => ?_, fun i o' t hi hd ht => ?_⟩
  · unfold hasEdge at hi
    obtain ⟨e, he, heq⟩ := List.any_eq_true.1 hi
    simp only [Bool.and_eq_true, beq_iff_eq] at heq
    have := List.all_eq_true.1 h2 e he
    simp only [heq.1, Bool.not_true, Bool.false_or, decide_eq_true_eq] at this
    omega
  · have := List.all_eq_true.1 h3 (o', i) (mem_zipIdx_get hi)
    simp only [Bool.and_eq_true, Bool.or_eq_true, beq_iff_eq, bne_iff_ne] at this
    exact this.1.resolve_left hne
  · have := List.all_eq_true.1 h3 (o', i) (mem_zipIdx_get hi)
    simp only [Bool.and_eq_true] at this
    have h4 := this.2
    simp only [hd, Bool.or_eq_true, Bool.and_eq_true, Bool.not_eq_true', decide_eq_true_eq] at h4
    rcases h4 with (h4 | h4) | h4
    · have hc : (readsOf ops o).contains t = true := List.contains_iff_mem.2 ht
      rw [hc] at h4; cases h4
    · exact .inl h4
    · exact .inr h4

theorem getD_set_other {l : Array Bool} {i j : Nat} {d x : Bool} (h : j ≠ i) : (l.setIfInBounds i x).getD j d = l.getD j d := by
  simp only [Array.getD_eq_getD_getElem?, Array.getElem?_setIfInBounds_ne (Ne.symm h)]
theorem getD_set_same {l : Array Bool} {i : Nat} {d x : Bool} (h : i < l.size) : (l.setIfInBounds i x).getD i d = x := by
  simp [Array.getD_eq_getD_getElem?, Array.getElem?_setIfInBounds_self_of_lt h]

/-- One operation more has come up. -/
theorem Mid.next {s : Script P n g H ops l env Q} {listed : Array Bool} (hB : drawOk ops l = true) (hm : Mid P n g H ops l env Q s listed a w) {j : Nat} {o : Oper} {rj : AV} {t : Nat} (ho : l[j]? = some o) (hr : s.r[j]? = some rj) (hd : o.dst = some t) (ht : t < n)
    (hun : listed.getD j true = false) (hready : ∀ i, hasEdge o i = true → listed.getD i false = true) {K' : KK} {w' : World} {v : Value}
    (hst : ∀ K ρ, FS g K ρ H w → True) {K0 : KK} {ρ0 : Nat → Value} (hf : FS g K0 ρ0 H w)
    (hl : ∀ (i : Nat) (o : Oper) (ri : AV) (t : Nat), l[i]? = some o → listed.getD i true = true → s.r[i]? = some ri → o.dst = some t → ∃ v, a.tmps[t]? = some v ∧ ARel K0 w ρ0 H ri v)
    (he : ∀ (t : Nat) (av : AV), env.get t = some av → (∀ (i : Nat) (o : Oper), l[i]? = some o → listed.getD i true = true → o.dst ≠ some t) → ∃ v, a.tmps[t]? = some v ∧ ARel K0 w ρ0 H av v)
    (hev : Evo K0 K' w w') (hv : ARel K' w' ρ0 H rj v) : Mid P n g H ops l env Q s (listed.setIfInBounds j true) (a.put o.dst v) w' := by
  have hlat := hev.later hf.lt
  have hjlt : j < listed.size := by rw [hm.lsize]; exact Nat.lt_of_lt_of_le (List.getElem?_eq_some_iff.1 ho).1 hm.llen
  obtain ⟨_, _, hdst, _⟩ := drawOk_at hB ho
  refine ⟨put_size hm.size, put_defers hm.defers, by simp [hm.lsize], hm.llen, fun k h1 h2 => by rw [getD_set_other (by have := (List.getElem?_eq_some_iff.1 ho).1; omega)]; exact hm.notail k h1 h2, ?_, K', ρ0, hf.evo hev, ?_, ?_⟩
  · intro i o' ho' hli k hk
    by_cases hij : i = j
    · subst hij
      rw [ho] at ho'; cases ho'
      have := hready k hk
      by_cases hkj : k = i
      · subst hkj; exact getD_set_same hjlt
      · rw [getD_set_other hkj]; exact this
    · rw [getD_set_other hij] at hli
      have := hm.closed i o' ho' hli k hk
      by_cases hkj : k = j
      · subst hkj; exact getD_set_same hjlt
      · rw [getD_set_other hkj]; exact this
  · intro i o' ri t' ho' hli hri hd'
    rw [hd]
    by_cases hij : i = j
    · subst hij
      rw [ho] at ho'; cases ho'
      rw [hr] at hri; cases hri
      rw [hd] at hd'; cases hd'
      exact ⟨v, by simp only [Act.put]; rw [Array.getElem?_setIfInBounds_self_of_lt (by rw [hm.size]; exact ht)], hv⟩
    · rw [getD_set_other hij] at hli
      obtain ⟨u, h1, h2⟩ := hl i o' ri t' ho' hli hri hd'
      have hne : t ≠ t' := by
        rintro rfl
        exact hdst i o' ho' hij (by rw [hd', hd])
      exact ⟨u, by simp only [Act.put]; rw [Array.getElem?_setIfInBounds_ne hne]; exact h1, h2.later hlat⟩
  · intro t' av hav hno
    rw [hd]
    have hne : t ≠ t' := by
      rintro rfl
      exact hno j o ho (getD_set_same hjlt) hd
    obtain ⟨u, h1, h2⟩ := he t' av hav (fun i o' ho' hli hd' => by
      by_cases hij : i = j
      · subst hij; rw [hun] at hli; cases hli
      · exact hno i o' ho' (by rw [getD_set_other hij]; exact hli) hd')
    exact ⟨u, by simp only [Act.put]; rw [Array.getElem?_setIfInBounds_ne hne]; exact h1, h2.later hlat⟩

/-- What is told ahead of an operation, and is read by it, holds when it comes up. -/
theorem Mid.reads {s : Script P n g H ops l env Q} {listed : Array Bool} (hB : drawOk ops l = true) (hm : Mid P n g H ops l env Q s listed a w) {j : Nat} {o : Oper} {ej : Env} (ho : l[j]? = some o) (hej : s.e[j]? = some ej)
    (hun : listed.getD j true = false) (hready : ∀ i, hasEdge o i = true → listed.getD i false = true) {K0 : KK} {ρ0 : Nat → Value}
    (hl : ∀ (i : Nat) (o : Oper) (ri : AV) (t : Nat), l[i]? = some o → listed.getD i true = true → s.r[i]? = some ri → o.dst = some t → ∃ v, a.tmps[t]? = some v ∧ ARel K0 w ρ0 H ri v)
    (he : ∀ (t : Nat) (av : AV), env.get t = some av → (∀ (i : Nat) (o : Oper), l[i]? = some o → listed.getD i true = true → o.dst ≠ some t) → ∃ v, a.tmps[t]? = some v ∧ ARel K0 w ρ0 H av v) :
    ∀ t ∈ readsOf ops o, ∀ av, ej.get t = some av → ∃ v, a.tmps[t]? = some v ∧ ARel K0 w ρ0 H av v := by
  intro t ht av hav
  obtain ⟨_, _, _, hrd⟩ := drawOk_at hB ho
  have hlf : ∀ i, listed.getD i false = true → listed.getD i true = true := by
    intro i hi
    rw [Array.getD_eq_getD_getElem?] at hi ⊢
    cases h : listed[i]? with
    | none => rfl
    | some b => rw [h] at hi; exact hi
  have hjl : listed.getD j false = false := by
    cases hb : listed.getD j false
    · rfl
    · rw [hlf j hb] at hun; cases hun
  have hsrc := s.src j ej (by rw [List.getElem?_append_left (List.getElem?_eq_some_iff.1 hej).1]; exact hej) t av hav
  rcases hsrc with ⟨i, o', ri, h1, h2, h3, h4, h5, _⟩ | ⟨h1, av0, h2, h3⟩
  · rcases hrd i o' t h2 h3 ht with ⟨_, hedge⟩ | ⟨hlt, _⟩
    · obtain ⟨v, v1, v2⟩ := hl i o' ri t h2 (hlf i (hready i hedge)) h4 h3
      exact ⟨v, v1, h5 _ _ _ _ _ v2⟩
    · omega
  · obtain ⟨v, v1, v2⟩ := he t av0 h2 (fun i o' ho' hli hd' => by
      rcases hrd i o' t ho' hd' ht with ⟨hlt, _⟩ | ⟨hlt, hedge⟩
      · exact h1 i o' hlt ho' hd'
      · have := hm.closed i o' ho' hli j hedge
        rw [hjl] at this; cases this)
    exact ⟨v, v1, h3 _ _ _ _ _ v2⟩

theorem mem_ready_iff {listed : Array Bool} {j : Nat} : j ∈ Region.ready .any ops.toArray listed ↔ ∃ o, ops[j]? = some o ∧ listed.getD j true = false ∧ ∀ i, hasEdge o i = true → listed.getD i false = true := by
  simp only [Region.ready, List.mem_filter, List.mem_range, List.size_toArray, Bool.and_eq_true, Bool.not_eq_true', List.getElem?_toArray]
  constructor
  · rintro ⟨hlt, hun, hall⟩
    refine ⟨ops[j], List.getElem?_eq_getElem hlt, hun, fun i hi => ?_⟩
    rw [List.getElem?_eq_getElem hlt] at hall
    simp only [Option.map_some, Option.getD_some] at hall
    unfold hasEdge at hi
    obtain ⟨e, he, heq⟩ := List.any_eq_true.1 hi
    simp only [Bool.and_eq_true, beq_iff_eq] at heq
    obtain ⟨k, hk⟩ := List.getElem?_of_mem he
    have := Array.all_eq_true.1 hall k (by have := (List.getElem?_eq_some_iff.1 hk).1; simpa using this)
    have hek : (ops[j]).after[k]'(by have := (List.getElem?_eq_some_iff.1 hk).1; simpa using this) = e := by
      have := (List.getElem?_eq_some_iff.1 hk).2; simpa using this
    rw [hek] at this
    simp only [heq.1, Bool.not_true, Bool.false_or] at this
    rw [← heq.2]; exact this
  · rintro ⟨o, ho, hun, hall⟩
    refine ⟨(List.getElem?_eq_some_iff.1 ho).1, hun, ?_⟩
    rw [ho]
    simp only [Option.map_some, Option.getD_some]
    rw [Array.all_eq_true]
    intro k hk
    by_cases hb : Region.binds .any o.after[k] = true
    · have := hall o.after[k].on (by
        unfold hasEdge
        exact List.any_eq_true.2 ⟨o.after[k], by simp, by simp [hb]⟩)
      simp [this]
    · simp [hb]

/-- What comes behind, one by one. -/
theorem wpAny_tail {R : Exit → Act → World → Prop} {k : Nat} (hT : tailOk ops k = true) : ∀ (fuel m : Nat) (listed : Array Bool) (a : Act) (w : World), k ≤ m → m + fuel = ops.length → listed.size = ops.length → (∀ i, i < ops.length → listed.getD i true = decide (i < m)) →
    wpList P ops.toArray R (ops.drop m) a w → wpAny P .any ops.toArray R fuel listed a w := by
  have hlf : ∀ (listed : Array Bool), listed.size = ops.length → ∀ i, i < ops.length → listed.getD i false = listed.getD i true := by
    intro listed hs i hi
    rw [Array.getD_eq_getD_getElem?, Array.getD_eq_getD_getElem?, Array.getElem?_eq_getElem (by omega)]; rfl
  intro fuel
  induction fuel with
  | zero =>
    intro m listed a w hk hm hs hl h
    have : ops.drop m = [] := List.drop_eq_nil_of_le (by omega)
    rw [this] at h
    refine ⟨?_, h⟩
    rw [List.eq_nil_iff_forall_not_mem]
    intro j hj
    obtain ⟨o, ho, hun, _⟩ := mem_ready_iff.1 hj
    have hlt := (List.getElem?_eq_some_iff.1 ho).1
    rw [hl j hlt] at hun
    simp at hun; omega
  | succ fuel ih =>
    intro m listed a w hk hm hs hl h
    have hmlt : m < ops.length := by omega
    have hom : ops[m]? = some ops[m] := List.getElem?_eq_getElem hmlt
    have hdrop : ops.drop m = ops[m] :: ops.drop (m + 1) := (List.drop_eq_getElem_cons hmlt)
    have hall' : ∀ j o, ops[j]? = some o → k ≤ j → (∀ i, i < j → hasEdge o i = true) ∧ ∀ i, hasEdge o i = true → i < j := by
      intro j o ho hkj
      have hmem : (o, j) ∈ ops.zipIdx.drop k := by
        rw [List.mem_drop_iff_getElem]
        have hlt := (List.getElem?_eq_some_iff.1 ho).1
        refine ⟨j - k, by simp; omega, ?_⟩
        simp only [List.getElem_zipIdx, Nat.zero_add]
        have : k + (j - k) = j := by omega
        simp only [this]
        rw [(List.getElem?_eq_some_iff.1 ho).2]
      have h1 := List.all_eq_true.1 hT (o, j) hmem
      simp only [Bool.and_eq_true] at h1
      refine ⟨fun i hi => List.all_eq_true.1 h1.1 i (List.mem_range.2 hi), fun i hi => ?_⟩
      unfold hasEdge at hi
      obtain ⟨e, he, heq⟩ := List.any_eq_true.1 hi
      simp only [Bool.and_eq_true, beq_iff_eq] at heq
      have := List.all_eq_true.1 h1.2 e he
      simp only [heq.1, Bool.not_true, Bool.false_or, decide_eq_true_eq] at this
      omega
    have hall : ∀ j o, ops[j]? = some o → k ≤ j → ∀ i, i < j → hasEdge o i = true := fun j o ho hkj => (hall' j o ho hkj).1
    have honly : ∀ j, j ∈ Region.ready .any ops.toArray listed → j = m := by
      intro j hj
      obtain ⟨o, ho, hun, hedge⟩ := mem_ready_iff.1 hj
      have hlt := (List.getElem?_eq_some_iff.1 ho).1
      rw [hl j hlt] at hun
      simp at hun
      by_cases e : j = m
      · exact e
      · have := hedge m (hall j o ho (by omega) m (by omega))
        rw [hlf listed hs m hmlt, hl m hmlt] at this
        simp at this
    refine ⟨fun h0 => ?_, fun j hj => ?_⟩
    · have hedge : ∀ i, hasEdge ops[m] i = true → listed.getD i false = true := fun i hi => by
        have := (hall' m _ hom hk).2 i hi
        rw [hlf listed hs i (by omega), hl i (by omega)]; simp [this]
      · have : m ∈ Region.ready .any ops.toArray listed := mem_ready_iff.2 ⟨ops[m], hom, by rw [hl m hmlt]; simp, hedge⟩
        rw [h0] at this; cases this
    · obtain rfl := honly j hj
      unfold wpOp
      simp only [List.getElem?_toArray, hom]
      rw [hdrop] at h
      unfold wpList at h
      have hnext : ∀ a w, wpList P ops.toArray R (ops.drop (j + 1)) a w → wpAny P .any ops.toArray R fuel (listed.setIfInBounds j true) a w := fun a w h => ih (j + 1) _ a w (by omega) (by omega) (by simp [hs]) (fun i hi => by
        by_cases e : i = j
        · subst e; rw [getD_set_same (by omega)]; simp
        · rw [getD_set_other e, hl i hi]; simp only [decide_eq_decide]; omega) h
      split at h
      · rename_i hw
        rw [if_pos hw]
        exact h.imp (fun h => Oper.wp_mono hnext h) id
      · rename_i hw
        rw [if_neg hw]
        exact hnext _ _ h

/-- Whatever order comes about. -/
theorem wpAny_of_script {R : Exit → Act → World → Prop} (hl0 : l = ops.take l.length) (s : Script P n g H ops l env Q) (hB : drawOk ops l = true) (hT : tailOk ops l.length = true)
    (hq : ∀ env' a w, Q env' → Inv n g env' H a w → wpList P ops.toArray R (ops.drop l.length) a w) : ∀ (fuel : Nat) (listed : Array Bool) (a : Act) (w : World), (listed.toList.filter (! ·)).length = fuel → Mid P n g H ops l env Q s listed a w →
    wpAny P .any ops.toArray R fuel listed a w := by
  have hget : ∀ j, j < l.length → l[j]? = ops[j]? := by
    intro j hj
    have := congrArg (fun x => x[j]?) hl0
    simp only [List.getElem?_take, if_pos hj] at this
    exact this
  have hlen : l.length ≤ ops.length := by
    have := congrArg List.length hl0
    simp at this; omega
  have done : ∀ (listed : Array Bool) (a : Act) (w : World), (∀ j, j < l.length → listed.getD j true = true) → Mid P n g H ops l env Q s listed a w → ∃ env', Q env' ∧ Inv n g env' H a w := by
    intro listed a w hall hm
    obtain ⟨K, ρ, hf, hl, he⟩ := hm.st
    refine ⟨s.last, s.fin, ⟨hm.size, hm.defers, K, ρ, hf, fun t av hav => ?_⟩⟩
    have hlast : (s.e ++ [s.last])[l.length]? = some s.last := by rw [List.getElem?_append_right (by rw [s.lene]; exact Nat.le_refl _), s.lene]; simp
    rcases s.src l.length s.last hlast t av hav with ⟨i, o, ri, h1, h2, h3, h4, h5, _⟩ | ⟨h1, av0, h2, h3⟩
    · obtain ⟨v, v1, v2⟩ := hl i o ri t h2 (hall i h1) h4 h3
      exact ⟨v, v1, h5 _ _ _ _ _ v2⟩
    · obtain ⟨v, v1, v2⟩ := he t av0 h2 (fun i o ho _ => h1 i o (List.getElem?_eq_some_iff.1 ho).1 ho)
      exact ⟨v, v1, h3 _ _ _ _ _ v2⟩
  intro fuel
  induction fuel with
  | zero =>
    intro listed a w hc hm
    have hall : ∀ j, j < ops.length → listed.getD j true = true := by
      intro j hj
      have hn := List.filter_eq_nil_iff.1 (List.eq_nil_of_length_eq_zero hc)
      have hlt : j < listed.size := by rw [hm.lsize]; exact hj
      have := hn listed[j] (by simp)
      simp only [Bool.not_eq_true', Bool.not_eq_false] at this
      rw [Array.getD_eq_getD_getElem?, Array.getElem?_eq_getElem hlt]
      simpa using this
    have hkl : l.length = ops.length := by
      rcases Nat.lt_or_ge l.length ops.length with h | h
      · have := hm.notail l.length (Nat.le_refl _) h
        rw [hall _ h] at this; cases this
      · omega
    obtain ⟨env', h1, h2⟩ := done listed a w (fun j hj => hall j (by omega)) hm
    refine wpAny_tail hT 0 l.length listed a w (Nat.le_refl _) (by omega) hm.lsize (fun i hi => ?_) (hq env' a w h1 h2)
    rw [hall i hi]; simp; omega
  | succ fuel ih =>
    intro listed a w hc hm
    by_cases hall : ∀ j, j < l.length → listed.getD j true = true
    · obtain ⟨env', h1, h2⟩ := done listed a w hall hm
      have hex : ∀ i, i < ops.length → listed.getD i true = decide (i < l.length) := by
        intro i hi
        by_cases h : i < l.length
        · rw [hall i h]; simp [h]
        · rw [hm.notail i (by omega) hi]; simp [h]
      have hcnt : l.length + (fuel + 1) = ops.length := by
        have e1 : listed.toList = List.replicate l.length true ++ List.replicate (ops.length - l.length) false := by
          apply List.ext_getElem
          · simp [hm.lsize]; omega
          · intro i h1 h2
            have hi : i < ops.length := by simpa [hm.lsize] using h1
            have := hex i hi
            rw [Array.getD_eq_getD_getElem?, Array.getElem?_eq_getElem (by rw [hm.lsize]; exact hi)] at this
            simp only [Option.getD_some] at this
            simp only [Array.getElem_toList, this, List.getElem_append, List.length_replicate, List.getElem_replicate]
            by_cases hil : i < l.length
            · rw [dif_pos hil, decide_eq_true hil]
            · rw [dif_neg hil, decide_eq_false hil]
        rw [e1] at hc
        simp only [List.filter_append, List.filter_replicate, Bool.not_true, Bool.false_eq_true, if_false, Bool.not_false, if_true, List.nil_append, List.length_replicate] at hc
        omega
      exact wpAny_tail hT (fuel + 1) l.length listed a w (Nat.le_refl _) hcnt hm.lsize hex (hq env' a w h1 h2)
    have hlf : ∀ i, i < ops.length → listed.getD i false = listed.getD i true := by
      intro i hi
      rw [Array.getD_eq_getD_getElem?, Array.getD_eq_getD_getElem?, Array.getElem?_eq_getElem (by rw [hm.lsize]; exact hi)]; rfl
    have hex : ∃ j, j < l.length ∧ listed.getD j true = false ∧ ∀ i, i < j → listed.getD i true = true := by
      have hex0 : ∃ j, j < l.length ∧ listed.getD j true = false := by
        rcases Classical.not_forall.1 hall with ⟨j, hj⟩
        exact ⟨j, Classical.byContradiction fun h => hj (fun h' => (h h').elim), by
          cases hb : listed.getD j true
          · rfl
          · exact (hj (fun _ => hb)).elim⟩
      obtain ⟨j, hj⟩ := hex0
      induction j using Nat.strongRecOn with
      | _ j ihj =>
        by_cases hmin : ∀ i, i < j → listed.getD i true = true
        · exact ⟨j, hj.1, hj.2, hmin⟩
        · rcases Classical.not_forall.1 hmin with ⟨i, hi⟩
          have hij : i < j := Classical.byContradiction fun h => hi (fun h' => (h h').elim)
          exact ihj i hij ⟨by omega, by
            cases hb : listed.getD i true
            · rfl
            · exact (hi (fun _ => hb)).elim⟩
    obtain ⟨j0, hj0, hun0, hmin0⟩ := hex
    refine ⟨fun h0 => ?_, fun j hj => ?_⟩
    · have : j0 ∈ Region.ready .any ops.toArray listed := mem_ready_iff.2 ⟨l[j0], by rw [← hget j0 hj0]; exact List.getElem?_eq_getElem hj0, hun0, fun i hi => by
        have := (drawOk_at hB (List.getElem?_eq_getElem hj0)).2.1 i hi
        rw [hlf i (by omega)]; exact hmin0 i this⟩
      rw [h0] at this; cases this
    obtain ⟨o, ho', hun, hready⟩ := mem_ready_iff.1 hj
    have hjlt := (List.getElem?_eq_some_iff.1 ho').1
    have hjl : j < l.length := by
      rcases Nat.lt_or_ge j l.length with h | h
      · exact h
      · have hmem : (o, j) ∈ ops.zipIdx.drop l.length := by
          rw [List.mem_drop_iff_getElem]
          refine ⟨j - l.length, by simp; omega, ?_⟩
          simp only [List.getElem_zipIdx, Nat.zero_add]
          have : l.length + (j - l.length) = j := by omega
          simp only [this]
          rw [(List.getElem?_eq_some_iff.1 ho').2]
        have h1 := List.all_eq_true.1 hT (o, j) hmem
        simp only [Bool.and_eq_true] at h1
        have := hready j0 (List.all_eq_true.1 h1.1 j0 (List.mem_range.2 (by omega)))
        rw [hlf j0 (by omega), hun0] at this; cases this
    have ho : l[j]? = some o := by rw [hget j hjl]; exact ho'
    have hrj : s.r[j]? = some (s.r[j]'(by rw [s.lenr]; exact hjl)) := List.getElem?_eq_getElem _
    have hej : s.e[j]? = some (s.e[j]'(by rw [s.lene]; exact hjl)) := List.getElem?_eq_getElem _
    generalize s.r[j]'(by rw [s.lenr]; exact hjl) = rj at hrj
    generalize s.e[j]'(by rw [s.lene]; exact hjl) = ej at hej
    obtain ⟨t, hd, ht, hor⟩ := s.ok j o rj ej ho hrj hej
    obtain ⟨K, ρ, hf, hl, he⟩ := hm.st
    have hreads := hm.reads hB ho hej hun hready hl he
    have hcount : ((listed.setIfInBounds j true).toList.filter (! ·)).length = fuel := by
      have hlt : j < listed.toList.length := by simpa [hm.lsize] using hjlt
      have hjf : listed.toList[j] = false := by
        rw [Array.getD_eq_getD_getElem?, Array.getElem?_eq_getElem (by simpa using hlt)] at hun
        simpa using hun
      have e1 : listed.toList = listed.toList.take j ++ false :: listed.toList.drop (j + 1) := by
        rw [← hjf, List.getElem_cons_drop, List.take_append_drop]
      rw [Array.toList_setIfInBounds, List.set_eq_take_append_cons_drop, if_pos hlt]
      rw [e1] at hc
      simp only [List.filter_append, List.length_append, List.filter_cons, Bool.not_false, if_true, List.length_cons, Bool.not_true, Bool.false_eq_true, if_false] at hc ⊢
      omega
    have hwanted : ∀ b, guardE ops ej o = some b → Region.wanted o (yielded ops.toArray a.tmps) = b := by
      intro b hgb
      unfold guardE guardVar at hgb
      cases hg : o.guard with
      | none => simp [hg] at hgb; subst hgb; simp [Region.wanted, hg]
      | some x =>
        obtain ⟨jj, want⟩ := x
        simp only [hg] at hgb
        cases hjj : ops[jj]? with
        | none => simp [hjj] at hgb
        | some o' =>
          simp only [hjj] at hgb
          cases hd' : o'.dst with
          | none => simp [hd'] at hgb
          | some t' =>
            simp only [hd'] at hgb
            split at hgb
            · rename_i bb hbb
              simp only [Option.some.injEq] at hgb; subst hgb
              obtain ⟨v, v1, v2⟩ := hreads t' (by simp [readsOf, guardVar, hg, hjj, hd']) _ hbb
              cases v2 with
              | pv _ _ hp => cases hp; simp only [Region.wanted, hg, yielded, List.getElem?_toArray, hjj, Option.bind_some, hd', v1]; cases bb <;> cases want <;> rfl
            · rename_i vs hbb
              simp only [Option.some.injEq] at hgb; subst hgb
              obtain ⟨v, v1, v2⟩ := hreads t' (by simp [readsOf, guardVar, hg, hjj, hd']) _ hbb
              cases v2 with
              | pv _ _ hp => cases hp; simp only [Region.wanted, hg, yielded, List.getElem?_toArray, hjj, Option.bind_some, hd', v1]; cases want <;> rfl
            · cases hgb
    unfold wpOp
    simp only [List.getElem?_toArray, ho']
    rcases hor with ⟨hgt, hqs⟩ | ⟨hgf, rfl⟩
    · rw [hwanted true hgt, if_pos rfl]
      refine .inl ?_
      unfold Oper.wp
      have hqr := hqs.go K ρ a w hf (fun x hx av hxv => by
        cases x with
        | tmp t' =>
          obtain ⟨v, v1, v2⟩ := hreads t' (by
            unfold readsOf
            exact List.mem_append_left _ (mem_opTmps (Array.mem_toList_iff.2 hx))) av hxv
          simpa [Act.eval, Array.getD_eq_getD_getElem?, v1] using v2
        | const v =>
          simp only [Env.val] at hxv
          split at hxv
          · rename_i h1; simp only [Option.some.injEq] at hxv; subst hxv; exact .pv _ _ (.base v h1)
          · cases hxv
        | func f =>
          simp only [Env.val, Option.some.injEq] at hxv; subst hxv
          exact .pv _ _ (.fn (.func f) [] [] [] [] rfl rfl (by simp) (by simp))
        | global gg =>
          simp only [Env.val, Option.some.injEq] at hxv; subst hxv
          exact .pv _ _ (.base _ rfl))
      generalize (execOp a.eval o).run P w = res at hqr
      cases res with
      | halt x w' => simp only [QRes] at hqr
      | ok nx w' =>
        cases nx <;> simp only [QRes] at hqr <;> simp only [Oper.upon]
        case value v =>
          obtain ⟨K', hev, hv⟩ := hqr
          exact ih _ _ _ hcount (hm.next hB ho hrj hd ht hun hready (fun _ _ _ => trivial) hf hl he hev hv)
        case enter f args =>
          obtain ⟨rfl, hc'⟩ := hqr
          refine hc'.mono fun e w'' ⟨v, K', he', hev, hv⟩ => ?_
          subst he'
          exact ih _ _ _ hcount (hm.next hB ho hrj hd ht hun hready (fun _ _ _ => trivial) hf hl he hev hv)
    · rw [hwanted false hgf, if_neg (by simp)]
      exact ih _ _ _ hcount (hm.next hB ho hrj hd ht hun hready (fun _ _ _ => trivial) hf hl he (.refl hf.lt) undef_rel)

theorem ad_mono {Q' : Env → Prop} {l : List Oper} (hq : ∀ env, Q env → Q' env) (h : AD P n g H ops Q l env) : AD P n g H ops Q' l env := by
  induction h with
  | nil env h => exact .nil env (hq env h)
  | step o rest env r t h1 h2 h3 h4 _ ih => exact .step o rest env r t h1 h2 h3 h4 ih
  | skip o rest env t h1 h2 h3 _ ih => exact .skip o rest env t h1 h2 h3 ih
  | case l env t b hb _ _ ih1 ih2 => exact .case l env t b hb ih1 ih2

theorem aw_draw_tail {QQ : QC} {id : Nat} (k : Nat) (hm : P.follows .mixedOrders = true) (hB : drawOk ops (ops.take k) = true) (hT : tailOk ops k = true) (hk : k ≤ ops.length)
    (h : AD P n g H ops (fun env' => AO P n g ops.toArray (ops.drop k) env' H (fun env' H' => QQ .normal env' H')) (ops.take k) env) : AW P n g (.region id ops.toArray true) env H QQ := by
  obtain ⟨s⟩ := script_of h
  refine ⟨fun a w hi => ?_⟩
  refine wp_region_any hm ?_
  obtain ⟨h1, h2, K, ρ, hf, he⟩ := hi
  have hev : Evo K K w { w with drawn := w.drawn + 1 } := (Evo.refl hf.lt).drew
  have hlk : (ops.take k).length = k := by simp; omega
  refine wpAny_of_script (l := ops.take k) (by rw [hlk]) s hB (by rw [hlk]; exact hT) (fun env' a' w' h hi' => ?_) _ _ _ _ (by simp) ⟨h1, h2, by simp, by rw [hlk]; exact hk, ?_, ?_, K, ρ, hf.evo hev, ?_, ?_⟩
  · rw [hlk]
    exact wpList_mono (fun e a' w' ⟨env', H', h1, h2, h3⟩ => ⟨env', H', h1, by subst h2; exact h3⟩) (h.go a' w' hi')
  · intro j _ hj
    simp [Array.getD_eq_getD_getElem?, hj]
  · intro i o ho hli
    have hlt := (List.getElem?_eq_some_iff.1 ho).1
    have : i < ops.length := by simp at hlt; omega
    simp [Array.getD_eq_getD_getElem?, this] at hli
  · intro i o ri t ho hli
    have hlt := (List.getElem?_eq_some_iff.1 ho).1
    have : i < ops.length := by simp at hlt; omega
    simp [Array.getD_eq_getD_getElem?, this] at hli
  · intro t av hav _
    obtain ⟨v, v1, v2⟩ := he t av hav
    exact ⟨v, v1, v2.later (hev.later hf.lt)⟩

theorem aw_draw {QQ : QC} {id : Nat} (hm : P.follows .mixedOrders = true) (hB : drawOk ops ops = true) (h : AD P n g H ops (fun env' => QQ .normal env' H) ops env) : AW P n g (.region id ops.toArray true) env H QQ := by
  refine aw_draw_tail ops.length hm (by rw [List.take_length]; exact hB) ?_ (Nat.le_refl _) ?_
  · unfold tailOk
    rw [List.drop_eq_nil_of_le (by simp)]; rfl
  · rw [List.take_length]
    refine ad_mono ?_ h
    intro env' h
    rw [List.drop_length]
    exact ao_nil h
end
end Go.Cg
