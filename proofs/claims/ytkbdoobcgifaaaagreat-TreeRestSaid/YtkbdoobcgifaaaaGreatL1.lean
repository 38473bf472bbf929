/- A part of the walks by abstract values: no statement of its own. -/
import Derived.Test.YtkbdoobcgifaaaaGreatA29
namespace Go.Cg

/-! what is reached -/
inductive Rch (step : Int → List Int) (l : List Int) : Int → Prop where
  | base (x : Int) : x ∈ l → Rch step l x
  | step (x y : Int) : Rch step l x → y ∈ step x → Rch step l y

theorem mem_addP {met : List Int} {x y : Int} : y ∈ addP met x ↔ y ∈ met ∨ y = x := by
  unfold addP
  split
  · rename_i h
    constructor
    · exact .inl
    · rintro (h1 | rfl)
      · exact h1
      · exact h
  · simp
theorem mem_fold {y : Int} : ∀ {l met : List Int}, y ∈ l.foldl addP met ↔ y ∈ met ∨ y ∈ l
  | [], met => by simp
  | x :: l, met => by
    rw [List.foldl_cons, mem_fold (l := l), mem_addP]
    simp only [List.mem_cons]
    constructor
    · rintro ((h | h) | h)
      · exact .inl h
      · exact .inr (.inl h)
      · exact .inr (.inr h)
    · rintro (h | h | h)
      · exact .inl (.inl h)
      · exact .inl (.inr h)
      · exact .inr h
theorem fold_pre : ∀ (l met : List Int), ∃ r, l.foldl addP met = met ++ r
  | [], met => ⟨[], by simp⟩
  | x :: l, met => by
    obtain ⟨r, hr⟩ := fold_pre l (addP met x)
    rw [List.foldl_cons, hr]
    unfold addP
    split
    · exact ⟨r, rfl⟩
    · exact ⟨x :: r, by simp⟩

theorem reachGo_spec {N : Nat} {step : Int → List Int} (hs : ∀ x : Int, 0 ≤ x → x < N → ∀ y ∈ step x, 0 ≤ y ∧ y < N) : ∀ (n i : Nat) (met : List Int), NInv N met → i ≤ met.length → N + 1 ≤ n + i →
    (∀ j (h : j < i) (h2 : j < met.length), ∀ y ∈ step met[j], y ∈ met) →
    (∀ x ∈ met, x ∈ reachGo step n i met) ∧ (∀ u ∈ reachGo step n i met, ∀ y ∈ step u, y ∈ reachGo step n i met) ∧ (∀ x ∈ reachGo step n i met, Rch step met x) ∧ NInv N (reachGo step n i met)
  | 0, i, met, hm, hi, hn, hc => by
    have := hm.len; omega
  | n + 1, i, met, hm, hi, hn, hc => by
    rw [reachGo]
    by_cases hlt : i < met.length
    · rw [List.getElem?_eq_getElem hlt]
      simp only
      obtain ⟨h0, h1⟩ := hm.2 _ (List.getElem_mem hlt)
      have hst := hs _ h0 h1
      have hm2 := NInv.fold _ hm hst
      obtain ⟨r, hr⟩ := fold_pre (step met[i]) met
      have hl : met.length ≤ ((step met[i]).foldl addP met).length := by rw [hr]; simp
      obtain ⟨q1, q2, q3, q4⟩ := reachGo_spec hs n (i + 1) ((step met[i]).foldl addP met) hm2 (by omega) (by omega) (by
        intro j hj hj2 y hy
        rw [mem_fold]
        have hjm : j < met.length := by omega
        have e : ((step met[i]).foldl addP met)[j] = met[j] := by simp only [hr]; rw [List.getElem_append_left hjm]
        rw [e] at hy
        by_cases hji : j = i
        · subst hji; exact .inr hy
        · exact .inl (hc j (by omega) hjm y hy))
      refine ⟨fun x hx => q1 x (mem_fold.2 (.inl hx)), q2, fun x hx => ?_, q4⟩
      have := q3 x hx
      clear q1 q2 q3 q4 hx
      induction this with
      | base x hx =>
        rcases mem_fold.1 hx with h | h
        · exact .base x h
        · exact .step _ x (.base _ (List.getElem_mem hlt)) h
      | step x y _ hy ih => exact .step x y ih hy
    · rw [List.getElem?_eq_none (by omega)]
      simp only
      refine ⟨fun x hx => hx, fun u hu y hy => ?_, fun x hx => .base x hx, hm⟩
      obtain ⟨j, hj, rfl⟩ := List.getElem_of_mem hu
      exact hc j (by omega) hj y hy
theorem reachL_spec {N : Nat} {step : Int → List Int} {l : List Int} (hs : ∀ x : Int, 0 ≤ x → x < N → ∀ y ∈ step x, 0 ≤ y ∧ y < N) (hl : ∀ x ∈ l, 0 ≤ x ∧ x < N) : (∀ x, x ∈ reachL N step l ↔ Rch step l x) ∧ NInv N (reachL N step l) := by
  have hm : NInv N (l.foldl addP []) := NInv.fold l ⟨by simp, by simp⟩ hl
  obtain ⟨q1, q2, q3, q4⟩ := reachGo_spec hs (N + 1) 0 (l.foldl addP []) hm (by omega) (by omega) (fun j h => by omega)
  refine ⟨fun x => ⟨fun hx => ?_, fun hx => ?_⟩, q4⟩
  · have := q3 x hx
    clear hx
    induction this with
    | base x hx => exact .base x (by simpa using mem_fold.1 hx)
    | step x y _ hy ih => exact .step x y ih hy
  · induction hx with
    | base x hx => exact q1 x (mem_fold.2 (.inr hx))
    | step x y _ hy ih => exact q2 x ih y hy

/-! interfaces -/
def RF (g : Img) (t f : Int) : Prop := Rch (facesAt g) ((up g t).flatMap (facesAt g)) f
theorem flat_in {g : Img} (hF : Fm g) (t : Int) : ∀ x ∈ (up g t).flatMap (facesAt g), 0 ≤ x ∧ x < g.types.length := by
  intro x hx
  obtain ⟨u, _, h⟩ := List.mem_flatMap.1 hx
  exact (hF.at u).2 x h
theorem reachT {g : Img} (hF : Fm g) (t : Int) : (∀ x, x ∈ reachL g.types.length (facesAt g) ((up g t).flatMap (facesAt g)) ↔ Rch (facesAt g) ((up g t).flatMap (facesAt g)) x) ∧ NInv g.types.length (reachL g.types.length (facesAt g) ((up g t).flatMap (facesAt g))) := reachL_spec (N := g.types.length) (step := facesAt g) (l := (up g t).flatMap (facesAt g)) (fun x _ _ => (hF.at x).2) (flat_in hF t)
theorem mem_facesP {g : Img} (hF : Fm g) {t f : Int} : f ∈ facesP g t ↔ RF g t f := by
  rw [facesP, sortL_mem]; exact (reachT hF t).1 f
theorem addF_eq {g : Img} {met : List Int} {f : Int} (h : there g f = true) : addF g met f = addP met f := by
  unfold addF addP
  by_cases hm : f ∈ met
  · simp [hm]
  · simp [hm, h]
theorem foldF_eq {g : Img} : ∀ (l met : List Int), (∀ f ∈ l, there g f = true) → l.foldl (addF g) met = l.foldl addP met
  | [], met, _ => rfl
  | f :: l, met, h => by
    rw [List.foldl_cons, List.foldl_cons, addF_eq (h f (by simp))]
    exact foldF_eq l _ fun x hx => h x (by simp [hx])
theorem metStep_eq {g : Img} (hF : Fm g) (met : List Int) (u : Int) : metStep g met u = (facesAt g u).foldl addP met :=
  foldF_eq _ _ fun f hf => there_of ((hF.at u).2 f hf)
theorem steps_eq {g : Img} (hF : Fm g) : ∀ (us met : List Int), us.foldl (metStep g) met = (us.flatMap (facesAt g)).foldl addP met
  | [], met => rfl
  | u :: us, met => by rw [List.foldl_cons, metStep_eq hF, List.flatMap_cons, List.foldl_append]; exact steps_eq hF us _
theorem metGo_eq {g : Img} (hF : Fm g) : ∀ (n i : Nat) (met : List Int), metGo g n i met = reachGo (facesAt g) n i met
  | 0, _, _ => rfl
  | n + 1, i, met => by
    rw [metGo, reachGo]
    cases met[i]? with
    | none => rfl
    | some u => simp only; rw [metStep_eq hF]; exact metGo_eq hF n _ _
theorem met2_eq {g : Img} (hF : Fm g) (t : Int) : met2 g t = reachL g.types.length (facesAt g) ((up g t).flatMap (facesAt g)) := by
  rw [met2, metGo_eq hF, met1, steps_eq hF]; rfl
theorem mem_nums {n : Nat} {x : Int} : x ∈ nums n ↔ 0 ≤ x ∧ x < n := by
  simp only [nums, List.mem_map, List.mem_range]
  constructor
  · rintro ⟨k, hk, rfl⟩; omega
  · intro h; exact ⟨x.toNat, by omega, by omega⟩
theorem mem_facesR {g : Img} (hF : Fm g) {t f : Int} : f ∈ facesR g t ↔ RF g t f := by
  rw [facesR, List.mem_filter, met2_eq hF, mem_nums]
  simp only [decide_eq_true_eq]
  rw [(reachT hF t).1 f]
  exact ⟨fun h => h.2, fun h => ⟨(reachT hF t).2.2 f (((reachT hF t).1 f).2 h), h⟩⟩

/-! what is well -/
structure Wl (g : Img) : Prop where
  fm : Fm g
  ext : ∀ t td, typeAt g t = some td → -1 ≤ td.ext ∧ td.ext < g.types.length
  flags : ∀ t td, typeAt g t = some td → 0 ≤ td.flags ∧ td.flags ≤ 31
  flag : ∀ t td, typeAt g t = some td → flaggedR td = true
  hang : ∀ t td, typeAt g t = some td → hangsR g t td = true
theorem well_wl {g : Img} (h : wellR g = true) : Wl g := by
  have hf := well_formed h
  have hb := (formedG_bounds hf).2.2.2
  have hck : ∀ j, j < g.types.length → checkAt g j = 0 := by
    intro j hj
    refine Classical.byContradiction fun hne => ?_
    have hex : ∃ k, k < g.types.length ∧ checkAt g k ≠ 0 ∧ ∀ i, i < k → checkAt g i = 0 := by
      induction j using Nat.strongRecOn with
      | _ j ih =>
        by_cases hmin : ∀ i, i < j → checkAt g i = 0
        · exact ⟨j, hj, hne, hmin⟩
        · rcases Classical.not_forall.1 hmin with ⟨i, hi⟩
          have hij : i < j := Classical.byContradiction fun h => hi (fun h' => (h h').elim)
          exact ih i hij (by omega) (fun e => hi fun _ => e)
    obtain ⟨k, hk, hk1, hk2⟩ := hex
    have := check_at hf hk hk2 hk1
    rw [wellR, this] at h
    simp at h; exact hk1 h
  have htd : ∀ t td, typeAt g t = some td → ∃ k : Nat, t = k ∧ ∃ h : k < g.types.length, g.types[k] = td := by
    intro t td ht
    have hlt := typeAt_lt ht
    refine ⟨t.toNat, by omega, by omega, ?_⟩
    have := typeAt_nat (g := g) (k := t.toNat) (by omega)
    rw [Int.toNat_of_nonneg hlt.1, ht] at this
    exact (Option.some.inj this).symm
  have hcases : ∀ t td, typeAt g t = some td → flaggedR td = true ∧ hangsR g t td = true := by
    intro t td ht
    obtain ⟨k, rfl, hk, rfl⟩ := htd t td ht
    have := hck k hk
    rw [checkAt_eq hk] at this
    cases h1 : flaggedR g.types[k] <;> cases h2 : hangsR g k g.types[k] <;> simp [h1, h2] at this ⊢
  refine ⟨fm_of hf, ?_, ?_, fun t td ht => (hcases t td ht).1, fun t td ht => (hcases t td ht).2⟩
  · intro t td ht
    obtain ⟨_, _, h3, h4, _⟩ := formedT_facts (hb td (typeAt_mem ht)); exact ⟨h3, h4⟩
  · intro t td ht
    obtain ⟨h1, h2, _⟩ := formedT_facts (hb td (typeAt_mem ht)); exact ⟨h1, h2⟩

/-! going up -/
def ChainFrom (g : Img) : Int → List Int → Prop
  | _, [] => True
  | t, x :: l => x = t ∧ ∃ td, typeAt g t = some td ∧ ChainFrom g td.ext l
theorem upGo_chain {g : Img} : ∀ (n : Nat) (t : Int) (out : List Int), ∃ l, upGo g n t out = out ++ l ∧ ChainFrom g t l
  | 0, t, out => ⟨[], by simp [upGo], trivial⟩
  | n + 1, t, out => by
    rw [upGo]
    cases ht : typeAt g t with
    | none => exact ⟨[], by simp, trivial⟩
    | some td =>
      by_cases hm : t ∈ out
      · exact ⟨[], by simp [hm], trivial⟩
      · obtain ⟨l, h1, h2⟩ := upGo_chain n td.ext (out ++ [t])
        exact ⟨t :: l, by simp only [hm, if_false]; rw [h1]; simp, rfl, td, ht, h2⟩
theorem up_chain (g : Img) (t : Int) : ChainFrom g t (up g t) := by
  obtain ⟨l, h1, h2⟩ := upGo_chain (g := g) (g.types.length + 1) t []
  rw [up, h1]; exact h2
/-- What lies above, without looking back. -/
def ch (g : Img) : Nat → Int → List Int
  | 0, _ => []
  | n + 1, t => match typeAt g t with | some td => t :: ch g n td.ext | none => []
def extAt (g : Img) (t : Int) : Int := match typeAt g t with | some td => td.ext | none => -1
theorem chain_end {g : Img} : ∀ (l : List Int) (t : Int), ChainFrom g t l → l ≠ [] → typeAt g (extAt g (l.getLastD 0)) = none → ∀ m, l.length ≤ m → ch g m t = l
  | [], t, _, hne, _, _, _ => (hne rfl).elim
  | x :: l, t, hc, _, he, m, hm => by
    obtain ⟨rfl, td, htd, hc'⟩ := hc
    obtain ⟨m, rfl⟩ : ∃ m', m = m' + 1 := ⟨m - 1, by simp at hm; omega⟩
    rw [ch, htd]
    simp only
    cases l with
    | nil =>
      simp only [List.getLastD_cons, List.getLastD_nil, extAt, htd] at he
      cases m with
      | zero => rfl
      | succ m => rw [ch, he]
    | cons y l =>
      rw [chain_end (y :: l) td.ext hc' (by simp) (by simpa [List.getLastD_cons] using he) m (by simp at hm ⊢; omega)]
theorem up_nil {g : Img} {t : Int} (h : typeAt g t = none) : up g t = [] := by rw [up, upGo, h]
theorem Wl.top {g : Img} (hW : Wl g) {t : Int} {td : TD} (ht : typeAt g t = some td) : typeAt g (extAt g ((up g t).getLastD 0)) = none := by
  obtain ⟨r, hr⟩ := up_head ht
  have hh := hW.hang t td ht
  simp only [hangsR, Bool.and_eq_true, extOk, Bool.or_eq_true, Bool.not_eq_true', decide_eq_false_iff_not, beq_iff_eq, decide_eq_true_eq] at hh
  obtain ⟨⟨h1, _⟩, _⟩ := hh
  have hneg : ∀ x : Int, x < 0 → typeAt g x = none := by
    intro x hx; rw [typeAt, if_neg (by omega)]
  by_cases hx : 0 ≤ td.ext
  · rcases h1 with h1 | h1
    · exact (h1 hx).elim
    · have h3 : topExt g t < 0 := h1.2
      have : topExt g t = extAt g ((up g t).getLastD 0) := rfl
      rw [← this]
      exact hneg _ h3
  · have hu : up g t = [t] := by
      rw [up, upGo, ht]
      simp only [List.not_mem_nil, if_false, List.nil_append]
      cases g.types.length with
      | zero => rfl
      | succ n => rw [upGo, hneg _ (by omega)]
    rw [hu]
    simp only [List.getLastD_cons, List.getLastD_nil, extAt, ht]
    exact hneg _ (by omega)
theorem Wl.up_eq {g : Img} (hW : Wl g) (t : Int) : up g t = ch g (g.types.length + 1) t := by
  cases ht : typeAt g t with
  | none => rw [up_nil ht, ch, ht]
  | some td =>
    obtain ⟨r, hr⟩ := up_head ht
    have hui := up_inv g t
    have hul := nodup_le _ _ hui.1 hui.2
    exact (chain_end _ t (up_chain g t) (by rw [hr]; simp) (hW.top ht) _ (by omega)).symm
theorem Wl.up_cons {g : Img} (hW : Wl g) {t : Int} {td : TD} (ht : typeAt g t = some td) : up g t = t :: up g td.ext := by
  obtain ⟨r, hr⟩ := up_head ht
  have hui := up_inv g t
  have hul := nodup_le _ _ hui.1 hui.2
  have h1 := chain_end _ t (up_chain g t) (by rw [hr]; simp) (hW.top ht) (g.types.length + 2) (by omega)
  rw [← h1, ch, ht, hW.up_eq]
theorem Wl.up_len {g : Img} (hW : Wl g) : ∀ (n : Nat) (a b : Int), (up g a).length ≤ n → b ∈ up g a → (∀ x ∈ up g b, x ∈ up g a) ∧ (b = a ∨ (up g b).length < (up g a).length)
  | 0, a, b, hn, hb => by
    have : up g a = [] := List.eq_nil_of_length_eq_zero (by omega)
    rw [this] at hb; simp at hb
  | n + 1, a, b, hn, hb => by
    cases ha : typeAt g a with
    | none => rw [up_nil ha] at hb; simp at hb
    | some td =>
      have e := hW.up_cons ha
      rw [e] at hb hn ⊢
      rcases List.mem_cons.1 hb with rfl | hb
      · rw [e]; exact ⟨fun x hx => hx, .inl rfl⟩
      · obtain ⟨h1, h2⟩ := hW.up_len n td.ext b (by simp at hn; omega) hb
        refine ⟨fun x hx => List.mem_cons_of_mem _ (h1 x hx), .inr ?_⟩
        rcases h2 with rfl | h2
        · simp
        · simp; omega
theorem Wl.up_trans {g : Img} (hW : Wl g) {a b c : Int} (h1 : b ∈ up g a) (h2 : c ∈ up g b) : c ∈ up g a := (hW.up_len _ a b (Nat.le_refl _) h1).1 c h2
theorem Wl.up_anti {g : Img} (hW : Wl g) {a b : Int} (h1 : b ∈ up g a) (h2 : a ∈ up g b) : a = b := by
  rcases (hW.up_len _ a b (Nat.le_refl _) h1).2 with h | h
  · exact h.symm
  · rcases (hW.up_len _ b a (Nat.le_refl _) h2).2 with h' | h'
    · exact h'
    · omega

/-! interfaces are interfaces -/
theorem Wl.face_kind {g : Img} (hW : Wl g) {u f : Int} (h : f ∈ facesAt g u) : kindG g f = 2 := by
  unfold facesAt at h
  cases hu : typeAt g u with
  | none => rw [hu] at h; simp at h
  | some td =>
    rw [hu] at h
    simp only at h
    have hh := hW.hang u td hu
    simp only [hangsR, Bool.and_eq_true, List.all_eq_true, List.mem_range, faceOkR, beq_iff_eq] at hh
    obtain ⟨⟨_, h2⟩, _⟩ := hh
    obtain ⟨j, hj, rfl⟩ := List.getElem_of_mem h
    have := (h2 j hj).1
    rwa [getD_get hj] at this
theorem Wl.rf_kind {g : Img} (hW : Wl g) {t f : Int} (h : RF g t f) : kindG g f = 2 := by
  cases h with
  | base _ hx => obtain ⟨u, _, h⟩ := List.mem_flatMap.1 hx; exact hW.face_kind h
  | step x _ _ hy => exact hW.face_kind hy
theorem kindG_some {g : Img} {t k : Int} (h : kindG g t = k) (hk : 0 ≤ k) : ∃ td, typeAt g t = some td ∧ kindR td.flags = k := by
  unfold kindG at h
  cases ht : typeAt g t with
  | none => rw [ht] at h; simp at h; omega
  | some td => rw [ht] at h; exact ⟨td, rfl, h⟩
theorem Wl.face_up {g : Img} (hW : Wl g) {t : Int} (h : kindG g t = 2) : up g t = [t] := by
  obtain ⟨td, ht, hk⟩ := kindG_some h (by omega)
  have hfl := hW.flag t td ht
  have hext : td.ext = -1 := by
    simp [flaggedR, hk] at hfl
    exact hfl.1.1.1.1
  rw [hW.up_cons ht, hext, up_nil (by rw [typeAt, if_neg (by omega)])]
theorem Wl.face_not {g : Img} (hW : Wl g) {t : Int} (h : kindG g t = 2) : ¬ RF g t t := by
  obtain ⟨td, ht, hk⟩ := kindG_some h (by omega)
  have hh := hW.hang t td ht
  simp only [hangsR, Bool.and_eq_true, Bool.or_eq_true, bne_iff_ne, Bool.not_eq_true', decide_eq_false_iff_not, mem_facesR hW.fm] at hh
  rcases hh.2 with h2 | h2
  · exact (h2 h).elim
  · exact h2
theorem RF.up {g : Img} (hW : Wl g) {a b f : Int} (h : b ∈ up g a) (hf : RF g b f) : RF g a f := by
  induction hf with
  | base x hx =>
    obtain ⟨u, hu, hxu⟩ := List.mem_flatMap.1 hx
    exact .base x (List.mem_flatMap.2 ⟨u, hW.up_trans h hu, hxu⟩)
  | step x y _ hy ih => exact .step x y ih hy
theorem RF.trans {g : Img} (hW : Wl g) {a b f : Int} (h : RF g a b) (hf : RF g b f) : RF g a f := by
  have hu := hW.face_up (hW.rf_kind h)
  induction hf with
  | base x hx =>
    obtain ⟨u, hu', hxu⟩ := List.mem_flatMap.1 hx
    rw [hu] at hu'
    simp at hu'
    subst hu'
    exact .step _ x h hxu
  | step x y _ hy ih => exact .step x y ih hy

/-! the order -/
def Bl (g : Img) (a b : Int) : Prop := b ∈ up g a ∨ RF g a b
theorem belowP_iff {g : Img} (hF : Fm g) {a b : Int} : belowP g a b = true ↔ Bl g a b := by
  simp only [belowP, Bool.or_eq_true, decide_eq_true_eq, mem_facesP hF, Bl]
theorem Wl.trans {g : Img} (hW : Wl g) {a b c : Int} (h1 : Bl g a b) (h2 : Bl g b c) : Bl g a c := by
  rcases h1 with h1 | h1 <;> rcases h2 with h2 | h2
  · exact .inl (hW.up_trans h1 h2)
  · exact .inr (h2.up hW h1)
  · rw [hW.face_up (hW.rf_kind h1)] at h2
    simp at h2; subst h2; exact .inr h1
  · exact .inr (RF.trans hW h1 h2)
theorem Wl.anti {g : Img} (hW : Wl g) {a b : Int} (h1 : Bl g a b) (h2 : Bl g b a) : a = b := by
  rcases h1 with h1 | h1 <;> rcases h2 with h2 | h2
  · exact hW.up_anti h1 h2
  · rw [hW.face_up (hW.rf_kind h2)] at h1
    simp at h1; exact h1.symm
  · rw [hW.face_up (hW.rf_kind h1)] at h2
    simp at h2; exact h2
  · exact (hW.face_not (hW.rf_kind h2) (RF.trans hW h1 h2)).elim
theorem Wl.refl {g : Img} (hW : Wl g) {a : Int} {td : TD} (h : typeAt g a = some td) : Bl g a a := by
  rw [Bl, hW.up_cons h]; simp
end Go.Cg
