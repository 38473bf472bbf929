/- A part of the walks by abstract values: no statement of its own. -/
import Derived.Test.YtkbdoobcgifaaaaGreatA27
import Derived.Test.YtkbdoobcgifaaaaGreatSort
namespace Go.Cg
open Go.Proofs

/-- What 'reach' owns: a set, and the list of what is in it. -/
abbrev hR (met : List Int) : HEnv := [(0, .cell (.own 2)), (1, .cell (.own 3)), (2, .obj (MapSet Tryz.prog 3 3 met)), (3, .row 3 1 (met.map pi))]
structure GOk (G : HEnv) : Prop where
  kill : killH 3 G = G
  ids : ∀ i h, HEnv.get G i = some h → 4 ≤ i
  inn : ∀ met, hIn (hR met ++ G) G = true
theorem hR_hi {met : List Int} {G : HEnv} {i : Nat} (h : 4 ≤ i) : HEnv.get (hR met ++ G) i = HEnv.get G i := by
  rw [get_append]
  have : HEnv.get (hR met) i = none := by
    simp only [hR, HEnv.get_cons, HEnv.get_nil]
    rw [if_neg (by omega), if_neg (by omega), if_neg (by omega), if_neg (by omega)]
  rw [this]
theorem GOk.killHE {G : HEnv} (hG : GOk G) {i : Nat} {h : HE} (hg : HEnv.get G i = some h) : Cg.killHE 3 h = h := by
  have := killH_get 3 G i
  rw [hG.kill, hg] at this
  simpa using this.symm
theorem hfitR {H : HEnv} {met : List Int} {G : HEnv} {env' : Env} (hG : GOk G) (h0 : H.get 0 = some (.cell (.own 2))) (h1 : H.get 1 = some (.cell (.own 3))) (h2 : H.get 2 = some (.obj (MapSet Tryz.prog 3 3 met))) (h3 : H.get 3 = some (.row 3 1 (met.map pi)))
    (hr : ∀ i h, 4 ≤ i → HEnv.get G i = some h → H.get i = some h) (he : envIn (hR met ++ G) env' = true) : HFit H (hR met ++ G) env' := by
  refine ⟨fun i h hi => ?_, ?_⟩
  · by_cases h4 : 4 ≤ i
    · rw [hR_hi h4] at hi; exact hr i h h4 hi
    · have : i = 0 ∨ i = 1 ∨ i = 2 ∨ i = 3 := by omega
      rw [get_append] at hi
      rcases this with rfl | rfl | rfl | rfl
      · rw [h0]; exact hi
      · rw [h1]; exact hi
      · rw [h2]; exact hi
      · rw [h3]; exact hi
  · rw [he, Bool.true_and]
    show (true && (true && hIn (hR met ++ G) G)) = true
    rw [hG.inn]; rfl
theorem hi_same {i : Nat} (h : HE) (met : List Int) (G : HEnv) (h4 : 4 ≤ i) (hg : HEnv.get G i = some h) : HEnv.get (hR met ++ G) i = some h := by rw [hR_hi h4]; exact hg
theorem wf_small {x : Int} (h : 0 ≤ x ∧ x < 100000) : (Lit.int .i64 x).wf = true := by
  simp [Lit.wf, IntKind.has, IntKind.min, IntKind.max, IntKind.bits, IntKind.signed]; omega

theorem put_call (l met : List Int) (G : HEnv) (hG : GOk G) (hx : ∀ x ∈ l, 0 ≤ x ∧ x < 100000) (hlen : met.length + l.length ≤ 100000) :
    ACallH Tryz.prog 43 [.pv (ints l), .box 0 0, .box 1 0] (hR met ++ G) (hR (l.foldl addP met) ++ G) := by
  refine acallH_intro Tryz.func43 rfl (by kernel_rfl) Tryz.ntmps43 (by simp) rfl (fun gB => ?_)
  repeat' (first | (refine ao_sh_store ?_; first | refine ao_store tbOK rfl rfl rfl rfl rfl rfl rfl rfl rfl ?_) | (refine ao_sh_alloc ?_; first | refine ao_alloc tbOK 0 rfl rfl rfl rfl rfl rfl rfl ?_ | refine ao_alloc tbOK 1 rfl rfl rfl rfl rfl rfl rfl ?_ | refine ao_alloc tbOK 2 rfl rfl rfl rfl rfl rfl rfl ?_ | refine ao_alloc tbOK 3 rfl rfl rfl rfl rfl rfl rfl ?_ | refine ao_alloc tbOK 4 rfl rfl rfl rfl rfl rfl rfl ?_ | refine ao_alloc tbOK 5 rfl rfl rfl rfl rfl rfl rfl ?_) | (refine ao_id ?_; first | refine ao_step tbOK rfl rfl rfl rfl ?_ | refine ao_nil ?_ | refine ao_skip rfl rfl rfl ?_ | (refine ao_caseB true rfl rfl ?_ ?_; · (assumption)) | (refine ao_caseB false rfl rfl ?_ ?_; · (assumption)) | refine ao_case rfl rfl (fun _ => ?_) (fun _ => ?_)) | (refine ad_id ?_; first | refine AD.step _ _ _ _ _ rfl (opE_sound tbOK rfl) rfl rfl ?_ | refine AD.nil _ ?_ | refine AD.skip _ _ _ _ rfl rfl rfl ?_ | (refine ad_caseB true rfl rfl ?_ ?_; · (assumption)) | (refine ad_caseB false rfl rfl ?_ ?_; · (assumption)) | refine ad_case rfl rfl (fun _ => ?_) (fun _ => ?_)) | refine aw_seq ?_ | refine aw_region ?_ | refine aw_block ?_ | (refine aw_sh_cond ?_; first | refine aw_cond_true rfl ?_ | refine aw_cond_false rfl ?_ | (refine aw_condT rfl ?_ ?_; · (assumption)) | (refine aw_condF rfl ?_ ?_; · (assumption)) | refine aw_cond rfl (fun _ => ?_) (fun _ => ?_)) | refine aw_skip ?_ | refine aw_exit ?_ | refine aw_ret ?_ | refine aw_draw (by kernel_rfl) (by kernel_rfl) ?_)
  refine aw_loop (fun x : Nat × List Int => [(1, .box 0 0), (2, .box 1 0), (6, .pv (ints l)), (7, .pv (pi l.length)), (8, .pv (pi x.1))]) (fun x => hR x.2 ++ G)
    (fun x => x.1 ≤ l.length ∧ x.2.length ≤ met.length + x.1 ∧ (l.drop x.1).foldl addP x.2 = l.foldl addP met) (fun x => l.length - x.1) (0, met) ⟨by simp, by simp, rfl⟩ (by repeat (first | exact sub_nil | refine sub_cons rfl ?_ | (refine sub_i rfl ?_ ?_; · (first | (rw [wrap_in (by omega) (by omega)] <;> omega) | (dsimp only; rw [wrap_in (by omega) (by omega)] <;> omega) | (simp; done))))) (hfitR hG rfl rfl rfl rfl (fun i h h4 hg => hi_same h met G h4 hg) rfl) ?_
  rintro ⟨k, m⟩ ⟨hk, hml, hr⟩
  simp only at hk hml hr
  by_cases hlt : k < l.length
  · have he := ints_get hlt
    rw [drop_foldl hlt] at hr
    have hwf := wf_small (hx _ (List.getElem_mem hlt))
    by_cases hm : l[k] ∈ m
    · rw [show addP m l[k] = m by simp [addP, hm]] at hr
      repeat' (first | refine ao_q rfl (q_lookupC (c := 1) (if_pos hm) tbOK rfl rfl rfl rfl rfl rfl rfl rfl hwf) rfl rfl ?_ | (refine ao_sh_ix ?_; first | refine ao_q rfl (q_index tbOK rfl rfl rfl rfl rfl rfl (by omega) he) rfl rfl ?_) | (refine ao_sh_store ?_; first | refine ao_store tbOK rfl rfl rfl rfl rfl rfl rfl rfl rfl ?_) | (refine ao_sh_alloc ?_; first | refine ao_alloc tbOK 0 rfl rfl rfl rfl rfl rfl rfl ?_ | refine ao_alloc tbOK 1 rfl rfl rfl rfl rfl rfl rfl ?_ | refine ao_alloc tbOK 2 rfl rfl rfl rfl rfl rfl rfl ?_ | refine ao_alloc tbOK 3 rfl rfl rfl rfl rfl rfl rfl ?_ | refine ao_alloc tbOK 4 rfl rfl rfl rfl rfl rfl rfl ?_ | refine ao_alloc tbOK 5 rfl rfl rfl rfl rfl rfl rfl ?_) | (refine ao_id ?_; first | refine ao_step tbOK rfl rfl rfl rfl ?_ | refine ao_nil ?_ | refine ao_skip rfl rfl rfl ?_ | (refine ao_caseB true rfl rfl ?_ ?_; · (first | assumption | (simp <;> omega))) | (refine ao_caseB false rfl rfl ?_ ?_; · (first | assumption | (simp <;> omega))) | refine ao_case rfl rfl (fun _ => ?_) (fun _ => ?_)) | (refine ad_sh_ix ?_; first | refine AD.step _ _ _ _ _ rfl (q_index tbOK rfl rfl rfl rfl rfl rfl (by omega) he) rfl rfl ?_) | (refine ad_id ?_; first | refine AD.step _ _ _ _ _ rfl (opE_sound tbOK rfl) rfl rfl ?_ | refine AD.nil _ ?_ | refine AD.skip _ _ _ _ rfl rfl rfl ?_ | (refine ad_caseB true rfl rfl ?_ ?_; · (first | assumption | (simp <;> omega))) | (refine ad_caseB false rfl rfl ?_ ?_; · (first | assumption | (simp <;> omega))) | refine ad_case rfl rfl (fun _ => ?_) (fun _ => ?_)) | refine aw_seq ?_ | refine aw_region ?_ | refine aw_block ?_ | (refine aw_sh_cond ?_; first | refine aw_cond_true rfl ?_ | refine aw_cond_false rfl ?_ | (refine aw_condT rfl ?_ ?_; · (first | assumption | (simp <;> omega))) | (refine aw_condF rfl ?_ ?_; · (first | assumption | (simp <;> omega))) | refine aw_cond rfl (fun _ => ?_) (fun _ => ?_)) | refine aw_skip ?_ | refine aw_exit ?_ | refine aw_ret ?_ | refine aw_draw (by kernel_rfl) (by kernel_rfl) ?_)
      refine ⟨(k + 1, m), ⟨hlt, by simp; omega, hr⟩, (by dsimp only; omega), by repeat (first | exact sub_nil | refine sub_cons rfl ?_ | (refine sub_i rfl ?_ ?_; · (first | (rw [wrap_in (by omega) (by omega)] <;> omega) | (dsimp only; rw [wrap_in (by omega) (by omega)] <;> omega) | (simp; done)))), hfitR hG rfl rfl rfl rfl (fun i h h4 hg => hi_same h m G h4 hg) rfl⟩
    · rw [show addP m l[k] = m ++ [l[k]] by simp [addP, hm]] at hr
      repeat' (first | refine ao_q rfl (q_lookupC (c := 0) (if_neg hm) tbOK rfl rfl rfl rfl rfl rfl rfl rfl hwf) rfl rfl ?_ | refine ao_mapUpdate tbOK rfl rfl rfl rfl rfl rfl rfl rfl rfl hwf (by simp [maxLen]; omega) rfl ?_ | (refine ao_sh_ix ?_; first | refine ao_q rfl (q_index tbOK rfl rfl rfl rfl rfl rfl (by omega) he) rfl rfl ?_) | (refine ao_sh_bi ?_; first | refine ao_append tbOK rfl rfl rfl rfl rfl rfl rfl (by show _ * 8 ≤ _; simp; omega) (by simp; omega) rfl rfl ?_) | (refine ao_sh_store ?_; first | refine ao_store tbOK rfl rfl rfl rfl rfl rfl rfl rfl rfl ?_) | (refine ao_sh_alloc ?_; first | refine ao_alloc tbOK 0 rfl rfl rfl rfl rfl rfl rfl ?_ | refine ao_alloc tbOK 1 rfl rfl rfl rfl rfl rfl rfl ?_ | refine ao_alloc tbOK 2 rfl rfl rfl rfl rfl rfl rfl ?_ | refine ao_alloc tbOK 3 rfl rfl rfl rfl rfl rfl rfl ?_ | refine ao_alloc tbOK 4 rfl rfl rfl rfl rfl rfl rfl ?_ | refine ao_alloc tbOK 5 rfl rfl rfl rfl rfl rfl rfl ?_) | (refine ao_id ?_; first | refine ao_step tbOK rfl rfl rfl rfl ?_ | refine ao_nil ?_ | refine ao_skip rfl rfl rfl ?_ | (refine ao_caseB true rfl rfl ?_ ?_; · (first | assumption | (simp <;> omega))) | (refine ao_caseB false rfl rfl ?_ ?_; · (first | assumption | (simp <;> omega))) | refine ao_case rfl rfl (fun _ => ?_) (fun _ => ?_)) | (refine ad_sh_ix ?_; first | refine AD.step _ _ _ _ _ rfl (q_index tbOK rfl rfl rfl rfl rfl rfl (by omega) he) rfl rfl ?_) | (refine ad_id ?_; first | refine AD.step _ _ _ _ _ rfl (opE_sound tbOK rfl) rfl rfl ?_ | refine AD.nil _ ?_ | refine AD.skip _ _ _ _ rfl rfl rfl ?_ | (refine ad_caseB true rfl rfl ?_ ?_; · (first | assumption | (simp <;> omega))) | (refine ad_caseB false rfl rfl ?_ ?_; · (first | assumption | (simp <;> omega))) | refine ad_case rfl rfl (fun _ => ?_) (fun _ => ?_)) | refine aw_seq ?_ | refine aw_region ?_ | refine aw_block ?_ | (refine aw_sh_cond ?_; first | refine aw_cond_true rfl ?_ | refine aw_cond_false rfl ?_ | (refine aw_condT rfl ?_ ?_; · (first | assumption | (simp <;> omega))) | (refine aw_condF rfl ?_ ?_; · (first | assumption | (simp <;> omega))) | refine aw_cond rfl (fun _ => ?_) (fun _ => ?_)) | refine aw_skip ?_ | refine aw_exit ?_ | refine aw_ret ?_ | refine aw_draw (by kernel_rfl) (by kernel_rfl) ?_)
      refine ⟨(k + 1, m ++ [l[k]]), ⟨hlt, by simp; omega, hr⟩, (by dsimp only; omega), by repeat (first | exact sub_nil | refine sub_cons rfl ?_ | (refine sub_i rfl ?_ ?_; · (first | (rw [wrap_in (by omega) (by omega)] <;> omega) | (dsimp only; rw [wrap_in (by omega) (by omega)] <;> omega) | (simp; done)))), hfitR hG rfl rfl rfl (by show some (HE.row 3 1 _) = _; simp) (fun i h h4 hg => ?_) rfl⟩
      rw [HEnv.get_cons, if_neg (by omega), HEnv.get_cons, if_neg (by omega), killH_get, HEnv.get_cons, if_neg (by omega), hR_hi h4, hg]
      simp [hG.killHE hg]
  · rw [drop_end (by omega)] at hr
    simp only [List.foldl_nil] at hr
    subst hr
    repeat' (first | (refine ao_sh_store ?_; first | refine ao_store tbOK rfl rfl rfl rfl rfl rfl rfl rfl rfl ?_) | (refine ao_sh_alloc ?_; first | refine ao_alloc tbOK 0 rfl rfl rfl rfl rfl rfl rfl ?_ | refine ao_alloc tbOK 1 rfl rfl rfl rfl rfl rfl rfl ?_ | refine ao_alloc tbOK 2 rfl rfl rfl rfl rfl rfl rfl ?_ | refine ao_alloc tbOK 3 rfl rfl rfl rfl rfl rfl rfl ?_ | refine ao_alloc tbOK 4 rfl rfl rfl rfl rfl rfl rfl ?_ | refine ao_alloc tbOK 5 rfl rfl rfl rfl rfl rfl rfl ?_) | (refine ao_id ?_; first | refine ao_step tbOK rfl rfl rfl rfl ?_ | refine ao_nil ?_ | refine ao_skip rfl rfl rfl ?_ | (refine ao_caseB true rfl rfl ?_ ?_; · (first | assumption | (simp <;> omega))) | (refine ao_caseB false rfl rfl ?_ ?_; · (first | assumption | (simp <;> omega))) | refine ao_case rfl rfl (fun _ => ?_) (fun _ => ?_)) | (refine ad_id ?_; first | refine AD.step _ _ _ _ _ rfl (opE_sound tbOK rfl) rfl rfl ?_ | refine AD.nil _ ?_ | refine AD.skip _ _ _ _ rfl rfl rfl ?_ | (refine ad_caseB true rfl rfl ?_ ?_; · (first | assumption | (simp <;> omega))) | (refine ad_caseB false rfl rfl ?_ ?_; · (first | assumption | (simp <;> omega))) | refine ad_case rfl rfl (fun _ => ?_) (fun _ => ?_)) | refine aw_seq ?_ | refine aw_region ?_ | refine aw_block ?_ | (refine aw_sh_cond ?_; first | refine aw_cond_true rfl ?_ | refine aw_cond_false rfl ?_ | (refine aw_condT rfl ?_ ?_; · (first | assumption | (simp <;> omega))) | (refine aw_condF rfl ?_ ?_; · (first | assumption | (simp <;> omega))) | refine aw_cond rfl (fun _ => ?_) (fun _ => ?_)) | refine aw_skip ?_ | refine aw_exit ?_ | refine aw_ret ?_ | refine aw_draw (by kernel_rfl) (by kernel_rfl) ?_)
    exact ⟨.inl rfl, hfitR hG rfl rfl rfl rfl (fun i h h4 hg => hi_same h _ G h4 hg) rfl⟩

def reachGo (step : Int → List Int) : Nat → Nat → List Int → List Int
  | 0, _, met => met
  | n + 1, i, met => match met[i]? with | some u => reachGo step n (i + 1) ((step u).foldl addP met) | none => met
def reachL (N : Nat) (step : Int → List Int) (l : List Int) : List Int := reachGo step (N + 1) 0 (l.foldl addP [])
/-- No number twice, all below a bound. -/
def NInv (N : Nat) (met : List Int) : Prop := met.Nodup ∧ ∀ y ∈ met, 0 ≤ y ∧ y < N
theorem NInv.len {N : Nat} {met : List Int} (h : NInv N met) : met.length ≤ N := nodup_le _ _ h.1 h.2
theorem NInv.add {N : Nat} {met : List Int} (h : NInv N met) {x : Int} (hx : 0 ≤ x ∧ x < N) : NInv N (addP met x) := by
  unfold addP
  split
  · exact h
  · rename_i hn
    refine ⟨?_, ?_⟩
    · rw [List.nodup_append]; simp [h.1]; intro b hb e; subst e; exact hn hb
    · intro y hy
      simp only [List.mem_append, List.mem_singleton] at hy
      rcases hy with hy | rfl
      · exact h.2 y hy
      · exact hx
theorem NInv.fold {N : Nat} : ∀ (l : List Int) {met : List Int}, NInv N met → (∀ x ∈ l, 0 ≤ x ∧ x < N) → NInv N (l.foldl addP met)
  | [], _, h, _ => h
  | f :: l, _, h, hl => NInv.fold l (h.add (hl f (by simp))) fun x hx => hl x (by simp [hx])

theorem fold_addP_len : ∀ (l met : List Int), met.length ≤ (l.foldl addP met).length
  | [], met => Nat.le_refl _
  | x :: l, met => by
    refine Nat.le_trans ?_ (fold_addP_len l (addP met x))
    unfold addP; split <;> simp
theorem gOk_pins {us : Nat → Value} {env2 : Env} (h1 : killH 3 (pinsOf us 100 env2) = pinsOf us 100 env2) (h2 : ∀ met, hIn (hR met ++ pinsOf us 100 env2) (pinsOf us 100 env2) = true) : GOk (pinsOf us 100 env2) :=
  ⟨h1, fun i h hg => by have := (pins_get hg).1; omega, h2⟩

theorem reach_call (N : Nat) (hN : N ≤ 1000) (l : List Int) (step : Int → List Int) (f : FuncId) (first cap : List PV) (hl : ∀ x ∈ l, 0 ≤ x ∧ x < N) (hll : l.length ≤ 10000)
    (hs : ∀ x : Int, 0 ≤ x → x < (N : Int) → ACall Tryz.prog f (first ++ [pi x] ++ cap) (ints (step x))) (hst : ∀ x : Int, 0 ≤ x → x < (N : Int) → (step x).length ≤ 10000 ∧ ∀ y ∈ step x, 0 ≤ y ∧ y < N) :
    ACall Tryz.prog 23 [ints l, .fn (.func f) first cap] (ints (sortL (reachL N step l))) := by
  refine acall_intro tbOK Tryz.func23 rfl (by kernel_rfl) Tryz.ntmps23 (by simp) _ rfl (fun hw gB => ?_)
  have hm0 : NInv N (l.foldl addP []) := NInv.fold l ⟨by simp, by simp⟩ hl
  repeat' (first | refine ao_makeMap (kt := 3) (et := 3) 2 rfl rfl rfl rfl rfl ?_ | refine aw_own_nil_cell 1 3 3 1 (by decide) rfl rfl ?_ | (refine ao_sh_store ?_; first | refine ao_store tbOK rfl rfl rfl rfl rfl rfl rfl rfl rfl ?_) | (refine ao_sh_alloc ?_; first | refine ao_alloc tbOK 0 rfl rfl rfl rfl rfl rfl rfl ?_ | refine ao_alloc tbOK 1 rfl rfl rfl rfl rfl rfl rfl ?_ | refine ao_alloc tbOK 2 rfl rfl rfl rfl rfl rfl rfl ?_ | refine ao_alloc tbOK 3 rfl rfl rfl rfl rfl rfl rfl ?_ | refine ao_alloc tbOK 4 rfl rfl rfl rfl rfl rfl rfl ?_ | refine ao_alloc tbOK 5 rfl rfl rfl rfl rfl rfl rfl ?_) | (refine ao_id ?_; first | refine ao_step tbOK rfl rfl rfl rfl ?_ | refine ao_nil ?_ | refine ao_skip rfl rfl rfl ?_ | (refine ao_caseB true rfl rfl ?_ ?_; · (assumption)) | (refine ao_caseB false rfl rfl ?_ ?_; · (assumption)) | refine ao_case rfl rfl (fun _ => ?_) (fun _ => ?_)) | (refine ad_id ?_; first | refine AD.step _ _ _ _ _ rfl (opE_sound tbOK rfl) rfl rfl ?_ | refine AD.nil _ ?_ | refine AD.skip _ _ _ _ rfl rfl rfl ?_ | (refine ad_caseB true rfl rfl ?_ ?_; · (assumption)) | (refine ad_caseB false rfl rfl ?_ ?_; · (assumption)) | refine ad_case rfl rfl (fun _ => ?_) (fun _ => ?_)) | refine aw_seq ?_ | refine aw_region ?_ | refine aw_block ?_ | (refine aw_sh_cond ?_; first | refine aw_cond_true rfl ?_ | refine aw_cond_false rfl ?_ | (refine aw_condT rfl ?_ ?_; · (assumption)) | (refine aw_condF rfl ?_ ?_; · (assumption)) | refine aw_cond rfl (fun _ => ?_) (fun _ => ?_)) | refine aw_skip ?_ | refine aw_exit ?_ | refine aw_ret ?_ | refine aw_draw (by kernel_rfl) (by kernel_rfl) ?_)
  refine ao_weak [(0, .pv (ints l)), (1, .pv (.fn (.func f) first cap)), (5, .box 0 0), (6, .box 1 0), (7, .fn (.func 43) [] [.box 0 0, .box 1 0]), (11, .fn (.func 43) [] [.box 0 0, .box 1 0]), (12, .pv (ints l))] (hR []) (by repeat (first | exact sub_nil | refine sub_cons rfl ?_ | (refine sub_i rfl ?_ ?_; · (first | (rw [wrap_in (by omega) (by omega)] <;> omega) | (dsimp only; rw [wrap_in (by omega) (by omega)] <;> omega) | (simp; done)))))
    ⟨by repeat (first | exact hsub_nil | refine hsub_cons rfl ?_), rfl⟩ ?_
  refine ao_callH [(1, .pv (.fn (.func f) first cap)), (5, .box 0 0), (6, .box 1 0), (7, .fn (.func 43) [] [.box 0 0, .box 1 0])] (hR (l.foldl addP [])) 100 rfl rfl rfl rfl (by repeat (first | exact sub_nil | refine sub_cons rfl ?_ | (refine sub_i rfl ?_ ?_; · (first | (rw [wrap_in (by omega) (by omega)] <;> omega) | (dsimp only; rw [wrap_in (by omega) (by omega)] <;> omega) | (simp; done))))) rfl rfl rfl rfl rfl rfl
    (fun us => put_call l [] _ (gOk_pins rfl (fun _ => rfl)) (fun x hx => by have := hl x hx; omega) (by simp; omega)) ?_
  repeat' (first | (refine ao_sh_store ?_; first | refine ao_store tbOK rfl rfl rfl rfl rfl rfl rfl rfl rfl ?_) | (refine ao_sh_alloc ?_; first | refine ao_alloc tbOK 0 rfl rfl rfl rfl rfl rfl rfl ?_ | refine ao_alloc tbOK 1 rfl rfl rfl rfl rfl rfl rfl ?_ | refine ao_alloc tbOK 2 rfl rfl rfl rfl rfl rfl rfl ?_ | refine ao_alloc tbOK 3 rfl rfl rfl rfl rfl rfl rfl ?_ | refine ao_alloc tbOK 4 rfl rfl rfl rfl rfl rfl rfl ?_ | refine ao_alloc tbOK 5 rfl rfl rfl rfl rfl rfl rfl ?_) | (refine ao_id ?_; first | refine ao_step tbOK rfl rfl rfl rfl ?_ | refine ao_nil ?_ | refine ao_skip rfl rfl rfl ?_ | (refine ao_caseB true rfl rfl ?_ ?_; · (assumption)) | (refine ao_caseB false rfl rfl ?_ ?_; · (assumption)) | refine ao_case rfl rfl (fun _ => ?_) (fun _ => ?_)) | (refine ad_id ?_; first | refine AD.step _ _ _ _ _ rfl (opE_sound tbOK rfl) rfl rfl ?_ | refine AD.nil _ ?_ | refine AD.skip _ _ _ _ rfl rfl rfl ?_ | (refine ad_caseB true rfl rfl ?_ ?_; · (assumption)) | (refine ad_caseB false rfl rfl ?_ ?_; · (assumption)) | refine ad_case rfl rfl (fun _ => ?_) (fun _ => ?_)) | refine aw_seq ?_ | refine aw_region ?_ | refine aw_block ?_ | (refine aw_sh_cond ?_; first | refine aw_cond_true rfl ?_ | refine aw_cond_false rfl ?_ | (refine aw_condT rfl ?_ ?_; · (assumption)) | (refine aw_condF rfl ?_ ?_; · (assumption)) | refine aw_cond rfl (fun _ => ?_) (fun _ => ?_)) | refine aw_skip ?_ | refine aw_exit ?_ | refine aw_ret ?_ | refine aw_draw (by kernel_rfl) (by kernel_rfl) ?_)
  refine aw_loop (fun x : Nat × List Int => [(1, .pv (.fn (.func f) first cap)), (5, .box 0 0), (6, .box 1 0), (7, .fn (.func 43) [] [.box 0 0, .box 1 0]), (8, .pv (pi x.1))]) (fun x => hR x.2)
    (fun x => x.1 ≤ x.2.length ∧ NInv N x.2 ∧ reachGo step (N + 1 - x.1) x.1 x.2 = reachL N step l) (fun x => N + 1 - x.1) (0, l.foldl addP []) ⟨by simp, hm0, rfl⟩ (by repeat (first | exact sub_nil | refine sub_cons rfl ?_ | (refine sub_i rfl ?_ ?_; · (first | (rw [wrap_in (by omega) (by omega)] <;> omega) | (dsimp only; rw [wrap_in (by omega) (by omega)] <;> omega) | (simp; done))))) ⟨by repeat (first | exact hsub_nil | refine hsub_cons rfl ?_), rfl⟩ ?_
  rintro ⟨i, met⟩ ⟨hi, hmi, hr⟩
  simp only at hi hmi hr
  have hml := hmi.len
  rw [show N + 1 - i = (N - i) + 1 by omega, reachGo] at hr
  by_cases hlt : i < met.length
  · have heU := ints_get hlt
    rw [List.getElem?_eq_getElem hlt] at hr
    simp only at hr
    obtain ⟨hu0, hu1⟩ := hmi.2 _ (List.getElem_mem hlt)
    obtain ⟨hs1, hs2⟩ := hst _ hu0 hu1
    have c1 := hs _ hu0 hu1
    repeat' (first | (refine ao_sh_call ?_; first | refine ao_q rfl (q_callv rfl rfl rfl (c1)) rfl rfl ?_) | (refine ao_sh_ix ?_; first | refine ao_q rfl (q_index tbOK rfl rfl rfl rfl rfl rfl (by omega) heU) rfl rfl ?_) | (refine ao_sh_store ?_; first | refine ao_store tbOK rfl rfl rfl rfl rfl rfl rfl rfl rfl ?_) | (refine ao_sh_alloc ?_; first | refine ao_alloc tbOK 0 rfl rfl rfl rfl rfl rfl rfl ?_ | refine ao_alloc tbOK 1 rfl rfl rfl rfl rfl rfl rfl ?_ | refine ao_alloc tbOK 2 rfl rfl rfl rfl rfl rfl rfl ?_ | refine ao_alloc tbOK 3 rfl rfl rfl rfl rfl rfl rfl ?_ | refine ao_alloc tbOK 4 rfl rfl rfl rfl rfl rfl rfl ?_ | refine ao_alloc tbOK 5 rfl rfl rfl rfl rfl rfl rfl ?_) | (refine ao_id ?_; first | refine ao_step tbOK rfl rfl rfl rfl ?_ | refine ao_nil ?_ | refine ao_skip rfl rfl rfl ?_ | (refine ao_caseB true rfl rfl ?_ ?_; · (first | assumption | (simp <;> omega))) | (refine ao_caseB false rfl rfl ?_ ?_; · (first | assumption | (simp <;> omega))) | refine ao_case rfl rfl (fun _ => ?_) (fun _ => ?_)) | (refine ad_sh_call ?_; first | refine AD.step _ _ _ _ _ rfl (q_callv rfl rfl rfl (c1)) rfl rfl ?_) | (refine ad_sh_ix ?_; first | refine AD.step _ _ _ _ _ rfl (q_index tbOK rfl rfl rfl rfl rfl rfl (by omega) heU) rfl rfl ?_) | (refine ad_id ?_; first | refine AD.step _ _ _ _ _ rfl (opE_sound tbOK rfl) rfl rfl ?_ | refine AD.nil _ ?_ | refine AD.skip _ _ _ _ rfl rfl rfl ?_ | (refine ad_caseB true rfl rfl ?_ ?_; · (first | assumption | (simp <;> omega))) | (refine ad_caseB false rfl rfl ?_ ?_; · (first | assumption | (simp <;> omega))) | refine ad_case rfl rfl (fun _ => ?_) (fun _ => ?_)) | refine aw_seq ?_ | refine aw_region ?_ | refine aw_block ?_ | (refine aw_sh_cond ?_; first | refine aw_cond_true rfl ?_ | refine aw_cond_false rfl ?_ | (refine aw_condT rfl ?_ ?_; · (first | assumption | (simp <;> omega))) | (refine aw_condF rfl ?_ ?_; · (first | assumption | (simp <;> omega))) | refine aw_cond rfl (fun _ => ?_) (fun _ => ?_)) | refine aw_skip ?_ | refine aw_exit ?_ | refine aw_ret ?_ | refine aw_draw (by kernel_rfl) (by kernel_rfl) ?_)
    refine ao_callH [(1, .pv (.fn (.func f) first cap)), (5, .box 0 0), (6, .box 1 0), (7, .fn (.func 43) [] [.box 0 0, .box 1 0]), (8, .pv (pi i))] (hR ((step met[i]).foldl addP met)) 100 rfl rfl rfl rfl (by repeat (first | exact sub_nil | refine sub_cons rfl ?_ | (refine sub_i rfl ?_ ?_; · (first | (rw [wrap_in (by omega) (by omega)] <;> omega) | (dsimp only; rw [wrap_in (by omega) (by omega)] <;> omega) | (simp; done))))) rfl rfl rfl rfl rfl rfl
      (fun us => put_call _ met _ (gOk_pins rfl (fun _ => rfl)) (fun x hx => by have := hs2 x hx; omega) (by omega)) ?_
    repeat' (first | (refine ao_sh_store ?_; first | refine ao_store tbOK rfl rfl rfl rfl rfl rfl rfl rfl rfl ?_) | (refine ao_sh_alloc ?_; first | refine ao_alloc tbOK 0 rfl rfl rfl rfl rfl rfl rfl ?_ | refine ao_alloc tbOK 1 rfl rfl rfl rfl rfl rfl rfl ?_ | refine ao_alloc tbOK 2 rfl rfl rfl rfl rfl rfl rfl ?_ | refine ao_alloc tbOK 3 rfl rfl rfl rfl rfl rfl rfl ?_ | refine ao_alloc tbOK 4 rfl rfl rfl rfl rfl rfl rfl ?_ | refine ao_alloc tbOK 5 rfl rfl rfl rfl rfl rfl rfl ?_) | (refine ao_id ?_; first | refine ao_step tbOK rfl rfl rfl rfl ?_ | refine ao_nil ?_ | refine ao_skip rfl rfl rfl ?_ | (refine ao_caseB true rfl rfl ?_ ?_; · (first | assumption | (simp <;> omega))) | (refine ao_caseB false rfl rfl ?_ ?_; · (first | assumption | (simp <;> omega))) | refine ao_case rfl rfl (fun _ => ?_) (fun _ => ?_)) | (refine ad_id ?_; first | refine AD.step _ _ _ _ _ rfl (opE_sound tbOK rfl) rfl rfl ?_ | refine AD.nil _ ?_ | refine AD.skip _ _ _ _ rfl rfl rfl ?_ | (refine ad_caseB true rfl rfl ?_ ?_; · (first | assumption | (simp <;> omega))) | (refine ad_caseB false rfl rfl ?_ ?_; · (first | assumption | (simp <;> omega))) | refine ad_case rfl rfl (fun _ => ?_) (fun _ => ?_)) | refine aw_seq ?_ | refine aw_region ?_ | refine aw_block ?_ | (refine aw_sh_cond ?_; first | refine aw_cond_true rfl ?_ | refine aw_cond_false rfl ?_ | (refine aw_condT rfl ?_ ?_; · (first | assumption | (simp <;> omega))) | (refine aw_condF rfl ?_ ?_; · (first | assumption | (simp <;> omega))) | refine aw_cond rfl (fun _ => ?_) (fun _ => ?_)) | refine aw_skip ?_ | refine aw_exit ?_ | refine aw_ret ?_ | refine aw_draw (by kernel_rfl) (by kernel_rfl) ?_)
    have hmi2 := NInv.fold _ hmi hs2
    refine ⟨(i + 1, (step met[i]).foldl addP met), ⟨?_, hmi2, ?_⟩, by simp only; omega, by repeat (first | exact sub_nil | refine sub_cons rfl ?_ | (refine sub_i rfl ?_ ?_; · (first | (rw [wrap_in (by omega) (by omega)] <;> omega) | (dsimp only; rw [wrap_in (by omega) (by omega)] <;> omega) | (simp; done)))), ⟨by repeat (first | exact hsub_nil | refine hsub_cons rfl ?_), rfl⟩⟩
    · have := fold_addP_len (step met[i]) met
      simp only; omega
    · simp only
      rw [show N + 1 - (i + 1) = N - i by omega]; exact hr
  · rw [List.getElem?_eq_none (by omega)] at hr
    simp only at hr
    subst hr
    repeat' (first | refine ao_sort [(6, .box 1 0)] rfl rfl ⟨Tryz.f44, Tryz.func44, rfl, by kernel_rfl⟩ rfl rfl (by simp only; omega) (by repeat (first | exact sub_nil | refine sub_cons rfl ?_ | (refine sub_i rfl ?_ ?_; · (first | (rw [wrap_in (by omega) (by omega)] <;> omega) | (dsimp only; rw [wrap_in (by omega) (by omega)] <;> omega) | (simp; done))))) rfl rfl rfl rfl ?_ | (refine ao_sh_store ?_; first | refine ao_store tbOK rfl rfl rfl rfl rfl rfl rfl rfl rfl ?_) | (refine ao_sh_alloc ?_; first | refine ao_alloc tbOK 0 rfl rfl rfl rfl rfl rfl rfl ?_ | refine ao_alloc tbOK 1 rfl rfl rfl rfl rfl rfl rfl ?_ | refine ao_alloc tbOK 2 rfl rfl rfl rfl rfl rfl rfl ?_ | refine ao_alloc tbOK 3 rfl rfl rfl rfl rfl rfl rfl ?_ | refine ao_alloc tbOK 4 rfl rfl rfl rfl rfl rfl rfl ?_ | refine ao_alloc tbOK 5 rfl rfl rfl rfl rfl rfl rfl ?_) | (refine ao_id ?_; first | refine ao_step tbOK rfl rfl rfl rfl ?_ | refine ao_nil ?_ | refine ao_skip rfl rfl rfl ?_ | (refine ao_caseB true rfl rfl ?_ ?_; · (first | assumption | (simp <;> omega))) | (refine ao_caseB false rfl rfl ?_ ?_; · (first | assumption | (simp <;> omega))) | refine ao_case rfl rfl (fun _ => ?_) (fun _ => ?_)) | (refine ad_id ?_; first | refine AD.step _ _ _ _ _ rfl (opE_sound tbOK rfl) rfl rfl ?_ | refine AD.nil _ ?_ | refine AD.skip _ _ _ _ rfl rfl rfl ?_ | (refine ad_caseB true rfl rfl ?_ ?_; · (first | assumption | (simp <;> omega))) | (refine ad_caseB false rfl rfl ?_ ?_; · (first | assumption | (simp <;> omega))) | refine ad_case rfl rfl (fun _ => ?_) (fun _ => ?_)) | refine aw_seq ?_ | refine aw_region ?_ | refine aw_block ?_ | (refine aw_sh_cond ?_; first | refine aw_cond_true rfl ?_ | refine aw_cond_false rfl ?_ | (refine aw_condT rfl ?_ ?_; · (first | assumption | (simp <;> omega))) | (refine aw_condF rfl ?_ ?_; · (first | assumption | (simp <;> omega))) | refine aw_cond rfl (fun _ => ?_) (fun _ => ?_)) | refine aw_skip ?_ | refine aw_exit ?_ | refine aw_ret ?_ | refine aw_draw (by kernel_rfl) (by kernel_rfl) ?_)
    exact retq rfl rfl
end Go.Cg
