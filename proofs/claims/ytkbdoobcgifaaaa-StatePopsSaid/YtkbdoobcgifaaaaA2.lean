/- A part of the walks by abstract values: no statement of its own. -/
import Derived.Test.YtkbdoobcgifaaaaA1
namespace Go.Cg
open Go.Proofs

theorem ints_len {l : List Int} (h : (ints l).lenOk) : l.length ≤ 9223372036854775807 := by
  simp [ints, PV.lenOk, maxLen] at h; exact h.1
theorem ints_get {l : List Int} {k : Nat} (h : k < l.length) : (l.map pi)[k]? = some (pi l[k]) := by simp [h]
theorem tys_get {l : List Ty} {k : Nat} (h : k < l.length) : (l.map tyPV)[k]? = some (tyPV l[k]) := by simp [h]

theorem take_mem_succ {α : Type} [DecidableEq α] {l : List α} {k : Nat} {n : α} (h : k < l.length) (hno : n ∉ l.take k) (hne : ¬ l[k] = n) : n ∉ l.take (k + 1) := by
  rw [List.take_succ_eq_append_getElem h]
  simp only [List.mem_append, List.mem_singleton, not_or]
  exact ⟨hno, fun e => hne e.symm⟩

theorem Has_call (l : List Int) (n : Int) : ACall Try.prog 59 [ints l, pi n] (pb (decide (n ∈ l))) := by
  refine acall_intro tbOK Try.func59 rfl (by kernel_rfl) Try.ntmps59 (by simp) _ rfl (fun hw gB => ?_)
  have hl := ints_len hw.1
  repeat' (first | refine ao_step tbOK rfl rfl rfl rfl ?_ | refine ao_skip rfl rfl rfl ?_ | refine ao_nil ?_ | refine AD.step _ _ _ _ _ rfl (opE_sound tbOK rfl) rfl rfl ?_ | refine AD.skip _ _ _ _ rfl rfl rfl ?_ | refine AD.nil _ ?_ | refine aw_seq ?_ | refine aw_region ?_ | refine aw_draw (by kernel_rfl) (by kernel_rfl) ?_ | refine aw_block ?_ | refine aw_cond_true rfl ?_ | refine aw_cond_false rfl ?_ | refine ao_alloc tbOK 0 rfl rfl rfl rfl rfl rfl rfl ?_ | refine ao_alloc tbOK 1 rfl rfl rfl rfl rfl rfl rfl ?_ | refine ao_alloc tbOK 2 rfl rfl rfl rfl rfl rfl rfl ?_ | refine ao_alloc tbOK 3 rfl rfl rfl rfl rfl rfl rfl ?_ | refine ao_store tbOK rfl rfl rfl rfl rfl rfl rfl rfl rfl ?_ | refine aw_skip ?_ | refine aw_exit ?_ | refine aw_ret ?_ | (refine aw_condT rfl ?_ ?_; · (assumption)) | (refine aw_condF rfl ?_ ?_; · (assumption)) | (refine ao_caseB true rfl rfl ?_ ?_; · (assumption)) | (refine ao_caseB false rfl rfl ?_ ?_; · (assumption)) | (refine ad_caseB true rfl rfl ?_ ?_; · (assumption)) | (refine ad_caseB false rfl rfl ?_ ?_; · (assumption)) | refine aw_cond rfl (fun _ => ?_) (fun _ => ?_) | refine ao_case rfl rfl (fun _ => ?_) (fun _ => ?_) | refine ad_case rfl rfl (fun _ => ?_) (fun _ => ?_))
  refine aw_loop (fun k : Nat => [(0, .pv (ints l)), (1, .pv (pi n)), (5, .pv (pi k))]) (fun _ => []) (fun k => k ≤ l.length ∧ n ∉ l.take k) (fun k => l.length - k) 0 ⟨by simp, by simp⟩ (by repeat (first | exact sub_nil | refine sub_cons rfl ?_ | (refine sub_i rfl ?_ ?_; · (rw [wrap_in (by omega) (by omega)] <;> omega)))) ⟨by repeat (first | exact hsub_nil | refine hsub_cons rfl ?_), rfl⟩ ?_
  rintro k ⟨hk, hno⟩
  by_cases hlt : k < l.length
  · have he := ints_get hlt
    repeat' (first | refine ao_step tbOK rfl rfl rfl rfl ?_ | refine ao_skip rfl rfl rfl ?_ | refine ao_nil ?_ | refine AD.step _ _ _ _ _ rfl (opE_sound tbOK rfl) rfl rfl ?_ | refine AD.skip _ _ _ _ rfl rfl rfl ?_ | refine AD.nil _ ?_ | refine aw_seq ?_ | refine aw_region ?_ | refine aw_draw (by kernel_rfl) (by kernel_rfl) ?_ | refine aw_block ?_ | refine aw_cond_true rfl ?_ | refine aw_cond_false rfl ?_ | refine ao_alloc tbOK 0 rfl rfl rfl rfl rfl rfl rfl ?_ | refine ao_alloc tbOK 1 rfl rfl rfl rfl rfl rfl rfl ?_ | refine ao_alloc tbOK 2 rfl rfl rfl rfl rfl rfl rfl ?_ | refine ao_alloc tbOK 3 rfl rfl rfl rfl rfl rfl rfl ?_ | refine ao_store tbOK rfl rfl rfl rfl rfl rfl rfl rfl rfl ?_ | refine aw_skip ?_ | refine aw_exit ?_ | refine aw_ret ?_ | refine ao_q rfl (q_index tbOK rfl rfl rfl rfl rfl rfl (by omega) he) rfl rfl ?_ | refine AD.step _ _ _ _ _ rfl (q_index tbOK rfl rfl rfl rfl rfl rfl (by omega) he) rfl rfl ?_ | (refine aw_condT rfl ?_ ?_; · (first | assumption | (simp <;> omega))) | (refine aw_condF rfl ?_ ?_; · (first | assumption | (simp <;> omega))) | (refine ao_caseB true rfl rfl ?_ ?_; · (first | assumption | (simp <;> omega))) | (refine ao_caseB false rfl rfl ?_ ?_; · (first | assumption | (simp <;> omega))) | (refine ad_caseB true rfl rfl ?_ ?_; · (first | assumption | (simp <;> omega))) | (refine ad_caseB false rfl rfl ?_ ?_; · (first | assumption | (simp <;> omega))) | refine aw_cond rfl (fun _ => ?_) (fun _ => ?_) | refine ao_case rfl rfl (fun _ => ?_) (fun _ => ?_) | refine ad_case rfl rfl (fun _ => ?_) (fun _ => ?_))
    · rename_i h
      refine retq rfl ?_
      have : n ∈ l := by have := List.getElem_mem hlt; simp at h; rwa [h] at this
      simp [retPV, this]
    · rename_i h
      simp at h
      exact ⟨k + 1, ⟨by omega, take_mem_succ hlt hno h⟩, (by dsimp only; omega), by repeat (first | exact sub_nil | refine sub_cons rfl ?_ | (refine sub_i rfl ?_ ?_; · (rw [wrap_in (by omega) (by omega)] <;> omega))), ⟨by repeat (first | exact hsub_nil | refine hsub_cons rfl ?_), rfl⟩⟩
  · repeat' (first | refine ao_step tbOK rfl rfl rfl rfl ?_ | refine ao_skip rfl rfl rfl ?_ | refine ao_nil ?_ | refine AD.step _ _ _ _ _ rfl (opE_sound tbOK rfl) rfl rfl ?_ | refine AD.skip _ _ _ _ rfl rfl rfl ?_ | refine AD.nil _ ?_ | refine aw_seq ?_ | refine aw_region ?_ | refine aw_draw (by kernel_rfl) (by kernel_rfl) ?_ | refine aw_block ?_ | refine aw_cond_true rfl ?_ | refine aw_cond_false rfl ?_ | refine ao_alloc tbOK 0 rfl rfl rfl rfl rfl rfl rfl ?_ | refine ao_alloc tbOK 1 rfl rfl rfl rfl rfl rfl rfl ?_ | refine ao_alloc tbOK 2 rfl rfl rfl rfl rfl rfl rfl ?_ | refine ao_alloc tbOK 3 rfl rfl rfl rfl rfl rfl rfl ?_ | refine ao_store tbOK rfl rfl rfl rfl rfl rfl rfl rfl rfl ?_ | refine aw_skip ?_ | refine aw_exit ?_ | refine aw_ret ?_ | (refine aw_condT rfl ?_ ?_; · (first | assumption | (simp <;> omega))) | (refine aw_condF rfl ?_ ?_; · (first | assumption | (simp <;> omega))) | (refine ao_caseB true rfl rfl ?_ ?_; · (first | assumption | (simp <;> omega))) | (refine ao_caseB false rfl rfl ?_ ?_; · (first | assumption | (simp <;> omega))) | (refine ad_caseB true rfl rfl ?_ ?_; · (first | assumption | (simp <;> omega))) | (refine ad_caseB false rfl rfl ?_ ?_; · (first | assumption | (simp <;> omega))) | refine aw_cond rfl (fun _ => ?_) (fun _ => ?_) | refine ao_case rfl rfl (fun _ => ?_) (fun _ => ?_) | refine ad_case rfl rfl (fun _ => ?_) (fun _ => ?_))
    refine retq rfl ?_
    have : n ∉ l := by rw [List.take_of_length_le (by omega)] at hno; exact hno
    simp [retPV, this]

def idx (l : List Int) (v : Int) : Int := if v ∈ l then (l.findIdx (· == v) : Nat) else -1
theorem Index_call (l : List Int) (n : Int) : ACall Try.prog 51 [ints l, pi n] (pi (idx l n)) := by
  refine acall_intro tbOK Try.func51 rfl (by kernel_rfl) Try.ntmps51 (by simp) _ rfl (fun hw gB => ?_)
  have hl := ints_len hw.1
  repeat' (first | refine ao_step tbOK rfl rfl rfl rfl ?_ | refine ao_skip rfl rfl rfl ?_ | refine ao_nil ?_ | refine AD.step _ _ _ _ _ rfl (opE_sound tbOK rfl) rfl rfl ?_ | refine AD.skip _ _ _ _ rfl rfl rfl ?_ | refine AD.nil _ ?_ | refine aw_seq ?_ | refine aw_region ?_ | refine aw_draw (by kernel_rfl) (by kernel_rfl) ?_ | refine aw_block ?_ | refine aw_cond_true rfl ?_ | refine aw_cond_false rfl ?_ | refine ao_alloc tbOK 0 rfl rfl rfl rfl rfl rfl rfl ?_ | refine ao_alloc tbOK 1 rfl rfl rfl rfl rfl rfl rfl ?_ | refine ao_alloc tbOK 2 rfl rfl rfl rfl rfl rfl rfl ?_ | refine ao_alloc tbOK 3 rfl rfl rfl rfl rfl rfl rfl ?_ | refine ao_store tbOK rfl rfl rfl rfl rfl rfl rfl rfl rfl ?_ | refine aw_skip ?_ | refine aw_exit ?_ | refine aw_ret ?_ | (refine aw_condT rfl ?_ ?_; · (assumption)) | (refine aw_condF rfl ?_ ?_; · (assumption)) | (refine ao_caseB true rfl rfl ?_ ?_; · (assumption)) | (refine ao_caseB false rfl rfl ?_ ?_; · (assumption)) | (refine ad_caseB true rfl rfl ?_ ?_; · (assumption)) | (refine ad_caseB false rfl rfl ?_ ?_; · (assumption)) | refine aw_cond rfl (fun _ => ?_) (fun _ => ?_) | refine ao_case rfl rfl (fun _ => ?_) (fun _ => ?_) | refine ad_case rfl rfl (fun _ => ?_) (fun _ => ?_))
  refine aw_loop (fun k : Nat => [(0, .pv (ints l)), (1, .pv (pi n)), (7, .pv (pi l.length)), (8, .pv (pi k))]) (fun _ => []) (fun k => k ≤ l.length ∧ n ∉ l.take k) (fun k => l.length - k) 0 ⟨by simp, by simp⟩ (by repeat (first | exact sub_nil | refine sub_cons rfl ?_ | (refine sub_i rfl ?_ ?_; · simp))) ⟨by repeat (first | exact hsub_nil | refine hsub_cons rfl ?_), rfl⟩ ?_
  rintro k ⟨hk, hno⟩
  by_cases hlt : k < l.length
  · have he := ints_get hlt
    repeat' (first | refine ao_step tbOK rfl rfl rfl rfl ?_ | refine ao_skip rfl rfl rfl ?_ | refine ao_nil ?_ | refine AD.step _ _ _ _ _ rfl (opE_sound tbOK rfl) rfl rfl ?_ | refine AD.skip _ _ _ _ rfl rfl rfl ?_ | refine AD.nil _ ?_ | refine aw_seq ?_ | refine aw_region ?_ | refine aw_draw (by kernel_rfl) (by kernel_rfl) ?_ | refine aw_block ?_ | refine aw_cond_true rfl ?_ | refine aw_cond_false rfl ?_ | refine ao_alloc tbOK 0 rfl rfl rfl rfl rfl rfl rfl ?_ | refine ao_alloc tbOK 1 rfl rfl rfl rfl rfl rfl rfl ?_ | refine ao_alloc tbOK 2 rfl rfl rfl rfl rfl rfl rfl ?_ | refine ao_alloc tbOK 3 rfl rfl rfl rfl rfl rfl rfl ?_ | refine ao_store tbOK rfl rfl rfl rfl rfl rfl rfl rfl rfl ?_ | refine aw_skip ?_ | refine aw_exit ?_ | refine aw_ret ?_ | refine ao_q rfl (q_index tbOK rfl rfl rfl rfl rfl rfl (by omega) he) rfl rfl ?_ | refine AD.step _ _ _ _ _ rfl (q_index tbOK rfl rfl rfl rfl rfl rfl (by omega) he) rfl rfl ?_ | (refine aw_condT rfl ?_ ?_; · (first | assumption | (simp <;> omega))) | (refine aw_condF rfl ?_ ?_; · (first | assumption | (simp <;> omega))) | (refine ao_caseB true rfl rfl ?_ ?_; · (first | assumption | (simp <;> omega))) | (refine ao_caseB false rfl rfl ?_ ?_; · (first | assumption | (simp <;> omega))) | (refine ad_caseB true rfl rfl ?_ ?_; · (first | assumption | (simp <;> omega))) | (refine ad_caseB false rfl rfl ?_ ?_; · (first | assumption | (simp <;> omega))) | refine aw_cond rfl (fun _ => ?_) (fun _ => ?_) | refine ao_case rfl rfl (fun _ => ?_) (fun _ => ?_) | refine ad_case rfl rfl (fun _ => ?_) (fun _ => ?_))
    · rename_i h
      refine retq rfl ?_
      simp at h
      have hm : n ∈ l := by have := List.getElem_mem hlt; rwa [← h] at this
      have hi : l.findIdx (· == n) = k := by
        rw [List.findIdx_eq hlt]
        refine ⟨by simp [h], fun j hj => ?_⟩
        simp only [beq_eq_false_iff_ne]
        intro e
        refine hno ?_
        rw [← e, List.mem_take_iff_getElem]
        exact ⟨j, by omega, rfl⟩
      simp [retPV, idx, hm, hi]
    · rename_i h
      simp at h
      exact ⟨k + 1, ⟨by omega, take_mem_succ hlt hno (fun e => h e.symm)⟩, (by dsimp only; omega), by repeat (first | exact sub_nil | refine sub_cons rfl ?_ | (refine sub_i rfl ?_ ?_; · (rw [wrap_in (by omega) (by omega)] <;> omega))), ⟨by repeat (first | exact hsub_nil | refine hsub_cons rfl ?_), rfl⟩⟩
  · repeat' (first | refine ao_step tbOK rfl rfl rfl rfl ?_ | refine ao_skip rfl rfl rfl ?_ | refine ao_nil ?_ | refine AD.step _ _ _ _ _ rfl (opE_sound tbOK rfl) rfl rfl ?_ | refine AD.skip _ _ _ _ rfl rfl rfl ?_ | refine AD.nil _ ?_ | refine aw_seq ?_ | refine aw_region ?_ | refine aw_draw (by kernel_rfl) (by kernel_rfl) ?_ | refine aw_block ?_ | refine aw_cond_true rfl ?_ | refine aw_cond_false rfl ?_ | refine ao_alloc tbOK 0 rfl rfl rfl rfl rfl rfl rfl ?_ | refine ao_alloc tbOK 1 rfl rfl rfl rfl rfl rfl rfl ?_ | refine ao_alloc tbOK 2 rfl rfl rfl rfl rfl rfl rfl ?_ | refine ao_alloc tbOK 3 rfl rfl rfl rfl rfl rfl rfl ?_ | refine ao_store tbOK rfl rfl rfl rfl rfl rfl rfl rfl rfl ?_ | refine aw_skip ?_ | refine aw_exit ?_ | refine aw_ret ?_ | (refine aw_condT rfl ?_ ?_; · (first | assumption | (simp <;> omega))) | (refine aw_condF rfl ?_ ?_; · (first | assumption | (simp <;> omega))) | (refine ao_caseB true rfl rfl ?_ ?_; · (first | assumption | (simp <;> omega))) | (refine ao_caseB false rfl rfl ?_ ?_; · (first | assumption | (simp <;> omega))) | (refine ad_caseB true rfl rfl ?_ ?_; · (first | assumption | (simp <;> omega))) | (refine ad_caseB false rfl rfl ?_ ?_; · (first | assumption | (simp <;> omega))) | refine aw_cond rfl (fun _ => ?_) (fun _ => ?_) | refine ao_case rfl rfl (fun _ => ?_) (fun _ => ?_) | refine ad_case rfl rfl (fun _ => ?_) (fun _ => ?_))
    refine retq rfl ?_
    have : n ∉ l := by rw [List.take_of_length_le (by omega)] at hno; exact hno
    simp [retPV, idx, this]

theorem Contains_call (l : List Int) (n : Int) : ACall Try.prog 36 [ints l, pi n] (pb (decide (n ∈ l))) := by
  refine acall_intro tbOK Try.func36 rfl (by kernel_rfl) Try.ntmps36 (by simp) _ rfl (fun hw gB => ?_)
  repeat' (first | refine ao_step tbOK rfl rfl rfl rfl ?_ | refine ao_skip rfl rfl rfl ?_ | refine ao_nil ?_ | refine AD.step _ _ _ _ _ rfl (opE_sound tbOK rfl) rfl rfl ?_ | refine AD.skip _ _ _ _ rfl rfl rfl ?_ | refine AD.nil _ ?_ | refine aw_seq ?_ | refine aw_region ?_ | refine aw_draw (by kernel_rfl) (by kernel_rfl) ?_ | refine aw_block ?_ | refine aw_cond_true rfl ?_ | refine aw_cond_false rfl ?_ | refine ao_alloc tbOK 0 rfl rfl rfl rfl rfl rfl rfl ?_ | refine ao_alloc tbOK 1 rfl rfl rfl rfl rfl rfl rfl ?_ | refine ao_alloc tbOK 2 rfl rfl rfl rfl rfl rfl rfl ?_ | refine ao_alloc tbOK 3 rfl rfl rfl rfl rfl rfl rfl ?_ | refine ao_store tbOK rfl rfl rfl rfl rfl rfl rfl rfl rfl ?_ | refine aw_skip ?_ | refine aw_exit ?_ | refine aw_ret ?_ | refine ao_q rfl (q_call rfl rfl (Index_call _ _)) rfl rfl ?_ | refine AD.step _ _ _ _ _ rfl (q_call rfl rfl (Index_call _ _)) rfl rfl ?_ | (refine aw_condT rfl ?_ ?_; · (assumption)) | (refine aw_condF rfl ?_ ?_; · (assumption)) | (refine ao_caseB true rfl rfl ?_ ?_; · (assumption)) | (refine ao_caseB false rfl rfl ?_ ?_; · (assumption)) | (refine ad_caseB true rfl rfl ?_ ?_; · (assumption)) | (refine ad_caseB false rfl rfl ?_ ?_; · (assumption)) | refine aw_cond rfl (fun _ => ?_) (fun _ => ?_) | refine ao_case rfl rfl (fun _ => ?_) (fun _ => ?_) | refine ad_case rfl rfl (fun _ => ?_) (fun _ => ?_))
  refine retq rfl ?_
  by_cases h : n ∈ l <;> simp [retPV, idx, h]
end Go.Cg
