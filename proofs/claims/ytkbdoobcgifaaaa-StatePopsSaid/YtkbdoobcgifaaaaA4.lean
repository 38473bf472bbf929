/- A part of the walks by abstract values: no statement of its own. -/
import Derived.Test.YtkbdoobcgifaaaaA2
namespace Go.Cg
open Go.Proofs

theorem tys_len {l : List Ty} (h : (tys l).lenOk) : l.length ≤ 9223372036854775807 := by
  simp [tys, PV.lenOk, maxLen] at h; exact h.1
theorem take_eq_succ {α : Type} {a b : List α} {k : Nat} (ha : k < a.length) (hb : k < b.length) (h : a.take k = b.take k) (e : a[k] = b[k]) : a.take (k + 1) = b.take (k + 1) := by
  rw [List.take_succ_eq_append_getElem ha, List.take_succ_eq_append_getElem hb, h, e]

theorem SameTypes_call (a b : List Ty) : ACall Try.prog 22 [tys a, tys b] (pb (decide (a = b))) := by
  refine acall_intro tbOK Try.func22 rfl (by kernel_rfl) Try.ntmps22 (by simp) _ rfl (fun hw gB => ?_)
  have hl := tys_len hw.1
  by_cases hlen : a.length = b.length
  · repeat' (first | refine ao_step tbOK rfl rfl rfl rfl ?_ | refine ao_skip rfl rfl rfl ?_ | refine ao_nil ?_ | refine AD.step _ _ _ _ _ rfl (opE_sound tbOK rfl) rfl rfl ?_ | refine AD.skip _ _ _ _ rfl rfl rfl ?_ | refine AD.nil _ ?_ | refine aw_seq ?_ | refine aw_region ?_ | refine aw_draw (by kernel_rfl) (by kernel_rfl) ?_ | refine aw_block ?_ | refine aw_cond_true rfl ?_ | refine aw_cond_false rfl ?_ | refine ao_alloc tbOK 0 rfl rfl rfl rfl rfl rfl rfl ?_ | refine ao_alloc tbOK 1 rfl rfl rfl rfl rfl rfl rfl ?_ | refine ao_alloc tbOK 2 rfl rfl rfl rfl rfl rfl rfl ?_ | refine ao_alloc tbOK 3 rfl rfl rfl rfl rfl rfl rfl ?_ | refine ao_store tbOK rfl rfl rfl rfl rfl rfl rfl rfl rfl ?_ | refine aw_skip ?_ | refine aw_exit ?_ | refine aw_ret ?_ | (refine aw_condT rfl ?_ ?_; · (first | assumption | (simp <;> omega))) | (refine aw_condF rfl ?_ ?_; · (first | assumption | (simp <;> omega))) | (refine ao_caseB true rfl rfl ?_ ?_; · (first | assumption | (simp <;> omega))) | (refine ao_caseB false rfl rfl ?_ ?_; · (first | assumption | (simp <;> omega))) | (refine ad_caseB true rfl rfl ?_ ?_; · (first | assumption | (simp <;> omega))) | (refine ad_caseB false rfl rfl ?_ ?_; · (first | assumption | (simp <;> omega))) | refine aw_cond rfl (fun _ => ?_) (fun _ => ?_) | refine ao_case rfl rfl (fun _ => ?_) (fun _ => ?_) | refine ad_case rfl rfl (fun _ => ?_) (fun _ => ?_))
    refine aw_loop (fun k : Nat => [(0, .pv (tys a)), (1, .pv (tys b)), (5, .pv (pi k))]) (fun _ => []) (fun k => k ≤ a.length ∧ a.take k = b.take k) (fun k => a.length - k) 0 ⟨by simp, by simp⟩ (by repeat (first | exact sub_nil | refine sub_cons rfl ?_ | (refine sub_i rfl ?_ ?_; · (rw [wrap_in (by omega) (by omega)] <;> omega)))) ⟨by repeat (first | exact hsub_nil | refine hsub_cons rfl ?_), rfl⟩ ?_
    rintro k ⟨hk, hno⟩
    by_cases hlt : k < a.length
    · have he := tys_get hlt
      have hltb : k < b.length := by omega
      have he' := tys_get hltb
      repeat' (first | refine ao_step tbOK rfl rfl rfl rfl ?_ | refine ao_skip rfl rfl rfl ?_ | refine ao_nil ?_ | refine AD.step _ _ _ _ _ rfl (opE_sound tbOK rfl) rfl rfl ?_ | refine AD.skip _ _ _ _ rfl rfl rfl ?_ | refine AD.nil _ ?_ | refine aw_seq ?_ | refine aw_region ?_ | refine aw_draw (by kernel_rfl) (by kernel_rfl) ?_ | refine aw_block ?_ | refine aw_cond_true rfl ?_ | refine aw_cond_false rfl ?_ | refine ao_alloc tbOK 0 rfl rfl rfl rfl rfl rfl rfl ?_ | refine ao_alloc tbOK 1 rfl rfl rfl rfl rfl rfl rfl ?_ | refine ao_alloc tbOK 2 rfl rfl rfl rfl rfl rfl rfl ?_ | refine ao_alloc tbOK 3 rfl rfl rfl rfl rfl rfl rfl ?_ | refine ao_store tbOK rfl rfl rfl rfl rfl rfl rfl rfl rfl ?_ | refine aw_skip ?_ | refine aw_exit ?_ | refine aw_ret ?_ | refine ao_q rfl (q_index tbOK rfl rfl rfl rfl rfl rfl (by omega) he) rfl rfl ?_ | refine AD.step _ _ _ _ _ rfl (q_index tbOK rfl rfl rfl rfl rfl rfl (by omega) he) rfl rfl ?_ | refine ao_q rfl (q_index tbOK rfl rfl rfl rfl rfl rfl (by omega) he') rfl rfl ?_ | refine AD.step _ _ _ _ _ rfl (q_index tbOK rfl rfl rfl rfl rfl rfl (by omega) he') rfl rfl ?_ | (refine aw_condT rfl ?_ ?_; · (first | assumption | (simp <;> omega))) | (refine aw_condF rfl ?_ ?_; · (first | assumption | (simp <;> omega))) | (refine ao_caseB true rfl rfl ?_ ?_; · (first | assumption | (simp <;> omega))) | (refine ao_caseB false rfl rfl ?_ ?_; · (first | assumption | (simp <;> omega))) | (refine ad_caseB true rfl rfl ?_ ?_; · (first | assumption | (simp <;> omega))) | (refine ad_caseB false rfl rfl ?_ ?_; · (first | assumption | (simp <;> omega))) | refine aw_cond rfl (fun _ => ?_) (fun _ => ?_) | refine ao_case rfl rfl (fun _ => ?_) (fun _ => ?_) | refine ad_case rfl rfl (fun _ => ?_) (fun _ => ?_))
      · rename_i h
        refine retq rfl ?_
        have : a ≠ b := by
          rintro rfl
          simp at h
        simp [retPV, this]
      · rename_i h
        have e : a[k] = b[k] := by
          simp only [Bool.not_eq_false'] at h
          rw [tyEq_iff] at h
          simpa using h
        exact ⟨k + 1, ⟨by omega, take_eq_succ hlt hltb hno e⟩, (by dsimp only; omega), by repeat (first | exact sub_nil | refine sub_cons rfl ?_ | (refine sub_i rfl ?_ ?_; · (rw [wrap_in (by omega) (by omega)] <;> omega))), ⟨by repeat (first | exact hsub_nil | refine hsub_cons rfl ?_), rfl⟩⟩
    · repeat' (first | refine ao_step tbOK rfl rfl rfl rfl ?_ | refine ao_skip rfl rfl rfl ?_ | refine ao_nil ?_ | refine AD.step _ _ _ _ _ rfl (opE_sound tbOK rfl) rfl rfl ?_ | refine AD.skip _ _ _ _ rfl rfl rfl ?_ | refine AD.nil _ ?_ | refine aw_seq ?_ | refine aw_region ?_ | refine aw_draw (by kernel_rfl) (by kernel_rfl) ?_ | refine aw_block ?_ | refine aw_cond_true rfl ?_ | refine aw_cond_false rfl ?_ | refine ao_alloc tbOK 0 rfl rfl rfl rfl rfl rfl rfl ?_ | refine ao_alloc tbOK 1 rfl rfl rfl rfl rfl rfl rfl ?_ | refine ao_alloc tbOK 2 rfl rfl rfl rfl rfl rfl rfl ?_ | refine ao_alloc tbOK 3 rfl rfl rfl rfl rfl rfl rfl ?_ | refine ao_store tbOK rfl rfl rfl rfl rfl rfl rfl rfl rfl ?_ | refine aw_skip ?_ | refine aw_exit ?_ | refine aw_ret ?_ | (refine aw_condT rfl ?_ ?_; · (first | assumption | (simp <;> omega))) | (refine aw_condF rfl ?_ ?_; · (first | assumption | (simp <;> omega))) | (refine ao_caseB true rfl rfl ?_ ?_; · (first | assumption | (simp <;> omega))) | (refine ao_caseB false rfl rfl ?_ ?_; · (first | assumption | (simp <;> omega))) | (refine ad_caseB true rfl rfl ?_ ?_; · (first | assumption | (simp <;> omega))) | (refine ad_caseB false rfl rfl ?_ ?_; · (first | assumption | (simp <;> omega))) | refine aw_cond rfl (fun _ => ?_) (fun _ => ?_) | refine ao_case rfl rfl (fun _ => ?_) (fun _ => ?_) | refine ad_case rfl rfl (fun _ => ?_) (fun _ => ?_))
      refine retq rfl ?_
      rw [List.take_of_length_le (by omega), List.take_of_length_le (by omega)] at hno
      simp [retPV, hno]
  · repeat' (first | refine ao_step tbOK rfl rfl rfl rfl ?_ | refine ao_skip rfl rfl rfl ?_ | refine ao_nil ?_ | refine AD.step _ _ _ _ _ rfl (opE_sound tbOK rfl) rfl rfl ?_ | refine AD.skip _ _ _ _ rfl rfl rfl ?_ | refine AD.nil _ ?_ | refine aw_seq ?_ | refine aw_region ?_ | refine aw_draw (by kernel_rfl) (by kernel_rfl) ?_ | refine aw_block ?_ | refine aw_cond_true rfl ?_ | refine aw_cond_false rfl ?_ | refine ao_alloc tbOK 0 rfl rfl rfl rfl rfl rfl rfl ?_ | refine ao_alloc tbOK 1 rfl rfl rfl rfl rfl rfl rfl ?_ | refine ao_alloc tbOK 2 rfl rfl rfl rfl rfl rfl rfl ?_ | refine ao_alloc tbOK 3 rfl rfl rfl rfl rfl rfl rfl ?_ | refine ao_store tbOK rfl rfl rfl rfl rfl rfl rfl rfl rfl ?_ | refine aw_skip ?_ | refine aw_exit ?_ | refine aw_ret ?_ | (refine aw_condT rfl ?_ ?_; · (first | assumption | (simp <;> omega))) | (refine aw_condF rfl ?_ ?_; · (first | assumption | (simp <;> omega))) | (refine ao_caseB true rfl rfl ?_ ?_; · (first | assumption | (simp <;> omega))) | (refine ao_caseB false rfl rfl ?_ ?_; · (first | assumption | (simp <;> omega))) | (refine ad_caseB true rfl rfl ?_ ?_; · (first | assumption | (simp <;> omega))) | (refine ad_caseB false rfl rfl ?_ ?_; · (first | assumption | (simp <;> omega))) | refine aw_cond rfl (fun _ => ?_) (fun _ => ?_) | refine ao_case rfl rfl (fun _ => ?_) (fun _ => ?_) | refine ad_case rfl rfl (fun _ => ?_) (fun _ => ?_))
    refine retq rfl ?_
    have : a ≠ b := by rintro rfl; exact hlen rfl
    simp [retPV, this]

def plainT (t : Ty) : Bool :=
  if decide (t.dims < 0) || decide (3 < t.dims) || decide (t.index < 0) then false
  else if t.kind == 1 then t.dims == 0 && !t.ref && t.index == 0
  else if t.kind == 2 || t.kind == 3 || t.kind == 4 then t.index == 0
  else if t.kind == 5 || t.kind == 6 then decide (t.index < 32)
  else if t.kind == 7 then decide (t.index ≤ 7)
  else false
theorem Plain_call (t : Ty) : ACall Try.prog 76 [tyPV t] (pb (plainT t)) := by
  refine acall_intro tbOK Try.func76 rfl (by kernel_rfl) Try.ntmps76 (by simp) _ rfl (fun hw gB => ?_)
  repeat' (first | refine ao_step tbOK rfl rfl rfl rfl ?_ | refine ao_skip rfl rfl rfl ?_ | refine ao_nil ?_ | refine AD.step _ _ _ _ _ rfl (opE_sound tbOK rfl) rfl rfl ?_ | refine AD.skip _ _ _ _ rfl rfl rfl ?_ | refine AD.nil _ ?_ | refine aw_seq ?_ | refine aw_region ?_ | refine aw_draw (by kernel_rfl) (by kernel_rfl) ?_ | refine aw_block ?_ | refine aw_cond_true rfl ?_ | refine aw_cond_false rfl ?_ | refine ao_alloc tbOK 0 rfl rfl rfl rfl rfl rfl rfl ?_ | refine ao_alloc tbOK 1 rfl rfl rfl rfl rfl rfl rfl ?_ | refine ao_alloc tbOK 2 rfl rfl rfl rfl rfl rfl rfl ?_ | refine ao_alloc tbOK 3 rfl rfl rfl rfl rfl rfl rfl ?_ | refine ao_store tbOK rfl rfl rfl rfl rfl rfl rfl rfl rfl ?_ | refine aw_skip ?_ | refine aw_exit ?_ | refine aw_ret ?_ | (refine aw_condT rfl ?_ ?_; · (assumption)) | (refine aw_condF rfl ?_ ?_; · (assumption)) | (refine ao_caseB true rfl rfl ?_ ?_; · (assumption)) | (refine ao_caseB false rfl rfl ?_ ?_; · (assumption)) | (refine ad_caseB true rfl rfl ?_ ?_; · (assumption)) | (refine ad_caseB false rfl rfl ?_ ?_; · (assumption)) | refine aw_cond rfl (fun _ => ?_) (fun _ => ?_) | refine ao_case rfl rfl (fun _ => ?_) (fun _ => ?_) | refine ad_case rfl rfl (fun _ => ?_) (fun _ => ?_))
  all_goals (first | refine retq rfl ?_ | refine retn rfl ?_)
  all_goals (first | (simp_all [retPV, plainT]; done) | (simp_all [retPV, plainT]; omega))
def whereT (t : Ty) (place : Int) : Bool :=
  if !plainT t then false
  else if place == 1 then t.kind != 1 && !t.ref
  else if place == 2 then t.kind != 1
  else if place == 3 then !t.ref
  else true
theorem Where_call (t : Ty) (p : Int) : ACall Try.prog 68 [tyPV t, pi p] (pb (whereT t p)) := by
  refine acall_intro tbOK Try.func68 rfl (by kernel_rfl) Try.ntmps68 (by simp) _ rfl (fun hw gB => ?_)
  repeat' (first | refine ao_step tbOK rfl rfl rfl rfl ?_ | refine ao_skip rfl rfl rfl ?_ | refine ao_nil ?_ | refine AD.step _ _ _ _ _ rfl (opE_sound tbOK rfl) rfl rfl ?_ | refine AD.skip _ _ _ _ rfl rfl rfl ?_ | refine AD.nil _ ?_ | refine aw_seq ?_ | refine aw_region ?_ | refine aw_draw (by kernel_rfl) (by kernel_rfl) ?_ | refine aw_block ?_ | refine aw_cond_true rfl ?_ | refine aw_cond_false rfl ?_ | refine ao_alloc tbOK 0 rfl rfl rfl rfl rfl rfl rfl ?_ | refine ao_alloc tbOK 1 rfl rfl rfl rfl rfl rfl rfl ?_ | refine ao_alloc tbOK 2 rfl rfl rfl rfl rfl rfl rfl ?_ | refine ao_alloc tbOK 3 rfl rfl rfl rfl rfl rfl rfl ?_ | refine ao_store tbOK rfl rfl rfl rfl rfl rfl rfl rfl rfl ?_ | refine aw_skip ?_ | refine aw_exit ?_ | refine aw_ret ?_ | refine ao_q rfl (q_call rfl rfl (Plain_call _)) rfl rfl ?_ | refine AD.step _ _ _ _ _ rfl (q_call rfl rfl (Plain_call _)) rfl rfl ?_ | (refine aw_condT rfl ?_ ?_; · (assumption)) | (refine aw_condF rfl ?_ ?_; · (assumption)) | (refine ao_caseB true rfl rfl ?_ ?_; · (assumption)) | (refine ao_caseB false rfl rfl ?_ ?_; · (assumption)) | (refine ad_caseB true rfl rfl ?_ ?_; · (assumption)) | (refine ad_caseB false rfl rfl ?_ ?_; · (assumption)) | refine aw_cond rfl (fun _ => ?_) (fun _ => ?_) | refine ao_case rfl rfl (fun _ => ?_) (fun _ => ?_) | refine ad_case rfl rfl (fun _ => ?_) (fun _ => ?_))
  all_goals (first | refine retq rfl ?_ | refine retn rfl ?_)
  all_goals (first | (simp_all [retPV, whereT]; done) | (simp_all [retPV, whereT]; omega))
def ownT (t : Ty) (n : Int) : Bool := (t.kind != 5 && t.kind != 6) || decide (t.index < n)
theorem Own_call (t : Ty) (n : Int) : ACall Try.prog 69 [tyPV t, pi n] (pb (ownT t n)) := by
  refine acall_intro tbOK Try.func69 rfl (by kernel_rfl) Try.ntmps69 (by simp) _ rfl (fun hw gB => ?_)
  repeat' (first | refine ao_step tbOK rfl rfl rfl rfl ?_ | refine ao_skip rfl rfl rfl ?_ | refine ao_nil ?_ | refine AD.step _ _ _ _ _ rfl (opE_sound tbOK rfl) rfl rfl ?_ | refine AD.skip _ _ _ _ rfl rfl rfl ?_ | refine AD.nil _ ?_ | refine aw_seq ?_ | refine aw_region ?_ | refine aw_draw (by kernel_rfl) (by kernel_rfl) ?_ | refine aw_block ?_ | refine aw_cond_true rfl ?_ | refine aw_cond_false rfl ?_ | refine ao_alloc tbOK 0 rfl rfl rfl rfl rfl rfl rfl ?_ | refine ao_alloc tbOK 1 rfl rfl rfl rfl rfl rfl rfl ?_ | refine ao_alloc tbOK 2 rfl rfl rfl rfl rfl rfl rfl ?_ | refine ao_alloc tbOK 3 rfl rfl rfl rfl rfl rfl rfl ?_ | refine ao_store tbOK rfl rfl rfl rfl rfl rfl rfl rfl rfl ?_ | refine aw_skip ?_ | refine aw_exit ?_ | refine aw_ret ?_ | (refine aw_condT rfl ?_ ?_; · (assumption)) | (refine aw_condF rfl ?_ ?_; · (assumption)) | (refine ao_caseB true rfl rfl ?_ ?_; · (assumption)) | (refine ao_caseB false rfl rfl ?_ ?_; · (assumption)) | (refine ad_caseB true rfl rfl ?_ ?_; · (assumption)) | (refine ad_caseB false rfl rfl ?_ ?_; · (assumption)) | refine aw_cond rfl (fun _ => ?_) (fun _ => ?_) | refine ao_case rfl rfl (fun _ => ?_) (fun _ => ?_) | refine ad_case rfl rfl (fun _ => ?_) (fun _ => ?_))
  all_goals (first | refine retq rfl ?_ | refine retn rfl ?_)
  all_goals (first | (simp_all [retPV, ownT]; done) | (simp_all [retPV, ownT]; omega))
def mayT (t : Ty) (p n : Int) : Bool := whereT t p && ownT t n
theorem May_call (t : Ty) (p n : Int) : ACall Try.prog 56 [tyPV t, pi p, pi n] (pb (mayT t p n)) := by
  refine acall_intro tbOK Try.func56 rfl (by kernel_rfl) Try.ntmps56 (by simp) _ rfl (fun hw gB => ?_)
  repeat' (first | refine ao_step tbOK rfl rfl rfl rfl ?_ | refine ao_skip rfl rfl rfl ?_ | refine ao_nil ?_ | refine AD.step _ _ _ _ _ rfl (opE_sound tbOK rfl) rfl rfl ?_ | refine AD.skip _ _ _ _ rfl rfl rfl ?_ | refine AD.nil _ ?_ | refine aw_seq ?_ | refine aw_region ?_ | refine aw_draw (by kernel_rfl) (by kernel_rfl) ?_ | refine aw_block ?_ | refine aw_cond_true rfl ?_ | refine aw_cond_false rfl ?_ | refine ao_alloc tbOK 0 rfl rfl rfl rfl rfl rfl rfl ?_ | refine ao_alloc tbOK 1 rfl rfl rfl rfl rfl rfl rfl ?_ | refine ao_alloc tbOK 2 rfl rfl rfl rfl rfl rfl rfl ?_ | refine ao_alloc tbOK 3 rfl rfl rfl rfl rfl rfl rfl ?_ | refine ao_store tbOK rfl rfl rfl rfl rfl rfl rfl rfl rfl ?_ | refine aw_skip ?_ | refine aw_exit ?_ | refine aw_ret ?_ | refine ao_q rfl (q_call rfl rfl (Where_call _ _)) rfl rfl ?_ | refine AD.step _ _ _ _ _ rfl (q_call rfl rfl (Where_call _ _)) rfl rfl ?_ | refine ao_q rfl (q_call rfl rfl (Own_call _ _)) rfl rfl ?_ | refine AD.step _ _ _ _ _ rfl (q_call rfl rfl (Own_call _ _)) rfl rfl ?_ | (refine aw_condT rfl ?_ ?_; · (assumption)) | (refine aw_condF rfl ?_ ?_; · (assumption)) | (refine ao_caseB true rfl rfl ?_ ?_; · (assumption)) | (refine ao_caseB false rfl rfl ?_ ?_; · (assumption)) | (refine ad_caseB true rfl rfl ?_ ?_; · (assumption)) | (refine ad_caseB false rfl rfl ?_ ?_; · (assumption)) | refine aw_cond rfl (fun _ => ?_) (fun _ => ?_) | refine ao_case rfl rfl (fun _ => ?_) (fun _ => ?_) | refine ad_case rfl rfl (fun _ => ?_) (fun _ => ?_))
  all_goals (first | refine retq rfl ?_ | refine retn rfl ?_)
  all_goals (first | (simp_all [retPV, mayT]; done) | (simp_all [retPV, mayT]; omega))
end Go.Cg
