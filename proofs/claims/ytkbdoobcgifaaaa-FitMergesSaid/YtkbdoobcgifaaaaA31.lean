/- A part of the walks by abstract values: no statement of its own. -/
import Derived.Test.YtkbdoobcgifaaaaA30
namespace Go.Cg
open Go.Proofs

/-! plain laws of fitting and merging -/
theorem tyB_refl (a : Ty) : tyB a a = true := by simp [tyB]
theorem tyB_eq {a b : Ty} (h : tyB a b = true) : a = b := by
  have := tyEq_iff a b
  simp only [tyB] at h
  rw [h] at this
  simpa using this.symm
theorem fits_refl (g : Img) (a : Ty) : fitsP g a a = true := by simp [fitsP, tyB_refl]
theorem fits_object {g : Img} {a : Ty} (h : object a = true) : fitsP g a ⟨4, 0, 0, false⟩ = true := by
  have h2 : object ⟨4, 0, 0, false⟩ = true := by decide
  have h3 : plain ⟨4, 0, 0, false⟩ 4 = true := by decide
  unfold fitsP
  split
  · rfl
  · rw [h, h2, h3]; simp
theorem fits_fault {g : Img} {a : Ty} (h : plain a 7 = true) : fitsP g a ⟨7, 0, 0, false⟩ = true := by
  have hk : a.kind = 7 ∧ a.dims = 0 ∧ a.ref = false := by simpa [plain, and_assoc] using h
  have ho : object a = true := by simp [object, hk.1, hk.2.2]
  have h2 : object ⟨7, 0, 0, false⟩ = true := by decide
  have h4 : plain a 8 = false := by simp [plain, hk.1]
  have h5 : plain a 5 = false := by simp [plain, hk.1]
  have h6 : plain ⟨7, 0, 0, false⟩ 4 = false := by decide
  unfold fitsP
  split
  · rfl
  · rw [ho, h2, h4, h5, h6, h, tyB_refl]; rfl
theorem object_class {a : Ty} (h : plain a 5 = true) : object a = true := by
  have hk : a.kind = 5 ∧ a.dims = 0 ∧ a.ref = false := by simpa [plain, and_assoc] using h
  simp [object, hk.1, hk.2.2]
theorem fits_class {g : Img} {a : Ty} {t : Int} (h : plain a 5 = true) (hb : belowP g a.index t = true) : fitsP g a ⟨5, t, 0, false⟩ = true := by
  have ho := object_class h
  have hk : a.kind = 5 ∧ a.dims = 0 ∧ a.ref = false := by simpa [plain, and_assoc] using h
  have h2 : object ⟨5, t, 0, false⟩ = true := by simp [object]
  have h4 : plain a 8 = false := by simp [plain, hk.1]
  have h6 : plain ⟨5, t, 0, false⟩ 4 = false := by simp [plain]
  have h7 : plain ⟨5, t, 0, false⟩ 5 = true := by simp [plain]
  unfold fitsP
  split
  · rfl
  · rw [ho, h2, h4, h6, h, h7]; simpa using hb
theorem classB_plain {g : Img} {a : Ty} (h : classB g a = true) : plain a 5 = true := by
  simp only [classB, Bool.and_eq_true] at h; exact h.1
theorem merge_ok {g : Img} {a b : Ty} (h : (mergeP g a b).2 = 0) : fitsP g a (mergeP g a b).1 = true ∧ fitsP g b (mergeP g a b).1 = true := by
  unfold mergeP at h ⊢
  by_cases h1 : fitsP g b a = true
  · rw [if_pos h1]; exact ⟨fits_refl g a, h1⟩
  rw [if_neg h1] at h ⊢
  by_cases h2 : fitsP g a b = true
  · rw [if_pos h2]; exact ⟨h2, fits_refl g b⟩
  rw [if_neg h2] at h ⊢
  by_cases h3 : (!object a || !object b) = true
  · rw [if_pos h3] at h; simp at h
  rw [if_neg h3] at h ⊢
  simp only [Bool.or_eq_true, Bool.not_eq_true', not_or, Bool.not_eq_false] at h3
  by_cases h4 : (plain a 7 && plain b 7) = true
  · rw [if_pos h4]
    simp only [Bool.and_eq_true] at h4
    exact ⟨fits_fault h4.1, fits_fault h4.2⟩
  rw [if_neg h4] at h ⊢
  by_cases h5 : (classB g a && classB g b) = true
  · rw [if_pos h5]
    simp only [Bool.and_eq_true] at h5
    have ha := classB_plain h5.1
    have hb := classB_plain h5.2
    simp only [mergeTop]
    cases hf : (up g a.index).find? (fun t => decide (t ∈ up g b.index)) with
    | none => exact ⟨fits_object (object_class ha), fits_object (object_class hb)⟩
    | some t =>
      have m1 := List.mem_of_find?_eq_some hf
      have m2 := List.find?_some hf
      exact ⟨fits_class ha (by simp [belowP, m1]), fits_class hb (by simp only [belowP]; simp at m2; simp [m2])⟩
  · rw [if_neg h5]; exact ⟨fits_object h3.1, fits_object h3.2⟩
theorem merge_bad {g : Img} {a b : Ty} (h : (mergeP g a b).2 ≠ 0) : fitsP g a b = false ∧ fitsP g b a = false := by
  unfold mergeP at h
  by_cases h1 : fitsP g b a = true
  · rw [if_pos h1] at h; simp at h
  by_cases h2 : fitsP g a b = true
  · rw [if_neg h1, if_pos h2] at h; simp at h
  exact ⟨by simpa using h2, by simpa using h1⟩
theorem merge_fit {g : Img} {a b : Ty} (h : fitsP g b a = true) : mergeP g a b = (a, 0) := by unfold mergeP; rw [if_pos h]

theorem eqF_iff {p : Ty → Ty → Bool} {a b : List Ty} : eqF p a b = true ↔ a.length = b.length ∧ ∀ i (h : i < a.length) (h2 : i < b.length), p a[i] b[i] = true := by
  unfold eqF
  simp only [Bool.and_eq_true, decide_eq_true_eq, List.all_eq_true, List.mem_range]
  constructor
  · rintro ⟨h1, h2⟩
    refine ⟨h1, fun i h h3 => ?_⟩
    have := h2 i h
    rwa [getD_get h, getD_get h3] at this
  · rintro ⟨h1, h2⟩
    refine ⟨h1, fun i h => ?_⟩
    rw [getD_get h, getD_get (h1 ▸ h)]
    exact h2 i h _
theorem smGo_spec {g : Img} : ∀ (a b out : List Ty), a.length = b.length →
    ((smGo g a b out).2 = 0 → ∃ l, (smGo g a b out).1 = out ++ l ∧ l.length = a.length ∧ ∀ i (h : i < a.length) (h2 : i < b.length) (h3 : i < l.length), (mergeP g a[i] b[i]).2 = 0 ∧ l[i] = (mergeP g a[i] b[i]).1)
    ∧ ((smGo g a b out).2 ≠ 0 → ∃ i, ∃ (h : i < a.length) (h2 : i < b.length), (mergeP g a[i] b[i]).2 ≠ 0)
  | [], b, out, hl => by
    refine ⟨fun _ => ⟨[], by simp [smGo], rfl, fun i h => by simp at h⟩, fun h => ?_⟩
    simp [smGo] at h
  | x :: a, [], out, hl => by simp at hl
  | x :: a, y :: b, out, hl => by
    simp only [smGo]
    by_cases hm : (mergeP g x y).2 = 0
    · rw [hm]
      simp only [bne_self_eq_false, Bool.false_eq_true, if_false]
      obtain ⟨h1, h2⟩ := smGo_spec a b (out ++ [(mergeP g x y).1]) (by simpa using hl)
      refine ⟨fun h => ?_, fun h => ?_⟩
      · obtain ⟨l, l1, l2, l3⟩ := h1 h
        refine ⟨(mergeP g x y).1 :: l, by rw [l1]; simp, by simp [l2], fun i hi hi2 hi3 => ?_⟩
        cases i with
        | zero => exact ⟨hm, rfl⟩
        | succ i => exact l3 i (by simpa using hi) (by simpa using hi2) (by simpa using hi3)
      · obtain ⟨i, i1, i2, i3⟩ := h2 h
        exact ⟨i + 1, by simpa using i1, by simpa using i2, i3⟩
    · have hne : ((mergeP g x y).2 != 0) = true := by simp [hm]
      rw [hne]
      simp only [if_true]
      exact ⟨fun h => (hm h).elim, fun _ => ⟨0, by simp, by simp, hm⟩⟩
theorem smerge_len {g : Img} {a b : List Ty} (h : (smergeP g a b).2 = 0) : a.length = b.length := by
  unfold smergeP at h
  by_cases hl : a.length = b.length
  · exact hl
  · rw [if_pos hl] at h; simp at h
theorem smerge_ok {g : Img} {a b : List Ty} (h : (smergeP g a b).2 = 0) : sfitsP g a (smergeP g a b).1 = true ∧ sfitsP g b (smergeP g a b).1 = true := by
  have hl := smerge_len h
  have e : smergeP g a b = smGo g a b [] := by simp [smergeP, hl]
  rw [e] at h ⊢
  obtain ⟨l, l1, l2, l3⟩ := (smGo_spec a b [] hl).1 h
  rw [List.nil_append] at l1
  rw [l1]
  refine ⟨eqF_iff.2 ⟨l2.symm, fun i h1 h2 => ?_⟩, eqF_iff.2 ⟨by omega, fun i h1 h2 => ?_⟩⟩
  · obtain ⟨q1, q2⟩ := l3 i h1 (by omega) h2
    rw [q2]; exact (merge_ok q1).1
  · obtain ⟨q1, q2⟩ := l3 i (by omega) h1 h2
    rw [q2]; exact (merge_ok q1).2
theorem smerge_bad {g : Img} {a b : List Ty} (h : (smergeP g a b).2 ≠ 0) : sfitsP g a b = false ∧ sfitsP g b a = false := by
  have key : ∀ x y : List Ty, (x.length = y.length → ∃ i, ∃ (h : i < x.length) (h2 : i < y.length), fitsP g x[i] y[i] = false) → sfitsP g x y = false := by
    intro x y hxy
    cases hs : sfitsP g x y with
    | false => rfl
    | true =>
      obtain ⟨e1, e2⟩ := eqF_iff.1 hs
      obtain ⟨i, i1, i2, i3⟩ := hxy e1
      rw [e2 i i1 i2] at i3; cases i3
  by_cases hl : a.length = b.length
  · have e : smergeP g a b = smGo g a b [] := by simp [smergeP, hl]
    rw [e] at h
    obtain ⟨i, i1, i2, i3⟩ := (smGo_spec a b [] hl).2 h
    obtain ⟨q1, q2⟩ := merge_bad i3
    exact ⟨key a b fun _ => ⟨i, i1, i2, q1⟩, key b a fun _ => ⟨i, i2, i1, q2⟩⟩
  · exact ⟨key a b fun e => (hl e).elim, key b a fun e => (hl e.symm).elim⟩
theorem smerge_fit {g : Img} {a b : List Ty} (h : (smergeP g a b).2 = 0) (hf : sfitsP g b a = true) : (smergeP g a b).1 = a := by
  have hl := smerge_len h
  have e : smergeP g a b = smGo g a b [] := by simp [smergeP, hl]
  rw [e] at h ⊢
  obtain ⟨l, l1, l2, l3⟩ := (smGo_spec a b [] hl).1 h
  rw [l1, List.nil_append]
  obtain ⟨_, e2⟩ := eqF_iff.1 hf
  refine List.ext_getElem l2 fun i h1 h2 => ?_
  rw [(l3 i h2 (by omega) h1).2, merge_fit (e2 i (by omega) h2)]

theorem StateUp_call (g : Img) (a b : List Ty) : ACall Try.prog 6 [imgPV g, tys a, tys b] (pb true) := by
  refine acall_intro tbOK Try.func6 rfl (by kernel_rfl) Try.ntmps6 (by simp) _ rfl (fun hw gB => ?_)
  have c1 := Long_call g
  have c2 := Well_call g
  cases hl : longG g
  · rw [hl] at c1
    by_cases ha : 40 < a.length
    · repeat' (first | (refine ao_sh_call ?_; first | refine ao_q rfl (q_call rfl rfl (wakes15_call)) rfl rfl ?_ | refine ao_q rfl (q_call rfl rfl (c1)) rfl rfl ?_) | (refine ao_sh_store ?_; first | refine ao_store tbOK rfl rfl rfl rfl rfl rfl rfl rfl rfl ?_) | (refine ao_sh_alloc ?_; first | refine ao_alloc tbOK 0 rfl rfl rfl rfl rfl rfl rfl ?_ | refine ao_alloc tbOK 1 rfl rfl rfl rfl rfl rfl rfl ?_ | refine ao_alloc tbOK 2 rfl rfl rfl rfl rfl rfl rfl ?_ | refine ao_alloc tbOK 3 rfl rfl rfl rfl rfl rfl rfl ?_ | refine ao_alloc tbOK 4 rfl rfl rfl rfl rfl rfl rfl ?_ | refine ao_alloc tbOK 5 rfl rfl rfl rfl rfl rfl rfl ?_) | (refine ao_id ?_; first | refine ao_step tbOK rfl rfl rfl rfl ?_ | refine ao_nil ?_ | refine ao_skip rfl rfl rfl ?_ | (refine ao_caseB true rfl rfl ?_ ?_; · (first | assumption | (simp <;> omega))) | (refine ao_caseB false rfl rfl ?_ ?_; · (first | assumption | (simp <;> omega))) | refine ao_case rfl rfl (fun _ => ?_) (fun _ => ?_)) | (refine ad_sh_call ?_; first | refine AD.step _ _ _ _ _ rfl (q_call rfl rfl (wakes15_call)) rfl rfl ?_ | refine AD.step _ _ _ _ _ rfl (q_call rfl rfl (c1)) rfl rfl ?_) | (refine ad_id ?_; first | refine AD.step _ _ _ _ _ rfl (opE_sound tbOK rfl) rfl rfl ?_ | refine AD.nil _ ?_ | refine AD.skip _ _ _ _ rfl rfl rfl ?_ | (refine ad_caseB true rfl rfl ?_ ?_; · (first | assumption | (simp <;> omega))) | (refine ad_caseB false rfl rfl ?_ ?_; · (first | assumption | (simp <;> omega))) | refine ad_case rfl rfl (fun _ => ?_) (fun _ => ?_)) | refine aw_seq ?_ | refine aw_region ?_ | refine aw_block ?_ | (refine aw_sh_cond ?_; first | refine aw_cond_true rfl ?_ | refine aw_cond_false rfl ?_ | (refine aw_condT rfl ?_ ?_; · (first | assumption | (simp <;> omega))) | (refine aw_condF rfl ?_ ?_; · (first | assumption | (simp <;> omega))) | refine aw_cond rfl (fun _ => ?_) (fun _ => ?_)) | refine aw_skip ?_ | refine aw_exit ?_ | refine aw_ret ?_ | refine aw_draw (by kernel_rfl) (by kernel_rfl) ?_)
      all_goals exact retq rfl rfl
    by_cases hb : 40 < b.length
    · repeat' (first | (refine ao_sh_call ?_; first | refine ao_q rfl (q_call rfl rfl (wakes15_call)) rfl rfl ?_ | refine ao_q rfl (q_call rfl rfl (c1)) rfl rfl ?_) | (refine ao_sh_store ?_; first | refine ao_store tbOK rfl rfl rfl rfl rfl rfl rfl rfl rfl ?_) | (refine ao_sh_alloc ?_; first | refine ao_alloc tbOK 0 rfl rfl rfl rfl rfl rfl rfl ?_ | refine ao_alloc tbOK 1 rfl rfl rfl rfl rfl rfl rfl ?_ | refine ao_alloc tbOK 2 rfl rfl rfl rfl rfl rfl rfl ?_ | refine ao_alloc tbOK 3 rfl rfl rfl rfl rfl rfl rfl ?_ | refine ao_alloc tbOK 4 rfl rfl rfl rfl rfl rfl rfl ?_ | refine ao_alloc tbOK 5 rfl rfl rfl rfl rfl rfl rfl ?_) | (refine ao_id ?_; first | refine ao_step tbOK rfl rfl rfl rfl ?_ | refine ao_nil ?_ | refine ao_skip rfl rfl rfl ?_ | (refine ao_caseB true rfl rfl ?_ ?_; · (first | assumption | (simp <;> omega))) | (refine ao_caseB false rfl rfl ?_ ?_; · (first | assumption | (simp <;> omega))) | refine ao_case rfl rfl (fun _ => ?_) (fun _ => ?_)) | (refine ad_sh_call ?_; first | refine AD.step _ _ _ _ _ rfl (q_call rfl rfl (wakes15_call)) rfl rfl ?_ | refine AD.step _ _ _ _ _ rfl (q_call rfl rfl (c1)) rfl rfl ?_) | (refine ad_id ?_; first | refine AD.step _ _ _ _ _ rfl (opE_sound tbOK rfl) rfl rfl ?_ | refine AD.nil _ ?_ | refine AD.skip _ _ _ _ rfl rfl rfl ?_ | (refine ad_caseB true rfl rfl ?_ ?_; · (first | assumption | (simp <;> omega))) | (refine ad_caseB false rfl rfl ?_ ?_; · (first | assumption | (simp <;> omega))) | refine ad_case rfl rfl (fun _ => ?_) (fun _ => ?_)) | refine aw_seq ?_ | refine aw_region ?_ | refine aw_block ?_ | (refine aw_sh_cond ?_; first | refine aw_cond_true rfl ?_ | refine aw_cond_false rfl ?_ | (refine aw_condT rfl ?_ ?_; · (first | assumption | (simp <;> omega))) | (refine aw_condF rfl ?_ ?_; · (first | assumption | (simp <;> omega))) | refine aw_cond rfl (fun _ => ?_) (fun _ => ?_)) | refine aw_skip ?_ | refine aw_exit ?_ | refine aw_ret ?_ | refine aw_draw (by kernel_rfl) (by kernel_rfl) ?_)
      all_goals exact retq rfl rfl
    cases hwl : wellR g
    · rw [hwl] at c2
      repeat' (first | (refine ao_sh_call ?_; first | refine ao_q rfl (q_call rfl rfl (wakes15_call)) rfl rfl ?_ | refine ao_q rfl (q_call rfl rfl (c1)) rfl rfl ?_ | refine ao_q rfl (q_call rfl rfl (c2)) rfl rfl ?_) | (refine ao_sh_store ?_; first | refine ao_store tbOK rfl rfl rfl rfl rfl rfl rfl rfl rfl ?_) | (refine ao_sh_alloc ?_; first | refine ao_alloc tbOK 0 rfl rfl rfl rfl rfl rfl rfl ?_ | refine ao_alloc tbOK 1 rfl rfl rfl rfl rfl rfl rfl ?_ | refine ao_alloc tbOK 2 rfl rfl rfl rfl rfl rfl rfl ?_ | refine ao_alloc tbOK 3 rfl rfl rfl rfl rfl rfl rfl ?_ | refine ao_alloc tbOK 4 rfl rfl rfl rfl rfl rfl rfl ?_ | refine ao_alloc tbOK 5 rfl rfl rfl rfl rfl rfl rfl ?_) | (refine ao_id ?_; first | refine ao_step tbOK rfl rfl rfl rfl ?_ | refine ao_nil ?_ | refine ao_skip rfl rfl rfl ?_ | (refine ao_caseB true rfl rfl ?_ ?_; · (first | assumption | (simp <;> omega))) | (refine ao_caseB false rfl rfl ?_ ?_; · (first | assumption | (simp <;> omega))) | refine ao_case rfl rfl (fun _ => ?_) (fun _ => ?_)) | (refine ad_sh_call ?_; first | refine AD.step _ _ _ _ _ rfl (q_call rfl rfl (wakes15_call)) rfl rfl ?_ | refine AD.step _ _ _ _ _ rfl (q_call rfl rfl (c1)) rfl rfl ?_ | refine AD.step _ _ _ _ _ rfl (q_call rfl rfl (c2)) rfl rfl ?_) | (refine ad_id ?_; first | refine AD.step _ _ _ _ _ rfl (opE_sound tbOK rfl) rfl rfl ?_ | refine AD.nil _ ?_ | refine AD.skip _ _ _ _ rfl rfl rfl ?_ | (refine ad_caseB true rfl rfl ?_ ?_; · (first | assumption | (simp <;> omega))) | (refine ad_caseB false rfl rfl ?_ ?_; · (first | assumption | (simp <;> omega))) | refine ad_case rfl rfl (fun _ => ?_) (fun _ => ?_)) | refine aw_seq ?_ | refine aw_region ?_ | refine aw_block ?_ | (refine aw_sh_cond ?_; first | refine aw_cond_true rfl ?_ | refine aw_cond_false rfl ?_ | (refine aw_condT rfl ?_ ?_; · (first | assumption | (simp <;> omega))) | (refine aw_condF rfl ?_ ?_; · (first | assumption | (simp <;> omega))) | refine aw_cond rfl (fun _ => ?_) (fun _ => ?_)) | refine aw_skip ?_ | refine aw_exit ?_ | refine aw_ret ?_ | refine aw_draw (by kernel_rfl) (by kernel_rfl) ?_)
      all_goals exact retq rfl rfl
    · rw [hwl] at c2
      have hF := fm_of (well_formed hwl)
      have c3 := SMergeP_call g a b hF (by omega)
      by_cases he : (smergeP g a b).2 = 0
      · obtain ⟨f1, f2⟩ := smerge_ok he
        have hsame := smerge_fit he
        generalize smergeP g a b = m at c3 he f1 f2 hsame
        obtain ⟨l, e⟩ := m
        simp only at c3 he f1 f2 hsame
        subst he
        have c4 := SFits_call g a l hF
        have c5 := SFits_call g b l hF
        have c6 := SFits_call g b a hF
        rw [f1] at c4
        rw [f2] at c5
        cases hba : sfitsP g b a
        · rw [hba] at c6
          repeat' (first | (refine ao_sh_call ?_; first | refine ao_q rfl (q_call rfl rfl (wakes15_call)) rfl rfl ?_ | refine ao_q rfl (q_call rfl rfl (c1)) rfl rfl ?_ | refine ao_q rfl (q_call rfl rfl (c2)) rfl rfl ?_ | refine ao_q rfl (q_call rfl rfl (c3)) rfl rfl ?_ | refine ao_q rfl (q_call rfl rfl (c4)) rfl rfl ?_ | refine ao_q rfl (q_call rfl rfl (c5)) rfl rfl ?_ | refine ao_q rfl (q_call rfl rfl (c6)) rfl rfl ?_) | (refine ao_sh_store ?_; first | refine ao_store tbOK rfl rfl rfl rfl rfl rfl rfl rfl rfl ?_) | (refine ao_sh_alloc ?_; first | refine ao_alloc tbOK 0 rfl rfl rfl rfl rfl rfl rfl ?_ | refine ao_alloc tbOK 1 rfl rfl rfl rfl rfl rfl rfl ?_ | refine ao_alloc tbOK 2 rfl rfl rfl rfl rfl rfl rfl ?_ | refine ao_alloc tbOK 3 rfl rfl rfl rfl rfl rfl rfl ?_ | refine ao_alloc tbOK 4 rfl rfl rfl rfl rfl rfl rfl ?_ | refine ao_alloc tbOK 5 rfl rfl rfl rfl rfl rfl rfl ?_) | (refine ao_id ?_; first | refine ao_step tbOK rfl rfl rfl rfl ?_ | refine ao_nil ?_ | refine ao_skip rfl rfl rfl ?_ | (refine ao_caseB true rfl rfl ?_ ?_; · (first | assumption | (simp <;> omega))) | (refine ao_caseB false rfl rfl ?_ ?_; · (first | assumption | (simp <;> omega))) | refine ao_case rfl rfl (fun _ => ?_) (fun _ => ?_)) | (refine ad_sh_call ?_; first | refine AD.step _ _ _ _ _ rfl (q_call rfl rfl (wakes15_call)) rfl rfl ?_ | refine AD.step _ _ _ _ _ rfl (q_call rfl rfl (c1)) rfl rfl ?_ | refine AD.step _ _ _ _ _ rfl (q_call rfl rfl (c2)) rfl rfl ?_ | refine AD.step _ _ _ _ _ rfl (q_call rfl rfl (c3)) rfl rfl ?_ | refine AD.step _ _ _ _ _ rfl (q_call rfl rfl (c4)) rfl rfl ?_ | refine AD.step _ _ _ _ _ rfl (q_call rfl rfl (c5)) rfl rfl ?_ | refine AD.step _ _ _ _ _ rfl (q_call rfl rfl (c6)) rfl rfl ?_) | (refine ad_id ?_; first | refine AD.step _ _ _ _ _ rfl (opE_sound tbOK rfl) rfl rfl ?_ | refine AD.nil _ ?_ | refine AD.skip _ _ _ _ rfl rfl rfl ?_ | (refine ad_caseB true rfl rfl ?_ ?_; · (first | assumption | (simp <;> omega))) | (refine ad_caseB false rfl rfl ?_ ?_; · (first | assumption | (simp <;> omega))) | refine ad_case rfl rfl (fun _ => ?_) (fun _ => ?_)) | refine aw_seq ?_ | refine aw_region ?_ | refine aw_block ?_ | (refine aw_sh_cond ?_; first | refine aw_cond_true rfl ?_ | refine aw_cond_false rfl ?_ | (refine aw_condT rfl ?_ ?_; · (first | assumption | (simp <;> omega))) | (refine aw_condF rfl ?_ ?_; · (first | assumption | (simp <;> omega))) | refine aw_cond rfl (fun _ => ?_) (fun _ => ?_)) | refine aw_skip ?_ | refine aw_exit ?_ | refine aw_ret ?_ | refine aw_draw (by kernel_rfl) (by kernel_rfl) ?_)
          all_goals exact retq rfl rfl
        · rw [hba] at c6
          have c7 := SameTypes_call l a
          rw [decide_eq_true (hsame hba)] at c7
          repeat' (first | (refine ao_sh_call ?_; first | refine ao_q rfl (q_call rfl rfl (wakes15_call)) rfl rfl ?_ | refine ao_q rfl (q_call rfl rfl (c1)) rfl rfl ?_ | refine ao_q rfl (q_call rfl rfl (c2)) rfl rfl ?_ | refine ao_q rfl (q_call rfl rfl (c3)) rfl rfl ?_ | refine ao_q rfl (q_call rfl rfl (c4)) rfl rfl ?_ | refine ao_q rfl (q_call rfl rfl (c5)) rfl rfl ?_ | refine ao_q rfl (q_call rfl rfl (c6)) rfl rfl ?_ | refine ao_q rfl (q_call rfl rfl (c7)) rfl rfl ?_) | (refine ao_sh_store ?_; first | refine ao_store tbOK rfl rfl rfl rfl rfl rfl rfl rfl rfl ?_) | (refine ao_sh_alloc ?_; first | refine ao_alloc tbOK 0 rfl rfl rfl rfl rfl rfl rfl ?_ | refine ao_alloc tbOK 1 rfl rfl rfl rfl rfl rfl rfl ?_ | refine ao_alloc tbOK 2 rfl rfl rfl rfl rfl rfl rfl ?_ | refine ao_alloc tbOK 3 rfl rfl rfl rfl rfl rfl rfl ?_ | refine ao_alloc tbOK 4 rfl rfl rfl rfl rfl rfl rfl ?_ | refine ao_alloc tbOK 5 rfl rfl rfl rfl rfl rfl rfl ?_) | (refine ao_id ?_; first | refine ao_step tbOK rfl rfl rfl rfl ?_ | refine ao_nil ?_ | refine ao_skip rfl rfl rfl ?_ | (refine ao_caseB true rfl rfl ?_ ?_; · (first | assumption | (simp <;> omega))) | (refine ao_caseB false rfl rfl ?_ ?_; · (first | assumption | (simp <;> omega))) | refine ao_case rfl rfl (fun _ => ?_) (fun _ => ?_)) | (refine ad_sh_call ?_; first | refine AD.step _ _ _ _ _ rfl (q_call rfl rfl (wakes15_call)) rfl rfl ?_ | refine AD.step _ _ _ _ _ rfl (q_call rfl rfl (c1)) rfl rfl ?_ | refine AD.step _ _ _ _ _ rfl (q_call rfl rfl (c2)) rfl rfl ?_ | refine AD.step _ _ _ _ _ rfl (q_call rfl rfl (c3)) rfl rfl ?_ | refine AD.step _ _ _ _ _ rfl (q_call rfl rfl (c4)) rfl rfl ?_ | refine AD.step _ _ _ _ _ rfl (q_call rfl rfl (c5)) rfl rfl ?_ | refine AD.step _ _ _ _ _ rfl (q_call rfl rfl (c6)) rfl rfl ?_ | refine AD.step _ _ _ _ _ rfl (q_call rfl rfl (c7)) rfl rfl ?_) | (refine ad_id ?_; first | refine AD.step _ _ _ _ _ rfl (opE_sound tbOK rfl) rfl rfl ?_ | refine AD.nil _ ?_ | refine AD.skip _ _ _ _ rfl rfl rfl ?_ | (refine ad_caseB true rfl rfl ?_ ?_; · (first | assumption | (simp <;> omega))) | (refine ad_caseB false rfl rfl ?_ ?_; · (first | assumption | (simp <;> omega))) | refine ad_case rfl rfl (fun _ => ?_) (fun _ => ?_)) | refine aw_seq ?_ | refine aw_region ?_ | refine aw_block ?_ | (refine aw_sh_cond ?_; first | refine aw_cond_true rfl ?_ | refine aw_cond_false rfl ?_ | (refine aw_condT rfl ?_ ?_; · (first | assumption | (simp <;> omega))) | (refine aw_condF rfl ?_ ?_; · (first | assumption | (simp <;> omega))) | refine aw_cond rfl (fun _ => ?_) (fun _ => ?_)) | refine aw_skip ?_ | refine aw_exit ?_ | refine aw_ret ?_ | refine aw_draw (by kernel_rfl) (by kernel_rfl) ?_)
          all_goals exact retq rfl rfl
      · obtain ⟨f1, f2⟩ := smerge_bad he
        have hne : ((smergeP g a b).2 != 0) = true := by simp [he]
        have c4 := SFits_call g a b hF
        have c5 := SFits_call g b a hF
        rw [f1] at c4
        rw [f2] at c5
        repeat' (first | (refine ao_sh_call ?_; first | refine ao_q rfl (q_call rfl rfl (wakes15_call)) rfl rfl ?_ | refine ao_q rfl (q_call rfl rfl (c1)) rfl rfl ?_ | refine ao_q rfl (q_call rfl rfl (c2)) rfl rfl ?_ | refine ao_q rfl (q_call rfl rfl (c3)) rfl rfl ?_ | refine ao_q rfl (q_call rfl rfl (c4)) rfl rfl ?_ | refine ao_q rfl (q_call rfl rfl (c5)) rfl rfl ?_) | (refine ao_sh_store ?_; first | refine ao_store tbOK rfl rfl rfl rfl rfl rfl rfl rfl rfl ?_) | (refine ao_sh_alloc ?_; first | refine ao_alloc tbOK 0 rfl rfl rfl rfl rfl rfl rfl ?_ | refine ao_alloc tbOK 1 rfl rfl rfl rfl rfl rfl rfl ?_ | refine ao_alloc tbOK 2 rfl rfl rfl rfl rfl rfl rfl ?_ | refine ao_alloc tbOK 3 rfl rfl rfl rfl rfl rfl rfl ?_ | refine ao_alloc tbOK 4 rfl rfl rfl rfl rfl rfl rfl ?_ | refine ao_alloc tbOK 5 rfl rfl rfl rfl rfl rfl rfl ?_) | (refine ao_id ?_; first | refine ao_step tbOK rfl rfl rfl rfl ?_ | refine ao_nil ?_ | refine ao_skip rfl rfl rfl ?_ | (refine ao_caseB true rfl rfl ?_ ?_; · (first | assumption | (simp <;> omega))) | (refine ao_caseB false rfl rfl ?_ ?_; · (first | assumption | (simp <;> omega))) | refine ao_case rfl rfl (fun _ => ?_) (fun _ => ?_)) | (refine ad_sh_call ?_; first | refine AD.step _ _ _ _ _ rfl (q_call rfl rfl (wakes15_call)) rfl rfl ?_ | refine AD.step _ _ _ _ _ rfl (q_call rfl rfl (c1)) rfl rfl ?_ | refine AD.step _ _ _ _ _ rfl (q_call rfl rfl (c2)) rfl rfl ?_ | refine AD.step _ _ _ _ _ rfl (q_call rfl rfl (c3)) rfl rfl ?_ | refine AD.step _ _ _ _ _ rfl (q_call rfl rfl (c4)) rfl rfl ?_ | refine AD.step _ _ _ _ _ rfl (q_call rfl rfl (c5)) rfl rfl ?_) | (refine ad_id ?_; first | refine AD.step _ _ _ _ _ rfl (opE_sound tbOK rfl) rfl rfl ?_ | refine AD.nil _ ?_ | refine AD.skip _ _ _ _ rfl rfl rfl ?_ | (refine ad_caseB true rfl rfl ?_ ?_; · (first | assumption | (simp <;> omega))) | (refine ad_caseB false rfl rfl ?_ ?_; · (first | assumption | (simp <;> omega))) | refine ad_case rfl rfl (fun _ => ?_) (fun _ => ?_)) | refine aw_seq ?_ | refine aw_region ?_ | refine aw_block ?_ | (refine aw_sh_cond ?_; first | refine aw_cond_true rfl ?_ | refine aw_cond_false rfl ?_ | (refine aw_condT rfl ?_ ?_; · (first | assumption | (simp <;> omega))) | (refine aw_condF rfl ?_ ?_; · (first | assumption | (simp <;> omega))) | refine aw_cond rfl (fun _ => ?_) (fun _ => ?_)) | refine aw_skip ?_ | refine aw_exit ?_ | refine aw_ret ?_ | refine aw_draw (by kernel_rfl) (by kernel_rfl) ?_)
        all_goals exact retq rfl rfl
  · rw [hl] at c1
    repeat' (first | (refine ao_sh_call ?_; first | refine ao_q rfl (q_call rfl rfl (wakes15_call)) rfl rfl ?_ | refine ao_q rfl (q_call rfl rfl (c1)) rfl rfl ?_) | (refine ao_sh_store ?_; first | refine ao_store tbOK rfl rfl rfl rfl rfl rfl rfl rfl rfl ?_) | (refine ao_sh_alloc ?_; first | refine ao_alloc tbOK 0 rfl rfl rfl rfl rfl rfl rfl ?_ | refine ao_alloc tbOK 1 rfl rfl rfl rfl rfl rfl rfl ?_ | refine ao_alloc tbOK 2 rfl rfl rfl rfl rfl rfl rfl ?_ | refine ao_alloc tbOK 3 rfl rfl rfl rfl rfl rfl rfl ?_ | refine ao_alloc tbOK 4 rfl rfl rfl rfl rfl rfl rfl ?_ | refine ao_alloc tbOK 5 rfl rfl rfl rfl rfl rfl rfl ?_) | (refine ao_id ?_; first | refine ao_step tbOK rfl rfl rfl rfl ?_ | refine ao_nil ?_ | refine ao_skip rfl rfl rfl ?_ | (refine ao_caseB true rfl rfl ?_ ?_; · (first | assumption | (simp <;> omega))) | (refine ao_caseB false rfl rfl ?_ ?_; · (first | assumption | (simp <;> omega))) | refine ao_case rfl rfl (fun _ => ?_) (fun _ => ?_)) | (refine ad_sh_call ?_; first | refine AD.step _ _ _ _ _ rfl (q_call rfl rfl (wakes15_call)) rfl rfl ?_ | refine AD.step _ _ _ _ _ rfl (q_call rfl rfl (c1)) rfl rfl ?_) | (refine ad_id ?_; first | refine AD.step _ _ _ _ _ rfl (opE_sound tbOK rfl) rfl rfl ?_ | refine AD.nil _ ?_ | refine AD.skip _ _ _ _ rfl rfl rfl ?_ | (refine ad_caseB true rfl rfl ?_ ?_; · (first | assumption | (simp <;> omega))) | (refine ad_caseB false rfl rfl ?_ ?_; · (first | assumption | (simp <;> omega))) | refine ad_case rfl rfl (fun _ => ?_) (fun _ => ?_)) | refine aw_seq ?_ | refine aw_region ?_ | refine aw_block ?_ | (refine aw_sh_cond ?_; first | refine aw_cond_true rfl ?_ | refine aw_cond_false rfl ?_ | (refine aw_condT rfl ?_ ?_; · (first | assumption | (simp <;> omega))) | (refine aw_condF rfl ?_ ?_; · (first | assumption | (simp <;> omega))) | refine aw_cond rfl (fun _ => ?_) (fun _ => ?_)) | refine aw_skip ?_ | refine aw_exit ?_ | refine aw_ret ?_ | refine aw_draw (by kernel_rfl) (by kernel_rfl) ?_)
    all_goals exact retq rfl rfl
end Go.Cg
