/- A part of the walks by abstract values: no statement of its own. -/
import Derived.Test.YtkbdoobcgifaaaaGreatB5
import Derived.Test.YtkbdoobcgifaaaaGreatL1
namespace Go.Cg
open Go.Proofs

theorem SameInts_call (a b : List Int) : ACall Tryz.prog 26 [ints a, ints b] (pb (decide (a = b))) := by
  refine acall_intro tbOK Tryz.func26 rfl (by kernel_rfl) Tryz.ntmps26 (by simp) _ rfl (fun hw gB => ?_)
  have hl := ints_len hw.1
  by_cases hlen : a.length = b.length
  · repeat' (first | (refine ao_sh_store ?_; first | refine ao_store tbOK rfl rfl rfl rfl rfl rfl rfl rfl rfl ?_) | (refine ao_sh_alloc ?_; first | refine ao_alloc tbOK 0 rfl rfl rfl rfl rfl rfl rfl ?_ | refine ao_alloc tbOK 1 rfl rfl rfl rfl rfl rfl rfl ?_ | refine ao_alloc tbOK 2 rfl rfl rfl rfl rfl rfl rfl ?_ | refine ao_alloc tbOK 3 rfl rfl rfl rfl rfl rfl rfl ?_ | refine ao_alloc tbOK 4 rfl rfl rfl rfl rfl rfl rfl ?_ | refine ao_alloc tbOK 5 rfl rfl rfl rfl rfl rfl rfl ?_) | (refine ao_id ?_; first | refine ao_step tbOK rfl rfl rfl rfl ?_ | refine ao_nil ?_ | refine ao_skip rfl rfl rfl ?_ | (refine ao_caseB true rfl rfl ?_ ?_; · (first | assumption | (simp <;> omega))) | (refine ao_caseB false rfl rfl ?_ ?_; · (first | assumption | (simp <;> omega))) | refine ao_case rfl rfl (fun _ => ?_) (fun _ => ?_)) | (refine ad_id ?_; first | refine AD.step _ _ _ _ _ rfl (opE_sound tbOK rfl) rfl rfl ?_ | refine AD.nil _ ?_ | refine AD.skip _ _ _ _ rfl rfl rfl ?_ | (refine ad_caseB true rfl rfl ?_ ?_; · (first | assumption | (simp <;> omega))) | (refine ad_caseB false rfl rfl ?_ ?_; · (first | assumption | (simp <;> omega))) | refine ad_case rfl rfl (fun _ => ?_) (fun _ => ?_)) | refine aw_seq ?_ | refine aw_region ?_ | refine aw_block ?_ | (refine aw_sh_cond ?_; first | refine aw_cond_true rfl ?_ | refine aw_cond_false rfl ?_ | (refine aw_condT rfl ?_ ?_; · (first | assumption | (simp <;> omega))) | (refine aw_condF rfl ?_ ?_; · (first | assumption | (simp <;> omega))) | refine aw_cond rfl (fun _ => ?_) (fun _ => ?_)) | refine aw_skip ?_ | refine aw_exit ?_ | refine aw_ret ?_ | refine aw_draw (by kernel_rfl) (by kernel_rfl) ?_)
    refine aw_loop (fun k : Nat => [(0, .pv (ints a)), (1, .pv (ints b)), (5, .pv (pi k))]) (fun _ => []) (fun k => k ≤ a.length ∧ a.take k = b.take k) (fun k => a.length - k) 0 ⟨by simp, by simp⟩ (by repeat (first | exact sub_nil | refine sub_cons rfl ?_ | (refine sub_i rfl ?_ ?_; · (first | (rw [wrap_in (by omega) (by omega)] <;> omega) | (dsimp only; rw [wrap_in (by omega) (by omega)] <;> omega) | (simp; done))))) ⟨by repeat (first | exact hsub_nil | refine hsub_cons rfl ?_), rfl⟩ ?_
    rintro k ⟨hk, hno⟩
    by_cases hlt : k < a.length
    · have he := ints_get hlt
      have hltb : k < b.length := by omega
      have he' := ints_get hltb
      repeat' (first | (refine ao_sh_ix ?_; first | refine ao_q rfl (q_index tbOK rfl rfl rfl rfl rfl rfl (by omega) he) rfl rfl ?_ | refine ao_q rfl (q_index tbOK rfl rfl rfl rfl rfl rfl (by omega) he') rfl rfl ?_) | (refine ao_sh_store ?_; first | refine ao_store tbOK rfl rfl rfl rfl rfl rfl rfl rfl rfl ?_) | (refine ao_sh_alloc ?_; first | refine ao_alloc tbOK 0 rfl rfl rfl rfl rfl rfl rfl ?_ | refine ao_alloc tbOK 1 rfl rfl rfl rfl rfl rfl rfl ?_ | refine ao_alloc tbOK 2 rfl rfl rfl rfl rfl rfl rfl ?_ | refine ao_alloc tbOK 3 rfl rfl rfl rfl rfl rfl rfl ?_ | refine ao_alloc tbOK 4 rfl rfl rfl rfl rfl rfl rfl ?_ | refine ao_alloc tbOK 5 rfl rfl rfl rfl rfl rfl rfl ?_) | (refine ao_id ?_; first | refine ao_step tbOK rfl rfl rfl rfl ?_ | refine ao_nil ?_ | refine ao_skip rfl rfl rfl ?_ | (refine ao_caseB true rfl rfl ?_ ?_; · (first | assumption | (simp <;> omega))) | (refine ao_caseB false rfl rfl ?_ ?_; · (first | assumption | (simp <;> omega))) | refine ao_case rfl rfl (fun _ => ?_) (fun _ => ?_)) | (refine ad_sh_ix ?_; first | refine AD.step _ _ _ _ _ rfl (q_index tbOK rfl rfl rfl rfl rfl rfl (by omega) he) rfl rfl ?_ | refine AD.step _ _ _ _ _ rfl (q_index tbOK rfl rfl rfl rfl rfl rfl (by omega) he') rfl rfl ?_) | (refine ad_id ?_; first | refine AD.step _ _ _ _ _ rfl (opE_sound tbOK rfl) rfl rfl ?_ | refine AD.nil _ ?_ | refine AD.skip _ _ _ _ rfl rfl rfl ?_ | (refine ad_caseB true rfl rfl ?_ ?_; · (first | assumption | (simp <;> omega))) | (refine ad_caseB false rfl rfl ?_ ?_; · (first | assumption | (simp <;> omega))) | refine ad_case rfl rfl (fun _ => ?_) (fun _ => ?_)) | refine aw_seq ?_ | refine aw_region ?_ | refine aw_block ?_ | (refine aw_sh_cond ?_; first | refine aw_cond_true rfl ?_ | refine aw_cond_false rfl ?_ | (refine aw_condT rfl ?_ ?_; · (first | assumption | (simp <;> omega))) | (refine aw_condF rfl ?_ ?_; · (first | assumption | (simp <;> omega))) | refine aw_cond rfl (fun _ => ?_) (fun _ => ?_)) | refine aw_skip ?_ | refine aw_exit ?_ | refine aw_ret ?_ | refine aw_draw (by kernel_rfl) (by kernel_rfl) ?_)
      · rename_i h
        refine retq rfl ?_
        have : a ≠ b := by
          rintro rfl
          simp at h
        simp [retPV, this]
      · rename_i h
        have e : a[k] = b[k] := by simpa using h
        exact ⟨k + 1, ⟨by omega, by rw [List.take_succ_eq_append_getElem hlt, List.take_succ_eq_append_getElem hltb, hno, e]⟩, (by dsimp only; omega), by repeat (first | exact sub_nil | refine sub_cons rfl ?_ | (refine sub_i rfl ?_ ?_; · (first | (rw [wrap_in (by omega) (by omega)] <;> omega) | (dsimp only; rw [wrap_in (by omega) (by omega)] <;> omega) | (simp; done)))), ⟨by repeat (first | exact hsub_nil | refine hsub_cons rfl ?_), rfl⟩⟩
    · repeat' (first | (refine ao_sh_store ?_; first | refine ao_store tbOK rfl rfl rfl rfl rfl rfl rfl rfl rfl ?_) | (refine ao_sh_alloc ?_; first | refine ao_alloc tbOK 0 rfl rfl rfl rfl rfl rfl rfl ?_ | refine ao_alloc tbOK 1 rfl rfl rfl rfl rfl rfl rfl ?_ | refine ao_alloc tbOK 2 rfl rfl rfl rfl rfl rfl rfl ?_ | refine ao_alloc tbOK 3 rfl rfl rfl rfl rfl rfl rfl ?_ | refine ao_alloc tbOK 4 rfl rfl rfl rfl rfl rfl rfl ?_ | refine ao_alloc tbOK 5 rfl rfl rfl rfl rfl rfl rfl ?_) | (refine ao_id ?_; first | refine ao_step tbOK rfl rfl rfl rfl ?_ | refine ao_nil ?_ | refine ao_skip rfl rfl rfl ?_ | (refine ao_caseB true rfl rfl ?_ ?_; · (first | assumption | (simp <;> omega))) | (refine ao_caseB false rfl rfl ?_ ?_; · (first | assumption | (simp <;> omega))) | refine ao_case rfl rfl (fun _ => ?_) (fun _ => ?_)) | (refine ad_id ?_; first | refine AD.step _ _ _ _ _ rfl (opE_sound tbOK rfl) rfl rfl ?_ | refine AD.nil _ ?_ | refine AD.skip _ _ _ _ rfl rfl rfl ?_ | (refine ad_caseB true rfl rfl ?_ ?_; · (first | assumption | (simp <;> omega))) | (refine ad_caseB false rfl rfl ?_ ?_; · (first | assumption | (simp <;> omega))) | refine ad_case rfl rfl (fun _ => ?_) (fun _ => ?_)) | refine aw_seq ?_ | refine aw_region ?_ | refine aw_block ?_ | (refine aw_sh_cond ?_; first | refine aw_cond_true rfl ?_ | refine aw_cond_false rfl ?_ | (refine aw_condT rfl ?_ ?_; · (first | assumption | (simp <;> omega))) | (refine aw_condF rfl ?_ ?_; · (first | assumption | (simp <;> omega))) | refine aw_cond rfl (fun _ => ?_) (fun _ => ?_)) | refine aw_skip ?_ | refine aw_exit ?_ | refine aw_ret ?_ | refine aw_draw (by kernel_rfl) (by kernel_rfl) ?_)
      have e : a = b := by
        have h1 := hno
        rw [List.take_of_length_le (by omega), List.take_of_length_le (by omega)] at h1
        exact h1
      exact retq rfl (by simp [retPV, e])
  · have hne : a ≠ b := by rintro rfl; exact hlen rfl
    have hb : ((((a.map pi).length : Nat) : Int) != (((b.map pi).length : Nat) : Int)) = true := by simp; omega
    repeat' (first | (refine ao_sh_store ?_; first | refine ao_store tbOK rfl rfl rfl rfl rfl rfl rfl rfl rfl ?_) | (refine ao_sh_alloc ?_; first | refine ao_alloc tbOK 0 rfl rfl rfl rfl rfl rfl rfl ?_ | refine ao_alloc tbOK 1 rfl rfl rfl rfl rfl rfl rfl ?_ | refine ao_alloc tbOK 2 rfl rfl rfl rfl rfl rfl rfl ?_ | refine ao_alloc tbOK 3 rfl rfl rfl rfl rfl rfl rfl ?_ | refine ao_alloc tbOK 4 rfl rfl rfl rfl rfl rfl rfl ?_ | refine ao_alloc tbOK 5 rfl rfl rfl rfl rfl rfl rfl ?_) | (refine ao_id ?_; first | refine ao_step tbOK rfl rfl rfl rfl ?_ | refine ao_nil ?_ | refine ao_skip rfl rfl rfl ?_ | (refine ao_caseB true rfl rfl ?_ ?_; · (first | assumption | (simp <;> omega))) | (refine ao_caseB false rfl rfl ?_ ?_; · (first | assumption | (simp <;> omega))) | refine ao_case rfl rfl (fun _ => ?_) (fun _ => ?_)) | (refine ad_id ?_; first | refine AD.step _ _ _ _ _ rfl (opE_sound tbOK rfl) rfl rfl ?_ | refine AD.nil _ ?_ | refine AD.skip _ _ _ _ rfl rfl rfl ?_ | (refine ad_caseB true rfl rfl ?_ ?_; · (first | assumption | (simp <;> omega))) | (refine ad_caseB false rfl rfl ?_ ?_; · (first | assumption | (simp <;> omega))) | refine ad_case rfl rfl (fun _ => ?_) (fun _ => ?_)) | refine aw_seq ?_ | refine aw_region ?_ | refine aw_block ?_ | (refine aw_sh_cond ?_; first | refine aw_cond_true rfl ?_ | refine aw_cond_false rfl ?_ | (refine aw_condT rfl ?_ ?_; · (first | assumption | (simp <;> omega))) | (refine aw_condF rfl ?_ ?_; · (first | assumption | (simp <;> omega))) | refine aw_cond rfl (fun _ => ?_) (fun _ => ?_)) | refine aw_skip ?_ | refine aw_exit ?_ | refine aw_ret ?_ | refine aw_draw (by kernel_rfl) (by kernel_rfl) ?_)
    exact retq rfl (by simp [retPV, hne])
theorem SameI_call (a b : List Int) : ACall Tryz.prog 14 [ints a, ints b] (pb (decide (a = b))) := by
  refine acall_intro tbOK Tryz.func14 rfl (by kernel_rfl) Tryz.ntmps14 (by simp) _ rfl (fun hw gB => ?_)
  repeat' (first | (refine ao_sh_call ?_; first | refine ao_q rfl (q_call rfl rfl (SameInts_call a b)) rfl rfl ?_) | (refine ao_sh_store ?_; first | refine ao_store tbOK rfl rfl rfl rfl rfl rfl rfl rfl rfl ?_) | (refine ao_sh_alloc ?_; first | refine ao_alloc tbOK 0 rfl rfl rfl rfl rfl rfl rfl ?_ | refine ao_alloc tbOK 1 rfl rfl rfl rfl rfl rfl rfl ?_ | refine ao_alloc tbOK 2 rfl rfl rfl rfl rfl rfl rfl ?_ | refine ao_alloc tbOK 3 rfl rfl rfl rfl rfl rfl rfl ?_ | refine ao_alloc tbOK 4 rfl rfl rfl rfl rfl rfl rfl ?_ | refine ao_alloc tbOK 5 rfl rfl rfl rfl rfl rfl rfl ?_) | (refine ao_id ?_; first | refine ao_step tbOK rfl rfl rfl rfl ?_ | refine ao_nil ?_ | refine ao_skip rfl rfl rfl ?_ | (refine ao_caseB true rfl rfl ?_ ?_; · (assumption)) | (refine ao_caseB false rfl rfl ?_ ?_; · (assumption)) | refine ao_case rfl rfl (fun _ => ?_) (fun _ => ?_)) | (refine ad_sh_call ?_; first | refine AD.step _ _ _ _ _ rfl (q_call rfl rfl (SameInts_call a b)) rfl rfl ?_) | (refine ad_id ?_; first | refine AD.step _ _ _ _ _ rfl (opE_sound tbOK rfl) rfl rfl ?_ | refine AD.nil _ ?_ | refine AD.skip _ _ _ _ rfl rfl rfl ?_ | (refine ad_caseB true rfl rfl ?_ ?_; · (assumption)) | (refine ad_caseB false rfl rfl ?_ ?_; · (assumption)) | refine ad_case rfl rfl (fun _ => ?_) (fun _ => ?_)) | refine aw_seq ?_ | refine aw_region ?_ | refine aw_block ?_ | (refine aw_sh_cond ?_; first | refine aw_cond_true rfl ?_ | refine aw_cond_false rfl ?_ | (refine aw_condT rfl ?_ ?_; · (assumption)) | (refine aw_condF rfl ?_ ?_; · (assumption)) | refine aw_cond rfl (fun _ => ?_) (fun _ => ?_)) | refine aw_skip ?_ | refine aw_exit ?_ | refine aw_ret ?_ | refine aw_draw (by kernel_rfl) (by kernel_rfl) ?_)
  exact retq rfl rfl
def belowR (g : Img) (a b : Int) : Bool := decide (b ∈ up g a) || decide (b ∈ facesR g a)
theorem BelowR_call (g : Img) (a b : Int) (hF : Fm g) : ACall Tryz.prog 10 [imgPV g, pi a, pi b] (pb (belowR g a b)) := by
  refine acall_intro tbOK Tryz.func10 rfl (by kernel_rfl) Tryz.ntmps10 (by simp) _ rfl (fun hw gB => ?_)
  have hn := hF.n
  repeat' (first | (refine ao_sh_call ?_; first | refine ao_q rfl (q_call rfl rfl (UpR_call g a (by omega))) rfl rfl ?_ | refine ao_q rfl (q_call rfl rfl (Has_call _ _)) rfl rfl ?_ | refine ao_q rfl (q_call rfl rfl (FacesR_call g a (by omega) (fun td h => by have := (hF.faces td h).1; omega))) rfl rfl ?_) | (refine ao_sh_store ?_; first | refine ao_store tbOK rfl rfl rfl rfl rfl rfl rfl rfl rfl ?_) | (refine ao_sh_alloc ?_; first | refine ao_alloc tbOK 0 rfl rfl rfl rfl rfl rfl rfl ?_ | refine ao_alloc tbOK 1 rfl rfl rfl rfl rfl rfl rfl ?_ | refine ao_alloc tbOK 2 rfl rfl rfl rfl rfl rfl rfl ?_ | refine ao_alloc tbOK 3 rfl rfl rfl rfl rfl rfl rfl ?_ | refine ao_alloc tbOK 4 rfl rfl rfl rfl rfl rfl rfl ?_ | refine ao_alloc tbOK 5 rfl rfl rfl rfl rfl rfl rfl ?_) | (refine ao_id ?_; first | refine ao_step tbOK rfl rfl rfl rfl ?_ | refine ao_nil ?_ | refine ao_skip rfl rfl rfl ?_ | (refine ao_caseB true rfl rfl ?_ ?_; · (assumption)) | (refine ao_caseB false rfl rfl ?_ ?_; · (assumption)) | refine ao_case rfl rfl (fun _ => ?_) (fun _ => ?_)) | (refine ad_sh_call ?_; first | refine AD.step _ _ _ _ _ rfl (q_call rfl rfl (UpR_call g a (by omega))) rfl rfl ?_ | refine AD.step _ _ _ _ _ rfl (q_call rfl rfl (Has_call _ _)) rfl rfl ?_ | refine AD.step _ _ _ _ _ rfl (q_call rfl rfl (FacesR_call g a (by omega) (fun td h => by have := (hF.faces td h).1; omega))) rfl rfl ?_) | (refine ad_id ?_; first | refine AD.step _ _ _ _ _ rfl (opE_sound tbOK rfl) rfl rfl ?_ | refine AD.nil _ ?_ | refine AD.skip _ _ _ _ rfl rfl rfl ?_ | (refine ad_caseB true rfl rfl ?_ ?_; · (assumption)) | (refine ad_caseB false rfl rfl ?_ ?_; · (assumption)) | refine ad_case rfl rfl (fun _ => ?_) (fun _ => ?_)) | refine aw_seq ?_ | refine aw_region ?_ | refine aw_block ?_ | (refine aw_sh_cond ?_; first | refine aw_cond_true rfl ?_ | refine aw_cond_false rfl ?_ | (refine aw_condT rfl ?_ ?_; · (assumption)) | (refine aw_condF rfl ?_ ?_; · (assumption)) | refine aw_cond rfl (fun _ => ?_) (fun _ => ?_)) | refine aw_skip ?_ | refine aw_exit ?_ | refine aw_ret ?_ | refine aw_draw (by kernel_rfl) (by kernel_rfl) ?_)
  all_goals first | (refine retq rfl ?_; first | (simp only [retPV, belowR, BL, List.length_map] at *; simp only [*, BL, List.length_map]; done) | (simp_all [retPV, belowR]; done) | (simp_all [retPV, belowR]; omega) | (simp_all [retPV, belowR]; intros; omega)) | (refine retn rfl ?_; first | (simp only [retPV, belowR, BL, List.length_map] at *; simp only [*, BL, List.length_map]; done) | (simp_all [retPV, belowR]; done) | (simp_all [retPV, belowR]; omega) | (simp_all [retPV, belowR]; intros; omega)) | skip
theorem belowR_eq {g : Img} (hF : Fm g) (a b : Int) : belowR g a b = belowP g a b := by
  rw [belowR, belowP]
  congr 1
  rw [Bool.eq_iff_iff, decide_eq_true_eq, decide_eq_true_eq, mem_facesR hF, mem_facesP hF]
theorem Wl.extk {g : Img} (hW : Wl g) {t : Int} {td : TD} (h : typeAt g t = some td) : td.ext = -1 ∨ kindG g td.ext = 0 := by
  have hh := hW.hang t td h
  simp only [hangsR, Bool.and_eq_true, extOk, Bool.or_eq_true, Bool.not_eq_true', decide_eq_false_iff_not, beq_iff_eq, decide_eq_true_eq] at hh
  obtain ⟨⟨h1, _⟩, _⟩ := hh
  have := hW.ext t td h
  rcases h1 with h1 | h1
  · exact .inl (by omega)
  · exact .inr h1.1.1
theorem Wl.up_kind {g : Img} (hW : Wl g) : ∀ (n : Nat) (t : Int), (up g t).length ≤ n → kindG g t = 0 → ∀ u ∈ up g t, kindG g u = 0
  | 0, t, hn, _, u, hu => by
    have : up g t = [] := List.eq_nil_of_length_eq_zero (by omega)
    rw [this] at hu; simp at hu
  | n + 1, t, hn, hk, u, hu => by
    obtain ⟨td, htd, _⟩ := kindG_some hk (by omega)
    rw [hW.up_cons htd] at hu hn
    rcases List.mem_cons.1 hu with rfl | hu
    · exact hk
    · rcases hW.extk htd with he | he
      · rw [he, up_nil (by rw [typeAt, if_neg (by omega)])] at hu; simp at hu
      · exact hW.up_kind n td.ext (by simp at hn; omega) he u hu
theorem Wl.tail_kind {g : Img} (hW : Wl g) {t : Int} {td : TD} (h : typeAt g t = some td) : ∀ u ∈ up g td.ext, kindG g u = 0 := fun u hu => by
  rcases hW.extk h with he | he
  · rw [he, up_nil (by rw [typeAt, if_neg (by omega)])] at hu; simp at hu
  · exact hW.up_kind _ _ (Nat.le_refl _) he u hu
theorem typeAt_none {g : Img} {x : Int} (h : typeAt g x = none) (h1 : -1 ≤ x) (h2 : x < g.types.length) : x = -1 := by
  rw [typeAt] at h
  split at h
  · rw [List.getElem?_eq_none_iff] at h; omega
  · omega
theorem Wl.top_ext {g : Img} (hW : Wl g) {t : Int} {td tl : TD} (ht : typeAt g t = some td) (hl : typeAt g ((up g t).getLastD 0) = some tl) : tl.ext = -1 := by
  have h1 := hW.top ht
  rw [extAt, hl] at h1
  have := hW.ext _ _ hl
  exact typeAt_none h1 this.1 this.2
theorem Wl.faces_ext {g : Img} (hW : Wl g) {t f : Int} {td : TD} (ht : typeAt g t = some td) (hf : f ∈ facesP g td.ext) : f ∈ facesP g t := by
  rw [mem_facesP hW.fm] at hf ⊢
  cases he : typeAt g td.ext with
  | none =>
    exfalso
    have hu := up_nil he
    have : ∀ x, ¬ RF g td.ext x := by
      intro x hx
      induction hx with
      | base x hx => rw [hu] at hx; simp at hx
      | step _ _ _ _ ih => exact ih
    exact this f hf
  | some te =>
    refine hf.up hW ?_
    rw [hW.up_cons ht, hW.up_cons he]; simp
theorem u8_rem {a : Int} (h0 : 0 ≤ a) (h1 : a ≤ 255) {n : Nat} (hn : n ≠ 0) : 0 ≤ (IntKind.i64.wrap a).tmod ((n : Nat) : Int) ∧ (IntKind.i64.wrap a).tmod ((n : Nat) : Int) < ((n : Nat) : Int) := by
  rw [wrap_in (by omega) (by omega)]
  have hp : (0 : Int) < ((n : Nat) : Int) := Int.natCast_pos.2 (by omega)
  exact ⟨Int.tmod_nonneg _ h0, Int.tmod_lt_of_pos _ hp⟩
end Go.Cg
