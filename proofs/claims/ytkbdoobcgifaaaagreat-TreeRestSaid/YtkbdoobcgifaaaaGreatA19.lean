/- A part of the walks by abstract values: no statement of its own. -/
import Derived.Test.YtkbdoobcgifaaaaGreatA18
import Derived.Test.YtkbdoobcgifaaaaGreatG7
import Derived.Test.YtkbdoobcgifaaaaGreatG6
namespace Go.Cg
open Go.Proofs

def upGo (g : Img) : Nat → Int → List Int → List Int
  | 0, _, out => out
  | n + 1, t, out => match typeAt g t with
    | some td => if t ∈ out then out else upGo g n td.ext (out ++ [t])
    | none => out
def up (g : Img) (t : Int) : List Int := upGo g (g.types.length + 1) t []
/-- What is known on the way up. -/
def UpInv (g : Img) (t0 : Int) (x : Int × List Int) : Prop := upGo g (g.types.length + 1 - x.2.length) x.1 x.2 = up g t0 ∧ x.2.Nodup ∧ ∀ y ∈ x.2, 0 ≤ y ∧ y < g.types.length
theorem typeAt_lt {g : Img} {t : Int} {td : TD} (h : typeAt g t = some td) : 0 ≤ t ∧ t < g.types.length := by
  unfold typeAt at h
  split at h
  · have := (List.getElem?_eq_some_iff.1 h).1; omega
  · cases h
theorem UpInv.len {g : Img} {t0 : Int} {x : Int × List Int} (h : UpInv g t0 x) : x.2.length ≤ g.types.length := nodup_le _ _ h.2.1 h.2.2
theorem UpInv.next {g : Img} {t0 : Int} {t : Int} {out : List Int} {td : TD} (h : UpInv g t0 (t, out)) (ht : typeAt g t = some td) (hn : t ∉ out) : UpInv g t0 (td.ext, out ++ [t]) := by
  have hl := h.len
  obtain ⟨h1, h2, h3⟩ := h
  simp only at h1 h2 h3 hl
  rw [show g.types.length + 1 - out.length = (g.types.length + 1 - (out ++ [t]).length) + 1 by simp; omega, upGo, ht] at h1
  simp only [hn, if_false] at h1
  refine ⟨h1, ?_, ?_⟩
  · rw [List.nodup_append]; simp [h2]; intro a ha e; subst e; exact hn ha
  · intro y hy
    simp only [List.mem_append, List.mem_singleton] at hy
    rcases hy with hy | rfl
    · exact h3 y hy
    · exact typeAt_lt ht
theorem UpInv.stop {g : Img} {t0 : Int} {t : Int} {out : List Int} (h : UpInv g t0 (t, out)) (hs : typeAt g t = none ∨ t ∈ out) : out = up g t0 := by
  have hl := h.len
  obtain ⟨h1, h2, h3⟩ := h
  simp only at h1 h2 h3 hl
  rw [show g.types.length + 1 - out.length = (g.types.length - out.length) + 1 by omega, upGo] at h1
  cases ht : typeAt g t with
  | none => rw [ht] at h1; exact h1
  | some td =>
    rcases hs with hs | hs
    · rw [ht] at hs; cases hs
    · rw [ht] at h1; simpa [hs] using h1

theorem UpR_call (g : Img) (t : Int) (hg : g.types.length ≤ 1000) : ACall Tryz.prog 19 [imgPV g, pi t] (ints (up g t)) := by
  refine acall_intro tbOK Tryz.func19 rfl (by kernel_rfl) Tryz.ntmps19 (by simp) _ rfl (fun hw gB => ?_)
  repeat' (first | (refine ao_sh_store ?_; first | refine ao_store tbOK rfl rfl rfl rfl rfl rfl rfl rfl rfl ?_) | (refine ao_sh_alloc ?_; first | refine ao_alloc tbOK 0 rfl rfl rfl rfl rfl rfl rfl ?_ | refine ao_alloc tbOK 1 rfl rfl rfl rfl rfl rfl rfl ?_ | refine ao_alloc tbOK 2 rfl rfl rfl rfl rfl rfl rfl ?_ | refine ao_alloc tbOK 3 rfl rfl rfl rfl rfl rfl rfl ?_ | refine ao_alloc tbOK 4 rfl rfl rfl rfl rfl rfl rfl ?_ | refine ao_alloc tbOK 5 rfl rfl rfl rfl rfl rfl rfl ?_) | (refine ao_id ?_; first | refine ao_step tbOK rfl rfl rfl rfl ?_ | refine ao_nil ?_ | refine ao_skip rfl rfl rfl ?_ | (refine ao_caseB true rfl rfl ?_ ?_; · (assumption)) | (refine ao_caseB false rfl rfl ?_ ?_; · (assumption)) | refine ao_case rfl rfl (fun _ => ?_) (fun _ => ?_)) | (refine ad_id ?_; first | refine AD.step _ _ _ _ _ rfl (opE_sound tbOK rfl) rfl rfl ?_ | refine AD.nil _ ?_ | refine AD.skip _ _ _ _ rfl rfl rfl ?_ | (refine ad_caseB true rfl rfl ?_ ?_; · (assumption)) | (refine ad_caseB false rfl rfl ?_ ?_; · (assumption)) | refine ad_case rfl rfl (fun _ => ?_) (fun _ => ?_)) | refine aw_seq ?_ | refine aw_region ?_ | refine aw_block ?_ | (refine aw_sh_cond ?_; first | refine aw_cond_true rfl ?_ | refine aw_cond_false rfl ?_ | (refine aw_condT rfl ?_ ?_; · (assumption)) | (refine aw_condF rfl ?_ ?_; · (assumption)) | refine aw_cond rfl (fun _ => ?_) (fun _ => ?_)) | refine aw_skip ?_ | refine aw_exit ?_ | refine aw_ret ?_ | refine aw_draw (by kernel_rfl) (by kernel_rfl) ?_)
  refine aw_own_nil (t := 5) 0 3 1 (by decide) rfl rfl ?_
  refine aw_loop (fun x : Int × List Int => [(1, .pv (pi x.1)), (2, .pv (.ptr (imgPV g) 0)), (5, .own 0)]) (fun x => [(0, .row 3 1 (x.2.map pi))]) (UpInv g t) (fun x => g.types.length + 1 - x.2.length) (t, []) ⟨rfl, by simp, by simp⟩ (by repeat (first | exact sub_nil | refine sub_cons rfl ?_ | (refine sub_i rfl ?_ ?_; · (first | (rw [wrap_in (by omega) (by omega)] <;> omega) | (dsimp only; rw [wrap_in (by omega) (by omega)] <;> omega) | (simp; done))))) ⟨hsub_cons rfl hsub_nil, rfl⟩ ?_
  rintro ⟨t', out⟩ hi
  have hlen := hi.len
  simp only at hlen
  cases ht : typeAt g t' with
  | none =>
    have hth : there g t' = false := by
      cases hh : there g t' with
      | false => rfl
      | true => obtain ⟨td, h⟩ := (there_iff g t').1 hh; rw [ht] at h; cases h
    have c1 : ACall Tryz.prog 39 [imgPV g, pi t'] (pb false) := by rw [← hth]; exact There_call g t'
    repeat' (first | (refine ao_sh_call ?_; first | refine ao_q rfl (q_call rfl rfl (c1)) rfl rfl ?_) | (refine ao_sh_store ?_; first | refine ao_store tbOK rfl rfl rfl rfl rfl rfl rfl rfl rfl ?_) | (refine ao_sh_alloc ?_; first | refine ao_alloc tbOK 0 rfl rfl rfl rfl rfl rfl rfl ?_ | refine ao_alloc tbOK 1 rfl rfl rfl rfl rfl rfl rfl ?_ | refine ao_alloc tbOK 2 rfl rfl rfl rfl rfl rfl rfl ?_ | refine ao_alloc tbOK 3 rfl rfl rfl rfl rfl rfl rfl ?_ | refine ao_alloc tbOK 4 rfl rfl rfl rfl rfl rfl rfl ?_ | refine ao_alloc tbOK 5 rfl rfl rfl rfl rfl rfl rfl ?_) | (refine ao_id ?_; first | refine ao_step tbOK rfl rfl rfl rfl ?_ | refine ao_nil ?_ | refine ao_skip rfl rfl rfl ?_ | (refine ao_caseB true rfl rfl ?_ ?_; · (first | assumption | (simp <;> omega))) | (refine ao_caseB false rfl rfl ?_ ?_; · (first | assumption | (simp <;> omega))) | refine ao_case rfl rfl (fun _ => ?_) (fun _ => ?_)) | (refine ad_sh_call ?_; first | refine AD.step _ _ _ _ _ rfl (q_call rfl rfl (c1)) rfl rfl ?_) | (refine ad_id ?_; first | refine AD.step _ _ _ _ _ rfl (opE_sound tbOK rfl) rfl rfl ?_ | refine AD.nil _ ?_ | refine AD.skip _ _ _ _ rfl rfl rfl ?_ | (refine ad_caseB true rfl rfl ?_ ?_; · (first | assumption | (simp <;> omega))) | (refine ad_caseB false rfl rfl ?_ ?_; · (first | assumption | (simp <;> omega))) | refine ad_case rfl rfl (fun _ => ?_) (fun _ => ?_)) | refine aw_seq ?_ | refine aw_region ?_ | refine aw_block ?_ | (refine aw_sh_cond ?_; first | refine aw_cond_true rfl ?_ | refine aw_cond_false rfl ?_ | (refine aw_condT rfl ?_ ?_; · (first | assumption | (simp <;> omega))) | (refine aw_condF rfl ?_ ?_; · (first | assumption | (simp <;> omega))) | refine aw_cond rfl (fun _ => ?_) (fun _ => ?_)) | refine aw_skip ?_ | refine aw_exit ?_ | refine aw_ret ?_ | refine aw_draw (by kernel_rfl) (by kernel_rfl) ?_)
    exact retq rfl (by rw [← hi.stop (.inl ht)]; rfl)
  | some td =>
    have hth : there g t' = true := (there_iff g t').2 ⟨td, ht⟩
    have c1 : ACall Tryz.prog 39 [imgPV g, pi t'] (pb true) := by rw [← hth]; exact There_call g t'
    obtain ⟨h0, he⟩ := typeAt_get ht
    by_cases hm : t' ∈ out
    · have c2 : ACall Tryz.prog 15 [ints out, pi t'] (pb true) := by have := Has_call out t'; rwa [decide_eq_true hm] at this
      repeat' (first | (refine ao_sh_call ?_; first | refine ao_q rfl (q_call rfl rfl (c1)) rfl rfl ?_ | refine ao_q rfl (q_call rfl rfl (c2)) rfl rfl ?_) | (refine ao_sh_store ?_; first | refine ao_store tbOK rfl rfl rfl rfl rfl rfl rfl rfl rfl ?_) | (refine ao_sh_alloc ?_; first | refine ao_alloc tbOK 0 rfl rfl rfl rfl rfl rfl rfl ?_ | refine ao_alloc tbOK 1 rfl rfl rfl rfl rfl rfl rfl ?_ | refine ao_alloc tbOK 2 rfl rfl rfl rfl rfl rfl rfl ?_ | refine ao_alloc tbOK 3 rfl rfl rfl rfl rfl rfl rfl ?_ | refine ao_alloc tbOK 4 rfl rfl rfl rfl rfl rfl rfl ?_ | refine ao_alloc tbOK 5 rfl rfl rfl rfl rfl rfl rfl ?_) | (refine ao_id ?_; first | refine ao_step tbOK rfl rfl rfl rfl ?_ | refine ao_nil ?_ | refine ao_skip rfl rfl rfl ?_ | (refine ao_caseB true rfl rfl ?_ ?_; · (first | assumption | (simp <;> omega))) | (refine ao_caseB false rfl rfl ?_ ?_; · (first | assumption | (simp <;> omega))) | refine ao_case rfl rfl (fun _ => ?_) (fun _ => ?_)) | (refine ad_sh_call ?_; first | refine AD.step _ _ _ _ _ rfl (q_call rfl rfl (c1)) rfl rfl ?_ | refine AD.step _ _ _ _ _ rfl (q_call rfl rfl (c2)) rfl rfl ?_) | (refine ad_id ?_; first | refine AD.step _ _ _ _ _ rfl (opE_sound tbOK rfl) rfl rfl ?_ | refine AD.nil _ ?_ | refine AD.skip _ _ _ _ rfl rfl rfl ?_ | (refine ad_caseB true rfl rfl ?_ ?_; · (first | assumption | (simp <;> omega))) | (refine ad_caseB false rfl rfl ?_ ?_; · (first | assumption | (simp <;> omega))) | refine ad_case rfl rfl (fun _ => ?_) (fun _ => ?_)) | refine aw_seq ?_ | refine aw_region ?_ | refine aw_block ?_ | (refine aw_sh_cond ?_; first | refine aw_cond_true rfl ?_ | refine aw_cond_false rfl ?_ | (refine aw_condT rfl ?_ ?_; · (first | assumption | (simp <;> omega))) | (refine aw_condF rfl ?_ ?_; · (first | assumption | (simp <;> omega))) | refine aw_cond rfl (fun _ => ?_) (fun _ => ?_)) | refine aw_skip ?_ | refine aw_exit ?_ | refine aw_ret ?_ | refine aw_draw (by kernel_rfl) (by kernel_rfl) ?_)
      exact retq rfl (by rw [← hi.stop (.inr hm)]; rfl)
    · have c2 : ACall Tryz.prog 15 [ints out, pi t'] (pb false) := by have := Has_call out t'; rwa [decide_eq_false hm] at this
      have hnx := hi.next ht hm
      repeat' (first | (refine ao_sh_call ?_; first | refine ao_q rfl (q_call rfl rfl (c1)) rfl rfl ?_ | refine ao_q rfl (q_call rfl rfl (c2)) rfl rfl ?_) | (refine ao_sh_ix ?_; first | refine ao_q rfl (q_index tbOK rfl rfl rfl rfl rfl rfl h0 he) rfl rfl ?_) | (refine ao_sh_bi ?_; first | refine ao_append tbOK rfl rfl rfl rfl rfl rfl rfl (by show _ * 8 ≤ _; simp; omega) (by simp; omega) rfl rfl ?_) | (refine ao_sh_store ?_; first | refine ao_store tbOK rfl rfl rfl rfl rfl rfl rfl rfl rfl ?_) | (refine ao_sh_alloc ?_; first | refine ao_alloc tbOK 0 rfl rfl rfl rfl rfl rfl rfl ?_ | refine ao_alloc tbOK 1 rfl rfl rfl rfl rfl rfl rfl ?_ | refine ao_alloc tbOK 2 rfl rfl rfl rfl rfl rfl rfl ?_ | refine ao_alloc tbOK 3 rfl rfl rfl rfl rfl rfl rfl ?_ | refine ao_alloc tbOK 4 rfl rfl rfl rfl rfl rfl rfl ?_ | refine ao_alloc tbOK 5 rfl rfl rfl rfl rfl rfl rfl ?_) | (refine ao_id ?_; first | refine ao_step tbOK rfl rfl rfl rfl ?_ | refine ao_nil ?_ | refine ao_skip rfl rfl rfl ?_ | (refine ao_caseB true rfl rfl ?_ ?_; · (first | assumption | (simp <;> omega))) | (refine ao_caseB false rfl rfl ?_ ?_; · (first | assumption | (simp <;> omega))) | refine ao_case rfl rfl (fun _ => ?_) (fun _ => ?_)) | (refine ad_sh_call ?_; first | refine AD.step _ _ _ _ _ rfl (q_call rfl rfl (c1)) rfl rfl ?_ | refine AD.step _ _ _ _ _ rfl (q_call rfl rfl (c2)) rfl rfl ?_) | (refine ad_sh_ix ?_; first | refine AD.step _ _ _ _ _ rfl (q_index tbOK rfl rfl rfl rfl rfl rfl h0 he) rfl rfl ?_) | (refine ad_id ?_; first | refine AD.step _ _ _ _ _ rfl (opE_sound tbOK rfl) rfl rfl ?_ | refine AD.nil _ ?_ | refine AD.skip _ _ _ _ rfl rfl rfl ?_ | (refine ad_caseB true rfl rfl ?_ ?_; · (first | assumption | (simp <;> omega))) | (refine ad_caseB false rfl rfl ?_ ?_; · (first | assumption | (simp <;> omega))) | refine ad_case rfl rfl (fun _ => ?_) (fun _ => ?_)) | refine aw_seq ?_ | refine aw_region ?_ | refine aw_block ?_ | (refine aw_sh_cond ?_; first | refine aw_cond_true rfl ?_ | refine aw_cond_false rfl ?_ | (refine aw_condT rfl ?_ ?_; · (first | assumption | (simp <;> omega))) | (refine aw_condF rfl ?_ ?_; · (first | assumption | (simp <;> omega))) | refine aw_cond rfl (fun _ => ?_) (fun _ => ?_)) | refine aw_skip ?_ | refine aw_exit ?_ | refine aw_ret ?_ | refine aw_draw (by kernel_rfl) (by kernel_rfl) ?_)
      refine ⟨(td.ext, out ++ [t']), hnx, by simp; omega, by repeat (first | exact sub_nil | refine sub_cons rfl ?_ | (refine sub_i rfl ?_ ?_; · (first | (rw [wrap_in (by omega) (by omega)] <;> omega) | (dsimp only; rw [wrap_in (by omega) (by omega)] <;> omega) | (simp; done)))), ⟨hsub_r rfl (by simp) hsub_nil, rfl⟩⟩
end Go.Cg
