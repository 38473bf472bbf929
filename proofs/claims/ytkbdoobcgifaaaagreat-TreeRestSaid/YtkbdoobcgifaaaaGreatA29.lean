/- A part of the walks by abstract values: no statement of its own. -/
import Derived.Test.YtkbdoobcgifaaaaGreatA28
import Derived.Test.YtkbdoobcgifaaaaGreatA25
namespace Go.Cg
open Go.Proofs

/-- An image whose types are formed, as far as its interfaces go. -/
structure Fm (g : Img) : Prop where
  n : g.types.length ≤ 32
  faces : ∀ td ∈ g.types, td.faces.length ≤ 4 ∧ ∀ f ∈ td.faces, 0 ≤ f ∧ f < g.types.length
theorem fm_of {g : Img} (h : formedG g = true) : Fm g :=
  ⟨(formedG_bounds h).1, fun td hm => let ⟨_, _, _, _, h5, h6⟩ := formedT_facts ((formedG_bounds h).2.2.2 td hm); ⟨h5, h6⟩⟩
theorem typeAt_mem {g : Img} {t : Int} {td : TD} (h : typeAt g t = some td) : td ∈ g.types := by
  unfold typeAt at h
  split at h
  · exact List.mem_of_getElem? h
  · cases h
theorem Fm.at {g : Img} (h : Fm g) (t : Int) : (facesAt g t).length ≤ 4 ∧ ∀ f ∈ facesAt g t, 0 ≤ f ∧ f < g.types.length := by
  unfold facesAt
  cases ht : typeAt g t with
  | none => simp
  | some td => exact h.faces td (typeAt_mem ht)
theorem there_of {g : Img} {t : Int} (h : 0 ≤ t ∧ t < g.types.length) : there g t = true := by
  obtain ⟨td, htd⟩ := typeAt_of_lt h; exact (there_iff g t).2 ⟨td, htd⟩
def facesP (g : Img) (t : Int) : List Int := sortL (reachL g.types.length (facesAt g) ((up g t).flatMap (facesAt g)))
theorem FacesP_call (g : Img) (t : Int) (hF : Fm g) : ACall Tryz.prog 12 [imgPV g, pi t] (ints (facesP g t)) := by
  refine acall_intro tbOK Tryz.func12 rfl (by kernel_rfl) Tryz.ntmps12 (by simp) _ rfl (fun hw gB => ?_)
  have hn := hF.n
  have hui := up_inv g t
  have hul := nodup_le _ _ hui.1 hui.2
  repeat' (first | (refine ao_sh_call ?_; first | refine ao_q rfl (q_call rfl rfl (UpP_call g t (by omega))) rfl rfl ?_) | (refine ao_sh_store ?_; first | refine ao_store tbOK rfl rfl rfl rfl rfl rfl rfl rfl rfl ?_) | (refine ao_sh_alloc ?_; first | refine ao_alloc tbOK 0 rfl rfl rfl rfl rfl rfl rfl ?_ | refine ao_alloc tbOK 1 rfl rfl rfl rfl rfl rfl rfl ?_ | refine ao_alloc tbOK 2 rfl rfl rfl rfl rfl rfl rfl ?_ | refine ao_alloc tbOK 3 rfl rfl rfl rfl rfl rfl rfl ?_ | refine ao_alloc tbOK 4 rfl rfl rfl rfl rfl rfl rfl ?_ | refine ao_alloc tbOK 5 rfl rfl rfl rfl rfl rfl rfl ?_) | (refine ao_id ?_; first | refine ao_step tbOK rfl rfl rfl rfl ?_ | refine ao_nil ?_ | refine ao_skip rfl rfl rfl ?_ | (refine ao_caseB true rfl rfl ?_ ?_; · (assumption)) | (refine ao_caseB false rfl rfl ?_ ?_; · (assumption)) | refine ao_case rfl rfl (fun _ => ?_) (fun _ => ?_)) | (refine ad_sh_call ?_; first | refine AD.step _ _ _ _ _ rfl (q_call rfl rfl (UpP_call g t (by omega))) rfl rfl ?_) | (refine ad_id ?_; first | refine AD.step _ _ _ _ _ rfl (opE_sound tbOK rfl) rfl rfl ?_ | refine AD.nil _ ?_ | refine AD.skip _ _ _ _ rfl rfl rfl ?_ | (refine ad_caseB true rfl rfl ?_ ?_; · (assumption)) | (refine ad_caseB false rfl rfl ?_ ?_; · (assumption)) | refine ad_case rfl rfl (fun _ => ?_) (fun _ => ?_)) | refine aw_seq ?_ | refine aw_region ?_ | refine aw_block ?_ | (refine aw_sh_cond ?_; first | refine aw_cond_true rfl ?_ | refine aw_cond_false rfl ?_ | (refine aw_condT rfl ?_ ?_; · (assumption)) | (refine aw_condF rfl ?_ ?_; · (assumption)) | refine aw_cond rfl (fun _ => ?_) (fun _ => ?_)) | refine aw_skip ?_ | refine aw_exit ?_ | refine aw_ret ?_ | refine aw_draw (by kernel_rfl) (by kernel_rfl) ?_)
  refine aw_own_nil (t := 5) 0 3 1 (by decide) rfl rfl ?_
  refine aw_loop (fun x : Nat × List Int => [(2, .pv (.ptr (imgPV g) 0)), (5, .own 0), (10, .pv (ints (up g t))), (11, .pv (pi (up g t).length)), (12, .pv (pi x.1))]) (fun x => [(0, .row 3 1 (x.2.map pi))])
    (fun x => x.1 ≤ (up g t).length ∧ x.2.length ≤ 4 * x.1 ∧ (∀ y ∈ x.2, 0 ≤ y ∧ y < g.types.length) ∧ x.2 ++ ((up g t).drop x.1).flatMap (facesAt g) = (up g t).flatMap (facesAt g)) (fun x => (up g t).length - x.1) (0, []) ⟨by simp, by simp, by simp, rfl⟩ (by repeat (first | exact sub_nil | refine sub_cons rfl ?_ | (refine sub_i rfl ?_ ?_; · (first | (rw [wrap_in (by omega) (by omega)] <;> omega) | (dsimp only; rw [wrap_in (by omega) (by omega)] <;> omega) | (simp; done))))) ⟨hsub_cons rfl hsub_nil, rfl⟩ ?_
  rintro ⟨k, out⟩ ⟨hk, hol, hrg, hr⟩
  simp only at hk hol hrg hr
  by_cases hlt : k < (up g t).length
  · have he := ints_get hlt
    obtain ⟨hf1, hf2⟩ := hF.at (up g t)[k]
    rw [drop_cons hlt, List.flatMap_cons] at hr
    repeat' (first | (refine ao_sh_call ?_; first | refine ao_q rfl (q_call rfl rfl (facesP_call g _ (by omega) (fun f hf => there_of (hf2 f hf)))) rfl rfl ?_) | (refine ao_sh_ix ?_; first | refine ao_q rfl (q_index tbOK rfl rfl rfl rfl rfl rfl (by omega) he) rfl rfl ?_) | (refine ao_sh_bi ?_; first | refine ao_append tbOK rfl rfl rfl rfl rfl rfl rfl (by show _ * 8 ≤ _; simp; omega) (by simp; omega) rfl rfl ?_) | (refine ao_sh_store ?_; first | refine ao_store tbOK rfl rfl rfl rfl rfl rfl rfl rfl rfl ?_) | (refine ao_sh_alloc ?_; first | refine ao_alloc tbOK 0 rfl rfl rfl rfl rfl rfl rfl ?_ | refine ao_alloc tbOK 1 rfl rfl rfl rfl rfl rfl rfl ?_ | refine ao_alloc tbOK 2 rfl rfl rfl rfl rfl rfl rfl ?_ | refine ao_alloc tbOK 3 rfl rfl rfl rfl rfl rfl rfl ?_ | refine ao_alloc tbOK 4 rfl rfl rfl rfl rfl rfl rfl ?_ | refine ao_alloc tbOK 5 rfl rfl rfl rfl rfl rfl rfl ?_) | (refine ao_id ?_; first | refine ao_step tbOK rfl rfl rfl rfl ?_ | refine ao_nil ?_ | refine ao_skip rfl rfl rfl ?_ | (refine ao_caseB true rfl rfl ?_ ?_; · (first | assumption | (simp <;> omega))) | (refine ao_caseB false rfl rfl ?_ ?_; · (first | assumption | (simp <;> omega))) | refine ao_case rfl rfl (fun _ => ?_) (fun _ => ?_)) | (refine ad_sh_call ?_; first | refine AD.step _ _ _ _ _ rfl (q_call rfl rfl (facesP_call g _ (by omega) (fun f hf => there_of (hf2 f hf)))) rfl rfl ?_) | (refine ad_sh_ix ?_; first | refine AD.step _ _ _ _ _ rfl (q_index tbOK rfl rfl rfl rfl rfl rfl (by omega) he) rfl rfl ?_) | (refine ad_id ?_; first | refine AD.step _ _ _ _ _ rfl (opE_sound tbOK rfl) rfl rfl ?_ | refine AD.nil _ ?_ | refine AD.skip _ _ _ _ rfl rfl rfl ?_ | (refine ad_caseB true rfl rfl ?_ ?_; · (first | assumption | (simp <;> omega))) | (refine ad_caseB false rfl rfl ?_ ?_; · (first | assumption | (simp <;> omega))) | refine ad_case rfl rfl (fun _ => ?_) (fun _ => ?_)) | refine aw_seq ?_ | refine aw_region ?_ | refine aw_block ?_ | (refine aw_sh_cond ?_; first | refine aw_cond_true rfl ?_ | refine aw_cond_false rfl ?_ | (refine aw_condT rfl ?_ ?_; · (first | assumption | (simp <;> omega))) | (refine aw_condF rfl ?_ ?_; · (first | assumption | (simp <;> omega))) | refine aw_cond rfl (fun _ => ?_) (fun _ => ?_)) | refine aw_skip ?_ | refine aw_exit ?_ | refine aw_ret ?_ | refine aw_draw (by kernel_rfl) (by kernel_rfl) ?_)
    refine ⟨(k + 1, out ++ facesAt g (up g t)[k]), ⟨hlt, by simp; omega, ?_, by simpa using hr⟩, (by dsimp only; omega), by repeat (first | exact sub_nil | refine sub_cons rfl ?_ | (refine sub_i rfl ?_ ?_; · (first | (rw [wrap_in (by omega) (by omega)] <;> omega) | (dsimp only; rw [wrap_in (by omega) (by omega)] <;> omega) | (simp; done)))), ⟨hsub_r rfl (by simp) hsub_nil, rfl⟩⟩
    intro y hy
    simp only [List.mem_append] at hy
    rcases hy with hy | hy
    · exact hrg y hy
    · exact hf2 y hy
  · rw [drop_end (by omega)] at hr
    simp only [List.flatMap_nil, List.append_nil] at hr
    subst hr
    have c1 := reach_call g.types.length (by omega) ((up g t).flatMap (facesAt g)) (facesAt g) 24 [] [.ptr (imgPV g) 0] hrg (by omega)
      (fun x h0 h1 => Faces1_call g x (by have := (hF.at x).1; omega) (fun f hf => there_of ((hF.at x).2 f hf))) (fun x h0 h1 => ⟨by have := (hF.at x).1; omega, (hF.at x).2⟩)
    repeat' (first | (refine ao_sh_call ?_; first | refine ao_q rfl (q_call rfl rfl (c1)) rfl rfl ?_) | (refine ao_sh_store ?_; first | refine ao_store tbOK rfl rfl rfl rfl rfl rfl rfl rfl rfl ?_) | (refine ao_sh_alloc ?_; first | refine ao_alloc tbOK 0 rfl rfl rfl rfl rfl rfl rfl ?_ | refine ao_alloc tbOK 1 rfl rfl rfl rfl rfl rfl rfl ?_ | refine ao_alloc tbOK 2 rfl rfl rfl rfl rfl rfl rfl ?_ | refine ao_alloc tbOK 3 rfl rfl rfl rfl rfl rfl rfl ?_ | refine ao_alloc tbOK 4 rfl rfl rfl rfl rfl rfl rfl ?_ | refine ao_alloc tbOK 5 rfl rfl rfl rfl rfl rfl rfl ?_) | (refine ao_id ?_; first | refine ao_step tbOK rfl rfl rfl rfl ?_ | refine ao_nil ?_ | refine ao_skip rfl rfl rfl ?_ | (refine ao_caseB true rfl rfl ?_ ?_; · (first | assumption | (simp <;> omega))) | (refine ao_caseB false rfl rfl ?_ ?_; · (first | assumption | (simp <;> omega))) | refine ao_case rfl rfl (fun _ => ?_) (fun _ => ?_)) | (refine ad_sh_call ?_; first | refine AD.step _ _ _ _ _ rfl (q_call rfl rfl (c1)) rfl rfl ?_) | (refine ad_id ?_; first | refine AD.step _ _ _ _ _ rfl (opE_sound tbOK rfl) rfl rfl ?_ | refine AD.nil _ ?_ | refine AD.skip _ _ _ _ rfl rfl rfl ?_ | (refine ad_caseB true rfl rfl ?_ ?_; · (first | assumption | (simp <;> omega))) | (refine ad_caseB false rfl rfl ?_ ?_; · (first | assumption | (simp <;> omega))) | refine ad_case rfl rfl (fun _ => ?_) (fun _ => ?_)) | refine aw_seq ?_ | refine aw_region ?_ | refine aw_block ?_ | (refine aw_sh_cond ?_; first | refine aw_cond_true rfl ?_ | refine aw_cond_false rfl ?_ | (refine aw_condT rfl ?_ ?_; · (first | assumption | (simp <;> omega))) | (refine aw_condF rfl ?_ ?_; · (first | assumption | (simp <;> omega))) | refine aw_cond rfl (fun _ => ?_) (fun _ => ?_)) | refine aw_skip ?_ | refine aw_exit ?_ | refine aw_ret ?_ | refine aw_draw (by kernel_rfl) (by kernel_rfl) ?_)
    exact retq rfl rfl
def belowP (g : Img) (a b : Int) : Bool := decide (b ∈ up g a) || decide (b ∈ facesP g a)
theorem BelowP_call (g : Img) (a b : Int) (hF : Fm g) : ACall Tryz.prog 9 [imgPV g, pi a, pi b] (pb (belowP g a b)) := by
  refine acall_intro tbOK Tryz.func9 rfl (by kernel_rfl) Tryz.ntmps9 (by simp) _ rfl (fun hw gB => ?_)
  have hn := hF.n
  repeat' (first | (refine ao_sh_call ?_; first | refine ao_q rfl (q_call rfl rfl (UpP_call g a (by omega))) rfl rfl ?_ | refine ao_q rfl (q_call rfl rfl (Contains_call _ _)) rfl rfl ?_ | refine ao_q rfl (q_call rfl rfl (FacesP_call g a hF)) rfl rfl ?_) | (refine ao_sh_store ?_; first | refine ao_store tbOK rfl rfl rfl rfl rfl rfl rfl rfl rfl ?_) | (refine ao_sh_alloc ?_; first | refine ao_alloc tbOK 0 rfl rfl rfl rfl rfl rfl rfl ?_ | refine ao_alloc tbOK 1 rfl rfl rfl rfl rfl rfl rfl ?_ | refine ao_alloc tbOK 2 rfl rfl rfl rfl rfl rfl rfl ?_ | refine ao_alloc tbOK 3 rfl rfl rfl rfl rfl rfl rfl ?_ | refine ao_alloc tbOK 4 rfl rfl rfl rfl rfl rfl rfl ?_ | refine ao_alloc tbOK 5 rfl rfl rfl rfl rfl rfl rfl ?_) | (refine ao_id ?_; first | refine ao_step tbOK rfl rfl rfl rfl ?_ | refine ao_nil ?_ | refine ao_skip rfl rfl rfl ?_ | (refine ao_caseB true rfl rfl ?_ ?_; · (assumption)) | (refine ao_caseB false rfl rfl ?_ ?_; · (assumption)) | refine ao_case rfl rfl (fun _ => ?_) (fun _ => ?_)) | (refine ad_sh_call ?_; first | refine AD.step _ _ _ _ _ rfl (q_call rfl rfl (UpP_call g a (by omega))) rfl rfl ?_ | refine AD.step _ _ _ _ _ rfl (q_call rfl rfl (Contains_call _ _)) rfl rfl ?_ | refine AD.step _ _ _ _ _ rfl (q_call rfl rfl (FacesP_call g a hF)) rfl rfl ?_) | (refine ad_id ?_; first | refine AD.step _ _ _ _ _ rfl (opE_sound tbOK rfl) rfl rfl ?_ | refine AD.nil _ ?_ | refine AD.skip _ _ _ _ rfl rfl rfl ?_ | (refine ad_caseB true rfl rfl ?_ ?_; · (assumption)) | (refine ad_caseB false rfl rfl ?_ ?_; · (assumption)) | refine ad_case rfl rfl (fun _ => ?_) (fun _ => ?_)) | refine aw_seq ?_ | refine aw_region ?_ | refine aw_block ?_ | (refine aw_sh_cond ?_; first | refine aw_cond_true rfl ?_ | refine aw_cond_false rfl ?_ | (refine aw_condT rfl ?_ ?_; · (assumption)) | (refine aw_condF rfl ?_ ?_; · (assumption)) | refine aw_cond rfl (fun _ => ?_) (fun _ => ?_)) | refine aw_skip ?_ | refine aw_exit ?_ | refine aw_ret ?_ | refine aw_draw (by kernel_rfl) (by kernel_rfl) ?_)
  all_goals first | (refine retq rfl ?_; first | (simp only [retPV, belowP, BL, List.length_map] at *; simp only [*, BL, List.length_map]; done) | (simp_all [retPV, belowP]; done) | (simp_all [retPV, belowP]; omega) | (simp_all [retPV, belowP]; intros; omega)) | (refine retn rfl ?_; first | (simp only [retPV, belowP, BL, List.length_map] at *; simp only [*, BL, List.length_map]; done) | (simp_all [retPV, belowP]; done) | (simp_all [retPV, belowP]; omega) | (simp_all [retPV, belowP]; intros; omega)) | skip

def fitsP (g : Img) (a b : Ty) : Bool :=
  if tyB a b then true
  else if !object a || !object b then false
  else if plain a 8 || plain b 4 then true
  else if plain a 5 && plain b 5 then belowP g a.index b.index
  else plain a 7 && tyB b ⟨7, 0, 0, false⟩
-- left out here: function fit.Fits
/-! merging -/
def mergeTop (g : Img) (a b : Ty) : Ty :=
  match (up g a.index).find? (fun t => decide (t ∈ up g b.index)) with | some t => ⟨5, t, 0, false⟩ | none => ⟨4, 0, 0, false⟩
def mergeP (g : Img) (a b : Ty) : Ty × Int :=
  if fitsP g b a then (a, 0) else if fitsP g a b then (b, 0)
  else if !object a || !object b then (ty0, 14)
  else if plain a 7 && plain b 7 then (⟨7, 0, 0, false⟩, 0)
  else if classB g a && classB g b then (mergeTop g a b, 0)
  else (⟨4, 0, 0, false⟩, 0)
theorem mp_eq {g : Img} {a b : Ty} {x : Ty × Int} (h : mergeP g a b = x) : PV.tup [tyPV x.1, pi x.2] = .tup [tyPV (mergeP g a b).1, pi (mergeP g a b).2] := by rw [h]
-- left out here: function fit.Merge
end Go.Cg
