/- A part of the walks by abstract values: no statement of its own. -/
import Derived.Test.YtkbdoobcgifaaaaGreatB4
namespace Go.Cg
open Go.Proofs
theorem tW1 : typesP gW1 = true := by decide
theorem tW2 : typesP gW2 = true := by decide
theorem kW : kindT 0 = 0 := by decide
theorem flW (n : UInt8) (e : Int) : flaggedP (tdOf n e) = true := by simp [flaggedP, tdOf, kW]
theorem xW1 : extP gW1 0 (tdOf 65 1) = false := by decide
theorem xW2 : extP gW2 0 (tdOf 65 1) = true := by decide
theorem xW3 : extP gW2 1 (tdOf 66 (-1)) = true := by decide
theorem nW2 : (List.range gW2.types.length).all (nameOther gW2 0 (tdOf 65 1)) = true := by
  rw [List.all_eq_true]
  intro i hi
  have h1 := List.mem_range.1 hi
  have h2 : gW2.types.length = 2 := rfl
  have h3 : i = 0 ∨ i = 1 := by omega
  rcases h3 with rfl | rfl <;> (rw [nameOther, ByteArray.toList_eq, ByteArray.toList_eq]; decide)
theorem nW3 : (List.range gW2.types.length).all (nameOther gW2 1 (tdOf 66 (-1))) = true := by
  rw [List.all_eq_true]
  intro i hi
  have h1 := List.mem_range.1 hi
  have h2 : gW2.types.length = 2 := rfl
  have h3 : i = 0 ∨ i = 1 := by omega
  rcases h3 with rfl | rfl <;> (rw [nameOther, ByteArray.toList_eq, ByteArray.toList_eq]; decide)
theorem bW1 : belowP gW2 0 1 = true := by decide
theorem bW2 : belowP gW2 1 0 = false := by
  have h1 : (up gW2 1).flatMap (facesAt gW2) = [] := by decide
  have h2 : facesP gW2 1 = [] := by rw [facesP, h1]; simp [reachL, reachGo, sortL]
  rw [belowP, h2]; decide
theorem fW2 : Fm gW2 := ⟨by decide, by decide⟩
structure AllOk (g : Img) (k : Int) (td : TD) : Prop where
  flagged : ACall Tryz.prog 28 [tdPV td] (pb true)
  ext : ACall Tryz.prog 29 [imgPV g, pi k] (pb true)
  faced : ACall Tryz.prog 30 [imgPV g, pi k] (pb true)
  named : ACall Tryz.prog 31 [imgPV g, pi k] (pb true)
  sized : ACall Tryz.prog 32 [imgPV g, pi k] (pb true)
theorem CheckP_ok (g : Img) (hform : ACall Tryz.prog 27 [imgPV g] (pb true)) (hg : g.types.length ≤ 1000) (hall : ∀ (k : Nat) (h : k < g.types.length), AllOk g k g.types[k]) : ACall Tryz.prog 16 [imgPV g] (.tup [pi 0, pi 0]) := by
  refine acall_intro tbOK Tryz.func16 rfl (by kernel_rfl) Tryz.ntmps16 (by simp) _ rfl (fun hw gB => ?_)
  repeat' (first | (refine ao_sh_call ?_; first | refine ao_q rfl (q_call rfl rfl (hform)) rfl rfl ?_) | (refine ao_sh_store ?_; first | refine ao_store tbOK rfl rfl rfl rfl rfl rfl rfl rfl rfl ?_) | (refine ao_sh_alloc ?_; first | refine ao_alloc tbOK 0 rfl rfl rfl rfl rfl rfl rfl ?_ | refine ao_alloc tbOK 1 rfl rfl rfl rfl rfl rfl rfl ?_ | refine ao_alloc tbOK 2 rfl rfl rfl rfl rfl rfl rfl ?_ | refine ao_alloc tbOK 3 rfl rfl rfl rfl rfl rfl rfl ?_ | refine ao_alloc tbOK 4 rfl rfl rfl rfl rfl rfl rfl ?_ | refine ao_alloc tbOK 5 rfl rfl rfl rfl rfl rfl rfl ?_) | (refine ao_id ?_; first | refine ao_step tbOK rfl rfl rfl rfl ?_ | refine ao_nil ?_ | refine ao_skip rfl rfl rfl ?_ | (refine ao_caseB true rfl rfl ?_ ?_; · (assumption)) | (refine ao_caseB false rfl rfl ?_ ?_; · (assumption)) | refine ao_case rfl rfl (fun _ => ?_) (fun _ => ?_)) | (refine ad_sh_call ?_; first | refine AD.step _ _ _ _ _ rfl (q_call rfl rfl (hform)) rfl rfl ?_) | (refine ad_id ?_; first | refine AD.step _ _ _ _ _ rfl (opE_sound tbOK rfl) rfl rfl ?_ | refine AD.nil _ ?_ | refine AD.skip _ _ _ _ rfl rfl rfl ?_ | (refine ad_caseB true rfl rfl ?_ ?_; · (assumption)) | (refine ad_caseB false rfl rfl ?_ ?_; · (assumption)) | refine ad_case rfl rfl (fun _ => ?_) (fun _ => ?_)) | refine aw_seq ?_ | refine aw_region ?_ | refine aw_block ?_ | (refine aw_sh_cond ?_; first | refine aw_cond_true rfl ?_ | refine aw_cond_false rfl ?_ | (refine aw_condT rfl ?_ ?_; · (assumption)) | (refine aw_condF rfl ?_ ?_; · (assumption)) | refine aw_cond rfl (fun _ => ?_) (fun _ => ?_)) | refine aw_skip ?_ | refine aw_exit ?_ | refine aw_ret ?_ | refine aw_draw (by kernel_rfl) (by kernel_rfl) ?_)
  refine aw_loop (fun k : Nat => [(1, .pv (.ptr (imgPV g) 0)), (10, .pv (pi g.types.length)), (11, .pv (pi k))]) (fun _ => []) (fun k => k ≤ g.types.length) (fun k => g.types.length - k) 0 (by omega) (by repeat (first | exact sub_nil | refine sub_cons rfl ?_ | (refine sub_i rfl ?_ ?_; · (first | (rw [wrap_in (by omega) (by omega)] <;> omega) | (dsimp only; rw [wrap_in (by omega) (by omega)] <;> omega) | (simp; done))))) ⟨by repeat (first | exact hsub_nil | refine hsub_cons rfl ?_), rfl⟩ ?_
  rintro k hk
  by_cases hlt : k < g.types.length
  · have he := map_get (f := tdPV) hlt
    obtain ⟨c1, c2, c3, c4, c5⟩ := hall k hlt
    repeat' (first | (refine ao_sh_call ?_; first | refine ao_q rfl (q_call rfl rfl (c1)) rfl rfl ?_ | refine ao_q rfl (q_call rfl rfl (c2)) rfl rfl ?_ | refine ao_q rfl (q_call rfl rfl (c3)) rfl rfl ?_ | refine ao_q rfl (q_call rfl rfl (c4)) rfl rfl ?_ | refine ao_q rfl (q_call rfl rfl (c5)) rfl rfl ?_) | (refine ao_sh_ix ?_; first | refine ao_q rfl (q_index tbOK rfl rfl rfl rfl rfl rfl (by omega) he) rfl rfl ?_) | (refine ao_sh_store ?_; first | refine ao_store tbOK rfl rfl rfl rfl rfl rfl rfl rfl rfl ?_) | (refine ao_sh_alloc ?_; first | refine ao_alloc tbOK 0 rfl rfl rfl rfl rfl rfl rfl ?_ | refine ao_alloc tbOK 1 rfl rfl rfl rfl rfl rfl rfl ?_ | refine ao_alloc tbOK 2 rfl rfl rfl rfl rfl rfl rfl ?_ | refine ao_alloc tbOK 3 rfl rfl rfl rfl rfl rfl rfl ?_ | refine ao_alloc tbOK 4 rfl rfl rfl rfl rfl rfl rfl ?_ | refine ao_alloc tbOK 5 rfl rfl rfl rfl rfl rfl rfl ?_) | (refine ao_id ?_; first | refine ao_step tbOK rfl rfl rfl rfl ?_ | refine ao_nil ?_ | refine ao_skip rfl rfl rfl ?_ | (refine ao_caseB true rfl rfl ?_ ?_; · (first | assumption | (simp <;> omega))) | (refine ao_caseB false rfl rfl ?_ ?_; · (first | assumption | (simp <;> omega))) | refine ao_case rfl rfl (fun _ => ?_) (fun _ => ?_)) | (refine ad_sh_call ?_; first | refine AD.step _ _ _ _ _ rfl (q_call rfl rfl (c1)) rfl rfl ?_ | refine AD.step _ _ _ _ _ rfl (q_call rfl rfl (c2)) rfl rfl ?_ | refine AD.step _ _ _ _ _ rfl (q_call rfl rfl (c3)) rfl rfl ?_ | refine AD.step _ _ _ _ _ rfl (q_call rfl rfl (c4)) rfl rfl ?_ | refine AD.step _ _ _ _ _ rfl (q_call rfl rfl (c5)) rfl rfl ?_) | (refine ad_sh_ix ?_; first | refine AD.step _ _ _ _ _ rfl (q_index tbOK rfl rfl rfl rfl rfl rfl (by omega) he) rfl rfl ?_) | (refine ad_id ?_; first | refine AD.step _ _ _ _ _ rfl (opE_sound tbOK rfl) rfl rfl ?_ | refine AD.nil _ ?_ | refine AD.skip _ _ _ _ rfl rfl rfl ?_ | (refine ad_caseB true rfl rfl ?_ ?_; · (first | assumption | (simp <;> omega))) | (refine ad_caseB false rfl rfl ?_ ?_; · (first | assumption | (simp <;> omega))) | refine ad_case rfl rfl (fun _ => ?_) (fun _ => ?_)) | refine aw_seq ?_ | refine aw_region ?_ | refine aw_block ?_ | (refine aw_sh_cond ?_; first | refine aw_cond_true rfl ?_ | refine aw_cond_false rfl ?_ | (refine aw_condT rfl ?_ ?_; · (first | assumption | (simp <;> omega))) | (refine aw_condF rfl ?_ ?_; · (first | assumption | (simp <;> omega))) | refine aw_cond rfl (fun _ => ?_) (fun _ => ?_)) | refine aw_skip ?_ | refine aw_exit ?_ | refine aw_ret ?_ | refine aw_draw (by kernel_rfl) (by kernel_rfl) ?_)
    exact ⟨k + 1, hlt, (by dsimp only; omega), by repeat (first | exact sub_nil | refine sub_cons rfl ?_ | (refine sub_i rfl ?_ ?_; · (first | (rw [wrap_in (by omega) (by omega)] <;> omega) | (dsimp only; rw [wrap_in (by omega) (by omega)] <;> omega) | (simp; done)))), ⟨by repeat (first | exact hsub_nil | refine hsub_cons rfl ?_), rfl⟩⟩
  · repeat' (first | (refine ao_sh_store ?_; first | refine ao_store tbOK rfl rfl rfl rfl rfl rfl rfl rfl rfl ?_) | (refine ao_sh_alloc ?_; first | refine ao_alloc tbOK 0 rfl rfl rfl rfl rfl rfl rfl ?_ | refine ao_alloc tbOK 1 rfl rfl rfl rfl rfl rfl rfl ?_ | refine ao_alloc tbOK 2 rfl rfl rfl rfl rfl rfl rfl ?_ | refine ao_alloc tbOK 3 rfl rfl rfl rfl rfl rfl rfl ?_ | refine ao_alloc tbOK 4 rfl rfl rfl rfl rfl rfl rfl ?_ | refine ao_alloc tbOK 5 rfl rfl rfl rfl rfl rfl rfl ?_) | (refine ao_id ?_; first | refine ao_step tbOK rfl rfl rfl rfl ?_ | refine ao_nil ?_ | refine ao_skip rfl rfl rfl ?_ | (refine ao_caseB true rfl rfl ?_ ?_; · (first | assumption | (simp <;> omega))) | (refine ao_caseB false rfl rfl ?_ ?_; · (first | assumption | (simp <;> omega))) | refine ao_case rfl rfl (fun _ => ?_) (fun _ => ?_)) | (refine ad_id ?_; first | refine AD.step _ _ _ _ _ rfl (opE_sound tbOK rfl) rfl rfl ?_ | refine AD.nil _ ?_ | refine AD.skip _ _ _ _ rfl rfl rfl ?_ | (refine ad_caseB true rfl rfl ?_ ?_; · (first | assumption | (simp <;> omega))) | (refine ad_caseB false rfl rfl ?_ ?_; · (first | assumption | (simp <;> omega))) | refine ad_case rfl rfl (fun _ => ?_) (fun _ => ?_)) | refine aw_seq ?_ | refine aw_region ?_ | refine aw_block ?_ | (refine aw_sh_cond ?_; first | refine aw_cond_true rfl ?_ | refine aw_cond_false rfl ?_ | (refine aw_condT rfl ?_ ?_; · (first | assumption | (simp <;> omega))) | (refine aw_condF rfl ?_ ?_; · (first | assumption | (simp <;> omega))) | refine aw_cond rfl (fun _ => ?_) (fun _ => ?_)) | refine aw_skip ?_ | refine aw_exit ?_ | refine aw_ret ?_ | refine aw_draw (by kernel_rfl) (by kernel_rfl) ?_)
    exact retq rfl rfl
theorem CheckP_tree (g : Img) (hform : ACall Tryz.prog 27 [imgPV g] (pb true)) (hlt : 0 < g.types.length) (c1 : ACall Tryz.prog 28 [tdPV g.types[0]] (pb true)) (c2 : ACall Tryz.prog 29 [imgPV g, pi 0] (pb false)) : ACall Tryz.prog 16 [imgPV g] (.tup [pi 0, pi 7]) := by
  refine acall_intro tbOK Tryz.func16 rfl (by kernel_rfl) Tryz.ntmps16 (by simp) _ rfl (fun hw gB => ?_)
  repeat' (first | (refine ao_sh_call ?_; first | refine ao_q rfl (q_call rfl rfl (hform)) rfl rfl ?_) | (refine ao_sh_store ?_; first | refine ao_store tbOK rfl rfl rfl rfl rfl rfl rfl rfl rfl ?_) | (refine ao_sh_alloc ?_; first | refine ao_alloc tbOK 0 rfl rfl rfl rfl rfl rfl rfl ?_ | refine ao_alloc tbOK 1 rfl rfl rfl rfl rfl rfl rfl ?_ | refine ao_alloc tbOK 2 rfl rfl rfl rfl rfl rfl rfl ?_ | refine ao_alloc tbOK 3 rfl rfl rfl rfl rfl rfl rfl ?_ | refine ao_alloc tbOK 4 rfl rfl rfl rfl rfl rfl rfl ?_ | refine ao_alloc tbOK 5 rfl rfl rfl rfl rfl rfl rfl ?_) | (refine ao_id ?_; first | refine ao_step tbOK rfl rfl rfl rfl ?_ | refine ao_nil ?_ | refine ao_skip rfl rfl rfl ?_ | (refine ao_caseB true rfl rfl ?_ ?_; · (assumption)) | (refine ao_caseB false rfl rfl ?_ ?_; · (assumption)) | refine ao_case rfl rfl (fun _ => ?_) (fun _ => ?_)) | (refine ad_sh_call ?_; first | refine AD.step _ _ _ _ _ rfl (q_call rfl rfl (hform)) rfl rfl ?_) | (refine ad_id ?_; first | refine AD.step _ _ _ _ _ rfl (opE_sound tbOK rfl) rfl rfl ?_ | refine AD.nil _ ?_ | refine AD.skip _ _ _ _ rfl rfl rfl ?_ | (refine ad_caseB true rfl rfl ?_ ?_; · (assumption)) | (refine ad_caseB false rfl rfl ?_ ?_; · (assumption)) | refine ad_case rfl rfl (fun _ => ?_) (fun _ => ?_)) | refine aw_seq ?_ | refine aw_region ?_ | refine aw_block ?_ | (refine aw_sh_cond ?_; first | refine aw_cond_true rfl ?_ | refine aw_cond_false rfl ?_ | (refine aw_condT rfl ?_ ?_; · (assumption)) | (refine aw_condF rfl ?_ ?_; · (assumption)) | refine aw_cond rfl (fun _ => ?_) (fun _ => ?_)) | refine aw_skip ?_ | refine aw_exit ?_ | refine aw_ret ?_ | refine aw_draw (by kernel_rfl) (by kernel_rfl) ?_)
  refine aw_loop (fun k : Nat => [(1, .pv (.ptr (imgPV g) 0)), (10, .pv (pi g.types.length)), (11, .pv (pi 0))]) (fun _ => []) (fun k => True) (fun k => 0) 0 trivial (by repeat (first | exact sub_nil | refine sub_cons rfl ?_ | (refine sub_i rfl ?_ ?_; · (first | (rw [wrap_in (by omega) (by omega)] <;> omega) | (dsimp only; rw [wrap_in (by omega) (by omega)] <;> omega) | (simp; done))))) ⟨by repeat (first | exact hsub_nil | refine hsub_cons rfl ?_), rfl⟩ ?_
  rintro k -
  have he := map_get (f := tdPV) hlt
  repeat' (first | (refine ao_sh_call ?_; first | refine ao_q rfl (q_call rfl rfl (c1)) rfl rfl ?_ | refine ao_q rfl (q_call rfl rfl (c2)) rfl rfl ?_) | (refine ao_sh_ix ?_; first | refine ao_q rfl (q_index tbOK rfl rfl rfl rfl rfl rfl (by omega) he) rfl rfl ?_) | (refine ao_sh_store ?_; first | refine ao_store tbOK rfl rfl rfl rfl rfl rfl rfl rfl rfl ?_) | (refine ao_sh_alloc ?_; first | refine ao_alloc tbOK 0 rfl rfl rfl rfl rfl rfl rfl ?_ | refine ao_alloc tbOK 1 rfl rfl rfl rfl rfl rfl rfl ?_ | refine ao_alloc tbOK 2 rfl rfl rfl rfl rfl rfl rfl ?_ | refine ao_alloc tbOK 3 rfl rfl rfl rfl rfl rfl rfl ?_ | refine ao_alloc tbOK 4 rfl rfl rfl rfl rfl rfl rfl ?_ | refine ao_alloc tbOK 5 rfl rfl rfl rfl rfl rfl rfl ?_) | (refine ao_id ?_; first | refine ao_step tbOK rfl rfl rfl rfl ?_ | refine ao_nil ?_ | refine ao_skip rfl rfl rfl ?_ | (refine ao_caseB true rfl rfl ?_ ?_; · (first | assumption | (simp <;> omega))) | (refine ao_caseB false rfl rfl ?_ ?_; · (first | assumption | (simp <;> omega))) | refine ao_case rfl rfl (fun _ => ?_) (fun _ => ?_)) | (refine ad_sh_call ?_; first | refine AD.step _ _ _ _ _ rfl (q_call rfl rfl (c1)) rfl rfl ?_ | refine AD.step _ _ _ _ _ rfl (q_call rfl rfl (c2)) rfl rfl ?_) | (refine ad_sh_ix ?_; first | refine AD.step _ _ _ _ _ rfl (q_index tbOK rfl rfl rfl rfl rfl rfl (by omega) he) rfl rfl ?_) | (refine ad_id ?_; first | refine AD.step _ _ _ _ _ rfl (opE_sound tbOK rfl) rfl rfl ?_ | refine AD.nil _ ?_ | refine AD.skip _ _ _ _ rfl rfl rfl ?_ | (refine ad_caseB true rfl rfl ?_ ?_; · (first | assumption | (simp <;> omega))) | (refine ad_caseB false rfl rfl ?_ ?_; · (first | assumption | (simp <;> omega))) | refine ad_case rfl rfl (fun _ => ?_) (fun _ => ?_)) | refine aw_seq ?_ | refine aw_region ?_ | refine aw_block ?_ | (refine aw_sh_cond ?_; first | refine aw_cond_true rfl ?_ | refine aw_cond_false rfl ?_ | (refine aw_condT rfl ?_ ?_; · (first | assumption | (simp <;> omega))) | (refine aw_condF rfl ?_ ?_; · (first | assumption | (simp <;> omega))) | refine aw_cond rfl (fun _ => ?_) (fun _ => ?_)) | refine aw_skip ?_ | refine aw_exit ?_ | refine aw_ret ?_ | refine aw_draw (by kernel_rfl) (by kernel_rfl) ?_)
  all_goals exact retq rfl rfl
theorem CheckW1 : ACall Tryz.prog 16 [imgPV gW1] (.tup [pi 0, pi 7]) := by
  have c0 := FormedP0_call gW1 rfl rfl rfl
  rw [tW1] at c0
  have c1 := flaggedP_call (tdOf 65 1)
  rw [flW] at c1
  have c2 := extendsP_call gW1 0 (tdOf 65 1) rfl (by decide)
  rw [xW1] at c2
  exact CheckP_tree gW1 c0 (by decide) c1 c2
theorem CheckW2 : ACall Tryz.prog 16 [imgPV gW2] (.tup [pi 0, pi 0]) := by
  have c0 := FormedP0_call gW2 rfl rfl rfl
  rw [tW2] at c0
  refine CheckP_ok gW2 c0 (by decide) fun k hk => ?_
  have hk2 : k = 0 ∨ k = 1 := by have : gW2.types.length = 2 := rfl; omega
  rcases hk2 with rfl | rfl
  · have c1 := flaggedP_call (tdOf 65 1)
    have c2 := extendsP_call gW2 0 (tdOf 65 1) rfl (by decide)
    have c3 := named0_call gW2 0 (tdOf 65 1) rfl (by decide) rfl rfl
    rw [flW] at c1
    rw [xW2] at c2
    rw [nW2] at c3
    exact ⟨c1, c2, faced0_call gW2 0 (tdOf 65 1) rfl rfl (by decide), c3, sized0_call gW2 0 (tdOf 65 1) rfl rfl (by decide)⟩
  · have c1 := flaggedP_call (tdOf 66 (-1))
    have c2 := extendsP_call gW2 1 (tdOf 66 (-1)) rfl (by decide)
    have c3 := named0_call gW2 1 (tdOf 66 (-1)) rfl (by decide) rfl rfl
    rw [flW] at c1
    rw [xW3] at c2
    rw [nW3] at c3
    exact ⟨c1, c2, faced0_call gW2 1 (tdOf 66 (-1)) rfl rfl (by decide), c3, sized0_call gW2 1 (tdOf 66 (-1)) rfl rfl (by decide)⟩
/-! the law's example -/
abbrev wTD (n : UInt8) (e : Int) : PV := .agg [.base (.string ⟨#[n]⟩), pi 0, pi e, .base (.slice none 0 0)]
abbrev wImg (e : Int) : PV := .agg [.slc 4 [wTD 65 1, wTD 66 e] true, .base (.slice none 0 0), .base (.slice none 0 0), pi (-1)]
theorem wTD_tells (n : UInt8) (e : Int) : PTL (wTD n e).cells (tdPV (tdOf n e)).cells :=
  ptl_cons (.refl _) (ptl_cons (.refl _) (ptl_cons (.refl _) (ptl_cons (pt_nil 1 false) ptl_nil)))
theorem wImg_tells (e : Int) : PTells (wImg e) (imgPV ⟨[tdOf 65 1, tdOf 66 e], [], [], -1⟩) :=
  pt_agg (ptl_cons (pt_slc (pcl_cons (wTD_tells 65 1) (pcl_cons (wTD_tells 66 e) pcl_nil))) (ptl_cons (pt_nil 7 false) (ptl_cons (pt_nil 12 false) (ptl_cons (.refl _) ptl_nil))))
theorem wakes11_call : ACall Tryz.prog 6 [] (pb true) := by
  refine acall_intro tbOK Tryz.func6 rfl (by kernel_rfl) Tryz.ntmps6 (by simp) _ rfl (fun hw gB => ?_)
  have b1 := BelowP_call gW2 0 1 fW2
  have b2 := BelowP_call gW2 1 0 fW2
  rw [bW1] at b1
  rw [bW2] at b2
  repeat' (first | refine ao_tells 10 (wImg_tells 0) rfl ?_ | refine ao_tells 17 (wImg_tells (-1)) rfl ?_ | (refine ao_sh_call ?_; first | refine ao_q rfl (q_call rfl rfl (CheckW1)) rfl rfl ?_ | refine ao_q rfl (q_call rfl rfl (CheckW2)) rfl rfl ?_ | refine ao_q rfl (q_call rfl rfl (b1)) rfl rfl ?_ | refine ao_q rfl (q_call rfl rfl (b2)) rfl rfl ?_) | (refine ao_sh_store ?_; first | refine ao_store tbOK rfl rfl rfl rfl rfl rfl rfl rfl rfl ?_) | (refine ao_sh_alloc ?_; first | refine ao_alloc tbOK 0 rfl rfl rfl rfl rfl rfl rfl ?_ | refine ao_alloc tbOK 1 rfl rfl rfl rfl rfl rfl rfl ?_ | refine ao_alloc tbOK 2 rfl rfl rfl rfl rfl rfl rfl ?_ | refine ao_alloc tbOK 3 rfl rfl rfl rfl rfl rfl rfl ?_ | refine ao_alloc tbOK 4 rfl rfl rfl rfl rfl rfl rfl ?_ | refine ao_alloc tbOK 5 rfl rfl rfl rfl rfl rfl rfl ?_) | (refine ao_id ?_; first | refine ao_step tbOK rfl rfl rfl rfl ?_ | refine ao_nil ?_ | refine ao_skip rfl rfl rfl ?_ | (refine ao_caseB true rfl rfl ?_ ?_; · (assumption)) | (refine ao_caseB false rfl rfl ?_ ?_; · (assumption)) | refine ao_case rfl rfl (fun _ => ?_) (fun _ => ?_)) | (refine ad_sh_call ?_; first | refine AD.step _ _ _ _ _ rfl (q_call rfl rfl (CheckW1)) rfl rfl ?_ | refine AD.step _ _ _ _ _ rfl (q_call rfl rfl (CheckW2)) rfl rfl ?_ | refine AD.step _ _ _ _ _ rfl (q_call rfl rfl (b1)) rfl rfl ?_ | refine AD.step _ _ _ _ _ rfl (q_call rfl rfl (b2)) rfl rfl ?_) | (refine ad_id ?_; first | refine AD.step _ _ _ _ _ rfl (opE_sound tbOK rfl) rfl rfl ?_ | refine AD.nil _ ?_ | refine AD.skip _ _ _ _ rfl rfl rfl ?_ | (refine ad_caseB true rfl rfl ?_ ?_; · (assumption)) | (refine ad_caseB false rfl rfl ?_ ?_; · (assumption)) | refine ad_case rfl rfl (fun _ => ?_) (fun _ => ?_)) | refine aw_seq ?_ | refine aw_region ?_ | refine aw_block ?_ | (refine aw_sh_cond ?_; first | refine aw_cond_true rfl ?_ | refine aw_cond_false rfl ?_ | (refine aw_condT rfl ?_ ?_; · (assumption)) | (refine aw_condF rfl ?_ ?_; · (assumption)) | refine aw_cond rfl (fun _ => ?_) (fun _ => ?_)) | refine aw_skip ?_ | refine aw_exit ?_ | refine aw_ret ?_ | refine aw_draw (by kernel_rfl) (by kernel_rfl) ?_)
  all_goals exact retq rfl rfl
end Go.Cg
