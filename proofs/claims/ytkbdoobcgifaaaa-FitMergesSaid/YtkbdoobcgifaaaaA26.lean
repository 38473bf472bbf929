/- A part of the walks by abstract values: no statement of its own. -/
import Derived.Test.YtkbdoobcgifaaaaA24
import Derived.Test.YtkbdoobcgifaaaaA13
namespace Go.Cg
open Go.Proofs

def thisS (k : Int) (st : Bool) (o : Int) : Ty × Bool := if k < 0 || st then (ty0, false) else if k == 1 then (⟨6, o, 0, true⟩, true) else (⟨5, o, 0, false⟩, true)
theorem This_call (g : Img) (m : Me) : ACall Try.prog 23 [imgPV g, mePV m] (.tup [tyPV (thisS (kindP g m.owner) (andB m.flags 1) m.owner).1, pb (thisS (kindP g m.owner) (andB m.flags 1) m.owner).2]) := by
  refine acall_intro tbOK Try.func23 rfl (by kernel_rfl) Try.ntmps23 (by simp) _ rfl (fun hw gB => ?_)
  repeat' (first | (refine ao_sh_call ?_; first | refine ao_q rfl (q_call rfl rfl (KindP_call _ _)) rfl rfl ?_) | (refine ao_sh_store ?_; first | refine ao_store tbOK rfl rfl rfl rfl rfl rfl rfl rfl rfl ?_) | (refine ao_sh_alloc ?_; first | refine ao_alloc tbOK 0 rfl rfl rfl rfl rfl rfl rfl ?_ | refine ao_alloc tbOK 1 rfl rfl rfl rfl rfl rfl rfl ?_ | refine ao_alloc tbOK 2 rfl rfl rfl rfl rfl rfl rfl ?_ | refine ao_alloc tbOK 3 rfl rfl rfl rfl rfl rfl rfl ?_ | refine ao_alloc tbOK 4 rfl rfl rfl rfl rfl rfl rfl ?_ | refine ao_alloc tbOK 5 rfl rfl rfl rfl rfl rfl rfl ?_) | (refine ao_id ?_; first | refine ao_step tbOK rfl rfl rfl rfl ?_ | refine ao_nil ?_ | refine ao_skip rfl rfl rfl ?_ | (refine ao_caseB true rfl rfl ?_ ?_; · (assumption)) | (refine ao_caseB false rfl rfl ?_ ?_; · (assumption)) | refine ao_case rfl rfl (fun _ => ?_) (fun _ => ?_)) | (refine ad_sh_call ?_; first | refine AD.step _ _ _ _ _ rfl (q_call rfl rfl (KindP_call _ _)) rfl rfl ?_) | (refine ad_id ?_; first | refine AD.step _ _ _ _ _ rfl (opE_sound tbOK rfl) rfl rfl ?_ | refine AD.nil _ ?_ | refine AD.skip _ _ _ _ rfl rfl rfl ?_ | (refine ad_caseB true rfl rfl ?_ ?_; · (assumption)) | (refine ad_caseB false rfl rfl ?_ ?_; · (assumption)) | refine ad_case rfl rfl (fun _ => ?_) (fun _ => ?_)) | refine aw_seq ?_ | refine aw_region ?_ | refine aw_block ?_ | (refine aw_sh_cond ?_; first | refine aw_cond_true rfl ?_ | refine aw_cond_false rfl ?_ | (refine aw_condT rfl ?_ ?_; · (assumption)) | (refine aw_condF rfl ?_ ?_; · (assumption)) | refine aw_cond rfl (fun _ => ?_) (fun _ => ?_)) | refine aw_skip ?_ | refine aw_exit ?_ | refine aw_ret ?_ | refine aw_draw (by kernel_rfl) (by kernel_rfl) ?_)
  · rename_i h1
    have hs : thisS (kindP g m.owner) (andB m.flags 1) m.owner = (ty0, false) := by simp_all [thisS]
    rw [hs]; exact retq rfl rfl
  · rename_i h1 h2
    have h3 : (andB m.flags 1) = true := h2
    have hs : thisS (kindP g m.owner) (andB m.flags 1) m.owner = (ty0, false) := by simp [thisS, h3]
    rw [hs]; exact retq rfl rfl
  · rename_i h1 h2 h4
    have h3 : (andB m.flags 1) = false := h2
    have hs : thisS (kindP g m.owner) (andB m.flags 1) m.owner = (⟨6, m.owner, 0, true⟩, true) := by rw [thisS, h3]; simp_all
    rw [hs]; exact retq rfl rfl
  · rename_i h1 h2 h4
    have h3 : (andB m.flags 1) = false := h2
    have hs : thisS (kindP g m.owner) (andB m.flags 1) m.owner = (⟨5, m.owner, 0, false⟩, true) := by rw [thisS, h3]; simp_all
    rw [hs]; exact retq rfl rfl
theorem ThisR_call (g : Img) (m : Me) : ACall Try.prog 24 [imgPV g, mePV m] (.tup [tyPV (thisS (kindG g m.owner) (m.flags.tmod 2 != 0) m.owner).1, pb (thisS (kindG g m.owner) (m.flags.tmod 2 != 0) m.owner).2]) := by
  refine acall_intro tbOK Try.func24 rfl (by kernel_rfl) Try.ntmps24 (by simp) _ rfl (fun hw gB => ?_)
  repeat' (first | (refine ao_sh_call ?_; first | refine ao_q rfl (q_call rfl rfl (KindR_call _ _)) rfl rfl ?_) | (refine ao_sh_store ?_; first | refine ao_store tbOK rfl rfl rfl rfl rfl rfl rfl rfl rfl ?_) | (refine ao_sh_alloc ?_; first | refine ao_alloc tbOK 0 rfl rfl rfl rfl rfl rfl rfl ?_ | refine ao_alloc tbOK 1 rfl rfl rfl rfl rfl rfl rfl ?_ | refine ao_alloc tbOK 2 rfl rfl rfl rfl rfl rfl rfl ?_ | refine ao_alloc tbOK 3 rfl rfl rfl rfl rfl rfl rfl ?_ | refine ao_alloc tbOK 4 rfl rfl rfl rfl rfl rfl rfl ?_ | refine ao_alloc tbOK 5 rfl rfl rfl rfl rfl rfl rfl ?_) | (refine ao_id ?_; first | refine ao_step tbOK rfl rfl rfl rfl ?_ | refine ao_nil ?_ | refine ao_skip rfl rfl rfl ?_ | (refine ao_caseB true rfl rfl ?_ ?_; · (assumption)) | (refine ao_caseB false rfl rfl ?_ ?_; · (assumption)) | refine ao_case rfl rfl (fun _ => ?_) (fun _ => ?_)) | (refine ad_sh_call ?_; first | refine AD.step _ _ _ _ _ rfl (q_call rfl rfl (KindR_call _ _)) rfl rfl ?_) | (refine ad_id ?_; first | refine AD.step _ _ _ _ _ rfl (opE_sound tbOK rfl) rfl rfl ?_ | refine AD.nil _ ?_ | refine AD.skip _ _ _ _ rfl rfl rfl ?_ | (refine ad_caseB true rfl rfl ?_ ?_; · (assumption)) | (refine ad_caseB false rfl rfl ?_ ?_; · (assumption)) | refine ad_case rfl rfl (fun _ => ?_) (fun _ => ?_)) | refine aw_seq ?_ | refine aw_region ?_ | refine aw_block ?_ | (refine aw_sh_cond ?_; first | refine aw_cond_true rfl ?_ | refine aw_cond_false rfl ?_ | (refine aw_condT rfl ?_ ?_; · (assumption)) | (refine aw_condF rfl ?_ ?_; · (assumption)) | refine aw_cond rfl (fun _ => ?_) (fun _ => ?_)) | refine aw_skip ?_ | refine aw_exit ?_ | refine aw_ret ?_ | refine aw_draw (by kernel_rfl) (by kernel_rfl) ?_)
  · rename_i h1
    have hs : thisS (kindG g m.owner) (m.flags.tmod 2 != 0) m.owner = (ty0, false) := by simp_all [thisS]
    rw [hs]; exact retq rfl rfl
  · rename_i h1 h2
    have h3 : (m.flags.tmod 2 != 0) = true := h2
    have hs : thisS (kindG g m.owner) (m.flags.tmod 2 != 0) m.owner = (ty0, false) := by simp [thisS, h3]
    rw [hs]; exact retq rfl rfl
  · rename_i h1 h2 h4
    have h3 : (m.flags.tmod 2 != 0) = false := h2
    have hs : thisS (kindG g m.owner) (m.flags.tmod 2 != 0) m.owner = (⟨6, m.owner, 0, true⟩, true) := by rw [thisS, h3]; simp_all
    rw [hs]; exact retq rfl rfl
  · rename_i h1 h2 h4
    have h3 : (m.flags.tmod 2 != 0) = false := h2
    have hs : thisS (kindG g m.owner) (m.flags.tmod 2 != 0) m.owner = (⟨5, m.owner, 0, false⟩, true) := by rw [thisS, h3]; simp_all
    rw [hs]; exact retq rfl rfl
def argsS (x : Ty × Bool) (l : List Ty) : List Ty := (if x.2 then [x.1] else []) ++ l
theorem Args_call (g : Img) (m : Me) (hp : m.params.length ≤ 1000) : ACall Try.prog 25 [imgPV g, mePV m] (tys (argsS (thisS (kindP g m.owner) (andB m.flags 1) m.owner) m.params)) := by
  refine acall_intro tbOK Try.func25 rfl (by kernel_rfl) Try.ntmps25 (by simp) _ rfl (fun hw gB => ?_)
  have c1 := This_call g m
  generalize thisS (kindP g m.owner) (andB m.flags 1) m.owner = x at c1 ⊢
  obtain ⟨t, b⟩ := x
  cases b
  · repeat' (first | refine aw_own_nil (t := 5) 0 28 4 (by decide) rfl rfl ?_ | (refine ao_sh_call ?_; first | refine ao_q rfl (q_call rfl rfl (c1)) rfl rfl ?_) | (refine ao_sh_bi ?_; first | refine ao_append tbOK rfl rfl rfl rfl rfl rfl rfl (by show _ * 32 ≤ _; simp; omega) (by simp; omega) rfl rfl ?_) | (refine ao_sh_store ?_; first | refine ao_store tbOK rfl rfl rfl rfl rfl rfl rfl rfl rfl ?_) | (refine ao_sh_alloc ?_; first | refine ao_alloc tbOK 0 rfl rfl rfl rfl rfl rfl rfl ?_ | refine ao_alloc tbOK 1 rfl rfl rfl rfl rfl rfl rfl ?_ | refine ao_alloc tbOK 2 rfl rfl rfl rfl rfl rfl rfl ?_ | refine ao_alloc tbOK 3 rfl rfl rfl rfl rfl rfl rfl ?_ | refine ao_alloc tbOK 4 rfl rfl rfl rfl rfl rfl rfl ?_ | refine ao_alloc tbOK 5 rfl rfl rfl rfl rfl rfl rfl ?_) | (refine ao_id ?_; first | refine ao_step tbOK rfl rfl rfl rfl ?_ | refine ao_nil ?_ | refine ao_skip rfl rfl rfl ?_ | (refine ao_caseB true rfl rfl ?_ ?_; · (assumption)) | (refine ao_caseB false rfl rfl ?_ ?_; · (assumption)) | refine ao_case rfl rfl (fun _ => ?_) (fun _ => ?_)) | (refine ad_sh_call ?_; first | refine AD.step _ _ _ _ _ rfl (q_call rfl rfl (c1)) rfl rfl ?_) | (refine ad_id ?_; first | refine AD.step _ _ _ _ _ rfl (opE_sound tbOK rfl) rfl rfl ?_ | refine AD.nil _ ?_ | refine AD.skip _ _ _ _ rfl rfl rfl ?_ | (refine ad_caseB true rfl rfl ?_ ?_; · (assumption)) | (refine ad_caseB false rfl rfl ?_ ?_; · (assumption)) | refine ad_case rfl rfl (fun _ => ?_) (fun _ => ?_)) | refine aw_seq ?_ | refine aw_region ?_ | refine aw_block ?_ | (refine aw_sh_cond ?_; first | refine aw_cond_true rfl ?_ | refine aw_cond_false rfl ?_ | (refine aw_condT rfl ?_ ?_; · (assumption)) | (refine aw_condF rfl ?_ ?_; · (assumption)) | refine aw_cond rfl (fun _ => ?_) (fun _ => ?_)) | refine aw_skip ?_ | refine aw_exit ?_ | refine aw_ret ?_ | refine aw_draw (by kernel_rfl) (by kernel_rfl) ?_)
    exact retq rfl rfl
  · repeat' (first | refine aw_own_nil (t := 5) 0 28 4 (by decide) rfl rfl ?_ | (refine ao_sh_call ?_; first | refine ao_q rfl (q_call rfl rfl (c1)) rfl rfl ?_) | (refine ao_sh_bi ?_; first | refine ao_append tbOK rfl rfl rfl rfl rfl rfl rfl (by show _ * 32 ≤ _; simp; try omega) (by simp; try omega) rfl rfl ?_) | (refine ao_sh_store ?_; first | refine ao_store tbOK rfl rfl rfl rfl rfl rfl rfl rfl rfl ?_) | (refine ao_sh_alloc ?_; first | refine ao_alloc tbOK 0 rfl rfl rfl rfl rfl rfl rfl ?_ | refine ao_alloc tbOK 1 rfl rfl rfl rfl rfl rfl rfl ?_ | refine ao_alloc tbOK 2 rfl rfl rfl rfl rfl rfl rfl ?_ | refine ao_alloc tbOK 3 rfl rfl rfl rfl rfl rfl rfl ?_ | refine ao_alloc tbOK 4 rfl rfl rfl rfl rfl rfl rfl ?_ | refine ao_alloc tbOK 5 rfl rfl rfl rfl rfl rfl rfl ?_) | (refine ao_id ?_; first | refine ao_step tbOK rfl rfl rfl rfl ?_ | refine ao_nil ?_ | refine ao_skip rfl rfl rfl ?_ | (refine ao_caseB true rfl rfl ?_ ?_; · (assumption)) | (refine ao_caseB false rfl rfl ?_ ?_; · (assumption)) | refine ao_case rfl rfl (fun _ => ?_) (fun _ => ?_)) | (refine ad_sh_call ?_; first | refine AD.step _ _ _ _ _ rfl (q_call rfl rfl (c1)) rfl rfl ?_) | (refine ad_id ?_; first | refine AD.step _ _ _ _ _ rfl (opE_sound tbOK rfl) rfl rfl ?_ | refine AD.nil _ ?_ | refine AD.skip _ _ _ _ rfl rfl rfl ?_ | (refine ad_caseB true rfl rfl ?_ ?_; · (assumption)) | (refine ad_caseB false rfl rfl ?_ ?_; · (assumption)) | refine ad_case rfl rfl (fun _ => ?_) (fun _ => ?_)) | refine aw_seq ?_ | refine aw_region ?_ | refine aw_block ?_ | (refine aw_sh_cond ?_; first | refine aw_cond_true rfl ?_ | refine aw_cond_false rfl ?_ | (refine aw_condT rfl ?_ ?_; · (assumption)) | (refine aw_condF rfl ?_ ?_; · (assumption)) | refine aw_cond rfl (fun _ => ?_) (fun _ => ?_)) | refine aw_skip ?_ | refine aw_exit ?_ | refine aw_ret ?_ | refine aw_draw (by kernel_rfl) (by kernel_rfl) ?_)
    exact retq rfl rfl
theorem ArgsR_call (g : Img) (m : Me) (hp : m.params.length ≤ 1000) : ACall Try.prog 26 [imgPV g, mePV m] (tys (argsS (thisS (kindG g m.owner) (m.flags.tmod 2 != 0) m.owner) m.params)) := by
  refine acall_intro tbOK Try.func26 rfl (by kernel_rfl) Try.ntmps26 (by simp) _ rfl (fun hw gB => ?_)
  have c1 := ThisR_call g m
  generalize thisS (kindG g m.owner) (m.flags.tmod 2 != 0) m.owner = x at c1 ⊢
  obtain ⟨t, b⟩ := x
  cases b
  · repeat' (first | refine aw_own_nil (t := 5) 0 28 4 (by decide) rfl rfl ?_ | (refine ao_sh_call ?_; first | refine ao_q rfl (q_call rfl rfl (c1)) rfl rfl ?_) | (refine ao_sh_bi ?_; first | refine ao_append tbOK rfl rfl rfl rfl rfl rfl rfl (by show _ * 32 ≤ _; simp; omega) (by simp; omega) rfl rfl ?_) | (refine ao_sh_store ?_; first | refine ao_store tbOK rfl rfl rfl rfl rfl rfl rfl rfl rfl ?_) | (refine ao_sh_alloc ?_; first | refine ao_alloc tbOK 0 rfl rfl rfl rfl rfl rfl rfl ?_ | refine ao_alloc tbOK 1 rfl rfl rfl rfl rfl rfl rfl ?_ | refine ao_alloc tbOK 2 rfl rfl rfl rfl rfl rfl rfl ?_ | refine ao_alloc tbOK 3 rfl rfl rfl rfl rfl rfl rfl ?_ | refine ao_alloc tbOK 4 rfl rfl rfl rfl rfl rfl rfl ?_ | refine ao_alloc tbOK 5 rfl rfl rfl rfl rfl rfl rfl ?_) | (refine ao_id ?_; first | refine ao_step tbOK rfl rfl rfl rfl ?_ | refine ao_nil ?_ | refine ao_skip rfl rfl rfl ?_ | (refine ao_caseB true rfl rfl ?_ ?_; · (assumption)) | (refine ao_caseB false rfl rfl ?_ ?_; · (assumption)) | refine ao_case rfl rfl (fun _ => ?_) (fun _ => ?_)) | (refine ad_sh_call ?_; first | refine AD.step _ _ _ _ _ rfl (q_call rfl rfl (c1)) rfl rfl ?_) | (refine ad_id ?_; first | refine AD.step _ _ _ _ _ rfl (opE_sound tbOK rfl) rfl rfl ?_ | refine AD.nil _ ?_ | refine AD.skip _ _ _ _ rfl rfl rfl ?_ | (refine ad_caseB true rfl rfl ?_ ?_; · (assumption)) | (refine ad_caseB false rfl rfl ?_ ?_; · (assumption)) | refine ad_case rfl rfl (fun _ => ?_) (fun _ => ?_)) | refine aw_seq ?_ | refine aw_region ?_ | refine aw_block ?_ | (refine aw_sh_cond ?_; first | refine aw_cond_true rfl ?_ | refine aw_cond_false rfl ?_ | (refine aw_condT rfl ?_ ?_; · (assumption)) | (refine aw_condF rfl ?_ ?_; · (assumption)) | refine aw_cond rfl (fun _ => ?_) (fun _ => ?_)) | refine aw_skip ?_ | refine aw_exit ?_ | refine aw_ret ?_ | refine aw_draw (by kernel_rfl) (by kernel_rfl) ?_)
    exact retq rfl rfl
  · repeat' (first | refine aw_own_nil (t := 5) 0 28 4 (by decide) rfl rfl ?_ | (refine ao_sh_call ?_; first | refine ao_q rfl (q_call rfl rfl (c1)) rfl rfl ?_) | (refine ao_sh_bi ?_; first | refine ao_append tbOK rfl rfl rfl rfl rfl rfl rfl (by show _ * 32 ≤ _; simp; try omega) (by simp; try omega) rfl rfl ?_) | (refine ao_sh_store ?_; first | refine ao_store tbOK rfl rfl rfl rfl rfl rfl rfl rfl rfl ?_) | (refine ao_sh_alloc ?_; first | refine ao_alloc tbOK 0 rfl rfl rfl rfl rfl rfl rfl ?_ | refine ao_alloc tbOK 1 rfl rfl rfl rfl rfl rfl rfl ?_ | refine ao_alloc tbOK 2 rfl rfl rfl rfl rfl rfl rfl ?_ | refine ao_alloc tbOK 3 rfl rfl rfl rfl rfl rfl rfl ?_ | refine ao_alloc tbOK 4 rfl rfl rfl rfl rfl rfl rfl ?_ | refine ao_alloc tbOK 5 rfl rfl rfl rfl rfl rfl rfl ?_) | (refine ao_id ?_; first | refine ao_step tbOK rfl rfl rfl rfl ?_ | refine ao_nil ?_ | refine ao_skip rfl rfl rfl ?_ | (refine ao_caseB true rfl rfl ?_ ?_; · (assumption)) | (refine ao_caseB false rfl rfl ?_ ?_; · (assumption)) | refine ao_case rfl rfl (fun _ => ?_) (fun _ => ?_)) | (refine ad_sh_call ?_; first | refine AD.step _ _ _ _ _ rfl (q_call rfl rfl (c1)) rfl rfl ?_) | (refine ad_id ?_; first | refine AD.step _ _ _ _ _ rfl (opE_sound tbOK rfl) rfl rfl ?_ | refine AD.nil _ ?_ | refine AD.skip _ _ _ _ rfl rfl rfl ?_ | (refine ad_caseB true rfl rfl ?_ ?_; · (assumption)) | (refine ad_caseB false rfl rfl ?_ ?_; · (assumption)) | refine ad_case rfl rfl (fun _ => ?_) (fun _ => ?_)) | refine aw_seq ?_ | refine aw_region ?_ | refine aw_block ?_ | (refine aw_sh_cond ?_; first | refine aw_cond_true rfl ?_ | refine aw_cond_false rfl ?_ | (refine aw_condT rfl ?_ ?_; · (assumption)) | (refine aw_condF rfl ?_ ?_; · (assumption)) | refine aw_cond rfl (fun _ => ?_) (fun _ => ?_)) | refine aw_skip ?_ | refine aw_exit ?_ | refine aw_ret ?_ | refine aw_draw (by kernel_rfl) (by kernel_rfl) ?_)
    exact retq rfl rfl

theorem andB_one {n : Int} : andB n 1 = (n.tmod 2 != 0) := by
  have h1 : (BitVec.ofInt 64 n &&& BitVec.ofInt 64 1).toNat = (n % 2).toNat := by
    rw [BitVec.toNat_and]
    have : (BitVec.ofInt 64 1).toNat = 1 := by decide
    rw [this, Nat.and_one_is_mod, BitVec.toNat_ofInt]
    omega
  have h2 : n.tmod 2 = 0 ↔ n % 2 = 0 := by
    constructor
    · intro h; have := Int.dvd_of_tmod_eq_zero h; omega
    · intro h; exact Int.tmod_eq_zero_of_dvd (by omega)
  have h3 : andB n 1 = (IntKind.i64.wrap (((n % 2).toNat : Nat) : Int) != 0) := by
    unfold andB
    have : (BitVec.ofInt IntKind.i64.bits n &&& BitVec.ofInt IntKind.i64.bits 1).toNat = (n % 2).toNat := h1
    rw [this]
  rw [h3, wrap_in (by omega) (by omega)]
  by_cases h : n % 2 = 0
  · simp [h, h2.2 h]
  · have : ¬ n.tmod 2 = 0 := fun e => h (h2.1 e)
    have h5 : ((n % 2).toNat : Int) ≠ 0 := by omega
    rw [show ((((n % 2).toNat : Nat) : Int) != 0) = true from bne_iff_ne.2 h5, show (n.tmod 2 != 0) = true from bne_iff_ne.2 this]
theorem kindT_fin : ∀ n : Fin 32, kindT (n.val : Int) = kindR (n.val : Int) := by decide +kernel
theorem kindT_eq {f : Int} (h0 : 0 ≤ f) (h1 : f ≤ 31) : kindT f = kindR f := by
  have := kindT_fin ⟨f.toNat, by omega⟩
  simpa [Int.toNat_of_nonneg h0] using this
theorem well_formed {g : Img} (h : wellR g = true) : formedG g = true := by
  cases hf : formedG g with
  | true => rfl
  | false => simp [wellR, checkR, hf] at h
theorem kindP_eq {g : Img} (h : formedG g = true) (t : Int) : kindP g t = kindG g t := by
  unfold kindP kindG
  cases ht : typeAt g t with
  | none => rfl
  | some td =>
    have hm : td ∈ g.types := by
      unfold typeAt at ht
      split at ht
      · exact List.mem_of_getElem? ht
      · cases ht
    obtain ⟨h1, h2, _⟩ := formedT_facts ((formedG_bounds h).2.2.2 td hm)
    exact kindT_eq h1 h2

theorem StateArgs_call (g : Img) (m : Me) : ACall Try.prog 7 [imgPV g, mePV m] (pb true) := by
  refine acall_intro tbOK Try.func7 rfl (by kernel_rfl) Try.ntmps7 (by simp) _ rfl (fun hw gB => ?_)
  have c1 := Long_call g
  have c2 := Well_call g
  cases hl : longG g
  · rw [hl] at c1
    by_cases hp : 100 < m.params.length
    · repeat' (first | (refine ao_sh_call ?_; first | refine ao_q rfl (q_call rfl rfl (wakes15_call)) rfl rfl ?_ | refine ao_q rfl (q_call rfl rfl (c1)) rfl rfl ?_) | (refine ao_sh_store ?_; first | refine ao_store tbOK rfl rfl rfl rfl rfl rfl rfl rfl rfl ?_) | (refine ao_sh_alloc ?_; first | refine ao_alloc tbOK 0 rfl rfl rfl rfl rfl rfl rfl ?_ | refine ao_alloc tbOK 1 rfl rfl rfl rfl rfl rfl rfl ?_ | refine ao_alloc tbOK 2 rfl rfl rfl rfl rfl rfl rfl ?_ | refine ao_alloc tbOK 3 rfl rfl rfl rfl rfl rfl rfl ?_ | refine ao_alloc tbOK 4 rfl rfl rfl rfl rfl rfl rfl ?_ | refine ao_alloc tbOK 5 rfl rfl rfl rfl rfl rfl rfl ?_) | (refine ao_id ?_; first | refine ao_step tbOK rfl rfl rfl rfl ?_ | refine ao_nil ?_ | refine ao_skip rfl rfl rfl ?_ | (refine ao_caseB true rfl rfl ?_ ?_; · (first | assumption | (simp <;> omega))) | (refine ao_caseB false rfl rfl ?_ ?_; · (first | assumption | (simp <;> omega))) | refine ao_case rfl rfl (fun _ => ?_) (fun _ => ?_)) | (refine ad_sh_call ?_; first | refine AD.step _ _ _ _ _ rfl (q_call rfl rfl (wakes15_call)) rfl rfl ?_ | refine AD.step _ _ _ _ _ rfl (q_call rfl rfl (c1)) rfl rfl ?_) | (refine ad_id ?_; first | refine AD.step _ _ _ _ _ rfl (opE_sound tbOK rfl) rfl rfl ?_ | refine AD.nil _ ?_ | refine AD.skip _ _ _ _ rfl rfl rfl ?_ | (refine ad_caseB true rfl rfl ?_ ?_; · (first | assumption | (simp <;> omega))) | (refine ad_caseB false rfl rfl ?_ ?_; · (first | assumption | (simp <;> omega))) | refine ad_case rfl rfl (fun _ => ?_) (fun _ => ?_)) | refine aw_seq ?_ | refine aw_region ?_ | refine aw_block ?_ | (refine aw_sh_cond ?_; first | refine aw_cond_true rfl ?_ | refine aw_cond_false rfl ?_ | (refine aw_condT rfl ?_ ?_; · (first | assumption | (simp <;> omega))) | (refine aw_condF rfl ?_ ?_; · (first | assumption | (simp <;> omega))) | refine aw_cond rfl (fun _ => ?_) (fun _ => ?_)) | refine aw_skip ?_ | refine aw_exit ?_ | refine aw_ret ?_ | refine aw_draw (by kernel_rfl) (by kernel_rfl) ?_)
      all_goals exact retq rfl rfl
    · cases hwl : wellR g
      · rw [hwl] at c2
        repeat' (first | (refine ao_sh_call ?_; first | refine ao_q rfl (q_call rfl rfl (wakes15_call)) rfl rfl ?_ | refine ao_q rfl (q_call rfl rfl (c1)) rfl rfl ?_ | refine ao_q rfl (q_call rfl rfl (c2)) rfl rfl ?_) | (refine ao_sh_store ?_; first | refine ao_store tbOK rfl rfl rfl rfl rfl rfl rfl rfl rfl ?_) | (refine ao_sh_alloc ?_; first | refine ao_alloc tbOK 0 rfl rfl rfl rfl rfl rfl rfl ?_ | refine ao_alloc tbOK 1 rfl rfl rfl rfl rfl rfl rfl ?_ | refine ao_alloc tbOK 2 rfl rfl rfl rfl rfl rfl rfl ?_ | refine ao_alloc tbOK 3 rfl rfl rfl rfl rfl rfl rfl ?_ | refine ao_alloc tbOK 4 rfl rfl rfl rfl rfl rfl rfl ?_ | refine ao_alloc tbOK 5 rfl rfl rfl rfl rfl rfl rfl ?_) | (refine ao_id ?_; first | refine ao_step tbOK rfl rfl rfl rfl ?_ | refine ao_nil ?_ | refine ao_skip rfl rfl rfl ?_ | (refine ao_caseB true rfl rfl ?_ ?_; · (first | assumption | (simp <;> omega))) | (refine ao_caseB false rfl rfl ?_ ?_; · (first | assumption | (simp <;> omega))) | refine ao_case rfl rfl (fun _ => ?_) (fun _ => ?_)) | (refine ad_sh_call ?_; first | refine AD.step _ _ _ _ _ rfl (q_call rfl rfl (wakes15_call)) rfl rfl ?_ | refine AD.step _ _ _ _ _ rfl (q_call rfl rfl (c1)) rfl rfl ?_ | refine AD.step _ _ _ _ _ rfl (q_call rfl rfl (c2)) rfl rfl ?_) | (refine ad_id ?_; first | refine AD.step _ _ _ _ _ rfl (opE_sound tbOK rfl) rfl rfl ?_ | refine AD.nil _ ?_ | refine AD.skip _ _ _ _ rfl rfl rfl ?_ | (refine ad_caseB true rfl rfl ?_ ?_; · (first | assumption | (simp <;> omega))) | (refine ad_caseB false rfl rfl ?_ ?_; · (first | assumption | (simp <;> omega))) | refine ad_case rfl rfl (fun _ => ?_) (fun _ => ?_)) | refine aw_seq ?_ | refine aw_region ?_ | refine aw_block ?_ | (refine aw_sh_cond ?_; first | refine aw_cond_true rfl ?_ | refine aw_cond_false rfl ?_ | (refine aw_condT rfl ?_ ?_; · (first | assumption | (simp <;> omega))) | (refine aw_condF rfl ?_ ?_; · (first | assumption | (simp <;> omega))) | refine aw_cond rfl (fun _ => ?_) (fun _ => ?_)) | refine aw_skip ?_ | refine aw_exit ?_ | refine aw_ret ?_ | refine aw_draw (by kernel_rfl) (by kernel_rfl) ?_)
        all_goals exact retq rfl rfl
      · rw [hwl] at c2
        have hk := kindP_eq (well_formed hwl) m.owner
        have c3 := This_call g m
        have c4 := ThisR_call g m
        have c5 := Args_call g m (by omega)
        have c6 := ArgsR_call g m (by omega)
        rw [hk, andB_one] at c3 c5
        generalize thisS (kindG g m.owner) (m.flags.tmod 2 != 0) m.owner = x at c3 c4 c5 c6
        have hte := tyEq_iff x.1 x.1
        have c7 := SameTypes_call (argsS x m.params) (argsS x m.params)
        simp only [decide_true] at hte c7
        repeat' (first | (refine ao_sh_call ?_; first | refine ao_q rfl (q_call rfl rfl (wakes15_call)) rfl rfl ?_ | refine ao_q rfl (q_call rfl rfl (c1)) rfl rfl ?_ | refine ao_q rfl (q_call rfl rfl (c2)) rfl rfl ?_ | refine ao_q rfl (q_call rfl rfl (c3)) rfl rfl ?_ | refine ao_q rfl (q_call rfl rfl (c4)) rfl rfl ?_ | refine ao_q rfl (q_call rfl rfl (c5)) rfl rfl ?_ | refine ao_q rfl (q_call rfl rfl (c6)) rfl rfl ?_ | refine ao_q rfl (q_call rfl rfl (c7)) rfl rfl ?_) | (refine ao_sh_store ?_; first | refine ao_store tbOK rfl rfl rfl rfl rfl rfl rfl rfl rfl ?_) | (refine ao_sh_alloc ?_; first | refine ao_alloc tbOK 0 rfl rfl rfl rfl rfl rfl rfl ?_ | refine ao_alloc tbOK 1 rfl rfl rfl rfl rfl rfl rfl ?_ | refine ao_alloc tbOK 2 rfl rfl rfl rfl rfl rfl rfl ?_ | refine ao_alloc tbOK 3 rfl rfl rfl rfl rfl rfl rfl ?_ | refine ao_alloc tbOK 4 rfl rfl rfl rfl rfl rfl rfl ?_ | refine ao_alloc tbOK 5 rfl rfl rfl rfl rfl rfl rfl ?_) | (refine ao_id ?_; first | refine ao_step tbOK rfl rfl rfl rfl ?_ | refine ao_nil ?_ | refine ao_skip rfl rfl rfl ?_ | (refine ao_caseB true rfl rfl ?_ ?_; · (first | assumption | (simp <;> omega))) | (refine ao_caseB false rfl rfl ?_ ?_; · (first | assumption | (simp <;> omega))) | refine ao_case rfl rfl (fun _ => ?_) (fun _ => ?_)) | (refine ad_sh_call ?_; first | refine AD.step _ _ _ _ _ rfl (q_call rfl rfl (wakes15_call)) rfl rfl ?_ | refine AD.step _ _ _ _ _ rfl (q_call rfl rfl (c1)) rfl rfl ?_ | refine AD.step _ _ _ _ _ rfl (q_call rfl rfl (c2)) rfl rfl ?_ | refine AD.step _ _ _ _ _ rfl (q_call rfl rfl (c3)) rfl rfl ?_ | refine AD.step _ _ _ _ _ rfl (q_call rfl rfl (c4)) rfl rfl ?_ | refine AD.step _ _ _ _ _ rfl (q_call rfl rfl (c5)) rfl rfl ?_ | refine AD.step _ _ _ _ _ rfl (q_call rfl rfl (c6)) rfl rfl ?_ | refine AD.step _ _ _ _ _ rfl (q_call rfl rfl (c7)) rfl rfl ?_) | (refine ad_id ?_; first | refine AD.step _ _ _ _ _ rfl (opE_sound tbOK rfl) rfl rfl ?_ | refine AD.nil _ ?_ | refine AD.skip _ _ _ _ rfl rfl rfl ?_ | (refine ad_caseB true rfl rfl ?_ ?_; · (first | assumption | (simp <;> omega))) | (refine ad_caseB false rfl rfl ?_ ?_; · (first | assumption | (simp <;> omega))) | refine ad_case rfl rfl (fun _ => ?_) (fun _ => ?_)) | refine aw_seq ?_ | refine aw_region ?_ | refine aw_block ?_ | (refine aw_sh_cond ?_; first | refine aw_cond_true rfl ?_ | refine aw_cond_false rfl ?_ | (refine aw_condT rfl ?_ ?_; · (first | assumption | (simp <;> omega))) | (refine aw_condF rfl ?_ ?_; · (first | assumption | (simp <;> omega))) | refine aw_cond rfl (fun _ => ?_) (fun _ => ?_)) | refine aw_skip ?_ | refine aw_exit ?_ | refine aw_ret ?_ | refine aw_draw (by kernel_rfl) (by kernel_rfl) ?_)
        all_goals first | exact retq rfl rfl | trace_state
  · rw [hl] at c1
    repeat' (first | (refine ao_sh_call ?_; first | refine ao_q rfl (q_call rfl rfl (wakes15_call)) rfl rfl ?_ | refine ao_q rfl (q_call rfl rfl (c1)) rfl rfl ?_) | (refine ao_sh_store ?_; first | refine ao_store tbOK rfl rfl rfl rfl rfl rfl rfl rfl rfl ?_) | (refine ao_sh_alloc ?_; first | refine ao_alloc tbOK 0 rfl rfl rfl rfl rfl rfl rfl ?_ | refine ao_alloc tbOK 1 rfl rfl rfl rfl rfl rfl rfl ?_ | refine ao_alloc tbOK 2 rfl rfl rfl rfl rfl rfl rfl ?_ | refine ao_alloc tbOK 3 rfl rfl rfl rfl rfl rfl rfl ?_ | refine ao_alloc tbOK 4 rfl rfl rfl rfl rfl rfl rfl ?_ | refine ao_alloc tbOK 5 rfl rfl rfl rfl rfl rfl rfl ?_) | (refine ao_id ?_; first | refine ao_step tbOK rfl rfl rfl rfl ?_ | refine ao_nil ?_ | refine ao_skip rfl rfl rfl ?_ | (refine ao_caseB true rfl rfl ?_ ?_; · (first | assumption | (simp <;> omega))) | (refine ao_caseB false rfl rfl ?_ ?_; · (first | assumption | (simp <;> omega))) | refine ao_case rfl rfl (fun _ => ?_) (fun _ => ?_)) | (refine ad_sh_call ?_; first | refine AD.step _ _ _ _ _ rfl (q_call rfl rfl (wakes15_call)) rfl rfl ?_ | refine AD.step _ _ _ _ _ rfl (q_call rfl rfl (c1)) rfl rfl ?_) | (refine ad_id ?_; first | refine AD.step _ _ _ _ _ rfl (opE_sound tbOK rfl) rfl rfl ?_ | refine AD.nil _ ?_ | refine AD.skip _ _ _ _ rfl rfl rfl ?_ | (refine ad_caseB true rfl rfl ?_ ?_; · (first | assumption | (simp <;> omega))) | (refine ad_caseB false rfl rfl ?_ ?_; · (first | assumption | (simp <;> omega))) | refine ad_case rfl rfl (fun _ => ?_) (fun _ => ?_)) | refine aw_seq ?_ | refine aw_region ?_ | refine aw_block ?_ | (refine aw_sh_cond ?_; first | refine aw_cond_true rfl ?_ | refine aw_cond_false rfl ?_ | (refine aw_condT rfl ?_ ?_; · (first | assumption | (simp <;> omega))) | (refine aw_condF rfl ?_ ?_; · (first | assumption | (simp <;> omega))) | refine aw_cond rfl (fun _ => ?_) (fun _ => ?_)) | refine aw_skip ?_ | refine aw_exit ?_ | refine aw_ret ?_ | refine aw_draw (by kernel_rfl) (by kernel_rfl) ?_)
    all_goals exact retq rfl rfl
end Go.Cg
