/- A part of the walks by abstract values: no statement of its own. -/
import Derived.Test.YtkbdoobcgifaaaaA11
namespace Go.Cg
open Go.Proofs
theorem prel_full {K : KK} {w : World} {sz : Nat} {es : List PV} {v : Value} (h : PRel K w (.slc sz es true) v) : PRel K w (.slc sz es false) v := by
  have := tells_full sz es true K w (fun _ => undef) [] v (.pv _ _ h)
  cases this with
  | pv _ _ h => exact h
theorem acall_full2 {P : Program} {f : FuncId} {p : PV} {sz : Nat} {es : List PV} {r : PV} (h : ACall P f [p, .slc sz es false] r) : ACall P f [p, .slc sz es true] r := by
  refine ⟨h.stands, fun K w vs hl hv => h.calls K w vs hl ?_⟩
  obtain ⟨v0, vs0, rfl, r0, hv0⟩ := hv.cons_inv
  obtain ⟨v1, vs1, rfl, r1, hv1⟩ := hv0.cons_inv
  obtain rfl := hv1.nil_inv
  exact .cons r0 (.cons (prel_full r1) .nil)
theorem same1 : ACall Try.prog 22 [tys [tB], .slc 4 [tyPV tB] true] (pb true) := acall_full2 (SameTypes_call [tB] [tB])
set_option maxHeartbeats 400000 in
theorem wakes15_call : ACall Try.prog 19 [] (pb true) := by
  refine acall_intro tbOK Try.func19 rfl (by kernel_rfl) Try.ntmps19 (by simp) _ rfl (fun hw gB => ?_)
  refine aw_seq ?_
  refine aw_region ?_
  refine ao_step tbOK rfl rfl rfl rfl ?_
  refine ao_nil ?_
  refine aw_seq ?_
  refine aw_region ?_
  refine ao_step tbOK rfl rfl rfl rfl ?_
  refine ao_step tbOK rfl rfl rfl rfl ?_
  refine ao_alloc tbOK 0 rfl rfl rfl rfl rfl rfl rfl ?_
  refine ao_alloc tbOK 1 rfl rfl rfl rfl rfl rfl rfl ?_
  refine ao_store tbOK rfl rfl rfl rfl rfl rfl rfl rfl rfl ?_
  refine ao_store tbOK rfl rfl rfl rfl rfl rfl rfl rfl rfl ?_
  refine ao_nil ?_
  refine aw_seq ?_
  refine aw_region ?_
  iterate 6 refine ao_step tbOK rfl rfl rfl rfl ?_
  refine ao_q rfl (q_call (args := [img0, .slc 4 [tyPV tA, tyPV tB] true, .slc 4 [tyPV tB] true]) rfl rfl SMergeBad_call) rfl rfl ?_
  iterate 5 refine ao_step tbOK rfl rfl rfl rfl ?_
  refine ao_nil ?_
  refine aw_seq ?_
  refine aw_region ?_
  iterate 5 refine ao_step tbOK rfl rfl rfl rfl ?_
  refine ao_q rfl (q_call (args := [img0, .slc 4 [tyPV tA] true, .slc 4 [tyPV tB] true]) rfl rfl SMerge_call) rfl rfl ?_
  iterate 5 refine ao_step tbOK rfl rfl rfl rfl ?_
  refine ao_nil ?_
  refine aw_seq ?_
  refine aw_region ?_
  iterate 9 refine ao_step tbOK rfl rfl rfl rfl ?_
  iterate 1 refine ao_step tbOK rfl rfl rfl rfl ?_
  refine ao_q rfl (q_call (args := [tys [tB], .slc 4 [tyPV tB] true]) rfl rfl same1) rfl rfl ?_
  iterate 2 refine ao_step tbOK rfl rfl rfl rfl ?_
  refine ao_nil ?_
  refine aw_ret ?_
  exact retq rfl rfl
end Go.Cg
