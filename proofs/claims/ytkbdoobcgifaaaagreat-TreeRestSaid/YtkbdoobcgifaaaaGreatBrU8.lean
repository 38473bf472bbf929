/- A part of the walks by abstract values: no statement of its own. -/
import Derived.Test.YtkbdoobcgifaaaaGreatBrG
namespace Go.Cg
open Go.RowKit Go.Proofs
theorem rdU8 {H : Type} {enc : TypeId × Value → H} {w : World} : Rd enc Tryz.prog w 5 1 (fun ps => ∃ n, okU8 n ∧ ps = [.base (.int .u8 n)]) := rd_int Tryz.underlying5 (by kernel_rfl)
theorem okU8_in {n : Int} (h : okU8 n) : 0 ≤ n ∧ n ≤ 255 := by
  simp [okU8, Lit.wf, IntKind.has, IntKind.min, IntKind.max, IntKind.bits, IntKind.signed] at h; omega
end Go.Cg
