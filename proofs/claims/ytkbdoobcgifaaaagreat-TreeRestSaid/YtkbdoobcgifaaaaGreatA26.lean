/- A part of the walks by abstract values: no statement of its own. -/
import Derived.Test.YtkbdoobcgifaaaaGreatA24
import Derived.Test.YtkbdoobcgifaaaaGreatA13
namespace Go.Cg
open Go.Proofs

def thisS (k : Int) (st : Bool) (o : Int) : Ty × Bool := if k < 0 || st then (ty0, false) else if k == 1 then (⟨6, o, 0, true⟩, true) else (⟨5, o, 0, false⟩, true)
-- left out here: function state.This
-- left out here: function ref15.This
def argsS (x : Ty × Bool) (l : List Ty) : List Ty := (if x.2 then [x.1] else []) ++ l
-- left out here: function state.Args
-- left out here: function ref15.Args
theorem andB_one {n : Int} : andB n 1 = (n.tmod 2 != 0) := by
  have h1 : (BitVec.ofInt 64 n &&& BitVec.ofInt 64 1).toNat = (n % 2).toNat := by
    rw [BitVec.toNat_and]
    have : (BitVec.ofInt 64 1).toNat = 1 := by decide
    rw [this, Nat.and_one_is_mod, BitVec.toNat_ofInt]
    omega
  have h2 : n.tmod 2 = 0 ↔ n % 2 = 0 := by
    constructor
    · intro h; have := Int.dvd_of_tmod_eq_zero h; omega
    · intro h; exact Int.tmod_eq_zero_of_dvd (by omega)
  have h3 : andB n 1 = (IntKind.i64.wrap (((n % 2).toNat : Nat) : Int) != 0) := by
    unfold andB
    have : (BitVec.ofInt IntKind.i64.bits n &&& BitVec.ofInt IntKind.i64.bits 1).toNat = (n % 2).toNat := h1
    rw [this]
  rw [h3, wrap_in (by omega) (by omega)]
  by_cases h : n % 2 = 0
  · simp [h, h2.2 h]
  · have : ¬ n.tmod 2 = 0 := fun e => h (h2.1 e)
    have h5 : ((n % 2).toNat : Int) ≠ 0 := by omega
    rw [show ((((n % 2).toNat : Nat) : Int) != 0) = true from bne_iff_ne.2 h5, show (n.tmod 2 != 0) = true from bne_iff_ne.2 this]
theorem kindT_fin : ∀ n : Fin 32, kindT (n.val : Int) = kindR (n.val : Int) := by decide +kernel
theorem kindT_eq {f : Int} (h0 : 0 ≤ f) (h1 : f ≤ 31) : kindT f = kindR f := by
  have := kindT_fin ⟨f.toNat, by omega⟩
  simpa [Int.toNat_of_nonneg h0] using this
theorem well_formed {g : Img} (h : wellR g = true) : formedG g = true := by
  cases hf : formedG g with
  | true => rfl
  | false => simp [wellR, checkR, hf] at h
theorem kindP_eq {g : Img} (h : formedG g = true) (t : Int) : kindP g t = kindG g t := by
  unfold kindP kindG
  cases ht : typeAt g t with
  | none => rfl
  | some td =>
    have hm : td ∈ g.types := by
      unfold typeAt at ht
      split at ht
      · exact List.mem_of_getElem? ht
      · cases ht
    obtain ⟨h1, h2, _⟩ := formedT_facts ((formedG_bounds h).2.2.2 td hm)
    exact kindT_eq h1 h2

-- left out here: function law15.StateArgs
end Go.Cg
