/- A part of the walks by abstract values: no statement of its own. -/
import Derived.Test.YtkbdoobcgifaaaaTab
import Derived.Test.YtkbdoobcgifaaaaG4
import Derived.Shelf.RegionOpenPlain
import Derived.WalkKit
import Derived.Lib.Walk
import Derived.Lib.SliceRun
import Derived.Lib.AppendZerosOnto
set_option linter.unusedVariables false
set_option linter.unusedSimpArgs false
namespace Go.Cg
open Go.Proofs Go.Shelf Go.RowKit Go.Lib

theorem info28 : ∃ i, Try.prog.info? 28 = some i ∧ i.zero = some (.agg #[.int .i64 0, .int .i64 0, .int .i64 0, .bool false]) ∧ i.size = 4 ∧ i.bytes = 32 := by
  obtain ⟨i, h1, h2, h3, h4, _⟩ := tab_info (t := 28) tbOK rfl
  exact ⟨i, h1, h4, h2, h3⟩
def zTy : Value := .agg #[.int .i64 0, .int .i64 0, .int .i64 0, .bool false]
set_option maxHeartbeats 4000000 in
set_option maxRecDepth 100000 in
theorem Grow_pos (n : Nat) (hn0 : 0 < n) (hn : n ≤ 1000) (w : World) :
    Calls Try.prog 53 #[.slice none 0 0, .int .i64 n] w fun e w' => e = .returned (.slice (some ⟨w.heap.size, 0, none⟩) 0 (grownCap w n 0 28)) ∧
      w' = w.drew.alloc (.cells (Builtin.zeroCells zTy.cells n ++ Builtin.zeroCells zTy.cells (grownCap w n 0 28 - n)) 28) := by
  obtain ⟨i0, hi0, hz0, hs0, hb0⟩ := info28
  have u40 := run_underlying Try.underlying40 
  have u3 := run_underlying Try.underlying3
  have h1 : ¬ ((n : Int) < 0) := by omega
  have h2 : wrap64 ((0 : Int) - 0) = 0 := by unfold wrap64; omega
  have h3 : wrap64 ((n : Int) - 0) = (n : Int) := by unfold wrap64; omega
  have h4 : (n : Int) > 0 := by omega
  have z28 : ∀ w, (Go.sizeOf 28).run Try.prog w = .ok i0.size w := fun w => by simp [Go.sizeOf, typeInfo, hi0]
  have hold : (Builtin.firstCells i0.size 0 (.slice none 0 0)).run Try.prog w.drew = .ok #[] w.drew := run_firstCells_none w.drew i0.size 0 0 0
  have hrz : ∀ ty, (Builtin.append_ #[40, 3] ty #[.slice none 0 0, .int .i64 (n : Int)]).run Try.prog w =
      .ok (.slice (some ⟨w.heap.size, 0, none⟩) n (grownCap w n 0 28)) (w.drew.alloc (.cells (Builtin.zeroCells zTy.cells n ++ Builtin.zeroCells zTy.cells (grownCap w n 0 28 - n)) 28)) := fun ty => by
    have h := Lib.run_append_grow_zeros w 40 3 ty 28 i0 zTy .i64 .i64 Try.underlying40 Try.underlying3 hi0 hz0 none 0 0 [] hold n hn0 (by omega) (by omega) (by omega)
      (by rw [hb0]; omega)
      (by rw [Nat.zero_add]; exact growslice_fits hn0 (by rw [hb0]; omega))
    rw [Nat.zero_add] at h
    simpa using h
  have hGn : n ≤ grownCap w n 0 28 := grownCap_ge w _ _ _
  obtain ⟨G, hG⟩ : ∃ G, G = grownCap w n 0 28 := ⟨_, rfl⟩
  rw [← hG] at hrz hGn ⊢
  have hG63 : G ≤ 9223372036854775807 := by
    have := grownCap_le_maxLen w n 0 28 (by unfold maxLen; omega)
    rw [← hG] at this
    unfold maxLen at this
    omega
  clear hold hG
  go_enter Try.func53, Try.ntmps53
  go_wp2_with (at_builtin; refine Lib.wpList_append_run _ rfl _ _ _ _ rfl _ _ rfl rfl _ _ (hrz _) ?_)
  all_goals (go_ret; exact ⟨rfl, rfl⟩)
set_option maxHeartbeats 4000000 in
theorem Grow_zero (w : World) : Calls Try.prog 53 #[.slice none 0 0, .int .i64 0] w fun e w' => e = .returned (.slice none 0 0) ∧ w' = w := by
  have u40 := run_underlying Try.underlying40 
  have u3 := run_underlying Try.underlying3
  go_enter Try.func53, Try.ntmps53
  go_wp2
  go_ret
  exact ⟨rfl, rfl⟩

theorem Grow_call (m : Int) (h0 : 0 ≤ m) (h1 : m ≤ 1000) : ACallR Try.prog 53 [.base (.slice none 0 0), pi m] 28 4 [] := by
  refine ⟨⟨_, Try.func53, rfl, by kernel_rfl⟩, fun K w vs hl hv => ?_⟩
  obtain ⟨v0, vs0, rfl, r0, hv0⟩ := hv.cons_inv
  obtain ⟨v1, vs1, rfl, r1, hv1⟩ := hv0.cons_inv
  obtain rfl := hv1.nil_inv
  cases r0
  cases r1
  obtain ⟨n, rfl⟩ := Int.eq_ofNat_of_zero_le h0
  by_cases hn : n = 0
  · subst hn
    refine (Grow_zero w).mono ?_
    rintro e w' ⟨rfl, rfl⟩
    exact ⟨_, K, [], rfl, .refl hl, World.ownsRow_nil _ _ _ _, fun i e h => by simp at h, by simp [Value.ownBlock]⟩
  · refine (Grow_pos n (by omega) (by omega) w).mono ?_
    rintro e w' ⟨rfl, rfl⟩
    have hev : Evo K K w (w.drew.alloc (.cells (Builtin.zeroCells zTy.cells n ++ Builtin.zeroCells zTy.cells (grownCap w n 0 28 - n)) 28)) :=
      (Evo.refl hl).drew.trans ⟨(Below.refl _ _).alloc (Nat.le_refl _) _, fun _ _ h => h, fun _ _ h => .inl h, fun b o h => by have := hl b o h; simp; omega⟩
    have hG := grownCap_ge w n 0 28
    refine ⟨_, K, [], rfl, hev, ?_, fun i e h => by simp at h, ?_⟩
    · refine ⟨rfl, .inr ⟨w.heap.size, grownCap w n 0 28, _, rfl, Nat.le_refl _, by simpa using heap_alloc_new w.drew _, by simp, grownCap_le_maxLen w n 0 28 (by unfold maxLen; omega), ?_, rfl⟩⟩
      simp [size_zeroCells, zTy, Value.cells]
      omega
    · intro b hb o
      simp [Value.ownBlock] at hb
      subst hb
      refine ⟨fun h => ?_, fun h => by simp at h⟩
      have := hl _ _ h
      omega
end Go.Cg
