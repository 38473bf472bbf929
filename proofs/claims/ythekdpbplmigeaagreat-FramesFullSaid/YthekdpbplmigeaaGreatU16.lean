/- A part of the walks by abstract values: no statement of its own. -/
import Derived.Test.YthekdpbplmigeaaGreatU15
namespace Go.Cg
open Go.Proofs
abbrev u8 (n : Int) : PV := .base (.int .u8 n)
theorem FilterL_call (ws : List Int) (N : Int) (fs : List Fr) (hl : ws.length = 16396) (h64 : N ≤ 64) (hN : fs.length ≤ N) : ∃ ws' fs', ws'.length = 16396 ∧ fs'.length = fs.length + (if 0 < fs.length ∧ fs.length < N then 1 else 0) ∧
  ∀ us, ACallM Tryz.prog 25 [.box 30 0, .pv (pi (IntKind.i64.wrap ((fs.length : Int) - 1))), .pv (u64 5)] (skH ws 12 N fs ++ pinB us [0, 30]) (.pv (pb (decide (0 < fs.length ∧ fs.length < N)))) (skH ws' 12 N fs' ++ pinB us [0, 30]) := by
 rw [wrap_in (by omega) (by omega)]
 by_cases h : 0 < fs.length ∧ fs.length < N
 ·have hk : fs[fs.length - 1]? = some (fs[fs.length - 1]'(by omega)) := List.getElem?_eq_getElem _
  have := fun us => Filter_call ws 12 N 5 (fs.length - 1) fs _ h.2 h64 hk (by omega) (by omega) (by omega) us
  rw [show ((fs.length - 1 : Nat) : Int) = (fs.length : Int) - 1 by omega] at this
  rw [decide_eq_true h, if_pos h]
  exact ⟨_, _, by rw [pushW_len, zeroW_len, hl], by simp, this⟩
 ·rw [decide_eq_false h, if_neg h]
  exact ⟨ws, fs, hl, rfl, fun us => FilterNo_call ws 12 N _ 5 fs (by omega) us⟩
theorem EnterL_call (ws : List Int) (N m : Int) (fs : List Fr) (hl : ws.length = 16396) (h64 : N ≤ 64) : ∃ ws' fs', ws'.length = 16396 ∧ fs'.length = fs.length + (if fs.length < N then 1 else 0) ∧
  ∀ us, ACallM Tryz.prog 26 [.box 30 0, .pv (pi m), .pv (pi 2), .pv nilS] (skH ws 12 N fs ++ pinB us [0, 30]) (.pv (pb (decide (fs.length < N)))) (skH ws' 12 N fs' ++ pinB us [0, 30]) := by
 have key : ∀ {H H' : HEnv} {r : AV}, ACallM Tryz.prog 26 [.box 30 0, .pv (pi m), .pv (pi 2), .pv (.slc 1 (([] : List Int).map u64) true)] H r H' → ACallM Tryz.prog 26 [.box 30 0, .pv (pi m), .pv (pi 2), .pv nilS] H r H' := fun h => h.tells rfl fun k c c' hc hc' => by
  match k, hc, hc' with
  | 0, hc, hc' => simp at hc hc'; exact .inl (by rw [← hc, ← hc'])
  | 1, hc, hc' => simp at hc hc'; exact .inl (by rw [← hc, ← hc'])
  | 2, hc, hc' => simp at hc hc'; exact .inl (by rw [← hc, ← hc'])
  | 3, hc, hc' => simp at hc hc'; exact .inr ⟨_, _, hc.symm, hc'.symm, pt_nil 1 true⟩
  | k + 4, hc, hc' => simp at hc
 by_cases h : fs.length < N
 ·rw [decide_eq_true h, if_pos h]
  exact ⟨_, _, by rw [enterW_len, hl], by simp, fun us => key (Enter_call ws 12 N m 2 [] true fs h h64 (by simp) (by omega) (by omega) (by omega) (by omega) us)⟩
 ·rw [decide_eq_false h, if_neg h]
  exact ⟨ws, fs, hl, rfl, fun us => key (EnterNo_call ws 12 N m 2 [] true fs (by omega) us)⟩
theorem LeaveL_call (ws : List Int) (N : Int) (fs : List Fr) (h0 : 0 < fs.length) (h64 : fs.length ≤ 64) : ∃ fs', fs'.length + 1 = fs.length ∧ ∀ us, ACallM Tryz.prog 27 [.box 30 0] (skH ws 12 N fs ++ pinB us [0, 30]) (.pv (pb true)) (skH ws 12 N fs' ++ pinB us [0, 30]) := by
 have e : fs = fs.dropLast ++ [fs.getLast (by intro h; simp [h] at h0)] := (List.dropLast_concat_getLast _).symm
 refine ⟨fs.dropLast, by simp; omega, fun us => ?_⟩
 have := Leave_call ws 12 N fs.dropLast (fs.getLast (by intro h; simp [h] at h0)) (by simp; omega) us
 rw [← e] at this
 exact this
set_option maxHeartbeats 8000000 in
theorem FramesFull_call (lim : Int) (l : List Int) (h0 : 0 ≤ lim) (h1 : lim ≤ 255) : ACall Tryz.prog 4 [u8 lim, .slc 1 (l.map u8) false] (pb true) := by
 have cM := fun us => memory_call us
 have hW0 : (ws0 4 7).length = 16396 := by rw [ws0_len]; rfl
 generalize ws0 4 7 = W0 at *
 obtain ⟨N, hN⟩ : ∃ N, N = IntKind.i64.wrap (1 + Int.tmod (IntKind.i64.wrap lim) 64) := ⟨_, rfl⟩
 have hN1 : 1 ≤ N ∧ N ≤ 64 := by
  rw [hN, wrap_in (a := lim) (by omega) (by omega)]
  have := Int.tmod_nonneg 64 h0
  have := Int.tmod_lt_of_pos lim (show (0 : Int) < 64 by decide)
  rw [wrap_in (by omega) (by omega)]; omega
 have cN := fun us => NewS_call W0 12 N hN1.1 hN1.2 us
 refine acall_intro tbOK Tryz.func4 rfl (by kernel_rfl) Tryz.ntmps4 (by simp) _ rfl (fun hw gB hgB => ?_)
 by_cases hbig : 300 < l.length
 ·have hd : decide ((300 : Int) < (((l.map u8).length : Nat) : Int)) = true := decide_eq_true (by rw [List.length_map]; omega)
  repeat' (first | refine aw_condT rfl hd ?_ | (refine shC ?_; first | refine qC wakes21_call ?_) | refine sK ?_ | refine sC (fun _ => ?_) (fun _ => ?_) | fail)
  exact retq rfl rfl
 ·have hd : decide ((300 : Int) < (((l.map u8).length : Nat) : Int)) = false := decide_eq_false (by rw [List.length_map]; omega)
  repeat' (first | refine aw_condF rfl hd ?_ | (refine shC ?_; first | refine qC wakes21_call ?_) | (refine ao_sh_call ?_; first | refine ao_callM [] (memH W0 12 0) [] [(5, .pv (pi N)), (1, .pv (.slc 1 (l.map u8) false))] [] noLoneH rfl rfl rfl (by repeat (first | exact hsub_nil | refine hsub_cons rfl ?_)) (sub_i rfl hN.symm (sub_cons rfl sub_nil)) rfl rfl rfl cM ?_ | refine ao_callM (memH W0 12 0) (skH W0 12 N []) [] [(1, .pv (.slc 1 (l.map u8) false)), (5, .pv (pi N))] [0] noLoneH rfl rfl rfl (by repeat (first | exact hsub_nil | refine hsub_cons rfl ?_)) tS rfl rfl rfl cN ?_) | refine sK ?_ | refine sC (fun _ => ?_) (fun _ => ?_) | fail)
  refine aw_loop (fun x : Nat × List Int × List Fr => [(5, .pv (pi N)), (6, .box 30 0), (23, .pv (.slc 1 (l.map u8) false)), (24, .pv (pi l.length)), (25, .pv (pi x.1))]) (fun x => skH x.2.1 12 N x.2.2) (fun x => x.1 ≤ l.length ∧ x.2.1.length = 16396 ∧ x.2.2.length ≤ N) (fun x => l.length - x.1) (0, W0, []) ⟨by simp, hW0, by simp; omega⟩ tSU ⟨by repeat (first | exact hsub_nil | refine hsub_cons rfl ?_), rfl⟩ ?_
  rintro ⟨k, ws, fs⟩ ⟨hk, hws, hfs⟩
  dsimp only at hk hws hfs ⊢
  by_cases hlt : k < l.length
  ·have hdk : decide ((k : Int) < (l.length : Int)) = true := decide_eq_true (by omega)
   obtain ⟨x, hx⟩ : ∃ x, (l.map u8)[k]? = some (u8 x) := ⟨_, by rw [List.getElem?_map, List.getElem?_eq_getElem hlt]; rfl⟩
   obtain ⟨n, hn⟩ : ∃ n, n = fs.length := ⟨_, rfl⟩
   obtain ⟨w1, f1, g1, g2, c1⟩ := FilterL_call ws N fs hws hN1.2 hfs
   obtain ⟨w2, f2, g3, g4, c2⟩ := EnterL_call ws N (IntKind.i64.wrap x) fs hws hN1.2
   have cD := fun mv => Depth_call ws mv 12 N fs
   have cD1 := fun mv => Depth_call w1 mv 12 N f1
   have cD2 := fun mv => Depth_call w2 mv 12 N f2
   rw [← hn] at g2 g4 c1 c2 cD hfs
   have hsit : (n = 0) ∨ (0 < n ∧ (n : Int) < N) ∨ (0 < n ∧ (n : Int) = N) := by omega
   rcases hsit with h | ⟨h, h'⟩ | ⟨h, h'⟩
   ·subst h
    rw [decide_eq_false (by omega)] at c1
    rw [decide_eq_true (by omega)] at c2
    rw [if_neg (by omega)] at g2
    rw [if_pos (by omega)] at g4
    rw [g2] at cD1
    rw [g4] at cD2
    obtain ⟨f4, g5, c4⟩ := LeaveL_call w2 N f2 (by omega) (by omega)
    have e1 : decide (((0 : Nat) : Int) < N) = true := decide_eq_true (by omega)
    repeat' (first | refine ao_q (r := .pv (pi ((0 : Nat) : Int))) rfl (q_callW (args := fun ρ => [.ptr (stPV ws (ρ 8) 12 N fs) 0]) rfl (fun _ => rfl) (fun ρ => cD (ρ 8))) rfl rfl ?_ | refine AD.step _ _ _ (.pv (pi ((0 : Nat) : Int))) _ rfl (q_callW (args := fun ρ => [.ptr (stPV ws (ρ 8) 12 N fs) 0]) rfl (fun _ => rfl) (fun ρ => cD (ρ 8))) rfl rfl ?_ | refine ao_q (r := .pv (pi ((0 + 0 : Nat) : Int))) rfl (q_callW (args := fun ρ => [.ptr (stPV w1 (ρ 8) 12 N f1) 0]) rfl (fun _ => rfl) (fun ρ => cD1 (ρ 8))) rfl rfl ?_ | refine AD.step _ _ _ (.pv (pi ((0 + 0 : Nat) : Int))) _ rfl (q_callW (args := fun ρ => [.ptr (stPV w1 (ρ 8) 12 N f1) 0]) rfl (fun _ => rfl) (fun ρ => cD1 (ρ 8))) rfl rfl ?_ | refine ao_q (r := .pv (pi ((0 + 1 : Nat) : Int))) rfl (q_callW (args := fun ρ => [.ptr (stPV w2 (ρ 8) 12 N f2) 0]) rfl (fun _ => rfl) (fun ρ => cD2 (ρ 8))) rfl rfl ?_ | refine AD.step _ _ _ (.pv (pi ((0 + 1 : Nat) : Int))) _ rfl (q_callW (args := fun ρ => [.ptr (stPV w2 (ρ 8) 12 N f2) 0]) rfl (fun _ => rfl) (fun ρ => cD2 (ρ 8))) rfl rfl ?_ | (refine shX ?_; first | refine qX hx ?_) | (refine ao_sh_call ?_; first | refine ao_callM (skH ws 12 N fs) (skH w1 12 N f1) [] [(5, .pv (pi N)), (6, .box 30 0), (8, .pv (u8 x)), (9, .pv (pi ((0 : Nat) : Int))), (23, .pv (.slc 1 (l.map u8) false)), (24, .pv (pi l.length)), (25, .pv (pi k))] [0, 30] noLoneH rfl rfl rfl (by repeat (first | exact hsub_nil | refine hsub_cons rfl ?_)) tS rfl rfl rfl c1 ?_ | refine ao_callM (skH ws 12 N fs) (skH w2 12 N f2) [] [(5, .pv (pi N)), (6, .box 30 0), (8, .pv (u8 x)), (9, .pv (pi ((0 : Nat) : Int))), (23, .pv (.slc 1 (l.map u8) false)), (24, .pv (pi l.length)), (25, .pv (pi k))] [0, 30] noLoneH rfl rfl rfl (by repeat (first | exact hsub_nil | refine hsub_cons rfl ?_)) tS rfl rfl rfl c2 ?_ | (refine ao_callM (skH w2 12 N f2) (skH w2 12 N f4) [] [(5, .pv (pi N)), (6, .box 30 0), (23, .pv (.slc 1 (l.map u8) false)), (24, .pv (pi l.length)), (25, .pv (pi k)), (82, .pv (pb true))] [0, 30] noLoneH rfl rfl rfl ?_ tS rfl rfl rfl c4 ?_; · (repeat (first | exact hsub_nil | refine hsub_cons rfl ?_)))) | refine sK ?_ | refine sC (fun _ => ?_) (fun _ => ?_) | fail)
    all_goals first | (refine ⟨(k + 1, w1, f1), ⟨hlt, g1, by dsimp only; omega⟩, tD, tSU, ?_, rfl⟩; show HSub _ (skH w1 12 N f1); (repeat (first | exact hsub_nil | refine hsub_cons rfl ?_)); done) | (refine ⟨(k + 1, w2, f2), ⟨hlt, g3, by dsimp only; omega⟩, tD, tSU, ?_, rfl⟩; show HSub _ (skH w2 12 N f2); (repeat (first | exact hsub_nil | refine hsub_cons rfl ?_)); done) | (refine ⟨(k + 1, w2, f4), ⟨hlt, g3, by dsimp only; omega⟩, tD, tSU, ?_, rfl⟩; show HSub _ (skH w2 12 N f4); (repeat (first | exact hsub_nil | refine hsub_cons rfl ?_)); done)
   ·rw [decide_eq_true ⟨h, h'⟩] at c1
    rw [decide_eq_true h'] at c2
    rw [if_pos ⟨h, h'⟩] at g2
    rw [if_pos h'] at g4
    rw [g2] at cD1
    rw [g4] at cD2
    obtain ⟨f3, g6, c3⟩ := LeaveL_call w1 N f1 (by omega) (by omega)
    obtain ⟨f4, g5, c4⟩ := LeaveL_call w2 N f2 (by omega) (by omega)
    have e1 : decide ((n : Int) < N) = true := decide_eq_true h'
    have e2 : decide ((0 : Int) < (n : Int)) = true := decide_eq_true (by omega)
    have e3 : (((n + 1 : Nat) : Int) != IntKind.i64.wrap ((n : Int) + 1)) = false := by rw [wrap_in (by omega) (by omega)]; simp
    have e4 : decide ((0 : Int) < ((n + 1 : Nat) : Int)) = true := decide_eq_true (by omega)
    repeat' (first | refine ao_q (r := .pv (pi n)) rfl (q_callW (args := fun ρ => [.ptr (stPV ws (ρ 8) 12 N fs) 0]) rfl (fun _ => rfl) (fun ρ => cD (ρ 8))) rfl rfl ?_ | refine AD.step _ _ _ (.pv (pi n)) _ rfl (q_callW (args := fun ρ => [.ptr (stPV ws (ρ 8) 12 N fs) 0]) rfl (fun _ => rfl) (fun ρ => cD (ρ 8))) rfl rfl ?_ | refine ao_q (r := .pv (pi ((n + 1 : Nat) : Int))) rfl (q_callW (args := fun ρ => [.ptr (stPV w1 (ρ 8) 12 N f1) 0]) rfl (fun _ => rfl) (fun ρ => cD1 (ρ 8))) rfl rfl ?_ | refine AD.step _ _ _ (.pv (pi ((n + 1 : Nat) : Int))) _ rfl (q_callW (args := fun ρ => [.ptr (stPV w1 (ρ 8) 12 N f1) 0]) rfl (fun _ => rfl) (fun ρ => cD1 (ρ 8))) rfl rfl ?_ | refine ao_q (r := .pv (pi ((n + 1 : Nat) : Int))) rfl (q_callW (args := fun ρ => [.ptr (stPV w2 (ρ 8) 12 N f2) 0]) rfl (fun _ => rfl) (fun ρ => cD2 (ρ 8))) rfl rfl ?_ | refine AD.step _ _ _ (.pv (pi ((n + 1 : Nat) : Int))) _ rfl (q_callW (args := fun ρ => [.ptr (stPV w2 (ρ 8) 12 N f2) 0]) rfl (fun _ => rfl) (fun ρ => cD2 (ρ 8))) rfl rfl ?_ | (refine shX ?_; first | refine qX hx ?_) | (refine ao_sh_call ?_; first | refine ao_callM (skH ws 12 N fs) (skH w1 12 N f1) [] [(5, .pv (pi N)), (6, .box 30 0), (8, .pv (u8 x)), (9, .pv (pi n)), (23, .pv (.slc 1 (l.map u8) false)), (24, .pv (pi l.length)), (25, .pv (pi k))] [0, 30] noLoneH rfl rfl rfl (by repeat (first | exact hsub_nil | refine hsub_cons rfl ?_)) tS rfl rfl rfl c1 ?_ | refine ao_callM (skH ws 12 N fs) (skH w2 12 N f2) [] [(5, .pv (pi N)), (6, .box 30 0), (8, .pv (u8 x)), (9, .pv (pi n)), (23, .pv (.slc 1 (l.map u8) false)), (24, .pv (pi l.length)), (25, .pv (pi k))] [0, 30] noLoneH rfl rfl rfl (by repeat (first | exact hsub_nil | refine hsub_cons rfl ?_)) tS rfl rfl rfl c2 ?_ | (refine ao_callM (skH w1 12 N f1) (skH w1 12 N f3) [] [(5, .pv (pi N)), (6, .box 30 0), (23, .pv (.slc 1 (l.map u8) false)), (24, .pv (pi l.length)), (25, .pv (pi k)), (82, .pv (pb true))] [0, 30] noLoneH rfl rfl rfl ?_ tS rfl rfl rfl c3 ?_; · (repeat (first | exact hsub_nil | refine hsub_cons rfl ?_))) | (refine ao_callM (skH w2 12 N f2) (skH w2 12 N f4) [] [(5, .pv (pi N)), (6, .box 30 0), (23, .pv (.slc 1 (l.map u8) false)), (24, .pv (pi l.length)), (25, .pv (pi k)), (82, .pv (pb true))] [0, 30] noLoneH rfl rfl rfl ?_ tS rfl rfl rfl c4 ?_; · (repeat (first | exact hsub_nil | refine hsub_cons rfl ?_)))) | refine sK ?_ | refine sC (fun _ => ?_) (fun _ => ?_) | fail)
    all_goals first | (refine ⟨(k + 1, w1, f1), ⟨hlt, g1, by dsimp only; omega⟩, tD, tSU, ?_, rfl⟩; show HSub _ (skH w1 12 N f1); (repeat (first | exact hsub_nil | refine hsub_cons rfl ?_)); done) | (refine ⟨(k + 1, w2, f2), ⟨hlt, g3, by dsimp only; omega⟩, tD, tSU, ?_, rfl⟩; show HSub _ (skH w2 12 N f2); (repeat (first | exact hsub_nil | refine hsub_cons rfl ?_)); done) | (refine ⟨(k + 1, w1, f3), ⟨hlt, g1, by dsimp only; omega⟩, tD, tSU, ?_, rfl⟩; show HSub _ (skH w1 12 N f3); (repeat (first | exact hsub_nil | refine hsub_cons rfl ?_)); done) | (refine ⟨(k + 1, w2, f4), ⟨hlt, g3, by dsimp only; omega⟩, tD, tSU, ?_, rfl⟩; show HSub _ (skH w2 12 N f4); (repeat (first | exact hsub_nil | refine hsub_cons rfl ?_)); done)
   ·have hnot : ¬(n : Int) < N := by omega
    rw [decide_eq_false (fun hh => hnot hh.2)] at c1
    rw [decide_eq_false hnot] at c2
    rw [if_neg (fun hh => hnot hh.2), Nat.add_zero] at g2
    rw [if_neg hnot, Nat.add_zero] at g4
    rw [g2] at cD1
    rw [g4] at cD2
    obtain ⟨f3, g6, c3⟩ := LeaveL_call w1 N f1 (by omega) (by omega)
    obtain ⟨f4, g5, c4⟩ := LeaveL_call w2 N f2 (by omega) (by omega)
    have e1 : decide ((n : Int) < N) = false := decide_eq_false hnot
    have e2 : decide ((0 : Int) < (n : Int)) = true := decide_eq_true (by omega)
    have e3 : ((n : Int) != (n : Int)) = false := by simp
    repeat' (first | refine ao_q (r := .pv (pi n)) rfl (q_callW (args := fun ρ => [.ptr (stPV ws (ρ 8) 12 N fs) 0]) rfl (fun _ => rfl) (fun ρ => cD (ρ 8))) rfl rfl ?_ | refine AD.step _ _ _ (.pv (pi n)) _ rfl (q_callW (args := fun ρ => [.ptr (stPV ws (ρ 8) 12 N fs) 0]) rfl (fun _ => rfl) (fun ρ => cD (ρ 8))) rfl rfl ?_ | refine ao_q (r := .pv (pi n)) rfl (q_callW (args := fun ρ => [.ptr (stPV w1 (ρ 8) 12 N f1) 0]) rfl (fun _ => rfl) (fun ρ => cD1 (ρ 8))) rfl rfl ?_ | refine AD.step _ _ _ (.pv (pi n)) _ rfl (q_callW (args := fun ρ => [.ptr (stPV w1 (ρ 8) 12 N f1) 0]) rfl (fun _ => rfl) (fun ρ => cD1 (ρ 8))) rfl rfl ?_ | refine ao_q (r := .pv (pi n)) rfl (q_callW (args := fun ρ => [.ptr (stPV w2 (ρ 8) 12 N f2) 0]) rfl (fun _ => rfl) (fun ρ => cD2 (ρ 8))) rfl rfl ?_ | refine AD.step _ _ _ (.pv (pi n)) _ rfl (q_callW (args := fun ρ => [.ptr (stPV w2 (ρ 8) 12 N f2) 0]) rfl (fun _ => rfl) (fun ρ => cD2 (ρ 8))) rfl rfl ?_ | (refine shX ?_; first | refine qX hx ?_) | (refine ao_sh_call ?_; first | refine ao_callM (skH ws 12 N fs) (skH w1 12 N f1) [] [(5, .pv (pi N)), (6, .box 30 0), (8, .pv (u8 x)), (9, .pv (pi n)), (23, .pv (.slc 1 (l.map u8) false)), (24, .pv (pi l.length)), (25, .pv (pi k))] [0, 30] noLoneH rfl rfl rfl (by repeat (first | exact hsub_nil | refine hsub_cons rfl ?_)) tS rfl rfl rfl c1 ?_ | refine ao_callM (skH ws 12 N fs) (skH w2 12 N f2) [] [(5, .pv (pi N)), (6, .box 30 0), (8, .pv (u8 x)), (9, .pv (pi n)), (23, .pv (.slc 1 (l.map u8) false)), (24, .pv (pi l.length)), (25, .pv (pi k))] [0, 30] noLoneH rfl rfl rfl (by repeat (first | exact hsub_nil | refine hsub_cons rfl ?_)) tS rfl rfl rfl c2 ?_ | (refine ao_callM (skH w1 12 N f1) (skH w1 12 N f3) [] [(5, .pv (pi N)), (6, .box 30 0), (23, .pv (.slc 1 (l.map u8) false)), (24, .pv (pi l.length)), (25, .pv (pi k)), (82, .pv (pb true))] [0, 30] noLoneH rfl rfl rfl ?_ tS rfl rfl rfl c3 ?_; · (repeat (first | exact hsub_nil | refine hsub_cons rfl ?_))) | (refine ao_callM (skH w2 12 N f2) (skH w2 12 N f4) [] [(5, .pv (pi N)), (6, .box 30 0), (23, .pv (.slc 1 (l.map u8) false)), (24, .pv (pi l.length)), (25, .pv (pi k)), (82, .pv (pb true))] [0, 30] noLoneH rfl rfl rfl ?_ tS rfl rfl rfl c4 ?_; · (repeat (first | exact hsub_nil | refine hsub_cons rfl ?_)))) | refine sK ?_ | refine sC (fun _ => ?_) (fun _ => ?_) | fail)
    all_goals first | (refine ⟨(k + 1, w1, f1), ⟨hlt, g1, by dsimp only; omega⟩, tD, tSU, ?_, rfl⟩; show HSub _ (skH w1 12 N f1); (repeat (first | exact hsub_nil | refine hsub_cons rfl ?_)); done) | (refine ⟨(k + 1, w2, f2), ⟨hlt, g3, by dsimp only; omega⟩, tD, tSU, ?_, rfl⟩; show HSub _ (skH w2 12 N f2); (repeat (first | exact hsub_nil | refine hsub_cons rfl ?_)); done) | (refine ⟨(k + 1, w1, f3), ⟨hlt, g1, by dsimp only; omega⟩, tD, tSU, ?_, rfl⟩; show HSub _ (skH w1 12 N f3); (repeat (first | exact hsub_nil | refine hsub_cons rfl ?_)); done) | (refine ⟨(k + 1, w2, f4), ⟨hlt, g3, by dsimp only; omega⟩, tD, tSU, ?_, rfl⟩; show HSub _ (skH w2 12 N f4); (repeat (first | exact hsub_nil | refine hsub_cons rfl ?_)); done)
  ·have hk2 : k = l.length := by omega
   subst hk2
   have hdk : decide ((l.length : Int) < (l.length : Int)) = false := decide_eq_false (by omega)
   have cD := fun mv => Depth_call ws mv 12 N fs
   have e1 : decide ((fs.length : Int) ≤ N) = true := decide_eq_true hfs
   repeat' (first | refine ao_q (r := .pv (pi _)) rfl (q_callW (args := fun ρ => [.ptr (stPV ws (ρ 8) 12 N fs) 0]) rfl (fun _ => rfl) (fun ρ => cD (ρ 8))) rfl rfl ?_ | refine AD.step _ _ _ (.pv (pi _)) _ rfl (q_callW (args := fun ρ => [.ptr (stPV ws (ρ 8) 12 N fs) 0]) rfl (fun _ => rfl) (fun ρ => cD (ρ 8))) rfl rfl ?_ | refine sK ?_ | refine sC (fun _ => ?_) (fun _ => ?_) | fail)
   exact retq rfl (by simp only [retPV, e1])
end Go.Cg
