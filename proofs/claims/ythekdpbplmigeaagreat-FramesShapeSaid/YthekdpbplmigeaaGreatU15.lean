/- A part of the walks by abstract values: no statement of its own. -/
import Derived.Test.YthekdpbplmigeaaGreatU14
import Derived.Test.YthekdpbplmigeaaGreatU4
import Derived.OpenShut
import Derived.Deep.Slices
import Derived.ProofKit
import Derived.Test.YthekdpbplmigeaaGreatRows
import Derived.Test.YthekdpbplmigeaaGreatU8
import Derived.JoinedOf
import Derived.Test.YthekdpbplmigeaaGreatChecked
namespace Go.Cg
open Go.Proofs
def putW (ws : List Int) (a x : Int) : List Int := if 0 < a ∧ a < ws.length then ws.set a.toNat x else ws
def getW (ws : List Int) (a : Int) : Int := if a < ws.length then ws.getD a.toNat 0 else 0
theorem putW_len (ws : List Int) (a x : Int) : (putW ws a x).length = ws.length := by
 unfold putW; split <;> simp
set_option maxHeartbeats 2000000 in
theorem Put_call (ws : List Int) (fr u a x : Int) (_h0 : 0 ≤ a) (hl : ws.length ≤ 100000) (us : Nat → Value) : ACallM Tryz.prog 70 [.box 0 0, .pv (u64 a), .pv (u64 x)] (memH ws fr u ++ pinB us [0]) (.pv (.tup [])) (memH (putW ws a x) fr u ++ pinB us [0]) := by
 have hw : IntKind.u64.wrap (((ws.map u64).length : Nat) : Int) = ws.length := by rw [List.length_map, wrapU_in (by omega) (by omega)]
 by_cases h : 0 < a ∧ a < ws.length
 ·have hd1 : decide (0 < a) = true := decide_eq_true h.1
  have hd2 : decide (a < IntKind.u64.wrap (((ws.map u64).length : Nat) : Int)) = true := decide_eq_true (by rw [hw]; exact h.2)
  have hil : a.toNat < (ws.map u64).length := by rw [List.length_map]; omega
  have hpp : (ws.map u64)[a.toNat]? = some (u64 (ws[a.toNat]'(by omega))) := by rw [List.getElem?_map, List.getElem?_eq_getElem (by omega)]; rfl
  refine acallM_intro tbOK Tryz.func70 rfl (by kernel_rfl) Tryz.ntmps70 (by simp) _ rfl (fun gB hw1 => ?_)
  repeat' (first | refine ao_q rfl (q_notnil0 (b := false) rfl Tryz.underlying31 rfl rfl) rfl rfl ?_ | refine sM ?_ | (refine shX ?_; first | refine ao_q rfl (q_mindex (k := a.toNat) tbOK rfl rfl rfl rfl rfl rfl rfl (by omega) hil) rfl rfl ?_ | refine AD.step _ _ _ _ _ rfl (q_mindex (k := a.toNat) tbOK rfl rfl rfl rfl rfl rfl rfl (by omega) hil) rfl rfl ?_) | (refine ao_sh_store ?_; first | refine ao_mstore (k := a.toNat) (j := 0) tbOK rfl rfl rfl rfl rfl hpp rfl rfl rfl rfl rfl ?_) | refine sK ?_ | refine sC (fun _ => ?_) (fun _ => ?_) | fail)
  exact ⟨.inl rfl, .inl ⟨[], rfl, rfl, ⟨hsub_cons rfl (hsub_m rfl (by rw [putW, if_pos h, List.map_set]) (by repeat (first | exact hsub_nil | refine hsub_cons rfl ?_))), rfl⟩⟩⟩
 ·have hp : putW ws a x = ws := by rw [putW, if_neg h]
  rw [hp]
  by_cases h1 : 0 < a
  ·have hd1 : decide (0 < a) = true := decide_eq_true h1
   have hd2 : decide (a < IntKind.u64.wrap (((ws.map u64).length : Nat) : Int)) = false := decide_eq_false (by rw [hw]; omega)
   refine acallM_intro tbOK Tryz.func70 rfl (by kernel_rfl) Tryz.ntmps70 (by simp) _ rfl (fun gB hw1 => ?_)
   repeat' (first | refine ao_q rfl (q_notnil0 (b := false) rfl Tryz.underlying31 rfl rfl) rfl rfl ?_ | refine sM ?_ | refine sK ?_ | refine sC (fun _ => ?_) (fun _ => ?_) | fail)
   exact ⟨.inl rfl, .inl ⟨[], rfl, rfl, ⟨by repeat (first | exact hsub_nil | refine hsub_cons rfl ?_), rfl⟩⟩⟩
  ·have hd1 : decide (0 < a) = false := decide_eq_false h1
   refine acallM_intro tbOK Tryz.func70 rfl (by kernel_rfl) Tryz.ntmps70 (by simp) _ rfl (fun gB hw1 => ?_)
   repeat' (first | refine ao_q rfl (q_notnil0 (b := false) rfl Tryz.underlying31 rfl rfl) rfl rfl ?_ | refine sM ?_ | refine sK ?_ | refine sC (fun _ => ?_) (fun _ => ?_) | fail)
   exact ⟨.inl rfl, .inl ⟨[], rfl, rfl, ⟨by repeat (first | exact hsub_nil | refine hsub_cons rfl ?_), rfl⟩⟩⟩
set_option maxHeartbeats 1000000 in
theorem Get2_call (ws : List Int) (mv : Value) (fr u a : Int) (h0 : 0 ≤ a) (hl : ws.length ≤ 100000) : ACall Tryz.prog 59 [.ptr (memPV ws mv fr u) 0, u64 a] (u64 (getW ws a)) := by
 have hw : IntKind.u64.wrap (((ws.map u64).length : Nat) : Int) = ws.length := by rw [List.length_map, wrapU_in (by omega) (by omega)]
 by_cases h : a < ws.length
 ·have := Get_call ws mv fr u a.toNat (by omega) hl
  rw [getW, if_pos h, List.getD_eq_getElem?_getD, List.getElem?_eq_getElem (by omega)]
  rw [show ((a.toNat : Nat) : Int) = a by omega] at this
  exact this
 ·rw [getW, if_neg h]
  have hd : decide (IntKind.u64.wrap (((ws.map u64).length : Nat) : Int) ≤ a) = true := decide_eq_true (by rw [hw]; omega)
  refine acall_intro tbOK Tryz.func59 rfl (by kernel_rfl) Tryz.ntmps59 (by simp) _ rfl (fun hw gB hgB => ?_)
  repeat' (first | refine ao_q rfl (q_isnil (b := false) rfl Tryz.underlying31 rfl rfl) rfl rfl ?_ | refine sK ?_ | refine sC (fun _ => ?_) (fun _ => ?_) | fail)
  exact retq rfl rfl
structure Fr where
 method : Int
 at_ : Int
 base : Int
 eval : Int
 size : Int
 deriving Inhabited
def frPV (f : Fr) : PV := .agg [pi f.method, pi f.at_, u64 f.base, u64 f.eval, pi f.size]
abbrev skH (ws : List Int) (fr lim : Int) (fs : List Fr) : HEnv := [(0, .cell (.agg [.own 7, .pv nilS, .pv nilS, .own 8, .pv (u64 1), .pv (u64 8), .pv (u64 fr), .pv (pi 0)])), (7, .mrow 33 1 (ws.map u64)), (8, .obj (MapSet Tryz.prog 36 3 [])), (30, .cell (.agg [.box 0 0, .pv (pi lim), .own 37])), (37, .mrow 135 5 (fs.map frPV))]
abbrev stPV (ws : List Int) (mv : Value) (fr lim : Int) (fs : List Fr) : PV := .agg [.ptr (memPV ws mv fr 0) 0, pi lim, .slc 5 (fs.map frPV) false]
set_option maxHeartbeats 1000000 in
theorem Depth_call (ws : List Int) (mv : Value) (fr lim : Int) (fs : List Fr) : ACall Tryz.prog 24 [.ptr (stPV ws mv fr lim fs) 0] (pi fs.length) := by
 refine acall_intro tbOK Tryz.func24 rfl (by kernel_rfl) Tryz.ntmps24 (by simp) _ rfl (fun hw gB hgB => ?_)
 repeat' (first | refine ao_q rfl (q_isnil (b := false) rfl Tryz.underlying44 rfl rfl) rfl rfl ?_ | refine sA ?_ | refine sC (fun _ => ?_) (fun _ => ?_) | fail)
 exact retq rfl (by rw [List.length_map]; rfl)
set_option maxHeartbeats 1000000 in
theorem full_call (ws : List Int) (mv : Value) (fr lim : Int) (fs : List Fr) : ACall Tryz.prog 71 [.ptr (stPV ws mv fr lim fs) 0] (pb (decide (lim ≤ (fs.length : Int)))) := by
 refine acall_intro tbOK Tryz.func71 rfl (by kernel_rfl) Tryz.ntmps71 (by simp) _ rfl (fun hw gB hgB => ?_)
 repeat' (first | refine AD.step _ _ _ _ _ rfl (q_isnil (b := false) rfl Tryz.underlying44 rfl rfl) rfl rfl ?_ | refine sA ?_ | refine sC (fun _ => ?_) (fun _ => ?_) | fail)
 exact retq rfl (by rw [List.length_map]; rfl)
set_option maxHeartbeats 1000000 in
theorem thereK_call (ws : List Int) (mv : Value) (fr lim k : Int) (fs : List Fr) : ACall Tryz.prog 72 [.ptr (stPV ws mv fr lim fs) 0, pi k] (pb (decide (0 ≤ k ∧ k < (fs.length : Int)))) := by
 by_cases h0 : 0 ≤ k
 ·have hd : decide (0 ≤ k) = true := decide_eq_true h0
  refine acall_intro tbOK Tryz.func72 rfl (by kernel_rfl) Tryz.ntmps72 (by simp) _ rfl (fun hw gB hgB => ?_)
  repeat' (first | refine ao_q rfl (q_notnil0 (b := false) rfl Tryz.underlying44 rfl rfl) rfl rfl ?_ | refine sK ?_ | refine sC (fun _ => ?_) (fun _ => ?_) | fail)
  exact retq rfl (by simp only [List.length_map, h0, true_and]; rfl)
 ·have hd : decide (0 ≤ k) = false := decide_eq_false h0
  refine acall_intro tbOK Tryz.func72 rfl (by kernel_rfl) Tryz.ntmps72 (by simp) _ rfl (fun hw gB hgB => ?_)
  repeat' (first | refine ao_q rfl (q_notnil0 (b := false) rfl Tryz.underlying44 rfl rfl) rfl rfl ?_ | refine sK ?_ | refine sC (fun _ => ?_) (fun _ => ?_) | fail)
  exact retq rfl (by simp only [h0, false_and, decide_false]; rfl)
set_option maxHeartbeats 1000000 in
theorem start_call (ws : List Int) (mv : Value) (fr lim : Int) (fs : List Fr) (h0 : 0 ≤ fr) (h1 : fr ≤ 10000) (hf : fs.length ≤ 64) : ACall Tryz.prog 73 [.ptr (stPV ws mv fr lim fs) 0] (u64 (fr + 256 * fs.length)) := by
 refine acall_intro tbOK Tryz.func73 rfl (by kernel_rfl) Tryz.ntmps73 (by simp) _ rfl (fun hw gB hgB => ?_)
 repeat' (first | (refine shC ?_; first | refine qC (Frames_call ws mv fr 0) ?_) | refine sA ?_ | refine sC (fun _ => ?_) (fun _ => ?_) | fail)
 exact retq rfl (by
  simp only [retPV, List.length_map]
  rw [wrapU_in (a := (fs.length : Int)) (by omega) (by omega), wrapU_in (a := (fs.length : Int) * 256) (by omega) (by omega), wrapU_in (by omega) (by omega)]
  congr 2; omega)
end Go.Cg
namespace Go.Cg
open Go.Proofs
theorem wrapU_nonneg (x : Int) : 0 ≤ IntKind.u64.wrap x := by
 unfold IntKind.wrap
 simp only [IntKind.bits, IntKind.signed]
 simp
 omega
set_option maxHeartbeats 1000000 in
theorem memory_call (_us : Nat → Value) : ACallM Tryz.prog 23 [] [] (.box 0 0) (memH (ws0 4 7) 12 0) := by
 have cN := fun (_ : Nat → Value) => New_call 4 (by decide) (by decide)
 rw [show (8 + (4 : Int)) = 12 from rfl] at cN
 refine acallM_intro tbOK Tryz.func23 rfl (by kernel_rfl) Tryz.ntmps23 (by simp) _ rfl (fun gB hw1 => ?_)
 repeat' (first | refine ao_tells 1 (pt_agg (ptl_cons (pt_nil 4 false) (ptl_cons (pt_nil 7 false) (ptl_cons (pt_nil 12 false) (ptl_cons (.refl _) ptl_nil))))) rfl ?_ | (refine ao_sh_call ?_; first | refine ao_callM [] (memH (ws0 4 7) 12 0) [] [] [] noLoneH rfl rfl rfl (by repeat (first | exact hsub_nil | refine hsub_cons rfl ?_)) tS rfl rfl rfl cN ?_) | refine sK ?_ | refine sC (fun _ => ?_) (fun _ => ?_) | fail)
 exact ⟨.inr rfl, .inr ⟨0, rfl, rfl, ⟨by repeat (first | exact hsub_nil | refine hsub_cons rfl ?_), rfl⟩⟩⟩
set_option maxHeartbeats 2000000 in
theorem NewS_call (ws : List Int) (fr lim : Int) (h1 : 1 ≤ lim) (h2 : lim ≤ 64) (us : Nat → Value) : ACallM Tryz.prog 22 [.box 0 0, .pv (pi lim)] (memH ws fr 0 ++ pinB us [0]) (.box 30 0) (skH ws fr lim [] ++ pinB us [0]) := by
 have hd1 : decide (lim < 1) = false := decide_eq_false (by omega)
 have hd2 : decide (64 < lim) = false := decide_eq_false (by omega)
 refine acallM_intro tbOK Tryz.func22 rfl (by kernel_rfl) Tryz.ntmps22 (by simp) _ rfl (fun gB hw1 => ?_)
 repeat' (first | refine ao_q rfl (q_isnil (b := false) rfl Tryz.underlying31 rfl rfl) rfl rfl ?_ | refine AD.step _ _ _ _ _ rfl (q_isnil (b := false) rfl Tryz.underlying31 rfl rfl) rfl rfl ?_ | refine aw_mown_nil_field 30 37 2 135 5 (by decide) rfl rfl rfl rfl ?_ | refine ao_q rfl (q_buildA tbOK rfl ⟨_, rfl⟩ rfl rfl rfl rfl rfl rfl) rfl rfl ?_ | (refine ao_sh_box ?_; first | refine ao_boxm 30 rfl rfl rfl rfl rfl rfl ?_) | refine sK ?_ | refine sC (fun _ => ?_) (fun _ => ?_) | fail)
 exact ⟨.inr rfl, .inr ⟨4, rfl, rfl, ⟨by repeat (first | exact hsub_nil | refine hsub_cons rfl ?_), rfl⟩⟩⟩
set_option maxHeartbeats 1000000 in
theorem topNo_call (ws : List Int) (fr lim : Int) (us : Nat → Value) : ACallM Tryz.prog 91 [.box 30 0] (skH ws fr lim [] ++ pinB us [0, 30]) (.pv nilP) (skH ws fr lim [] ++ pinB us [0, 30]) := by
 refine acallM_intro tbOK Tryz.func91 rfl (by kernel_rfl) Tryz.ntmps91 (by simp) _ rfl (fun gB hw1 => ?_)
 repeat' (first | refine ao_q (r := .pv (pi _)) rfl (q_callW (args := fun ρ => [.ptr (stPV ws (ρ 8) fr lim []) 0]) rfl (fun _ => rfl) (fun ρ => Depth_call ws (ρ 8) fr lim [])) rfl rfl ?_ | refine AD.step _ _ _ (.pv (pi _)) _ rfl (q_callW (args := fun ρ => [.ptr (stPV ws (ρ 8) fr lim []) 0]) rfl (fun _ => rfl) (fun ρ => Depth_call ws (ρ 8) fr lim [])) rfl rfl ?_ | refine sK ?_ | refine sC (fun _ => ?_) (fun _ => ?_) | fail)
 exact ⟨.inr rfl, .inl ⟨_, rfl, rfl, ⟨by repeat (first | exact hsub_nil | refine hsub_cons rfl ?_), rfl⟩⟩⟩
set_option maxHeartbeats 1000000 in
theorem top_call (ws : List Int) (fr lim : Int) (l : List Fr) (f : Fr) (hf : l.length ≤ 63) (us : Nat → Value) : ACallM Tryz.prog 91 [.box 30 0] (skH ws fr lim (l ++ [f]) ++ pinB us [0, 30]) (.ad 37 (l.length * 5)) (skH ws fr lim (l ++ [f]) ++ pinB us [0, 30]) := by
 have hd : decide ((((l ++ [f]).length : Nat) : Int) = 0) = false := decide_eq_false (by simp only [List.length_append, List.length_cons, List.length_nil]; omega)
 have hm : IntKind.i64.wrap ((((l ++ [f]).map frPV).length : Int) - 1) = ((l.length : Nat) : Int) := by
  simp only [List.length_map, List.length_append, List.length_cons, List.length_nil]
  rw [wrap_in (by omega) (by omega)]; omega
 have hl : l.length < ((l ++ [f]).map frPV).length := by simp
 refine acallM_intro tbOK Tryz.func91 rfl (by kernel_rfl) Tryz.ntmps91 (by simp) _ rfl (fun gB hw1 => ?_)
 repeat' (first | refine ao_q (r := .pv (pi _)) rfl (q_callW (args := fun ρ => [.ptr (stPV ws (ρ 8) fr lim (l ++ [f])) 0]) rfl (fun _ => rfl) (fun ρ => Depth_call ws (ρ 8) fr lim (l ++ [f]))) rfl rfl ?_ | refine AD.step _ _ _ (.pv (pi _)) _ rfl (q_callW (args := fun ρ => [.ptr (stPV ws (ρ 8) fr lim (l ++ [f])) 0]) rfl (fun _ => rfl) (fun ρ => Depth_call ws (ρ 8) fr lim (l ++ [f]))) rfl rfl ?_ | refine sM ?_ | (refine shX ?_; first | refine ao_q rfl (q_mindex (k := l.length) tbOK rfl rfl rfl rfl rfl rfl rfl hm hl) rfl rfl ?_ | refine AD.step _ _ _ _ _ rfl (q_mindex (k := l.length) tbOK rfl rfl rfl rfl rfl rfl rfl hm hl) rfl rfl ?_) | refine sK ?_ | refine sC (fun _ => ?_) (fun _ => ?_) | fail)
 exact ⟨.inr rfl, .inr ⟨2, rfl, rfl, ⟨by repeat (first | exact hsub_nil | refine hsub_cons rfl ?_), rfl⟩⟩⟩
def wordF (ws : List Int) (a : Int) (k p : Nat) : PV := if p < k then u64 (getW ws (IntKind.u64.wrap (a + IntKind.u64.wrap (p : Int)))) else u64 0
def wordsP (ws : List Int) (a : Int) (n : Nat) : List Int := (List.range n).map fun p : Nat => getW ws (IntKind.u64.wrap (a + IntKind.u64.wrap (p : Int)))
theorem wordF_last (ws : List Int) (a : Int) (n : Nat) : (List.range n).map (wordF ws a n) = (wordsP ws a n).map u64 := by
 rw [wordsP, List.map_map]
 refine List.map_congr_left fun p hp => ?_
 rw [wordF, if_pos (by simpa using hp)]; rfl
theorem base_u64 (l : List Int) : ∀ p ∈ l.map u64, ∃ u, p = .base u := by
 intro p hp
 obtain ⟨x, _, rfl⟩ := List.mem_map.1 hp
 exact ⟨_, rfl⟩
theorem tSU {P : Prop} (h : P := by repeat (first | exact sub_nil | refine sub_cons rfl ?_ | (refine sub_i rfl ?_ ?_; · (first | omega | (rw [wrap_in (by omega) (by omega)] <;> omega) | (rw [wrapU_in (by omega) (by omega)] <;> omega) | (dsimp only; rw [wrapU_in (by omega) (by omega)] <;> omega) | (simp; done))))) : P := h
set_option maxHeartbeats 2000000 in
theorem words_call (ws : List Int) (mv : Value) (fr lim a : Int) (n : Nat) (fs : List Fr) (hn : n ≤ 200) (hl : ws.length ≤ 100000) : ACallR Tryz.prog 92 [.ptr (stPV ws mv fr lim fs) 0, u64 a, pi n] 33 1 ((wordsP ws a n).map u64) := by
 have hmi : (n : Int) = ((n : Nat) : Int) := rfl
 refine acallR_intro Tryz.func92 rfl (by kernel_rfl) Tryz.ntmps92 (by simp) rfl (fun hw gB hgB => ?_)
 repeat' (first | refine ao_makeK (m := n) (sz := 1) tbOK 40 rfl rfl rfl rfl rfl hmi rfl rfl (by show 8 * _ ≤ _; omega) (by simp [maxLen]; omega) rfl rfl rfl ?_ | refine sM ?_ | refine sK ?_ | refine sC (fun _ => ?_) (fun _ => ?_) | fail)
 refine aw_loop (fun k : Nat => [(0, .pv (.ptr (stPV ws mv fr lim fs) 0)), (1, .pv (u64 a)), (7, .own 40), (12, .pv (pi n)), (13, .pv (pi k))])
  (fun k => [(40, .mrow 33 1 ((List.range n).map (wordF ws a k)))]) (fun k => k ≤ n) (fun k => n - k) 0 (by omega) tSU
  ⟨hsub_mr rfl (rng_rep (fun p _ => by simp [wordF])) hsub_nil, rfl⟩ ?_
 rintro k hk
 by_cases hlt : k < n
 ·have hkl : k < ((List.range n).map (wordF ws a k)).length := by simpa using hlt
  have hg : ((List.range n).map (wordF ws a k))[k]? = some (u64 0) := by rw [rng_get hlt, wordF, if_neg (by omega)]
  repeat' (first | (refine shC ?_; first | refine qC (Get2_call ws mv fr 0 (IntKind.u64.wrap (a + IntKind.u64.wrap (k : Int))) (wrapU_nonneg _) hl) ?_) | (refine shX ?_; first | refine ao_q rfl (q_mindex (k := k) tbOK rfl rfl rfl rfl rfl rfl rfl rfl hkl) rfl rfl ?_ | refine AD.step _ _ _ _ _ rfl (q_mindex (k := k) tbOK rfl rfl rfl rfl rfl rfl rfl rfl hkl) rfl rfl ?_) | (refine ao_sh_store ?_; first | refine ao_mstore (k := k) (j := 0) tbOK rfl rfl rfl rfl rfl hg rfl rfl rfl rfl rfl ?_) | refine sK ?_ | refine sC (fun _ => ?_) (fun _ => ?_) | fail)
  refine ⟨k + 1, hlt, tD, tSU, ⟨hsub_mr rfl (rng_set fun p hp => ?_) hsub_nil, rfl⟩⟩
  by_cases e : p = k
  ·subst e; simp [wordF]
  ·simp only [wordF, if_neg e]
   by_cases h : p < k
   ·rw [if_pos h, if_pos (by omega)]
   ·rw [if_neg h, if_neg (by omega)]
 ·have hk2 : k = n := by omega
  subst hk2
  repeat' (first | refine aw_mfreeze 40 rfl ?_ | refine sK ?_ | refine sC (fun _ => ?_) (fun _ => ?_) | fail)
  exact ⟨.inr rfl, 40, rfl, by rw [← wordF_last]; rfl⟩
end Go.Cg
namespace Go.Cg
open Go.Proofs
def zeroW (ws : List Int) (a : Int) : Nat → List Int
 | 0 => ws
 | k + 1 => putW (zeroW ws a k) (IntKind.u64.wrap (a + (k : Int))) 0
def argsW (ws : List Int) (a : Int) (l : List Int) : Nat → List Int
 | 0 => ws
 | k + 1 => putW (argsW ws a l k) (IntKind.u64.wrap (a + IntKind.u64.wrap (k : Int))) (l.getD k 0)
theorem zeroW_len (ws : List Int) (a : Int) : ∀ k, (zeroW ws a k).length = ws.length
 | 0 => rfl
 | k + 1 => by rw [zeroW, putW_len, zeroW_len ws a k]
theorem argsW_len (ws : List Int) (a : Int) (l : List Int) : ∀ k, (argsW ws a l k).length = ws.length
 | 0 => rfl
 | k + 1 => by rw [argsW, putW_len, argsW_len ws a l k]
def enterW (ws : List Int) (a : Int) (l : List Int) : List Int := argsW (zeroW ws a 256) a l l.length
theorem enterW_len (ws : List Int) (a : Int) (l : List Int) : (enterW ws a l).length = ws.length := by rw [enterW, argsW_len, zeroW_len]
abbrev skR (lim : Int) (fs : List Fr) (us : Nat → Value) : HEnv := [(30, .cell (.agg [.box 0 0, .pv (pi lim), .own 37])), (37, .mrow 135 5 (fs.map frPV)), (1000, .pin (.own 0) (us 0)), (1030, .pin (.own 30) (us 30))]
def newFr (method at_ base a : Int) : Fr := ⟨method, at_, base, a + 152, 0⟩
set_option maxHeartbeats 1000000 in
theorem EnterNo_call (ws : List Int) (fr lim m n : Int) (l : List Int) (full : Bool) (fs : List Fr) (hno : lim ≤ fs.length ∨ n < l.length ∨ 152 < n) (us : Nat → Value) : ACallM Tryz.prog 26 [.box 30 0, .pv (pi m), .pv (pi n), .pv (.slc 1 (l.map u64) full)] (skH ws fr lim fs ++ pinB us [0, 30]) (.pv (pb false)) (skH ws fr lim fs ++ pinB us [0, 30]) := by
 by_cases h1 : lim ≤ fs.length
 ·have hd1 : decide (lim ≤ (fs.length : Int)) = true := decide_eq_true h1
  refine acallM_intro tbOK Tryz.func26 rfl (by kernel_rfl) Tryz.ntmps26 (by simp) _ rfl (fun gB hw1 => ?_)
  repeat' (first | refine ao_q (r := .pv (pb _)) rfl (q_callW (args := fun ρ => [.ptr (stPV ws (ρ 8) fr lim fs) 0]) rfl (fun _ => rfl) (fun ρ => full_call ws (ρ 8) fr lim fs)) rfl rfl ?_ | refine AD.step _ _ _ (.pv (pb _)) _ rfl (q_callW (args := fun ρ => [.ptr (stPV ws (ρ 8) fr lim fs) 0]) rfl (fun _ => rfl) (fun ρ => full_call ws (ρ 8) fr lim fs)) rfl rfl ?_ | refine sK ?_ | refine sC (fun _ => ?_) (fun _ => ?_) | fail)
  exact ⟨.inr rfl, .inl ⟨_, rfl, rfl, ⟨by repeat (first | exact hsub_nil | refine hsub_cons rfl ?_), rfl⟩⟩⟩
 ·have hd1 : decide (lim ≤ (fs.length : Int)) = false := decide_eq_false h1
  by_cases h2 : n < l.length
  ·have hd2 : decide (n < (((l.map u64).length : Nat) : Int)) = true := decide_eq_true (by rw [List.length_map]; exact h2)
   refine acallM_intro tbOK Tryz.func26 rfl (by kernel_rfl) Tryz.ntmps26 (by simp) _ rfl (fun gB hw1 => ?_)
   repeat' (first | refine ao_q (r := .pv (pb _)) rfl (q_callW (args := fun ρ => [.ptr (stPV ws (ρ 8) fr lim fs) 0]) rfl (fun _ => rfl) (fun ρ => full_call ws (ρ 8) fr lim fs)) rfl rfl ?_ | refine AD.step _ _ _ (.pv (pb _)) _ rfl (q_callW (args := fun ρ => [.ptr (stPV ws (ρ 8) fr lim fs) 0]) rfl (fun _ => rfl) (fun ρ => full_call ws (ρ 8) fr lim fs)) rfl rfl ?_ | refine sK ?_ | refine sC (fun _ => ?_) (fun _ => ?_) | fail)
   exact ⟨.inr rfl, .inl ⟨_, rfl, rfl, ⟨by repeat (first | exact hsub_nil | refine hsub_cons rfl ?_), rfl⟩⟩⟩
  ·have hd2 : decide (n < (((l.map u64).length : Nat) : Int)) = false := decide_eq_false (by rw [List.length_map]; exact h2)
   have hd3 : decide (152 < n) = true := decide_eq_true (by omega)
   refine acallM_intro tbOK Tryz.func26 rfl (by kernel_rfl) Tryz.ntmps26 (by simp) _ rfl (fun gB hw1 => ?_)
   repeat' (first | refine ao_q (r := .pv (pb _)) rfl (q_callW (args := fun ρ => [.ptr (stPV ws (ρ 8) fr lim fs) 0]) rfl (fun _ => rfl) (fun ρ => full_call ws (ρ 8) fr lim fs)) rfl rfl ?_ | refine AD.step _ _ _ (.pv (pb _)) _ rfl (q_callW (args := fun ρ => [.ptr (stPV ws (ρ 8) fr lim fs) 0]) rfl (fun _ => rfl) (fun ρ => full_call ws (ρ 8) fr lim fs)) rfl rfl ?_ | refine sK ?_ | refine sC (fun _ => ?_) (fun _ => ?_) | fail)
   exact ⟨.inr rfl, .inl ⟨_, rfl, rfl, ⟨by repeat (first | exact hsub_nil | refine hsub_cons rfl ?_), rfl⟩⟩⟩
set_option maxHeartbeats 4000000 in
theorem Enter_call (ws : List Int) (fr lim m n : Int) (l : List Int) (full : Bool) (fs : List Fr) (h1 : fs.length < lim) (h64 : lim ≤ 64) (h2 : l.length ≤ n) (h3 : n ≤ 152) (hf0 : 0 ≤ fr) (hf1 : fr ≤ 10000) (hws : ws.length ≤ 100000) (us : Nat → Value) :
  ACallM Tryz.prog 26 [.box 30 0, .pv (pi m), .pv (pi n), .pv (.slc 1 (l.map u64) full)] (skH ws fr lim fs ++ pinB us [0, 30]) (.pv (pb true)) (skH (enterW ws (fr + 256 * fs.length) l) fr lim (fs ++ [newFr m 0 (fr + 256 * fs.length) (fr + 256 * fs.length)]) ++ pinB us [0, 30]) := by
 have hd1 : decide (lim ≤ (fs.length : Int)) = false := decide_eq_false (by omega)
 have hd2 : decide (n < (((l.map u64).length : Nat) : Int)) = false := decide_eq_false (by rw [List.length_map]; omega)
 have hd3 : decide (152 < n) = false := decide_eq_false (by omega)
 obtain ⟨A, hA⟩ : ∃ A : Int, A = fr + 256 * fs.length := ⟨_, rfl⟩
 have cS := fun mv => start_call ws mv fr lim fs hf0 hf1 (by omega)
 rw [← hA] at cS
 have hE : (fs.map frPV) ++ [.agg [pi m, pi 0, u64 A, u64 (IntKind.u64.wrap (A + 152)), pi 0]] = (fs ++ [newFr m 0 A A]).map frPV := by
  rw [wrapU_in (by omega) (by omega)]; simp [newFr, frPV]
 refine acallM_intro tbOK Tryz.func26 rfl (by kernel_rfl) Tryz.ntmps26 (by simp) _ rfl (fun gB hw1 => ?_)
 repeat' (first | refine ao_q (r := .pv (pb _)) rfl (q_callW (args := fun ρ => [.ptr (stPV ws (ρ 8) fr lim fs) 0]) rfl (fun _ => rfl) (fun ρ => full_call ws (ρ 8) fr lim fs)) rfl rfl ?_ | refine AD.step _ _ _ (.pv (pb _)) _ rfl (q_callW (args := fun ρ => [.ptr (stPV ws (ρ 8) fr lim fs) 0]) rfl (fun _ => rfl) (fun ρ => full_call ws (ρ 8) fr lim fs)) rfl rfl ?_ | refine ao_q (r := .pv (u64 _)) rfl (q_callW (args := fun ρ => [.ptr (stPV ws (ρ 8) fr lim fs) 0]) rfl (fun _ => rfl) (fun ρ => cS (ρ 8))) rfl rfl ?_ | refine AD.step _ _ _ (.pv (u64 _)) _ rfl (q_callW (args := fun ρ => [.ptr (stPV ws (ρ 8) fr lim fs) 0]) rfl (fun _ => rfl) (fun ρ => cS (ρ 8))) rfl rfl ?_ | refine sK ?_ | refine sC (fun _ => ?_) (fun _ => ?_) | fail)
 refine aw_loop (fun k : Nat => [(0, .box 30 0), (1, .pv (pi m)), (3, .pv (.slc 1 (l.map u64) full)), (9, .pv (u64 A)), (27, .pv (u64 k))]) (fun k => skH (zeroW ws A k) fr lim fs ++ pinB us [0, 30]) (fun k => k ≤ 256) (fun k => 256 - k) 0 (by omega) tSU ⟨by repeat (first | exact hsub_nil | refine hsub_cons rfl ?_), rfl⟩ ?_
 rintro k hk
 by_cases hlt : k < 256
 ·have hdk : decide ((k : Int) < 256) = true := decide_eq_true (by omega)
  have cP := fun us' => Put_call (zeroW ws A k) fr 0 (IntKind.u64.wrap (A + (k : Int))) 0 (wrapU_nonneg _) (by rw [zeroW_len]; exact hws) us'
  repeat' (first | refine aw_condT rfl hdk ?_ | (refine ao_sh_call ?_; first | refine ao_callM (memH (zeroW ws A k) fr 0) (memH (zeroW ws A (k + 1)) fr 0) (skR lim fs us) [(0, .box 30 0), (1, .pv (pi m)), (3, .pv (.slc 1 (l.map u64) full)), (9, .pv (u64 A)), (27, .pv (u64 k))] [0] noLoneH rfl rfl rfl (by repeat (first | exact hsub_nil | refine hsub_cons rfl ?_)) tS rfl rfl rfl cP ?_) | refine sK ?_ | refine sC (fun _ => ?_) (fun _ => ?_) | fail)
  exact ⟨k + 1, hlt, tD, tSU, ⟨by repeat (first | exact hsub_nil | refine hsub_cons rfl ?_), rfl⟩⟩
 ·have hk2 : k = 256 := by omega
  subst hk2
  have hdF : decide (((256 : Nat) : Int) < 256) = false := rfl
  repeat' (first | refine aw_condF rfl hdF ?_ | refine sK ?_ | refine sC (fun _ => ?_) (fun _ => ?_) | fail)
  refine aw_loop (fun k : Nat => [(0, .box 30 0), (1, .pv (pi m)), (9, .pv (u64 A)), (39, .pv (.slc 1 (l.map u64) full)), (40, .pv (pi l.length)), (41, .pv (pi k))]) (fun k => skH (argsW (zeroW ws A 256) A l k) fr lim fs ++ pinB us [0, 30]) (fun k => k ≤ l.length) (fun k => l.length - k) 0 (by omega) tSU ⟨by repeat (first | exact hsub_nil | refine hsub_cons rfl ?_), rfl⟩ ?_
  rintro k hk
  by_cases hlt : k < l.length
  ·have hdk : decide ((k : Int) < (l.length : Int)) = true := decide_eq_true (by omega)
   have hx : (l.map u64)[k]? = some (u64 (l.getD k 0)) := by rw [List.getElem?_map, List.getD_eq_getElem?_getD, List.getElem?_eq_getElem hlt]; rfl
   have cP := fun us' => Put_call (argsW (zeroW ws A 256) A l k) fr 0 (IntKind.u64.wrap (A + IntKind.u64.wrap (k : Int))) (l.getD k 0) (wrapU_nonneg _) (by rw [argsW_len, zeroW_len]; exact hws) us'
   repeat' (first | (refine shX ?_; first | refine qX hx ?_) | (refine ao_sh_call ?_; first | refine ao_callM (memH (argsW (zeroW ws A 256) A l k) fr 0) (memH (argsW (zeroW ws A 256) A l (k + 1)) fr 0) (skR lim fs us) [(0, .box 30 0), (1, .pv (pi m)), (9, .pv (u64 A)), (39, .pv (.slc 1 (l.map u64) full)), (40, .pv (pi l.length)), (41, .pv (pi k))] [0] noLoneH rfl rfl rfl (by repeat (first | exact hsub_nil | refine hsub_cons rfl ?_)) tS rfl rfl rfl cP ?_) | refine sK ?_ | refine sC (fun _ => ?_) (fun _ => ?_) | fail)
   exact ⟨k + 1, hlt, tD, tSU, ⟨by repeat (first | exact hsub_nil | refine hsub_cons rfl ?_), rfl⟩⟩
  ·have hk2 : k = l.length := by omega
   subst hk2
   have hdk : decide ((l.length : Int) < (l.length : Int)) = false := decide_eq_false (by omega)
   rw [← hA]
   repeat' (first | (refine ao_sh_bi ?_; first | refine ao_mappend tbOK rfl rfl rfl rfl rfl rfl rfl (by show _ * 40 ≤ _; simp only [List.length_map, List.length_cons, List.length_nil]; omega) (by simp only [List.length_map, List.length_cons, List.length_nil]; omega) rfl rfl ?_) | refine sK ?_ | refine sC (fun _ => ?_) (fun _ => ?_) | fail)
   exact ⟨.inr rfl, .inl ⟨_, rfl, rfl, ⟨by repeat (first | exact hsub_nil | refine hsub_cons rfl ?_ | refine hsub_mr rfl hE ?_), rfl⟩⟩⟩
end Go.Cg
namespace Go.Cg
open Go.Proofs
def pushW (ws : List Int) (e s : Int) (l : List Int) : Nat → List Int
 | 0 => ws
 | k + 1 => putW (pushW ws e s l k) (IntKind.u64.wrap (e + IntKind.u64.wrap (s + (k : Int)))) (l.getD k 0)
theorem pushW_len (ws : List Int) (e s : Int) (l : List Int) : ∀ k, (pushW ws e s l k).length = ws.length
 | 0 => rfl
 | k + 1 => by rw [pushW, putW_len, pushW_len ws e s l k]
def sized (f : Fr) (n : Int) : Fr := ⟨f.method, f.at_, f.base, f.eval, n⟩
theorem last_get (l : List Fr) (f : Fr) : ((l ++ [f]).map frPV)[l.length]? = some (.agg [pi f.method, pi f.at_, u64 f.base, u64 f.eval, pi f.size]) := by simp [frPV]
theorem last_set (l : List Fr) (f f' : Fr) (n : Int) (h : f' = sized f n) : ((l ++ [f]).map frPV).set l.length (.agg [pi f.method, pi f.at_, u64 f.base, u64 f.eval, pi n]) = (l ++ [f']).map frPV := by subst h; simp [frPV, sized]
set_option maxHeartbeats 1000000 in
theorem PushNo0_call (ws : List Int) (fr lim : Int) (l : List Int) (full : Bool) (us : Nat → Value) : ACallM Tryz.prog 38 [.box 30 0, .pv (.slc 1 (l.map u64) full)] (skH ws fr lim [] ++ pinB us [0, 30]) (.pv (pb false)) (skH ws fr lim [] ++ pinB us [0, 30]) := by
 have cT := fun us' => topNo_call ws fr lim us'
 refine acallM_intro tbOK Tryz.func38 rfl (by kernel_rfl) Tryz.ntmps38 (by simp) _ rfl (fun gB hw1 => ?_)
 repeat' (first | refine ao_q rfl (q_isnil (b := true) rfl Tryz.underlying142 rfl rfl) rfl rfl ?_ | refine AD.step _ _ _ _ _ rfl (q_isnil (b := true) rfl Tryz.underlying142 rfl rfl) rfl rfl ?_ | (refine ao_sh_call ?_; first | refine ao_callM (skH ws fr lim []) (skH ws fr lim []) [(1000, .pin (.own 0) (us 0)), (1030, .pin (.own 30) (us 30))] [(0, .box 30 0), (1, .pv (.slc 1 (l.map u64) full))] [0, 30] noLoneH rfl rfl rfl (by repeat (first | exact hsub_nil | refine hsub_cons rfl ?_)) tS rfl rfl rfl cT ?_) | refine sK ?_ | refine sC (fun _ => ?_) (fun _ => ?_) | fail)
 exact ⟨.inr rfl, .inl ⟨_, rfl, rfl, ⟨by repeat (first | exact hsub_nil | refine hsub_cons rfl ?_), rfl⟩⟩⟩
set_option maxHeartbeats 2000000 in
theorem PushNo_call (ws : List Int) (fr lim : Int) (l : List Int) (full : Bool) (fs : List Fr) (f : Fr) (hf : fs.length ≤ 63) (hs0 : 0 ≤ f.size) (hs1 : f.size ≤ 96) (hno : 96 < f.size + l.length) (us : Nat → Value) : ACallM Tryz.prog 38 [.box 30 0, .pv (.slc 1 (l.map u64) full)] (skH ws fr lim (fs ++ [f]) ++ pinB us [0, 30]) (.pv (pb false)) (skH ws fr lim (fs ++ [f]) ++ pinB us [0, 30]) := by
 have cT := fun us' => top_call ws fr lim fs f hf us'
 have hp := last_get fs f
 have hd : decide (IntKind.i64.wrap (96 - f.size) < (((l.map u64).length : Nat) : Int)) = true := decide_eq_true (by rw [List.length_map, wrap_in (by omega) (by omega)]; omega)
 refine acallM_intro tbOK Tryz.func38 rfl (by kernel_rfl) Tryz.ntmps38 (by simp) _ rfl (fun gB hw1 => ?_)
 repeat' (first | refine ao_q rfl (q_isnilad rfl Tryz.underlying142 rfl) rfl rfl ?_ | refine sM ?_ | refine ao_q rfl (q_mload (k := fs.length) (j := 4) tbOK rfl rfl rfl rfl hp rfl) rfl rfl ?_ | refine AD.step _ _ _ _ _ rfl (q_mload (k := fs.length) (j := 4) tbOK rfl rfl rfl rfl hp rfl) rfl rfl ?_ | (refine ao_sh_call ?_; first | refine ao_callM (skH ws fr lim (fs ++ [f])) (skH ws fr lim (fs ++ [f])) [(1000, .pin (.own 0) (us 0)), (1030, .pin (.own 30) (us 30))] [(0, .box 30 0), (1, .pv (.slc 1 (l.map u64) full))] [0, 30] noLoneH rfl rfl rfl (by repeat (first | exact hsub_nil | refine hsub_cons rfl ?_)) tS rfl rfl rfl cT ?_) | refine sK ?_ | refine sC (fun _ => ?_) (fun _ => ?_) | fail)
 exact ⟨.inr rfl, .inl ⟨_, rfl, rfl, ⟨by repeat (first | exact hsub_nil | refine hsub_cons rfl ?_), rfl⟩⟩⟩
set_option maxHeartbeats 4000000 in
theorem PushF_call (ws : List Int) (fr lim : Int) (l : List Int) (full : Bool) (fs : List Fr) (f : Fr) (hf : fs.length ≤ 63) (hs0 : 0 ≤ f.size) (hyes : f.size + l.length ≤ 96) (hws : ws.length ≤ 100000) (us : Nat → Value) :
  ACallM Tryz.prog 38 [.box 30 0, .pv (.slc 1 (l.map u64) full)] (skH ws fr lim (fs ++ [f]) ++ pinB us [0, 30]) (.pv (pb true)) (skH (pushW ws f.eval f.size l l.length) fr lim (fs ++ [sized f (f.size + l.length)]) ++ pinB us [0, 30]) := by
 have cT := fun us' => top_call ws fr lim fs f hf us'
 have hp := last_get fs f
 have hd : decide (IntKind.i64.wrap (96 - f.size) < (((l.map u64).length : Nat) : Int)) = false := decide_eq_false (by rw [List.length_map, wrap_in (by omega) (by omega)]; omega)
 refine acallM_intro tbOK Tryz.func38 rfl (by kernel_rfl) Tryz.ntmps38 (by simp) _ rfl (fun gB hw1 => ?_)
 repeat' (first | refine ao_q rfl (q_isnilad rfl Tryz.underlying142 rfl) rfl rfl ?_ | refine sM ?_ | refine ao_q rfl (q_mload (k := fs.length) (j := 4) tbOK rfl rfl rfl rfl hp rfl) rfl rfl ?_ | refine AD.step _ _ _ _ _ rfl (q_mload (k := fs.length) (j := 4) tbOK rfl rfl rfl rfl hp rfl) rfl rfl ?_ | (refine ao_sh_call ?_; first | refine ao_callM (skH ws fr lim (fs ++ [f])) (skH ws fr lim (fs ++ [f])) [(1000, .pin (.own 0) (us 0)), (1030, .pin (.own 30) (us 30))] [(0, .box 30 0), (1, .pv (.slc 1 (l.map u64) full))] [0, 30] noLoneH rfl rfl rfl (by repeat (first | exact hsub_nil | refine hsub_cons rfl ?_)) tS rfl rfl rfl cT ?_) | refine sK ?_ | refine sC (fun _ => ?_) (fun _ => ?_) | fail)
 refine aw_loop (fun k : Nat => [(0, .box 30 0), (5, .ad 37 (fs.length * 5)), (22, .pv (.slc 1 (l.map u64) full)), (23, .pv (pi l.length)), (24, .pv (pi k))]) (fun k => skH (pushW ws f.eval f.size l k) fr lim (fs ++ [sized f (f.size + k)]) ++ pinB us [0, 30]) (fun k => k ≤ l.length) (fun k => l.length - k) 0 (by omega) tSU
  ⟨by repeat (first | exact hsub_nil | refine hsub_cons rfl ?_ | refine hsub_mr rfl (by simp [frPV, sized]) ?_), rfl⟩ ?_
 rintro k hk
 by_cases hlt : k < l.length
 ·have hdk : decide ((k : Int) < (l.length : Int)) = true := decide_eq_true (by omega)
  have hx : (l.map u64)[k]? = some (u64 (l.getD k 0)) := by rw [List.getElem?_map, List.getD_eq_getElem?_getD, List.getElem?_eq_getElem hlt]; rfl
  have hp2 := last_get fs (sized f (f.size + k))
  obtain ⟨W, hW⟩ : ∃ W, W = pushW ws f.eval f.size l k := ⟨_, rfl⟩
  have hWl : W.length ≤ 100000 := by rw [hW, pushW_len]; exact hws
  have cP := fun us' => Put_call W fr 0 (IntKind.u64.wrap (f.eval + IntKind.u64.wrap (f.size + (k : Int)))) (l.getD k 0) (wrapU_nonneg _) hWl us'
  rw [show putW W (IntKind.u64.wrap (f.eval + IntKind.u64.wrap (f.size + (k : Int)))) (l.getD k 0) = pushW ws f.eval f.size l (k + 1) by rw [pushW, hW]] at cP
  rw [← hW]
  repeat' (first | refine aw_draw_tailL 16 15 rfl (by kernel_rfl) (by kernel_rfl) (by kernel_rfl) (by kernel_rfl) (by kernel_rfl) ?_ | refine sM ?_ | refine ao_q rfl (q_mload (k := fs.length) (j := 3) tbOK rfl rfl rfl rfl hp2 rfl) rfl rfl ?_ | refine AD.step _ _ _ _ _ rfl (q_mload (k := fs.length) (j := 3) tbOK rfl rfl rfl rfl hp2 rfl) rfl rfl ?_ | refine ao_q rfl (q_mload (k := fs.length) (j := 4) tbOK rfl rfl rfl rfl hp2 rfl) rfl rfl ?_ | refine AD.step _ _ _ _ _ rfl (q_mload (k := fs.length) (j := 4) tbOK rfl rfl rfl rfl hp2 rfl) rfl rfl ?_ | (refine shX ?_; first | refine qX hx ?_) | (refine ao_sh_call ?_; first | refine ao_callM (memH W fr 0) (memH (pushW ws f.eval f.size l (k + 1)) fr 0) (skR lim (fs ++ [sized f (f.size + k)]) us) [(0, .box 30 0), (5, .ad 37 (fs.length * 5)), (22, .pv (.slc 1 (l.map u64) full)), (23, .pv (pi l.length)), (24, .pv (pi k))] [0] noLoneH rfl rfl rfl (by repeat (first | exact hsub_nil | refine hsub_cons rfl ?_)) tS rfl rfl rfl cP ?_) | (refine ao_sh_store ?_; first | refine ao_mstore (k := fs.length) (j := 4) tbOK rfl rfl rfl rfl rfl hp2 rfl rfl rfl rfl rfl ?_) | refine sK ?_ | refine sC (fun _ => ?_) (fun _ => ?_) | fail)
  refine ⟨k + 1, hlt, tD, tSU, ⟨by repeat (first | exact hsub_nil | refine hsub_cons rfl ?_ | refine hsub_mr rfl (last_set fs (sized f (f.size + k)) (sized f (f.size + ((k + 1 : Nat) : Int))) _ (by show sized f (f.size + ((k + 1 : Nat) : Int)) = sized f (IntKind.i64.wrap (f.size + k + 1)); rw [wrap_in (by omega) (by omega)]; congr 1; omega)) ?_), rfl⟩⟩
 ·have hk2 : k = l.length := by omega
  subst hk2
  have hdk : decide ((l.length : Int) < (l.length : Int)) = false := decide_eq_false (by omega)
  repeat' (first | refine sK ?_ | refine sC (fun _ => ?_) (fun _ => ?_) | fail)
  exact ⟨.inr rfl, .inl ⟨_, rfl, rfl, ⟨by repeat (first | exact hsub_nil | refine hsub_cons rfl ?_), rfl⟩⟩⟩
set_option maxHeartbeats 1000000 in
theorem LeaveNo_call (ws : List Int) (fr lim : Int) (us : Nat → Value) : ACallM Tryz.prog 27 [.box 30 0] (skH ws fr lim [] ++ pinB us [0, 30]) (.pv (pb false)) (skH ws fr lim [] ++ pinB us [0, 30]) := by
 refine acallM_intro tbOK Tryz.func27 rfl (by kernel_rfl) Tryz.ntmps27 (by simp) _ rfl (fun gB hw1 => ?_)
 repeat' (first | refine ao_q (r := .pv (pi _)) rfl (q_callW (args := fun ρ => [.ptr (stPV ws (ρ 8) fr lim []) 0]) rfl (fun _ => rfl) (fun ρ => Depth_call ws (ρ 8) fr lim [])) rfl rfl ?_ | refine AD.step _ _ _ (.pv (pi _)) _ rfl (q_callW (args := fun ρ => [.ptr (stPV ws (ρ 8) fr lim []) 0]) rfl (fun _ => rfl) (fun ρ => Depth_call ws (ρ 8) fr lim [])) rfl rfl ?_ | refine sK ?_ | refine sC (fun _ => ?_) (fun _ => ?_) | fail)
 exact ⟨.inr rfl, .inl ⟨_, rfl, rfl, ⟨by repeat (first | exact hsub_nil | refine hsub_cons rfl ?_), rfl⟩⟩⟩
set_option maxHeartbeats 1000000 in
theorem Leave_call (ws : List Int) (fr lim : Int) (l : List Fr) (f : Fr) (hf : l.length ≤ 63) (us : Nat → Value) : ACallM Tryz.prog 27 [.box 30 0] (skH ws fr lim (l ++ [f]) ++ pinB us [0, 30]) (.pv (pb true)) (skH ws fr lim l ++ pinB us [0, 30]) := by
 have hd : decide ((((l ++ [f]).length : Nat) : Int) = 0) = false := decide_eq_false (by simp only [List.length_append, List.length_cons, List.length_nil]; omega)
 have hm : IntKind.i64.wrap ((((l ++ [f]).map frPV).length : Int) - 1) = ((l.length : Nat) : Int) := by
  simp only [List.length_map, List.length_append, List.length_cons, List.length_nil]
  rw [wrap_in (by omega) (by omega)]; omega
 have hm' : some (IntKind.i64.wrap ((((l ++ [f]).map frPV).length : Int) - 1)) = some ((l.length : Nat) : Int) := by rw [hm]
 have hE : ((l ++ [f]).map frPV).take l.length = l.map frPV := by simp
 refine acallM_intro tbOK Tryz.func27 rfl (by kernel_rfl) Tryz.ntmps27 (by simp) _ rfl (fun gB hw1 => ?_)
 repeat' (first | refine ao_q (r := .pv (pi _)) rfl (q_callW (args := fun ρ => [.ptr (stPV ws (ρ 8) fr lim (l ++ [f])) 0]) rfl (fun _ => rfl) (fun ρ => Depth_call ws (ρ 8) fr lim (l ++ [f]))) rfl rfl ?_ | refine AD.step _ _ _ (.pv (pi _)) _ rfl (q_callW (args := fun ρ => [.ptr (stPV ws (ρ 8) fr lim (l ++ [f])) 0]) rfl (fun _ => rfl) (fun ρ => Depth_call ws (ρ 8) fr lim (l ++ [f]))) rfl rfl ?_ | refine aw_retrim 30 37 45 2 (h := l.length) rfl rfl rfl rfl (by simp) (by simp) ?_ | refine aw_pin 37 45 rfl rfl (fun uu => ?_) | refine sM ?_ | refine aw_draw_tailL 15 14 rfl (by kernel_rfl) (by kernel_rfl) (by kernel_rfl) (by kernel_rfl) (by kernel_rfl) ?_ | refine AD.step _ _ _ _ _ rfl (q_mtrim tbOK 37 45 rfl rfl rfl rfl rfl rfl rfl hm' (by omega) (by simp; omega) (by simp)) rfl rfl ?_ | refine sK ?_ | refine sC (fun _ => ?_) (fun _ => ?_) | fail)
 exact ⟨.inr rfl, .inl ⟨_, rfl, rfl, ⟨by repeat (first | exact hsub_nil | refine hsub_cons rfl ?_ | refine hsub_mr rfl hE ?_), rfl⟩⟩⟩
end Go.Cg
namespace Go.Cg
open Go.Proofs
set_option maxHeartbeats 1000000 in
theorem SameWords_call (a b : List Int) (fa fb : Bool) (ha : a.length ≤ 100000) (hb : b.length ≤ 100000) : ACall Tryz.prog 30 [.slc 1 (a.map u64) fa, .slc 1 (b.map u64) fb] (pb (decide (a = b))) := by
 refine acall_intro tbOK Tryz.func30 rfl (by kernel_rfl) Tryz.ntmps30 (by simp) _ rfl (fun hw gB hgB => ?_)
 by_cases hlen : a.length = b.length
 ·have hd : (decide ((((a.map u64).length : Nat) : Int) = (((b.map u64).length : Nat) : Int))) = true := decide_eq_true (by simp [hlen])
  repeat' (first | refine sK ?_ | refine sC (fun _ => ?_) (fun _ => ?_) | fail)
  refine aw_loop (fun k : Nat => [(0, .pv (.slc 1 (a.map u64) fa)), (1, .pv (.slc 1 (b.map u64) fb)), (5, .pv (pi k))]) (fun _ => []) (fun k => k ≤ a.length ∧ a.take k = b.take k) (fun k => a.length - k) 0 ⟨by simp, by simp⟩ (tS) tH ?_
  rintro k ⟨hk, hno⟩
  by_cases hlt : k < a.length
  ·have he : (a.map u64)[k]? = some (u64 a[k]) := by rw [List.getElem?_map, List.getElem?_eq_getElem hlt]; rfl
   have hltb : k < b.length := by omega
   have he' : (b.map u64)[k]? = some (u64 b[k]) := by rw [List.getElem?_map, List.getElem?_eq_getElem hltb]; rfl
   have hdk : decide ((k : Int) < (((a.map u64).length : Nat) : Int)) = true := decide_eq_true (by rw [List.length_map]; omega)
   repeat' (first | (refine shX ?_; first | refine qX he ?_ | refine qX he' ?_) | refine sK ?_ | refine sC (fun _ => ?_) (fun _ => ?_) | fail)
   ·rename_i h
    refine retq rfl ?_
    have : a ≠ b := by
     rintro rfl
     simp at h
    simp [retPV, this]
   ·rename_i h
    have e : a[k] = b[k] := by simpa using h
    exact ⟨k + 1, ⟨by omega, by rw [List.take_succ_eq_append_getElem hlt, List.take_succ_eq_append_getElem hltb, hno, e]⟩, tD, tS, tH⟩
  ·have hdk : decide ((k : Int) < (((a.map u64).length : Nat) : Int)) = false := decide_eq_false (by rw [List.length_map]; omega)
   repeat' (first | refine sK ?_ | refine sC (fun _ => ?_) (fun _ => ?_) | fail)
   have e : a = b := by
    have h1 := hno
    rw [List.take_of_length_le (by omega), List.take_of_length_le (by omega)] at h1
    exact h1
   exact retq rfl (by simp [retPV, e])
 ·have hd : (decide ((((a.map u64).length : Nat) : Int) = (((b.map u64).length : Nat) : Int))) = false := decide_eq_false (by simp; omega)
  repeat' (first | refine sK ?_ | refine sC (fun _ => ?_) (fun _ => ?_) | fail)
  exact retq rfl (by
    have : a ≠ b := by rintro rfl; exact hlen rfl
    simp [retPV, this])
set_option maxHeartbeats 4000000 in
theorem PopF_call (ws : List Int) (fr lim m at_ ba e : Int) (s n : Nat) (fs : List Fr) (hf : fs.length ≤ 63) (hs : s ≤ 96) (hn : n ≤ s) (hws : ws.length ≤ 100000) (us : Nat → Value) :
  ACallM Tryz.prog 40 [.box 30 0, .pv (pi n)] (skH ws fr lim (fs ++ [⟨m, at_, ba, e, s⟩]) ++ pinB us [0, 30]) (.pv (.slc 1 ((wordsP ws (IntKind.u64.wrap (e + IntKind.u64.wrap ((s - n : Nat) : Int))) n).map u64) false)) (skH ws fr lim (fs ++ [⟨m, at_, ba, e, ((s - n : Nat) : Int)⟩]) ++ pinB us [0, 30]) := by
 have cT := fun us' => top_call ws fr lim fs ⟨m, at_, ba, e, s⟩ hf us'
 have hp := last_get fs ⟨m, at_, ba, e, s⟩
 have hp2 := last_get fs ⟨m, at_, ba, e, ((s - n : Nat) : Int)⟩
 have hd1 : decide ((n : Int) < 0) = false := decide_eq_false (by omega)
 have hd2 : decide ((s : Int) < (n : Int)) = false := decide_eq_false (by omega)
 have hE := last_set fs ⟨m, at_, ba, e, s⟩ ⟨m, at_, ba, e, ((s - n : Nat) : Int)⟩ (IntKind.i64.wrap ((s : Int) - n)) (by rw [wrap_in (by omega) (by omega)]; simp only [sized]; congr 1; omega)
 refine acallM_intro tbOK Tryz.func40 rfl (by kernel_rfl) Tryz.ntmps40 (by simp) _ rfl (fun gB hw1 => ?_)
 repeat' (first | refine ao_q rfl (q_isnilad rfl Tryz.underlying142 rfl) rfl rfl ?_ | refine aw_meq 37 rfl hE ?_ | refine sM ?_ | refine ao_q rfl (q_callRW (args := fun ρ => [.ptr (stPV ws (ρ 8) fr lim (fs ++ [⟨m, at_, ba, e, ((s - n : Nat) : Int)⟩])) 0, u64 (IntKind.u64.wrap (e + IntKind.u64.wrap ((s - n : Nat) : Int))), pi n]) rfl (fun _ => rfl) (fun ρ => words_call ws (ρ 8) fr lim (IntKind.u64.wrap (e + IntKind.u64.wrap ((s - n : Nat) : Int))) n (fs ++ [⟨m, at_, ba, e, ((s - n : Nat) : Int)⟩]) (by omega) hws) (by decide) (base_u64 _)) rfl rfl ?_ | refine AD.step _ _ _ _ _ rfl (q_callRW (args := fun ρ => [.ptr (stPV ws (ρ 8) fr lim (fs ++ [⟨m, at_, ba, e, ((s - n : Nat) : Int)⟩])) 0, u64 (IntKind.u64.wrap (e + IntKind.u64.wrap ((s - n : Nat) : Int))), pi n]) rfl (fun _ => rfl) (fun ρ => words_call ws (ρ 8) fr lim (IntKind.u64.wrap (e + IntKind.u64.wrap ((s - n : Nat) : Int))) n (fs ++ [⟨m, at_, ba, e, ((s - n : Nat) : Int)⟩]) (by omega) hws) (by decide) (base_u64 _)) rfl rfl ?_ | refine ao_q rfl (q_mload (k := fs.length) (j := 4) tbOK rfl rfl rfl rfl hp rfl) rfl rfl ?_ | refine AD.step _ _ _ _ _ rfl (q_mload (k := fs.length) (j := 4) tbOK rfl rfl rfl rfl hp rfl) rfl rfl ?_ | refine ao_q rfl (q_mload (k := fs.length) (j := 4) tbOK rfl rfl rfl rfl hp2 rfl) rfl rfl ?_ | refine AD.step _ _ _ _ _ rfl (q_mload (k := fs.length) (j := 4) tbOK rfl rfl rfl rfl hp2 rfl) rfl rfl ?_ | refine ao_q rfl (q_mload (k := fs.length) (j := 3) tbOK rfl rfl rfl rfl hp2 rfl) rfl rfl ?_ | refine AD.step _ _ _ _ _ rfl (q_mload (k := fs.length) (j := 3) tbOK rfl rfl rfl rfl hp2 rfl) rfl rfl ?_ | (refine ao_sh_store ?_; first | refine ao_mstore (k := fs.length) (j := 4) tbOK rfl rfl rfl rfl rfl hp rfl rfl rfl rfl rfl ?_) | (refine ao_sh_call ?_; first | refine ao_callM (skH ws fr lim (fs ++ [⟨m, at_, ba, e, s⟩])) (skH ws fr lim (fs ++ [⟨m, at_, ba, e, s⟩])) [(1000, .pin (.own 0) (us 0)), (1030, .pin (.own 30) (us 30))] [(0, .box 30 0), (1, .pv (pi n))] [0, 30] noLoneH rfl rfl rfl (by repeat (first | exact hsub_nil | refine hsub_cons rfl ?_)) tS rfl rfl rfl cT ?_) | refine sK ?_ | refine sC (fun _ => ?_) (fun _ => ?_) | fail)
 exact ⟨.inr rfl, .inl ⟨_, rfl, rfl, ⟨by repeat (first | exact hsub_nil | refine hsub_cons rfl ?_), rfl⟩⟩⟩
set_option maxHeartbeats 4000000 in
theorem Frame_call (ws : List Int) (fr lim m at_ ba e : Int) (s k : Nat) (fs : List Fr) (_hf : fs.length ≤ 64) (hs : s ≤ 96) (hk : fs[k]? = some ⟨m, at_, ba, e, s⟩) (hws : ws.length ≤ 100000) (us : Nat → Value) :
  ACallM Tryz.prog 44 [.box 30 0, .pv (pi k)] (skH ws fr lim fs ++ pinB us [0, 30]) (.pv (.agg [pi m, pi at_, u64 ba, .slc 1 ((wordsP ws e s).map u64) false])) (skH ws fr lim fs ++ pinB us [0, 30]) := by
 have hlt := (List.getElem?_eq_some_iff.1 hk).1
 have cH := fun mv => thereK_call ws mv fr lim k fs
 rw [decide_eq_true (show (0 : Int) ≤ (k : Int) ∧ (k : Int) < (fs.length : Int) by omega)] at cH
 have hp : (fs.map frPV)[k]? = some (.agg [pi m, pi at_, u64 ba, u64 e, pi s]) := by rw [List.getElem?_map, hk]; rfl
 have hl : k < (fs.map frPV).length := by simpa using hlt
 refine acallM_intro tbOK Tryz.func44 rfl (by kernel_rfl) Tryz.ntmps44 (by simp) _ rfl (fun gB hw1 => ?_)
 repeat' (first | refine ao_q (r := .pv (pb _)) rfl (q_callW (args := fun ρ => [.ptr (stPV ws (ρ 8) fr lim fs) 0, pi k]) rfl (fun _ => rfl) (fun ρ => cH (ρ 8))) rfl rfl ?_ | refine AD.step _ _ _ (.pv (pb _)) _ rfl (q_callW (args := fun ρ => [.ptr (stPV ws (ρ 8) fr lim fs) 0, pi k]) rfl (fun _ => rfl) (fun ρ => cH (ρ 8))) rfl rfl ?_ | refine sM ?_ | refine ao_q rfl (q_mload (k := k) (j := 0) tbOK rfl rfl rfl rfl hp rfl) rfl rfl ?_ | refine AD.step _ _ _ _ _ rfl (q_mload (k := k) (j := 0) tbOK rfl rfl rfl rfl hp rfl) rfl rfl ?_ | refine ao_q rfl (q_callRW (args := fun ρ => [.ptr (stPV ws (ρ 8) fr lim fs) 0, u64 e, pi s]) rfl (fun _ => rfl) (fun ρ => words_call ws (ρ 8) fr lim e s fs (by omega) hws) (by decide) (base_u64 _)) rfl rfl ?_ | refine AD.step _ _ _ _ _ rfl (q_callRW (args := fun ρ => [.ptr (stPV ws (ρ 8) fr lim fs) 0, u64 e, pi s]) rfl (fun _ => rfl) (fun ρ => words_call ws (ρ 8) fr lim e s fs (by omega) hws) (by decide) (base_u64 _)) rfl rfl ?_ | refine aw_draw_tailL 14 13 rfl (by kernel_rfl) (by kernel_rfl) (by kernel_rfl) (by kernel_rfl) (by kernel_rfl) ?_ | (refine shX ?_; first | refine ao_q rfl (q_mindex (k := k) tbOK rfl rfl rfl rfl rfl rfl rfl rfl hl) rfl rfl ?_ | refine AD.step _ _ _ _ _ rfl (q_mindex (k := k) tbOK rfl rfl rfl rfl rfl rfl rfl rfl hl) rfl rfl ?_) | refine sK ?_ | refine sC (fun _ => ?_) (fun _ => ?_) | fail)
 exact ⟨.inr rfl, .inl ⟨_, rfl, rfl, ⟨by repeat (first | exact hsub_nil | refine hsub_cons rfl ?_), rfl⟩⟩⟩
set_option maxHeartbeats 4000000 in
theorem FilterNo_call (ws : List Int) (fr lim k x : Int) (fs : List Fr) (hno : lim ≤ fs.length ∨ k < 0 ∨ (fs.length : Int) ≤ k) (us : Nat → Value) : ACallM Tryz.prog 25 [.box 30 0, .pv (pi k), .pv (u64 x)] (skH ws fr lim fs ++ pinB us [0, 30]) (.pv (pb false)) (skH ws fr lim fs ++ pinB us [0, 30]) := by
 by_cases h1 : lim ≤ fs.length
 ·have hd1 : decide (lim ≤ (fs.length : Int)) = true := decide_eq_true h1
  refine acallM_intro tbOK Tryz.func25 rfl (by kernel_rfl) Tryz.ntmps25 (by simp) _ rfl (fun gB hw1 => ?_)
  repeat' (first | refine ao_q (r := .pv (pb _)) rfl (q_callW (args := fun ρ => [.ptr (stPV ws (ρ 8) fr lim fs) 0]) rfl (fun _ => rfl) (fun ρ => full_call ws (ρ 8) fr lim fs)) rfl rfl ?_ | refine AD.step _ _ _ (.pv (pb _)) _ rfl (q_callW (args := fun ρ => [.ptr (stPV ws (ρ 8) fr lim fs) 0]) rfl (fun _ => rfl) (fun ρ => full_call ws (ρ 8) fr lim fs)) rfl rfl ?_ | refine sK ?_ | refine sC (fun _ => ?_) (fun _ => ?_) | fail)
  exact ⟨.inr rfl, .inl ⟨_, rfl, rfl, ⟨by repeat (first | exact hsub_nil | refine hsub_cons rfl ?_), rfl⟩⟩⟩
 ·have hd1 : decide (lim ≤ (fs.length : Int)) = false := decide_eq_false h1
  have cH := fun mv => thereK_call ws mv fr lim k fs
  rw [decide_eq_false (show ¬((0 : Int) ≤ k ∧ k < (fs.length : Int)) by omega)] at cH
  refine acallM_intro tbOK Tryz.func25 rfl (by kernel_rfl) Tryz.ntmps25 (by simp) _ rfl (fun gB hw1 => ?_)
  repeat' (first | refine ao_q (r := .pv (pb _)) rfl (q_callW (args := fun ρ => [.ptr (stPV ws (ρ 8) fr lim fs) 0]) rfl (fun _ => rfl) (fun ρ => full_call ws (ρ 8) fr lim fs)) rfl rfl ?_ | refine AD.step _ _ _ (.pv (pb _)) _ rfl (q_callW (args := fun ρ => [.ptr (stPV ws (ρ 8) fr lim fs) 0]) rfl (fun _ => rfl) (fun ρ => full_call ws (ρ 8) fr lim fs)) rfl rfl ?_ | refine ao_q (r := .pv (pb _)) rfl (q_callW (args := fun ρ => [.ptr (stPV ws (ρ 8) fr lim fs) 0, pi k]) rfl (fun _ => rfl) (fun ρ => cH (ρ 8))) rfl rfl ?_ | refine AD.step _ _ _ (.pv (pb _)) _ rfl (q_callW (args := fun ρ => [.ptr (stPV ws (ρ 8) fr lim fs) 0, pi k]) rfl (fun _ => rfl) (fun ρ => cH (ρ 8))) rfl rfl ?_ | refine sK ?_ | refine sC (fun _ => ?_) (fun _ => ?_) | fail)
  exact ⟨.inr rfl, .inl ⟨_, rfl, rfl, ⟨by repeat (first | exact hsub_nil | refine hsub_cons rfl ?_), rfl⟩⟩⟩
set_option maxHeartbeats 4000000 in
theorem Filter_call (ws : List Int) (fr lim x : Int) (k : Nat) (fs : List Fr) (f : Fr) (h1 : fs.length < lim) (h64 : lim ≤ 64) (hk : fs[k]? = some f) (hf0 : 0 ≤ fr) (hf1 : fr ≤ 10000) (hws : ws.length ≤ 100000) (us : Nat → Value) :
  ACallM Tryz.prog 25 [.box 30 0, .pv (pi k), .pv (u64 x)] (skH ws fr lim fs ++ pinB us [0, 30]) (.pv (pb true))
   (skH (pushW (zeroW ws (fr + 256 * fs.length) 256) (fr + 256 * fs.length + 152) 0 [x] 1) fr lim (fs ++ [sized (newFr f.method f.at_ f.base (fr + 256 * fs.length)) 1]) ++ pinB us [0, 30]) := by
 have hlt := (List.getElem?_eq_some_iff.1 hk).1
 have hd1 : decide (lim ≤ (fs.length : Int)) = false := decide_eq_false (by omega)
 have cH := fun mv => thereK_call ws mv fr lim k fs
 rw [decide_eq_true (show (0 : Int) ≤ (k : Int) ∧ (k : Int) < (fs.length : Int) by omega)] at cH
 obtain ⟨A, hA⟩ : ∃ A : Int, A = fr + 256 * fs.length := ⟨_, rfl⟩
 have cS := fun mv => start_call ws mv fr lim fs hf0 hf1 (by omega)
 rw [← hA] at cS ⊢
 have hE : (fs.map frPV) ++ [.agg [pi f.method, pi f.at_, u64 f.base, u64 (IntKind.u64.wrap (A + 152)), pi 0]] = (fs ++ [newFr f.method f.at_ f.base A]).map frPV := by
  rw [wrapU_in (by omega) (by omega)]; simp [newFr, frPV]
 have hp : (fs.map frPV)[k]? = some (.agg [pi f.method, pi f.at_, u64 f.base, u64 f.eval, pi f.size]) := by rw [List.getElem?_map, hk]; rfl
 have hl : k < (fs.map frPV).length := by simpa using hlt
 refine acallM_intro tbOK Tryz.func25 rfl (by kernel_rfl) Tryz.ntmps25 (by simp) _ rfl (fun gB hw1 => ?_)
 repeat' (first | refine ao_q (r := .pv (pb _)) rfl (q_callW (args := fun ρ => [.ptr (stPV ws (ρ 8) fr lim fs) 0]) rfl (fun _ => rfl) (fun ρ => full_call ws (ρ 8) fr lim fs)) rfl rfl ?_ | refine AD.step _ _ _ (.pv (pb _)) _ rfl (q_callW (args := fun ρ => [.ptr (stPV ws (ρ 8) fr lim fs) 0]) rfl (fun _ => rfl) (fun ρ => full_call ws (ρ 8) fr lim fs)) rfl rfl ?_ | refine ao_q (r := .pv (pb _)) rfl (q_callW (args := fun ρ => [.ptr (stPV ws (ρ 8) fr lim fs) 0, pi k]) rfl (fun _ => rfl) (fun ρ => cH (ρ 8))) rfl rfl ?_ | refine AD.step _ _ _ (.pv (pb _)) _ rfl (q_callW (args := fun ρ => [.ptr (stPV ws (ρ 8) fr lim fs) 0, pi k]) rfl (fun _ => rfl) (fun ρ => cH (ρ 8))) rfl rfl ?_ | refine ao_q (r := .pv (u64 _)) rfl (q_callW (args := fun ρ => [.ptr (stPV ws (ρ 8) fr lim fs) 0]) rfl (fun _ => rfl) (fun ρ => cS (ρ 8))) rfl rfl ?_ | refine AD.step _ _ _ (.pv (u64 _)) _ rfl (q_callW (args := fun ρ => [.ptr (stPV ws (ρ 8) fr lim fs) 0]) rfl (fun _ => rfl) (fun ρ => cS (ρ 8))) rfl rfl ?_ | refine sK ?_ | refine sC (fun _ => ?_) (fun _ => ?_) | fail)
 refine aw_loop (fun j : Nat => [(0, .box 30 0), (1, .pv (pi k)), (2, .pv (u64 x)), (7, .pv (u64 A)), (20, .pv (u64 j))]) (fun j => skH (zeroW ws A j) fr lim fs ++ pinB us [0, 30]) (fun j => j ≤ 256) (fun j => 256 - j) 0 (by omega) tSU ⟨by repeat (first | exact hsub_nil | refine hsub_cons rfl ?_), rfl⟩ ?_
 rintro j hj
 by_cases hltj : j < 256
 ·have hdk : decide ((j : Int) < 256) = true := decide_eq_true (by omega)
  have cP := fun us' => Put_call (zeroW ws A j) fr 0 (IntKind.u64.wrap (A + (j : Int))) 0 (wrapU_nonneg _) (by rw [zeroW_len]; exact hws) us'
  repeat' (first | refine aw_condT rfl hdk ?_ | (refine ao_sh_call ?_; first | refine ao_callM (memH (zeroW ws A j) fr 0) (memH (zeroW ws A (j + 1)) fr 0) (skR lim fs us) [(0, .box 30 0), (1, .pv (pi k)), (2, .pv (u64 x)), (7, .pv (u64 A)), (20, .pv (u64 j))] [0] noLoneH rfl rfl rfl (by repeat (first | exact hsub_nil | refine hsub_cons rfl ?_)) tS rfl rfl rfl cP ?_) | refine sK ?_ | refine sC (fun _ => ?_) (fun _ => ?_) | fail)
  exact ⟨j + 1, hltj, tD, tSU, ⟨by repeat (first | exact hsub_nil | refine hsub_cons rfl ?_), rfl⟩⟩
 ·have hk2 : j = 256 := by omega
  subst hk2
  have hdF : decide (((256 : Nat) : Int) < 256) = false := rfl
  have cP := fun us' => PushF_call (zeroW ws A 256) fr lim [x] true fs (newFr f.method f.at_ f.base A) (by omega) (by simp [newFr]) (by simp [newFr]) (by rw [zeroW_len]; exact hws) us'
  have e1 : (newFr f.method f.at_ f.base A).size + (([x] : List Int).length : Int) = 1 := by simp [newFr]
  rw [e1] at cP
  repeat' (first | refine aw_condF rfl hdF ?_ | refine aw_meq 37 rfl hE ?_ | refine sM ?_ | refine ao_q rfl (q_mload (k := k) (j := 0) tbOK rfl rfl rfl rfl hp rfl) rfl rfl ?_ | refine AD.step _ _ _ _ _ rfl (q_mload (k := k) (j := 0) tbOK rfl rfl rfl rfl hp rfl) rfl rfl ?_ | refine aw_draw_late 15 0 (by kernel_rfl) (by kernel_rfl) rfl rfl rfl rfl rfl rfl rfl (blind_append rfl rfl rfl) (by kernel_rfl) ?_ | (refine shX ?_; first | refine ao_q rfl (q_mindex (k := k) tbOK rfl rfl rfl rfl rfl rfl rfl rfl hl) rfl rfl ?_ | refine AD.step _ _ _ _ _ rfl (q_mindex (k := k) tbOK rfl rfl rfl rfl rfl rfl rfl rfl hl) rfl rfl ?_) | (refine ao_sh_bi ?_; first | refine ao_mappend tbOK rfl rfl rfl rfl rfl rfl rfl (by show _ * 40 ≤ _; simp only [List.length_map, List.length_cons, List.length_nil]; omega) (by simp only [List.length_map, List.length_cons, List.length_nil]; omega) rfl rfl ?_) | (refine ao_sh_call ?_; first | refine ao_callM (skH (zeroW ws A 256) fr lim (fs ++ [newFr f.method f.at_ f.base A])) (skH (pushW (zeroW ws A 256) (A + 152) 0 [x] 1) fr lim (fs ++ [sized (newFr f.method f.at_ f.base A) 1])) [(1000, .pin (.own 0) (us 0)), (1030, .pin (.own 30) (us 30))] [] [0, 30] noLoneH rfl rfl rfl (by repeat (first | exact hsub_nil | refine hsub_cons rfl ?_)) tS rfl rfl rfl cP ?_) | refine sK ?_ | refine sC (fun _ => ?_) (fun _ => ?_) | fail)
  exact ⟨.inr rfl, .inl ⟨_, rfl, rfl, ⟨by repeat (first | exact hsub_nil | refine hsub_cons rfl ?_), rfl⟩⟩⟩
end Go.Cg
namespace Go.Cg
open Go.Proofs
abbrev nilST : PV := .base (.pointer none)
abbrev fr0PV : PV := .agg [pi 0, pi 0, u64 0, nilS]
set_option maxHeartbeats 1000000 in
theorem DepthN_call : ACall Tryz.prog 24 [nilST] (pi 0) := by
 refine acall_intro tbOK Tryz.func24 rfl (by kernel_rfl) Tryz.ntmps24 (by simp) _ rfl (fun hw gB hgB => ?_)
 repeat' (first | refine ao_q rfl (q_isnil (b := true) rfl Tryz.underlying44 rfl rfl) rfl rfl ?_ | refine AD.step _ _ _ _ _ rfl (q_isnil (b := true) rfl Tryz.underlying44 rfl rfl) rfl rfl ?_ | refine sA ?_ | refine sC (fun _ => ?_) (fun _ => ?_) | fail)
 exact retq rfl rfl
set_option maxHeartbeats 1000000 in
theorem fullN_call : ACall Tryz.prog 71 [nilST] (pb true) := by
 refine acall_intro tbOK Tryz.func71 rfl (by kernel_rfl) Tryz.ntmps71 (by simp) _ rfl (fun hw gB hgB => ?_)
 repeat' (first | refine ao_q rfl (q_isnil (b := true) rfl Tryz.underlying44 rfl rfl) rfl rfl ?_ | refine AD.step _ _ _ _ _ rfl (q_isnil (b := true) rfl Tryz.underlying44 rfl rfl) rfl rfl ?_ | refine sA ?_ | refine sC (fun _ => ?_) (fun _ => ?_) | fail)
 exact retq rfl rfl
set_option maxHeartbeats 1000000 in
theorem thereN_call (k : Int) : ACall Tryz.prog 72 [nilST, pi k] (pb false) := by
 refine acall_intro tbOK Tryz.func72 rfl (by kernel_rfl) Tryz.ntmps72 (by simp) _ rfl (fun hw gB hgB => ?_)
 repeat' (first | refine ao_q rfl (q_notnil0 (b := true) rfl Tryz.underlying44 rfl rfl) rfl rfl ?_ | refine sA ?_ | refine sC (fun _ => ?_) (fun _ => ?_) | fail)
 exact retq rfl rfl
set_option maxHeartbeats 1000000 in
theorem topN_call : ACall Tryz.prog 91 [nilST] nilP := by
 refine acall_intro tbOK Tryz.func91 rfl (by kernel_rfl) Tryz.ntmps91 (by simp) _ rfl (fun hw gB hgB => ?_)
 repeat' (first | (refine shC ?_; first | refine qC DepthN_call ?_) | refine sA ?_ | refine sC (fun _ => ?_) (fun _ => ?_) | fail)
 exact retq rfl rfl
set_option maxHeartbeats 1000000 in
theorem MoveN_call (k a : Int) : ACall Tryz.prog 42 [nilST, pi k, pi a] (.tup []) := by
 refine acall_intro tbOK Tryz.func42 rfl (by kernel_rfl) Tryz.ntmps42 (by simp) _ rfl (fun hw gB hgB => ?_)
 repeat' (first | (refine shC ?_; first | refine qC (thereN_call k) ?_) | refine sA ?_ | refine sC (fun _ => ?_) (fun _ => ?_) | fail)
 exact retn rfl rfl
set_option maxHeartbeats 1000000 in
theorem ClearN_call (k : Int) : ACall Tryz.prog 43 [nilST, pi k] (.tup []) := by
 refine acall_intro tbOK Tryz.func43 rfl (by kernel_rfl) Tryz.ntmps43 (by simp) _ rfl (fun hw gB hgB => ?_)
 repeat' (first | (refine shC ?_; first | refine qC (thereN_call k) ?_) | refine sA ?_ | refine sC (fun _ => ?_) (fun _ => ?_) | fail)
 exact retn rfl rfl
set_option maxHeartbeats 1000000 in
theorem FrameN_call (k : Int) : ACall Tryz.prog 44 [nilST, pi k] fr0PV := by
 refine acall_intro tbOK Tryz.func44 rfl (by kernel_rfl) Tryz.ntmps44 (by simp) _ rfl (fun hw gB hgB => ?_)
 repeat' (first | (refine shC ?_; first | refine qC (thereN_call k) ?_) | refine sA ?_ | refine sC (fun _ => ?_) (fun _ => ?_) | fail)
 exact retq rfl rfl
set_option maxHeartbeats 1000000 in
theorem EnterN_call (a b : Int) (l : PV) : ACall Tryz.prog 26 [nilST, pi a, pi b, l] (pb false) := by
 refine acall_intro tbOK Tryz.func26 rfl (by kernel_rfl) Tryz.ntmps26 (by simp) _ rfl (fun hw gB hgB => ?_)
 repeat' (first | (refine shC ?_; first | refine qC fullN_call ?_) | refine sA ?_ | refine sC (fun _ => ?_) (fun _ => ?_) | fail)
 exact retq rfl rfl
set_option maxHeartbeats 1000000 in
theorem FilterN_call (a x : Int) : ACall Tryz.prog 25 [nilST, pi a, u64 x] (pb false) := by
 refine acall_intro tbOK Tryz.func25 rfl (by kernel_rfl) Tryz.ntmps25 (by simp) _ rfl (fun hw gB hgB => ?_)
 repeat' (first | (refine shC ?_; first | refine qC fullN_call ?_) | refine sA ?_ | refine sC (fun _ => ?_) (fun _ => ?_) | fail)
 exact retq rfl rfl
set_option maxHeartbeats 1000000 in
theorem LeaveN_call : ACall Tryz.prog 27 [nilST] (pb false) := by
 refine acall_intro tbOK Tryz.func27 rfl (by kernel_rfl) Tryz.ntmps27 (by simp) _ rfl (fun hw gB hgB => ?_)
 repeat' (first | (refine shC ?_; first | refine qC DepthN_call ?_) | refine sA ?_ | refine sC (fun _ => ?_) (fun _ => ?_) | fail)
 exact retq rfl rfl
set_option maxHeartbeats 1000000 in
theorem PushN_call (l : PV) : ACall Tryz.prog 38 [nilST, l] (pb false) := by
 refine acall_intro tbOK Tryz.func38 rfl (by kernel_rfl) Tryz.ntmps38 (by simp) _ rfl (fun hw gB hgB => ?_)
 repeat' (first | refine ao_q rfl (q_isnil (b := true) rfl Tryz.underlying142 rfl rfl) rfl rfl ?_ | refine AD.step _ _ _ _ _ rfl (q_isnil (b := true) rfl Tryz.underlying142 rfl rfl) rfl rfl ?_ | (refine shC ?_; first | refine qC topN_call ?_) | refine sA ?_ | refine sC (fun _ => ?_) (fun _ => ?_) | fail)
 exact retq rfl rfl
set_option maxHeartbeats 1000000 in
theorem PopN_call (k : Int) : ACall Tryz.prog 40 [nilST, pi k] nilS := by
 refine acall_intro tbOK Tryz.func40 rfl (by kernel_rfl) Tryz.ntmps40 (by simp) _ rfl (fun hw gB hgB => ?_)
 repeat' (first | refine ao_q rfl (q_isnil (b := true) rfl Tryz.underlying142 rfl rfl) rfl rfl ?_ | refine AD.step _ _ _ _ _ rfl (q_isnil (b := true) rfl Tryz.underlying142 rfl rfl) rfl rfl ?_ | (refine shC ?_; first | refine qC topN_call ?_) | refine sA ?_ | refine sC (fun _ => ?_) (fun _ => ?_) | fail)
 exact retq rfl rfl
set_option maxHeartbeats 1000000 in
theorem VarN_call (k : Int) : ACall Tryz.prog 45 [nilST, pi k] (u64 0) := by
 refine acall_intro tbOK Tryz.func45 rfl (by kernel_rfl) Tryz.ntmps45 (by simp) _ rfl (fun hw gB hgB => ?_)
 repeat' (first | refine ao_q rfl (q_isnil (b := true) rfl Tryz.underlying142 rfl rfl) rfl rfl ?_ | refine AD.step _ _ _ _ _ rfl (q_isnil (b := true) rfl Tryz.underlying142 rfl rfl) rfl rfl ?_ | (refine shC ?_; first | refine qC topN_call ?_) | refine sA ?_ | refine sC (fun _ => ?_) (fun _ => ?_) | fail)
 exact retq rfl rfl
theorem putW_get {ws : List Int} {a x b : Int} (_hb : 0 ≤ b) (h : 0 < a ∧ a < ws.length) : getW (putW ws a x) b = if b = a then x else getW ws b := by
 unfold putW
 rw [if_pos h]
 unfold getW
 rw [List.length_set]
 by_cases hlt : b < ws.length
 ·rw [if_pos hlt, if_pos hlt]
  simp only [List.getD_eq_getElem?_getD, List.getElem?_set]
  by_cases e : b = a
  ·subst e
   have : b.toNat < ws.length := by omega
   simp [this]
  ·rw [if_neg e, if_neg (by omega)]
 ·rw [if_neg hlt, if_neg hlt, if_neg (by omega)]
theorem w21_words (W1 : List Int) (h : W1.length = 16396) : wordsP (pushW W1 164 0 [8, 9] 2) 164 2 = [8, 9] ∧ wordsP (pushW W1 164 0 [8, 9] 2) 165 1 = [9] := by
 have h2 : (putW W1 164 8).length = 16396 := by rw [putW_len, h]
 have g1 : getW (putW (putW W1 164 8) 165 9) 164 = 8 := by rw [putW_get (by omega) (by rw [h2]; omega), if_neg (by omega), putW_get (by omega) (by rw [h]; omega), if_pos rfl]
 have g2 : getW (putW (putW W1 164 8) 165 9) 165 = 9 := by rw [putW_get (by omega) (by rw [h2]; omega), if_pos rfl]
 refine ⟨?_, ?_⟩
 ·show [getW (putW (putW W1 164 8) 165 9) 164, getW (putW (putW W1 164 8) 165 9) 165] = _
  rw [g1, g2]
 ·show [getW (putW (putW W1 164 8) 165 9) 165] = _
  rw [g2]
set_option maxHeartbeats 4000000 in
theorem wakes21_call : ACall Tryz.prog 21 [] (pb true) := by
 have cM := fun us => memory_call us
 have hW0 : (ws0 4 7).length = 16396 := by rw [ws0_len]; rfl
 generalize ws0 4 7 = W0 at *
 obtain ⟨W1, hW1⟩ : ∃ W1, W1 = enterW W0 12 [7] := ⟨_, rfl⟩
 have hl1 : W1.length = 16396 := by rw [hW1, enterW_len, hW0]
 obtain ⟨W2, hW2⟩ : ∃ W2, W2 = pushW W1 164 0 [8, 9] 2 := ⟨_, rfl⟩
 have hl2 : W2.length = 16396 := by rw [hW2, pushW_len, hl1]
 have hw := w21_words W1 hl1
 rw [← hW2] at hw
 have cN := fun us => NewS_call W0 12 2 (by decide) (by decide) us
 have cE : ∀ us, ACallM Tryz.prog 26 [.box 30 0, .pv (pi 3), .pv (pi 2), .pv (.slc 1 [u64 7] true)] (skH W0 12 2 [] ++ pinB us [0, 30]) (.pv (pb true)) (skH W1 12 2 [⟨3, 0, 12, 164, 0⟩] ++ pinB us [0, 30]) := fun us => by
  rw [hW1]; exact Enter_call W0 12 2 3 2 [7] true [] (by decide) (by decide) (by decide) (by decide) (by decide) (by decide) (by omega) us
 have cP : ∀ us, ACallM Tryz.prog 38 [.box 30 0, .pv (.slc 1 [u64 8, u64 9] true)] (skH W1 12 2 [⟨3, 0, 12, 164, 0⟩] ++ pinB us [0, 30]) (.pv (pb true)) (skH W2 12 2 [⟨3, 0, 12, 164, 2⟩] ++ pinB us [0, 30]) := fun us => by
  rw [hW2]; exact PushF_call W1 12 2 [8, 9] true [] ⟨3, 0, 12, 164, 0⟩ (by decide) (by decide) (by decide) (by omega) us
 have cF : ∀ us, ACallM Tryz.prog 44 [.box 30 0, .pv (pi 0)] (skH W2 12 2 [⟨3, 0, 12, 164, 2⟩] ++ pinB us [0, 30]) (.pv (.agg [pi 3, pi 0, u64 12, .slc 1 ([8, 9].map u64) false])) (skH W2 12 2 [⟨3, 0, 12, 164, 2⟩] ++ pinB us [0, 30]) := fun us => by
  rw [← hw.1]; exact Frame_call W2 12 2 3 0 12 164 2 0 [⟨3, 0, 12, 164, 2⟩] (by decide) (by decide) rfl (by omega) us
 have cO : ∀ us, ACallM Tryz.prog 40 [.box 30 0, .pv (pi 1)] (skH W2 12 2 [⟨3, 0, 12, 164, 2⟩] ++ pinB us [0, 30]) (.pv (.slc 1 ([9].map u64) false)) (skH W2 12 2 [⟨3, 0, 12, 164, 1⟩] ++ pinB us [0, 30]) := fun us => by
  have := PopF_call W2 12 2 3 0 12 164 2 1 [] (by decide) (by decide) (by decide) (by omega) us
  rw [show IntKind.u64.wrap (164 + IntKind.u64.wrap ((2 - 1 : Nat) : Int)) = 165 from by decide, hw.2] at this
  exact this
 have s1 := SameWords_call [8, 9] [8, 9] false true (by decide) (by decide)
 have s2 := SameWords_call [9] [9] false true (by decide) (by decide)
 rw [decide_eq_true rfl] at s1 s2
 clear hW1 hW2 hl1 hl2 hw hW0
 refine acall_intro tbOK Tryz.func21 rfl (by kernel_rfl) Tryz.ntmps21 (by simp) _ rfl (fun hw gB hgB => ?_)
 repeat' (first | refine ao_q (r := .pv (pi 1)) rfl (q_callW (args := fun ρ => [.ptr (stPV W2 (ρ 8) 12 2 [⟨3, 0, 12, 164, 2⟩]) 0]) rfl (fun _ => rfl) (fun ρ => Depth_call W2 (ρ 8) 12 2 [⟨3, 0, 12, 164, 2⟩])) rfl rfl ?_ | refine AD.step _ _ _ (.pv (pi 1)) _ rfl (q_callW (args := fun ρ => [.ptr (stPV W2 (ρ 8) 12 2 [⟨3, 0, 12, 164, 2⟩]) 0]) rfl (fun _ => rfl) (fun ρ => Depth_call W2 (ρ 8) 12 2 [⟨3, 0, 12, 164, 2⟩])) rfl rfl ?_ | (refine shC ?_; first | refine qC s1 ?_ | refine qC s2 ?_) | (refine ao_sh_call ?_; first | refine ao_callM [] (memH W0 12 0) [] [] [] noLoneH rfl rfl rfl (by repeat (first | exact hsub_nil | refine hsub_cons rfl ?_)) tS rfl rfl rfl cM ?_ | refine ao_callM (memH W0 12 0) (skH W0 12 2 []) [] [] [0] noLoneH rfl rfl rfl (by repeat (first | exact hsub_nil | refine hsub_cons rfl ?_)) tS rfl rfl rfl cN ?_ | refine ao_callM (skH W0 12 2 []) (skH W1 12 2 [⟨3, 0, 12, 164, 0⟩]) [] [(1, .box 30 0)] [0, 30] noLoneH rfl rfl rfl (by repeat (first | exact hsub_nil | refine hsub_cons rfl ?_)) tS rfl rfl rfl cE ?_ | refine ao_callM (skH W1 12 2 [⟨3, 0, 12, 164, 0⟩]) (skH W2 12 2 [⟨3, 0, 12, 164, 2⟩]) [] [(1, .box 30 0), (8, .pv (pb true))] [0, 30] noLoneH rfl rfl rfl (by repeat (first | exact hsub_nil | refine hsub_cons rfl ?_)) tS rfl rfl rfl cP ?_ | refine ao_callM (skH W2 12 2 [⟨3, 0, 12, 164, 2⟩]) (skH W2 12 2 [⟨3, 0, 12, 164, 2⟩]) [] [(1, .box 30 0), (19, .pv (pb true))] [0, 30] noLoneH rfl rfl rfl (by repeat (first | exact hsub_nil | refine hsub_cons rfl ?_)) tS rfl rfl rfl cF ?_ | refine ao_callM (skH W2 12 2 [⟨3, 0, 12, 164, 2⟩]) (skH W2 12 2 [⟨3, 0, 12, 164, 1⟩]) [] [(1, .box 30 0), (26, .pv (pb true))] [0, 30] noLoneH rfl rfl rfl (by repeat (first | exact hsub_nil | refine hsub_cons rfl ?_)) tS rfl rfl rfl cO ?_) | refine sK ?_ | refine sC (fun _ => ?_) (fun _ => ?_) | fail)
 exact retq rfl rfl
set_option maxHeartbeats 2000000 in
theorem FramesNil_call (n x : Int) : ACall Tryz.prog 8 [pi n, u64 x] (pb true) := by
 refine acall_intro tbOK Tryz.func8 rfl (by kernel_rfl) Tryz.ntmps8 (by simp) _ rfl (fun hw gB hgB => ?_)
 repeat' (first | (refine shC ?_; first | refine qC wakes21_call ?_ | refine qC (MoveN_call n 1) ?_ | refine qC (ClearN_call n) ?_ | refine qC (FrameN_call n) ?_ | refine qC (EnterN_call n 1 nilS) ?_ | refine qC (FilterN_call n x) ?_ | refine qC LeaveN_call ?_ | refine qC DepthN_call ?_ | refine qC (PushN_call _) ?_ | refine qC (PopN_call n) ?_ | refine qC (VarN_call n) ?_) | refine sK ?_ | refine sC (fun _ => ?_) (fun _ => ?_) | fail)
 exact retq rfl rfl
end Go.Cg
namespace Go.Cg
open Go.RowKit Go.ChangeShapes Go.WideShapes Go.ChangeAt Go.Deep
def KW (w : World) : KK := fun b _ => b < w.heap.size
section
variable {H : Type} {enc : TypeId × Value → H} {P : Program} {w : World}
def Rd (enc : TypeId × Value → H) (P : Program) (w : World) (t : TypeId) (sz : Nat) (X : List PV → Prop) : Prop :=
 P.cellsOf t = sz ∧ ∀ fuel cs x, DataW.trod enc P w 0 (fun _ => true) true fuel t cs = some x → ∃ pvs, X pvs ∧ PRels (KW w) w pvs cs ∧ cs.length = sz ∧ (∀ v ∈ cs, v.oneCell' = true)
theorem Rd.mono {t : TypeId} {sz : Nat} {X Y : List PV → Prop} (h : Rd enc P w t sz X) (hxy : ∀ ps, X ps → Y ps) : Rd enc P w t sz Y :=
 ⟨h.1, fun fuel cs x hx => let ⟨ps, h1, h2⟩ := h.2 fuel cs x hx; ⟨ps, hxy ps h1, h2⟩⟩
theorem rd_int {t : TypeId} {k : IntKind} (ht : P.underlying t = some (.int k)) (hc : P.cellsOf t = 1) : Rd enc P w t 1 (fun ps => ∃ n, (Lit.int k n).wf = true ∧ ps = [.base (.int k n)]) := by
 refine ⟨hc, fun fuel cs x hx => ?_⟩
 obtain ⟨n, rfl, _, hw⟩ := DataW.trod_int ht hx
 exact ⟨_, ⟨n, hw, rfl⟩, .cons (.base _ rfl) .nil, rfl, by simp [Value.oneCell']⟩
theorem rd_bool {t : TypeId} (ht : P.underlying t = some .bool) (hc : P.cellsOf t = 1) : Rd enc P w t 1 (fun ps => ∃ b, ps = [.base (.bool b)]) := by
 refine ⟨hc, fun fuel cs x hx => ?_⟩
 obtain ⟨b, rfl, _⟩ := DataW.trod_bool ht hx
 exact ⟨_, ⟨b, rfl⟩, .cons (.base _ rfl) .nil, rfl, by simp [Value.oneCell']⟩
theorem rd_string {t : TypeId} (ht : P.underlying t = some .string) (hc : P.cellsOf t = 1) : Rd enc P w t 1 (fun ps => ∃ s : ByteArray, s.size ≤ maxLen ∧ ps = [.base (.string s)]) := by
 refine ⟨hc, fun fuel cs x hx => ?_⟩
 obtain ⟨s, rfl, _, hs⟩ := DataW.trod_string ht hx
 exact ⟨_, ⟨s, hs, rfl⟩, .cons (.base _ (by simpa [baseOk] using hs)) .nil, rfl, by simp [Value.oneCell']⟩
theorem rd_slice {t e : TypeId} {sz : Nat} {α : Type} [Inhabited α] {G : α → Prop} {f : α → PV} (ht : P.underlying t = some (.slice e)) (hc : P.cellsOf t = 1) (h0 : 0 < sz) (he : Rd enc P w e sz (fun ps => ∃ x : α, G x ∧ ps = (f x).cells)) :
  Rd enc P w t 1 (fun ps => ∃ l : List α, (∀ x ∈ l, G x) ∧ ps = [.slc sz (l.map f) false]) := by
 refine ⟨hc, fun fuel cs x hx => ?_⟩
 obtain ⟨hes, hel⟩ := he
 rcases open_slice ht hx with ⟨rfl, _⟩ | ⟨a, len, cap, m, n, D, Pl, rfl, _, hl, hm, hmm, _, hall⟩
 ·exact ⟨_, ⟨[], by simp, rfl⟩, .cons (.nil sz false) .nil, rfl, by simp [Value.oneCell']⟩
 ·simp only [if_true] at hmm
  subst hmm
  rw [hes] at hall
  by_cases hcap : m = 0
  ·subst hcap
   obtain rfl : len = 0 := by omega
   exact ⟨_, ⟨[], by simp, rfl⟩, .cons (.emp sz false a) .nil, rfl, by simp [Value.oneCell']⟩
  ·have hx : ∀ i, i < len → ∃ y : α × List Value, G y.1 ∧ w.cells? 0 (a.add (i * sz)) sz = some y.2 ∧ PRels (KW w) w (f y.1).cells y.2 ∧ y.2.length = sz ∧ (∀ v ∈ y.2, v.oneCell' = true) := by
    intro i hi
    obtain ⟨cs', h1, h2⟩ := hall i (by omega)
    obtain ⟨pvs, ⟨x, hg, rfl⟩, h4, h5, h6⟩ := hel _ _ _ h2
    exact ⟨(x, cs'), hg, h1, h4, h5, h6⟩
   obtain ⟨F, hF⟩ := choose_lt hx
   obtain ⟨b, o, spot⟩ := a
   have hspot : spot = none := by
    obtain ⟨cs', h1, _⟩ := hall 0 (by omega)
    obtain ⟨_, h2, h3⟩ := World.cells?_some h1
    have := h3 0 h0
    have h4 : cs'[0]? = some (cs'[0]'(by omega)) := List.getElem?_eq_getElem _
    rw [h4] at this
    simp only [Nat.zero_mul] at this
    have := World.cell?_spot this
    simpa [Addr.add] using this
   subst hspot
   refine ⟨_, ⟨(List.range len).map fun i => (F i).1, ?_, rfl⟩, .cons ?_ .nil, rfl, by simp [Value.oneCell']⟩
   ·intro x hx
    simp only [List.mem_map, List.mem_range] at hx
    obtain ⟨i, hi, rfl⟩ := hx
    exact (hF i hi).1
   ·have hlen : (((List.range len).map fun i => (F i).1).map f).length = len := by simp
    have hget : ∀ i e, (((List.range len).map fun i => (F i).1).map f)[i]? = some e → i < len ∧ e = f (F i).1 := by
     intro i e he
     have hi : i < len := by have := (List.getElem?_eq_some_iff.1 he).1; rw [hlen] at this; exact this
     refine ⟨hi, ?_⟩
     simp [hi] at he
     exact he.symm
    have := PRel.slc (K := KW w) (w := w) sz (((List.range len).map fun i => (F i).1).map f) false b o m (fun i => (F i).2) h0 (by rw [hlen]; exact hl) (by simp) (by rw [hlen]; omega) hm
     (fun i e he => by
      obtain ⟨hi, rfl⟩ := hget i e he
      obtain ⟨_, h1, h2, h3, h4⟩ := hF i hi
      refine ⟨by rw [← h2.1]; exact h3, h3, fun k v hv => ?_⟩
      have hk : k < sz := by rw [← h3]; exact (List.getElem?_eq_some_iff.1 hv).1
      obtain ⟨_, _, h5⟩ := World.cells?_some h1
      have h6 := h5 k hk
      rw [hv, Addr.add_lit, Addr.add_lit] at h6
      have h7 : b < w.heap.size := World.cells?_block h1 h0 |> (by simpa [Addr.add_lit] using ·)
      exact ⟨h7, h6, h4 v (List.mem_of_getElem? hv)⟩)
     (fun i e k c v he hc hv => by
      obtain ⟨hi, rfl⟩ := hget i e he
      exact (hF i hi).2.2.1.2 k c v hc hv)
    rw [hlen] at this
    exact this
def CatX : List (List PV → Prop) → List PV → Prop
 | [], ps => ps = []
 | X :: r, ps => ∃ a b, X a ∧ CatX r b ∧ ps = a ++ b
def FitsF (enc : TypeId × Value → H) (P : Program) (w : World) (n : Nat) : List Field → List (List PV → Prop) → Nat → Prop
 | [], [], off => off = n
 | f :: fs, X :: Xs, off => f.offset = off ∧ ∃ sz, Rd enc P w f.type sz X ∧ FitsF enc P w n fs Xs (off + sz)
 | _, _, _ => False
theorem fits_nil {n : Nat} : FitsF enc P w n [] [] n := rfl
theorem fits_cons {n sz off : Nat} {f : Field} {fs : List Field} {X : List PV → Prop} {Xs : List (List PV → Prop)} (ho : f.offset = off) (hr : Rd enc P w f.type sz X) (h : FitsF enc P w n fs Xs (off + sz)) : FitsF enc P w n (f :: fs) (X :: Xs) off := ⟨ho, sz, hr, h⟩
theorem fitsF_rd {n m : Nat} {cs : List Value} (hl : cs.length = n) : ∀ {fs : List Field} {Xs : List (List PV → Prop)} {off : Nat}, FitsF enc P w n fs Xs off →
  (∀ (i : Nat) (f : Field), fs[i]? = some f → ∃ x, DataW.trod enc P w 0 (fun _ => true) true m f.type ((cs.drop f.offset).take (P.cellsOf f.type)) = some x) →
  ∃ pvs, CatX Xs pvs ∧ PRels (KW w) w pvs (cs.drop off) ∧ (∀ v ∈ cs.drop off, v.oneCell' = true)
 | [], [], off, h, _ => by
  have h : off = n := h
  subst h
  have : cs.drop off = [] := by rw [← hl]; simp
  rw [this]
  exact ⟨[], rfl, .nil, by simp⟩
 | f :: fs, X :: Xs, off, h, hall => by
  obtain ⟨rfl, sz, ⟨h1, h2⟩, h3⟩ := h
  obtain ⟨x, hx⟩ := hall 0 f rfl
  obtain ⟨pa, a1, a2, a3, a4⟩ := h2 _ _ _ hx
  obtain ⟨pb, b1, b2, b3⟩ := fitsF_rd hl h3 (fun i g hg => hall (i + 1) g (by simpa using hg))
  have e : cs.drop f.offset = (cs.drop f.offset).take sz ++ cs.drop (f.offset + sz) := by
   rw [← List.drop_drop, List.take_append_drop]
  rw [h1] at a2 a3 a4
  rw [e]
  exact ⟨pa ++ pb, ⟨pa, pb, a1, b1, rfl⟩, a2.append b2, fun v hv => (List.mem_append.1 hv).elim (a4 v) (b3 v)⟩
theorem rd_struct {t : TypeId} {fs : Array Field} {n : Nat} {Xs : List (List PV → Prop)} (ht : P.underlying t = some (.struct fs)) (hc : P.cellsOf t = n) (hf : FitsF enc P w n fs.toList Xs 0) : Rd enc P w t n (CatX Xs) := by
 refine ⟨hc, fun fuel cs x hx => ?_⟩
 obtain ⟨xs, m, _, _, hl, hxs, hall⟩ := DataW.trod_struct ht hx
 have := fitsF_rd (m := m) (by rw [hl, hc]) hf (fun i f hf => by
  have hi : i < fs.size := by simpa using (List.getElem?_eq_some_iff.1 hf).1
  have := hall i f (by simpa using hf)
  exact ⟨_, this.trans (List.getElem?_eq_getElem (by omega))⟩)
 simp only [List.drop_zero] at this
 obtain ⟨pvs, h1, h2, h3⟩ := this
 exact ⟨pvs, h1, h2, by rw [hl, hc], h3⟩
theorem rd_one {t : TypeId} {X : List PV → Prop} (h : Rd enc P w t 1 X) {v : Value} {d : DataW H} {ps : List MemPlace} (hv : v.cells = #[v]) (ht : DataW.Trod enc P w 0 (fun _ => true) true t v d ps) : ∃ p, X [p] ∧ PRel (KW w) w p v := by
 obtain ⟨fuel, hx⟩ := ht
 obtain ⟨pvs, h1, h2, _, _⟩ := h.2 _ _ _ hx
 rw [hv] at h2
 have hl : pvs.length = 1 := by simpa using h2.1.symm
 obtain ⟨p, rfl⟩ := List.length_eq_one_iff.1 hl
 exact ⟨p, h1, h2.2 0 p v (by simp) (by simp)⟩
theorem rd_agg {t : TypeId} {n : Nat} {X : List PV → Prop} (h : Rd enc P w t n X) {cs : Array Value} {d : DataW H} {ps : List MemPlace} (ht : DataW.Trod enc P w 0 (fun _ => true) true t (.agg cs) d ps) : ∃ pvs, X pvs ∧ PRel (KW w) w (.agg pvs) (.agg cs) := by
 obtain ⟨fuel, hx⟩ := ht
 obtain ⟨pvs, h1, h2, _, h4⟩ := h.2 _ _ _ hx
 refine ⟨pvs, h1, ?_⟩
 have := PRel.agg pvs cs.toList h2.1 (by simpa [Value.cells] using h4) (by simpa [Value.cells] using h2.2)
 simpa using this
theorem okWide_slice_one {t e : TypeId} {v : Value} (ht : P.underlying t = some (.slice e)) {base : Nat} (h : Value.okWide P w .any base t v) : v.cells = #[v] := by
 simp only [Value.okWide, ht, Cell.okWide, Cell.ok] at h
 cases v <;> first | rfl | simp at h
theorem okWide_int_one {t : TypeId} {k : IntKind} {v : Value} (ht : P.underlying t = some (.int k)) {base : Nat} (h : Value.okWide P w .any base t v) : v.cells = #[v] := by
 simp only [Value.okWide, ht, Cell.okWide, Cell.ok] at h
 cases v <;> first | rfl | simp at h
theorem okWide_struct {t : TypeId} {fs : Array Field} {v : Value} (ht : P.underlying t = some (.struct fs)) {base : Nat} (h : Value.okWide P w .any base t v) : ∃ cs, v = .agg cs := by
 simp only [Value.okWide, ht] at h
 obtain ⟨cs, h, _⟩ := h
 exact ⟨cs, h⟩
theorem okWide_array {t e : TypeId} {n : Nat} {v : Value} (ht : P.underlying t = some (.array n e)) {base : Nat} (h : Value.okWide P w .any base t v) : ∃ cs, v = .agg cs := by
 simp only [Value.okWide, ht] at h
 obtain ⟨cs, h, _⟩ := h
 exact ⟨cs, h⟩
theorem rd_array3 {t e : TypeId} {sz : Nat} {X : List PV → Prop} (ht : P.underlying t = some (.array 3 e)) (hc : P.cellsOf t = 3 * sz) (he : Rd enc P w e sz X) : Rd enc P w t (3 * sz) (CatX [X, X, X]) := by
 refine ⟨hc, fun fuel cs x hx => ?_⟩
 obtain ⟨xs, m, _, _, hl, hxs, hall⟩ := DataW.trod_array ht hx
 obtain ⟨hes, hel⟩ := he
 rw [hc] at hl
 rw [hes] at hall
 have one : ∀ i, i < 3 → ∃ pvs, X pvs ∧ PRels (KW w) w pvs ((cs.drop (i * sz)).take sz) ∧ (∀ v ∈ (cs.drop (i * sz)).take sz, v.oneCell' = true) := by
  intro i hi
  have h1 := (hall i hi).trans (List.getElem?_eq_getElem (by omega))
  obtain ⟨pvs, h2, h3, _, h5⟩ := hel _ _ _ h1
  exact ⟨pvs, h2, h3, h5⟩
 obtain ⟨a, a1, a2, a3⟩ := one 0 (by omega)
 obtain ⟨b, b1, b2, b3⟩ := one 1 (by omega)
 obtain ⟨c, c1, c2, c3⟩ := one 2 (by omega)
 have hcs : cs = (cs.drop (0 * sz)).take sz ++ ((cs.drop (1 * sz)).take sz ++ (cs.drop (2 * sz)).take sz) := by
  have e1 : cs = cs.take sz ++ (cs.drop sz) := (List.take_append_drop sz cs).symm
  have e2 : cs.drop sz = (cs.drop sz).take sz ++ (cs.drop sz).drop sz := (List.take_append_drop sz _).symm
  have e3 : (cs.drop sz).drop sz = (cs.drop (2 * sz)).take sz := by
   rw [List.drop_drop, show sz + sz = 2 * sz by omega, List.take_of_length_le]; simp; omega
  simp only [Nat.zero_mul, List.drop_zero, Nat.one_mul]
  rw [← e3, ← e2, ← e1]
 refine ⟨a ++ (b ++ c), ⟨a, b ++ c, a1, ⟨b, c, b1, ⟨c, [], c1, rfl, by simp⟩, rfl⟩, rfl⟩, ?_, hl, ?_⟩
 ·rw [hcs]; exact a2.append (b2.append c2)
 ·rw [hcs]
  intro v hv
  simp only [List.mem_append] at hv
  rcases hv with hv | hv | hv
  ·exact a3 v hv
  ·exact b3 v hv
  ·exact c3 v hv
end
end Go.Cg
namespace Go.Cg
open Go.RowKit Go.Proofs
def okTy (t : Ty) : Prop := (Lit.int .i64 t.kind).wf = true ∧ (Lit.int .i64 t.index).wf = true ∧ (Lit.int .i64 t.dims).wf = true
def okTys (l : List Ty) : Prop := ∀ t ∈ l, okTy t
def okTD (t : TD) : Prop := (Lit.int .i64 t.flags).wf = true ∧ (Lit.int .i64 t.ext).wf = true ∧ ∀ f ∈ t.faces, (Lit.int .i64 f).wf = true
def okFd (f : Fd) : Prop := (Lit.int .i64 f.owner).wf = true ∧ okTy f.ty
def okIns (x : Ins) : Prop := (Lit.int .i64 x.op).wf = true ∧ (Lit.int .i64 x.arg).wf = true ∧ okTy x.t
def okCl (c : Cl) : Prop := (Lit.int .i64 c.kind).wf = true ∧ (Lit.int .i64 c.tf).wf = true ∧ (Lit.int .i64 c.tt).wf = true ∧ (Lit.int .i64 c.hf).wf = true ∧ (Lit.int .i64 c.ht).wf = true ∧ (Lit.int .i64 c.filter).wf = true ∧ okTy c.t
def okMe (m : Me) : Prop := (Lit.int .i64 m.owner).wf = true ∧ (Lit.int .i64 m.flags).wf = true ∧ okTys m.params ∧ okTy m.ret ∧ okTys m.locals ∧ (Lit.int .i64 m.max).wf = true ∧ (∀ x ∈ m.code, okIns x) ∧ ∀ c ∈ m.clauses, okCl c
def okImg (g : Img) : Prop := (∀ t ∈ g.types, okTD t) ∧ (∀ f ∈ g.fields, okFd f) ∧ (∀ m ∈ g.methods, okMe m) ∧ (Lit.int .i64 g.entry).wf = true
def arrPV (l : Ty × Ty × Ty) : PV := .agg ((tyPV l.1).cells ++ ((tyPV l.2.1).cells ++ (tyPV l.2.2).cells))
def okArr (l : Ty × Ty × Ty) : Prop := okTy l.1 ∧ okTy l.2.1 ∧ okTy l.2.2
def okU8 (n : Int) : Prop := (Lit.int .u8 n).wf = true
section
variable {H : Type} {enc : TypeId × Value → H} {w : World}
theorem rdInt : Rd enc Tryz.prog w 3 1 (fun ps => ∃ n, (Lit.int .i64 n).wf = true ∧ ps = [.base (.int .i64 n)]) := rd_int Tryz.underlying3 (by kernel_rfl)
theorem rdInt64 : Rd enc Tryz.prog w 2 1 (fun ps => ∃ n, (Lit.int .i64 n).wf = true ∧ ps = [.base (.int .i64 n)]) := rd_int Tryz.underlying2 (by kernel_rfl)
theorem rdBool : Rd enc Tryz.prog w 4 1 (fun ps => ∃ b, ps = [.base (.bool b)]) := rd_bool Tryz.underlying4 (by kernel_rfl)
theorem rdStr : Rd enc Tryz.prog w 9 1 (fun ps => ∃ s : ByteArray, s.size ≤ maxLen ∧ ps = [.base (.string s)]) := rd_string Tryz.underlying9 (by kernel_rfl)
theorem rdTy : Rd enc Tryz.prog w 36 4 (fun ps => ∃ t : Ty, okTy t ∧ ps = (tyPV t).cells) := by
 refine (rd_struct Tryz.underlying36 (by kernel_rfl) (fits_cons rfl rdInt (fits_cons rfl rdInt (fits_cons rfl rdInt (fits_cons rfl rdBool fits_nil))))).mono ?_
 rintro _ ⟨_, _, ⟨a, ha, rfl⟩, ⟨_, _, ⟨b, hb, rfl⟩, ⟨_, _, ⟨c, hc, rfl⟩, ⟨_, _, ⟨d, rfl⟩, rfl, rfl⟩, rfl⟩, rfl⟩, rfl⟩
 exact ⟨⟨a, b, c, d⟩, ⟨ha, hb, hc⟩, rfl⟩
theorem rdTys : Rd enc Tryz.prog w 92 1 (fun ps => ∃ l : List Ty, okTys l ∧ ps = [tys l]) := rd_slice Tryz.underlying92 (by kernel_rfl) (by decide) rdTy
theorem rdInts : Rd enc Tryz.prog w 81 1 (fun ps => ∃ l : List Int, (∀ n ∈ l, (Lit.int .i64 n).wf = true) ∧ ps = [ints l]) :=
 rd_slice (f := pi) Tryz.underlying81 (by kernel_rfl) (by decide) rdInt
theorem rdTD : Rd enc Tryz.prog w 113 4 (fun ps => ∃ t : TD, okTD t ∧ ps = (tdPV t).cells) := by
 refine (rd_struct Tryz.underlying113 (by kernel_rfl) (fits_cons rfl rdStr (fits_cons rfl rdInt (fits_cons rfl rdInt (fits_cons rfl rdInts fits_nil))))).mono ?_
 rintro _ ⟨_, _, ⟨a, ha, rfl⟩, ⟨_, _, ⟨b, hb, rfl⟩, ⟨_, _, ⟨c, hc, rfl⟩, ⟨_, _, ⟨d, hd, rfl⟩, rfl, rfl⟩, rfl⟩, rfl⟩, rfl⟩
 exact ⟨⟨a, b, c, d⟩, ⟨hb, hc, hd⟩, rfl⟩
theorem rdFd : Rd enc Tryz.prog w 167 7 (fun ps => ∃ t : Fd, okFd t ∧ ps = (fdPV t).cells) := by
 refine (rd_struct Tryz.underlying167 (by kernel_rfl) (fits_cons rfl rdStr (fits_cons rfl rdInt (fits_cons rfl rdTy (fits_cons rfl rdBool fits_nil))))).mono ?_
 rintro _ ⟨_, _, ⟨a, ha, rfl⟩, ⟨_, _, ⟨b, hb, rfl⟩, ⟨_, _, ⟨c, hc, rfl⟩, ⟨_, _, ⟨d, rfl⟩, rfl, rfl⟩, rfl⟩, rfl⟩, rfl⟩
 exact ⟨⟨a, b, c, d⟩, ⟨hb, hc⟩, rfl⟩
theorem rdIns : Rd enc Tryz.prog w 108 6 (fun ps => ∃ t : Ins, okIns t ∧ ps = (insPV t).cells) := by
 refine (rd_struct Tryz.underlying108 (by kernel_rfl) (fits_cons rfl rdInt (fits_cons rfl rdInt64 (fits_cons rfl rdTy fits_nil)))).mono ?_
 rintro _ ⟨_, _, ⟨a, ha, rfl⟩, ⟨_, _, ⟨b, hb, rfl⟩, ⟨_, _, ⟨c, hc, rfl⟩, rfl, rfl⟩, rfl⟩, rfl⟩
 exact ⟨⟨a, b, c⟩, ⟨ha, hb, hc⟩, rfl⟩
theorem rdCl : Rd enc Tryz.prog w 194 10 (fun ps => ∃ t : Cl, okCl t ∧ ps = (clPV t).cells) := by
 refine (rd_struct Tryz.underlying194 (by kernel_rfl) (fits_cons rfl rdInt (fits_cons rfl rdInt (fits_cons rfl rdInt (fits_cons rfl rdInt (fits_cons rfl rdInt (fits_cons rfl rdInt (fits_cons rfl rdTy fits_nil)))))))).mono ?_
 rintro _ ⟨_, _, ⟨a, ha, rfl⟩, ⟨_, _, ⟨b, hb, rfl⟩, ⟨_, _, ⟨c, hc, rfl⟩, ⟨_, _, ⟨d, hd, rfl⟩, ⟨_, _, ⟨e, he, rfl⟩, ⟨_, _, ⟨f, hf, rfl⟩, ⟨_, _, ⟨t, ht, rfl⟩, rfl, rfl⟩, rfl⟩, rfl⟩, rfl⟩, rfl⟩, rfl⟩, rfl⟩
 exact ⟨⟨a, b, c, d, e, f, t⟩, ⟨ha, hb, hc, hd, he, hf, ht⟩, rfl⟩
theorem rdCode : Rd enc Tryz.prog w 102 1 (fun ps => ∃ l : List Ins, (∀ x ∈ l, okIns x) ∧ ps = [.slc 6 (l.map insPV) false]) := rd_slice Tryz.underlying102 (by kernel_rfl) (by decide) rdIns
theorem rdCls : Rd enc Tryz.prog w 103 1 (fun ps => ∃ l : List Cl, (∀ x ∈ l, okCl x) ∧ ps = [.slc 10 (l.map clPV) false]) := rd_slice Tryz.underlying103 (by kernel_rfl) (by decide) rdCl
theorem rdMe : Rd enc Tryz.prog w 105 12 (fun ps => ∃ t : Me, okMe t ∧ ps = (mePV t).cells) := by
 refine (rd_struct Tryz.underlying105 (by kernel_rfl) (fits_cons rfl rdStr (fits_cons rfl rdInt (fits_cons rfl rdInt (fits_cons rfl rdTys (fits_cons rfl rdTy (fits_cons rfl rdTys (fits_cons rfl rdInt (fits_cons rfl rdCode (fits_cons rfl rdCls fits_nil)))))))))).mono ?_
 rintro _ ⟨_, _, ⟨a, ha, rfl⟩, ⟨_, _, ⟨b, hb, rfl⟩, ⟨_, _, ⟨c, hc, rfl⟩, ⟨_, _, ⟨d, hd, rfl⟩, ⟨_, _, ⟨e, he, rfl⟩, ⟨_, _, ⟨f, hf, rfl⟩, ⟨_, _, ⟨t, ht, rfl⟩, ⟨_, _, ⟨x, hx, rfl⟩, ⟨_, _, ⟨y, hy, rfl⟩, rfl, rfl⟩, rfl⟩, rfl⟩, rfl⟩, rfl⟩, rfl⟩, rfl⟩, rfl⟩, rfl⟩
 exact ⟨⟨a, b, c, d, e, f, t, x, y⟩, ⟨hb, hc, hd, he, hf, ht, hx, hy⟩, rfl⟩
theorem rdTDs : Rd enc Tryz.prog w 22 1 (fun ps => ∃ l : List TD, (∀ x ∈ l, okTD x) ∧ ps = [.slc 4 (l.map tdPV) false]) := rd_slice Tryz.underlying22 (by kernel_rfl) (by decide) rdTD
theorem rdFds : Rd enc Tryz.prog w 23 1 (fun ps => ∃ l : List Fd, (∀ x ∈ l, okFd x) ∧ ps = [.slc 7 (l.map fdPV) false]) := rd_slice Tryz.underlying23 (by kernel_rfl) (by decide) rdFd
theorem rdMes : Rd enc Tryz.prog w 24 1 (fun ps => ∃ l : List Me, (∀ x ∈ l, okMe x) ∧ ps = [.slc 12 (l.map mePV) false]) := rd_slice Tryz.underlying24 (by kernel_rfl) (by decide) rdMe
theorem rdImg : Rd enc Tryz.prog w 26 4 (fun ps => ∃ t : Img, okImg t ∧ ps = (imgPV t).cells) := by
 refine (rd_struct Tryz.underlying26 (by kernel_rfl) (fits_cons rfl rdTDs (fits_cons rfl rdFds (fits_cons rfl rdMes (fits_cons rfl rdInt fits_nil))))).mono ?_
 rintro _ ⟨_, _, ⟨a, ha, rfl⟩, ⟨_, _, ⟨b, hb, rfl⟩, ⟨_, _, ⟨c, hc, rfl⟩, ⟨_, _, ⟨d, hd, rfl⟩, rfl, rfl⟩, rfl⟩, rfl⟩, rfl⟩
 exact ⟨⟨a, b, c, d⟩, ⟨ha, hb, hc, hd⟩, rfl⟩
end
theorem own : ownKnob Tryz.prog.godebug = none := by kernel_rfl
theorem laidOut : laidOutB Tryz.prog = true := by kernel_rfl
end Go.Cg
namespace Go.Cg
open Go.RowKit Go.Proofs
theorem rdU8 {H : Type} {enc : TypeId × Value → H} {w : World} : Rd enc Tryz.prog w 5 1 (fun ps => ∃ n, okU8 n ∧ ps = [.base (.int .u8 n)]) := rd_int Tryz.underlying5 (by kernel_rfl)
theorem okU8_in {n : Int} (h : okU8 n) : 0 ≤ n ∧ n ≤ 255 := by
 simp [okU8, Lit.wf, IntKind.min, IntKind.max, IntKind.bits, IntKind.signed] at h; omega
end Go.Cg
namespace Go.Cg
open Go.RowKit Go.Proofs
def okI64 (n : Int) : Prop := (Lit.int .i64 n).wf = true
theorem rdI64 {H : Type} {enc : TypeId × Value → H} {w : World} : Rd enc Tryz.prog w 3 1 (fun ps => ∃ n, okI64 n ∧ ps = [.base (.int .i64 n)]) := rdInt
theorem okI64_in {n : Int} (h : okI64 n) : -9223372036854775808 ≤ n ∧ n ≤ 9223372036854775807 := by
 simp [okI64, Lit.wf, IntKind.min, IntKind.max, IntKind.bits, IntKind.signed] at h; omega
theorem okImg_arg {g : Img} (h : okImg g) : ∀ m ∈ g.methods, ∀ x ∈ m.code, okArg x := fun m hm x hx => by
 have := ((h.2.2.1 m hm).2.2.2.2.2.2.1 x hx).2.1
 simp [Lit.wf, IntKind.min, IntKind.max, IntKind.bits, IntKind.signed] at this
 exact ⟨by omega, by omega⟩
end Go.Cg
namespace Go.Cg
open Go.RowKit Go.Proofs
def okU64 (n : Int) : Prop := (Lit.int .u64 n).wf = true
def okU16 (n : Int) : Prop := (Lit.int .u16 n).wf = true
def okU8s (l : List Int) : Prop := ∀ n ∈ l, okU8 n
theorem okU64_in {n : Int} (h : okU64 n) : 0 ≤ n ∧ n ≤ 18446744073709551615 := by
 simp [okU64, Lit.wf, IntKind.min, IntKind.max, IntKind.bits, IntKind.signed] at h; omega
theorem okU16_in {n : Int} (h : okU16 n) : 0 ≤ n ∧ n ≤ 65535 := by
 simp [okU16, Lit.wf, IntKind.min, IntKind.max, IntKind.bits, IntKind.signed] at h; omega
section
variable {H : Type} {enc : TypeId × Value → H} {w : World}
theorem rdU64 : Rd enc Tryz.prog w 33 1 (fun ps => ∃ n, okU64 n ∧ ps = [.base (.int .u64 n)]) := rd_int Tryz.underlying33 (by kernel_rfl)
theorem rdU64s : Rd enc Tryz.prog w 37 1 (fun ps => ∃ l : List Int, (∀ n ∈ l, okU64 n) ∧ ps = [.slc 1 (l.map fun n => .base (.int .u64 n)) false]) :=
 rd_slice (f := fun n => .base (.int .u64 n)) Tryz.underlying37 (by kernel_rfl) (by decide) rdU64
theorem rdU8s : Rd enc Tryz.prog w 43 1 (fun ps => ∃ l : List Int, okU8s l ∧ ps = [.slc 1 (l.map fun n => .base (.int .u8 n)) false]) :=
 rd_slice (f := fun n => .base (.int .u8 n)) Tryz.underlying43 (by kernel_rfl) (by decide) rdU8
end
end Go.Cg
namespace Go.Cg
open Go
theorem joined_of {P : Program} {f : FuncId} {fn : Func} {s : ChangeSpec} {c : OpenClaim}
  (a1 : laidOutB P = true) (a2 : mapsRowed P = true) (a3 : P.stopsHeard = true) (a4 : P.mayEnter = true) (a5 : P.liftsFinal = c.lifted) (a6 : P.make = some c.make)
  (b1 : P.inPlace f = c.inPlace) (b2 : P.unfollowed f = c.unfollowed) (b3 : P.recurses f = c.recurses) (b4 : P.varsNamed f = c.named)
  (rest : (c.wf (OpenSpec.ofChange s) && fn.params.all (P.readableRec ·) && namedTie P c.named s.vars &&
   (c.stops == []) && (P.stops == []) && (c.knobs == []) && (P.stopKnobs == []) &&
   (c.maps == (fn.params.toList ++ s.plain.varTypes P).any (P.mapsRec ·)) && (c.ifaces == (fn.params.toList ++ s.plain.varTypes P).any (P.ifacesRec ·)) && (c.mapsOut == P.mapsAmong fn.resultTypes.toList) &&
   (c.loops == (fn.params.toList ++ s.plain.varTypes P).any (P.loopsFrom ·)) && (c.wideKeys == (fn.params.toList ++ s.plain.varTypes P ++ fn.resultTypes.toList).any (P.wideKeysFrom ·)) &&
   s.vars.all (P.varReadable ·) && fn.resultTypes.all (fun t => P.readableRec t && decide (t < P.types.size)) && (c.ifacesOut == fn.resultTypes.toList.any (P.ifacesRec ·)) && (c.loopsOut == fn.resultTypes.toList.any (P.loopsFrom ·)) && (c.plainKeys == P.plainKeys) && c.shortTexts.isNone && (c.kinds == (if c.domain.isEmpty then [] else fn.params.toList.map fun t => match P.underlying t with | some (.int k) => some k | _ => none)) && (c.pinned == c.pinnedBy) &&
   (c.veiled == (fn.params.toList ++ s.plain.varTypes P ++ fn.resultTypes.toList).any (P.veiledRec ·)) && c.veiledFits P fn.params.toList (fn.params.toList ++ s.plain.varTypes P ++ fn.resultTypes.toList)) = true) : joinedFacts P f fn s c = true := by
 unfold joinedFacts
 rw [a1, a2, a3, a4, a5, a6, b1, b2, b3, b4]
 simp only [Bool.and_eq_true, beq_self_eq_true, and_true] at rest ⊢
 exact rest
end Go.Cg
namespace Go.Cg
open Go Go.Proofs
theorem jf_laid : laidOutB Tryz.checked.prog = true := by kernel_rfl
theorem jf_maps : mapsRowed Tryz.checked.prog = true := by kernel_rfl
theorem jf_heard : Tryz.checked.prog.stopsHeard = true := by kernel_rfl
theorem jf_enter : Tryz.checked.prog.mayEnter = true := by kernel_rfl
theorem jf_lifts : Tryz.checked.prog.liftsFinal = false := by kernel_rfl
theorem jf_make : Tryz.checked.prog.make = some .cut := by kernel_rfl
end Go.Cg
