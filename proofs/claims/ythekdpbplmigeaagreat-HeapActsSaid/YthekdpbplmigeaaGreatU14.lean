/- A part of the walks by abstract values: no statement of its own. -/
import Derived.Test.YthekdpbplmigeaaGreatU13
import Derived.Test.YthekdpbplmigeaaGreatU8
import Derived.Test.YthekdpbplmigeaaGreatU6
import Derived.Test.YthekdpbplmigeaaGreatU11
import Derived.Test.YthekdpbplmigeaaGreatU4
namespace Go.Cg
open Go.Proofs
def alk (g : Img) (a b : Int) : Bool := alikeR (mAt g a) (mAt g b)
def virt (g : Img) (m : Int) : Bool := bitF (mAt g m).flags 2
def fresh (g : Img) (m : Int) : Bool := bitF (mAt g m).flags 8
def tblStep (g : Img) (out : List Int) (m : Int) : List Int :=
 if virt g m then (if out.any (fun x => alk g x m) && !fresh g m then out.set (out.findIdx (fun x => alk g x m)) m else out ++ [m]) else out
def tblFold (g : Img) (out : List Int) (ms : List Int) : List Int := ms.foldl (tblStep g) out
def tblU (g : Img) (us : List Int) : List Int := us.foldl (fun out u => tblFold g out (methodsOf g u)) []
def tbl (g : Img) (t : Int) : List Int := tblU g (up g t).reverse
theorem tbl_none {g : Img} {t : Int} (h : typeAt g t = none) : tbl g t = [] := by rw [tbl, up_nil h]; rfl
theorem tbl_cons {g : Img} (hW : Wl g) {t : Int} {td : TD} (h : typeAt g t = some td) : tbl g t = tblFold g (tbl g td.ext) (methodsOf g t) := by
 rw [tbl, hW.up_cons h, List.reverse_cons, tblU, List.foldl_append]; rfl
def mOk (g : Img) (x : Int) : Prop := 0 ≤ x ∧ x.toNat < g.methods.length
theorem tblStep_mem {g : Img} {out : List Int} {m x : Int} (h : x ∈ tblStep g out m) : x ∈ out ∨ x = m := by
 rw [tblStep] at h
 split at h
 ·split at h
  ·exact List.mem_or_eq_of_mem_set h
  ·simpa using h
 ·exact .inl h
theorem tblStep_len (g : Img) (out : List Int) (m : Int) : out.length ≤ (tblStep g out m).length ∧ (tblStep g out m).length ≤ out.length + 1 := by
 rw [tblStep]
 split
 ·split <;> simp
 ·simp
theorem tblFold_mem {g : Img} {x : Int} : ∀ {ms out : List Int}, x ∈ tblFold g out ms → x ∈ out ∨ x ∈ ms
 | [], out, h => .inl h
 | m :: ms, out, h => by
  rcases tblFold_mem (ms := ms) (out := tblStep g out m) h with h | h
  ·rcases tblStep_mem h with h | rfl
   ·exact .inl h
   ·exact .inr (by simp)
  ·exact .inr (by simp [h])
theorem tblFold_len (g : Img) : ∀ (ms out : List Int), out.length ≤ (tblFold g out ms).length ∧ (tblFold g out ms).length ≤ out.length + ms.length
 | [], out => by simp [tblFold]
 | m :: ms, out => by
  have h1 := tblFold_len g ms (tblStep g out m)
  have h2 := tblStep_len g out m
  have e : tblFold g out (m :: ms) = tblFold g (tblStep g out m) ms := rfl
  rw [e, List.length_cons]; omega
theorem tblU_len {g : Img} (us : List Int) : (tblU g us).length ≤ g.methods.length * us.length := by
 rw [tblU]
 have key : ∀ (us : List Int) (out : List Int), (us.foldl (fun out u => tblFold g out (methodsOf g u)) out).length ≤ out.length + g.methods.length * us.length := by
  intro us
  induction us with
  | nil => intro out; simp
  | cons u us ih =>
   intro out
   have h1 := ih (tblFold g out (methodsOf g u))
   have h2 := (tblFold_len g (methodsOf g u) out).2
   have h3 := methodsOf_len g u
   rw [List.foldl_cons, List.length_cons, Nat.mul_succ]; omega
 have := key us []
 simpa using this
theorem tblU_mem {g : Img} {x : Int} : ∀ {us : List Int}, x ∈ tblU g us → mOk g x := by
 have key : ∀ (us : List Int) (out : List Int), (∀ x ∈ out, mOk g x) → ∀ x ∈ us.foldl (fun out u => tblFold g out (methodsOf g u)) out, mOk g x := by
  intro us
  induction us with
  | nil => intro out h; exact h
  | cons u us ih =>
   intro out h
   refine ih _ fun x hx => ?_
   rcases tblFold_mem hx with hx | hx
   ·exact h x hx
   ·exact methodsOf_mem hx
 intro us h
 exact key us [] (by simp) x h
theorem tbl_mem {g : Img} {t x : Int} (h : x ∈ tbl g t) : mOk g x := tblU_mem h
theorem tbl_len {g : Img} (hF : Fine g) (t : Int) : (tbl g t).length ≤ 2048 := by
 have h1 := tblU_len (g := g) (up g t).reverse
 obtain ⟨b1, _, b3, _⟩ := formedG_bounds hF.formed
 have hui := up_inv g t
 have hul := nodup_le _ _ hui.1 hui.2
 rw [List.length_reverse] at h1
 have : g.methods.length * (up g t).length ≤ 64 * 32 := Nat.mul_le_mul b3 (by omega)
 rw [tbl]; omega
theorem alikeR_iff {a b : Me} : alikeR a b = true ↔ (a.name.toList = b.name.toList ∧ a.ret = b.ret ∧ a.flags.tmod 2 = b.flags.tmod 2 ∧ a.params = b.params) := by
 simp [alikeR, sameSig, and_assoc]
theorem alk_refl (g : Img) (a : Int) : alk g a a = true := alikeR_iff.2 ⟨rfl, rfl, rfl, rfl⟩
theorem alk_symm {g : Img} {a b : Int} (h : alk g a b = true) : alk g b a = true := by
 obtain ⟨h1, h2, h3, h4⟩ := alikeR_iff.1 h
 exact alikeR_iff.2 ⟨h1.symm, h2.symm, h3.symm, h4.symm⟩
theorem alk_trans {g : Img} {a b c : Int} (h : alk g a b = true) (h' : alk g b c = true) : alk g a c = true := by
 obtain ⟨h1, h2, h3, h4⟩ := alikeR_iff.1 h
 obtain ⟨k1, k2, k3, k4⟩ := alikeR_iff.1 h'
 exact alikeR_iff.2 ⟨h1.trans k1, h2.trans k2, h3.trans k3, h4.trans k4⟩
theorem tblStep_alk (g : Img) (out : List Int) (m : Int) : ∀ i, i < out.length → alk g ((tblStep g out m).getD i 0) (out.getD i 0) = true := by
 intro i hi
 rw [tblStep]
 split
 ·split
  ·rename_i h
   simp only [Bool.and_eq_true] at h
   rw [List.getD_eq_getElem?_getD, List.getElem?_set]
   split
   ·rename_i e
    subst e
    rw [if_pos hi, Option.getD_some, getD_get hi]
    exact alk_symm (List.findIdx_getElem (w := hi))
   ·rw [← List.getD_eq_getElem?_getD]; exact alk_refl g _
  ·rw [List.getD_eq_getElem?_getD, List.getElem?_append_left hi, ← List.getD_eq_getElem?_getD]; exact alk_refl g _
 ·exact alk_refl g _
theorem tblFold_alk (g : Img) : ∀ (ms out : List Int), ∀ i, i < out.length → alk g ((tblFold g out ms).getD i 0) (out.getD i 0) = true
 | [], out, i, _ => alk_refl g _
 | m :: ms, out, i, hi => alk_trans (tblFold_alk g ms (tblStep g out m) i (by have := (tblStep_len g out m).1; omega)) (tblStep_alk g out m i hi)
def atF (g : Img) (out : List Int) (m : Int) (k : Nat) : Int := if (out.drop k).any (fun x => alk g x m) then ((k + (out.drop k).findIdx (fun x => alk g x m) : Nat) : Int) else -1
theorem atF_end (g : Img) (out : List Int) (m : Int) : atF g out m out.length = -1 := by simp [atF]
theorem atF_step {g : Img} {out : List Int} {m : Int} {k : Nat} (h : k < out.length) : atF g out m k = if alk g out[k] m then (k : Int) else atF g out m (k + 1) := by
 rw [atF, atF, List.drop_eq_getElem_cons h, List.any_cons, List.findIdx_cons]
 cases alk g out[k] m <;> simp
 split <;> omega
theorem atF_range {g : Img} {out : List Int} {m : Int} (k : Nat) : atF g out m k = -1 ∨ (0 ≤ atF g out m k ∧ (atF g out m k).toNat < out.length) := by
 rw [atF]
 split
 ·rename_i h
  right
  obtain ⟨x, hx, hp⟩ := List.any_eq_true.1 h
  have := List.findIdx_lt_length_of_exists (p := fun x => alk g x m) ⟨x, hx, hp⟩
  rw [List.length_drop] at this
  omega
 ·exact .inl rfl
theorem tblStep_at {g : Img} {out : List Int} {m : Int} (hv : virt g m = true) : tblStep g out m = if decide (atF g out m 0 < 0) || fresh g m then out ++ [m] else out.set (atF g out m 0).toNat m := by
 rw [tblStep, if_pos hv, atF, List.drop_zero]
 cases out.any (fun x => alk g x m) <;> cases fresh g m <;> simp
 all_goals (first | done | omega | (intro; omega))
end Go.Cg
namespace Go.Cg
open Go.Proofs
theorem tSO {P : Prop} (h : P := by repeat (first | exact sub_nil | refine sub_cons rfl ?_ | (refine sub_i rfl ?_ ?_; · (first | omega | (rw [wrap_in (by omega) (by omega)] <;> omega) | (dsimp only; rw [wrap_in (by omega) (by omega)] <;> omega) | (simp; done))))) : P := h
theorem mAt_get {g : Img} {x : Int} (h : mOk g x) : (g.methods.map mePV)[x.toNat]? = some (mePV (mAt g x)) := by
 rw [mAt, getD_get h.2]; exact map_get' h.2
theorem tblFold_snoc (g : Img) (out ms : List Int) (k : Nat) (h : k < ms.length) : tblFold g out (ms.take (k + 1)) = tblStep g (tblFold g out (ms.take k)) ms[k] := by
 rw [List.take_succ_eq_append_getElem h, tblFold, List.foldl_append]; rfl
theorem not_there {g : Img} {t : Int} (h : typeAt g t = none) : there g t = false := by
 cases hh : there g t with
 | false => rfl
 | true => obtain ⟨td, h2⟩ := (there_iff g t).1 hh; rw [h] at h2; cases h2
set_option maxHeartbeats 1000000 in
theorem TableN_call (g : Img) (t : Int) (ht : typeAt g t = none) : ACall Tryz.prog 190 [imgPV g, pi t] (ints (tbl g t)) := by
 have c1 := There_call g t
 rw [not_there ht] at c1
 rw [tbl_none ht]
 refine acall_intro tbOK Tryz.func190 rfl (by kernel_rfl) Tryz.ntmps190 (by simp) _ rfl (fun hw gB hgB => ?_)
 repeat' (first | refine aw_own_nil (t := 5) 10 3 1 (by decide) rfl rfl ?_ | (refine shC ?_; first | refine qC c1 ?_) | refine sA ?_ | refine sC (fun _ => ?_) (fun _ => ?_) | fail)
 exact retq rfl rfl
end Go.Cg
namespace Go.Cg
open Go.Proofs
abbrev memH (ws : List Int) (fr used : Int) : HEnv := [(0, .cell (.agg [.own 7, .pv nilS, .pv nilS, .own 8, .pv (u64 1), .pv (u64 8), .pv (u64 fr), .pv (pi used)])), (7, .mrow 33 1 (ws.map u64)), (8, .obj (MapSet Tryz.prog 36 3 []))]
theorem check0 : check12 g0 = (0, 0) := by decide +kernel
theorem stat0 : staticsA g0 = [] := by decide +kernel
theorem ok0 : OkA g0 := fun m hm => by cases hm
def ws0 (w : Int) : Nat → List Int
 | 0 => List.replicate (16392 + w).toNat 0
 | k + 1 => (ws0 w k).set (k + 1) (headP ⟨7, ((k + 1 : Nat) : Int), 0, false⟩)
theorem ws0_len (w : Int) : ∀ k, (ws0 w k).length = (16392 + w).toNat
 | 0 => by simp [ws0]
 | k + 1 => by rw [ws0, List.length_set, ws0_len w k]
set_option maxHeartbeats 2000000 in
theorem New_call (w : Int) (h0 : 0 ≤ w) (h1 : w ≤ 4096) : ACallM Tryz.prog 17 [.pv (imgPV g0), .pv (pi w)] [] (.box 0 0) (memH (ws0 w 7) (8 + w) 0) := by
 have c0 := CheckL_call g0 ok0
 rw [check0] at c0
 have c1 := StaticsA_call g0 ok0
 rw [stat0] at c1
 have hd1 : decide (w < 0) = false := decide_eq_false (by omega)
 have hd2 : decide (4096 < w) = false := decide_eq_false (by omega)
 obtain ⟨N, hN⟩ : ∃ N, N = (16392 + w).toNat := ⟨_, rfl⟩
 refine acallM_intro tbOK Tryz.func17 rfl (by kernel_rfl) Tryz.ntmps17 (by simp) _ rfl (fun gB hw1 => ?_)
 repeat' (first | (refine shC ?_; first | refine qC c0 ?_) | refine sK ?_ | refine sC (fun _ => ?_) (fun _ => ?_) | fail)
 repeat' (first | refine ao_makeMap (kt := 36) (et := 3) 8 rfl rfl rfl rfl rfl ?_ | refine ao_q rfl (q_buildA tbOK rfl ⟨_, rfl⟩ rfl rfl rfl rfl rfl rfl) rfl rfl ?_ | (refine ao_sh_box ?_; first | refine ao_boxm 0 rfl rfl rfl rfl rfl rfl ?_) | refine sK ?_ | refine sC (fun _ => ?_) (fun _ => ?_) | fail)
 refine aw_loop (fun _ : Nat => [(1, .pv (pi w)), (2, .pv (.ptr (imgPV g0) 0)), (7, .box 0 0), (31, .pv (pi 0)), (32, .pv (pi 0))])
  (fun _ => [(0, .cell (.agg [.pv nilS, .pv nilS, .pv nilS, .own 8, .pv (u64 0), .pv (u64 0), .pv (u64 0), .pv (pi 0)])), (8, .obj (MapSet Tryz.prog 36 3 []))]) (fun k => k = 0) (fun k => k) 0 rfl (tS) ⟨by repeat (first | exact hsub_nil | refine hsub_cons rfl ?_), rfl⟩ ?_
 rintro k rfl
 obtain ⟨E1, hE1⟩ : ∃ E, E = IntKind.u64.wrap (1 + IntKind.u64.wrap ((((([] : List Ty).map tyPV).length : Nat)) : Int)) := ⟨_, rfl⟩
 have e1 : E1 = 1 := by rw [hE1]; rfl
 obtain ⟨E2, hE2⟩ : ∃ E, E = IntKind.u64.wrap (E1 + 7) := ⟨_, rfl⟩
 have e2 : E2 = 8 := by rw [hE2, e1]; rfl
 obtain ⟨E3, hE3⟩ : ∃ E, E = IntKind.u64.wrap (E2 + IntKind.u64.wrap w) := ⟨_, rfl⟩
 have e3 : E3 = 8 + w := by rw [hE3, e2, wrapU_in (a := w) (by omega) (by omega), wrapU_in (by omega) (by omega)]
 have hmi : IntKind.u64.wrap (E3 + 16384) = ((N : Nat) : Int) := by rw [e3, wrapU_in (by omega) (by omega)]; omega
 rw [hE3, hE2, hE1] at hmi
 repeat' (first | refine ao_makeK (m := N) (sz := 1) tbOK 7 rfl rfl rfl rfl rfl hmi rfl rfl (by show 8 * _ ≤ _; omega) (by simp [maxLen]; omega) rfl rfl rfl ?_ | (refine shC ?_; first | refine qC c1 ?_) | refine sK ?_ | refine sC (fun _ => ?_) (fun _ => ?_) | fail)
 refine aw_loop (fun j : Nat => [(7, .box 0 0), (10, .pv (pi ((j + 1 : Nat) : Int)))]) (fun j => memH (ws0 w j) (8 + w) 0) (fun j => j ≤ 7) (fun j => 7 - j) 0 (by omega) (tS)
  ⟨hsub_cons (show some (HE.cell (.agg [.own 7, .pv nilS, .pv nilS, .own 8, .pv (u64 (IntKind.u64.wrap (1 + IntKind.u64.wrap ((((([] : List Ty).map tyPV).length : Nat)) : Int)))), .pv (u64 (IntKind.u64.wrap (IntKind.u64.wrap (1 + IntKind.u64.wrap ((((([] : List Ty).map tyPV).length : Nat)) : Int)) + 7))), .pv (u64 (IntKind.u64.wrap (IntKind.u64.wrap (IntKind.u64.wrap (1 + IntKind.u64.wrap ((((([] : List Ty).map tyPV).length : Nat)) : Int)) + 7) + IntKind.u64.wrap w))), .pv (pi 0)])) = _ from by
    rw [← hE1, ← hE2, ← hE3, e3, e2, e1]) (hsub_m rfl (by rw [ws0, List.map_replicate, hN]) (hsub_cons rfl hsub_nil)), rfl⟩ ?_
 rintro j hj
 by_cases hlt : j < 7
 ·have hl := ws0_len w j
  have hil : j + 1 < ((ws0 w j).map u64).length := by rw [List.length_map, hl]; omega
  have hpp : ((ws0 w j).map u64)[j + 1]? = some (u64 ((ws0 w j)[j + 1]'(by rw [hl]; omega))) := by rw [List.getElem?_map, List.getElem?_eq_getElem (by rw [hl]; omega)]; rfl
  repeat' (first | refine aw_draw_tailL 12 11 rfl (by kernel_rfl) (by kernel_rfl) (by kernel_rfl) (by kernel_rfl) (by kernel_rfl) ?_ | refine AD.step _ _ _ _ _ rfl (q_callO rfl (fun _ => rfl) (fun ρ => Fault_call (ws0 w j) (ρ 8) (8 + w) 0 ((j + 1 : Nat) : Int) (by omega) (by omega))) rfl rfl ?_ | (refine shC ?_; first | refine qC (Head_call ⟨7, ((j + 1 : Nat) : Int), 0, false⟩) ?_) | (refine shX ?_; first | refine ao_q rfl (q_mindex (k := j + 1) tbOK rfl rfl rfl rfl rfl rfl rfl rfl hil) rfl rfl ?_ | refine AD.step _ _ _ _ _ rfl (q_mindex (k := j + 1) tbOK rfl rfl rfl rfl rfl rfl rfl rfl hil) rfl rfl ?_) | (refine ao_sh_store ?_; first | refine ao_mstore (k := j + 1) (j := 0) tbOK rfl rfl rfl rfl rfl hpp rfl rfl rfl rfl rfl ?_) | refine sK ?_ | refine sC (fun _ => ?_) (fun _ => ?_) | fail)
  exact ⟨j + 1, hlt, tD, tSO, ⟨hsub_cons rfl (hsub_m rfl (by rw [ws0, List.map_set]) (hsub_cons rfl hsub_nil)), rfl⟩⟩
 ·have hj2 : j = 7 := by omega
  subst hj2
  repeat' (first | refine sK ?_ | refine sC (fun _ => ?_) (fun _ => ?_) | fail)
  exact ⟨.inr rfl, .inr ⟨4, rfl, rfl, ⟨by repeat (first | exact hsub_nil | refine hsub_cons rfl ?_), rfl⟩⟩⟩
end Go.Cg
namespace Go.Cg
open Go.Proofs
def makeW (ws : List Int) (u : Nat) (hd : Int) (l : List Int) (z : Nat) : List Int :=
 let a := ws.set (8 + u) hd
 let b := a.take (9 + u) ++ l ++ a.drop (9 + u + l.length)
 b.take (9 + u + l.length) ++ List.replicate z 0 ++ b.drop (9 + u + l.length + z)
theorem makeW_len {ws : List Int} {u z : Nat} {hd : Int} {l : List Int} (h : 9 + u + l.length + z ≤ ws.length) : (makeW ws u hd l z).length = ws.length := by
 simp only [makeW, List.length_append, List.length_take, List.length_drop, List.length_set, List.length_replicate]; omega
abbrev lu (l : List Int) : PV := .slc 1 (l.map u64) true
theorem left_eq {w u : Nat} (hw : w ≤ 4096) (hu : u ≤ w) : IntKind.i64.wrap (IntKind.i64.wrap (IntKind.u64.wrap ((8 + (w : Int)) - 8)) - (u : Int)) = (w : Int) - u := by
 rw [wrapU_in (by omega) (by omega), wrap_in (a := 8 + (w : Int) - 8) (by omega) (by omega), wrap_in (by omega) (by omega)]; omega
theorem need_eq {l : List Int} {z : Nat} (hl : l.length ≤ 100) (hz : z ≤ 100000) : IntKind.i64.wrap (IntKind.i64.wrap (1 + (((l.map u64).length : Nat) : Int)) + (z : Int)) = 1 + (l.length : Int) + z := by
 rw [List.length_map, wrap_in (a := 1 + (l.length : Int)) (by omega) (by omega), wrap_in (by omega) (by omega)]
set_option maxHeartbeats 2000000 in
theorem makeNo_call (ws : List Int) (w u z : Nat) (t : Ty) (l : List Int) (hw : w ≤ 4096) (hu : u ≤ w) (hl : l.length ≤ 100) (hz : z ≤ 100000) (hno : w < u + 1 + l.length + z) (us : Nat → Value) :
  ACallM Tryz.prog 106 [.box 0 0, .pv (tyPV t), .pv (pi z), .pv (lu l)] (memH ws (8 + (w : Int)) u ++ pinB us [0]) (.pv (u64 0)) (memH ws (8 + (w : Int)) u ++ pinB us [0]) := by
 have hL := left_eq hw hu
 have hN := need_eq hl hz
 by_cases h1 : (w : Int) - u < z
 ·have hd1 : decide (IntKind.i64.wrap (IntKind.i64.wrap (IntKind.u64.wrap ((8 + (w : Int)) - 8)) - (u : Int)) < (z : Int)) = true := decide_eq_true (by rw [hL]; exact h1)
  refine acallM_intro tbOK Tryz.func106 rfl (by kernel_rfl) Tryz.ntmps106 (by simp) _ rfl (fun gB hw1 => ?_)
  repeat' (first | refine sK ?_ | refine sC (fun _ => ?_) (fun _ => ?_) | fail)
  exact ⟨.inr rfl, .inl ⟨_, rfl, rfl, ⟨by repeat (first | exact hsub_nil | refine hsub_cons rfl ?_), rfl⟩⟩⟩
 ·have hd1 : decide (IntKind.i64.wrap (IntKind.i64.wrap (IntKind.u64.wrap ((8 + (w : Int)) - 8)) - (u : Int)) < (z : Int)) = false := decide_eq_false (by rw [hL]; exact h1)
  have hd2 : decide (IntKind.i64.wrap (IntKind.i64.wrap (IntKind.u64.wrap ((8 + (w : Int)) - 8)) - (u : Int)) < IntKind.i64.wrap (IntKind.i64.wrap (1 + (((l.map u64).length : Nat) : Int)) + (z : Int))) = true := decide_eq_true (by rw [hL, hN]; omega)
  refine acallM_intro tbOK Tryz.func106 rfl (by kernel_rfl) Tryz.ntmps106 (by simp) _ rfl (fun gB hw1 => ?_)
  repeat' (first | refine sK ?_ | refine sC (fun _ => ?_) (fun _ => ?_) | fail)
  exact ⟨.inr rfl, .inl ⟨_, rfl, rfl, ⟨by repeat (first | exact hsub_nil | refine hsub_cons rfl ?_), rfl⟩⟩⟩
set_option maxHeartbeats 2000000 in
theorem make_call (ws : List Int) (w u z : Nat) (t : Ty) (l : List Int) (hw : w ≤ 4096) (hl : l.length ≤ 100) (hz : z ≤ 100000) (hyes : u + 1 + l.length + z ≤ w) (hws : ws.length = 16392 + w) (us : Nat → Value) :
  ACallM Tryz.prog 106 [.box 0 0, .pv (tyPV t), .pv (pi z), .pv (lu l)] (memH ws (8 + (w : Int)) u ++ pinB us [0]) (.pv (u64 ((8 + u : Nat) : Int))) (memH (makeW ws u (headP t) l z) (8 + (w : Int)) ((u + 1 + l.length + z : Nat) : Int) ++ pinB us [0]) := by
 have hL := left_eq hw (show u ≤ w by omega)
 have hN := need_eq hl hz
 have hd1 : decide (IntKind.i64.wrap (IntKind.i64.wrap (IntKind.u64.wrap ((8 + (w : Int)) - 8)) - (u : Int)) < (z : Int)) = false := decide_eq_false (by rw [hL]; omega)
 have hd2 : decide (IntKind.i64.wrap (IntKind.i64.wrap (IntKind.u64.wrap ((8 + (w : Int)) - 8)) - (u : Int)) < IntKind.i64.wrap (IntKind.i64.wrap (1 + (((l.map u64).length : Nat) : Int)) + (z : Int))) = false := decide_eq_false (by rw [hL, hN]; omega)
 have hA : IntKind.u64.wrap (8 + IntKind.u64.wrap (u : Int)) = ((8 + u : Nat) : Int) := by rw [wrapU_in (a := (u : Int)) (by omega) (by omega), wrapU_in (by omega) (by omega)]; omega
 have hB : IntKind.u64.wrap (IntKind.u64.wrap (8 + IntKind.u64.wrap (u : Int)) + 1) = ((9 + u : Nat) : Int) := by rw [hA, wrapU_in (by omega) (by omega)]; omega
 have hC : IntKind.u64.wrap (IntKind.u64.wrap (IntKind.u64.wrap (8 + IntKind.u64.wrap (u : Int)) + 1) + IntKind.u64.wrap (((l.map u64).length : Nat) : Int)) = ((9 + u + l.length : Nat) : Int) := by
  rw [hB, List.length_map, wrapU_in (a := (l.length : Int)) (by omega) (by omega), wrapU_in (by omega) (by omega)]; omega
 have hD : IntKind.u64.wrap (IntKind.u64.wrap (IntKind.u64.wrap (IntKind.u64.wrap (8 + IntKind.u64.wrap (u : Int)) + 1) + IntKind.u64.wrap (((l.map u64).length : Nat) : Int)) + IntKind.u64.wrap (z : Int)) = ((9 + u + l.length + z : Nat) : Int) := by
  rw [hC, wrapU_in (a := (z : Int)) (by omega) (by omega), wrapU_in (by omega) (by omega)]; omega
 have hB' : some (IntKind.u64.wrap (IntKind.u64.wrap (8 + IntKind.u64.wrap (u : Int)) + 1)) = some ((9 + u : Nat) : Int) := by rw [hB]
 have hC' : some (IntKind.u64.wrap (IntKind.u64.wrap (IntKind.u64.wrap (8 + IntKind.u64.wrap (u : Int)) + 1) + IntKind.u64.wrap (((l.map u64).length : Nat) : Int))) = some ((9 + u + l.length : Nat) : Int) := by rw [hC]
 have hD' : some (IntKind.u64.wrap (IntKind.u64.wrap (IntKind.u64.wrap (IntKind.u64.wrap (8 + IntKind.u64.wrap (u : Int)) + 1) + IntKind.u64.wrap (((l.map u64).length : Nat) : Int)) + IntKind.u64.wrap (z : Int))) = some ((9 + u + l.length + z : Nat) : Int) := by rw [hD]
 have hE : IntKind.i64.wrap ((u : Int) + IntKind.i64.wrap (IntKind.i64.wrap (1 + (((l.map u64).length : Nat) : Int)) + (z : Int))) = ((u + 1 + l.length + z : Nat) : Int) := by rw [hN, wrap_in (by omega) (by omega)]; omega
 have hil : 8 + u < (ws.map u64).length := by rw [List.length_map]; omega
 have hpp : (ws.map u64)[8 + u]? = some (u64 (ws[8 + u]'(by omega))) := by rw [List.getElem?_map, List.getElem?_eq_getElem (by omega)]; rfl
 refine acallM_intro tbOK Tryz.func106 rfl (by kernel_rfl) Tryz.ntmps106 (by simp) _ rfl (fun gB hw1 => ?_)
 repeat' (first | refine aw_draw_tailL 9 8 rfl (by kernel_rfl) (by kernel_rfl) (by kernel_rfl) (by kernel_rfl) (by kernel_rfl) ?_ | refine ao_mslice tbOK 7 20 rfl rfl rfl rfl rfl rfl rfl hB' rfl (by omega) (by simp only [List.length_set, List.length_map]; omega) (by omega) (by simp only [List.length_set, List.length_map]; omega) rfl rfl rfl (fun uu => ?_) | refine ao_mslice tbOK 7 21 rfl rfl rfl rfl rfl rfl rfl hC' hD' (by omega) (by omega) (by simp only [List.length_append, List.length_take, List.length_drop, List.length_set, List.length_map]; omega) (by simp only [List.length_append, List.length_take, List.length_drop, List.length_set, List.length_map]; omega) rfl rfl rfl (fun uu => ?_) | (refine shC ?_; first | refine qC (Head_call t) ?_) | (refine shX ?_; first | refine ao_q rfl (q_mindex (k := 8 + u) tbOK rfl rfl rfl rfl rfl rfl rfl hA hil) rfl rfl ?_ | refine AD.step _ _ _ _ _ rfl (q_mindex (k := 8 + u) tbOK rfl rfl rfl rfl rfl rfl rfl hA hil) rfl rfl ?_) | (refine ao_sh_store ?_; first | refine ao_mstore (k := 8 + u) (j := 0) tbOK rfl rfl rfl rfl rfl hpp rfl rfl rfl rfl rfl ?_) | (refine ao_sh_bi ?_; first | refine ao_mcopy (i := 7) (j := 20) tbOK rfl rfl rfl rfl rfl rfl rfl rfl rfl (by simp only [List.length_set, List.length_map]; omega) (by simp only [List.length_set, List.length_map]; omega) (by simp only [List.length_set, List.length_map]; omega) rfl rfl ?_ | refine ao_mclear (i := 7) (j := 21) (zv := .int .u64 0) (z := u64 0) tbOK rfl rfl rfl rfl rfl rfl (by omega) (by simp only [List.length_append, List.length_take, List.length_drop, List.length_set, List.length_map]; omega) rfl rfl rfl rfl ?_) | refine sK ?_ | refine sC (fun _ => ?_) (fun _ => ?_) | fail)
 refine ⟨.inr rfl, .inl ⟨_, rfl, ?_, ?_⟩⟩
 ·show AV.pv _ = AV.pv (u64 (IntKind.u64.wrap (8 + IntKind.u64.wrap (u : Int))))
  rw [hA]
 ·refine ⟨hsub_cons (show some (HE.cell (.agg [.own 7, .pv nilS, .pv nilS, .own 8, .pv (u64 1), .pv (u64 8), .pv (u64 (8 + (w : Int))), .pv (pi (IntKind.i64.wrap ((u : Int) + IntKind.i64.wrap (IntKind.i64.wrap (1 + (((l.map u64).length : Nat) : Int)) + (z : Int)))))])) = _ from by rw [hE]) (hsub_m rfl ?_ (by repeat (first | exact hsub_nil | refine hsub_cons rfl ?_))), rfl⟩
  have e1 : ((9 + u + l.length + z : Nat) : Int).toNat - ((9 + u + l.length : Nat) : Int).toNat = z := by omega
  rw [e1]
  simp only [makeW, List.map_append, List.map_take, List.map_drop, List.map_set, List.map_replicate, List.length_map, Int.toNat_natCast]
end Go.Cg
namespace Go.Cg
open Go.Proofs
theorem noLoneH {P : Prop} : false = true → P := fun h => nomatch h
def arrT (k : Int) : Ty := ⟨k, 0, IntKind.i64.wrap (0 + 1), false⟩
def arrW (ws : List Int) (u : Nat) (k n : Int) : List Int := makeW ws u (headP (arrT k)) [IntKind.u64.wrap n] n.toNat
theorem mul1 {n : Int} (h0 : 0 ≤ n) (h1 : n ≤ 4096) : IntKind.i64.wrap (n * 1) = ((n.toNat : Nat) : Int) := by rw [wrap_in (by omega) (by omega)]; omega
set_option maxHeartbeats 2000000 in
theorem Array_call (ws : List Int) (w u : Nat) (k n : Int) (hk : k = 2 ∨ k = 3) (hw : w ≤ 4096) (h0 : 0 ≤ n) (h1 : n ≤ 4096) (hyes : u + 2 + n.toNat ≤ w) (hws : ws.length = 16392 + w) (us : Nat → Value) :
  ACallM Tryz.prog 58 [.box 0 0, .pv (tyPV ⟨k, 0, 0, false⟩), .pv (pi n)] (memH ws (8 + (w : Int)) u ++ pinB us [0]) (.pv (u64 ((8 + u : Nat) : Int))) (memH (arrW ws u k n) (8 + (w : Int)) ((u + 1 + 1 + n.toNat : Nat) : Int) ++ pinB us [0]) := by
 have hd0 : decide (n < 0) = false := decide_eq_false (by omega)
 have hd1 : decide (4096 < n) = false := decide_eq_false (by omega)
 have cM := fun us' => make_call ws w u n.toNat (arrT k) [IntKind.u64.wrap n] hw (by simp) (by omega) (by simp only [List.length_cons, List.length_nil]; omega) hws us'
 rw [← mul1 h0 h1] at cM
 refine acallM_intro tbOK Tryz.func58 rfl (by kernel_rfl) Tryz.ntmps58 (by simp) _ rfl (fun gB hw1 => ?_)
 repeat' (first | refine ao_q rfl (q_isnil (b := false) rfl Tryz.underlying31 rfl rfl) rfl rfl ?_ | refine ao_q rfl (q_callO (args := fun ρ => [.ptr (memPV ws (ρ 8) (8 + (w : Int)) u) 0, tyPV ⟨k, 0, 0, false⟩]) rfl (fun _ => rfl) (fun ρ => size_call ws (ρ 8) (8 + (w : Int)) u k hk)) rfl rfl ?_ | refine ao_aggpv 33 [pi k, pi 0, pi (IntKind.i64.wrap (0 + 1)), pb false] rfl rfl ?_ | (refine ao_sh_box ?_; first | refine ao_boxm 1 rfl rfl rfl rfl rfl rfl ?_) | (refine ao_sh_call ?_; first | refine ao_callM (memH ws (8 + (w : Int)) u) (memH (arrW ws u k n) (8 + (w : Int)) ((u + 1 + 1 + n.toNat : Nat) : Int)) [(1000, .pin (.own 0) (us 0))] [] [0] noLoneH rfl rfl rfl (by repeat (first | exact hsub_nil | refine hsub_cons rfl ?_)) tS rfl rfl rfl cM ?_) | refine sK ?_ | refine sC (fun _ => ?_) (fun _ => ?_) | fail)
 exact ⟨.inr rfl, .inl ⟨_, rfl, rfl, ⟨by repeat (first | exact hsub_nil | refine hsub_cons rfl ?_), rfl⟩⟩⟩
theorem makeW_get {ws : List Int} {u z : Nat} {hd x : Int} (h : 10 + u + z ≤ ws.length) : (makeW ws u hd [x] z)[9 + u]? = some x := by
 have e1 : ((ws.set (8 + u) hd).take (9 + u)).length = 9 + u := by rw [List.length_take, List.length_set]; omega
 simp only [makeW, List.length_cons, List.length_nil]
 rw [List.append_assoc, List.getElem?_append_left (by simp only [List.length_take, List.length_append, List.length_set, List.length_drop, List.length_cons, List.length_nil]; omega), List.getElem?_take, if_pos (by omega), List.append_assoc, List.getElem?_append, if_neg (by rw [e1]; omega), e1]
 simp
end Go.Cg
namespace Go.Cg
open Go.RowKit
section
variable {P : Program} {tb : Tab} {n : Nat} {g : Base} {H : HEnv} {env : Env} {ops : List Oper} {o : Oper} {rest : List Oper} {Q : Env → HEnv → Prop} {QQ : QC} {c : Code} {K : KK} {w : World} {ρ : Nat → Value} {a : Act}
def loanLV (ρ : Nat → Value) (H : HEnv) : List AV → Option (List PV)
 | [] => some []
 | x :: xs => match loanV ρ H x, loanLV ρ H xs with | some p, some ps => some (p :: ps) | _, _ => none
def loanW (ρ : Nat → Value) (H : HEnv) : AV → Option PV
 | .box i off => match H.get i with
  | some (.cell v) => if v.flat.all (oneA H) then match loanLV ρ H v.flat with | some cs => some (.ptr (.agg cs) off) | none => none else none
  | _ => none
 | av => loanC ρ H av
def loansW (ρ : Nat → Value) (env : Env) (H : HEnv) : List Operand → Option (List PV)
 | [] => some []
 | x :: xs => match env.val x, loansW ρ env H xs with
  | some av, some ps => match loanW ρ H av with | some p => some (p :: ps) | none => none
  | _, _ => none
theorem loanLV_rel (hf : FS g K ρ H w) : ∀ {avs : List AV} {ps : List PV} {vs : List Value}, vs.length = avs.length → (∀ (k : Nat) (c : AV) (v : Value), avs[k]? = some c → vs[k]? = some v → ARel K w ρ H c v) → loanLV ρ H avs = some ps → PRels (lentK K ρ H) w ps vs
 | [], ps, vs, hl, _, h => by
  simp only [loanLV, Option.some.injEq] at h; subst h
  have : vs = [] := List.eq_nil_of_length_eq_zero (by simpa using hl)
  subst this; exact .nil
 | x :: xs, ps, vs, hl, hr, h => by
  cases vs with
  | nil => simp at hl
  | cons v vs =>
   simp only [loanLV] at h
   split at h
   ·rename_i p qs e1 e2
    simp only [Option.some.injEq] at h; subst h
    exact .cons (loanV_rel hf (hr 0 x v rfl rfl) e1) (loanLV_rel hf (by simpa using hl) (fun k c v hc hv => hr (k + 1) c v (by simpa using hc) (by simpa using hv)) e2)
   ·cases h
theorem loanW_rel (hf : FS g K ρ H w) {av : AV} {v : Value} (h : ARel K w ρ H av v) {p : PV} (hp : loanW ρ H av = some p) : PRel (lentK K ρ H) w p v := by
 by_cases hb : ∃ i off, av = .box i off
 ·obtain ⟨i, off, rfl⟩ := hb
  simp only [loanW] at hp
  split at hp
  ·rename_i u hi
   split at hp
   ·rename_i hone
    split at hp
    ·rename_i cs hcs
     simp only [Option.some.injEq] at hp; subst hp
     obtain ⟨b, t, arr, x, hr, hB, hheap, hx, harr, hn⟩ := hf.heap.ok i _ hi
     obtain ⟨f1, f2, f3⟩ := flat_rel hx hone (row_one hf)
     have hps := loanLV_rel hf (by simpa using f1) f3 hcs
     cases h with
     | box _ _ b' hi' hρ =>
      rw [hr] at hρ
      simp only [Value.pointer.injEq, Option.some.injEq, Addr.mk.injEq, and_true] at hρ
      subst hρ
      have := PRel.ptr (K := lentK K ρ H) (w := w) (.agg cs) off b 0 x.cells.toList hps.1 (fun k v hk => ⟨.inr (.inr ⟨i, u, hi, by rw [hr]; rfl⟩), by
       simp only [World.cell?, hheap, Nat.zero_add]; rw [← harr]; simpa using hk, f2 v (List.mem_of_getElem? hk)⟩) hps.2
      simpa using this
    ·cases hp
   ·cases hp
  ·cases hp
 ·have : loanW ρ H av = loanC ρ H av := by
   cases av <;> first | rfl | (exact absurd ⟨_, _, rfl⟩ hb)
  rw [this] at hp
  exact loanC_rel hf h hp
theorem loansW_rel (hf : FS g K ρ H w) : ∀ {xs : List Operand} {ps : List PV}, (∀ x ∈ xs, ∀ av, env.val x = some av → ARel K w ρ H av (a.eval x)) → loansW ρ env H xs = some ps → PRels (lentK K ρ H) w ps (xs.map a.eval)
 | [], ps, _, h => by simp [loansW] at h; subst h; exact .nil
 | x :: xs, ps, hv, h => by
  simp only [loansW] at h
  split at h
  ·rename_i av qs e1 e2
   split at h
   ·rename_i p e3
    simp only [Option.some.injEq] at h; subst h
    exact .cons (loanW_rel hf (hv x (by simp) _ e1) e3) (loansW_rel hf (fun y hy => hv y (by simp [hy])) e2)
   ·cases h
  ·cases h
theorem q_callW {xs : Array Operand} {ts : Array TypeId} {f : FuncId} {args : (Nat → Value) → List PV} {r : Value} (hop : o.op = .call { callee := .value (.func f), args := xs, argTypes := ts }) (hargs : ∀ ρ, loansW ρ env H xs.toList = some (args ρ))
  (hc : ∀ ρ, ACall P f (args ρ) (.base r)) : QStep P g H o env (.pv (.base r)) := by
 refine ⟨fun K ρ a w hf hv => ?_⟩
 have hp := loansW_rel hf (a := a) (xs := xs.toList) (fun x hx => hv x (by rw [hop]; simp [Op.operands, Call.operands]; exact .inr (by simpa using hx))) (hargs ρ)
 have : (execOp a.eval o).run P w = .ok (.enter f (xs.toList.map a.eval).toArray) w := by
  have e : (xs.toList.map a.eval).toArray = xs.map a.eval := by rw [← Array.toList_map, Array.toArray_toList]
  rw [e]
  simp [execOp, hop, resolve, Act.eval, Deferred.ofValue, invoke, call_run (hc ρ).stands]
 rw [this]
 refine ⟨rfl, ((hc ρ).calls _ w _ (lent_lt hf) hp).mono fun e w'' ⟨v, K', h1, h2, h3⟩ => ?_⟩
 cases h3 with
 | base _ hb => exact ⟨_, K, h1, ⟨h2.below, fun _ _ h => h, fun _ _ h => .inl h, fun b o h => Nat.lt_of_lt_of_le (hf.lt b o h) h2.below.size⟩, .pv _ _ (.base _ hb)⟩
theorem q_isnilad {t rt pe : TypeId} {x : Operand} {i off : Nat} (hop : o.op = .binOp .eql t x (.const (.pointer none)) rt) (hu0 : P.underlying t = some (.pointer pe)) (hx : env.val x = some (.ad i off)) : QStep P g H o env (.pv (.base (.bool false))) := by
 have hu : P.underlying t = some (.pointer (P.pointee t)) := by rw [hu0, Program.pointee, hu0]
 refine ⟨fun K ρ a w hf hv => ?_⟩
 have hxr := hv x (by rw [hop]; simp [Op.operands]) _ hx
 generalize hxv : a.eval x = xv at hxr
 cases hxr with
 | ad _ _ b m c hi hb =>
  have h1 := run_eql_pointer_nil (P := P) w t (some ⟨b, off, none⟩) hu
  have h2 : a.eval (.const (.pointer none)) = .pointer none := rfl
  have hrun : (execOp a.eval o).run P w = .ok (.value (.bool false)) w := by
   simp [execOp, hop, hxv, h2, eqGuard, h1]
  rw [hrun]
  exact qval hf (.pv _ _ (.base _ rfl))
theorem q_adnil {x : Operand} {i off : Nat} (hop : o.op = .nilCheck x) (hx : env.val x = some (.ad i off)) : QStep P g H o env (.ad i off) := by
 refine ⟨fun K ρ a w hf hv => ?_⟩
 have hxr := hv x (by rw [hop]; simp [Op.operands]) _ hx
 generalize hxv : a.eval x = xv at hxr
 cases hxr with
 | ad _ _ b m c hi hb =>
  have hrun : (execOp a.eval o).run P w = .ok (.value (.pointer (some ⟨b, off, none⟩))) w := by simp [execOp, hop, hxv]
  rw [hrun]
  exact qval hf (.ad i off b m c hi hb)
theorem q_adfld (htb : TabOK P tb) {t f : Nat} {x : Operand} {i off o' ft s : Nat} {fs : List (Nat × Nat × Nat)} (hop : o.op = .fieldAddr t x f) (hx : env.val x = some (.ad i off)) (hk : ∃ q, tb.k t = .agg fs q) (hfe : fs[f]? = some (o', ft, s)) (hs : fieldOk tb ft s = true) : QStep P g H o env (.ad i (off + o')) := by
 refine ⟨fun K ρ a w hf hv => ?_⟩
 obtain ⟨q, hk⟩ := hk
 simp only [fieldOk, Bool.and_eq_true, bne_iff_ne, beq_iff_eq] at hs
 obtain ⟨F, hF, hfs', _⟩ := tab_agg htb hk
 have hf' : ∃ fl : Field, F[f]? = some fl ∧ fl.offset = o' ∧ fl.type = ft := by
  rw [← hfs', List.getElem?_map, Array.getElem?_toList] at hfe
  cases hfl : F[f]? with
  | none => simp [hfl] at hfe
  | some fl => simp [hfl] at hfe; exact ⟨fl, rfl, hfe.1, hfe.2.1⟩
 obtain ⟨fl, hfl, rfl, rfl⟩ := hf'
 have hko : tb.k fl.type ≠ .oth := by intro e; simp [Tab.known, e] at hs
 have hsz := run_sizeOf htb hko w
 have hne : tb.size fl.type ≠ 0 := by omega
 have hxr := hv x (by rw [hop]; simp [Op.operands]) _ hx
 generalize hxv : a.eval x = xv at hxr
 cases hxr with
 | ad _ _ b m c hi hb =>
  have hrun : (execOp a.eval o).run P w = .ok (.value (.pointer (some ⟨b, off + fl.offset, none⟩))) w := by
   simp [execOp, hop, Instr.fieldAt, run_underlying hF, hfl, hxv, Instr.sureAddr, fieldPlace, hsz, hne, Addr.add_lit]
  rw [hrun]
  exact qval hf (.ad i (off + fl.offset) b m c hi hb)
theorem q_mlen (htb : TabOK P tb) {ty e : Nat} {x : Operand} {i sz : Nat} {es : List PV} (hop : o.op = .call { callee := .builtin .len, args := #[x], argTypes := #[ty] }) (hx : env.val x = some (.own i)) (hi : H.get i = some (.mrow e sz es)) (hk : tb.k ty = .sl e) : QStep P g H o env (.pv (.base (.int .i64 es.length))) := by
 refine ⟨fun K ρ a w hf hv => ?_⟩
 have hxr := hv x (by rw [hop]; simp [Op.operands, Call.operands]) _ hx
 generalize hxv : a.eval x = xv at hxr
 obtain ⟨us, hown, hsz, hcr, hKK'⟩ := hf.heap.ok i _ hi
 cases hxr with
 | own _ _ =>
  have hrun : (execOp a.eval o).run P w = .ok (.value (.int .i64 es.length)) w := by
   have hl : ∃ ad c, ρ i = .slice ad es.length c := by
    rcases hown.2 with ⟨h, h2⟩ | ⟨b, cap, cur, h, _⟩
    ·exact ⟨none, 0, by rw [h, h2]⟩
    ·exact ⟨_, _, h⟩
   obtain ⟨ad, c, hl⟩ := hl
   simp [execOp, hop, resolve, invoke, builtin, Builtin.len_, hxv, hl, run_underlying (tab_sl htb hk), goInt]
  rw [hrun]
  exact qval hf (.pv _ _ (.base _ rfl))
theorem q_notnil0 {t rt pe : TypeId} {x : Operand} {av : AV} {b : Bool} (hop : o.op = .binOp .neq t x (.const (.pointer none)) rt) (hu0 : P.underlying t = some (.pointer pe)) (hx : env.val x = some av) (hn : nilOf av = some b) : QStep P g H o env (.pv (.base (.bool (!b)))) := by
 have hu : P.underlying t = some (.pointer (P.pointee t)) := by rw [hu0, Program.pointee, hu0]
 refine ⟨fun K ρ a w hf hv => ?_⟩
 have hxr := hv x (by rw [hop]; simp [Op.operands]) _ hx
 generalize hxv : a.eval x = xv at hxr
 have key : ∀ p : Option Addr, xv = .pointer p → p.isNone = b → QRes P K ρ H w (.pv (.base (.bool (!b)))) ((execOp a.eval o).run P w) := by
  rintro p rfl rfl
  have h1 := run_neq_pointer_nil (P := P) w t p hu
  have h2 : a.eval (.const (.pointer none)) = .pointer none := rfl
  have hrun : (execOp a.eval o).run P w = .ok (.value (.bool !p.isNone)) w := by
   simp [execOp, hop, hxv, h2, eqGuard, h1]
  rw [hrun]
  exact qval hf (.pv _ _ (.base _ rfl))
 cases hxr with
 | box i off b' hi hb => simp only [nilOf, Option.some.injEq] at hn; exact key _ rfl (by simpa using hn)
 | pv p v hp =>
  cases hp with
  | ptr => simp only [nilOf, Option.some.injEq] at hn; exact key _ rfl (by simpa using hn)
  | base v hb =>
   cases xv <;> simp only [nilOf] at hn <;> try cases hn
   rename_i p
   cases p with
   | none => simp only [Option.some.injEq] at hn; exact key _ rfl (by simpa using hn)
   | some ad => cases hn
  | _ => simp [nilOf] at hn
 | _ => simp [nilOf] at hn
theorem q_callRW {xs : Array Operand} {ts : Array TypeId} {f : FuncId} {args : (Nat → Value) → List PV} {e : TypeId} {sz : Nat} {es : List PV} (hop : o.op = .call { callee := .value (.func f), args := xs, argTypes := ts }) (hargs : ∀ ρ, loansW ρ env H xs.toList = some (args ρ))
  (hc : ∀ ρ, ACallR P f (args ρ) e sz es) (hsz : 0 < sz) (hb : ∀ p ∈ es, ∃ u, p = .base u) : QStep P g H o env (.pv (.slc sz es false)) := by
 refine ⟨fun K ρ a w hf hv => ?_⟩
 have hp := loansW_rel hf (a := a) (xs := xs.toList) (fun x hx => hv x (by rw [hop]; simp [Op.operands, Call.operands]; exact .inr (by simpa using hx))) (hargs ρ)
 have : (execOp a.eval o).run P w = .ok (.enter f (xs.toList.map a.eval).toArray) w := by
  have e : (xs.toList.map a.eval).toArray = xs.map a.eval := by rw [← Array.toList_map, Array.toArray_toList]
  rw [e]
  simp [execOp, hop, resolve, Act.eval, Deferred.ofValue, invoke, call_run (hc ρ).stands]
 rw [this]
 refine ⟨rfl, ((hc ρ).calls _ w _ (lent_lt hf) hp).mono fun ex w'' ⟨v, K', us, h1, h2, hown, hcr, hk⟩ => ?_⟩
 refine ⟨v, fun b o => K b o ∨ (v.ownBlock = some b ∧ o < es.length * sz), h1, ⟨h2.below, fun _ _ h => .inl h, fun b o h => h.imp id fun h => (hown.lt b h.1).1, fun b o h => ?_⟩, .pv _ _ ?_⟩
 ·rcases h with h | h
  ·exact Nat.lt_of_lt_of_le (hf.lt b o h) h2.below.size
  ·exact (hown.lt b h.1).2
 ·have hbase : ∀ (c : PV) (u : Value) (i : Nat) (p : PV) (m : Nat), es[i]? = some p → p.cells[m]? = some c → PRel K' w'' c u → PRel (fun b o => K b o ∨ (v.ownBlock = some b ∧ o < es.length * sz)) w'' c u := by
   intro c u i p m hpe hc hr
   obtain ⟨x, rfl⟩ := hb p (List.mem_of_getElem? hpe)
   cases m with
   | zero => simp [PV.cells] at hc; subst hc; cases hr with | base _ h => exact .base _ h
   | succ m => simp [PV.cells] at hc
  rcases hown.2 with ⟨hr, hz⟩ | ⟨b, cap, cur, hr, hB, hheap, hle, hcap, hsize, htake⟩
  ·rw [hr]
   have : es = [] := List.eq_nil_of_length_eq_zero hz
   subst this; exact .nil sz false
  ·by_cases hes : es = []
   ·subst hes
    rw [hr]
    exact .slc sz [] false b 0 cap (fun _ => []) hsz (Nat.zero_le _) (by simp) (by simp [maxLen]) hcap (fun i e he => by simp at he) (fun i e k c v he => by simp at he)
   ·have hown' := hown
    have hxl : us.length = es.length * sz := hown.1
    have hvb : v.ownBlock = some b := by rw [hr]; rfl
    rw [hr] at hown'
    have goal : PRel (fun b o => K b o ∨ (v.ownBlock = some b ∧ o < es.length * sz)) w'' (.slc sz es false) (.slice (some ⟨b, 0, none⟩) es.length cap) := by
     refine .slc sz es false b 0 cap (fun i => (us.drop (i * sz)).take sz) hsz hle (by simp) (by omega) hcap (fun k e he => ?_) (fun k e m c v he hc hvv => ?_)
     ·obtain ⟨c1, c2⟩ := hcr k e he
      have hk : k < es.length := (List.getElem?_eq_some_iff.1 he).1
      have hle2 : k * sz + sz ≤ es.length * sz := by rw [← Nat.succ_mul]; exact Nat.mul_le_mul_right _ hk
      refine ⟨c1, by rw [List.length_take, List.length_drop]; omega, fun m u hm => ?_⟩
      rw [List.getElem?_take] at hm
      split at hm
      ·rename_i hms
       rw [List.getElem?_drop] at hm
       obtain ⟨u', u1, u2, _⟩ := c2 m e.cells[m] (List.getElem?_eq_getElem (by omega))
       rw [u1, Option.some.injEq] at hm; subst hm
       exact ⟨.inr ⟨hvb, by omega⟩, by rw [Nat.zero_add, hown'.cellAt _ (by omega)]; exact u1, u2⟩
      ·cases hm
     ·obtain ⟨c1, c2⟩ := hcr k e he
      obtain ⟨u, u1, u2, u3⟩ := c2 m c hc
      rw [List.getElem?_take] at hvv
      split at hvv
      ·rw [List.getElem?_drop, u1, Option.some.injEq] at hvv
       subst hvv; exact hbase _ _ k e m he hc u3
      ·cases hvv
    rw [← hr] at goal
    exact goal
theorem aw_pin (i j : Nat) (hi : (H.get i).isSome = true) (_ : H.get j = none) (k : ∀ u, AW P n g c env ((j, .pin (.own i) u) :: H) QQ) : AW P n g c env H QQ := by
 refine ⟨fun a w hinv => ?_⟩
 obtain ⟨g1, g2, K, ρ, hf, he⟩ := hinv
 have hkk : ∀ m, (H.get m).isSome = true → (HEnv.get ((j, .pin (.own i) (ρ i)) :: H) m).isSome = true ∧ ρ m = ρ m := by
  intro m hm
  refine ⟨?_, rfl⟩
  rw [HEnv.get_cons]; split <;> first | rfl | exact hm
 have hlive : ∀ m hh, HEnv.get ((j, .pin (.own i) (ρ i)) :: H) m = some hh → hh.live = true → H.get m = some hh := by
  intro m hh hm hl
  rw [HEnv.get_cons] at hm
  split at hm
  ·simp only [Option.some.injEq] at hm; subst hm; simp [HE.live] at hl
  ·exact hm
 refine (k (ρ i)).go a w ⟨g1, g2, K, ρ, ⟨hf.below, hf.old, hf.new, hf.lt, hf.others, hf.pt, fun m hh bb hm hl hb => hf.away m hh bb (hlive m hh hm hl) hl hb, fun m hh hm => ?_, fun m m' hh hh' bb hmm hm hm' hl hl' => hf.heap.apart m m' hh hh' bb hmm (hlive m hh hm hl) (hlive m' hh' hm' hl') hl hl'⟩, he.keeps (.refl K w) hkk⟩
 rw [HEnv.get_cons] at hm
 split at hm
 ·simp only [Option.some.injEq] at hm; subst hm
  have hold : ARel K w ρ H (.own i) (ρ i) := .own i hi
  exact hold.keeps (.refl K w) hkk
 ·exact (hf.heap.ok m hh hm).keeps (.refl hf.lt) hf.lt hkk
theorem q_mtrim (htb : TabOK P tb) {t e : Nat} {x : Operand} {hi : Option Operand} (i j : Nat) {u : Value} {sz : Nat} {es : List PV} {h : Int} (hop : o.op = .slice t x none hi none) (hk : tb.k t = .sl e) (hke : tb.known e = true) (hsz : tb.size e = sz)
  (hx : env.val x = some (.own i)) (hi' : H.get i = some (.mrow e sz es)) (hj : H.get j = some (.pin (.own i) u)) (hhi : boundE env H es.length hi = some h) (h1 : 0 ≤ h) (h2 : h ≤ es.length) (h3 : 0 < es.length) : QStep P g H o env (.pv (.base (cut sz u 0 h.toNat))) := by
 refine ⟨fun K ρ a w hf hv => ?_⟩
 have hxr := hv x (by rw [hop]; simp [Op.operands]) _ hx
 generalize hxv : a.eval x = xv at hxr
 have eh := bound_run (a := a) hf (x := hi) (fun y hy av hh => hv y (by rw [hop]; simp [Op.operands]; exact .inr (by simpa using hy)) av hh) hhi
 have hko : tb.k e ≠ .oth := by intro h; simp [Tab.known, h] at hke
 have hs := run_sizeOf htb hko w
 have bounds : ∀ cap : Nat, es.length ≤ cap → (Instr.sliceBounds true es.length cap none (hi.map a.eval) none).run P w = .ok (0, h.toNat, cap) w := by
  intro cap hcap
  have hhc : h ≤ (cap : Int) := by omega
  rcases eh with ⟨rfl, rfl⟩ | ⟨z, k', rfl, hz⟩
  ·simp [Instr.sliceBounds]
  ·simp [hz, Instr.sliceBounds, Instr.sliceBound, asIntOf, hhc, h1]
 obtain ⟨xs, hown, hz0, hcr, hnK⟩ := hf.heap.ok i _ hi'
 have hpin := hf.heap.ok j _ hj
 have hu : u = ρ i := by
  have hp : ARel K w ρ H (.own i) u := hpin
  cases hp; rfl
 cases hxr with
 | own _ hi0 =>
  rcases hown.2 with ⟨hr, hz⟩ | ⟨b, cap, cur, hr, hB, hheap, hle, hcap, hsize, htake⟩
  ·omega
  ·have hb := bounds cap hle
   have hrun : (execOp a.eval o).run P w = .ok (.value (cut sz u 0 h.toNat)) w := by
    have hne : ¬ cap = 0 := by omega
    rw [hu, hr]
    simp [execOp, hop, hxv, hr, Instr.sliceAt, Instr.slice, run_underlying (tab_sl htb hk), hb, hs, hsz, Addr.add_lit, cut]
   rw [hrun]
   exact qval hf (.pv _ _ (.base _ (cut_ok _ _ _ _ ⟨_, _, _, by rw [hu, hr]⟩)))
theorem aw_retrim (b i j k : Nat) {e sz h : Nat} {u : Value} {es : List PV} {cs : List AV} (hb : H.get b = some (.cell (.agg cs))) (hk : cs[k]? = some (.pv (.base (cut sz u 0 h)))) (hi : H.get i = some (.mrow e sz es)) (hj : H.get j = some (.pin (.own i) u)) (hh : h ≤ es.length) (h3 : 0 < es.length)
  (kk : AW P n g c (killEnv i env) ((b, .cell (.agg ((kills i cs).set k (.own i)))) :: (i, .mrow e sz (es.take h)) :: killH i H) QQ) : AW P n g c env H QQ := by
 refine ⟨fun a w hinv => ?_⟩
 obtain ⟨g1, g2, K, ρ, hf, he⟩ := hinv
 obtain ⟨xs, hown, hz0, hcr, hnK⟩ := hf.heap.ok i _ hi
 have hpin : ARel K w ρ H (.own i) u := hf.heap.ok j _ hj
 have hu : u = ρ i := by cases hpin; rfl
 have hne : b ≠ i := by rintro rfl; rw [hi] at hb; cases hb
 rcases hown.2 with ⟨hr, hz⟩ | ⟨bb, cap, cur, hr, hB, hheap, hle, hcap, hsize, htake⟩
 ·omega
 ·obtain ⟨v, hv⟩ : ∃ v : Value, v = .slice (some ⟨bb, 0, none⟩) h cap := ⟨_, rfl⟩
  have hcut : cut sz u 0 h = v := by rw [hu, hr, hv]; simp [cut]
  have hnp : ∀ b, ρ i = .pointer (some ⟨b, 0, none⟩) → False := by intro b hb; rw [hr] at hb; cases hb
  have hsome : ∀ j, ((killH i H).get j).isSome = (H.get j).isSome := by intro j; rw [killH_get]; cases H.get j <;> rfl
  have hkeep : ∀ m, m ≠ i → (H.get m).isSome = true → (HEnv.get ((b, .cell (.agg ((kills i cs).set k (.own i)))) :: (i, .mrow e sz (es.take h)) :: killH i H) m).isSome = true ∧ (fun m => if m = i then v else ρ m) m = ρ m := by
   intro m hne hm
   refine ⟨?_, by simp [hne]⟩
   rw [HEnv.get_cons]
   split
   ·rfl
   ·rw [HEnv.get_cons, if_neg (Ne.symm hne), hsome]; exact hm
  have htr : ∀ av x, ARel K w ρ H av x → ARel K w (fun m => if m = i then v else ρ m) ((b, .cell (.agg ((kills i cs).set k (.own i)))) :: (i, .mrow e sz (es.take h)) :: killH i H) (kill i av) x := fun av x h => h.kill (.refl K w) i hkeep hnp (row_one hf i (by simp [isVal, hi]))
  have hvb : blockOf v = blockOf (ρ i) := by rw [hv, hr]; rfl
  have hget : ∀ (m : Nat) (x : HE), m ≠ i → m ≠ b → HEnv.get ((b, .cell (.agg ((kills i cs).set k (.own i)))) :: (i, .mrow e sz (es.take h)) :: killH i H) m = some x → ∃ h0, H.get m = some h0 ∧ x = killHE i h0 ∧ (x.live = true → h0.live = true) := by
   intro m x hmi hmb hm
   rw [HEnv.get_cons, if_neg (Ne.symm hmb), HEnv.get_cons, if_neg (Ne.symm hmi), killH_get] at hm
   cases hH : H.get m with
   | none => simp [hH] at hm
   | some e0 =>
    simp only [hH, Option.map_some, Option.some.injEq] at hm
    subst hm
    exact ⟨e0, rfl, rfl, by cases e0 <;> exact id⟩
  have hlv : ∀ (m : Nat) (x : HE), HEnv.get ((b, .cell (.agg ((kills i cs).set k (.own i)))) :: (i, .mrow e sz (es.take h)) :: killH i H) m = some x → x.live = true → ∃ h0, H.get m = some h0 ∧ h0.live = true ∧ blockOf ((fun m => if m = i then v else ρ m) m) = blockOf (ρ m) := by
   intro m x hm hl
   by_cases hmb : m = b
   ·subst hmb; exact ⟨_, hb, rfl, by simp [hne]⟩
   ·by_cases hmi : m = i
    ·subst hmi; exact ⟨_, hi, rfl, by simp [hvb]⟩
    ·obtain ⟨h0, a1, a2, a3⟩ := hget m x hmi hmb hm
     exact ⟨h0, a1, a3 hl, by simp [hmi]⟩
  have hlen : (es.take h).length = h := by rw [List.length_take]; omega
  refine kk.go a w ⟨g1, g2, K, fun m => if m = i then v else ρ m, ⟨hf.below, hf.old, hf.new, hf.lt, hf.others, hf.pt, ?_, ?_, ?_⟩, ?_⟩
  ·intro m x b2 hm hl hb2
   obtain ⟨h0, a1, a2, a3⟩ := hlv m x hm hl
   exact hf.away m h0 b2 a1 a2 (by rw [← a3]; exact hb2)
  ·intro m x hm
   by_cases hmb : m = b
   ·subst hmb
    rw [HEnv.get_cons, if_pos rfl] at hm
    simp only [Option.some.injEq] at hm; subst hm
    simp only [hne, if_false]
    obtain ⟨b', t', arr, x', q1, q2, q3, q4, q5, q6⟩ := hf.heap.ok m _ hb
    refine ⟨b', t', arr, x', q1, q2, q3, ?_, q5, q6⟩
    cases q4 with
    | agg _ vs a1 a2 a3 =>
     refine .agg _ vs (by simpa [kills_length] using a1) a2 fun k' c' v' hc hvv => ?_
     rw [List.getElem?_set] at hc
     split at hc
     ·rename_i e1; subst e1
      split at hc
      ·simp only [Option.some.injEq] at hc; subst hc
       have := a3 k _ v' hk hvv
       cases this with
       | pv _ _ hp =>
        cases hp
        rw [hcut]
        have := ARel.own (K := K) (w := w) (ρ := fun m => if m = i then v else ρ m) (H := (m, .cell (.agg ((kills i cs).set k (.own i)))) :: (i, HE.mrow e sz (es.take h)) :: killH i H) i (by rw [HEnv.get_cons, if_neg hne, HEnv.get_cons, if_pos rfl]; rfl)
        simpa using this
      ·cases hc
     ·rw [kills_get] at hc
      cases hcs : cs[k']? with
      | none => simp [hcs] at hc
      | some c0 => simp [hcs] at hc; subst hc; exact htr _ _ (a3 k' c0 v' hcs hvv)
   ·by_cases hmi : m = i
    ·subst hmi
     rw [HEnv.get_cons, if_neg hne, HEnv.get_cons, if_pos rfl] at hm
     simp only [Option.some.injEq] at hm; subst hm
     simp only [if_true]
     have hxl : xs.length = es.length * sz := hown.1
     have hle2 : h * sz ≤ es.length * sz := Nat.mul_le_mul_right _ hh
     refine ⟨xs.take (h * sz), ⟨by rw [hlen, List.length_take]; omega, .inr ⟨bb, cap, cur, by rw [hv, hlen], hB, hheap, by rw [hlen]; omega, hcap, hsize, ?_⟩⟩, hz0, ?_, ?_⟩
     ·rw [hlen, ← htake, List.take_take]; congr 1; omega
     ·intro k1 e1 he1
      rw [List.getElem?_take] at he1
      split at he1
      ·rename_i hk1
       obtain ⟨c1, c2⟩ := hcr k1 e1 he1
       refine ⟨c1, fun m c hc => ?_⟩
       obtain ⟨v, v1, v2, v3⟩ := c2 m c hc
       have hm : m < sz := by have := (List.getElem?_eq_some_iff.1 hc).1; omega
       refine ⟨v, ?_, v2, v3⟩
       rw [List.getElem?_take, if_pos]
       ·exact v1
       ·have : (k1 + 1) * sz ≤ h * sz := Nat.mul_le_mul_right _ hk1
        rw [Nat.succ_mul] at this; omega
      ·cases he1
     ·intro b' hb' o
      exact hnK b' (by rw [hr]; rw [hv] at hb'; exact hb') o
    ·obtain ⟨h0, a1, a2, a3⟩ := hget m x hmi hmb hm
     subst a2
     simp only [hmi, if_false]
     have hok := hf.heap.ok m h0 a1
     cases h0 with
     | cell v => obtain ⟨b', t', arr, x', q1, q2, q3, q4, q5, q6⟩ := hok; exact ⟨b', t', arr, x', q1, q2, q3, htr _ _ q4, q5, q6⟩
     | pin v x' => exact htr _ _ hok
     | row t' sz' es' => exact hok
     | mrow t' sz' es' => exact hok
     | dead => trivial
     | obj X => exact hok
  ·intro m m' x x' b2 hmm hm hm' hl hl' hb1 hb2
   obtain ⟨h0, a1, a2, a3⟩ := hlv m x hm hl
   obtain ⟨h0', c1, c2, c3⟩ := hlv m' x' hm' hl'
   exact hf.heap.apart m m' h0 h0' b2 hmm a1 c1 a2 c2 (by rw [← a3]; exact hb1) (by rw [← c3]; exact hb2)
  ·intro t' av hg'
   rw [killEnv_get] at hg'
   cases hE : env.get t' with
   | none => simp [hE] at hg'
   | some av0 =>
    simp only [hE, Option.map_some, Option.some.injEq] at hg'
    subst hg'
    obtain ⟨v, v1, v2⟩ := he t' av0 hE
    exact ⟨v, v1, htr _ _ v2⟩
theorem aw_meq (i : Nat) {t sz : Nat} {es es' : List PV} (hi : H.get i = some (.mrow t sz es)) (e : es = es') (k : AW P n g c env ((i, .mrow t sz es') :: H) QQ) : AW P n g c env H QQ := by
 subst e
 refine ⟨fun a w hinv => ?_⟩
 obtain ⟨g1, g2, K, ρ, hf, he⟩ := hinv
 have heq : ∀ m, HEnv.get ((i, .mrow t sz es) :: H) m = H.get m := by
  intro m
  rw [HEnv.get_cons]
  split
  ·rename_i e; subst e; exact hi.symm
  ·rfl
 have hkk : ∀ m, (H.get m).isSome = true → (HEnv.get ((i, .mrow t sz es) :: H) m).isSome = true ∧ ρ m = ρ m := fun m hm => ⟨by rw [heq]; exact hm, rfl⟩
 refine k.go a w ⟨g1, g2, K, ρ, ⟨hf.below, hf.old, hf.new, hf.lt, hf.others, hf.pt, fun m hh bb hm => hf.away m hh bb (by rw [← heq]; exact hm), fun m hh hm => ?_, fun m m' hh hh' bb hmm hm hm' => hf.heap.apart m m' hh hh' bb hmm (by rw [← heq]; exact hm) (by rw [← heq]; exact hm')⟩, he.keeps (.refl K w) hkk⟩
 rw [heq] at hm
 exact (hf.heap.ok m hh hm).keeps (.refl hf.lt) hf.lt hkk
theorem ACallM.tells {f : FuncId} {args args' : List AV} {H' : HEnv} {r : AV} {lone : Bool} (h : ACallM P f args H r H' lone) (hl : args'.length = args.length) (ht : ∀ (k : Nat) (c c' : AV), args[k]? = some c → args'[k]? = some c' → c' = c ∨ ∃ p p', c = .pv p ∧ c' = .pv p' ∧ PTells p' p) : ACallM P f args' H r H' lone :=
 ⟨h.stands, fun g K ρ w vs hw1 hf hv => h.calls g K ρ w vs hw1 hf ⟨by rw [hv.1, hl], fun k c v hc hvv => by
  have hlt : k < args'.length := by rw [hl]; exact (List.getElem?_eq_some_iff.1 hc).1
  have hr := hv.2 k _ v (List.getElem?_eq_getElem hlt) hvv
  rcases ht k c _ hc (List.getElem?_eq_getElem hlt) with e | ⟨p, p', rfl, e, hp⟩
  ·rw [e] at hr; exact hr
  ·rw [e] at hr
   cases hr with
   | pv _ _ hr => exact .pv _ _ (hp _ _ _ hr)⟩⟩
end
end Go.Cg
namespace Go.Cg
open Go.RowKit
theorem put_other {a : Act} {d t : Nat} {v : Value} (h : d ≠ t) : (a.put (some d) v).tmps[t]? = a.tmps[t]? := by
 simp only [Act.put]; rw [Array.getElem?_setIfInBounds_ne h]
theorem put_comm {a : Act} {c d : Nat} {u v : Value} (h : c ≠ d) : (a.put (some c) u).put (some d) v = (a.put (some d) v).put (some c) u := by
 simp only [Act.put]; rw [Array.setIfInBounds_comm _ _ h]
theorem listed_true {listed : Array Bool} {j : Nat} (h : j < listed.size) : listed.getD j true = listed.getD j false := by
 rw [Array.getD_eq_getD_getElem?, Array.getD_eq_getD_getElem?, Array.getElem?_eq_getElem h]; rfl
def edgesDown (ops : List Oper) : Bool := ops.zipIdx.all fun x => x.1.after.toList.all fun e => !Region.binds .any e || decide (e.on < x.2)
theorem edgesDown_at {ops : List Oper} (h : edgesDown ops = true) {j : Nat} {o : Oper} (ho : ops[j]? = some o) : ∀ i, hasEdge o i = true → i < j := by
 intro i hi
 have h1 := List.all_eq_true.1 h (o, j) (mem_zipIdx_get ho)
 unfold hasEdge at hi
 obtain ⟨e, he, heq⟩ := List.any_eq_true.1 hi
 simp only [Bool.and_eq_true, beq_iff_eq] at heq
 have := List.all_eq_true.1 h1 e he
 simp only [heq.1, Bool.not_true, Bool.false_or, decide_eq_true_eq] at this
 omega
theorem ready_nil {ops : List Oper} {listed : Array Bool} (he : edgesDown ops = true) (hs : listed.size = ops.length) (h0 : Region.ready .any ops.toArray listed = []) : ∀ j, j < ops.length → listed.getD j true = true := by
 intro j
 induction j using Nat.strongRecOn with
 | _ j ih =>
  intro hj
  cases hun : listed.getD j true
  ·have ho := List.getElem?_eq_getElem hj
   have : j ∈ Region.ready .any ops.toArray listed := mem_ready_iff.2 ⟨_, ho, hun, fun i hi => by
    have hij := edgesDown_at he ho i hi
    have := ih i hij (by omega)
    rwa [listed_true (by omega)] at this⟩
   rw [h0] at this; cases this
  ·rfl
def Blind (P : Program) (o : Oper) (c : Nat) : Prop := ∀ (a : Act) (v : Value) (w : World), (execOp (a.put (some c) v).eval o).run P w = (execOp a.eval o).run P w
def notTmp (c : Nat) : Operand → Bool
 | .tmp t => !(t == c)
 | _ => true
theorem eval_blind {a : Act} {c : Nat} {v : Value} : ∀ {x : Operand}, notTmp c x = true → (a.put (some c) v).eval x = a.eval x
 | .tmp t, h => by
  have : c ≠ t := by rintro rfl; simp [notTmp] at h
  simp only [Act.eval, Array.getD_eq_getD_getElem?, put_other this]
 | .const _, _ => rfl
 | .global _, _ => rfl
 | .func _, _ => rfl
theorem blind_append {P : Program} {o : Oper} {c : Nat} {x y : Operand} {ts : Array TypeId} (hop : o.op = .call { callee := .builtin .append, args := #[x, y], argTypes := ts }) (hx : notTmp c x = true) (hy : notTmp c y = true) : Blind P o c := fun a v w => by
 simp [execOp, hop, resolve, invoke, builtin, eval_blind hx, eval_blind hy]
section
variable {P : Program} {n : Nat} {g : Base} {K : KK} {w : World} {ρ : Nat → Value} {H : HEnv} {env : Env} {a : Act} {ops l : List Oper} {Q : Env → Prop}
theorem wpAny_late {R : Exit → Act → World → Prop} {k jc c r tA : Nat} {oA oc : Oper} (hl0 : l = ops.take k) (hlk : l.length = k) (s : Script P n g H ops l env Q) (hB : drawOk ops l = true) (hE : edgesDown ops = true) (hT : tailOk ops (k + 1) = true)
  (hA : ops[k]? = some oA) (hgA : oA.guard = none) (hdA : oA.dst = some tA) (himp : ∀ j, j < k → j ≠ jc → implied ops ops.length k j = true)
  (hjc : jc < k) (hoc : ops[jc]? = some oc) (hpc : oc.op = .move (.tmp r)) (hgc : oc.guard = none) (hdc : oc.dst = some c) (hec : ∀ i, hasEdge oc i = false) (hbl : Blind P oA c) (x1 : c ≠ tA) (x2 : tA ≠ r) (_x3 : c ≠ r)
  (hR : ∀ e a w, R e a w → e = .normal) (hq : ∀ env' a w, Q env' → Inv n g env' H a w → wpList P ops.toArray R (ops.drop k) a w) : ∀ (fuel : Nat) (listed : Array Bool) (a : Act) (w : World), (listed.toList.filter (! ·)).length = fuel → listed.size = ops.length → Clsd ops listed →
  ((listed.getD k true = false ∧ Mid P n g H ops l env Q s listed a w) ∨ ((∀ i, i < ops.length → listed.getD i true = (decide (i < k + 1) && !(i == jc))) ∧ ∃ v, a.eval (.tmp r) = v ∧ wpList P ops.toArray R (ops.drop (k + 1)) (a.put (some c) v) w)) → wpAny P .any ops.toArray R fuel listed a w := by
 have hklt := (List.getElem?_eq_some_iff.1 hA).1
 have hdrop : ops.drop k = oA :: ops.drop (k + 1) := by
  rw [List.drop_eq_getElem_cons hklt, (List.getElem?_eq_some_iff.1 hA).2]
 have hget : ∀ j, j < k → l[j]? = ops[j]? := by
  intro j hj
  have := congrArg (fun x => x[j]?) hl0
  simp only [List.getElem?_take, if_pos hj] at this
  exact this
 have hocl : l[jc]? = some oc := by rw [hget jc hjc]; exact hoc
 have done : ∀ (listed : Array Bool) (a : Act) (w : World), (∀ j, j < l.length → listed.getD j true = true) → Mid P n g H ops l env Q s listed a w → wpList P ops.toArray R (oA :: ops.drop (k + 1)) a w := by
  intro listed a w hall hm
  obtain ⟨K, ρ, hf, hl, he⟩ := hm.st
  rw [← hdrop]
  refine hq s.last a w s.fin ⟨hm.size, hm.defers, K, ρ, hf, fun t av hav => ?_⟩
  have hlast : (s.e ++ [s.last])[l.length]? = some s.last := by rw [List.getElem?_append_right (by rw [s.lene]; exact Nat.le_refl _), s.lene]; simp
  rcases s.src l.length s.last hlast t av hav with ⟨i, o, ri, h1, h2, h3, h4, h5, _⟩ | ⟨h1, av0, h2, h3⟩
  ·obtain ⟨v, v1, v2⟩ := hl i o ri t h2 (hall i h1) h4 h3
   exact ⟨v, v1, h5 _ _ _ _ _ v2⟩
  ·obtain ⟨v, v1, v2⟩ := he t av0 h2 (fun i o ho _ => h1 i o (List.getElem?_eq_some_iff.1 ho).1 ho)
   exact ⟨v, v1, h3 _ _ _ _ _ v2⟩
 have runc : ∀ (a : Act) (w : World), (execOp a.eval oc).run P w = .ok (.value (a.eval (.tmp r))) w := fun a w => by simp [execOp, hpc]
 have nilAt : ∀ (listed : Array Bool) (a : Act) (w : World), listed.size = ops.length → Region.ready .any ops.toArray listed = [] →
   ((listed.getD k true = false ∧ Mid P n g H ops l env Q s listed a w) ∨ ((∀ i, i < ops.length → listed.getD i true = (decide (i < k + 1) && !(i == jc))) ∧ ∃ v, a.eval (.tmp r) = v ∧ wpList P ops.toArray R (ops.drop (k + 1)) (a.put (some c) v) w)) → False := by
  intro listed a w hs h0 h
  have hall := ready_nil hE hs h0
  rcases h with ⟨h, _⟩ | ⟨h, _⟩
  ·rw [hall k hklt] at h; cases h
  ·have := h jc (by omega); rw [hall jc (by omega)] at this; simp at this
 intro fuel
 induction fuel with
 | zero =>
  intro listed a w hc hs hcl h
  have hall : ∀ j, j < ops.length → listed.getD j true = true := by
   intro j hj
   have hn := List.filter_eq_nil_iff.1 (List.eq_nil_of_length_eq_zero hc)
   have hlt : j < listed.size := by omega
   have := hn listed[j] (by simp)
   simp only [Bool.not_eq_true', Bool.not_eq_false] at this
   rw [Array.getD_eq_getD_getElem?, Array.getElem?_eq_getElem hlt]
   simpa using this
  have hnil : Region.ready .any ops.toArray listed = [] := by
   rw [List.eq_nil_iff_forall_not_mem]
   intro j hj
   obtain ⟨o, ho, hun, _⟩ := mem_ready_iff.1 hj
   rw [hall j (List.getElem?_eq_some_iff.1 ho).1] at hun; cases hun
  exact (nilAt listed a w hs hnil h).elim
 | succ fuel ih =>
  intro listed a w hc hs hcl h
  refine ⟨fun h0 => (nilAt listed a w hs h0 h).elim, fun j hj => ?_⟩
  obtain ⟨o, ho, hun, hready⟩ := mem_ready_iff.1 hj
  have hjlt := (List.getElem?_eq_some_iff.1 ho).1
  have hcount := count_next (by omega) hun hc
  have hcl' := clsd_next hs hcl hj
  have hs' : (listed.setIfInBounds j true).size = ops.length := by simp [hs]
  have htail : ∀ m o, ops[m]? = some o → k + 1 ≤ m → ∀ i, i < m → hasEdge o i = true := by
   intro m o ho hm i hi
   have hmem : (o, m) ∈ ops.zipIdx.drop (k + 1) := by
    rw [List.mem_drop_iff_getElem]
    have hlt := (List.getElem?_eq_some_iff.1 ho).1
    refine ⟨m - (k + 1), by simp; omega, ?_⟩
    simp only [List.getElem_zipIdx, Nat.zero_add]
    have : k + 1 + (m - (k + 1)) = m := by omega
    simp only [this]
    rw [(List.getElem?_eq_some_iff.1 ho).2]
   have h1 := List.all_eq_true.1 hT (o, m) hmem
   simp only [Bool.and_eq_true] at h1
   exact List.all_eq_true.1 h1.1 i (List.mem_range.2 hi)
  have hcnt : ∀ listed : Array Bool, (listed.toList.filter (! ·)).length = fuel → listed.size = ops.length → (∀ i, i < ops.length → listed.getD i true = decide (i < k + 1)) → k + 1 + fuel = ops.length := by
   intro listed hc hsz hex
   have e1 : listed.toList = List.replicate (k + 1) true ++ List.replicate (ops.length - (k + 1)) false := by
    apply List.ext_getElem
    ·simp [hsz]; omega
    ·intro i h1 h2
     have hi : i < ops.length := by simpa [hsz] using h1
     have := hex i hi
     rw [Array.getD_eq_getD_getElem?, Array.getElem?_eq_getElem (by rw [hsz]; exact hi)] at this
     simp only [Option.getD_some] at this
     simp only [Array.getElem_toList, this, List.getElem_append, List.length_replicate, List.getElem_replicate]
     by_cases hil : i < k + 1
     ·rw [dif_pos hil, decide_eq_true hil]
     ·rw [dif_neg hil, decide_eq_false hil]
   rw [e1] at hc
   simp only [List.filter_append, List.filter_replicate, Bool.not_true, Bool.false_eq_true, if_false, Bool.not_false, if_true, List.nil_append, List.length_replicate] at hc
   omega
  rcases h with ⟨hk0, hm⟩ | ⟨hex, v, hv, hT2⟩
  ·obtain ⟨K, ρ, hf, hl, he⟩ := hm.st
   rcases Nat.lt_trichotomy j k with hjk | rfl | hjk
   ·have hol : l[j]? = some o := by rw [hget j hjk]; exact ho
    have hjl : j < l.length := by omega
    have hrj : s.r[j]? = some (s.r[j]'(by rw [s.lenr]; exact hjl)) := List.getElem?_eq_getElem _
    have hej : s.e[j]? = some (s.e[j]'(by rw [s.lene]; exact hjl)) := List.getElem?_eq_getElem _
    generalize s.r[j]'(by rw [s.lenr]; exact hjl) = rj at hrj
    generalize s.e[j]'(by rw [s.lene]; exact hjl) = ej at hej
    obtain ⟨t, hd, ht, hor⟩ := s.ok j o rj ej hol hrj hej
    have hreads := hm.reads hB hol hej hun hready hl he
    have hk0' : (listed.setIfInBounds j true).getD k true = false := by rw [getD_set_other (by omega)]; exact hk0
    have hwanted : ∀ b, guardE ops ej o = some b → Region.wanted o (yielded ops.toArray a.tmps) = b := by
     intro b hgb
     unfold guardE guardVar at hgb
     cases hg : o.guard with
     | none => simp [hg] at hgb; subst hgb; simp [Region.wanted, hg]
     | some x =>
      obtain ⟨jj, want⟩ := x
      simp only [hg] at hgb
      cases hjj : ops[jj]? with
      | none => simp [hjj] at hgb
      | some o' =>
       simp only [hjj] at hgb
       cases hd' : o'.dst with
       | none => simp [hd'] at hgb
       | some t' =>
        simp only [hd'] at hgb
        split at hgb
        ·rename_i bb hbb
         simp only [Option.some.injEq] at hgb; subst hgb
         obtain ⟨v, v1, v2⟩ := hreads t' (by simp [readsOf, guardVar, hg, hjj, hd']) _ hbb
         cases v2 with
         | pv _ _ hp => cases hp; simp only [Region.wanted, hg, yielded, List.getElem?_toArray, hjj, Option.bind_some, hd', v1]; cases bb <;> cases want <;> rfl
        ·rename_i vs hbb
         simp only [Option.some.injEq] at hgb; subst hgb
         obtain ⟨v, v1, v2⟩ := hreads t' (by simp [readsOf, guardVar, hg, hjj, hd']) _ hbb
         cases v2 with
         | pv _ _ hp => cases hp; simp only [Region.wanted, hg, yielded, List.getElem?_toArray, hjj, Option.bind_some, hd', v1]; cases want <;> rfl
        ·cases hgb
    unfold wpOp
    simp only [List.getElem?_toArray, ho]
    have next : ∀ (K' : KK) (w' : World) (v : Value), Evo K K' w w' → ARel K' w' ρ H rj v → wpAny P .any ops.toArray R fuel (listed.setIfInBounds j true) (a.put o.dst v) w' :=
     fun K' w' v hev hv => ih _ _ _ hcount hs' hcl' (.inl ⟨hk0', hm.next hB hol hrj hd ht hun hready (fun _ _ _ => trivial) hf hl he hev hv⟩)
    rcases hor with ⟨hgt, hqs⟩ | ⟨hgf, rfl⟩
    ·rw [hwanted true hgt, if_pos rfl]
     refine .inl ?_
     unfold Oper.wp
     have hqr := hqs.go K ρ a w hf (fun x hx av hxv => by
      cases x with
      | tmp t' =>
       obtain ⟨v, v1, v2⟩ := hreads t' (by
        unfold readsOf
        exact List.mem_append_left _ (mem_opTmps (Array.mem_toList_iff.2 hx))) av hxv
       simpa [Act.eval, Array.getD_eq_getD_getElem?, v1] using v2
      | const v =>
       simp only [Env.val] at hxv
       split at hxv
       ·rename_i h1; simp only [Option.some.injEq] at hxv; subst hxv; exact .pv _ _ (.base v h1)
       ·cases hxv
      | func f =>
       simp only [Env.val, Option.some.injEq] at hxv; subst hxv
       exact .pv _ _ (.fn (.func f) [] [] [] [] rfl rfl (by simp) (by simp))
      | global gg =>
       simp only [Env.val, Option.some.injEq] at hxv; subst hxv
       exact .pv _ _ (.base _ rfl))
     generalize (execOp a.eval o).run P w = res at hqr
     cases res with
     | halt x w' => simp only [QRes] at hqr
     | ok nx w' =>
      cases nx <;> simp only [QRes] at hqr <;> simp only [Oper.upon]
      case value v =>
       obtain ⟨K', hev, hv⟩ := hqr
       exact next K' _ _ hev hv
      case enter f args =>
       obtain ⟨rfl, hc'⟩ := hqr
       refine hc'.mono fun e w'' ⟨v, K', he', hev, hv⟩ => ?_
       subst he'
       exact next K' _ _ hev hv
    ·rw [hwanted false hgf, if_neg (by simp)]
     exact next K _ _ (.refl hf.lt) undef_rel
   ·
    rw [hA] at ho; cases ho
    have hw1 : Region.wanted oA (yielded ops.toArray a.tmps) = true := by simp [Region.wanted, hgA]
    have hw2 : ∀ a : Act, Region.wanted oA (yielded ops.toArray a.tmps) = true := fun a => by simp [Region.wanted, hgA]
    have hpre : ∀ m, m < j → m ≠ jc → listed.getD m true = true := by
     intro m hm' hne
     rw [listed_true (by omega)]
     exact implied_listed hcl _ j m oA hA hready (himp m hm' hne)
    unfold wpOp
    simp only [List.getElem?_toArray, hA]
    rw [if_pos hw1]
    cases hjcl : listed.getD jc true
    ·
     have hrjc : s.r[jc]? = some (s.r[jc]'(by rw [s.lenr]; omega)) := List.getElem?_eq_getElem _
     have hejc : s.e[jc]? = some (s.e[jc]'(by rw [s.lene]; omega)) := List.getElem?_eq_getElem _
     generalize s.r[jc]'(by rw [s.lenr]; omega) = rc at hrjc
     generalize s.e[jc]'(by rw [s.lene]; omega) = ec at hejc
     obtain ⟨t, hd, ht, hor⟩ := s.ok jc oc rc ec hocl hrjc hejc
     have hreadyc : ∀ i, hasEdge oc i = true → listed.getD i false = true := fun i hi => by rw [hec i] at hi; cases hi
     have hreads := hm.reads hB hocl hejc hjcl hreadyc hl he
     obtain ⟨K', hev, hvr⟩ : ∃ K', Evo K K' w w ∧ ARel K' w ρ H rc (a.eval (.tmp r)) := by
      rcases hor with ⟨_, hqs⟩ | ⟨hgf, _⟩
      ·have hqr := hqs.go K ρ a w hf (fun x hx av hxv => by
        rw [hpc] at hx
        simp only [Op.operands, List.mem_toArray] at hx
        have hx' : x = .tmp r := by simpa using hx
        subst hx'
        obtain ⟨v, v1, v2⟩ := hreads r (by unfold readsOf; rw [hpc]; exact List.mem_append_left _ (by simp [Op.operands, opTmps])) av hxv
        simpa [Act.eval, Array.getD_eq_getD_getElem?, v1] using v2)
       rw [runc] at hqr
       exact hqr
      ·simp [guardE, hgc] at hgf
     have hm2 := hm.next hB hocl hrjc hd ht hjcl hreadyc (fun _ _ _ => trivial) hf hl he hev hvr
     rw [hdc] at hm2
     have hwl := done _ _ _ (fun m hm' => by
      by_cases e : m = jc
      ·subst e; exact getD_set_same (by omega)
      ·rw [getD_set_other e]; exact hpre m (by omega) e) hm2
     unfold wpList at hwl
     rw [if_pos (hw2 _)] at hwl
     rcases hwl with hwl | hwl
     ·refine .inl ?_
      have hex : ∀ i, i < ops.length → (listed.setIfInBounds j true).getD i true = (decide (i < j + 1) && !(i == jc)) := by
       intro i hi
       by_cases e : i = j
       ·subst e; rw [getD_set_same (by omega)]; simp; omega
       ·rw [getD_set_other e]
        by_cases e2 : i = jc
        ·subst e2; simp [hjcl]
        ·by_cases e3 : i < j
         ·rw [hpre i e3 e2]; simp [e2]; omega
         ·rw [hm.notail i (by omega) hi]; simp; omega
      have go : ∀ (a2 : Act) (u : Value) (w' : World), a2.tmps = (a.put (some tA) u).tmps → wpList P ops.toArray R (ops.drop (j + 1)) (a2.put (some c) (a.eval (.tmp r))) w' → wpAny P .any ops.toArray R fuel (listed.setIfInBounds j true) a2 w' := fun a2 u w' h2 hh =>
       ih _ _ _ hcount hs' hcl' (.inr ⟨hex, _, by simp only [Act.eval, Array.getD_eq_getD_getElem?, h2, put_other x2], hh⟩)
      unfold Oper.wp at hwl ⊢
      rw [hbl] at hwl
      generalize (execOp a.eval oA).run P w = res at hwl
      cases res with
      | halt x w' => cases x <;> simp only [Oper.upon] at hwl <;> exact nomatch hR _ _ _ hwl
      | ok nx w' =>
       cases nx <;> simp only [Oper.upon, hdA] at hwl ⊢
       case value v => exact go _ v _ rfl (by rw [put_comm (Ne.symm x1)]; exact hwl)
       case skip => exact go _ undef _ rfl (by rw [put_comm (Ne.symm x1)]; exact hwl)
       case defer d => exact go _ undef _ rfl (by rw [put_comm (Ne.symm x1)]; exact hwl)
       case enter f args => exact Calls.mono hwl (fun e w'' he => by
        cases e with
        | returned v => exact go _ v _ rfl (by rw [put_comm (Ne.symm x1)]; exact he)
        | panicked ch => exact nomatch hR _ _ _ he
        | outgrown => exact he)
       case row f args => exact Rows.mono hwl (fun v _ he => go _ v _ rfl (by rw [put_comm (Ne.symm x1)]; exact he))
     ·exact nomatch hR _ _ _ hwl.2.choose_spec.choose_spec
    ·have hwl := done _ _ _ (fun m hm' => by
      by_cases e : m = jc
      ·subst e; exact hjcl
      ·exact hpre m (by omega) e) hm
     unfold wpList at hwl
     rw [if_pos hw1] at hwl
     refine hwl.imp (fun hwl => ?_) id
     have hex : ∀ i, i < ops.length → (listed.setIfInBounds j true).getD i true = decide (i < j + 1) := by
      intro i hi
      by_cases e : i = j
      ·subst e; rw [getD_set_same (by omega)]; simp
      ·rw [getD_set_other e]
       by_cases e3 : i < j
       ·by_cases e2 : i = jc
        ·subst e2; rw [hjcl]; simp; omega
        ·rw [hpre i e3 e2]; simp; omega
       ·rw [hm.notail i (by omega) hi]; simp; omega
     exact Oper.wp_mono (fun a2 w2 hh => wpAny_tail hT fuel (j + 1) _ a2 w2 (Nat.le_refl _) (hcnt _ hcount hs' hex) hs' hex hh) hwl
   ·have := hready k (htail j o ho (by omega) k hjk)
    rw [← listed_true (by omega), hk0] at this; cases this
  ·
   have hjj : j = jc := by
    rcases Nat.lt_or_ge j (k + 1) with h1 | h1
    ·have := hex j hjlt
     rw [hun] at this
     have h2 : decide (j < k + 1) = true := decide_eq_true h1
     rw [h2] at this
     simpa using this
    ·have := hready jc (htail j o ho h1 jc (by omega))
     rw [← listed_true (by omega), hex jc (by omega)] at this; simp at this
   subst hjj
   rw [hoc] at ho; cases ho
   unfold wpOp
   simp only [List.getElem?_toArray, hoc]
   rw [if_pos (by simp [Region.wanted, hgc])]
   refine .inl ?_
   unfold Oper.wp
   rw [runc]
   simp only [Oper.upon, hdc]
   rw [hv]
   have hex2 : ∀ i, i < ops.length → (listed.setIfInBounds j true).getD i true = decide (i < k + 1) := by
    intro i hi
    by_cases e : i = j
    ·subst e; rw [getD_set_same (by omega)]; simp; omega
    ·rw [getD_set_other e, hex i hi]; simp [e]
   exact wpAny_tail hT fuel (k + 1) _ _ w (Nat.le_refl _) (hcnt _ hcount hs' hex2) hs' hex2 hT2
def lateChk (ops : List Oper) (oc : Oper) (k jc c tA r : Nat) : Bool :=
 drawOk ops (ops.take k) && edgesDown ops && tailOk ops (k + 1) && ((List.range k).all fun j => j == jc || implied ops ops.length k j) && Nat.blt jc k && oc.after.isEmpty && !(c == tA) && !(tA == r) && !(c == r)
theorem aw_draw_late {QQ : QC} {id : Nat} (k jc : Nat) {c tA r : Nat} {oA oc : Oper} (hok : closeOk ops (k + 1) = true) (hm : P.follows .mixedOrders = true)
  (hA : (moreEs (k + 1) ops 0)[k]? = some oA) (hgA : oA.guard = none) (hdA : oA.dst = some tA) (hoc : (moreEs (k + 1) ops 0)[jc]? = some oc) (hpc : oc.op = .move (.tmp r)) (hgc : oc.guard = none) (hdc : oc.dst = some c) (hbl : Blind P oA c)
  (hchk : lateChk (moreEs (k + 1) ops 0) oc k jc c tA r = true)
  (h : AD P n g H (moreEs (k + 1) ops 0) (fun env' => AO P n g (moreEs (k + 1) ops 0).toArray ((moreEs (k + 1) ops 0).drop k) env' H (fun env' H' => QQ .normal env' H')) ((moreEs (k + 1) ops 0).take k) env) (hnd : noDefer ops = true := by kernel_rfl) : AW P n g (.region id ops.toArray true) env H QQ := by
 simp only [lateChk, Bool.and_eq_true, Bool.not_eq_true', beq_eq_false_iff_ne] at hchk
 obtain ⟨⟨⟨⟨⟨⟨⟨⟨hB, hE⟩, hT⟩, himp⟩, hjc⟩, hec⟩, x1⟩, x2⟩, x3⟩ := hchk
 have hjc' := Nat.le_of_ble_eq_true hjc
 obtain ⟨s⟩ := script_of h
 refine ⟨fun a w hi rr dd => ?_⟩
 refine wpIn_mono (region_anyR (R := fun a' w' => ∃ env' H', Inv n g env' H' a' w' ∧ QQ .normal env' H') hnd hm ?_) (fun e a' w' h => by obtain ⟨rfl, h⟩ := h; exact h)
 have hlen := moreEs_length (k + 1) ops 0
 refine wpAny_more hok _ _ _ _ (by simp) ?_ ?_
 ·intro j o ho hl
  have hlt := (List.getElem?_eq_some_iff.1 ho).1
  simp [Array.getD_eq_getD_getElem?, hlt] at hl
 obtain ⟨h1, h2, K, ρ, hf, he⟩ := hi
 have hev : Evo K K w { w with drawn := w.drawn + 1 } := (Evo.refl hf.lt).drew
 have hsz : ops.toArray.size = (moreEs (k + 1) ops 0).length := by simp [hlen]
 rw [hsz]
 generalize moreEs (k + 1) ops 0 = ops' at *
 have hklt := (List.getElem?_eq_some_iff.1 hA).1
 have hlk : (ops'.take k).length = k := by simp; omega
 refine wpAny_late (jc := jc) (by simp []) hlk s hB hE hT hA hgA hdA (fun j hj hne => ?_) hjc' hoc hpc hgc hdc (fun i => ?_) hbl x1 x2 x3 (fun e a w hh => hh.1) (fun env' a' w' h hi' => wpList_mono (fun e a' w' ⟨env', H', h1, h2, h3⟩ => ⟨h2, env', H', h1, h3⟩) (h.go a' w' hi')) _ _ _ _ (by simp) (by simp) ?_ (.inl ⟨?_, h1, h2, by simp, by rw [hlk]; omega, ?_, ?_, K, ρ, hf.evo hev, ?_, ?_⟩)
 ·have := List.all_eq_true.1 himp j (List.mem_range.2 hj)
  rw [Bool.or_eq_true, beq_iff_eq] at this
  exact this.resolve_left hne
 ·have : oc.after = #[] := by simpa using hec
  simp [hasEdge, this]
 ·intro j o ho hl
  have hlt := (List.getElem?_eq_some_iff.1 ho).1
  simp [Array.getD_eq_getD_getElem?, hlt] at hl
 ·simp [Array.getD_eq_getD_getElem?, hklt]
 ·intro j _ hj
  simp [Array.getD_eq_getD_getElem?, hj]
 ·intro i o ho hli
  have hlt := (List.getElem?_eq_some_iff.1 ho).1
  have : i < ops'.length := by simp at hlt; omega
  simp [Array.getD_eq_getD_getElem?, this] at hli
 ·intro i o ri t ho hli
  have hlt := (List.getElem?_eq_some_iff.1 ho).1
  have : i < ops'.length := by simp at hlt; omega
  simp [Array.getD_eq_getD_getElem?, this] at hli
 ·intro t av hav _
  obtain ⟨v, v1, v2⟩ := he t av hav
  exact ⟨v, v1, v2.later (hev.later hf.lt)⟩
end
end Go.Cg
namespace Go.Cg
theorem sM {Q P : Prop} (k : Q) (h : Q → P := by
  intro k
  first
  | exact ao_q rfl (q_mlen tbOK rfl rfl rfl rfl) rfl rfl k
  | exact ao_q rfl (q_adnil rfl rfl) rfl rfl k
  | exact ao_q rfl (q_adfld tbOK rfl rfl ⟨_, rfl⟩ rfl rfl) rfl rfl k
  | exact AD.step _ _ _ _ _ rfl (q_mlen tbOK rfl rfl rfl rfl) rfl rfl k
  | exact AD.step _ _ _ _ _ rfl (q_adnil rfl rfl) rfl rfl k
  | exact AD.step _ _ _ _ _ rfl (q_adfld tbOK rfl rfl ⟨_, rfl⟩ rfl rfl) rfl rfl k
  | fail) : P := h k
theorem hsub_mr {H H' : HEnv} {i : Nat} {t sz : Nat} {es es' : List PV} (h : H.get i = some (.mrow t sz es)) (e : es = es') (hs : HSub H H') : HSub H ((i, .mrow t sz es') :: H') := hsub_m h e hs
end Go.Cg
