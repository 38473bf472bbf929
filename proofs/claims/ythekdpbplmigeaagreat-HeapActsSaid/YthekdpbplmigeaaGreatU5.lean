/- A part of the walks by abstract values: no statement of its own. -/
import Derived.Test.YthekdpbplmigeaaGreatU4
namespace Go.Cg
open Go.Proofs
def triesB (n : Int) (c : Cl) : Bool := decide (0 ≤ c.tf) && decide (c.tf < c.tt) && decide (c.tt ≤ n)
def handsB (n : Int) (c : Cl) : Bool := decide (0 ≤ c.hf) && decide (c.hf < c.ht) && decide (c.ht ≤ n)
def aloneE (n : Int) (c : Cl) : Int :=
 if decide (c.kind < 1) || decide (4 < c.kind) || !triesB n c || !handsB n c then 3
 else if c.kind == 2 && (decide (c.filter < 0) || decide (c.hf ≤ c.filter)) || c.kind != 2 && c.filter != -1 then 3
 else if meet c 1 c 2 || meet c 1 c 3 || meet c 2 c 3 then 12
 else 0
set_option maxHeartbeats 1000000 in
theorem alone_call (n : Int) (c : Cl) : ACall Tryz.prog 335 [pi n, clPV c] (pi (aloneE n c)) := by
 refine acall_intro tbOK Tryz.func335 rfl (by kernel_rfl) Tryz.ntmps335 (by simp) _ rfl (fun hw gB hgB => ?_)
 refine aw_cut [(0, .pv (pi n)), (3, .pv (.ptr (clPV c) 0))] [] ?_ ?_
 ·repeat' (first | refine sA ?_ | refine sC (fun _ => ?_) (fun _ => ?_) | fail)
  all_goals (refine ⟨?_, tH⟩; repeat (first | exact sub_nil | refine sub_cons rfl ?_ | (refine sub_b rfl ?_ ?_; · (first | (simp_all [triesB]; done) | (simp_all [triesB]; omega))) | (refine sub_i rfl ?_ ?_; · (rw [wrap_in (by omega) (by omega)] <;> omega))))
 refine aw_cut [(0, .pv (pi n)), (3, .pv (.ptr (clPV c) 0)), (5, .pv (pb (triesB n c)))] [] ?_ ?_
 ·repeat' (first | refine sA ?_ | refine sC (fun _ => ?_) (fun _ => ?_) | fail)
  all_goals (refine ⟨?_, tH⟩; repeat (first | exact sub_nil | refine sub_cons rfl ?_ | (refine sub_b rfl ?_ ?_; · (first | (simp_all [triesB]; done) | (simp_all [triesB]; omega))) | (refine sub_i rfl ?_ ?_; · (rw [wrap_in (by omega) (by omega)] <;> omega))))
 refine aw_cut [(0, .pv (pi n)), (3, .pv (.ptr (clPV c) 0)), (5, .pv (pb (triesB n c))), (6, .pv (pb (handsB n c)))] [] ?_ ?_
 ·repeat' (first | refine sA ?_ | refine sC (fun _ => ?_) (fun _ => ?_) | fail)
  all_goals (refine ⟨?_, tH⟩; repeat (first | exact sub_nil | refine sub_cons rfl ?_ | (refine sub_b rfl ?_ ?_; · (first | (simp_all [handsB]; done) | (simp_all [handsB]; omega))) | (refine sub_i rfl ?_ ?_; · (rw [wrap_in (by omega) (by omega)] <;> omega))))
 repeat' (first | (refine shC ?_; first | refine qC (meet_call c 1 c 2) ?_ | refine qC (meet_call c 1 c 3) ?_ | refine qC (meet_call c 2 c 3) ?_) | refine sA ?_ | refine sC (fun _ => ?_) (fun _ => ?_) | fail)
 all_goals (first | refine retq rfl ?_ | refine retn rfl ?_)
 all_goals (first | (simp_all [retPV, aloneE]; done) | (simp_all [retPV, aloneE]; omega))
def condW (a b : Cl) (q : Int) : Bool := decide ((bounds b q).1 < (bounds b q).2) && within a 1 b q && within a 2 b q && within a 3 b q
def retW (a b : Cl) (q : Int) : Bool := q == 1 || !(a.hf == (bounds b q).1 || a.kind == 2 && a.filter == (bounds b q).1)
def badM (a b : Cl) (p q : Int) : Bool := meet a p b q && !((a.tf == b.tf && a.tt == b.tt) && p == 1 && q == 1)
def fits09 (a b : Cl) : Bool :=
 if condW a b 1 then retW a b 1 else if condW a b 2 then retW a b 2 else if condW a b 3 then retW a b 3
 else !(badM a b 1 1 || badM a b 1 2 || badM a b 1 3 || badM a b 2 1 || badM a b 2 2 || badM a b 2 3 || badM a b 3 1 || badM a b 3 2 || badM a b 3 3)
def anyBad (a b : Cl) (k : Nat) : Bool := (List.range k).any fun i => badM a b (i / 3 + 1 : Nat) (i % 3 + 1 : Nat)
theorem anyBad_succ (a b : Cl) (k : Nat) : anyBad a b (k + 1) = (anyBad a b k || badM a b (k / 3 + 1 : Nat) (k % 3 + 1 : Nat)) := by
 simp [anyBad, List.range_succ]
theorem anyBad_nine (a b : Cl) : anyBad a b 9 = (badM a b 1 1 || badM a b 1 2 || badM a b 1 3 || badM a b 2 1 || badM a b 2 2 || badM a b 2 3 || badM a b 3 1 || badM a b 3 2 || badM a b 3 3) := by
 simp [anyBad, List.range_succ, Bool.or_assoc]
theorem fits_at {a b : Cl} {k : Nat} (h1 : 1 ≤ k) (h3 : k ≤ 3) (hno : ∀ q : Nat, 1 ≤ q → q < k → condW a b q = false) (hc : condW a b k = true) : fits09 a b = retW a b k := by
 rcases (by omega : k = 1 ∨ k = 2 ∨ k = 3) with rfl | rfl | rfl
 ·have hc : condW a b 1 = true := hc
  simp [fits09, hc]
 ·have e1 : condW a b 1 = false := hno 1 (by omega) (by omega)
  have hc : condW a b 2 = true := hc
  simp [fits09, hc, e1]
 ·have e1 : condW a b 1 = false := hno 1 (by omega) (by omega)
  have e2 : condW a b 2 = false := hno 2 (by omega) (by omega)
  have hc : condW a b 3 = true := hc
  simp [fits09, hc, e1, e2]
theorem fits_no {a b : Cl} (hno : ∀ q : Nat, 1 ≤ q → q < 4 → condW a b q = false) : fits09 a b = !anyBad a b 9 := by
 have e1 : condW a b 1 = false := hno 1 (by omega) (by omega)
 have e2 : condW a b 2 = false := hno 2 (by omega) (by omega)
 have e3 : condW a b 3 = false := hno 3 (by omega) (by omega)
 rw [anyBad_nine]; simp [fits09, e1, e2, e3]
theorem no_succ {a b : Cl} {k : Nat} (hno : ∀ q : Nat, 1 ≤ q → q < k → condW a b q = false) (hc : condW a b k = false) : ∀ q : Nat, 1 ≤ q → q < k + 1 → condW a b q = false := by
 intro q h1 h2
 by_cases e : q = k
 ·subst e; exact hc
 ·exact hno q h1 (by omega)
theorem anyBad_at {a b : Cl} {k : Nat} (hk : k < 9) (h : badM a b (k / 3 + 1 : Nat) (k % 3 + 1 : Nat) = true) : anyBad a b 9 = true := by
 simp only [anyBad, List.any_eq_true, List.mem_range]
 exact ⟨k, hk, h⟩
set_option maxHeartbeats 1000000 in
theorem Fits09_call (a b : Cl) : ACall Tryz.prog 336 [clPV a, clPV b] (pb (fits09 a b)) := by
 refine acall_intro tbOK Tryz.func336 rfl (by kernel_rfl) Tryz.ntmps336 (by simp) _ rfl (fun hw gB hgB => ?_)
 refine aw_cut [(2, .pv (.ptr (clPV a) 0)), (3, .pv (.ptr (clPV b) 0))] [] ?_ ?_
 ·repeat' (first | refine sA ?_ | refine sC (fun _ => ?_) (fun _ => ?_) | fail)
  all_goals (refine ⟨?_, tH⟩; repeat (first | exact sub_nil | refine sub_cons rfl ?_ | (refine sub_b rfl ?_ ?_; · (first | (simp_all [condW]; done) | (simp_all [condW]; omega))) | (refine sub_i rfl ?_ ?_; · (rw [wrap_in (by omega) (by omega)] <;> omega))))
 by_cases hall : ∀ q : Nat, 1 ≤ q → q < 4 → condW a b q = false
 ·refine aw_cut [(2, .pv (.ptr (clPV a) 0)), (3, .pv (.ptr (clPV b) 0))] [] ?_ ?_
  ·repeat' (first | refine sA ?_ | refine sC (fun _ => ?_) (fun _ => ?_) | fail)
   refine aw_loop (fun k : Nat => [(2, .pv (.ptr (clPV a) 0)), (3, .pv (.ptr (clPV b) 0)), (5, .pv (pi k))]) (fun _ => []) (fun k => 1 ≤ k ∧ k ≤ 4) (fun k => 4 - k) 1 ⟨by omega, by omega⟩ (tS) tH ?_
   rintro k ⟨hk1, hk2⟩
   by_cases hlt : k ≤ 3
   ·have hc := hall k hk1 (by omega)
    repeat' (first | (refine shC ?_; first | refine qC (Bounds_call b k) ?_ | refine qC (within_call a 1 b k) ?_ | refine qC (within_call a 2 b k) ?_ | refine qC (within_call a 3 b k) ?_) | refine sK ?_ | refine sC (fun _ => ?_) (fun _ => ?_) | fail)
    all_goals first
     | exact ⟨k + 1, ⟨by omega, by omega⟩, tD, tS, tH⟩
     | (exfalso; simp_all [condW]; done)
   ·repeat' (first | refine sK ?_ | refine sC (fun _ => ?_) (fun _ => ?_) | fail)
    exact ⟨tS, tH⟩
  have hfin := fits_no hall
  refine aw_cut [(2, .pv (.ptr (clPV a) 0)), (3, .pv (.ptr (clPV b) 0)), (8, .pv (pb (a.tf == b.tf && a.tt == b.tt)))] [] ?_ ?_
  ·repeat' (first | refine sA ?_ | refine sC (fun _ => ?_) (fun _ => ?_) | fail)
   all_goals (refine ⟨?_, tH⟩; repeat (first | exact sub_nil | refine sub_cons rfl ?_ | (refine sub_b rfl ?_ ?_; · (first | (simp_all [condW]; done) | (simp_all [condW]; omega))) | (refine sub_i rfl ?_ ?_; · (rw [wrap_in (by omega) (by omega)] <;> omega))))
  repeat' (first | refine sA ?_ | refine sC (fun _ => ?_) (fun _ => ?_) | fail)
  refine aw_loop (fun k : Nat => [(2, .pv (.ptr (clPV a) 0)), (3, .pv (.ptr (clPV b) 0)), (8, .pv (pb (a.tf == b.tf && a.tt == b.tt))), (9, .pv (pi k))]) (fun _ => []) (fun k => 1 ≤ k ∧ k ≤ 4 ∧ anyBad a b (3 * (k - 1)) = false) (fun k => 4 - k) 1 ⟨by omega, by omega, rfl⟩ (tS) tH ?_
  rintro k ⟨hk1, hk2, hno⟩
  by_cases hlt : k ≤ 3
  ·repeat' (first | refine sK ?_ | refine sC (fun _ => ?_) (fun _ => ?_) | fail)
   refine aw_loop (fun m : Nat => [(2, .pv (.ptr (clPV a) 0)), (3, .pv (.ptr (clPV b) 0)), (8, .pv (pb (a.tf == b.tf && a.tt == b.tt))), (9, .pv (pi k)), (10, .pv (pi m))]) (fun _ => []) (fun m => 1 ≤ m ∧ m ≤ 4 ∧ anyBad a b (3 * (k - 1) + (m - 1)) = false) (fun m => 4 - m) 1 ⟨by omega, by omega, hno⟩ (tS) tH ?_
   rintro m ⟨hm1, hm2, hno⟩
   by_cases hltm : m ≤ 3
   ·have hidx : badM a b ((3 * (k - 1) + (m - 1)) / 3 + 1 : Nat) ((3 * (k - 1) + (m - 1)) % 3 + 1 : Nat) = badM a b k m := by
     have e1 : (3 * (k - 1) + (m - 1)) / 3 + 1 = k := by omega
     have e2 : (3 * (k - 1) + (m - 1)) % 3 + 1 = m := by omega
     rw [e1, e2]
    have hsucc := anyBad_succ a b (3 * (k - 1) + (m - 1))
    rw [hidx, hno, Bool.false_or] at hsucc
    cases hb : badM a b k m
    ·have hnext : anyBad a b (3 * (k - 1) + (m + 1 - 1)) = false := by
      rw [show 3 * (k - 1) + (m + 1 - 1) = 3 * (k - 1) + (m - 1) + 1 by omega, hsucc, hb]
     clear hsucc hidx
     repeat' (first | (refine shC ?_; first | refine qC (meet_call a k b m) ?_) | refine sK ?_ | refine sC (fun _ => ?_) (fun _ => ?_) | fail)
     all_goals first
      | exact ⟨m + 1, ⟨by omega, by omega, hnext⟩, tD, tS, tH⟩
      | (exfalso; simp_all [badM]; done)
    ·have hbad := anyBad_at (a := a) (b := b) (k := 3 * (k - 1) + (m - 1)) (by omega) (by rw [hidx]; exact hb)
     clear hsucc hidx
     repeat' (first | (refine shC ?_; first | refine qC (meet_call a k b m) ?_) | refine sK ?_ | refine sC (fun _ => ?_) (fun _ => ?_) | fail)
     all_goals first
      | exact retq rfl (by simp [retPV, hfin, hbad])
      | (exfalso; simp_all [badM]; done)
   ·repeat' (first | refine sK ?_ | refine sC (fun _ => ?_) (fun _ => ?_) | fail)
    have : m = 4 := by omega
    subst this
    exact ⟨k + 1, ⟨by omega, by omega, by rw [show 3 * (k + 1 - 1) = 3 * (k - 1) + (4 - 1) by omega]; exact hno⟩, tD, tS, tH⟩
  ·repeat' (first | refine sK ?_ | refine sC (fun _ => ?_) (fun _ => ?_) | fail)
   have : k = 4 := by omega
   subst this
   exact retq rfl (by simp [retPV, hfin, show anyBad a b 9 = false from hno])
 ·
  have hex : ∃ k : Nat, 1 ≤ k ∧ k ≤ 3 ∧ condW a b k = true ∧ ∀ q : Nat, 1 ≤ q → q < k → condW a b q = false := by
   cases h1 : condW a b 1
   ·cases h2 : condW a b 2
    ·cases h3 : condW a b 3
     ·exact (hall (fun q q1 q2 => by rcases (by omega : q = 1 ∨ q = 2 ∨ q = 3) with rfl | rfl | rfl <;> assumption)).elim
     ·exact ⟨3, by omega, by omega, h3, fun q q1 q2 => by rcases (by omega : q = 1 ∨ q = 2) with rfl | rfl <;> assumption⟩
    ·exact ⟨2, by omega, by omega, h2, fun q q1 q2 => by (obtain rfl : q = 1 := by omega); assumption⟩
   ·exact ⟨1, by omega, by omega, h1, fun q q1 q2 => by omega⟩
  obtain ⟨k0, hk1, hk3, hc0, hno0⟩ := hex
  have hfin := fits_at hk1 hk3 hno0 hc0
  clear hall
  repeat' (first | refine sA ?_ | refine sC (fun _ => ?_) (fun _ => ?_) | fail)
  refine aw_loop (fun k : Nat => [(2, .pv (.ptr (clPV a) 0)), (3, .pv (.ptr (clPV b) 0)), (5, .pv (pi k))]) (fun _ => []) (fun k => 1 ≤ k ∧ k ≤ k0) (fun k => 4 - k) 1 ⟨by omega, by omega⟩ (tS) tH ?_
  rintro k ⟨hj1, hj2⟩
  have hlt : k ≤ 3 := by omega
  by_cases he : k = k0
  ·subst he
   repeat' (first | (refine shC ?_; first | refine qC (Bounds_call b k) ?_ | refine qC (within_call a 1 b k) ?_ | refine qC (within_call a 2 b k) ?_ | refine qC (within_call a 3 b k) ?_) | refine sK ?_ | refine sC (fun _ => ?_) (fun _ => ?_) | fail)
   all_goals first
    | (refine retq rfl ?_; simp_all [retPV, retW]; done)
    | (exfalso; simp_all [condW]; done)
    | (refine retq rfl ?_; simp_all [retPV, retW]; omega)
  ·have hc := hno0 k hj1 (by omega)
   repeat' (first | (refine shC ?_; first | refine qC (Bounds_call b k) ?_ | refine qC (within_call a 1 b k) ?_ | refine qC (within_call a 2 b k) ?_ | refine qC (within_call a 3 b k) ?_) | refine sK ?_ | refine sC (fun _ => ?_) (fun _ => ?_) | fail)
   all_goals first
    | exact ⟨k + 1, ⟨by omega, by omega⟩, tD, tS, tH⟩
    | (exfalso; simp_all [condW]; done)
end Go.Cg
namespace Go.Cg
open Go.Proofs
def cls (l : List Cl) : PV := .slc 10 (l.map clPV) false
theorem cls_len {l : List Cl} (h : (cls l).lenOk) : l.length ≤ 9223372036854775807 := by
 simp [cls, PV.lenOk, maxLen] at h; exact h.1
theorem cls_get {l : List Cl} {k : Nat} (h : k < l.length) : (l.map clPV)[k]? = some (clPV (l.getD k default)) := by simp [h]
def pairBad (l : List Cl) (i m : Nat) : Bool := (List.range m).any fun k => !fits09 (l.getD k default) (l.getD i default)
theorem pairBad_succ (l : List Cl) (i m : Nat) : pairBad l i (m + 1) = (pairBad l i m || !fits09 (l.getD m default) (l.getD i default)) := by simp [pairBad, List.range_succ]
def chkAt (n : Int) (l : List Cl) (i : Nat) : Int :=
 if aloneE n (l.getD i default) != 0 then aloneE n (l.getD i default) else if pairBad l i i then 12 else 0
def check09 (n : Int) (l : List Cl) : Int × Int :=
 if 6 < l.length then (0, 4) else match (List.range l.length).find? (fun i => chkAt n l i != 0) with
  | some i => (((i : Nat) : Int), chkAt n l i)
  | none => (0, 0)
theorem check09_at {n : Int} {l : List Cl} {k : Nat} (h6 : ¬ 6 < l.length) (hk : k < l.length) (hno : ∀ j, j < k → chkAt n l j = 0) (h : chkAt n l k ≠ 0) : check09 n l = (((k : Nat) : Int), chkAt n l k) := by
 have : (List.range l.length).find? (fun i => chkAt n l i != 0) = some k := by
  rw [List.find?_range_eq_some]
  exact ⟨by simpa using h, by simpa using hk, fun j hj => by simp [hno j hj]⟩
 simp [check09, h6, this]
theorem check09_no {n : Int} {l : List Cl} (h6 : ¬ 6 < l.length) (hno : ∀ j, j < l.length → chkAt n l j = 0) : check09 n l = (0, 0) := by
 have : (List.range l.length).find? (fun i => chkAt n l i != 0) = none := by
  rw [List.find?_eq_none]
  intro j hj
  simp [hno j (List.mem_range.1 hj)]
 simp [check09, h6, this]
set_option maxHeartbeats 1000000 in
theorem Check09_call (n : Int) (l : List Cl) : ACall Tryz.prog 320 [pi n, cls l] (.tup [pi (check09 n l).1, pi (check09 n l).2]) := by
 refine acall_intro tbOK Tryz.func320 rfl (by kernel_rfl) Tryz.ntmps320 (by simp) _ rfl (fun hw gB hgB => ?_)
 have hl := cls_len hw.2.1
 by_cases h6 : 6 < l.length
 ·repeat' (first | refine sK ?_ | refine sC (fun _ => ?_) (fun _ => ?_) | fail)
  exact retq rfl (by simp [retPV, check09, h6])
 ·repeat' (first | refine sK ?_ | refine sC (fun _ => ?_) (fun _ => ?_) | fail)
  refine aw_loop (fun k : Nat => [(0, .pv (pi n)), (1, .pv (cls l)), (6, .pv (pi k))]) (fun _ => []) (fun k => k ≤ l.length ∧ ∀ j, j < k → chkAt n l j = 0) (fun k => l.length - k) 0 ⟨by omega, fun j h => by omega⟩ (tS) tH ?_
  rintro k ⟨hk, hno⟩
  by_cases hlt : k < l.length
  ·have he := cls_get hlt
   cases ha : (aloneE n (l.getD k default) != 0)
   ·repeat' (first | (refine shC ?_; first | refine qC (alone_call n (l.getD k default)) ?_) | (refine shX ?_; first | refine qX he ?_) | refine sK ?_ | refine sC (fun _ => ?_) (fun _ => ?_) | fail)
    refine aw_loop (fun m : Nat => [(0, .pv (pi n)), (1, .pv (cls l)), (6, .pv (pi k)), (8, .pv (pi m))]) (fun _ => []) (fun m => m ≤ k ∧ pairBad l k m = false) (fun m => k - m) 0 ⟨by omega, rfl⟩ (tS) tH ?_
    rintro m ⟨hm, hpb⟩
    by_cases hltm : m < k
    ·have hem := cls_get (show m < l.length by omega)
     have hps := pairBad_succ l k m
     cases hf : fits09 (l.getD m default) (l.getD k default)
     ·have hat : chkAt n l k = 12 := by
       have : pairBad l k k = true := by
        simp only [pairBad, List.any_eq_true, List.mem_range]
        exact ⟨m, hltm, by rw [hf]; rfl⟩
       unfold chkAt; rw [ha]; simp [this]
      have hfin := check09_at h6 hlt hno (by rw [hat]; decide)
      clear hps
      repeat' (first | (refine shC ?_; first | refine qC (Fits09_call (l.getD m default) (l.getD k default)) ?_) | (refine shX ?_; first | refine qX he ?_ | refine qX hem ?_) | refine sK ?_ | refine sC (fun _ => ?_) (fun _ => ?_) | fail)
      ·exact retq rfl (by simp [retPV, hfin, hat])
      ·exfalso; simp_all
     ·have hpm : pairBad l k (m + 1) = false := by rw [hps, hpb, hf]; rfl
      clear hps
      repeat' (first | (refine shC ?_; first | refine qC (Fits09_call (l.getD m default) (l.getD k default)) ?_) | (refine shX ?_; first | refine qX he ?_ | refine qX hem ?_) | refine sK ?_ | refine sC (fun _ => ?_) (fun _ => ?_) | fail)
      ·exfalso; simp_all
      ·exact ⟨m + 1, ⟨by omega, hpm⟩, tD, tS, tH⟩
    ·repeat' (first | refine sK ?_ | refine sC (fun _ => ?_) (fun _ => ?_) | fail)
     have : m = k := by omega
     subst this
     have hat : chkAt n l m = 0 := by unfold chkAt; rw [ha]; simp [hpb]
     exact ⟨m + 1, ⟨by omega, fun j hj => by
      by_cases e : j = m
      ·subst e; exact hat
      ·exact hno j (by omega)⟩, tD, tS, tH⟩
   ·have hat : chkAt n l k = aloneE n (l.getD k default) := by unfold chkAt; rw [ha]; simp
    have hfin := check09_at h6 hlt hno (by rw [hat]; simpa using ha)
    repeat' (first | (refine shC ?_; first | refine qC (alone_call n (l.getD k default)) ?_) | (refine shX ?_; first | refine qX he ?_) | refine sK ?_ | refine sC (fun _ => ?_) (fun _ => ?_) | fail)
    exact retq rfl (by simp [retPV, hfin, hat])
  ·repeat' (first | refine sK ?_ | refine sC (fun _ => ?_) (fun _ => ?_) | fail)
   have : k = l.length := by omega
   subst this
   exact retq rfl (by simp [retPV, check09_no h6 hno])
def right09 (n : Int) (l : List Cl) : Bool := (check09 n l).2 == 0
set_option maxHeartbeats 1000000 in
theorem Right_call (n : Int) (l : List Cl) : ACall Tryz.prog 293 [pi n, cls l] (pb (right09 n l)) := by
 refine acall_intro tbOK Tryz.func293 rfl (by kernel_rfl) Tryz.ntmps293 (by simp) _ rfl (fun hw gB hgB => ?_)
 repeat' (first | (refine shC ?_; first | refine qC (Check09_call n l) ?_) | refine sA ?_ | refine sC (fun _ => ?_) (fun _ => ?_) | fail)
 all_goals (first | refine retq rfl ?_ | refine retn rfl ?_)
 all_goals (first | (simp_all [retPV, right09]; done) | (simp_all [retPV, right09]; omega))
end Go.Cg
namespace Go.Cg
open Go.Proofs

/-! images: how long; formed -/
theorem all_len {α : Type} {f : α → PV} {sz : Nat} {l : List α} (h : (PV.slc sz (l.map f) false).lenOk) : l.length ≤ 9223372036854775807 := by
  simp [PV.lenOk, maxLen] at h; exact h.1
theorem map_get {α : Type} {f : α → PV} {l : List α} {k : Nat} (h : k < l.length) : (l.map f)[((k : Int)).toNat]? = some (f l[k]) := by simp [h]

def okFace (n : Int) (f : Int) : Bool := decide (0 ≤ f) && decide (f < n)
def formedT (t : TD) (n : Int) : Bool :=
  fineS t.name && decide (0 ≤ t.flags) && decide (t.flags ≤ 31) && decide (-1 ≤ t.ext) && decide (t.ext < n) && decide ((t.faces.length : Int) ≤ 4) && t.faces.all (okFace n)
set_option maxHeartbeats 1000000 in
theorem formedType_call (t : TD) (n : Int) : ACall Tryz.prog 250 [tdPV t, pi n] (pb (formedT t n)) := by
  refine acall_intro tbOK Tryz.func250 rfl (by kernel_rfl) Tryz.ntmps250 (by simp) _ rfl (fun hw gB hgB => ?_)
  have hl : t.faces.length ≤ 9223372036854775807 := ints_len hw.1.2.2.2.1
  repeat' (first | (refine shC ?_; first | refine qC (Fine_call _) ?_) | refine sA ?_ | refine sC (fun _ => ?_) (fun _ => ?_) | fail)
  all_goals first | (refine retq rfl ?_; first | (simp only [retPV, formedT, List.length_map] at *; simp only [*, BL, List.length_map]; done) | (simp_all [retPV, formedT]; done) | (simp_all [retPV, formedT]; omega) | (simp_all [retPV, formedT]; intros; omega)) | (refine retn rfl ?_; first | (simp only [retPV, formedT, BL, List.length_map] at *; simp only [*, BL, List.length_map]; done) | (simp_all [retPV, formedT]; done) | (simp_all [retPV, formedT]; omega) | (simp_all [retPV, formedT]; intros; omega)) | skip
  refine aw_loop (fun k : Nat => [(1, .pv (pi n)), (2, .pv (.ptr (tdPV t) 0)), (5, .pv (pi k))]) (fun _ => []) (fun k => k ≤ t.faces.length ∧ formedT t n = (t.faces.drop k).all (okFace n)) (fun k => t.faces.length - k) 0 ⟨by simp, by simp_all [formedT]⟩ (tS) tH ?_
  rintro k ⟨hk, hr⟩
  by_cases hlt : k < t.faces.length
  · have he := ints_get hlt
    rw [drop_all hlt] at hr
    repeat' (first | (refine shX ?_; first | refine qX he ?_) | refine sK ?_ | refine sC (fun _ => ?_) (fun _ => ?_) | fail)
    all_goals first | (refine retq rfl ?_; first | (simp only [retPV, okFace, List.length_map] at *; simp only [*]; done) | (simp_all [retPV, okFace]; done) | (simp_all [retPV, okFace]; omega) | (simp_all [retPV, okFace]; intros; omega)) | (refine ⟨k + 1, ⟨by omega, ?_⟩, tD, tS, tH⟩; first | (simp only [okFace, List.length_map] at *; simp only [*]; done) | (simp_all [okFace]; done) | (simp_all [okFace]; omega) | (simp_all [okFace]; intros; omega)) | (trace "LEND"; trace_state)
  · rw [drop_end (by omega)] at hr
    repeat' (first | refine sK ?_ | refine sC (fun _ => ?_) (fun _ => ?_) | fail)
    all_goals first | (refine retq rfl ?_; first | (simp only [retPV, List.length_map] at *; simp only [*]; done) | (simp_all [retPV]; done) | (simp_all [retPV]; omega) | (simp_all [retPV]; intros; omega)) | (refine retn rfl ?_; first | (simp only [retPV, BL, List.length_map] at *; simp only [*, BL, List.length_map]; done) | (simp_all [retPV]; done) | (simp_all [retPV]; omega) | (simp_all [retPV]; intros; omega)) | skip

def codeOk (g : Img) (m : Me) (x : Ins) : Bool := fits06 x == 0 &&
  (if operand06 x.op == 5 then decide (x.arg < (m.code.length : Int)) else if operand06 x.op == 6 then decide (x.arg < (g.methods.length : Int))
   else if operand06 x.op == 7 then decide (x.arg < (g.fields.length : Int)) else if operand06 x.op == 8 then ownT x.t g.types.length else true)
theorem codeOk_op {x : Ins} (h : (fits06 x != 0) = false) : 1 ≤ x.op ∧ x.op ≤ 75 := by
  simp [fits06] at h
  by_cases h1 : x.op < 1 ∨ 75 < x.op
  · simp [h1] at h
  · omega
def ty0B (t : Ty) : Bool := (t.kind == 0 && (t.index == 0 && (t.dims == 0 && (t.ref == false && true))))
def clauseOk (g : Img) (c : Cl) : Bool := !((c.kind == 1 && !mayT c.t 1 g.types.length) || (c.kind != 1 && !ty0B c.t))
def formedC (g : Img) (m : Me) : Bool := decide ((m.code.length : Int) ≤ 160) && m.code.all (codeOk g m) && m.clauses.all (clauseOk g) && right09 m.code.length m.clauses
set_option maxHeartbeats 1000000 in
theorem formedCode_call (m : Me) (g : Img) : ACall Tryz.prog 280 [mePV m, imgPV g] (pb (formedC g m)) := by
  refine acall_intro tbOK Tryz.func280 rfl (by kernel_rfl) Tryz.ntmps280 (by simp) _ rfl (fun hw gB hgB => ?_)
  have hl1 : m.code.length ≤ 9223372036854775807 := all_len (f := insPV) (sz := 6) (by have := hw.1; simp only [mePV, PV.lenOk, lensOk] at this ⊢; simp_all)
  have hl2 : m.clauses.length ≤ 9223372036854775807 := all_len (f := clPV) (sz := 10) (by have := hw.1; simp only [mePV, PV.lenOk, lensOk] at this ⊢; simp_all)
  repeat' (first | refine sA ?_ | refine sC (fun _ => ?_) (fun _ => ?_) | fail)
  all_goals first | (refine retq rfl ?_; first | (simp only [retPV, formedC, List.length_map] at *; simp only [*, BL, List.length_map]; done) | (simp_all [retPV, formedC]; done) | (simp_all [retPV, formedC]; omega) | (simp_all [retPV, formedC]; intros; omega)) | (refine retn rfl ?_; first | (simp only [retPV, formedC, BL, List.length_map] at *; simp only [*, BL, List.length_map]; done) | (simp_all [retPV, formedC]; done) | (simp_all [retPV, formedC]; omega) | (simp_all [retPV, formedC]; intros; omega)) | skip
  refine aw_loop (fun k : Nat => [(2, .pv (.ptr (mePV m) 0)), (3, .pv (.ptr (imgPV g) 0)), (5, .pv (pi k))]) (fun _ => []) (fun k => k ≤ m.code.length ∧ formedC g m = ((m.code.drop k).all (codeOk g m) && m.clauses.all (clauseOk g) && right09 m.code.length m.clauses)) (fun k => m.code.length - k) 0 ⟨by simp, by simp_all [formedC]⟩ (tS) tH ?_
  rintro k ⟨hk, hr⟩
  by_cases hlt : k < m.code.length
  · have he := map_get (f := insPV) hlt
    rw [drop_all hlt] at hr
    by_cases hf : fits06 m.code[k] = 0
    · obtain ⟨h1, h2⟩ := codeOk_op (x := m.code[k]) (by simp [hf])
      repeat' (first | (refine shC ?_; first | refine qC (Fits06_call _) ?_ | refine qC (Of_call _ h1 h2) ?_ | refine qC (Own_call _ _) ?_) | (refine shX ?_; first | refine qX he ?_) | refine sK ?_ | refine sC (fun _ => ?_) (fun _ => ?_) | fail)
      all_goals first | (refine retq rfl ?_; first | (simp only [retPV, codeOk, List.length_map] at *; simp only [*]; done) | (simp_all [retPV, codeOk]; done) | (simp_all [retPV, codeOk]; omega) | (simp_all [retPV, codeOk]; intros; omega)) | (refine ⟨k + 1, ⟨by omega, ?_⟩, tD, tS, tH⟩; first | (simp only [codeOk, List.length_map] at *; simp only [*]; done) | (simp_all [codeOk]; done) | (simp_all [codeOk]; omega) | (simp_all [codeOk]; intros; omega)) | (trace "LEND"; trace_state)
    · repeat' (first | (refine shC ?_; first | refine qC (Fits06_call _) ?_) | (refine shX ?_; first | refine qX he ?_) | refine sK ?_ | refine sC (fun _ => ?_) (fun _ => ?_) | fail)
      all_goals first | (refine retq rfl ?_; first | (simp only [retPV, codeOk, List.length_map] at *; simp only [*]; done) | (simp_all [retPV, codeOk]; done) | (simp_all [retPV, codeOk]; omega) | (simp_all [retPV, codeOk]; intros; omega)) | (refine ⟨k + 1, ⟨by omega, ?_⟩, tD, tS, tH⟩; first | (simp only [codeOk, BL, List.length_map] at *; simp only [*, BL, List.length_map]; done) | (simp_all [codeOk]; done) | (simp_all [codeOk]; omega) | (simp_all [codeOk]; intros; omega)) | (trace "LEND"; trace_state)
  · rw [drop_end (by omega)] at hr
    repeat' (first | refine sK ?_ | refine sC (fun _ => ?_) (fun _ => ?_) | fail)
    refine aw_loop (fun k : Nat => [(2, .pv (.ptr (mePV m) 0)), (3, .pv (.ptr (imgPV g) 0)), (9, .pv (pi k))]) (fun _ => []) (fun k => k ≤ m.clauses.length ∧ formedC g m = ((m.clauses.drop k).all (clauseOk g) && right09 m.code.length m.clauses)) (fun k => m.clauses.length - k) 0 ⟨by simp, by simp_all⟩ (tS) tH ?_
    clear hk hr hlt
    rintro k ⟨hk, hr⟩
    by_cases hlt : k < m.clauses.length
    · have he := map_get (f := clPV) hlt
      rw [drop_all hlt] at hr
      repeat' (first | (refine shC ?_; first | refine qC (May_call _ _ _) ?_) | (refine shX ?_; first | refine qX he ?_) | refine sK ?_ | refine sC (fun _ => ?_) (fun _ => ?_) | fail)
      all_goals first | (refine retq rfl ?_; first | (simp only [retPV, clauseOk, ty0B, BL, List.length_map] at *; simp only [*, BL]; done) | (simp_all [retPV, clauseOk, ty0B]; done) | (simp_all [retPV, clauseOk, ty0B]; omega) | (simp_all [retPV, clauseOk, ty0B]; intros; omega)) | (refine ⟨k + 1, ⟨by omega, ?_⟩, tD, tS, tH⟩; first | (simp only [clauseOk, ty0B, BL, List.length_map] at *; simp only [*, BL]; done) | (simp_all [clauseOk, ty0B]; done) | (simp_all [clauseOk, ty0B]; omega) | (simp_all [clauseOk, ty0B]; intros; omega)) | (trace "LEND"; trace_state)
    · rw [drop_end (by omega)] at hr
      repeat' (first | (refine shC ?_; first | refine qC (Right_call _ _) ?_) | refine sK ?_ | refine sC (fun _ => ?_) (fun _ => ?_) | fail)
      all_goals first | (refine retq rfl ?_; first | (simp only [retPV, List.length_map] at *; simp only [*]; done) | (simp_all [retPV]; done) | (simp_all [retPV]; omega) | (simp_all [retPV]; intros; omega)) | (refine retn rfl ?_; first | (simp only [retPV, BL, List.length_map] at *; simp only [*, BL, List.length_map]; done) | (simp_all [retPV]; done) | (simp_all [retPV]; omega) | (simp_all [retPV]; intros; omega)) | skip
end Go.Cg
namespace Go.Cg
open Go.Proofs
def formedM (g : Img) (m : Me) : Bool :=
 fineS m.name && decide (0 ≤ m.flags) && decide (m.flags ≤ 31) && decide (0 ≤ m.max) && decide (m.max ≤ 12) && decide ((m.params.length : Int) ≤ 6) && decide ((m.locals.length : Int) ≤ 12) && mayT m.ret 3 g.types.length
 && m.params.all (fun t => mayT t 2 g.types.length) && m.locals.all (fun t => mayT t 2 g.types.length) && formedC g m
set_option maxHeartbeats 1000000 in
theorem formedMethod_call (m : Me) (g : Img) : ACall Tryz.prog 253 [mePV m, imgPV g] (pb (formedM g m)) := by
 refine acall_intro tbOK Tryz.func253 rfl (by kernel_rfl) Tryz.ntmps253 (by simp) _ rfl (fun hw gB hgB => ?_)
 have hl1 : m.params.length ≤ 9223372036854775807 := all_len (f := tyPV) (sz := 4) (by have := hw.1; simp only [mePV, tys, PV.lenOk, lensOk] at this ⊢; simp_all)
 have hl2 : m.locals.length ≤ 9223372036854775807 := all_len (f := tyPV) (sz := 4) (by have := hw.1; simp only [mePV, tys, PV.lenOk, lensOk] at this ⊢; simp_all)
 repeat' (first | (refine shC ?_; first | refine qC (Fine_call _) ?_ | refine qC (May_call _ _ _) ?_) | refine sA ?_ | refine sC (fun _ => ?_) (fun _ => ?_) | fail)
 all_goals first | (refine retq rfl ?_; first | (simp only [retPV, formedM, List.length_map] at *; simp only [*, BL, List.length_map]; done) | (simp_all [retPV, formedM]; done) | (simp_all [retPV, formedM]; omega) | (simp_all [retPV, formedM]; intros; omega)) | (refine retn rfl ?_; first | (simp only [retPV, formedM, BL, List.length_map] at *; simp only [*, BL, List.length_map]; done) | (simp_all [retPV, formedM]; done) | (simp_all [retPV, formedM]; omega) | (simp_all [retPV, formedM]; intros; omega)) | skip
 refine aw_loop (fun k : Nat => [(2, .pv (.ptr (mePV m) 0)), (3, .pv (.ptr (imgPV g) 0)), (5, .pv (pi (g.types.length : Int))), (6, .pv (pi k))]) (fun _ => []) (fun k => k ≤ m.params.length ∧ formedM g m = ((m.params.drop k).all (fun t => mayT t 2 g.types.length) && m.locals.all (fun t => mayT t 2 g.types.length) && formedC g m)) (fun k => m.params.length - k) 0 ⟨by simp, by simp_all [formedM]⟩ (tS) tH ?_
 rintro k ⟨hk, hr⟩
 by_cases hlt : k < m.params.length
 ·have he := map_get (f := tyPV) hlt
  rw [drop_all hlt] at hr
  repeat' (first | (refine shC ?_; first | refine qC (May_call _ _ _) ?_) | (refine shX ?_; first | refine qX he ?_) | refine sK ?_ | refine sC (fun _ => ?_) (fun _ => ?_) | fail)
  all_goals first | (refine retq rfl ?_; first | (simp only [retPV, List.length_map] at *; simp only [*]; done) | (simp_all [retPV]; done) | (simp_all [retPV]; omega) | (simp_all [retPV]; intros; omega)) | (refine ⟨k + 1, ⟨by omega, ?_⟩, tD, tS, tH⟩; first | (simp only [List.length_map] at *; simp only [*]; done) | (simp_all []; done) | (simp_all []; omega) | (simp_all []; intros; omega)) | (trace "LEND"; trace_state)
 ·rw [drop_end (by omega)] at hr
  repeat' (first | refine sK ?_ | refine sC (fun _ => ?_) (fun _ => ?_) | fail)
  refine aw_loop (fun k : Nat => [(2, .pv (.ptr (mePV m) 0)), (3, .pv (.ptr (imgPV g) 0)), (5, .pv (pi (g.types.length : Int))), (7, .pv (pi k))]) (fun _ => []) (fun k => k ≤ m.locals.length ∧ formedM g m = ((m.locals.drop k).all (fun t => mayT t 2 g.types.length) && formedC g m)) (fun k => m.locals.length - k) 0 ⟨by simp, by simp_all⟩ (tS) tH ?_
  clear hk hr hlt
  rintro k ⟨hk, hr⟩
  by_cases hlt : k < m.locals.length
  ·have he := map_get (f := tyPV) hlt
   rw [drop_all hlt] at hr
   repeat' (first | (refine shC ?_; first | refine qC (May_call _ _ _) ?_) | (refine shX ?_; first | refine qX he ?_) | refine sK ?_ | refine sC (fun _ => ?_) (fun _ => ?_) | fail)
   all_goals first | (refine retq rfl ?_; first | (simp only [retPV, List.length_map] at *; simp only [*]; done) | (simp_all [retPV]; done) | (simp_all [retPV]; omega) | (simp_all [retPV]; intros; omega)) | (refine ⟨k + 1, ⟨by omega, ?_⟩, tD, tS, tH⟩; first | (simp only [List.length_map] at *; simp only [*]; done) | (simp_all []; done) | (simp_all []; omega) | (simp_all []; intros; omega)) | (trace "LEND"; trace_state)
  ·rw [drop_end (by omega)] at hr
   repeat' (first | (refine shC ?_; first | refine qC (formedCode_call _ _) ?_) | refine sK ?_ | refine sC (fun _ => ?_) (fun _ => ?_) | fail)
   all_goals first | (refine retq rfl ?_; first | (simp only [retPV, List.length_map] at *; simp only [*]; done) | (simp_all [retPV]; done) | (simp_all [retPV]; omega) | (simp_all [retPV]; intros; omega)) | (refine retn rfl ?_; first | (simp only [retPV, BL, List.length_map] at *; simp only [*, BL, List.length_map]; done) | (simp_all [retPV]; done) | (simp_all [retPV]; omega) | (simp_all [retPV]; intros; omega)) | skip
def longT (t : TD) : Bool := !decide ((t.faces.length : Int) ≤ 20) || !decide ((t.name.size : Int) ≤ 100)
def longM (m : Me) : Bool := !decide ((m.params.length : Int) ≤ 30) || !decide ((m.locals.length : Int) ≤ 30) || !decide ((m.code.length : Int) ≤ 200) || !decide ((m.clauses.length : Int) ≤ 20) || !decide ((m.name.size : Int) ≤ 100)
def longG (g : Img) : Bool := !decide ((g.types.length : Int) ≤ 40) || !decide ((g.fields.length : Int) ≤ 80) || !decide ((g.methods.length : Int) ≤ 80) || g.types.any longT || g.methods.any longM
set_option maxHeartbeats 1000000 in
theorem Long_call (g : Img) : ACall Tryz.prog 14 [imgPV g] (pb (longG g)) := by
 refine acall_intro tbOK Tryz.func14 rfl (by kernel_rfl) Tryz.ntmps14 (by simp) _ rfl (fun hw gB hgB => ?_)
 repeat' (first | refine sA ?_ | refine sC (fun _ => ?_) (fun _ => ?_) | fail)
 all_goals first | (refine retq rfl ?_; first | (simp only [retPV, longG, List.length_map] at *; simp only [*, BL, List.length_map]; done) | (simp_all [retPV, longG]; done) | (simp_all [retPV, longG]; omega) | (simp_all [retPV, longG]; intros; omega)) | (refine retn rfl ?_; first | (simp only [retPV, longG, BL, List.length_map] at *; simp only [*, BL, List.length_map]; done) | (simp_all [retPV, longG]; done) | (simp_all [retPV, longG]; omega) | (simp_all [retPV, longG]; intros; omega)) | skip
 refine aw_loop (fun k : Nat => [(1, .pv (.ptr (imgPV g) 0)), (3, .pv (pi k))]) (fun _ => []) (fun k => k ≤ g.types.length ∧ longG g = ((g.types.drop k).any longT || g.methods.any longM)) (fun k => g.types.length - k) 0 ⟨by simp, by simp_all [longG]⟩ (tS) tH ?_
 have ht : g.types.length ≤ 40 := by simp_all; omega
 have hm : g.methods.length ≤ 80 := by simp_all; omega
 rintro k ⟨hk, hr⟩
 by_cases hlt : k < g.types.length
 ·have he := map_get (f := tdPV) hlt
  rw [drop_any hlt] at hr
  repeat' (first | (refine shX ?_; first | refine qX he ?_) | refine sK ?_ | refine sC (fun _ => ?_) (fun _ => ?_) | fail)
  all_goals first | (refine retq rfl ?_; first | (simp only [retPV, longT, List.length_map] at *; simp only [*]; done) | (simp_all [retPV, longT]; done) | (simp_all [retPV, longT]; omega) | (simp_all [retPV, longT]; intros; omega)) | (refine ⟨k + 1, ⟨by omega, ?_⟩, tD, tS, tH⟩; first | (simp only [longT, List.length_map] at *; simp only [*]; done) | (simp_all [longT]; done) | (simp_all [longT]; omega) | (simp_all [longT]; intros; omega)) | (trace "LEND"; trace_state)
 ·rw [drop_end (by omega)] at hr
  repeat' (first | refine sK ?_ | refine sC (fun _ => ?_) (fun _ => ?_) | fail)
  refine aw_loop (fun k : Nat => [(1, .pv (.ptr (imgPV g) 0)), (4, .pv (pi k))]) (fun _ => []) (fun k => k ≤ g.methods.length ∧ longG g = (g.methods.drop k).any longM) (fun k => g.methods.length - k) 0 ⟨by simp, by simp_all⟩ (tS) tH ?_
  clear hk hr hlt
  rintro k ⟨hk, hr⟩
  by_cases hlt : k < g.methods.length
  ·have he := map_get (f := mePV) hlt
   rw [drop_any hlt] at hr
   repeat' (first | (refine shX ?_; first | refine qX he ?_) | refine sK ?_ | refine sC (fun _ => ?_) (fun _ => ?_) | fail)
   all_goals first | (refine retq rfl ?_; first | (simp only [retPV, longM, List.length_map] at *; simp only [*]; done) | (simp_all [retPV, longM]; done) | (simp_all [retPV, longM]; omega) | (simp_all [retPV, longM]; intros; omega)) | (refine ⟨k + 1, ⟨by omega, ?_⟩, tD, tS, tH⟩; first | (simp only [longM, List.length_map] at *; simp only [*]; done) | (simp_all [longM]; done) | (simp_all [longM]; omega) | (simp_all [longM]; intros; omega)) | (trace "LEND"; trace_state)
  ·rw [drop_end (by omega)] at hr
   repeat' (first | refine sK ?_ | refine sC (fun _ => ?_) (fun _ => ?_) | fail)
   all_goals first | (refine retq rfl ?_; first | (simp only [retPV, List.length_map] at *; simp only [*]; done) | (simp_all [retPV]; done) | (simp_all [retPV]; omega) | (simp_all [retPV]; intros; omega)) | (refine retn rfl ?_; first | (simp only [retPV, BL, List.length_map] at *; simp only [*, BL, List.length_map]; done) | (simp_all [retPV]; done) | (simp_all [retPV]; omega) | (simp_all [retPV]; intros; omega)) | skip
end Go.Cg
namespace Go.Cg
open Go.Proofs
def fldOk (g : Img) (i : Nat) : Bool :=
 let f := g.fields.getD i default
 fineS f.name && decide (0 ≤ f.owner) && decide (f.owner < g.types.length) && (i == 0 || decide ((g.fields.getD (i - 1) default).owner ≤ f.owner)) && mayT f.ty 1 g.types.length
def mthOk (g : Img) (i : Nat) : Bool :=
 let m := g.methods.getD i default
 decide (0 ≤ m.owner) && decide (m.owner < g.types.length) && (i == 0 || decide ((g.methods.getD (i - 1) default).owner ≤ m.owner)) && formedM g m
def formedG (g : Img) : Bool :=
 decide ((g.types.length : Int) ≤ 32) && decide ((g.fields.length : Int) ≤ 64) && decide ((g.methods.length : Int) ≤ 64) && decide (-1 ≤ g.entry) && decide (g.entry < g.methods.length)
 && g.types.all (fun t => formedT t g.types.length) && (List.range g.fields.length).all (fldOk g) && (List.range g.methods.length).all (mthOk g)
theorem drop_range_all {p : Nat → Bool} {n k : Nat} (h : k < n) : ((List.range n).drop k).all p = (p k && ((List.range n).drop (k + 1)).all p) := by
 rw [drop_all (by simpa using h)]; simp
theorem drop_range_any {p : Nat → Bool} {n k : Nat} (h : k < n) : ((List.range n).drop k).any p = (p k || ((List.range n).drop (k + 1)).any p) := by
 rw [drop_any (by simpa using h)]; simp
theorem getD_get {α : Type} {d : α} {l : List α} {k : Nat} (h : k < l.length) : l.getD k d = l[k] := by rw [List.getD_eq_getElem?_getD, List.getElem?_eq_getElem h]; rfl
theorem img_len {g : Img} (h : (imgPV g).lenOk) : g.types.length ≤ 9223372036854775807 ∧ g.fields.length ≤ 9223372036854775807 ∧ g.methods.length ≤ 9223372036854775807 := by
 simp only [imgPV, PV.lenOk, lensOk, maxLen, List.length_map] at h
 exact ⟨h.1.1, h.2.1.1, h.2.2.1.1⟩
theorem fldOk_at {g : Img} {k : Nat} (h : k < g.fields.length) : fldOk g k = (fineS g.fields[k].name && decide (0 ≤ g.fields[k].owner) && decide (g.fields[k].owner < g.types.length) && (k == 0 || decide ((g.fields.getD (k - 1) default).owner ≤ g.fields[k].owner)) && mayT g.fields[k].ty 1 g.types.length) := by
 rw [fldOk, getD_get h]
theorem mthOk_at {g : Img} {k : Nat} (h : k < g.methods.length) : mthOk g k = (decide (0 ≤ g.methods[k].owner) && decide (g.methods[k].owner < g.types.length) && (k == 0 || decide ((g.methods.getD (k - 1) default).owner ≤ g.methods[k].owner)) && formedM g g.methods[k]) := by
 rw [mthOk, getD_get h]
set_option maxHeartbeats 1000000 in
theorem Formed_call (g : Img) : ACall Tryz.prog 215 [imgPV g] (pb (formedG g)) := by
 refine acall_intro tbOK Tryz.func215 rfl (by kernel_rfl) Tryz.ntmps215 (by simp) _ rfl (fun hw gB hgB => ?_)
 obtain ⟨hl1, hl2, hl3⟩ := img_len hw.1
 repeat' (first | refine sA ?_ | refine sC (fun _ => ?_) (fun _ => ?_) | fail)
 all_goals first | (refine retq rfl ?_; first | (simp only [retPV, formedG, List.length_map] at *; simp only [*, BL, List.length_map]; done) | (simp_all [retPV, formedG]; done) | (simp_all [retPV, formedG]; omega) | (simp_all [retPV, formedG]; intros; omega)) | (refine retn rfl ?_; first | (simp only [retPV, formedG, BL, List.length_map] at *; simp only [*, BL, List.length_map]; done) | (simp_all [retPV, formedG]; done) | (simp_all [retPV, formedG]; omega) | (simp_all [retPV, formedG]; intros; omega)) | skip
 refine aw_loop (fun k : Nat => [(1, .pv (.ptr (imgPV g) 0)), (3, .pv (pi (g.types.length : Int))), (4, .pv (pi k))]) (fun _ => []) (fun k => k ≤ g.types.length ∧ formedG g = ((g.types.drop k).all (fun t => formedT t g.types.length) && (List.range g.fields.length).all (fldOk g) && (List.range g.methods.length).all (mthOk g))) (fun k => g.types.length - k) 0 ⟨by simp, by simp_all [formedG]⟩ (tS) tH ?_
 rintro k ⟨hk, hr⟩
 by_cases hlt : k < g.types.length
 ·have he := map_get (f := tdPV) hlt
  rw [drop_all hlt] at hr
  repeat' (first | (refine shC ?_; first | refine qC (formedType_call _ _) ?_) | (refine shX ?_; first | refine qX he ?_) | refine sK ?_ | refine sC (fun _ => ?_) (fun _ => ?_) | fail)
  all_goals first | (refine retq rfl ?_; first | (simp only [retPV, List.length_map] at *; simp only [*]; done) | (simp_all [retPV]; done) | (simp_all [retPV]; omega) | (simp_all [retPV]; intros; omega)) | (refine ⟨k + 1, ⟨by omega, ?_⟩, tD, tS, tH⟩; first | (simp only [List.length_map] at *; simp only [*]; done) | (simp_all []; done) | (simp_all []; omega) | (simp_all []; intros; omega)) | (trace "LEND"; trace_state)
 ·rw [drop_end (by omega)] at hr
  repeat' (first | refine sK ?_ | refine sC (fun _ => ?_) (fun _ => ?_) | fail)
  refine aw_loop (fun k : Nat => [(1, .pv (.ptr (imgPV g) 0)), (3, .pv (pi (g.types.length : Int))), (5, .pv (pi k))]) (fun _ => []) (fun k => k ≤ g.fields.length ∧ formedG g = (((List.range g.fields.length).drop k).all (fldOk g) && (List.range g.methods.length).all (mthOk g))) (fun k => g.fields.length - k) 0 ⟨by simp, by simp_all⟩ (tS) tH ?_
  clear hk hr hlt
  rintro k ⟨hk, hr⟩
  by_cases hlt : k < g.fields.length
  ·have he := map_get (f := fdPV) hlt
   rw [drop_range_all hlt, fldOk_at hlt] at hr
   by_cases hk0 : k = 0
   ·subst hk0
    repeat' (first | (refine shC ?_; first | refine qC (Fine_call _) ?_ | refine qC (May_call _ _ _) ?_) | (refine shX ?_; first | refine qX he ?_) | refine sK ?_ | refine sC (fun _ => ?_) (fun _ => ?_) | fail)
    all_goals first | (refine retq rfl ?_; first | (simp only [retPV, List.length_map] at *; simp only [*]; done) | (simp_all [retPV]; done) | (simp_all [retPV]; omega) | (simp_all [retPV]; intros; omega)) | (refine ⟨0 + 1, ⟨by omega, ?_⟩, tD, tS, tH⟩; first | (simp only [List.length_map] at *; simp only [*]; done) | (simp_all []; done) | (simp_all []; omega) | (simp_all []; intros; omega)) | (trace "LEND"; trace_state)
   ·have hlp : k - 1 < g.fields.length := by omega
    have hw1 : IntKind.i64.wrap ((k : Int) - 1) = ((k - 1 : Nat) : Int) := by rw [wrap_in (by omega) (by omega)]; omega
    have hep := map_get (f := fdPV) hlp
    rw [← hw1] at hep
    rw [getD_get hlp, beq_eq_false_iff_ne.2 hk0] at hr
    repeat' (first | (refine shC ?_; first | refine qC (Fine_call _) ?_ | refine qC (May_call _ _ _) ?_) | (refine shX ?_; first | refine qX he ?_ | refine ao_q rfl (q_index tbOK rfl rfl rfl rfl rfl rfl (by rw [hw1]; omega) hep) rfl rfl ?_ | refine AD.step _ _ _ _ _ rfl (q_index tbOK rfl rfl rfl rfl rfl rfl (by rw [hw1]; omega) hep) rfl rfl ?_) | refine sK ?_ | refine sC (fun _ => ?_) (fun _ => ?_) | fail)
    all_goals first | (refine retq rfl ?_; first | (simp only [retPV, BL, List.length_map] at *; simp only [*]; done) | (simp_all [retPV]; done) | (simp_all [retPV]; omega) | (simp_all [retPV]; intros; omega)) | (refine ⟨k + 1, ⟨by omega, ?_⟩, tD, tS, tH⟩; first | (simp only [BL, List.length_map] at *; simp only [*]; done) | (simp_all []; done) | (simp_all []; omega) | (simp_all []; intros; omega)) | (trace "LEND"; trace_state)
  ·rw [drop_end (by simp; omega)] at hr
   repeat' (first | refine sK ?_ | refine sC (fun _ => ?_) (fun _ => ?_) | fail)
   refine aw_loop (fun k : Nat => [(1, .pv (.ptr (imgPV g) 0)), (3, .pv (pi (g.types.length : Int))), (7, .pv (pi k))]) (fun _ => []) (fun k => k ≤ g.methods.length ∧ formedG g = (((List.range g.methods.length).drop k).all (mthOk g))) (fun k => g.methods.length - k) 0 ⟨by simp, by simp_all⟩ (tS) tH ?_
   clear hk hr hlt
   rintro k ⟨hk, hr⟩
   by_cases hlt : k < g.methods.length
   ·have he := map_get (f := mePV) hlt
    rw [drop_range_all hlt, mthOk_at hlt] at hr
    by_cases hk0 : k = 0
    ·subst hk0
     repeat' (first | (refine shC ?_; first | refine qC (formedMethod_call _ _) ?_) | (refine shX ?_; first | refine qX he ?_) | refine sK ?_ | refine sC (fun _ => ?_) (fun _ => ?_) | fail)
     all_goals first | (refine retq rfl ?_; first | (simp only [retPV, List.length_map] at *; simp only [*]; done) | (simp_all [retPV]; done) | (simp_all [retPV]; omega) | (simp_all [retPV]; intros; omega)) | (refine ⟨0 + 1, ⟨by omega, ?_⟩, tD, tS, tH⟩; first | (simp only [List.length_map] at *; simp only [*]; done) | (simp_all []; done) | (simp_all []; omega) | (simp_all []; intros; omega)) | (trace "LEND"; trace_state)
    ·have hlp : k - 1 < g.methods.length := by omega
     have hw1 : IntKind.i64.wrap ((k : Int) - 1) = ((k - 1 : Nat) : Int) := by rw [wrap_in (by omega) (by omega)]; omega
     have hep := map_get (f := mePV) hlp
     rw [← hw1] at hep
     rw [getD_get hlp, beq_eq_false_iff_ne.2 hk0] at hr
     repeat' (first | (refine shC ?_; first | refine qC (formedMethod_call _ _) ?_) | (refine shX ?_; first | refine qX he ?_ | refine ao_q rfl (q_index tbOK rfl rfl rfl rfl rfl rfl (by rw [hw1]; omega) hep) rfl rfl ?_ | refine AD.step _ _ _ _ _ rfl (q_index tbOK rfl rfl rfl rfl rfl rfl (by rw [hw1]; omega) hep) rfl rfl ?_) | refine sK ?_ | refine sC (fun _ => ?_) (fun _ => ?_) | fail)
     all_goals first | (refine retq rfl ?_; first | (simp only [retPV, BL, List.length_map] at *; simp only [*]; done) | (simp_all [retPV]; done) | (simp_all [retPV]; omega) | (simp_all [retPV]; intros; omega)) | (refine ⟨k + 1, ⟨by omega, ?_⟩, tD, tS, tH⟩; first | (simp only [BL, List.length_map] at *; simp only [*]; done) | (simp_all []; done) | (simp_all []; omega) | (simp_all []; intros; omega)) | (trace "LEND"; trace_state)
   ·rw [drop_end (by simp; omega)] at hr
    repeat' (first | refine sK ?_ | refine sC (fun _ => ?_) (fun _ => ?_) | fail)
    all_goals first | (refine retq rfl ?_; first | (simp only [retPV, List.length_map] at *; simp only [*]; done) | (simp_all [retPV]; done) | (simp_all [retPV]; omega) | (simp_all [retPV]; intros; omega)) | (refine retn rfl ?_; first | (simp only [retPV, BL, List.length_map] at *; simp only [*, BL, List.length_map]; done) | (simp_all [retPV]; done) | (simp_all [retPV]; omega) | (simp_all [retPV]; intros; omega)) | skip
end Go.Cg
namespace Go.Cg
open Go.Proofs
def bitF (f k : Int) : Bool := (IntKind.i64.wrap (f.tdiv k)).tmod 2 == 1
set_option maxHeartbeats 1000000 in
theorem bit2_call (f : Int) : ACall Tryz.prog 168 [pi f, pi 2] (pb (bitF f 2)) := by
 refine acall_intro tbOK Tryz.func168 rfl (by kernel_rfl) Tryz.ntmps168 (by simp) _ rfl (fun hw gB hgB => ?_)
 repeat' (first | refine sA ?_ | refine sC (fun _ => ?_) (fun _ => ?_) | fail)
 exact retq rfl rfl
set_option maxHeartbeats 1000000 in
theorem bit1_call (f : Int) : ACall Tryz.prog 168 [pi f, pi 1] (pb (bitF f 1)) := by
 refine acall_intro tbOK Tryz.func168 rfl (by kernel_rfl) Tryz.ntmps168 (by simp) _ rfl (fun hw gB hgB => ?_)
 repeat' (first | refine sA ?_ | refine sC (fun _ => ?_) (fun _ => ?_) | fail)
 exact retq rfl rfl
set_option maxHeartbeats 1000000 in
theorem bit4_call (f : Int) : ACall Tryz.prog 168 [pi f, pi 4] (pb (bitF f 4)) := by
 refine acall_intro tbOK Tryz.func168 rfl (by kernel_rfl) Tryz.ntmps168 (by simp) _ rfl (fun hw gB hgB => ?_)
 repeat' (first | refine sA ?_ | refine sC (fun _ => ?_) (fun _ => ?_) | fail)
 exact retq rfl rfl
set_option maxHeartbeats 1000000 in
theorem bit8_call (f : Int) : ACall Tryz.prog 168 [pi f, pi 8] (pb (bitF f 8)) := by
 refine acall_intro tbOK Tryz.func168 rfl (by kernel_rfl) Tryz.ntmps168 (by simp) _ rfl (fun hw gB hgB => ?_)
 repeat' (first | refine sA ?_ | refine sC (fun _ => ?_) (fun _ => ?_) | fail)
 exact retq rfl rfl
set_option maxHeartbeats 1000000 in
theorem bit16_call (f : Int) : ACall Tryz.prog 168 [pi f, pi 16] (pb (bitF f 16)) := by
 refine acall_intro tbOK Tryz.func168 rfl (by kernel_rfl) Tryz.ntmps168 (by simp) _ rfl (fun hw gB hgB => ?_)
 repeat' (first | refine sA ?_ | refine sC (fun _ => ?_) (fun _ => ?_) | fail)
 exact retq rfl rfl
def kindR (f : Int) : Int := if bitF f 2 then 2 else if bitF f 1 then 1 else if bitF f 16 then 3 else 0
def typeAt (g : Img) (t : Int) : Option TD := if 0 ≤ t then g.types[t.toNat]? else none
theorem there_iff (g : Img) (t : Int) : there g t = true ↔ ∃ td, typeAt g t = some td := by
 simp only [there, typeAt, Bool.and_eq_true, decide_eq_true_eq]
 constructor
 ·rintro ⟨h1, h2⟩
  rw [if_pos h1]
  exact ⟨_, List.getElem?_eq_getElem (by omega)⟩
 ·rintro ⟨td, h⟩
  split at h
  ·rename_i h0
   have := (List.getElem?_eq_some_iff.1 h).1
   omega
  ·cases h
theorem typeAt_get {g : Img} {t : Int} {td : TD} (h : typeAt g t = some td) : 0 ≤ t ∧ (g.types.map tdPV)[t.toNat]? = some (tdPV td) := by
 unfold typeAt at h
 split at h
 ·rename_i h0; exact ⟨h0, by simp [h]⟩
 ·cases h
def kindG (g : Img) (t : Int) : Int := match typeAt g t with | some td => kindR td.flags | none => -1
set_option maxHeartbeats 1000000 in
theorem KindR_call (g : Img) (t : Int) : ACall Tryz.prog 109 [imgPV g, pi t] (pi (kindG g t)) := by
 refine acall_intro tbOK Tryz.func109 rfl (by kernel_rfl) Tryz.ntmps109 (by simp) _ rfl (fun hw gB hgB => ?_)
 by_cases h : there g t = true
 ·have c1 : ACall Tryz.prog 167 [imgPV g, pi t] (pb true) := by rw [← h]; exact There_call g t
  obtain ⟨td, htd⟩ := (there_iff g t).1 h
  obtain ⟨h0, he⟩ := typeAt_get htd
  repeat' (first | (refine shC ?_; first | refine qC c1 ?_ | refine qC (bit2_call _) ?_ | refine qC (bit1_call _) ?_ | refine qC (bit16_call _) ?_) | (refine shX ?_; first | refine ao_q rfl (q_index tbOK rfl rfl rfl rfl rfl rfl h0 he) rfl rfl ?_ | refine AD.step _ _ _ _ _ rfl (q_index tbOK rfl rfl rfl rfl rfl rfl h0 he) rfl rfl ?_) | refine sA ?_ | refine sC (fun _ => ?_) (fun _ => ?_) | fail)
  all_goals (refine retq rfl ?_)
  all_goals (simp_all [kindG, kindR, retPV])
 ·have c1 : ACall Tryz.prog 167 [imgPV g, pi t] (pb false) := by rw [← Bool.eq_false_iff.2 h]; exact There_call g t
  have hn : typeAt g t = none := by
   cases e : typeAt g t with
   | none => rfl
   | some td => exact (h ((there_iff g t).2 ⟨td, e⟩)).elim
  repeat' (first | (refine shC ?_; first | refine qC c1 ?_) | refine sA ?_ | refine sC (fun _ => ?_) (fun _ => ?_) | fail)
  exact retq rfl (by simp [retPV, kindG, hn])
def andB (f k : Int) : Bool := IntKind.i64.wrap ((BitVec.ofInt IntKind.i64.bits f &&& BitVec.ofInt IntKind.i64.bits k).toNat : Int) != 0
def kindT (f : Int) : Int := if andB f 2 then 2 else if andB f 1 then 1 else if andB f 16 then 3 else 0
def kindP (g : Img) (t : Int) : Int := match typeAt g t with | some td => kindT td.flags | none => -1
set_option maxHeartbeats 1000000 in
theorem kind_call (td : TD) : ACall Tryz.prog 118 [tdPV td] (pi (kindT td.flags)) := by
 refine acall_intro tbOK Tryz.func118 rfl (by kernel_rfl) Tryz.ntmps118 (by simp) _ rfl (fun hw gB hgB => ?_)
 repeat' (first | refine sA ?_ | refine sC (fun _ => ?_) (fun _ => ?_) | fail)
 all_goals (refine retq rfl ?_)
 all_goals (simp_all [kindT, andB, retPV])
set_option maxHeartbeats 1000000 in
theorem KindP_call (g : Img) (t : Int) : ACall Tryz.prog 62 [imgPV g, pi t] (pi (kindP g t)) := by
 refine acall_intro tbOK Tryz.func62 rfl (by kernel_rfl) Tryz.ntmps62 (by simp) _ rfl (fun hw gB hgB => ?_)
 by_cases h : there g t = true
 ·have c1 : ACall Tryz.prog 117 [imgPV g, pi t] (pb true) := by rw [← h]; exact there_call g t
  obtain ⟨td, htd⟩ := (there_iff g t).1 h
  obtain ⟨h0, he⟩ := typeAt_get htd
  repeat' (first | (refine shC ?_; first | refine qC c1 ?_ | refine qC (kind_call td) ?_) | (refine shX ?_; first | refine ao_q rfl (q_index tbOK rfl rfl rfl rfl rfl rfl h0 he) rfl rfl ?_ | refine AD.step _ _ _ _ _ rfl (q_index tbOK rfl rfl rfl rfl rfl rfl h0 he) rfl rfl ?_) | refine sA ?_ | refine sC (fun _ => ?_) (fun _ => ?_) | fail)
  exact retq rfl (by simp [retPV, kindP, htd])
 ·have c1 : ACall Tryz.prog 117 [imgPV g, pi t] (pb false) := by rw [← Bool.eq_false_iff.2 h]; exact there_call g t
  have hn : typeAt g t = none := by
   cases e : typeAt g t with
   | none => rfl
   | some td => exact (h ((there_iff g t).2 ⟨td, e⟩)).elim
  repeat' (first | (refine shC ?_; first | refine qC c1 ?_) | refine sA ?_ | refine sC (fun _ => ?_) (fun _ => ?_) | fail)
  exact retq rfl (by simp [retPV, kindP, hn])
def classB (g : Img) (t : Ty) : Bool := plain t 5 && kindP g t.index == 0
end Go.Cg
namespace Go.Cg
theorem nodup_le : ∀ (n : Nat) (l : List Int), l.Nodup → (∀ x ∈ l, 0 ≤ x ∧ x < n) → l.length ≤ n
 | 0, l, _, h => by
  cases l with
  | nil => simp
  | cons x l => have := h x (by simp); omega
 | n + 1, l, hd, h => by
  by_cases hm : (n : Int) ∈ l
  ·have h1 := nodup_le n (l.erase n) (hd.erase _) (fun x hx => by
    rw [hd.mem_erase_iff] at hx
    have := h x hx.2
    omega)
   rw [List.length_erase_of_mem hm] at h1
   omega
  ·have := nodup_le n l hd (fun x hx => by
    have := h x hx
    have hne : x ≠ n := by rintro rfl; exact hm hx
    omega)
   omega
end Go.Cg
namespace Go.Cg
open Go.Proofs
def upGo (g : Img) : Nat → Int → List Int → List Int
 | 0, _, out => out
 | n + 1, t, out => match typeAt g t with
  | some td => if t ∈ out then out else upGo g n td.ext (out ++ [t])
  | none => out
def up (g : Img) (t : Int) : List Int := upGo g (g.types.length + 1) t []
def UpInv (g : Img) (t0 : Int) (x : Int × List Int) : Prop := upGo g (g.types.length + 1 - x.2.length) x.1 x.2 = up g t0 ∧ x.2.Nodup ∧ ∀ y ∈ x.2, 0 ≤ y ∧ y < g.types.length
theorem typeAt_lt {g : Img} {t : Int} {td : TD} (h : typeAt g t = some td) : 0 ≤ t ∧ t < g.types.length := by
 unfold typeAt at h
 split at h
 ·have := (List.getElem?_eq_some_iff.1 h).1; omega
 ·cases h
theorem UpInv.len {g : Img} {t0 : Int} {x : Int × List Int} (h : UpInv g t0 x) : x.2.length ≤ g.types.length := nodup_le _ _ h.2.1 h.2.2
theorem UpInv.next {g : Img} {t0 : Int} {t : Int} {out : List Int} {td : TD} (h : UpInv g t0 (t, out)) (ht : typeAt g t = some td) (hn : t ∉ out) : UpInv g t0 (td.ext, out ++ [t]) := by
 have hl := h.len
 obtain ⟨h1, h2, h3⟩ := h
 simp only at h1 h2 h3 hl
 rw [show g.types.length + 1 - out.length = (g.types.length + 1 - (out ++ [t]).length) + 1 by simp; omega, upGo, ht] at h1
 simp only [hn, if_false] at h1
 refine ⟨h1, ?_, ?_⟩
 ·rw [List.nodup_append]; simp [h2]; intro a ha e; subst e; exact hn ha
 ·intro y hy
  simp only [List.mem_append, List.mem_singleton] at hy
  rcases hy with hy | rfl
  ·exact h3 y hy
  ·exact typeAt_lt ht
theorem UpInv.stop {g : Img} {t0 : Int} {t : Int} {out : List Int} (h : UpInv g t0 (t, out)) (hs : typeAt g t = none ∨ t ∈ out) : out = up g t0 := by
 have hl := h.len
 obtain ⟨h1, h2, h3⟩ := h
 simp only at h1 h2 h3 hl
 rw [show g.types.length + 1 - out.length = (g.types.length - out.length) + 1 by omega, upGo] at h1
 cases ht : typeAt g t with
 | none => rw [ht] at h1; exact h1
 | some td =>
  rcases hs with hs | hs
  ·rw [ht] at hs; cases hs
  ·rw [ht] at h1; simpa [hs] using h1
set_option maxHeartbeats 1000000 in
theorem UpR_call (g : Img) (t : Int) (hg : g.types.length ≤ 1000) : ACall Tryz.prog 111 [imgPV g, pi t] (ints (up g t)) := by
 refine acall_intro tbOK Tryz.func111 rfl (by kernel_rfl) Tryz.ntmps111 (by simp) _ rfl (fun hw gB hgB => ?_)
 repeat' (first | refine sA ?_ | refine sC (fun _ => ?_) (fun _ => ?_) | fail)
 refine aw_own_nil (t := 5) 0 3 1 (by decide) rfl rfl ?_
 refine aw_loop (fun x : Int × List Int => [(1, .pv (pi x.1)), (2, .pv (.ptr (imgPV g) 0)), (5, .own 0)]) (fun x => [(0, .row 3 1 (x.2.map pi))]) (UpInv g t) (fun x => g.types.length + 1 - x.2.length) (t, []) ⟨rfl, by simp, by simp⟩ (tS) ⟨hsub_cons rfl hsub_nil, rfl⟩ ?_
 rintro ⟨t', out⟩ hi
 have hlen := hi.len
 simp only at hlen
 cases ht : typeAt g t' with
 | none =>
  have hth : there g t' = false := by
   cases hh : there g t' with
   | false => rfl
   | true => obtain ⟨td, h⟩ := (there_iff g t').1 hh; rw [ht] at h; cases h
  have c1 : ACall Tryz.prog 167 [imgPV g, pi t'] (pb false) := by rw [← hth]; exact There_call g t'
  repeat' (first | (refine shC ?_; first | refine qC c1 ?_) | refine sK ?_ | refine sC (fun _ => ?_) (fun _ => ?_) | fail)
  exact retq rfl (by rw [← hi.stop (.inl ht)]; rfl)
 | some td =>
  have hth : there g t' = true := (there_iff g t').2 ⟨td, ht⟩
  have c1 : ACall Tryz.prog 167 [imgPV g, pi t'] (pb true) := by rw [← hth]; exact There_call g t'
  obtain ⟨h0, he⟩ := typeAt_get ht
  by_cases hm : t' ∈ out
  ·have c2 : ACall Tryz.prog 112 [ints out, pi t'] (pb true) := by have := Has_call out t'; rwa [decide_eq_true hm] at this
   repeat' (first | (refine shC ?_; first | refine qC c1 ?_ | refine qC c2 ?_) | refine sK ?_ | refine sC (fun _ => ?_) (fun _ => ?_) | fail)
   exact retq rfl (by rw [← hi.stop (.inr hm)]; rfl)
  ·have c2 : ACall Tryz.prog 112 [ints out, pi t'] (pb false) := by have := Has_call out t'; rwa [decide_eq_false hm] at this
   have hnx := hi.next ht hm
   repeat' (first | (refine shC ?_; first | refine qC c1 ?_ | refine qC c2 ?_) | (refine shX ?_; first | refine ao_q rfl (q_index tbOK rfl rfl rfl rfl rfl rfl h0 he) rfl rfl ?_ | refine AD.step _ _ _ _ _ rfl (q_index tbOK rfl rfl rfl rfl rfl rfl h0 he) rfl rfl ?_) | (refine ao_sh_bi ?_; first | refine ao_append tbOK rfl rfl rfl rfl rfl rfl rfl (by show _ * 8 ≤ _; simp; omega) (by simp; omega) rfl rfl ?_) | refine sK ?_ | refine sC (fun _ => ?_) (fun _ => ?_) | fail)
   refine ⟨(td.ext, out ++ [t']), hnx, by simp; omega, tS, ⟨hsub_r rfl (by simp) hsub_nil, rfl⟩⟩
end Go.Cg
namespace Go.Cg
open Go.Proofs
theorem upGo_inv {g : Img} : ∀ (n : Nat) (t : Int) (out : List Int), out.Nodup → (∀ y ∈ out, 0 ≤ y ∧ y < g.types.length) → (upGo g n t out).Nodup ∧ ∀ y ∈ upGo g n t out, 0 ≤ y ∧ y < g.types.length
 | 0, t, out, h1, h2 => ⟨h1, h2⟩
 | n + 1, t, out, h1, h2 => by
  rw [upGo]
  cases ht : typeAt g t with
  | none => exact ⟨h1, h2⟩
  | some td =>
   by_cases hm : t ∈ out
   ·simp only [hm, if_true]; exact ⟨h1, h2⟩
   ·simp only [hm, if_false]
    refine upGo_inv n td.ext (out ++ [t]) ?_ ?_
    ·rw [List.nodup_append]; simp [h1]; intro a ha e; subst e; exact hm ha
    ·intro y hy
     simp only [List.mem_append, List.mem_singleton] at hy
     rcases hy with hy | rfl
     ·exact h2 y hy
     ·exact typeAt_lt ht
theorem up_inv (g : Img) (t : Int) : (up g t).Nodup ∧ ∀ y ∈ up g t, 0 ≤ y ∧ y < g.types.length := upGo_inv _ t [] (by simp) (by simp)
theorem typeAt_of_lt {g : Img} {t : Int} (h : 0 ≤ t ∧ t < g.types.length) : ∃ td, typeAt g t = some td :=
 ⟨_, by rw [typeAt, if_pos h.1]; exact List.getElem?_eq_getElem (by omega)⟩
def facesAt (g : Img) (u : Int) : List Int := match typeAt g u with | some td => td.faces | none => []
def addF (g : Img) (met : List Int) (f : Int) : List Int := if there g f = true ∧ f ∉ met then met ++ [f] else met
def MInv (g : Img) (met : List Int) : Prop := met.Nodup ∧ ∀ y ∈ met, 0 ≤ y ∧ y < g.types.length
theorem MInv.len {g : Img} {met : List Int} (h : MInv g met) : met.length ≤ g.types.length := nodup_le _ _ h.1 h.2
theorem there_lt {g : Img} {t : Int} (h : there g t = true) : 0 ≤ t ∧ t < g.types.length := by
 obtain ⟨td, h⟩ := (there_iff g t).1 h; exact typeAt_lt h
theorem MInv.add {g : Img} {met : List Int} (h : MInv g met) (f : Int) : MInv g (addF g met f) := by
 unfold addF
 split
 ·rename_i hc
  refine ⟨?_, ?_⟩
  ·rw [List.nodup_append]; simp [h.1]; intro a ha e; subst e; exact hc.2 ha
  ·intro y hy
   simp only [List.mem_append, List.mem_singleton] at hy
   rcases hy with hy | rfl
   ·exact h.2 y hy
   ·exact there_lt hc.1
 ·exact h
theorem MInv.fold {g : Img} : ∀ (l : List Int) {met : List Int}, MInv g met → MInv g (l.foldl (addF g) met)
 | [], _, h => h
 | f :: l, _, h => MInv.fold l (h.add f)
def metStep (g : Img) (met : List Int) (u : Int) : List Int := (facesAt g u).foldl (addF g) met
theorem MInv.step {g : Img} {met : List Int} (h : MInv g met) (u : Int) : MInv g (metStep g met u) := MInv.fold _ h
theorem MInv.steps {g : Img} : ∀ (l : List Int) {met : List Int}, MInv g met → MInv g (l.foldl (metStep g) met)
 | [], _, h => h
 | u :: l, _, h => MInv.steps l (h.step u)
def met1 (g : Img) (t : Int) : List Int := (up g t).foldl (metStep g) []
def metGo (g : Img) : Nat → Nat → List Int → List Int
 | 0, _, met => met
 | n + 1, i, met => match met[i]? with | some u => metGo g n (i + 1) (metStep g met u) | none => met
def met2 (g : Img) (t : Int) : List Int := metGo g (g.types.length + 1) 0 (met1 g t)
def nums (n : Nat) : List Int := (List.range n).map fun i : Nat => (i : Int)
def facesR (g : Img) (t : Int) : List Int := (nums g.types.length).filter fun f => decide (f ∈ met2 g t)
theorem drop_foldl {α β : Type} {f : β → α → β} {l : List α} {k : Nat} {b : β} (h : k < l.length) : (l.drop k).foldl f b = (l.drop (k + 1)).foldl f (f b l[k]) := by rw [drop_cons h]; rfl
theorem addF_len {g : Img} {met : List Int} {f : Int} {i : Nat} (h : i < met.length) : i < (addF g met f).length := by
 unfold addF; split
 ·simp; omega
 ·exact h
theorem addF_get {g : Img} {met : List Int} {f : Int} {i : Nat} {x : Int} (h : i < met.length) (hx : met[i]? = some x) : (addF g met f)[i]? = some x := by
 unfold addF; split
 ·rw [List.getElem?_append_left h]; exact hx
 ·exact hx
set_option maxHeartbeats 1000000 in
theorem FacesR_call (g : Img) (t : Int) (hg : g.types.length ≤ 1000) (hfc : ∀ td ∈ g.types, td.faces.length ≤ 1000) : ACall Tryz.prog 192 [imgPV g, pi t] (ints (facesR g t)) := by
 refine acall_intro tbOK Tryz.func192 rfl (by kernel_rfl) Tryz.ntmps192 (by simp) _ rfl (fun hw gB hgB => ?_)
 have hui := up_inv g t
 have hul := nodup_le _ _ hui.1 hui.2
 repeat' (first | (refine shC ?_; first | refine qC (UpR_call g t hg) ?_) | refine sA ?_ | refine sC (fun _ => ?_) (fun _ => ?_) | fail)
 refine aw_own_nil (t := 5) 0 3 1 (by decide) rfl rfl ?_
 refine aw_loop (fun x : Nat × List Int => [(2, .pv (.ptr (imgPV g) 0)), (5, .own 0), (6, .pv (ints (up g t))), (7, .pv (pi x.1))]) (fun x => [(0, .row 3 1 (x.2.map pi))])
  (fun x => x.1 ≤ (up g t).length ∧ MInv g x.2 ∧ ((up g t).drop x.1).foldl (metStep g) x.2 = met1 g t) (fun x => (up g t).length - x.1) (0, []) ⟨by simp, ⟨by simp, by simp⟩, rfl⟩ (tS) ⟨hsub_cons rfl hsub_nil, rfl⟩ ?_
 rintro ⟨i, met⟩ ⟨hi, hmi, hr⟩
 simp only at hi hmi hr
 by_cases hlt : i < (up g t).length
 ·have heU := ints_get hlt
  obtain ⟨td, htd⟩ := typeAt_of_lt (hui.2 _ (List.getElem_mem hlt))
  obtain ⟨h0, heT⟩ := typeAt_get htd
  have hfl : td.faces.length ≤ 1000 := hfc td (by have := htd; rw [typeAt, if_pos h0] at this; exact List.mem_of_getElem? this)
  rw [drop_foldl hlt, show metStep g met (up g t)[i] = td.faces.foldl (addF g) met by rw [metStep, facesAt, htd]] at hr
  repeat' (first | refine sK ?_ | refine sC (fun _ => ?_) (fun _ => ?_) | fail)
  refine aw_loop (fun x : Nat × List Int => [(2, .pv (.ptr (imgPV g) 0)), (5, .own 0), (6, .pv (ints (up g t))), (7, .pv (pi i)), (8, .pv (pi x.1))]) (fun x => [(0, .row 3 1 (x.2.map pi))])
   (fun x => x.1 ≤ td.faces.length ∧ MInv g x.2 ∧ (td.faces.drop x.1).foldl (addF g) x.2 = td.faces.foldl (addF g) met) (fun x => td.faces.length - x.1) (0, met) ⟨by simp, hmi, rfl⟩ (tS) ⟨hsub_cons rfl hsub_nil, rfl⟩ ?_
  rintro ⟨k, met'⟩ ⟨hk, hmi', hr'⟩
  simp only at hk hmi' hr'
  by_cases hltk : k < td.faces.length
  ·have heF := ints_get hltk
   rw [drop_foldl hltk] at hr'
   have hml := hmi'.len
   repeat' (first | (refine shC ?_; first | refine qC (There_call _ _) ?_ | refine qC (Has_call _ _) ?_) | (refine shX ?_; first | refine qX heU ?_ | refine ao_q rfl (q_index tbOK rfl rfl rfl rfl rfl rfl h0 heT) rfl rfl ?_ | refine AD.step _ _ _ _ _ rfl (q_index tbOK rfl rfl rfl rfl rfl rfl h0 heT) rfl rfl ?_ | refine qX heF ?_) | (refine ao_sh_bi ?_; first | refine ao_append tbOK rfl rfl rfl rfl rfl rfl rfl (by show _ * 8 ≤ _; simp; omega) (by simp; omega) rfl rfl ?_) | refine sK ?_ | refine sC (fun _ => ?_) (fun _ => ?_) | fail)
   all_goals refine ⟨(k + 1, addF g met' td.faces[k]), ⟨hltk, hmi'.add _, hr'⟩, tD, tS, ⟨hsub_r rfl ?_ hsub_nil, rfl⟩⟩
   all_goals simp_all [addF]
  ·rw [drop_end (by omega)] at hr'
   repeat' (first | (refine shX ?_; first | refine qX heU ?_ | refine ao_q rfl (q_index tbOK rfl rfl rfl rfl rfl rfl h0 heT) rfl rfl ?_ | refine AD.step _ _ _ _ _ rfl (q_index tbOK rfl rfl rfl rfl rfl rfl h0 heT) rfl rfl ?_) | refine sK ?_ | refine sC (fun _ => ?_) (fun _ => ?_) | fail)
   refine ⟨(i + 1, met'), ⟨hlt, hmi', by rw [← hr, ← hr']; rfl⟩, tD, tS, ⟨hsub_r rfl rfl hsub_nil, rfl⟩⟩
 ·rw [drop_end (by omega)] at hr
  repeat' (first | refine sK ?_ | refine sC (fun _ => ?_) (fun _ => ?_) | fail)
  obtain rfl : met = met1 g t := hr
  refine aw_loop (fun x : Nat × List Int => [(2, .pv (.ptr (imgPV g) 0)), (5, .own 0), (10, .pv (pi x.1))]) (fun x => [(0, .row 3 1 (x.2.map pi))])
   (fun x => x.1 ≤ x.2.length ∧ MInv g x.2 ∧ metGo g (g.types.length + 1 - x.1) x.1 x.2 = met2 g t) (fun x => g.types.length + 1 - x.1) (0, met1 g t) ⟨by simp, hmi, rfl⟩ (tS) ⟨hsub_cons rfl hsub_nil, rfl⟩ ?_
  clear hi hmi hlt
  rintro ⟨i, met⟩ ⟨hi, hmi, hr⟩
  simp only at hi hmi hr
  have hml := hmi.len
  rw [show g.types.length + 1 - i = (g.types.length - i) + 1 by omega, metGo] at hr
  by_cases hlt : i < met.length
  ·have heU := ints_get hlt
   obtain ⟨td, htd⟩ := typeAt_of_lt (hmi.2 _ (List.getElem_mem hlt))
   obtain ⟨h0, heT⟩ := typeAt_get htd
   have hfl : td.faces.length ≤ 1000 := hfc td (by have := htd; rw [typeAt, if_pos h0] at this; exact List.mem_of_getElem? this)
   rw [List.getElem?_eq_getElem hlt] at hr
   simp only at hr
   rw [show metStep g met met[i] = td.faces.foldl (addF g) met by rw [metStep, facesAt, htd]] at hr
   repeat' (first | refine sK ?_ | refine sC (fun _ => ?_) (fun _ => ?_) | fail)
   refine aw_loop (fun x : Nat × List Int => [(2, .pv (.ptr (imgPV g) 0)), (5, .own 0), (10, .pv (pi i)), (11, .pv (pi x.1))]) (fun x => [(0, .row 3 1 (x.2.map pi))])
    (fun x => x.1 ≤ td.faces.length ∧ MInv g x.2 ∧ (td.faces.drop x.1).foldl (addF g) x.2 = td.faces.foldl (addF g) met ∧ i < x.2.length ∧ x.2[i]? = some met[i]) (fun x => td.faces.length - x.1) (0, met) ⟨by simp, hmi, rfl, hlt, List.getElem?_eq_getElem hlt⟩ (tS) ⟨hsub_cons rfl hsub_nil, rfl⟩ ?_
   rintro ⟨k, met'⟩ ⟨hk, hmi', hr', hli', hgi'⟩
   simp only at hk hmi' hr' hli' hgi'
   have heU' := ints_get hli'
   rw [List.getElem?_eq_getElem hli', Option.some.injEq] at hgi'
   rw [hgi'] at heU'
   by_cases hltk : k < td.faces.length
   ·have heF := ints_get hltk
    rw [drop_foldl hltk] at hr'
    have hml := hmi'.len
    repeat' (first | (refine shC ?_; first | refine qC (There_call _ _) ?_ | refine qC (Has_call _ _) ?_) | (refine shX ?_; first | refine qX heU' ?_ | refine ao_q rfl (q_index tbOK rfl rfl rfl rfl rfl rfl h0 heT) rfl rfl ?_ | refine AD.step _ _ _ _ _ rfl (q_index tbOK rfl rfl rfl rfl rfl rfl h0 heT) rfl rfl ?_ | refine qX heF ?_) | (refine ao_sh_bi ?_; first | refine ao_append tbOK rfl rfl rfl rfl rfl rfl rfl (by show _ * 8 ≤ _; simp; omega) (by simp; omega) rfl rfl ?_) | refine sK ?_ | refine sC (fun _ => ?_) (fun _ => ?_) | fail)
    all_goals refine ⟨(k + 1, addF g met' td.faces[k]), ⟨hltk, hmi'.add _, hr', addF_len hli', addF_get hli' (by rw [List.getElem?_eq_getElem hli', hgi'])⟩, tD, tS, ⟨hsub_r rfl ?_ hsub_nil, rfl⟩⟩
    all_goals simp_all [addF]
   ·rw [drop_end (by omega)] at hr'
    repeat' (first | (refine shX ?_; first | refine qX heU' ?_ | refine ao_q rfl (q_index tbOK rfl rfl rfl rfl rfl rfl h0 heT) rfl rfl ?_ | refine AD.step _ _ _ _ _ rfl (q_index tbOK rfl rfl rfl rfl rfl rfl h0 heT) rfl rfl ?_) | refine sK ?_ | refine sC (fun _ => ?_) (fun _ => ?_) | fail)
    refine ⟨(i + 1, met'), ⟨hli', hmi', ?_⟩, tD, tS, ⟨hsub_r rfl rfl hsub_nil, rfl⟩⟩
    simp only
    rw [show g.types.length + 1 - (i + 1) = g.types.length - i by omega, ← hr, ← hr']; rfl
  ·rw [List.getElem?_eq_none (by omega)] at hr
   obtain rfl : met = met2 g t := hr
   repeat' (first | refine sK ?_ | refine sC (fun _ => ?_) (fun _ => ?_) | fail)
   clear hi hlt
   refine aw_own_nil (t := 13) 1 3 1 (by decide) rfl rfl ?_
   refine aw_loop (fun x : Nat × List Int => [(2, .pv (.ptr (imgPV g) 0)), (5, .own 0), (13, .own 1), (14, .pv (pi x.1))]) (fun x => [(0, .row 3 1 ((met2 g t).map pi)), (1, .row 3 1 (x.2.map pi))])
    (fun x => x.1 ≤ g.types.length ∧ x.2.length ≤ x.1 ∧ x.2 ++ ((nums g.types.length).drop x.1).filter (fun f => decide (f ∈ met2 g t)) = facesR g t) (fun x => g.types.length - x.1) (0, []) ⟨by simp, by simp, rfl⟩ (tS) ⟨hsub_cons rfl (hsub_cons rfl hsub_nil), rfl⟩ ?_
   rintro ⟨k, out⟩ ⟨hk, hol, hr⟩
   simp only at hk hol hr
   by_cases hlt : k < g.types.length
   ·rw [drop_cons (by simpa [nums] using hlt), List.filter_cons, show (nums g.types.length)[k]'(by simpa [nums] using hlt) = (k : Int) by simp [nums]] at hr
    repeat' (first | (refine shC ?_; first | refine qC (Has_call _ _) ?_) | (refine ao_sh_bi ?_; first | refine ao_append tbOK rfl rfl rfl rfl rfl rfl rfl (by show _ * 8 ≤ _; simp; omega) (by simp; omega) rfl rfl ?_) | refine sK ?_ | refine sC (fun _ => ?_) (fun _ => ?_) | fail)
    ·rename_i hx
     simp only at hx
     rw [hx] at hr
     exact ⟨(k + 1, out ++ [(k : Int)]), ⟨by simp; omega, by simp; omega, by simpa using hr⟩, tD, tS, ⟨hsub_cons rfl (hsub_r rfl (by simp) hsub_nil), rfl⟩⟩
    ·rename_i hx
     simp only at hx
     rw [hx] at hr
     exact ⟨(k + 1, out), ⟨by simp; omega, by simp; omega, by simpa using hr⟩, tD, tS, ⟨hsub_cons rfl (hsub_r rfl rfl hsub_nil), rfl⟩⟩
   ·rw [drop_end (by simp [nums]; omega)] at hr
    repeat' (first | refine sK ?_ | refine sC (fun _ => ?_) (fun _ => ?_) | fail)
    exact retq rfl (by rw [← hr]; simp [retPV, ints])
end Go.Cg
namespace Go.Cg
open Go.RowKit
def shadowOp (ja js t' m : Nat) (o : Oper) (j : Nat) : Oper :=
 match Nat.beq j ja with
 | true => { o with op := .move (.tmp m) }
 | false => match Nat.beq j js with
  | true => { o with op := .move (.tmp m), dst := some t' }
  | false => o
def shadowFrom (ja js t' m : Nat) : List Oper → Nat → List Oper
 | [], _ => []
 | o :: os, j => shadowOp ja js t' m o j :: shadowFrom ja js t' m os (j + 1)
theorem shadowFrom_get (ja js t' m : Nat) : ∀ (ops : List Oper) (k j : Nat), (shadowFrom ja js t' m ops k)[j]? = (ops[j]?).map fun o => shadowOp ja js t' m o (k + j)
 | [], k, j => by simp [shadowFrom]
 | o :: os, k, j => by
  cases j with
  | zero => simp [shadowFrom]
  | succ j => simp only [shadowFrom, List.getElem?_cons_succ]; rw [shadowFrom_get ja js t' m os (k + 1) j]; congr; funext o; congr 1; omega
theorem shadowFrom_length (ja js t' m : Nat) : ∀ (ops : List Oper) (k : Nat), (shadowFrom ja js t' m ops k).length = ops.length
 | [], k => rfl
 | o :: os, k => by simp [shadowFrom, shadowFrom_length ja js t' m os (k + 1)]
theorem shadowOp_after {ja js t' m : Nat} {o : Oper} {j : Nat} : (shadowOp ja js t' m o j).after = o.after := by
 unfold shadowOp
 split
 ·rfl
 ·split <;> rfl
theorem shadowOp_guard {ja js t' m : Nat} {o : Oper} {j : Nat} : (shadowOp ja js t' m o j).guard = o.guard := by
 unfold shadowOp
 split
 ·rfl
 ·split <;> rfl
theorem shadowOp_pure {ja js t' m : Nat} {o : Oper} {j : Nat} (h1 : j ≠ ja) (h2 : j ≠ js) : shadowOp ja js t' m o j = o := by
 unfold shadowOp
 have e1 : Nat.beq j ja = false := by cases h : Nat.beq j ja; rfl; exact absurd (Nat.eq_of_beq_eq_true h) h1
 have e2 : Nat.beq j js = false := by cases h : Nat.beq j js; rfl; exact absurd (Nat.eq_of_beq_eq_true h) h2
 rw [e1, e2]
theorem shadowOp_dst {ja js t' m : Nat} {o : Oper} {j : Nat} (h2 : j ≠ js) : (shadowOp ja js t' m o j).dst = o.dst := by
 unfold shadowOp
 have e2 : Nat.beq j js = false := by cases h : Nat.beq j js; rfl; exact absurd (Nat.eq_of_beq_eq_true h) h2
 rw [e2]
 split <;> rfl
section
variable {P : Program} {tb : Tab} {n : Nat} {g : Base} {K K' : KK} {w w' : World} {ρ : Nat → Value} {H : HEnv} {env : Env} {a : Act} {ops rest : List Oper} {Q : Env → Prop}
theorem ad_shadow {t m : Nat} {ty : TypeId} {po : String} {af : Array Edge} (_hm : env.get m = none) (ht : Nat.blt t n = true) (h : AD P n g H ops Q rest ((t, .any) :: env)) : AD P n g H ops Q (⟨some t, .move (.tmp m), ty, po, af, none⟩ :: rest) env := by
 refine .step _ _ _ .any t rfl ⟨fun K ρ a w hf hv => ?_⟩ rfl ht h
 simp only [execOp, Act.eval]
 exact ⟨K, .refl hf.lt, .any _⟩
structure Blk (g : Base) (K : KK) (ρ : Nat → Value) (H : HEnv) (w : World) (b : Nat) (ty : TypeId) (arr : Array Value) : Prop where
 base : g.w0.heap.size ≤ b
 heap : w.heap[b]? = some (.cells arr ty (0, 0))
 noK : ∀ o, ¬ K b o
 apart : ∀ (j : Nat) (h : HE), H.get j = some h → h.live = true → blockOf (ρ j) = some b → False
 far : ¬ g.pr b
theorem Blk.evo {b : Nat} {ty : TypeId} {arr : Array Value} (h : Blk g K ρ H w b ty arr) (hev : Evo K K' w w') : Blk g K' ρ H w' b ty arr := by
 have hlt : b < w.heap.size := (Array.getElem?_eq_some_iff.1 h.heap).1
 exact ⟨h.base, by rw [hev.below.block b hlt]; exact h.heap, fun o ho => (hev.new b o ho).elim (h.noK o) (fun h2 => by omega), h.apart, h.far⟩
theorem Blk.own {b i : Nat} {ty : TypeId} {arr : Array Value} (h : Blk g K ρ H w b ty arr) (hf : FS g K ρ H w) (hi : H.get i = none) {v : AV} {u : Value} (hu : ARel K w ρ H v u) (hc : u.cells = arr) :
  FS g K (fun j => if j = i then .pointer (some ⟨b, 0, none⟩) else ρ j) ((i, .cell v) :: H) w := by
 have hk := fresh_keeps (ρ := ρ) hi (.cell v) (.pointer (some ⟨b, 0, none⟩))
 have hlat := Later.refl K w
 refine ⟨hf.below, hf.old, hf.new, hf.lt, hf.others, hf.pt, hf.away.fresh (fun b2 hb2 => by cases hb2; exact h.far), ?_, ?_⟩
 ·intro j e hj
  simp only [HEnv.get_cons] at hj
  split at hj
  ·rename_i e'; subst e'; simp only [Option.some.injEq] at hj; subst hj
   exact ⟨b, ty, arr, u, by simp, h.base, h.heap, hu.keeps hlat hk, hc, h.noK⟩
  ·rename_i hne
   have := (hf.heap.ok j e hj).keeps (.refl hf.lt) hf.lt hk
   simpa [Ne.symm hne] using this
 ·intro j k h1 h2 bb hjk hj hk' hlj hlk hbj hbk
  simp only [HEnv.get_cons] at hj hk'
  split at hj
  ·rename_i e'; subst e'
   split at hk'
   ·rename_i e''; exact hjk (by omega)
   ·rename_i hne
    simp only [if_true] at hbj
    simp only [blockOf, Option.some.injEq] at hbj
    subst hbj
    simp only [Ne.symm hne, if_false] at hbk
    exact h.apart k h2 hk' hlk hbk
  ·rename_i hne
   simp only [Ne.symm hne, if_false] at hbj
   split at hk'
   ·rename_i e''; subst e''
    simp only [if_true] at hbk
    simp only [blockOf, Option.some.injEq] at hbk
    subst hbk
    exact h.apart j h1 hj hlj hbj
   ·rename_i hne'
    simp only [Ne.symm hne', if_false] at hbk
    exact hf.heap.apart j k h1 h2 bb hjk hj hk' hlj hlk hbj hbk
theorem Blk.set {b : Nat} {ty : TypeId} {arr arr' : Array Value} (h : Blk g K ρ H w b ty arr) (hf : FS g K ρ H w) :
  FS g K ρ H (w.setRow b arr') ∧ Blk g K ρ H (w.setRow b arr') b ty arr' ∧ Later K K w (w.setRow b arr') := by
 have hgrow : w.grownBy (w.setRow b arr') (some b) := ⟨rfl, rfl, rfl, by simp, fun k _ hk => setRow_other w b k _ (fun e => hk (by simp [e]))⟩
 have hlat : Later K K w (w.setRow b arr') := ⟨fun _ _ h => h, fun b' o hk => by
  have : b' ≠ b := by rintro rfl; exact h.noK o hk
  exact cell_setRow_other w b _ ⟨b', o, none⟩ this⟩
 refine ⟨⟨hf.below.grown hgrow hf.below.size (fun k hk => by simp at hk; have := h.base; omega), hf.old, hf.new, fun b o hk => by have := hf.lt b o hk; simpa using this, hf.others.trans (others_row h.heap hgrow), hf.pt.grown hf.old hgrow hlat (fun b2 hb2 => by cases hb2; exact h.far) (fun _ _ h => .inl h), hf.away, ?_, hf.heap.apart⟩, ⟨h.base, setRow_heap w b arr _ ty _ h.heap, h.noK, h.apart, h.far⟩, hlat⟩
 intro j e hj
 by_cases hlive : e.live = true
 ·have := (hf.heap.ok j e hj).grown (f := id) hgrow hlat (fun b o h => .inl h) (fun av v h => h.keeps hlat (fun j hj => ⟨hj, rfl⟩)) hlive (fun b' hb' e' => by
   simp at e'; subst e'
   exact h.apart j e hj hlive hb')
  cases e <;> exact this
 ·cases e <;> simp [HE.live] at hlive
  ·trivial
  ·exact ARel.keeps hlat (fun j hj => ⟨hj, rfl⟩) (hf.heap.ok j _ hj)
structure MidX (P : Program) (n : Nat) (g : Base) (H : HEnv) (ops : List Oper) (env : Env) (Q : Env → Prop) (s : Script P n g H ops ops env Q) (listed : Array Bool) (a : Act) (w : World) (K : KK) (ρ : Nat → Value) : Prop where
 size : a.tmps.size = n
 defers : a.defers = g.ds
 lsize : listed.size = ops.length
 closed : ∀ (i : Nat) (o : Oper), ops[i]? = some o → listed.getD i true = true → ∀ j, hasEdge o j = true → listed.getD j false = true
 fs : FS g K ρ H w
 hl : ∀ (i : Nat) (o : Oper) (ri : AV) (t : Nat), ops[i]? = some o → listed.getD i true = true → s.r[i]? = some ri → o.dst = some t → ∃ v, a.tmps[t]? = some v ∧ ARel K w ρ H ri v
 he : ∀ (t : Nat) (av : AV), env.get t = some av → (∀ (i : Nat) (o : Oper), ops[i]? = some o → listed.getD i true = true → o.dst ≠ some t) → ∃ v, a.tmps[t]? = some v ∧ ARel K w ρ H av v
theorem MidX.mid {s : Script P n g H ops ops env Q} {listed : Array Bool} (h : MidX P n g H ops env Q s listed a w K ρ) : Mid P n g H ops ops env Q s listed a w :=
 ⟨h.size, h.defers, h.lsize, Nat.le_refl _, fun j h1 h2 => by omega, h.closed, K, ρ, h.fs, h.hl, h.he⟩
theorem closed_next {s : Script P n g H ops ops env Q} {listed : Array Bool} (hm : MidX P n g H ops env Q s listed a w K ρ) {j : Nat} {o : Oper} (ho : ops[j]? = some o) (hready : ∀ i, hasEdge o i = true → listed.getD i false = true) :
  ∀ (i : Nat) (o : Oper), ops[i]? = some o → (listed.setIfInBounds j true).getD i true = true → ∀ k, hasEdge o k = true → (listed.setIfInBounds j true).getD k false = true := by
 have hjlt : j < listed.size := by rw [hm.lsize]; exact (List.getElem?_eq_some_iff.1 ho).1
 intro i o' ho' hli k hk
 by_cases hij : i = j
 ·subst hij
  rw [ho] at ho'; cases ho'
  have := hready k hk
  by_cases hkj : k = i
  ·subst hkj; exact getD_set_same hjlt
  ·rw [getD_set_other hkj]; exact this
 ·rw [getD_set_other hij] at hli
  have := hm.closed i o' ho' hli k hk
  by_cases hkj : k = j
  ·subst hkj; exact getD_set_same hjlt
  ·rw [getD_set_other hkj]; exact this
theorem MidX.next {s : Script P n g H ops ops env Q} {listed : Array Bool} (hB : drawOk ops ops = true) (hm : MidX P n g H ops env Q s listed a w K ρ) {j : Nat} {o : Oper} {rj : AV} {t : Nat} (ho : ops[j]? = some o) (hr : s.r[j]? = some rj) (hd : o.dst = some t) (ht : t < n)
  (hun : listed.getD j true = false) (hready : ∀ i, hasEdge o i = true → listed.getD i false = true) {K' : KK} {w' : World} {v : Value}
  (hfs : FS g K' ρ H w') (hlat : Later K K' w w') (hv : ARel K' w' ρ H rj v) : MidX P n g H ops env Q s (listed.setIfInBounds j true) (a.put (some t) v) w' K' ρ := by
 have hjlt : j < listed.size := by rw [hm.lsize]; exact (List.getElem?_eq_some_iff.1 ho).1
 obtain ⟨_, _, hdst, _⟩ := drawOk_at hB ho
 refine ⟨put_size hm.size, put_defers hm.defers, by simp [hm.lsize], closed_next hm ho hready, hfs, ?_, ?_⟩
 ·intro i o' ri t' ho' hli hri hd'
  by_cases hij : i = j
  ·subst hij
   rw [ho] at ho'; cases ho'
   rw [hr] at hri; cases hri
   rw [hd] at hd'; cases hd'
   exact ⟨v, by simp only [Act.put]; rw [Array.getElem?_setIfInBounds_self_of_lt (by rw [hm.size]; exact ht)], hv⟩
  ·rw [getD_set_other hij] at hli
   obtain ⟨u, h1, h2⟩ := hm.hl i o' ri t' ho' hli hri hd'
   have hne : t ≠ t' := by
    rintro rfl
    exact hdst i o' ho' hij (by rw [hd', hd])
   exact ⟨u, by simp only [Act.put]; rw [Array.getElem?_setIfInBounds_ne hne]; exact h1, h2.later hlat⟩
 ·intro t' av hav hno
  have hne : t ≠ t' := by
   rintro rfl
   exact hno j o ho (getD_set_same hjlt) hd
  obtain ⟨u, h1, h2⟩ := hm.he t' av hav (fun i o' ho' hli hd' => by
   by_cases hij : i = j
   ·subst hij; rw [hun] at hli; cases hli
   ·exact hno i o' ho' (by rw [getD_set_other hij]; exact hli) hd')
  exact ⟨u, by simp only [Act.put]; rw [Array.getElem?_setIfInBounds_ne hne]; exact h1, h2.later hlat⟩
theorem MidX.nop {s : Script P n g H ops ops env Q} {listed : Array Bool} (hm : MidX P n g H ops env Q s listed a w K ρ) {j : Nat} {o : Oper} {rj : AV} {t : Nat} {w' : World} (ho : ops[j]? = some o) (hr : s.r[j]? = some rj) (hany : ∀ u, ARel K w' ρ H rj u) (hd : o.dst = some t) (ht : t < n)
  (hun : listed.getD j true = false) (hready : ∀ i, hasEdge o i = true → listed.getD i false = true)
  (hfs : FS g K ρ H w') (hlat : Later K K w w') : MidX P n g H ops env Q s (listed.setIfInBounds j true) a w' K ρ := by
 have hjlt : j < listed.size := by rw [hm.lsize]; exact (List.getElem?_eq_some_iff.1 ho).1
 refine ⟨hm.size, hm.defers, by simp [hm.lsize], closed_next hm ho hready, hfs, ?_, ?_⟩
 ·intro i o' ri t' ho' hli hri hd'
  by_cases hij : i = j
  ·subst hij
   rw [ho] at ho'; cases ho'
   rw [hr] at hri; cases hri
   rw [hd] at hd'; cases hd'
   exact ⟨a.tmps[t]'(by rw [hm.size]; exact ht), Array.getElem?_eq_getElem _, hany _⟩
  ·rw [getD_set_other hij] at hli
   obtain ⟨u, h1, h2⟩ := hm.hl i o' ri t' ho' hli hri hd'
   exact ⟨u, h1, h2.later hlat⟩
 ·intro t' av hav hno
  obtain ⟨u, h1, h2⟩ := hm.he t' av hav (fun i o' ho' hli hd' => by
   by_cases hij : i = j
   ·subst hij; rw [hun] at hli; cases hli
   ·exact hno i o' ho' (by rw [getD_set_other hij]; exact hli) hd')
  exact ⟨u, h1, h2.later hlat⟩
theorem MidX.done {s : Script P n g H ops ops env Q} {listed : Array Bool} (hm : MidX P n g H ops env Q s listed a w K ρ) (hall : ∀ j, j < ops.length → listed.getD j true = true) : EnvR K w ρ H s.last a.tmps := by
 intro t av hav
 have hlast : (s.e ++ [s.last])[ops.length]? = some s.last := by rw [List.getElem?_append_right (by rw [s.lene]; exact Nat.le_refl _), s.lene]; simp
 rcases s.src ops.length s.last hlast t av hav with ⟨i, o, ri, h1, h2, h3, h4, h5, _⟩ | ⟨h1, av0, h2, h3⟩
 ·obtain ⟨v, v1, v2⟩ := hm.hl i o ri t h2 (hall i h1) h4 h3
  exact ⟨v, v1, h5 _ _ _ _ _ v2⟩
 ·obtain ⟨v, v1, v2⟩ := hm.he t av0 h2 (fun i o ho _ => h1 i o (List.getElem?_eq_some_iff.1 ho).1 ho)
  exact ⟨v, v1, h3 _ _ _ _ _ v2⟩
theorem MidX.early {s : Script P n g H ops ops env Q} {listed : Array Bool} (hB : drawOk ops ops = true) (hm : MidX P n g H ops env Q s listed a w K ρ) {jx tx : Nat} {ox : Oper} {v : AV} (hox : ops[jx]? = some ox) (hdx : ox.dst = some tx) (hlx : listed.getD jx true = true) (hv : s.last.get tx = some v) :
  ∃ u, a.tmps[tx]? = some u ∧ ARel K w ρ H v u := by
 have hlast : (s.e ++ [s.last])[ops.length]? = some s.last := by rw [List.getElem?_append_right (by rw [s.lene]; exact Nat.le_refl _), s.lene]; simp
 rcases s.src ops.length s.last hlast tx v hv with ⟨i, o, ri, h1, h2, h3, h4, h5, _⟩ | ⟨h1, av0, h2, h3⟩
 ·have hij : i = jx := Classical.byContradiction fun hne => (drawOk_at hB hox).2.2.1 i o h2 hne (by rw [h3, hdx])
  subst hij
  obtain ⟨u, u1, u2⟩ := hm.hl i o ri tx h2 hlx h4 h3
  exact ⟨u, u1, h5 _ _ _ _ _ u2⟩
 ·exact absurd hdx (h1 jx ox (List.getElem?_eq_some_iff.1 hox).1 hox)
theorem evo_same (hev : Evo K K' w w) : Later K' K w w := by
 refine ⟨fun b o h => (hev.new b o h).elim id (fun h2 => ?_), fun _ _ _ => rfl⟩
 have := hev.lt b o h
 omega
theorem shadow_any (a : Act) {s : Script P n g H ops ops env Q} {j : Nat} {o : Oper} {rj : AV} (ho : ops[j]? = some o) (hr : s.r[j]? = some rj) (hop : o.op = .move (.tmp n)) (hg : o.guard = none) (henv : env.get n = none) (hf : FS g K ρ H w) (u : Value) : ARel K w ρ H rj u := by
 have hj := (List.getElem?_eq_some_iff.1 ho).1
 have hej : s.e[j]? = some (s.e[j]'(by rw [s.lene]; exact hj)) := List.getElem?_eq_getElem _
 generalize s.e[j]'(by rw [s.lene]; exact hj) = ej at hej
 have hno : ej.get n = none := by
  cases hc : ej.get n with
  | none => rfl
  | some av =>
   exfalso
   rcases s.src j ej (by rw [List.getElem?_append_left (List.getElem?_eq_some_iff.1 hej).1]; exact hej) n av hc with ⟨i, o', ri, h1, h2, h3, h4, _⟩ | ⟨_, av0, h2, _⟩
   ·have hi := (List.getElem?_eq_some_iff.1 h2).1
    obtain ⟨t, e1, e2, _⟩ := s.ok i o' ri _ h2 h4 (List.getElem?_eq_getElem (by rw [s.lene]; exact hi))
    rw [h3] at e1; have e3 := Option.some.inj e1; subst e3; exact Nat.lt_irrefl _ e2
   ·rw [henv] at h2; cases h2
 obtain ⟨t, hd, ht, hor⟩ := s.ok j o rj ej ho hr hej
 have hgt : guardE ops ej o = some true := by simp [guardE, hg]
 rcases hor with ⟨_, hq⟩ | ⟨hgf, _⟩
 ·have := hq.go K ρ { a with tmps := Array.replicate (n + 1) u } w hf (fun x hx av hav => by
   rw [hop] at hx
   simp [Op.operands] at hx
   subst hx
   simp [Env.val, hno] at hav)
  rw [show (execOp (Act.eval { a with tmps := Array.replicate (n + 1) u }) o).run P w = .ok (.value u) w by
   simp [execOp, hop, Act.eval, Array.getD_eq_getD_getElem?]] at this
  obtain ⟨K', hev, hr'⟩ := this
  exact hr'.later (evo_same hev)
 ·rw [hgt] at hgf; cases hgf
end
end Go.Cg
