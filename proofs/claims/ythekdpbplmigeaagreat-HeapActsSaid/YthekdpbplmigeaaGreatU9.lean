/- A part of the walks by abstract values: no statement of its own. -/
import Derived.Test.YthekdpbplmigeaaGreatU8
import Derived.Test.YthekdpbplmigeaaGreatU7
namespace Go.Cg
open Go.Proofs
structure Pt where
 c : Int
 p : Int
 f : Int
 t : Int
 deriving Inhabited
def ptPV (x : Pt) : PV := .agg [pi x.c, pi x.p, pi x.f, pi x.t]
def spPV (f t : Int) : PV := .agg [pi f, pi t]
def pts (l : List Pt) : PV := .slc 4 (l.map ptPV) false
def partsP (k : Int) (c : Cl) : List Pt := [⟨k, 1, c.tf, c.tt⟩, ⟨k, 2, c.hf, c.ht⟩] ++ (if c.kind == 2 then [⟨k, 3, c.filter, c.hf⟩] else [])
set_option maxHeartbeats 1000000 in
theorem insideS_call (f t n : Int) : ACall Tryz.prog 342 [spPV f t, pi n] (pb (decide (0 ≤ f) && decide (f < t) && decide (t ≤ n))) := by
 refine acall_intro tbOK Tryz.func342 rfl (by kernel_rfl) Tryz.ntmps342 (by simp) _ rfl (fun hw gB hgB => ?_)
 repeat' (first | refine sA ?_ | refine sC (fun _ => ?_) (fun _ => ?_) | fail)
 all_goals first | (refine retq rfl ?_; first | (simp only [retPV] at *; simp only [*, BL]; done) | (simp_all [retPV]; done) | (simp_all [retPV]; omega) | (simp_all [retPV]; intros; omega)) | (refine retn rfl ?_; first | (simp only [retPV, BL, List.length_map] at *; simp only [*, BL, List.length_map]; done) | (simp_all [retPV]; done) | (simp_all [retPV]; omega) | (simp_all [retPV]; intros; omega)) | skip
def withinS (a b : Pt) : Bool := !(a.f == b.f && (a.t == b.t && true)) && decide (b.f ≤ a.f) && decide (a.t ≤ b.t)
set_option maxHeartbeats 1000000 in
theorem withinS_call (a b : Pt) : ACall Tryz.prog 348 [spPV a.f a.t, spPV b.f b.t] (pb (withinS a b)) := by
 refine acall_intro tbOK Tryz.func348 rfl (by kernel_rfl) Tryz.ntmps348 (by simp) _ rfl (fun hw gB hgB => ?_)
 repeat' (first | refine sA ?_ | refine sC (fun _ => ?_) (fun _ => ?_) | fail)
 all_goals (refine retq rfl ?_; first | (simp only [retPV, withinS, *]; done) | (simp only [retPV, withinS, *]; rfl) | (simp_all [retPV, withinS]; done))
def meetsS (a b : Pt) : Bool := decide (a.f < b.t) && decide (b.f < a.t)
set_option maxHeartbeats 1000000 in
theorem meetsS_call (a b : Pt) : ACall Tryz.prog 362 [spPV a.f a.t, spPV b.f b.t] (pb (meetsS a b)) := by
 refine acall_intro tbOK Tryz.func362 rfl (by kernel_rfl) Tryz.ntmps362 (by simp) _ rfl (fun hw gB hgB => ?_)
 repeat' (first | refine sA ?_ | refine sC (fun _ => ?_) (fun _ => ?_) | fail)
 all_goals (refine retq rfl ?_; first | (simp only [retPV, meetsS, *]; done) | (simp only [retPV, meetsS, *]; rfl) | (simp_all [retPV, meetsS]; done))
def idxP (l : List Pt) (p : Pt → Bool) : Int := if l.any p then ((l.findIdx p : Nat) : Int) else -1
set_option maxHeartbeats 1000000 in
theorem IndexFuncP_call (l : List Pt) (p : Pt → Bool) (f : FuncId) (first cap : List PV) (hp : ∀ x ∈ l, ACall Tryz.prog f (first ++ [ptPV x] ++ cap) (pb (p x))) : ACall Tryz.prog 363 [pts l, .fn (.func f) first cap] (pi (idxP l p)) := by
 refine acall_intro tbOK Tryz.func363 rfl (by kernel_rfl) Tryz.ntmps363 (by simp) _ rfl (fun hw gB hgB => ?_)
 have hl : l.length ≤ 9223372036854775807 := by have := hw.1; simp [pts, PV.lenOk, maxLen] at this; exact this.1
 repeat' (first | refine sA ?_ | refine sC (fun _ => ?_) (fun _ => ?_) | fail)
 refine aw_loop (fun k : Nat => [(0, .pv (pts l)), (1, .pv (.fn (.func f) first cap)), (7, .pv (pi l.length)), (8, .pv (pi k))]) (fun _ => []) (fun k => k ≤ l.length ∧ ∀ j (h : j < k) (h2 : j < l.length), p l[j] = false) (fun k => l.length - k) 0 ⟨by omega, fun j h => by omega⟩ (tS) tH ?_
 rintro k ⟨hk, hno⟩
 by_cases hlt : k < l.length
 ·have he := map_get (f := ptPV) hlt
  have c1 := hp _ (List.getElem_mem hlt)
  cases hpx : p l[k]
  ·rw [hpx] at c1
   repeat' (first | (refine shC ?_; first | refine qV (c1) ?_) | (refine shX ?_; first | refine qX he ?_) | refine sK ?_ | refine sC (fun _ => ?_) (fun _ => ?_) | fail)
   exact ⟨k + 1, ⟨hlt, fun j hj h2 => by
    by_cases e : j = k
    ·subst e; exact hpx
    ·exact hno j (by omega) h2⟩, tD, tS, tH⟩
  ·rw [hpx] at c1
   have hi : l.findIdx p = k := by
    rw [List.findIdx_eq hlt]
    exact ⟨hpx, fun j hj => hno j hj (by omega)⟩
   have ha : l.any p = true := List.any_eq_true.2 ⟨_, List.getElem_mem hlt, hpx⟩
   repeat' (first | (refine shC ?_; first | refine qV (c1) ?_) | (refine shX ?_; first | refine qX he ?_) | refine sK ?_ | refine sC (fun _ => ?_) (fun _ => ?_) | fail)
   exact retq rfl (by simp [retPV, idxP, ha, hi])
 ·have ha : l.any p = false := by
   rw [List.any_eq_false]
   intro x hx
   obtain ⟨j, hj, rfl⟩ := List.getElem_of_mem hx
   simp [hno j (by omega) hj]
  repeat' (first | refine sK ?_ | refine sC (fun _ => ?_) (fun _ => ?_) | fail)
  exact retq rfl (by simp [retPV, idxP, ha])
set_option maxHeartbeats 1000000 in
theorem ContainsFuncP_call (l : List Pt) (p : Pt → Bool) (f : FuncId) (first cap : List PV) (hp : ∀ x ∈ l, ACall Tryz.prog f (first ++ [ptPV x] ++ cap) (pb (p x))) : ACall Tryz.prog 346 [pts l, .fn (.func f) first cap] (pb (l.any p)) := by
 refine acall_intro tbOK Tryz.func346 rfl (by kernel_rfl) Tryz.ntmps346 (by simp) _ rfl (fun hw gB hgB => ?_)
 have c1 := IndexFuncP_call l p f first cap hp
 repeat' (first | (refine shC ?_; first | refine qC c1 ?_) | refine sA ?_ | refine sC (fun _ => ?_) (fun _ => ?_) | fail)
 refine retq rfl ?_
 have : decide (0 ≤ idxP l p) = l.any p := by
  unfold idxP
  cases h : l.any p <;> simp
 simp [retPV, this]
set_option maxHeartbeats 1000000 in
theorem clash11_call (a b : Pt) (may : Pt → Pt → Bool) (mf : FuncId) (hm : ∀ x y, ACall Tryz.prog mf [ptPV x, ptPV y] (pb (may x y))) : ACall Tryz.prog 361 [ptPV b, .ptr (ptPV a) 0, .ptr (.fn (.func mf) [] []) 0] (pb (meetsS a b && !may a b)) := by
 refine acall_intro tbOK Tryz.func361 rfl (by kernel_rfl) Tryz.ntmps361 (by simp) _ rfl (fun hw gB hgB => ?_)
 repeat' (first | (refine shC ?_; first | refine qC (meetsS_call a b) ?_ | refine qV (hm a b) ?_) | refine sA ?_ | refine sC (fun _ => ?_) (fun _ => ?_) | fail)
 all_goals (refine retq rfl ?_; simp_all [retPV]; done)
set_option maxHeartbeats 1000000 in
theorem clash1_call (a : Pt) (m : List Pt) (may : Pt → Pt → Bool) (mf : FuncId) (hm : ∀ x y, ACall Tryz.prog mf [ptPV x, ptPV y] (pb (may x y))) : ACall Tryz.prog 360 [ptPV a, .ptr (pts m) 0, .ptr (.fn (.func mf) [] []) 0] (pb (m.any fun b => meetsS a b && !may a b)) := by
 refine acall_intro tbOK Tryz.func360 rfl (by kernel_rfl) Tryz.ntmps360 (by simp) _ rfl (fun hw gB hgB => ?_)
 have c1 := ContainsFuncP_call m (fun b => meetsS a b && !may a b) 361 [] [.ptr (ptPV a) 0, .ptr (.fn (.func mf) [] []) 0] (fun b _ => clash11_call a b may mf hm)
 repeat' (first | (refine shC ?_; first | refine qC c1 ?_) | refine sA ?_ | refine sC (fun _ => ?_) (fun _ => ?_) | fail)
 exact retq rfl rfl
def clashP (l m : List Pt) (may : Pt → Pt → Bool) : Bool := l.any fun a => m.any fun b => meetsS a b && !may a b
set_option maxHeartbeats 1000000 in
theorem clash_call (l m : List Pt) (may : Pt → Pt → Bool) (mf : FuncId) (hm : ∀ x y, ACall Tryz.prog mf [ptPV x, ptPV y] (pb (may x y))) : ACall Tryz.prog 343 [pts l, pts m, .fn (.func mf) [] []] (pb (clashP l m may)) := by
 refine acall_intro tbOK Tryz.func343 rfl (by kernel_rfl) Tryz.ntmps343 (by simp) _ rfl (fun hw gB hgB => ?_)
 have c1 := ContainsFuncP_call l (fun a => m.any fun b => meetsS a b && !may a b) 360 [] [.ptr (pts m) 0, .ptr (.fn (.func mf) [] []) 0] (fun a _ => clash1_call a m may mf hm)
 repeat' (first | (refine shC ?_; first | refine qC c1 ?_) | refine sA ?_ | refine sC (fun _ => ?_) (fun _ => ?_) | fail)
 exact retq rfl rfl
set_option maxHeartbeats 1000000 in
theorem partsP_call (k : Int) (c : Cl) : ACall Tryz.prog 344 [pi k, clPV c] (pts (partsP k c)) := by
 refine acall_intro tbOK Tryz.func344 rfl (by kernel_rfl) Tryz.ntmps344 (by simp) _ rfl (fun hw gB hgB => ?_)
 rcases Bool.eq_false_or_eq_true (c.kind == 2) with hk | hk
 ·have e : pts (partsP k c) = .slc 4 [ptPV ⟨k, 1, c.tf, c.tt⟩, ptPV ⟨k, 2, c.hf, c.ht⟩, ptPV ⟨k, 3, c.filter, c.hf⟩] false := by simp [pts, partsP, hk]
  repeat' (first | (refine ao_sh_bi ?_; first | refine ao_q rfl (q_append tbOK rfl rfl (.inl rfl) rfl rfl (by show _ * 32 ≤ _; simp) (by simp)) rfl rfl ?_) | refine sK ?_ | refine sC (fun _ => ?_) (fun _ => ?_) | fail)
  exact retq rfl (by rw [e]; rfl)
 ·have e : pts (partsP k c) = .slc 4 [ptPV ⟨k, 1, c.tf, c.tt⟩, ptPV ⟨k, 2, c.hf, c.ht⟩] false := by simp [pts, partsP, hk]
  repeat' (first | refine sK ?_ | refine sC (fun _ => ?_) (fun _ => ?_) | fail)
  exact retq_w (t := 4) (a := .pv (.slc 4 [ptPV ⟨k, 1, c.tf, c.tt⟩, ptPV ⟨k, 2, c.hf, c.ht⟩] true)) (b := .pv (pts (partsP k c))) (ps := [pts (partsP k c)]) rfl (by rw [e]; exact tells_full 4 _ true) rfl rfl
set_option maxHeartbeats 1000000 in
theorem alone1_call (a b : Pt) : ACall Tryz.prog 345 [ptPV a, ptPV b] (pb (a.c == b.c && (a.p == b.p && true))) := by
 refine acall_intro tbOK Tryz.func345 rfl (by kernel_rfl) Tryz.ntmps345 (by simp) _ rfl (fun hw gB hgB => ?_)
 repeat' (first | refine sA ?_ | refine sC (fun _ => ?_) (fun _ => ?_) | fail)
 exact retq rfl rfl
set_option maxHeartbeats 1000000 in
theorem fits1_call (y x : Pt) : ACall Tryz.prog 347 [ptPV y, .ptr (ptPV x) 0] (pb (!withinS y x)) := by
 refine acall_intro tbOK Tryz.func347 rfl (by kernel_rfl) Tryz.ntmps347 (by simp) _ rfl (fun hw gB hgB => ?_)
 repeat' (first | (refine shC ?_; first | refine qC (withinS_call y x) ?_) | refine sA ?_ | refine sC (fun _ => ?_) (fun _ => ?_) | fail)
 exact retq rfl rfl
set_option maxHeartbeats 1000000 in
theorem fits2_call (y x : Pt) : ACall Tryz.prog 349 [ptPV y, .ptr (ptPV x) 0] (pb (y.p != 1 && y.f == x.f)) := by
 refine acall_intro tbOK Tryz.func349 rfl (by kernel_rfl) Tryz.ntmps349 (by simp) _ rfl (fun hw gB hgB => ?_)
 repeat' (first | refine sA ?_ | refine sC (fun _ => ?_) (fun _ => ?_) | fail)
 all_goals (refine retq rfl ?_; simp_all [retPV]; done)
set_option maxHeartbeats 1000000 in
theorem fits3_call (x y : Pt) : ACall Tryz.prog 350 [ptPV x, ptPV y] (pb (x.p == 1 && y.p == 1)) := by
 refine acall_intro tbOK Tryz.func350 rfl (by kernel_rfl) Tryz.ntmps350 (by simp) _ rfl (fun hw gB hgB => ?_)
 repeat' (first | refine sA ?_ | refine sC (fun _ => ?_) (fun _ => ?_) | fail)
 all_goals (refine retq rfl ?_; simp_all [retPV]; done)
set_option maxHeartbeats 1000000 in
theorem never_call (x y : Pt) : ACall Tryz.prog 351 [ptPV x, ptPV y] (pb false) := by
 refine acall_intro tbOK Tryz.func351 rfl (by kernel_rfl) Tryz.ntmps351 (by simp) _ rfl (fun hw gB hgB => ?_)
 repeat' (first | refine sA ?_ | refine sC (fun _ => ?_) (fun _ => ?_) | fail)
 exact retq rfl rfl
end Go.Cg
namespace Go.Cg
open Go.Proofs
def mayA (a b : Pt) : Bool := a.c == b.c && (a.p == b.p && true)
def mayT3 (x y : Pt) : Bool := x.p == 1 && y.p == 1
def alonePE (n : Int) (c : Cl) : Int :=
 if decide (c.kind < 1) || decide (4 < c.kind) || !triesB n c || !handsB n c then 3
 else if c.kind == 2 && (decide (c.filter < 0) || decide (c.hf ≤ c.filter)) || c.kind != 2 && c.filter != -1 then 3
 else if clashP (partsP 0 c) (partsP 0 c) mayA then 12
 else 0
set_option maxHeartbeats 4000000 in
theorem aloneR_call (n : Int) (c : Cl) : ACall Tryz.prog 326 [pi n, clPV c] (pi (alonePE n c)) := by
 refine acall_intro tbOK Tryz.func326 rfl (by kernel_rfl) Tryz.ntmps326 (by simp) _ rfl (fun hw gB hgB => ?_)
 have c1 := insideS_call c.tf c.tt n
 have c2 := insideS_call c.hf c.ht n
 have c3 := clash_call (partsP 0 c) (partsP 0 c) mayA 345 alone1_call
 have e1 : (decide (0 ≤ c.tf) && decide (c.tf < c.tt) && decide (c.tt ≤ n)) = triesB n c := rfl
 have e2 : (decide (0 ≤ c.hf) && decide (c.hf < c.ht) && decide (c.ht ≤ n)) = handsB n c := rfl
 rw [e1] at c1
 rw [e2] at c2
 repeat' (first | (refine shC ?_; first | refine qC c1 ?_ | refine qC c2 ?_ | refine qC (partsP_call 0 c) ?_ | refine qC c3 ?_) | refine sA ?_ | refine sC (fun _ => ?_) (fun _ => ?_) | fail)
 all_goals (refine retq rfl ?_; first | (simp only [retPV, alonePE, *]; done) | (simp only [retPV, alonePE, *]; rfl) | (simp_all [retPV, alonePE]; done) | (simp_all [retPV, alonePE]; omega))
end Go.Cg
namespace Go.Cg
open Go.Proofs
def alwaysIn (a : Cl) (x : Pt) : Bool := !((partsP 0 a).any fun y => !withinS y x)
def beginsAt (a : Cl) (x : Pt) : Bool := (partsP 0 a).any fun y => y.p != 1 && y.f == x.f
def fitsEnd (a b : Cl) : Bool :=
 if a.tf == b.tf && (a.tt == b.tt && true) then !clashP (partsP 0 a) (partsP 1 b) mayT3 else !clashP (partsP 0 a) (partsP 1 b) (fun _ _ => false)
def fitsGo (a b : Cl) : List Pt → Bool
 | [] => fitsEnd a b
 | x :: l => if alwaysIn a x then x.p == 1 || !beginsAt a x else fitsGo a b l
def fitsRP (a b : Cl) : Bool := fitsGo a b (partsP 1 b)
set_option maxHeartbeats 2000000 in
theorem fitsR_call (a b : Cl) : ACall Tryz.prog 327 [clPV a, clPV b] (pb (fitsRP a b)) := by
 refine acall_intro tbOK Tryz.func327 rfl (by kernel_rfl) Tryz.ntmps327 (by simp) _ rfl (fun hw gB hgB => ?_)
 have hlen : (partsP 1 b).length ≤ 3 := by unfold partsP; split <;> simp
 have h0a : ((partsP 0 a).map ptPV)[(0 : Int).toNat]? = some (ptPV ⟨0, 1, a.tf, a.tt⟩) := by simp [partsP]
 have h0b : ((partsP 1 b).map ptPV)[(0 : Int).toNat]? = some (ptPV ⟨1, 1, b.tf, b.tt⟩) := by simp [partsP]
 have ce := clash_call (partsP 0 a) (partsP 1 b) mayT3 350 fits3_call
 have cf := clash_call (partsP 0 a) (partsP 1 b) (fun _ _ => false) 351 never_call
 repeat' (first | (refine shC ?_; first | refine qC (partsP_call 0 a) ?_ | refine qC (partsP_call 1 b) ?_) | refine sA ?_ | refine sC (fun _ => ?_) (fun _ => ?_) | fail)
 refine aw_loop (fun k : Nat => [(5, .pv (pts (partsP 0 a))), (6, .pv (pts (partsP 1 b))), (14, .pv (pts (partsP 1 b))), (15, .pv (pi (partsP 1 b).length)), (16, .pv (pi k))]) (fun _ => []) (fun k => k ≤ (partsP 1 b).length ∧ fitsRP a b = fitsGo a b ((partsP 1 b).drop k)) (fun k => (partsP 1 b).length - k) 0 ⟨by omega, rfl⟩ (tS) tH ?_
 rintro k ⟨hk, hr⟩
 by_cases hlt : k < (partsP 1 b).length
 ·have he := map_get (f := ptPV) hlt
  rw [drop_cons hlt, fitsGo] at hr
  generalize (partsP 1 b)[k] = x at he hr
  have c1 := ContainsFuncP_call (partsP 0 a) (fun y => !withinS y x) 347 [] [.ptr (ptPV x) 0] (fun y _ => fits1_call y x)
  have c2 := ContainsFuncP_call (partsP 0 a) (fun y => y.p != 1 && y.f == x.f) 349 [] [.ptr (ptPV x) 0] (fun y _ => fits2_call y x)
  cases ha : (partsP 0 a).any fun y => !withinS y x
  ·rw [ha] at c1
   rw [show alwaysIn a x = true by rw [alwaysIn, ha]; rfl, if_pos rfl] at hr
   repeat' (first | refine aw_freeze (t := 8) rfl rfl rfl ?_ | (refine shC ?_; first | refine qC c1 ?_ | refine qC c2 ?_) | (refine shX ?_; first | refine qX he ?_) | refine sK ?_ | refine sC (fun _ => ?_) (fun _ => ?_) | fail)
   all_goals (refine retq rfl ?_; rw [hr]; simp_all [retPV, beginsAt]; done)
  ·rw [ha] at c1
   rw [show alwaysIn a x = false by rw [alwaysIn, ha]; rfl, if_neg (by simp)] at hr
   repeat' (first | refine aw_freeze (t := 8) rfl rfl rfl ?_ | (refine shC ?_; first | refine qC c1 ?_) | (refine shX ?_; first | refine qX he ?_) | refine sK ?_ | refine sC (fun _ => ?_) (fun _ => ?_) | fail)
   exact ⟨k + 1, ⟨hlt, hr⟩, tD, tS, tH⟩
 ·rw [drop_end (by omega), fitsGo, fitsEnd] at hr
  repeat' (first | (refine shC ?_; first | refine qC ce ?_ | refine qC cf ?_) | (refine shX ?_; first | refine qX h0a ?_ | refine qX h0b ?_) | refine sK ?_ | refine sC (fun _ => ?_) (fun _ => ?_) | fail)
  all_goals (refine retq rfl ?_; rw [hr]; simp_all [retPV]; done)
structure OkC (c : Cl) : Prop where
 t : c.tf < c.tt
 h : c.hf < c.ht
 h0 : 0 ≤ c.hf
 t0 : 0 ≤ c.tf
 f : c.kind = 2 → 0 ≤ c.filter ∧ c.filter < c.hf
theorem alone_ok {n : Int} {c : Cl} (h : aloneE n c = 0) : OkC c := by
 unfold aloneE at h
 split at h
 ·simp at h
 ·split at h
  ·simp at h
  ·rename_i h1 h2
   simp [triesB, handsB] at h1 h2
   exact ⟨by omega, by omega, by omega, by omega, fun hk => by simp [hk] at h2; omega⟩
theorem meet_eq {a b : Cl} {p q : Int} {x y : Pt} (hx : bounds a p = (x.f, x.t)) (hy : bounds b q = (y.f, y.t)) (h1 : x.f < x.t) (h2 : y.f < y.t) : meet a p b q = meetsS x y := by
 simp [meet, meetsS, hx, hy, h1, h2]
theorem meet_no {a b : Cl} {p q : Int} (h : ¬ (bounds a p).1 < (bounds a p).2 ∨ ¬ (bounds b q).1 < (bounds b q).2) : meet a p b q = false := by
 simp only [meet, Bool.and_eq_false_iff, decide_eq_false_iff_not]
 rcases h with h | h
 ·exact .inl (.inr h)
 ·exact .inr h
theorem within_eq {a b : Cl} {p q : Int} {x y : Pt} (hx : bounds a p = (x.f, x.t)) (hy : bounds b q = (y.f, y.t)) (h1 : x.f < x.t) : within a p b q = withinS x y := by
 rw [Bool.eq_iff_iff]
 simp [within, withinS, hx, hy]
 omega
theorem within_none {a b : Cl} {q : Int} (h : a.kind ≠ 2) : within a 3 b q = true := by simp [within, bounds, h]
theorem alonePE_eq {n : Int} {c : Cl} : alonePE n c = aloneE n c := by
 unfold alonePE aloneE
 split
 ·rfl
 ·split
  ·rfl
  ·rename_i h1 h2
   have hok : OkC c := by
    simp [triesB, handsB] at h1 h2
    exact ⟨by omega, by omega, by omega, by omega, fun hk => by simp [hk] at h2; omega⟩
   have e : clashP (partsP 0 c) (partsP 0 c) mayA = (meet c 1 c 2 || meet c 1 c 3 || meet c 2 c 3) := by
    obtain ⟨g1, g2, g3, g4, g5⟩ := hok
    rw [Bool.eq_iff_iff]
    by_cases hk : c.kind = 2
    ·have := g5 hk
     simp [clashP, partsP, hk, mayA, meetsS, meet, bounds]
     omega
    ·simp [clashP, partsP, hk, mayA, meetsS, meet, bounds]
     omega
   rw [e]
end Go.Cg
namespace Go.Cg
open Go.Proofs
theorem alwaysIn_eq {a b : Cl} (ha : OkC a) {q : Int} {x : Pt} (hy : bounds b q = (x.f, x.t)) (h2 : x.f < x.t) : alwaysIn a x = condW a b q := by
 have w1 : within a 1 b q = withinS ⟨0, 1, a.tf, a.tt⟩ x := within_eq (by simp [bounds]) hy ha.t
 have w2 : within a 2 b q = withinS ⟨0, 2, a.hf, a.ht⟩ x := within_eq (by simp [bounds]) hy ha.h
 by_cases hk : a.kind = 2
 ·have w3 : within a 3 b q = withinS ⟨0, 3, a.filter, a.hf⟩ x := within_eq (by simp [bounds, hk]) hy (ha.f hk).2
  simp [alwaysIn, partsP, condW, w1, w2, w3, hk, hy, h2, Bool.and_assoc]
 ·have w3 := within_none (b := b) (q := q) hk
  simp [alwaysIn, partsP, condW, w1, w2, w3, hk, hy, h2]
theorem beginsAt_eq (a : Cl) (x : Pt) : beginsAt a x = (a.hf == x.f || a.kind == 2 && a.filter == x.f) := by
 by_cases hk : a.kind = 2 <;> simp [beginsAt, partsP, hk]
theorem condW_no {a b : Cl} (h : b.kind ≠ 2) : condW a b 3 = false := by simp [condW, bounds, h]
theorem fitsEnd_eq {a b : Cl} (ha : OkC a) (hb : OkC b) : fitsEnd a b = !(badM a b 1 1 || badM a b 1 2 || badM a b 1 3 || badM a b 2 1 || badM a b 2 2 || badM a b 2 3 || badM a b 3 1 || badM a b 3 2 || badM a b 3 3) := by
 have m11 : meet a 1 b 1 = meetsS ⟨0, 1, a.tf, a.tt⟩ ⟨1, 1, b.tf, b.tt⟩ := meet_eq (by simp [bounds]) (by simp [bounds]) ha.t hb.t
 have m12 : meet a 1 b 2 = meetsS ⟨0, 1, a.tf, a.tt⟩ ⟨1, 2, b.hf, b.ht⟩ := meet_eq (by simp [bounds]) (by simp [bounds]) ha.t hb.h
 have m21 : meet a 2 b 1 = meetsS ⟨0, 2, a.hf, a.ht⟩ ⟨1, 1, b.tf, b.tt⟩ := meet_eq (by simp [bounds]) (by simp [bounds]) ha.h hb.t
 have m22 : meet a 2 b 2 = meetsS ⟨0, 2, a.hf, a.ht⟩ ⟨1, 2, b.hf, b.ht⟩ := meet_eq (by simp [bounds]) (by simp [bounds]) ha.h hb.h
 have ra : (partsP 0 a) = [⟨0, 1, a.tf, a.tt⟩, ⟨0, 2, a.hf, a.ht⟩] ++ (if a.kind == 2 then [⟨0, 3, a.filter, a.hf⟩] else []) := rfl
 have rb : (partsP 1 b) = [⟨1, 1, b.tf, b.tt⟩, ⟨1, 2, b.hf, b.ht⟩] ++ (if b.kind == 2 then [⟨1, 3, b.filter, b.hf⟩] else []) := rfl
 have n3 : b.kind ≠ 2 → ∀ p, meet a p b 3 = false := fun h p => meet_no (.inr (by simp [bounds, h]))
 have n3' : a.kind ≠ 2 → ∀ q, meet a 3 b q = false := fun h q => meet_no (.inl (by simp [bounds, h]))
 have m13 : b.kind = 2 → meet a 1 b 3 = meetsS ⟨0, 1, a.tf, a.tt⟩ ⟨1, 3, b.filter, b.hf⟩ := fun h => meet_eq (by simp [bounds]) (by simp [bounds, h]) ha.t (hb.f h).2
 have m23 : b.kind = 2 → meet a 2 b 3 = meetsS ⟨0, 2, a.hf, a.ht⟩ ⟨1, 3, b.filter, b.hf⟩ := fun h => meet_eq (by simp [bounds]) (by simp [bounds, h]) ha.h (hb.f h).2
 have m31 : a.kind = 2 → meet a 3 b 1 = meetsS ⟨0, 3, a.filter, a.hf⟩ ⟨1, 1, b.tf, b.tt⟩ := fun h => meet_eq (by simp [bounds, h]) (by simp [bounds]) (ha.f h).2 hb.t
 have m32 : a.kind = 2 → meet a 3 b 2 = meetsS ⟨0, 3, a.filter, a.hf⟩ ⟨1, 2, b.hf, b.ht⟩ := fun h => meet_eq (by simp [bounds, h]) (by simp [bounds]) (ha.f h).2 hb.h
 have m33 : a.kind = 2 → b.kind = 2 → meet a 3 b 3 = meetsS ⟨0, 3, a.filter, a.hf⟩ ⟨1, 3, b.filter, b.hf⟩ := fun h h' => meet_eq (by simp [bounds, h]) (by simp [bounds, h']) (ha.f h).2 (hb.f h').2
 unfold fitsEnd badM
 cases hs1 : a.tf == b.tf <;> cases hs2 : a.tt == b.tt <;> by_cases hka : a.kind = 2 <;> by_cases hkb : b.kind = 2 <;>
  simp [clashP, ra, rb, hka, hkb, mayT3, m11, m12, m21, m22, n3, n3', m13, m23, m31, m32, m33, Bool.or_assoc]
theorem fitsRP_eq {a b : Cl} (ha : OkC a) (hb : OkC b) : fitsRP a b = fits09 a b := by
 have e1 := alwaysIn_eq (a := a) (b := b) ha (q := 1) (x := ⟨1, 1, b.tf, b.tt⟩) (by simp [bounds]) hb.t
 have e2 := alwaysIn_eq (a := a) (b := b) ha (q := 2) (x := ⟨1, 2, b.hf, b.ht⟩) (by simp [bounds]) hb.h
 have b1 : (bounds b 1) = (b.tf, b.tt) := by simp [bounds]
 have b2 : (bounds b 2) = (b.hf, b.ht) := by simp [bounds]
 by_cases hk : b.kind = 2
 ·have e3 := alwaysIn_eq (a := a) (b := b) ha (q := 3) (x := ⟨1, 3, b.filter, b.hf⟩) (by simp [bounds, hk]) (hb.f hk).2
  have b3 : (bounds b 3) = (b.filter, b.hf) := by simp [bounds, hk]
  rw [fitsRP, show partsP 1 b = [⟨1, 1, b.tf, b.tt⟩, ⟨1, 2, b.hf, b.ht⟩, ⟨1, 3, b.filter, b.hf⟩] by simp [partsP, hk]]
  simp only [fitsGo, e1, e2, e3, beginsAt_eq, fits09, retW, b1, b2, b3, fitsEnd_eq ha hb]
 ·rw [fitsRP, show partsP 1 b = [⟨1, 1, b.tf, b.tt⟩, ⟨1, 2, b.hf, b.ht⟩] by simp [partsP, hk]]
  have c3 := condW_no (a := a) hk
  simp only [fitsGo, e1, e2, beginsAt_eq, fits09, retW, b1, b2, c3, fitsEnd_eq ha hb]
  simp
theorem chk_alone {n : Int} {l : List Cl} {k : Nat} (h : chkAt n l k = 0) : aloneE n (l.getD k default) = 0 := by
 unfold chkAt at h
 split at h
 ·exact h
 ·rename_i h1; simpa using h1
set_option maxHeartbeats 1000000 in
theorem CheckRP_call (n : Int) (l : List Cl) : ACall Tryz.prog 306 [pi n, cls l] (.tup [pi (check09 n l).1, pi (check09 n l).2]) := by
 refine acall_intro tbOK Tryz.func306 rfl (by kernel_rfl) Tryz.ntmps306 (by simp) _ rfl (fun hw gB hgB => ?_)
 have hl := cls_len hw.2.1
 by_cases h6 : 6 < l.length
 ·repeat' (first | refine sK ?_ | refine sC (fun _ => ?_) (fun _ => ?_) | fail)
  exact retq rfl (by simp [retPV, check09, h6])
 ·repeat' (first | refine sK ?_ | refine sC (fun _ => ?_) (fun _ => ?_) | fail)
  refine aw_loop (fun k : Nat => [(0, .pv (pi n)), (1, .pv (cls l)), (14, .pv (cls l)), (15, .pv (pi l.length)), (16, .pv (pi k))]) (fun _ => []) (fun k => k ≤ l.length ∧ ∀ j, j < k → chkAt n l j = 0) (fun k => l.length - k) 0 ⟨by omega, fun j h => by omega⟩ (tS) tH ?_
  rintro k ⟨hk, hno⟩
  by_cases hlt : k < l.length
  ·have he := cls_get hlt
   have ca := aloneR_call n (l.getD k default)
   rw [alonePE_eq] at ca
   cases ha : (aloneE n (l.getD k default) != 0)
   ·have hokk : OkC (l.getD k default) := alone_ok (n := n) (by simpa using ha)
    repeat' (first | refine ao_q rfl (q_slice_map (xs := l) (f := clPV) 0 k tbOK rfl rfl rfl rfl rfl rfl rfl (by omega) (by omega)) rfl rfl ?_ | (refine shC ?_; first | refine qC ca ?_) | (refine shX ?_; first | refine qX he ?_) | refine sK ?_ | refine sC (fun _ => ?_) (fun _ => ?_) | fail)
    refine aw_loop (fun m : Nat => [(0, .pv (pi n)), (1, .pv (cls l)), (6, .pv (pi k)), (7, .box 0 0), (14, .pv (cls l)), (15, .pv (pi l.length)), (16, .pv (pi k)), (30, .pv (cls (l.take k))), (31, .pv (pi k)), (32, .pv (pi m))]) (fun _ => [(0, .cell (.pv (clPV (l.getD k default))))]) (fun m => m ≤ k ∧ pairBad l k m = false) (fun m => k - m) 0 ⟨by omega, rfl⟩ (by repeat (first | exact sub_nil | refine sub_cons rfl ?_ | (refine sub_i rfl ?_ ?_; · (simp; omega)))) tH ?_
    rintro m ⟨hm, hpb⟩
    by_cases hltm : m < k
    ·have hem : ((l.take k).map clPV)[((m : Nat) : Int).toNat]? = some (clPV (l.getD m default)) := by
      simp [hltm, show m < l.length by omega]
     have hps := pairBad_succ l k m
     have hokm : OkC (l.getD m default) := alone_ok (n := n) (chk_alone (hno m hltm))
     have cf := fitsR_call (l.getD m default) (l.getD k default)
     rw [fitsRP_eq hokm hokk] at cf
     cases hf : fits09 (l.getD m default) (l.getD k default)
     ·have hat : chkAt n l k = 12 := by
       have : pairBad l k k = true := by
        simp only [pairBad, List.any_eq_true, List.mem_range]
        exact ⟨m, hltm, by rw [hf]; rfl⟩
       unfold chkAt; rw [ha]; simp [this]
      have hfin := check09_at h6 hlt hno (by rw [hat]; decide)
      clear hps
      rw [hf] at cf
      repeat' (first | (refine shC ?_; first | refine qC cf ?_) | (refine shX ?_; first | refine qX hem ?_) | refine sK ?_ | refine sC (fun _ => ?_) (fun _ => ?_) | fail)
      exact retq rfl (by simp [retPV, hfin, hat])
     ·have hpm : pairBad l k (m + 1) = false := by rw [hps, hpb, hf]; rfl
      clear hps
      rw [hf] at cf
      repeat' (first | (refine shC ?_; first | refine qC cf ?_) | (refine shX ?_; first | refine qX hem ?_) | refine sK ?_ | refine sC (fun _ => ?_) (fun _ => ?_) | fail)
      exact ⟨m + 1, ⟨by omega, hpm⟩, tD, tS, tH⟩
    ·repeat' (first | refine sK ?_ | refine sC (fun _ => ?_) (fun _ => ?_) | fail)
     have : m = k := by omega
     subst this
     have hat : chkAt n l m = 0 := by unfold chkAt; rw [ha]; simp [hpb]
     exact ⟨m + 1, ⟨by omega, fun j hj => by
      by_cases e : j = m
      ·subst e; exact hat
      ·exact hno j (by omega)⟩, tD, tS, tH⟩
   ·have hat : chkAt n l k = aloneE n (l.getD k default) := by unfold chkAt; rw [ha]; simp
    have hfin := check09_at h6 hlt hno (by rw [hat]; simpa using ha)
    repeat' (first | (refine shC ?_; first | refine qC ca ?_) | (refine shX ?_; first | refine qX he ?_) | refine sK ?_ | refine sC (fun _ => ?_) (fun _ => ?_) | fail)
    exact retq rfl (by simp [retPV, hfin, hat])
  ·repeat' (first | refine sK ?_ | refine sC (fun _ => ?_) (fun _ => ?_) | fail)
   have : k = l.length := by omega
   subst this
   exact retq rfl (by simp [retPV, check09_no h6 hno])
end Go.Cg
namespace Go.Cg
open Go.Proofs
theorem putT_call (t : Ty) (h : whereT t 1 = true) : ∃ bs : List Int, ACall Tryz.prog 322 [u8full [6], tyPV t] (u8s bs) := by
 obtain ⟨k, i, d, r⟩ := t
 have hr : r = false := by
  cases r with
  | false => rfl
  | true => simp [whereT] at h
 subst hr
 have hp : plainT ⟨k, i, d, false⟩ = true ∧ k ≠ 1 := by
  simp only [whereT] at h
  cases hp : plainT ⟨k, i, d, false⟩ with
  | false => rw [hp] at h; simp at h
  | true => rw [hp] at h; simp at h; exact ⟨rfl, h⟩
 obtain ⟨hp, hk1⟩ := hp
 simp only [plainT] at hp
 split at hp
 ·simp at hp
 ·rename_i hb
  simp at hb
  have hd : d = 0 ∨ d = 1 ∨ d = 2 ∨ d = 3 := by omega
  by_cases h2 : k = 2
  ·exact ⟨_, putA_call k 8 i d (.inl ⟨h2, rfl⟩) hd⟩
  ·by_cases h3 : k = 3
   ·exact ⟨_, putA_call k 10 i d (.inr (.inl ⟨h3, rfl⟩)) hd⟩
   ·by_cases h4 : k = 4
    ·exact ⟨_, putA_call k 28 i d (.inr (.inr ⟨h4, rfl⟩)) hd⟩
    ·by_cases h5 : k = 5
     ·exact putC_call k 18 i d (.inl ⟨h5, rfl⟩) (by omega) (by simp [h5] at hp; omega) hd
     ·by_cases h6 : k = 6
      ·exact putC_call k 17 i d (.inr ⟨h6, rfl⟩) (by omega) (by simp [h6] at hp; omega) hd
      ·by_cases h7 : k = 7
       ·subst h7
        exact putF_call i d (by omega) (by simp at hp; omega) hd
       ·simp [hk1, h2, h3, h4, h5, h6, h7] at hp
set_option maxHeartbeats 1000000 in
theorem PutFieldBad_call (t : Ty) (h : whereT t 1 = false) : ACall Tryz.prog 295 [tyPV t] (.tup [.base (.slice none 0 0), pi 17]) := by
 refine acall_intro tbOK Tryz.func295 rfl (by kernel_rfl) Tryz.ntmps295 (by simp) _ rfl (fun hw gB hgB => ?_)
 have c1 := kfield_call t
 rw [h] at c1
 repeat' (first | (refine shC ?_; first | refine qC c1 ?_) | refine sA ?_ | refine sC (fun _ => ?_) (fun _ => ?_) | fail)
 exact retq rfl rfl
set_option maxHeartbeats 1000000 in
theorem PutField_call (t : Ty) (h : whereT t 1 = true) : ∃ bs : List Int, ACall Tryz.prog 295 [tyPV t] (.tup [u8s bs, pi 0]) := by
 obtain ⟨bs, cp⟩ := putT_call t h
 refine ⟨bs, ?_⟩
 refine acall_intro tbOK Tryz.func295 rfl (by kernel_rfl) Tryz.ntmps295 (by simp) _ rfl (fun hw gB hgB => ?_)
 have c1 := kfield_call t
 rw [h] at c1
 repeat' (first | (refine shC ?_; first | refine qC c1 ?_ | refine qC cp ?_) | refine sA ?_ | refine sC (fun _ => ?_) (fun _ => ?_) | fail)
 exact retq rfl rfl
set_option maxHeartbeats 1000000 in
theorem fieldI_call (t : Ty) (n : Int) : ACall Tryz.prog 285 [tyPV t, pi n] (pb (mayT t 1 n)) := by
 refine acall_intro tbOK Tryz.func285 rfl (by kernel_rfl) Tryz.ntmps285 (by simp) _ rfl (fun hw gB hgB => ?_)
 cases h : whereT t 1
 ·repeat' (first | (refine shC ?_; first | refine qC (PutFieldBad_call t h) ?_ | refine qC (ownI_call t n) ?_) | refine sA ?_ | refine sC (fun _ => ?_) (fun _ => ?_) | fail)
  all_goals (refine retq rfl ?_; simp_all [retPV, mayT]; done)
 ·obtain ⟨bs, cp⟩ := PutField_call t h
  repeat' (first | (refine shC ?_; first | refine qC cp ?_ | refine qC (ownI_call t n) ?_) | refine sA ?_ | refine sC (fun _ => ?_) (fun _ => ?_) | fail)
  all_goals (refine retq rfl ?_; simp_all [retPV, mayT]; done)
set_option maxHeartbeats 1000000 in
theorem clauseI_call (c : Cl) (g : Img) : ACall Tryz.prog 305 [clPV c, pi (g.types.length : Nat)] (pb (clauseOk g c)) := by
 refine acall_intro tbOK Tryz.func305 rfl (by kernel_rfl) Tryz.ntmps305 (by simp) _ rfl (fun hw gB hgB => ?_)
 by_cases hk : c.kind = 1
 ·have hb : (c.kind != 1) = false := by simp [hk]
  repeat' (first | (refine shC ?_; first | refine qC (fieldI_call _ _) ?_) | refine sK ?_ | refine sC (fun _ => ?_) (fun _ => ?_) | fail)
  exact retq rfl (by simp [retPV, clauseOk, hk])
 ·have hb : (c.kind != 1) = true := by simp [hk]
  repeat' (first | (refine shC ?_; first | refine qC (fieldI_call _ _) ?_) | refine sK ?_ | refine sC (fun _ => ?_) (fun _ => ?_) | fail)
  have h1 : (c.kind == 1) = false := by simp [hk]
  exact retq rfl (by simp only [retPV, clauseOk, h1, hb, ty0B]; simp)
end Go.Cg
namespace Go.Cg
open Go.Proofs
def idxTy (l : List Ty) (p : Ty → Bool) : Int := if l.any p then ((l.findIdx p : Nat) : Int) else -1
set_option maxHeartbeats 1000000 in
theorem IndexFuncTy_call (l : List Ty) (p : Ty → Bool) (f : FuncId) (first cap : List PV) (hp : ∀ x ∈ l, ACall Tryz.prog f (first ++ [tyPV x] ++ cap) (pb (p x))) : ACall Tryz.prog 233 [.slc 4 (l.map tyPV) false, .fn (.func f) first cap] (pi (idxTy l p)) := by
 refine acall_intro tbOK Tryz.func233 rfl (by kernel_rfl) Tryz.ntmps233 (by simp) _ rfl (fun hw gB hgB => ?_)
 have hl : l.length ≤ 9223372036854775807 := by have := hw.1; simp [PV.lenOk, maxLen] at this; exact this.1
 repeat' (first | refine sA ?_ | refine sC (fun _ => ?_) (fun _ => ?_) | fail)
 refine aw_loop (fun k : Nat => [(0, .pv (.slc 4 (l.map tyPV) false)), (1, .pv (.fn (.func f) first cap)), (7, .pv (pi l.length)), (8, .pv (pi k))]) (fun _ => []) (fun k => k ≤ l.length ∧ ∀ j (h : j < k) (h2 : j < l.length), p l[j] = false) (fun k => l.length - k) 0 ⟨by omega, fun j h => by omega⟩ (tS) tH ?_
 rintro k ⟨hk, hno⟩
 by_cases hlt : k < l.length
 ·have he := map_get (f := tyPV) hlt
  have c1 := hp _ (List.getElem_mem hlt)
  cases hpx : p l[k]
  ·rw [hpx] at c1
   repeat' (first | (refine shC ?_; first | refine qV (c1) ?_) | (refine shX ?_; first | refine qX he ?_) | refine sK ?_ | refine sC (fun _ => ?_) (fun _ => ?_) | fail)
   exact ⟨k + 1, ⟨hlt, fun j hj h2 => by
    by_cases e : j = k
    ·subst e; exact hpx
    ·exact hno j (by omega) h2⟩, tD, tS, tH⟩
  ·rw [hpx] at c1
   have hi : l.findIdx p = k := by
    rw [List.findIdx_eq hlt]
    exact ⟨hpx, fun j hj => hno j hj (by omega)⟩
   have ha : l.any p = true := List.any_eq_true.2 ⟨_, List.getElem_mem hlt, hpx⟩
   repeat' (first | (refine shC ?_; first | refine qV (c1) ?_) | (refine shX ?_; first | refine qX he ?_) | refine sK ?_ | refine sC (fun _ => ?_) (fun _ => ?_) | fail)
   exact retq rfl (by simp [retPV, idxTy, ha, hi])
 ·have ha : l.any p = false := by
   rw [List.any_eq_false]
   intro x hx
   obtain ⟨j, hj, rfl⟩ := List.getElem_of_mem hx
   simp [hno j (by omega) hj]
  repeat' (first | refine sK ?_ | refine sC (fun _ => ?_) (fun _ => ?_) | fail)
  exact retq rfl (by simp [retPV, idxTy, ha])
set_option maxHeartbeats 1000000 in
theorem ContainsFuncTy_call (l : List Ty) (p : Ty → Bool) (f : FuncId) (first cap : List PV) (hp : ∀ x ∈ l, ACall Tryz.prog f (first ++ [tyPV x] ++ cap) (pb (p x))) : ACall Tryz.prog 181 [.slc 4 (l.map tyPV) false, .fn (.func f) first cap] (pb (l.any p)) := by
 refine acall_intro tbOK Tryz.func181 rfl (by kernel_rfl) Tryz.ntmps181 (by simp) _ rfl (fun hw gB hgB => ?_)
 have c1 := IndexFuncTy_call l p f first cap hp
 repeat' (first | (refine shC ?_; first | refine qC c1 ?_) | refine sA ?_ | refine sC (fun _ => ?_) (fun _ => ?_) | fail)
 refine retq rfl ?_
 have : decide (0 ≤ idxTy l p) = l.any p := by
  unfold idxTy
  cases h : l.any p <;> simp
 simp [retPV, this]
set_option maxHeartbeats 2000000 in
def idxIns (l : List Ins) (p : Ins → Bool) : Int := if l.any p then ((l.findIdx p : Nat) : Int) else -1
set_option maxHeartbeats 1000000 in
theorem IndexFuncIns_call (l : List Ins) (p : Ins → Bool) (f : FuncId) (first cap : List PV) (hp : ∀ x ∈ l, ACall Tryz.prog f (first ++ [insPV x] ++ cap) (pb (p x))) : ACall Tryz.prog 323 [.slc 6 (l.map insPV) false, .fn (.func f) first cap] (pi (idxIns l p)) := by
 refine acall_intro tbOK Tryz.func323 rfl (by kernel_rfl) Tryz.ntmps323 (by simp) _ rfl (fun hw gB hgB => ?_)
 have hl : l.length ≤ 9223372036854775807 := by have := hw.1; simp [PV.lenOk, maxLen] at this; exact this.1
 repeat' (first | refine sA ?_ | refine sC (fun _ => ?_) (fun _ => ?_) | fail)
 refine aw_loop (fun k : Nat => [(0, .pv (.slc 6 (l.map insPV) false)), (1, .pv (.fn (.func f) first cap)), (7, .pv (pi l.length)), (8, .pv (pi k))]) (fun _ => []) (fun k => k ≤ l.length ∧ ∀ j (h : j < k) (h2 : j < l.length), p l[j] = false) (fun k => l.length - k) 0 ⟨by omega, fun j h => by omega⟩ (tS) tH ?_
 rintro k ⟨hk, hno⟩
 by_cases hlt : k < l.length
 ·have he := map_get (f := insPV) hlt
  have c1 := hp _ (List.getElem_mem hlt)
  cases hpx : p l[k]
  ·rw [hpx] at c1
   repeat' (first | (refine shC ?_; first | refine qV (c1) ?_) | (refine shX ?_; first | refine qX he ?_) | refine sK ?_ | refine sC (fun _ => ?_) (fun _ => ?_) | fail)
   exact ⟨k + 1, ⟨hlt, fun j hj h2 => by
    by_cases e : j = k
    ·subst e; exact hpx
    ·exact hno j (by omega) h2⟩, tD, tS, tH⟩
  ·rw [hpx] at c1
   have hi : l.findIdx p = k := by
    rw [List.findIdx_eq hlt]
    exact ⟨hpx, fun j hj => hno j hj (by omega)⟩
   have ha : l.any p = true := List.any_eq_true.2 ⟨_, List.getElem_mem hlt, hpx⟩
   repeat' (first | (refine shC ?_; first | refine qV (c1) ?_) | (refine shX ?_; first | refine qX he ?_) | refine sK ?_ | refine sC (fun _ => ?_) (fun _ => ?_) | fail)
   exact retq rfl (by simp [retPV, idxIns, ha, hi])
 ·have ha : l.any p = false := by
   rw [List.any_eq_false]
   intro x hx
   obtain ⟨j, hj, rfl⟩ := List.getElem_of_mem hx
   simp [hno j (by omega) hj]
  repeat' (first | refine sK ?_ | refine sC (fun _ => ?_) (fun _ => ?_) | fail)
  exact retq rfl (by simp [retPV, idxIns, ha])
set_option maxHeartbeats 1000000 in
theorem ContainsFuncIns_call (l : List Ins) (p : Ins → Bool) (f : FuncId) (first cap : List PV) (hp : ∀ x ∈ l, ACall Tryz.prog f (first ++ [insPV x] ++ cap) (pb (p x))) : ACall Tryz.prog 300 [.slc 6 (l.map insPV) false, .fn (.func f) first cap] (pb (l.any p)) := by
 refine acall_intro tbOK Tryz.func300 rfl (by kernel_rfl) Tryz.ntmps300 (by simp) _ rfl (fun hw gB hgB => ?_)
 have c1 := IndexFuncIns_call l p f first cap hp
 repeat' (first | (refine shC ?_; first | refine qC c1 ?_) | refine sA ?_ | refine sC (fun _ => ?_) (fun _ => ?_) | fail)
 refine retq rfl ?_
 have : decide (0 ≤ idxIns l p) = l.any p := by
  unfold idxIns
  cases h : l.any p <;> simp
 simp [retPV, this]
set_option maxHeartbeats 2000000 in
def idxCl (l : List Cl) (p : Cl → Bool) : Int := if l.any p then ((l.findIdx p : Nat) : Int) else -1
set_option maxHeartbeats 1000000 in
theorem IndexFuncCl_call (l : List Cl) (p : Cl → Bool) (f : FuncId) (first cap : List PV) (hp : ∀ x ∈ l, ACall Tryz.prog f (first ++ [clPV x] ++ cap) (pb (p x))) : ACall Tryz.prog 325 [.slc 10 (l.map clPV) false, .fn (.func f) first cap] (pi (idxCl l p)) := by
 refine acall_intro tbOK Tryz.func325 rfl (by kernel_rfl) Tryz.ntmps325 (by simp) _ rfl (fun hw gB hgB => ?_)
 have hl : l.length ≤ 9223372036854775807 := by have := hw.1; simp [PV.lenOk, maxLen] at this; exact this.1
 repeat' (first | refine sA ?_ | refine sC (fun _ => ?_) (fun _ => ?_) | fail)
 refine aw_loop (fun k : Nat => [(0, .pv (.slc 10 (l.map clPV) false)), (1, .pv (.fn (.func f) first cap)), (7, .pv (pi l.length)), (8, .pv (pi k))]) (fun _ => []) (fun k => k ≤ l.length ∧ ∀ j (h : j < k) (h2 : j < l.length), p l[j] = false) (fun k => l.length - k) 0 ⟨by omega, fun j h => by omega⟩ (tS) tH ?_
 rintro k ⟨hk, hno⟩
 by_cases hlt : k < l.length
 ·have he := map_get (f := clPV) hlt
  have c1 := hp _ (List.getElem_mem hlt)
  cases hpx : p l[k]
  ·rw [hpx] at c1
   repeat' (first | (refine shC ?_; first | refine qV (c1) ?_) | (refine shX ?_; first | refine qX he ?_) | refine sK ?_ | refine sC (fun _ => ?_) (fun _ => ?_) | fail)
   exact ⟨k + 1, ⟨hlt, fun j hj h2 => by
    by_cases e : j = k
    ·subst e; exact hpx
    ·exact hno j (by omega) h2⟩, tD, tS, tH⟩
  ·rw [hpx] at c1
   have hi : l.findIdx p = k := by
    rw [List.findIdx_eq hlt]
    exact ⟨hpx, fun j hj => hno j hj (by omega)⟩
   have ha : l.any p = true := List.any_eq_true.2 ⟨_, List.getElem_mem hlt, hpx⟩
   repeat' (first | (refine shC ?_; first | refine qV (c1) ?_) | (refine shX ?_; first | refine qX he ?_) | refine sK ?_ | refine sC (fun _ => ?_) (fun _ => ?_) | fail)
   exact retq rfl (by simp [retPV, idxCl, ha, hi])
 ·have ha : l.any p = false := by
   rw [List.any_eq_false]
   intro x hx
   obtain ⟨j, hj, rfl⟩ := List.getElem_of_mem hx
   simp [hno j (by omega) hj]
  repeat' (first | refine sK ?_ | refine sC (fun _ => ?_) (fun _ => ?_) | fail)
  exact retq rfl (by simp [retPV, idxCl, ha])
set_option maxHeartbeats 1000000 in
theorem ContainsFuncCl_call (l : List Cl) (p : Cl → Bool) (f : FuncId) (first cap : List PV) (hp : ∀ x ∈ l, ACall Tryz.prog f (first ++ [clPV x] ++ cap) (pb (p x))) : ACall Tryz.prog 303 [.slc 10 (l.map clPV) false, .fn (.func f) first cap] (pb (l.any p)) := by
 refine acall_intro tbOK Tryz.func303 rfl (by kernel_rfl) Tryz.ntmps303 (by simp) _ rfl (fun hw gB hgB => ?_)
 have c1 := IndexFuncCl_call l p f first cap hp
 repeat' (first | (refine shC ?_; first | refine qC c1 ?_) | refine sA ?_ | refine sC (fun _ => ?_) (fun _ => ?_) | fail)
 refine retq rfl ?_
 have : decide (0 ≤ idxCl l p) = l.any p := by
  unfold idxCl
  cases h : l.any p <;> simp
 simp [retPV, this]
set_option maxHeartbeats 2000000 in
theorem method1_call (t : Ty) (n : Int) : ACall Tryz.prog 297 [tyPV t, .ptr (pi n) 0] (pb (!mayT t 2 n)) := by
 refine acall_intro tbOK Tryz.func297 rfl (by kernel_rfl) Tryz.ntmps297 (by simp) _ rfl (fun hw gB hgB => ?_)
 repeat' (first | (refine shC ?_; first | refine qC (localI_call t n) ?_) | refine sA ?_ | refine sC (fun _ => ?_) (fun _ => ?_) | fail)
 exact retq rfl rfl
set_option maxHeartbeats 1000000 in
theorem method2_call (x : Ins) (g : Img) (m : Me) (hx : okArg x) : ACall Tryz.prog 301 [insPV x, .ptr (imgPV g) 0, .ptr (mePV m) 0] (pb (!codeOk g m x)) := by
 refine acall_intro tbOK Tryz.func301 rfl (by kernel_rfl) Tryz.ntmps301 (by simp) _ rfl (fun hw gB hgB => ?_)
 have c1 := instr_call x g m hx
 rw [show m.code.length = (m.code.map insPV).length by simp] at c1
 repeat' (first | (refine shC ?_; first | refine qC c1 ?_) | refine sA ?_ | refine sC (fun _ => ?_) (fun _ => ?_) | fail)
 exact retq rfl rfl
set_option maxHeartbeats 1000000 in
theorem method3_call (c : Cl) (g : Img) : ACall Tryz.prog 304 [clPV c, .ptr (pi (g.types.length : Nat)) 0] (pb (!clauseOk g c)) := by
 refine acall_intro tbOK Tryz.func304 rfl (by kernel_rfl) Tryz.ntmps304 (by simp) _ rfl (fun hw gB hgB => ?_)
 repeat' (first | (refine shC ?_; first | refine qC (clauseI_call c g) ?_) | refine sA ?_ | refine sC (fun _ => ?_) (fun _ => ?_) | fail)
 exact retq rfl rfl
end Go.Cg
namespace Go.Cg
open Go.Proofs
set_option maxHeartbeats 4000000 in
theorem methodI_call (m : Me) (g : Img) (hx : ∀ x ∈ m.code, okArg x) : ACall Tryz.prog 286 [mePV m, imgPV g] (pb (formedM g m)) := by
 refine acall_intro tbOK Tryz.func286 rfl (by kernel_rfl) Tryz.ntmps286 (by simp) _ rfl (fun hw gB hgB => ?_)
 have cP := ContainsFuncTy_call m.params (fun t => !mayT t 2 ((g.types.map tdPV).length : Nat)) 297 [] [.ptr (pi ((g.types.map tdPV).length : Nat)) 0] (fun t _ => method1_call t _)
 have cL := ContainsFuncTy_call m.locals (fun t => !mayT t 2 ((g.types.map tdPV).length : Nat)) 297 [] [.ptr (pi ((g.types.map tdPV).length : Nat)) 0] (fun t _ => method1_call t _)
 have cC := ContainsFuncIns_call m.code (fun x => !codeOk g m x) 301 [] [.ptr (imgPV g) 0, .ptr (mePV m) 0] (fun x h => method2_call x g m (hx x h))
 have cK := ContainsFuncCl_call m.clauses (fun c => !clauseOk g c) 304 [] [.ptr (pi ((g.types.map tdPV).length : Nat)) 0] (fun c _ => by have := method3_call c g; rwa [show g.types.length = (g.types.map tdPV).length by simp] at this)
 have cR := CheckRP_call ((m.code.map insPV).length : Nat) m.clauses
 rw [← List.not_all_eq_any_not] at cP cL cC cK
 have hfm : formedM g m = (fineS m.name && decide (0 ≤ m.flags) && decide (m.flags ≤ 31) && decide (0 ≤ m.max) && decide (m.max ≤ 12) && decide ((((m.params.map tyPV).length : Nat) : Int) ≤ 6) && decide ((((m.locals.map tyPV).length : Nat) : Int) ≤ 12) && mayT m.ret 3 ((g.types.map tdPV).length : Nat)
   && (m.params.all fun t => mayT t 2 ((g.types.map tdPV).length : Nat)) && (m.locals.all fun t => mayT t 2 ((g.types.map tdPV).length : Nat)) && (decide ((((m.code.map insPV).length : Nat) : Int) ≤ 160) && m.code.all (codeOk g m) && m.clauses.all (clauseOk g) && ((check09 ((m.code.map insPV).length : Nat) m.clauses).2 == 0))) := by
  simp only [formedM, formedC, right09, List.length_map]
 generalize (m.params.all fun t => mayT t 2 ((g.types.map tdPV).length : Nat)) = bP at cP hfm
 generalize (m.locals.all fun t => mayT t 2 ((g.types.map tdPV).length : Nat)) = bL at cL hfm
 generalize m.code.all (codeOk g m) = bC at cC hfm
 generalize m.clauses.all (clauseOk g) = bK at cK hfm
 repeat' (first | refine aw_freeze (t := 5) rfl rfl rfl ?_ | (refine shC ?_; first | refine qC (FineP_call _) ?_ | refine qC (answerI_call m.ret _) ?_ | refine qC cP ?_ | refine qC cL ?_ | refine qC cC ?_ | refine qC cK ?_ | refine qC cR ?_) | refine sA ?_ | refine sC (fun _ => ?_) (fun _ => ?_) | fail)
 all_goals (refine retq rfl ?_; rw [hfm]; first | (simp_all [retPV]; done) | (simp_all [retPV]; omega))
end Go.Cg
namespace Go.Cg
open Go.Proofs
def lastF (g : Img) (k : Nat) : Int := if k = 0 then 0 else (g.fields.getD (k - 1) default).owner
def fieldsP (g : Img) : Bool := (List.range g.fields.length).all (fldOk g) && decide (((g.fields.map fdPV).length : Nat) ≤ (64 : Int))
theorem lastF_succ {g : Img} {k : Nat} (h : k < g.fields.length) : lastF g (k + 1) = g.fields[k].owner := by
 rw [lastF, if_neg (by omega), Nat.add_sub_cancel, getD_get h]
theorem fldOk_last {g : Img} {k : Nat} (h : k < g.fields.length) (hl : 0 ≤ lastF g k) : fldOk g k = (fineS g.fields[k].name && !decide (g.fields[k].owner < lastF g k) && !decide ((((g.types.map tdPV).length : Nat) : Int) ≤ g.fields[k].owner) && mayT g.fields[k].ty 1 ((g.types.map tdPV).length : Nat)) := by
 rw [fldOk]
 simp only [getD_get h, List.length_map]
 generalize fineS g.fields[k].name = bf
 generalize mayT g.fields[k].ty 1 g.types.length = bm
 unfold lastF at hl ⊢
 by_cases hk : k = 0
 ·subst hk
  rw [Bool.eq_iff_iff]; simp
 ·have e : (k == 0) = false := by simp [hk]
  rw [if_neg hk] at hl ⊢
  rw [e, Bool.eq_iff_iff]
  simp only [List.getD_eq_getElem?_getD] at hl ⊢
  simp
  intro _
  constructor
  ·rintro ⟨⟨⟨a, b⟩, c⟩, d⟩; exact ⟨⟨a, d⟩, c⟩
  ·rintro ⟨⟨a, d⟩, c⟩; exact ⟨⟨⟨a, by omega⟩, c⟩, d⟩
set_option maxHeartbeats 1000000 in
theorem fieldsG_call (g : Img) : ACall Tryz.prog 258 [imgPV g] (pb (fieldsP g)) := by
 refine acall_intro tbOK Tryz.func258 rfl (by kernel_rfl) Tryz.ntmps258 (by simp) _ rfl (fun hw gB hgB => ?_)
 have hlen := (img_len hw.1).2.1
 repeat' (first | refine sA ?_ | refine sC (fun _ => ?_) (fun _ => ?_) | fail)
 refine aw_loop (fun k : Nat => [(1, .pv (.ptr (imgPV g) 0)), (3, .pv (pi (lastF g k))), (7, .pv (.slc 7 (g.fields.map fdPV) false)), (8, .pv (pi g.fields.length)), (9, .pv (pi k))]) (fun _ => []) (fun k => k ≤ g.fields.length ∧ 0 ≤ lastF g k ∧ fieldsP g = (((List.range g.fields.length).drop k).all (fldOk g) && decide (((g.fields.map fdPV).length : Nat) ≤ (64 : Int)))) (fun k => g.fields.length - k) 0 ⟨by omega, by simp [lastF], rfl⟩ (tS) tH ?_
 rintro k ⟨hk, hl0, hr⟩
 by_cases hlt : k < g.fields.length
 ·have he := map_get (f := fdPV) hlt
  have hls := lastF_succ hlt
  rw [drop_range_all hlt, fldOk_last hlt hl0] at hr
  generalize g.fields[k] = f at he hr hls
  generalize hL : lastF g k = L at hr hl0
  repeat' (first | (refine shC ?_; first | refine qC (FineP_call _) ?_ | refine qC (fieldI_call _ _) ?_) | (refine shX ?_; first | refine qX he ?_) | refine sK ?_ | refine sC (fun _ => ?_) (fun _ => ?_) | fail)
  all_goals first
   | (refine retq rfl ?_; rw [hr]; simp_all [retPV]; done)
   | (refine ⟨k + 1, ⟨hlt, by rw [hls]; simp_all; omega, by rw [hr, Bool.eq_iff_iff]; simp_all⟩, tD, by repeat (first | exact sub_nil | refine sub_cons rfl ?_ | (refine sub_i rfl ?_ ?_; · (first | exact hls.symm | (rw [wrap_in (by omega) (by omega)] <;> omega)))), tH⟩)
 ·rw [drop_end (by simp; omega)] at hr
  repeat' (first | refine sK ?_ | refine sC (fun _ => ?_) (fun _ => ?_) | fail)
  exact retq rfl (by rw [hr]; simp [retPV])
def lastM (g : Img) (k : Nat) : Int := if k = 0 then 0 else (g.methods.getD (k - 1) default).owner
def methodsP (g : Img) : Bool := (List.range g.methods.length).all (mthOk g) && decide (((g.methods.map mePV).length : Nat) ≤ (64 : Int))
theorem lastM_succ {g : Img} {k : Nat} (h : k < g.methods.length) : lastM g (k + 1) = g.methods[k].owner := by
 rw [lastM, if_neg (by omega), Nat.add_sub_cancel, getD_get h]
theorem mthOk_last {g : Img} {k : Nat} (h : k < g.methods.length) (hl : 0 ≤ lastM g k) : mthOk g k = (!decide (g.methods[k].owner < lastM g k) && !decide ((((g.types.map tdPV).length : Nat) : Int) ≤ g.methods[k].owner) && formedM g g.methods[k]) := by
 rw [mthOk]
 simp only [getD_get h, List.length_map]
 generalize formedM g g.methods[k] = bm
 unfold lastM at hl ⊢
 by_cases hk : k = 0
 ·subst hk
  rw [Bool.eq_iff_iff]; simp
 ·have e : (k == 0) = false := by simp [hk]
  rw [if_neg hk] at hl ⊢
  rw [e, Bool.eq_iff_iff]
  simp only [List.getD_eq_getElem?_getD] at hl ⊢
  simp
  intro _
  constructor
  ·rintro ⟨⟨a, b⟩, d⟩; exact ⟨d, b⟩
  ·rintro ⟨d, c⟩; exact ⟨⟨by omega, c⟩, d⟩
set_option maxHeartbeats 1000000 in
theorem methodsG_call (g : Img) (hx : ∀ m ∈ g.methods, ∀ x ∈ m.code, okArg x) : ACall Tryz.prog 259 [imgPV g] (pb (methodsP g)) := by
 refine acall_intro tbOK Tryz.func259 rfl (by kernel_rfl) Tryz.ntmps259 (by simp) _ rfl (fun hw gB hgB => ?_)
 have hlen := (img_len hw.1).2.2
 repeat' (first | refine sA ?_ | refine sC (fun _ => ?_) (fun _ => ?_) | fail)
 refine aw_loop (fun k : Nat => [(1, .pv (.ptr (imgPV g) 0)), (3, .pv (pi (lastM g k))), (7, .pv (.slc 12 (g.methods.map mePV) false)), (8, .pv (pi g.methods.length)), (9, .pv (pi k))]) (fun _ => []) (fun k => k ≤ g.methods.length ∧ 0 ≤ lastM g k ∧ methodsP g = (((List.range g.methods.length).drop k).all (mthOk g) && decide (((g.methods.map mePV).length : Nat) ≤ (64 : Int)))) (fun k => g.methods.length - k) 0 ⟨by omega, by simp [lastM], rfl⟩ (tS) tH ?_
 rintro k ⟨hk, hl0, hr⟩
 by_cases hlt : k < g.methods.length
 ·have he := map_get (f := mePV) hlt
  have hls := lastM_succ hlt
  have cm := methodI_call g.methods[k] g (hx _ (List.getElem_mem hlt))
  rw [drop_range_all hlt, mthOk_last hlt hl0] at hr
  generalize g.methods[k] = f at he hr hls cm
  generalize hL : lastM g k = L at hr hl0
  repeat' (first | (refine shC ?_; first | refine qC cm ?_) | (refine shX ?_; first | refine qX he ?_) | refine sK ?_ | refine sC (fun _ => ?_) (fun _ => ?_) | fail)
  all_goals first
   | (refine retq rfl ?_; rw [hr]; simp_all [retPV]; done)
   | (refine ⟨k + 1, ⟨hlt, by rw [hls]; simp_all; omega, by rw [hr, Bool.eq_iff_iff]; simp_all⟩, tD, by repeat (first | exact sub_nil | refine sub_cons rfl ?_ | (refine sub_i rfl ?_ ?_; · (first | exact hls.symm | (rw [wrap_in (by omega) (by omega)] <;> omega)))), tH⟩)
 ·rw [drop_end (by simp; omega)] at hr
  repeat' (first | refine sK ?_ | refine sC (fun _ => ?_) (fun _ => ?_) | fail)
  exact retq rfl (by rw [hr]; simp [retPV])
set_option maxHeartbeats 1000000 in
theorem FormedP_call (g : Img) (hx : ∀ m ∈ g.methods, ∀ x ∈ m.code, okArg x) : ACall Tryz.prog 220 [imgPV g] (pb (formedG g)) := by
 refine acall_intro tbOK Tryz.func220 rfl (by kernel_rfl) Tryz.ntmps220 (by simp) _ rfl (fun hw gB hgB => ?_)
 have c1 := types_call g
 have c2 := fieldsG_call g
 have c3 := methodsG_call g hx
 have hfm : formedG g = (typesP g && fieldsP g && methodsP g && decide (-1 ≤ g.entry) && decide (g.entry < ((g.methods.map mePV).length : Nat))) := by
  rw [formedG, typesP, fieldsP, methodsP, Bool.eq_iff_iff]
  simp only [List.length_map, Bool.and_eq_true]
  constructor <;> (intro h; simp only [h, and_self])
 generalize typesP g = b1 at c1 hfm
 generalize fieldsP g = b2 at c2 hfm
 generalize methodsP g = b3 at c3 hfm
 repeat' (first | (refine shC ?_; first | refine qC c1 ?_ | refine qC c2 ?_ | refine qC c3 ?_) | refine sA ?_ | refine sC (fun _ => ?_) (fun _ => ?_) | fail)
 all_goals (refine retq rfl ?_; rw [hfm]; first | (simp_all [retPV]; done) | (simp_all [retPV]; omega))
end Go.Cg
namespace Go.Cg
open Go.Proofs
set_option maxHeartbeats 1000000 in
theorem fields0_call (g : Img) (h : g.fields = []) : ACall Tryz.prog 258 [imgPV g] (pb true) := by
 refine acall_intro tbOK Tryz.func258 rfl (by kernel_rfl) Tryz.ntmps258 (by simp) _ rfl (fun hw gB hgB => ?_)
 rw [imgPV, h]
 repeat' (first | refine sA ?_ | refine sC (fun _ => ?_) (fun _ => ?_) | fail)
 refine aw_loop (fun _ : Nat => [(1, .pv (.ptr (imgPV g) 0)), (8, .pv (pi 0)), (9, .pv (pi 0))]) (fun _ => []) (fun _ => True) (fun k => k) 0 trivial (by rw [imgPV, h]; repeat (first | exact sub_nil | refine sub_cons rfl ?_ | (refine sub_i rfl ?_ ?_; · (first | (rw [wrap_in (by omega) (by omega)] <;> omega) | (dsimp only; rw [wrap_in (by omega) (by omega)] <;> omega) | (simp; done))))) tH ?_
 rintro k -
 rw [imgPV, h]
 repeat' (first | refine sA ?_ | refine sC (fun _ => ?_) (fun _ => ?_) | fail)
 all_goals exact retq rfl rfl
set_option maxHeartbeats 1000000 in
theorem methods0_call (g : Img) (h : g.methods = []) : ACall Tryz.prog 259 [imgPV g] (pb true) := by
 refine acall_intro tbOK Tryz.func259 rfl (by kernel_rfl) Tryz.ntmps259 (by simp) _ rfl (fun hw gB hgB => ?_)
 rw [imgPV, h]
 repeat' (first | refine sA ?_ | refine sC (fun _ => ?_) (fun _ => ?_) | fail)
 refine aw_loop (fun _ : Nat => [(1, .pv (.ptr (imgPV g) 0)), (8, .pv (pi 0)), (9, .pv (pi 0))]) (fun _ => []) (fun _ => True) (fun k => k) 0 trivial (by rw [imgPV, h]; repeat (first | exact sub_nil | refine sub_cons rfl ?_ | (refine sub_i rfl ?_ ?_; · (first | (rw [wrap_in (by omega) (by omega)] <;> omega) | (dsimp only; rw [wrap_in (by omega) (by omega)] <;> omega) | (simp; done))))) tH ?_
 rintro k -
 rw [imgPV, h]
 repeat' (first | refine sA ?_ | refine sC (fun _ => ?_) (fun _ => ?_) | fail)
 all_goals exact retq rfl rfl
set_option maxHeartbeats 1000000 in
theorem FormedP0_call (g : Img) (hf : g.fields = []) (hm : g.methods = []) (he : g.entry = -1) : ACall Tryz.prog 220 [imgPV g] (pb (typesP g)) := by
 refine acall_intro tbOK Tryz.func220 rfl (by kernel_rfl) Tryz.ntmps220 (by simp) _ rfl (fun hw gB hgB => ?_)
 have c1 := types_call g
 have c2 := fields0_call g hf
 have c3 := methods0_call g hm
 cases ht : typesP g
 ·rw [ht] at c1
  repeat' (first | (refine shC ?_; first | refine qC c1 ?_ | refine qC c2 ?_ | refine qC c3 ?_) | refine sK ?_ | refine sC (fun _ => ?_) (fun _ => ?_) | fail)
  all_goals exact retq rfl rfl
 ·rw [ht] at c1
  have h2 : decide (-1 ≤ g.entry) = true := by rw [he]; rfl
  have h3 : decide (g.entry < ((g.methods.map mePV).length : Nat)) = true := by rw [he, hm]; rfl
  repeat' (first | (refine shC ?_; first | refine qC c1 ?_ | refine qC c2 ?_ | refine qC c3 ?_) | refine sK ?_ | refine sC (fun _ => ?_) (fun _ => ?_) | fail)
  all_goals (refine retq rfl ?_; simp only [retPV]; first | rw [h3] | simp_all)
end Go.Cg
namespace Go.Cg
open Go.Proofs
set_option maxHeartbeats 1000000 in
theorem flaggedBit_call (td : TD) (b : Int) : ACall Tryz.prog 260 [pi b, .ptr (tdPV td) 0] (pb (andB td.flags b)) := by
 refine acall_intro tbOK Tryz.func260 rfl (by kernel_rfl) Tryz.ntmps260 (by simp) _ rfl (fun hw gB hgB => ?_)
 repeat' (first | refine sA ?_ | refine sC (fun _ => ?_) (fun _ => ?_) | fail)
 exact retq rfl rfl
def flaggedP (td : TD) : Bool :=
 if kindT td.flags == 2 then andB td.flags 4 && !andB td.flags 1 && !andB td.flags 8 && !andB td.flags 16 && td.ext == -1
 else if kindT td.flags == 1 then andB td.flags 8 && !andB td.flags 4 && !andB td.flags 16 && td.ext == -1
 else if kindT td.flags == 3 then andB td.flags 8 && !andB td.flags 4 && td.ext == -1 && ((td.faces.length : Int) == 0)
 else true
set_option maxHeartbeats 1000000 in
theorem flaggedP_call (td : TD) : ACall Tryz.prog 221 [tdPV td] (pb (flaggedP td)) := by
 refine acall_intro tbOK Tryz.func221 rfl (by kernel_rfl) Tryz.ntmps221 (by simp) _ rfl (fun hw gB hgB => ?_)
 repeat' (first | (refine shC ?_; first | refine qC (kind_call td) ?_ | refine qV (flaggedBit_call td 1) ?_ | refine qV (flaggedBit_call td 4) ?_ | refine qV (flaggedBit_call td 8) ?_ | refine qV (flaggedBit_call td 16) ?_) | refine sA ?_ | refine sC (fun _ => ?_) (fun _ => ?_) | fail)
 all_goals first | (refine retq rfl ?_; first | (simp only [retPV, flaggedP, List.length_map] at *; simp only [*, BL]; done) | (simp_all [retPV, flaggedP]; done) | (simp_all [retPV, flaggedP]; omega) | (simp_all [retPV, flaggedP]; intros; omega)) | (refine retn rfl ?_; first | (simp only [retPV, flaggedP, BL, List.length_map] at *; simp only [*, BL, List.length_map]; done) | (simp_all [retPV, flaggedP]; done) | (simp_all [retPV, flaggedP]; omega) | (simp_all [retPV, flaggedP]; intros; omega)) | skip
def extP (g : Img) (t : Int) (td : TD) : Bool := td.ext == -1 || (kindP g td.ext == 0 && !andB (flagsAt g td.ext) 8 && topExt g t == -1)
set_option maxHeartbeats 1000000 in
theorem extendsP_call (g : Img) (t : Int) (td : TD) (htd : typeAt g t = some td) (hg : g.types.length ≤ 1000) : ACall Tryz.prog 222 [imgPV g, pi t] (pb (extP g t td)) := by
 refine acall_intro tbOK Tryz.func222 rfl (by kernel_rfl) Tryz.ntmps222 (by simp) _ rfl (fun hw gB hgB => ?_)
 obtain ⟨h0, he⟩ := typeAt_get htd
 have hui := up_inv g t
 have hul := nodup_le _ _ hui.1 hui.2
 obtain ⟨ur, hur⟩ := up_head htd
 have hpos : 0 < (up g t).length := by rw [hur]; simp
 have hlast : (up g t)[(up g t).length - 1]? = some ((up g t).getLastD 0) := by
  rw [hur]; simp [List.getLastD_eq_getLast?, List.getLast?_eq_getElem?]
 have hlt : (up g t).length - 1 < (up g t).length := by omega
 obtain ⟨tl, htl⟩ := typeAt_of_lt (g := g) (t := (up g t).getLastD 0) (hui.2 _ (List.mem_of_getElem? hlast))
 obtain ⟨hl0, hel⟩ := typeAt_get htl
 have hw1 : IntKind.i64.wrap (((up g t).map pi).length - 1 : Int) = (((up g t).length - 1 : Nat) : Int) := by rw [List.length_map, wrap_in (by omega) (by omega)]; omega
 have heU : ((up g t).map pi)[(IntKind.i64.wrap (((up g t).map pi).length - 1 : Int)).toNat]? = some (pi ((up g t).getLastD 0)) := by rw [hw1]; simp [hlast]
 have htop : topExt g t = tl.ext := by rw [topExt, htl]
 by_cases h1 : td.ext = -1
 ·have h1b : (td.ext == -1) = true := by simp [h1]
  repeat' (first | (refine shX ?_; first | refine ao_q rfl (q_index tbOK rfl rfl rfl rfl rfl rfl h0 he) rfl rfl ?_ | refine AD.step _ _ _ _ _ rfl (q_index tbOK rfl rfl rfl rfl rfl rfl h0 he) rfl rfl ?_) | refine sK ?_ | refine sC (fun _ => ?_) (fun _ => ?_) | fail)
  exact retq rfl (by simp [retPV, extP, h1])
 ·have h1b : (td.ext == -1) = false := by simp [h1]
  have c1 := KindP_call g td.ext
  by_cases hk : kindP g td.ext = 0
  ·rw [hk] at c1
   obtain ⟨te, hte⟩ : ∃ te, typeAt g td.ext = some te := by
    rw [kindP] at hk
    cases h : typeAt g td.ext with
    | none => rw [h] at hk; simp at hk
    | some te => exact ⟨te, rfl⟩
   obtain ⟨he0, hee⟩ := typeAt_get hte
   have hfa : flagsAt g td.ext = te.flags := by rw [flagsAt, hte]
   have hres : extP g t td = (!andB te.flags 8 && tl.ext == -1) := by rw [extP, h1b, hk, hfa, htop]; rfl
   repeat' (first | (refine shC ?_; first | refine qC c1 ?_ | refine qC (UpP_call g t hg) ?_) | (refine shX ?_; first | refine ao_q rfl (q_index tbOK rfl rfl rfl rfl rfl rfl h0 he) rfl rfl ?_ | refine AD.step _ _ _ _ _ rfl (q_index tbOK rfl rfl rfl rfl rfl rfl h0 he) rfl rfl ?_ | refine ao_q rfl (q_index tbOK rfl rfl rfl rfl rfl rfl he0 hee) rfl rfl ?_ | refine AD.step _ _ _ _ _ rfl (q_index tbOK rfl rfl rfl rfl rfl rfl he0 hee) rfl rfl ?_ | refine ao_q rfl (q_index tbOK rfl rfl rfl rfl rfl rfl (by rw [hw1]; omega) heU) rfl rfl ?_ | refine AD.step _ _ _ _ _ rfl (q_index tbOK rfl rfl rfl rfl rfl rfl (by rw [hw1]; omega) heU) rfl rfl ?_ | refine ao_q rfl (q_index tbOK rfl rfl rfl rfl rfl rfl hl0 hel) rfl rfl ?_ | refine AD.step _ _ _ _ _ rfl (q_index tbOK rfl rfl rfl rfl rfl rfl hl0 hel) rfl rfl ?_) | refine sA ?_ | refine sC (fun _ => ?_) (fun _ => ?_) | fail)
   all_goals (refine retq rfl ?_; rw [hres]; simp_all [retPV, andB])
  ·have hkb : (kindP g td.ext == 0) = false := by simp [hk]
   repeat' (first | (refine shC ?_; first | refine qC c1 ?_ | refine qC (UpP_call g t hg) ?_) | (refine shX ?_; first | refine ao_q rfl (q_index tbOK rfl rfl rfl rfl rfl rfl h0 he) rfl rfl ?_ | refine AD.step _ _ _ _ _ rfl (q_index tbOK rfl rfl rfl rfl rfl rfl h0 he) rfl rfl ?_) | refine sK ?_ | refine sC (fun _ => ?_) (fun _ => ?_) | fail)
   all_goals (refine retq rfl ?_; simp [retPV, extP, h1b, hkb])
set_option maxHeartbeats 1000000 in
theorem faced0_call (g : Img) (t : Int) (td : TD) (htd : typeAt g t = some td) (hf : td.faces = []) (hk : kindT td.flags ≠ 2) : ACall Tryz.prog 223 [imgPV g, pi t] (pb true) := by
 refine acall_intro tbOK Tryz.func223 rfl (by kernel_rfl) Tryz.ntmps223 (by simp) _ rfl (fun hw gB hgB => ?_)
 obtain ⟨h0, he⟩ := typeAt_get htd
 have hkb : (kindT td.flags != 2) = true := by simp [hk]
 have hfl : (((td.faces.map pi).length : Nat) : Int) = 0 := by rw [hf]; rfl
 repeat' (first | (refine shX ?_; first | refine ao_q rfl (q_index tbOK rfl rfl rfl rfl rfl rfl h0 he) rfl rfl ?_ | refine AD.step _ _ _ _ _ rfl (q_index tbOK rfl rfl rfl rfl rfl rfl h0 he) rfl rfl ?_) | refine sA ?_ | refine sC (fun _ => ?_) (fun _ => ?_) | fail)
 refine aw_loop (fun _ : Nat => [(1, .pv (pi t)), (2, .pv (.ptr (imgPV g) 0)), (5, .pv (ints td.faces)), (16, .pv (pi 0)), (17, .pv (pi 0))]) (fun _ => []) (fun _ => True) (fun k => k) 0 trivial (by rw [← hfl]; repeat (first | exact sub_nil | refine sub_cons rfl ?_ | (refine sub_i rfl ?_ ?_; · (first | (rw [wrap_in (by omega) (by omega)] <;> omega) | (dsimp only; rw [wrap_in (by omega) (by omega)] <;> omega) | (simp; done))))) tH ?_
 rintro k -
 repeat' (first | (refine shC ?_; first | refine qC (kind_call td) ?_) | (refine shX ?_; first | refine ao_q rfl (q_index tbOK rfl rfl rfl rfl rfl rfl h0 he) rfl rfl ?_ | refine AD.step _ _ _ _ _ rfl (q_index tbOK rfl rfl rfl rfl rfl rfl h0 he) rfl rfl ?_) | refine sK ?_ | refine sC (fun _ => ?_) (fun _ => ?_) | fail)
 all_goals exact retq rfl rfl
set_option maxHeartbeats 1000000 in
theorem FieldsP0_call (g : Img) (t : Int) (hf : g.fields = []) : ACall Tryz.prog 228 [imgPV g, pi t] (ints []) := by
 refine acall_intro tbOK Tryz.func228 rfl (by kernel_rfl) Tryz.ntmps228 (by simp) _ rfl (fun hw gB hgB => ?_)
 rw [imgPV, hf]
 repeat' (first | refine sA ?_ | refine sC (fun _ => ?_) (fun _ => ?_) | fail)
 refine aw_loop (fun _ : Nat => [(5, .pv (.base (.slice none 0 0))), (10, .pv (pi 0)), (11, .pv (pi 0))]) (fun _ => []) (fun _ => True) (fun k => k) 0 trivial (tS) tH ?_
 rintro k -
 repeat' (first | refine sA ?_ | refine sC (fun _ => ?_) (fun _ => ?_) | fail)
 exact retq_w (t := 4) (ps := [ints []]) rfl (tells_nil 1 false) rfl rfl
set_option maxHeartbeats 1000000 in
theorem MethodsP0_call (g : Img) (t : Int) (hf : g.methods = []) : ACall Tryz.prog 137 [imgPV g, pi t] (ints []) := by
 refine acall_intro tbOK Tryz.func137 rfl (by kernel_rfl) Tryz.ntmps137 (by simp) _ rfl (fun hw gB hgB => ?_)
 rw [imgPV, hf]
 repeat' (first | refine sA ?_ | refine sC (fun _ => ?_) (fun _ => ?_) | fail)
 refine aw_loop (fun _ : Nat => [(5, .pv (.base (.slice none 0 0))), (10, .pv (pi 0)), (11, .pv (pi 0))]) (fun _ => []) (fun _ => True) (fun k => k) 0 trivial (tS) tH ?_
 rintro k -
 repeat' (first | refine sA ?_ | refine sC (fun _ => ?_) (fun _ => ?_) | fail)
 exact retq_w (t := 4) (ps := [ints []]) rfl (tells_nil 1 false) rfl rfl
set_option maxHeartbeats 1000000 in
theorem twice0_call (f : FuncId) (first cap : List PV) : ACall Tryz.prog 262 [ints [], .fn (.func f) first cap] (pb false) := by
 refine acall_intro tbOK Tryz.func262 rfl (by kernel_rfl) Tryz.ntmps262 (by simp) _ rfl (fun hw gB hgB => ?_)
 repeat' (first | refine sA ?_ | refine sC (fun _ => ?_) (fun _ => ?_) | fail)
 refine aw_loop (fun _ : Nat => [(8, .pv (pi 0)), (9, .pv (pi 0))]) (fun _ => []) (fun _ => True) (fun k => k) 0 trivial (tS) tH ?_
 rintro k -
 repeat' (first | refine sA ?_ | refine sC (fun _ => ?_) (fun _ => ?_) | fail)
 all_goals exact retq rfl rfl
set_option maxHeartbeats 1000000 in
theorem sized0_call (g : Img) (t : Int) (td : TD) (htd : typeAt g t = some td) (hf : g.fields = []) (hk : kindT td.flags ≠ 1) : ACall Tryz.prog 225 [imgPV g, pi t] (pb true) := by
 refine acall_intro tbOK Tryz.func225 rfl (by kernel_rfl) Tryz.ntmps225 (by simp) _ rfl (fun hw gB hgB => ?_)
 obtain ⟨h0, he⟩ := typeAt_get htd
 have hkb : (kindT td.flags != 1) = true := by simp [hk]
 repeat' (first | (refine shC ?_; first | refine qC (kind_call td) ?_ | refine qC (FieldsP0_call g t hf) ?_) | (refine shX ?_; first | refine ao_q rfl (q_index tbOK rfl rfl rfl rfl rfl rfl h0 he) rfl rfl ?_ | refine AD.step _ _ _ _ _ rfl (q_index tbOK rfl rfl rfl rfl rfl rfl h0 he) rfl rfl ?_) | refine sA ?_ | refine sC (fun _ => ?_) (fun _ => ?_) | fail)
 refine aw_loop (fun _ : Nat => [(2, .pv (.ptr (imgPV g) 0)), (5, .pv (pi (kindT td.flags))), (17, .pv (pi 0)), (18, .pv (pi 0))]) (fun _ => []) (fun _ => True) (fun k => k) 0 trivial (tS) tH ?_
 rintro k -
 repeat' (first | refine sK ?_ | refine sC (fun _ => ?_) (fun _ => ?_) | fail)
 all_goals exact retq rfl rfl
end Go.Cg
namespace Go.Cg
open Go.Proofs
set_option maxHeartbeats 1000000 in
theorem named0_call (g : Img) (t : Int) (td : TD) (htd : typeAt g t = some td) (hg : g.types.length ≤ 1000) (hf : g.fields = []) (hm : g.methods = []) : ACall Tryz.prog 224 [imgPV g, pi t] (pb ((List.range g.types.length).all (nameOther g t td))) := by
 refine acall_intro tbOK Tryz.func224 rfl (by kernel_rfl) Tryz.ntmps224 (by simp) _ rfl (fun hw gB hgB => ?_)
 obtain ⟨h0, heT⟩ := typeAt_get htd
 repeat' (first | refine sA ?_ | refine sC (fun _ => ?_) (fun _ => ?_) | fail)
 refine aw_loop (fun k : Nat => [(1, .pv (pi t)), (2, .pv (.ptr (imgPV g) 0)), (8, .pv (.slc 4 (g.types.map tdPV) false)), (9, .pv (pi g.types.length)), (10, .pv (pi k))]) (fun _ => []) (fun k => k ≤ g.types.length ∧ (List.range g.types.length).all (nameOther g t td) = ((List.range g.types.length).drop k).all (nameOther g t td)) (fun k => g.types.length - k) 0 ⟨by omega, rfl⟩ (tS) tH ?_
 rintro k ⟨hk, hr⟩
 by_cases hlt : k < g.types.length
 ·have he := map_get (f := tdPV) hlt
  rw [drop_range_all hlt, nameOther, getD_get hlt] at hr
  repeat' (first | (refine shX ?_; first | refine qX he ?_ | refine ao_q rfl (q_index tbOK rfl rfl rfl rfl rfl rfl h0 heT) rfl rfl ?_ | refine AD.step _ _ _ _ _ rfl (q_index tbOK rfl rfl rfl rfl rfl rfl h0 heT) rfl rfl ?_) | refine sK ?_ | refine sC (fun _ => ?_) (fun _ => ?_) | fail)
  all_goals first | (refine retq rfl ?_; first | (simp only [retPV] at *; simp only [*, BL]; done) | (simp_all [retPV]; done) | (simp_all [retPV]; omega) | (simp_all [retPV]; intros; omega)) | (refine ⟨k + 1, ⟨by omega, ?_⟩, tD, tS, tH⟩; first | (simp only [BL, List.length_map] at *; simp only [*, BL, List.length_map]; done) | (simp_all []; done) | (simp_all []; omega) | (simp_all []; intros; omega)) | (trace "LEND"; trace_state)
 ·rw [drop_end (by simp; omega)] at hr
  repeat' (first | (refine shC ?_; first | refine qC (FieldsP0_call g t hf) ?_ | refine qC (MethodsP0_call g t hm) ?_ | refine qC (twice0_call _ _ _) ?_) | refine sK ?_ | refine sC (fun _ => ?_) (fun _ => ?_) | fail)
  all_goals exact retq rfl (by rw [hr]; rfl)
def tdOf (n : UInt8) (e : Int) : TD := ⟨⟨#[n]⟩, 0, e, []⟩
def gW1 : Img := ⟨[tdOf 65 1, tdOf 66 0], [], [], -1⟩
def gW2 : Img := ⟨[tdOf 65 1, tdOf 66 (-1)], [], [], -1⟩
end Go.Cg
namespace Go.Cg
open Go.Proofs
theorem tW1 : typesP gW1 = true := by decide
theorem tW2 : typesP gW2 = true := by decide
theorem kW : kindT 0 = 0 := by decide
theorem flW (n : UInt8) (e : Int) : flaggedP (tdOf n e) = true := by simp [flaggedP, tdOf, kW]
theorem xW1 : extP gW1 0 (tdOf 65 1) = false := by decide
theorem xW2 : extP gW2 0 (tdOf 65 1) = true := by decide
theorem xW3 : extP gW2 1 (tdOf 66 (-1)) = true := by decide
theorem nW2 : (List.range gW2.types.length).all (nameOther gW2 0 (tdOf 65 1)) = true := by
 rw [List.all_eq_true]
 intro i hi
 have h1 := List.mem_range.1 hi
 have h2 : gW2.types.length = 2 := rfl
 have h3 : i = 0 ∨ i = 1 := by omega
 rcases h3 with rfl | rfl <;> (rw [nameOther, ByteArray.toList_eq, ByteArray.toList_eq]; decide)
theorem nW3 : (List.range gW2.types.length).all (nameOther gW2 1 (tdOf 66 (-1))) = true := by
 rw [List.all_eq_true]
 intro i hi
 have h1 := List.mem_range.1 hi
 have h2 : gW2.types.length = 2 := rfl
 have h3 : i = 0 ∨ i = 1 := by omega
 rcases h3 with rfl | rfl <;> (rw [nameOther, ByteArray.toList_eq, ByteArray.toList_eq]; decide)
theorem bW1 : belowP gW2 0 1 = true := by decide
theorem bW2 : belowP gW2 1 0 = false := by
 have h1 : (up gW2 1).flatMap (facesAt gW2) = [] := by decide
 have h2 : facesP gW2 1 = [] := by rw [facesP, h1]; simp [reachL, reachGo, sortL]
 rw [belowP, h2]; decide
theorem fW2 : Fm gW2 := ⟨by decide, by decide⟩
structure AllOk (g : Img) (k : Int) (td : TD) : Prop where
 flagged : ACall Tryz.prog 221 [tdPV td] (pb true)
 ext : ACall Tryz.prog 222 [imgPV g, pi k] (pb true)
 faced : ACall Tryz.prog 223 [imgPV g, pi k] (pb true)
 named : ACall Tryz.prog 224 [imgPV g, pi k] (pb true)
 sized : ACall Tryz.prog 225 [imgPV g, pi k] (pb true)
set_option maxHeartbeats 1000000 in
theorem CheckP_ok (g : Img) (hform : ACall Tryz.prog 220 [imgPV g] (pb true)) (hg : g.types.length ≤ 1000) (hall : ∀ (k : Nat) (h : k < g.types.length), AllOk g k g.types[k]) : ACall Tryz.prog 169 [imgPV g] (.tup [pi 0, pi 0]) := by
 refine acall_intro tbOK Tryz.func169 rfl (by kernel_rfl) Tryz.ntmps169 (by simp) _ rfl (fun hw gB hgB => ?_)
 repeat' (first | (refine shC ?_; first | refine qC hform ?_) | refine sA ?_ | refine sC (fun _ => ?_) (fun _ => ?_) | fail)
 refine aw_loop (fun k : Nat => [(1, .pv (.ptr (imgPV g) 0)), (10, .pv (pi g.types.length)), (11, .pv (pi k))]) (fun _ => []) (fun k => k ≤ g.types.length) (fun k => g.types.length - k) 0 (by omega) (tS) tH ?_
 rintro k hk
 by_cases hlt : k < g.types.length
 ·have he := map_get (f := tdPV) hlt
  obtain ⟨c1, c2, c3, c4, c5⟩ := hall k hlt
  repeat' (first | (refine shC ?_; first | refine qC c1 ?_ | refine qC c2 ?_ | refine qC c3 ?_ | refine qC c4 ?_ | refine qC c5 ?_) | (refine shX ?_; first | refine qX he ?_) | refine sK ?_ | refine sC (fun _ => ?_) (fun _ => ?_) | fail)
  exact ⟨k + 1, hlt, tD, tS, tH⟩
 ·repeat' (first | refine sK ?_ | refine sC (fun _ => ?_) (fun _ => ?_) | fail)
  exact retq rfl rfl
set_option maxHeartbeats 1000000 in
theorem CheckP_tree (g : Img) (hform : ACall Tryz.prog 220 [imgPV g] (pb true)) (hlt : 0 < g.types.length) (c1 : ACall Tryz.prog 221 [tdPV g.types[0]] (pb true)) (c2 : ACall Tryz.prog 222 [imgPV g, pi 0] (pb false)) : ACall Tryz.prog 169 [imgPV g] (.tup [pi 0, pi 7]) := by
 refine acall_intro tbOK Tryz.func169 rfl (by kernel_rfl) Tryz.ntmps169 (by simp) _ rfl (fun hw gB hgB => ?_)
 repeat' (first | (refine shC ?_; first | refine qC hform ?_) | refine sA ?_ | refine sC (fun _ => ?_) (fun _ => ?_) | fail)
 refine aw_loop (fun k : Nat => [(1, .pv (.ptr (imgPV g) 0)), (10, .pv (pi g.types.length)), (11, .pv (pi 0))]) (fun _ => []) (fun k => True) (fun k => 0) 0 trivial (tS) tH ?_
 rintro k -
 have he := map_get (f := tdPV) hlt
 repeat' (first | (refine shC ?_; first | refine qC c1 ?_ | refine qC c2 ?_) | (refine shX ?_; first | refine qX he ?_) | refine sK ?_ | refine sC (fun _ => ?_) (fun _ => ?_) | fail)
 all_goals exact retq rfl rfl
theorem CheckW1 : ACall Tryz.prog 169 [imgPV gW1] (.tup [pi 0, pi 7]) := by
 have c0 := FormedP0_call gW1 rfl rfl rfl
 rw [tW1] at c0
 have c1 := flaggedP_call (tdOf 65 1)
 rw [flW] at c1
 have c2 := extendsP_call gW1 0 (tdOf 65 1) rfl (by decide)
 rw [xW1] at c2
 exact CheckP_tree gW1 c0 (by decide) c1 c2
theorem CheckW2 : ACall Tryz.prog 169 [imgPV gW2] (.tup [pi 0, pi 0]) := by
 have c0 := FormedP0_call gW2 rfl rfl rfl
 rw [tW2] at c0
 refine CheckP_ok gW2 c0 (by decide) fun k hk => ?_
 have hk2 : k = 0 ∨ k = 1 := by have : gW2.types.length = 2 := rfl; omega
 rcases hk2 with rfl | rfl
 ·have c1 := flaggedP_call (tdOf 65 1)
  have c2 := extendsP_call gW2 0 (tdOf 65 1) rfl (by decide)
  have c3 := named0_call gW2 0 (tdOf 65 1) rfl (by decide) rfl rfl
  rw [flW] at c1
  rw [xW2] at c2
  rw [nW2] at c3
  exact ⟨c1, c2, faced0_call gW2 0 (tdOf 65 1) rfl rfl (by decide), c3, sized0_call gW2 0 (tdOf 65 1) rfl rfl (by decide)⟩
 ·have c1 := flaggedP_call (tdOf 66 (-1))
  have c2 := extendsP_call gW2 1 (tdOf 66 (-1)) rfl (by decide)
  have c3 := named0_call gW2 1 (tdOf 66 (-1)) rfl (by decide) rfl rfl
  rw [flW] at c1
  rw [xW3] at c2
  rw [nW3] at c3
  exact ⟨c1, c2, faced0_call gW2 1 (tdOf 66 (-1)) rfl rfl (by decide), c3, sized0_call gW2 1 (tdOf 66 (-1)) rfl rfl (by decide)⟩
abbrev wTD (n : UInt8) (e : Int) : PV := .agg [.base (.string ⟨#[n]⟩), pi 0, pi e, .base (.slice none 0 0)]
abbrev wImg (e : Int) : PV := .agg [.slc 4 [wTD 65 1, wTD 66 e] true, .base (.slice none 0 0), .base (.slice none 0 0), pi (-1)]
theorem wTD_tells (n : UInt8) (e : Int) : PTL (wTD n e).cells (tdPV (tdOf n e)).cells :=
 ptl_cons (.refl _) (ptl_cons (.refl _) (ptl_cons (.refl _) (ptl_cons (pt_nil 1 false) ptl_nil)))
theorem wImg_tells (e : Int) : PTells (wImg e) (imgPV ⟨[tdOf 65 1, tdOf 66 e], [], [], -1⟩) :=
 pt_agg (ptl_cons (pt_slc (pcl_cons (wTD_tells 65 1) (pcl_cons (wTD_tells 66 e) pcl_nil))) (ptl_cons (pt_nil 7 false) (ptl_cons (pt_nil 12 false) (ptl_cons (.refl _) ptl_nil))))
end Go.Cg
namespace Go.Cg
inductive Rch (step : Int → List Int) (l : List Int) : Int → Prop where
 | base (x : Int) : x ∈ l → Rch step l x
 | step (x y : Int) : Rch step l x → y ∈ step x → Rch step l y
theorem mem_addP {met : List Int} {x y : Int} : y ∈ addP met x ↔ y ∈ met ∨ y = x := by
 unfold addP
 split
 ·rename_i h
  constructor
  ·exact .inl
  ·rintro (h1 | rfl)
   ·exact h1
   ·exact h
 ·simp
theorem mem_fold {y : Int} : ∀ {l met : List Int}, y ∈ l.foldl addP met ↔ y ∈ met ∨ y ∈ l
 | [], met => by simp
 | x :: l, met => by
  rw [List.foldl_cons, mem_fold (l := l), mem_addP]
  simp only [List.mem_cons]
  constructor
  ·rintro ((h | h) | h)
   ·exact .inl h
   ·exact .inr (.inl h)
   ·exact .inr (.inr h)
  ·rintro (h | h | h)
   ·exact .inl (.inl h)
   ·exact .inl (.inr h)
   ·exact .inr h
theorem fold_pre : ∀ (l met : List Int), ∃ r, l.foldl addP met = met ++ r
 | [], met => ⟨[], by simp⟩
 | x :: l, met => by
  obtain ⟨r, hr⟩ := fold_pre l (addP met x)
  rw [List.foldl_cons, hr]
  unfold addP
  split
  ·exact ⟨r, rfl⟩
  ·exact ⟨x :: r, by simp⟩
theorem reachGo_spec {N : Nat} {step : Int → List Int} (hs : ∀ x : Int, 0 ≤ x → x < N → ∀ y ∈ step x, 0 ≤ y ∧ y < N) : ∀ (n i : Nat) (met : List Int), NInv N met → i ≤ met.length → N + 1 ≤ n + i →
  (∀ j (_h : j < i) (h2 : j < met.length), ∀ y ∈ step met[j], y ∈ met) →
  (∀ x ∈ met, x ∈ reachGo step n i met) ∧ (∀ u ∈ reachGo step n i met, ∀ y ∈ step u, y ∈ reachGo step n i met) ∧ (∀ x ∈ reachGo step n i met, Rch step met x) ∧ NInv N (reachGo step n i met)
 | 0, i, met, hm, hi, hn, hc => by
  have := hm.len; omega
 | n + 1, i, met, hm, hi, hn, hc => by
  rw [reachGo]
  by_cases hlt : i < met.length
  ·rw [List.getElem?_eq_getElem hlt]
   simp only
   obtain ⟨h0, h1⟩ := hm.2 _ (List.getElem_mem hlt)
   have hst := hs _ h0 h1
   have hm2 := NInv.fold _ hm hst
   obtain ⟨r, hr⟩ := fold_pre (step met[i]) met
   have hl : met.length ≤ ((step met[i]).foldl addP met).length := by rw [hr]; simp
   obtain ⟨q1, q2, q3, q4⟩ := reachGo_spec hs n (i + 1) ((step met[i]).foldl addP met) hm2 (by omega) (by omega) (by
    intro j hj hj2 y hy
    rw [mem_fold]
    have hjm : j < met.length := by omega
    have e : ((step met[i]).foldl addP met)[j] = met[j] := by simp only [hr]; rw [List.getElem_append_left hjm]
    rw [e] at hy
    by_cases hji : j = i
    ·subst hji; exact .inr hy
    ·exact .inl (hc j (by omega) hjm y hy))
   refine ⟨fun x hx => q1 x (mem_fold.2 (.inl hx)), q2, fun x hx => ?_, q4⟩
   have := q3 x hx
   clear q1 q2 q3 q4 hx
   induction this with
   | base x hx =>
    rcases mem_fold.1 hx with h | h
    ·exact .base x h
    ·exact .step _ x (.base _ (List.getElem_mem hlt)) h
   | step x y _ hy ih => exact .step x y ih hy
  ·rw [List.getElem?_eq_none (by omega)]
   simp only
   refine ⟨fun x hx => hx, fun u hu y hy => ?_, fun x hx => .base x hx, hm⟩
   obtain ⟨j, hj, rfl⟩ := List.getElem_of_mem hu
   exact hc j (by omega) hj y hy
theorem reachL_spec {N : Nat} {step : Int → List Int} {l : List Int} (hs : ∀ x : Int, 0 ≤ x → x < N → ∀ y ∈ step x, 0 ≤ y ∧ y < N) (hl : ∀ x ∈ l, 0 ≤ x ∧ x < N) : (∀ x, x ∈ reachL N step l ↔ Rch step l x) ∧ NInv N (reachL N step l) := by
 have hm : NInv N (l.foldl addP []) := NInv.fold l ⟨by simp, by simp⟩ hl
 obtain ⟨q1, q2, q3, q4⟩ := reachGo_spec hs (N + 1) 0 (l.foldl addP []) hm (by omega) (by omega) (fun j h => by omega)
 refine ⟨fun x => ⟨fun hx => ?_, fun hx => ?_⟩, q4⟩
 ·have := q3 x hx
  clear hx
  induction this with
  | base x hx => exact .base x (by simpa using mem_fold.1 hx)
  | step x y _ hy ih => exact .step x y ih hy
 ·induction hx with
  | base x hx => exact q1 x (mem_fold.2 (.inr hx))
  | step x y _ hy ih => exact q2 x ih y hy
def RF (g : Img) (t f : Int) : Prop := Rch (facesAt g) ((up g t).flatMap (facesAt g)) f
theorem flat_in {g : Img} (hF : Fm g) (t : Int) : ∀ x ∈ (up g t).flatMap (facesAt g), 0 ≤ x ∧ x < g.types.length := by
 intro x hx
 obtain ⟨u, _, h⟩ := List.mem_flatMap.1 hx
 exact (hF.at u).2 x h
theorem reachT {g : Img} (hF : Fm g) (t : Int) : (∀ x, x ∈ reachL g.types.length (facesAt g) ((up g t).flatMap (facesAt g)) ↔ Rch (facesAt g) ((up g t).flatMap (facesAt g)) x) ∧ NInv g.types.length (reachL g.types.length (facesAt g) ((up g t).flatMap (facesAt g))) := reachL_spec (N := g.types.length) (step := facesAt g) (l := (up g t).flatMap (facesAt g)) (fun x _ _ => (hF.at x).2) (flat_in hF t)
theorem mem_facesP {g : Img} (hF : Fm g) {t f : Int} : f ∈ facesP g t ↔ RF g t f := by
 rw [facesP, sortL_mem]; exact (reachT hF t).1 f
theorem addF_eq {g : Img} {met : List Int} {f : Int} (h : there g f = true) : addF g met f = addP met f := by
 unfold addF addP
 by_cases hm : f ∈ met
 ·simp [hm]
 ·simp [hm, h]
theorem foldF_eq {g : Img} : ∀ (l met : List Int), (∀ f ∈ l, there g f = true) → l.foldl (addF g) met = l.foldl addP met
 | [], met, _ => rfl
 | f :: l, met, h => by
  rw [List.foldl_cons, List.foldl_cons, addF_eq (h f (by simp))]
  exact foldF_eq l _ fun x hx => h x (by simp [hx])
theorem metStep_eq {g : Img} (hF : Fm g) (met : List Int) (u : Int) : metStep g met u = (facesAt g u).foldl addP met :=
 foldF_eq _ _ fun f hf => there_of ((hF.at u).2 f hf)
theorem steps_eq {g : Img} (hF : Fm g) : ∀ (us met : List Int), us.foldl (metStep g) met = (us.flatMap (facesAt g)).foldl addP met
 | [], met => rfl
 | u :: us, met => by rw [List.foldl_cons, metStep_eq hF, List.flatMap_cons, List.foldl_append]; exact steps_eq hF us _
theorem metGo_eq {g : Img} (hF : Fm g) : ∀ (n i : Nat) (met : List Int), metGo g n i met = reachGo (facesAt g) n i met
 | 0, _, _ => rfl
 | n + 1, i, met => by
  rw [metGo, reachGo]
  cases met[i]? with
  | none => rfl
  | some u => simp only; rw [metStep_eq hF]; exact metGo_eq hF n _ _
theorem met2_eq {g : Img} (hF : Fm g) (t : Int) : met2 g t = reachL g.types.length (facesAt g) ((up g t).flatMap (facesAt g)) := by
 rw [met2, metGo_eq hF, met1, steps_eq hF]; rfl
theorem mem_nums {n : Nat} {x : Int} : x ∈ nums n ↔ 0 ≤ x ∧ x < n := by
 simp only [nums, List.mem_map, List.mem_range]
 constructor
 ·rintro ⟨k, hk, rfl⟩; omega
 ·intro h; exact ⟨x.toNat, by omega, by omega⟩
theorem mem_facesR {g : Img} (hF : Fm g) {t f : Int} : f ∈ facesR g t ↔ RF g t f := by
 rw [facesR, List.mem_filter, met2_eq hF, mem_nums]
 simp only [decide_eq_true_eq]
 rw [(reachT hF t).1 f]
 exact ⟨fun h => h.2, fun h => ⟨(reachT hF t).2.2 f (((reachT hF t).1 f).2 h), h⟩⟩
structure Wl (g : Img) : Prop where
 fm : Fm g
 ext : ∀ t td, typeAt g t = some td → -1 ≤ td.ext ∧ td.ext < g.types.length
 flags : ∀ t td, typeAt g t = some td → 0 ≤ td.flags ∧ td.flags ≤ 31
 flag : ∀ t td, typeAt g t = some td → flaggedR td = true
 hang : ∀ t td, typeAt g t = some td → hangsR g t td = true
theorem well_wl {g : Img} (h : wellR g = true) : Wl g := by
 have hf := well_formed h
 have hb := (formedG_bounds hf).2.2.2
 have hck : ∀ j, j < g.types.length → checkAt g j = 0 := by
  intro j hj
  refine Classical.byContradiction fun hne => ?_
  have hex : ∃ k, k < g.types.length ∧ checkAt g k ≠ 0 ∧ ∀ i, i < k → checkAt g i = 0 := by
   induction j using Nat.strongRecOn with
   | _ j ih =>
    by_cases hmin : ∀ i, i < j → checkAt g i = 0
    ·exact ⟨j, hj, hne, hmin⟩
    ·rcases Classical.not_forall.1 hmin with ⟨i, hi⟩
     have hij : i < j := Classical.byContradiction fun h => hi (fun h' => (h h').elim)
     exact ih i hij (by omega) (fun e => hi fun _ => e)
  obtain ⟨k, hk, hk1, hk2⟩ := hex
  have := check_at hf hk hk2 hk1
  rw [wellR, this] at h
  simp at h; exact hk1 h
 have htd : ∀ t td, typeAt g t = some td → ∃ k : Nat, t = k ∧ ∃ h : k < g.types.length, g.types[k] = td := by
  intro t td ht
  have hlt := typeAt_lt ht
  refine ⟨t.toNat, by omega, by omega, ?_⟩
  have := typeAt_nat (g := g) (k := t.toNat) (by omega)
  rw [Int.toNat_of_nonneg hlt.1, ht] at this
  exact (Option.some.inj this).symm
 have hcases : ∀ t td, typeAt g t = some td → flaggedR td = true ∧ hangsR g t td = true := by
  intro t td ht
  obtain ⟨k, rfl, hk, rfl⟩ := htd t td ht
  have := hck k hk
  rw [checkAt_eq hk] at this
  cases h1 : flaggedR g.types[k] <;> cases h2 : hangsR g k g.types[k] <;> simp [h1, h2] at this ⊢
 refine ⟨fm_of hf, ?_, ?_, fun t td ht => (hcases t td ht).1, fun t td ht => (hcases t td ht).2⟩
 ·intro t td ht
  obtain ⟨_, _, h3, h4, _⟩ := formedT_facts (hb td (typeAt_mem ht)); exact ⟨h3, h4⟩
 ·intro t td ht
  obtain ⟨h1, h2, _⟩ := formedT_facts (hb td (typeAt_mem ht)); exact ⟨h1, h2⟩
def ChainFrom (g : Img) : Int → List Int → Prop
 | _, [] => True
 | t, x :: l => x = t ∧ ∃ td, typeAt g t = some td ∧ ChainFrom g td.ext l
theorem upGo_chain {g : Img} : ∀ (n : Nat) (t : Int) (out : List Int), ∃ l, upGo g n t out = out ++ l ∧ ChainFrom g t l
 | 0, t, out => ⟨[], by simp [upGo], trivial⟩
 | n + 1, t, out => by
  rw [upGo]
  cases ht : typeAt g t with
  | none => exact ⟨[], by simp, trivial⟩
  | some td =>
   by_cases hm : t ∈ out
   ·exact ⟨[], by simp [hm], trivial⟩
   ·obtain ⟨l, h1, h2⟩ := upGo_chain n td.ext (out ++ [t])
    exact ⟨t :: l, by simp only [hm, if_false]; rw [h1]; simp, rfl, td, ht, h2⟩
theorem up_chain (g : Img) (t : Int) : ChainFrom g t (up g t) := by
 obtain ⟨l, h1, h2⟩ := upGo_chain (g := g) (g.types.length + 1) t []
 rw [up, h1]; exact h2
def ch (g : Img) : Nat → Int → List Int
 | 0, _ => []
 | n + 1, t => match typeAt g t with | some td => t :: ch g n td.ext | none => []
def extAt (g : Img) (t : Int) : Int := match typeAt g t with | some td => td.ext | none => -1
theorem chain_end {g : Img} : ∀ (l : List Int) (t : Int), ChainFrom g t l → l ≠ [] → typeAt g (extAt g (l.getLastD 0)) = none → ∀ m, l.length ≤ m → ch g m t = l
 | [], t, _, hne, _, _, _ => (hne rfl).elim
 | x :: l, t, hc, _, he, m, hm => by
  obtain ⟨rfl, td, htd, hc'⟩ := hc
  obtain ⟨m, rfl⟩ : ∃ m', m = m' + 1 := ⟨m - 1, by simp at hm; omega⟩
  rw [ch, htd]
  simp only
  cases l with
  | nil =>
   simp only [List.getLastD_cons, List.getLastD_nil, extAt, htd] at he
   cases m with
   | zero => rfl
   | succ m => rw [ch, he]
  | cons y l =>
   rw [chain_end (y :: l) td.ext hc' (by simp) (by simpa [List.getLastD_cons] using he) m (by simp at hm ⊢; omega)]
theorem up_nil {g : Img} {t : Int} (h : typeAt g t = none) : up g t = [] := by rw [up, upGo, h]
theorem Wl.top {g : Img} (hW : Wl g) {t : Int} {td : TD} (ht : typeAt g t = some td) : typeAt g (extAt g ((up g t).getLastD 0)) = none := by
 obtain ⟨r, hr⟩ := up_head ht
 have hh := hW.hang t td ht
 simp only [hangsR, Bool.and_eq_true, extOk, Bool.or_eq_true, Bool.not_eq_true', decide_eq_false_iff_not, beq_iff_eq, decide_eq_true_eq] at hh
 obtain ⟨⟨h1, _⟩, _⟩ := hh
 have hneg : ∀ x : Int, x < 0 → typeAt g x = none := by
  intro x hx; rw [typeAt, if_neg (by omega)]
 by_cases hx : 0 ≤ td.ext
 ·rcases h1 with h1 | h1
  ·exact (h1 hx).elim
  ·have h3 : topExt g t < 0 := h1.2
   have : topExt g t = extAt g ((up g t).getLastD 0) := rfl
   rw [← this]
   exact hneg _ h3
 ·have hu : up g t = [t] := by
   rw [up, upGo, ht]
   simp only [List.not_mem_nil, if_false, List.nil_append]
   cases g.types.length with
   | zero => rfl
   | succ n => rw [upGo, hneg _ (by omega)]
  rw [hu]
  simp only [List.getLastD_cons, List.getLastD_nil, extAt, ht]
  exact hneg _ (by omega)
theorem Wl.up_eq {g : Img} (hW : Wl g) (t : Int) : up g t = ch g (g.types.length + 1) t := by
 cases ht : typeAt g t with
 | none => rw [up_nil ht, ch, ht]
 | some td =>
  obtain ⟨r, hr⟩ := up_head ht
  have hui := up_inv g t
  have hul := nodup_le _ _ hui.1 hui.2
  exact (chain_end _ t (up_chain g t) (by rw [hr]; simp) (hW.top ht) _ (by omega)).symm
theorem Wl.up_cons {g : Img} (hW : Wl g) {t : Int} {td : TD} (ht : typeAt g t = some td) : up g t = t :: up g td.ext := by
 obtain ⟨r, hr⟩ := up_head ht
 have hui := up_inv g t
 have hul := nodup_le _ _ hui.1 hui.2
 have h1 := chain_end _ t (up_chain g t) (by rw [hr]; simp) (hW.top ht) (g.types.length + 2) (by omega)
 rw [← h1, ch, ht, hW.up_eq]
theorem Wl.up_len {g : Img} (hW : Wl g) : ∀ (n : Nat) (a b : Int), (up g a).length ≤ n → b ∈ up g a → (∀ x ∈ up g b, x ∈ up g a) ∧ (b = a ∨ (up g b).length < (up g a).length)
 | 0, a, b, hn, hb => by
  have : up g a = [] := List.eq_nil_of_length_eq_zero (by omega)
  rw [this] at hb; simp at hb
 | n + 1, a, b, hn, hb => by
  cases ha : typeAt g a with
  | none => rw [up_nil ha] at hb; simp at hb
  | some td =>
   have e := hW.up_cons ha
   rw [e] at hb hn ⊢
   rcases List.mem_cons.1 hb with rfl | hb
   ·rw [e]; exact ⟨fun x hx => hx, .inl rfl⟩
   ·obtain ⟨h1, h2⟩ := hW.up_len n td.ext b (by simp at hn; omega) hb
    refine ⟨fun x hx => List.mem_cons_of_mem _ (h1 x hx), .inr ?_⟩
    rcases h2 with rfl | h2
    ·simp
    ·simp; omega
theorem Wl.up_trans {g : Img} (hW : Wl g) {a b c : Int} (h1 : b ∈ up g a) (h2 : c ∈ up g b) : c ∈ up g a := (hW.up_len _ a b (Nat.le_refl _) h1).1 c h2
theorem Wl.up_anti {g : Img} (hW : Wl g) {a b : Int} (h1 : b ∈ up g a) (h2 : a ∈ up g b) : a = b := by
 rcases (hW.up_len _ a b (Nat.le_refl _) h1).2 with h | h
 ·exact h.symm
 ·rcases (hW.up_len _ b a (Nat.le_refl _) h2).2 with h' | h'
  ·exact h'
  ·omega
theorem Wl.face_kind {g : Img} (hW : Wl g) {u f : Int} (h : f ∈ facesAt g u) : kindG g f = 2 := by
 unfold facesAt at h
 cases hu : typeAt g u with
 | none => rw [hu] at h; simp at h
 | some td =>
  rw [hu] at h
  simp only at h
  have hh := hW.hang u td hu
  simp only [hangsR, Bool.and_eq_true, List.all_eq_true, List.mem_range, faceOkR, beq_iff_eq] at hh
  obtain ⟨⟨_, h2⟩, _⟩ := hh
  obtain ⟨j, hj, rfl⟩ := List.getElem_of_mem h
  have := (h2 j hj).1
  rwa [getD_get hj] at this
theorem Wl.rf_kind {g : Img} (hW : Wl g) {t f : Int} (h : RF g t f) : kindG g f = 2 := by
 cases h with
 | base _ hx => obtain ⟨u, _, h⟩ := List.mem_flatMap.1 hx; exact hW.face_kind h
 | step x _ _ hy => exact hW.face_kind hy
theorem kindG_some {g : Img} {t k : Int} (h : kindG g t = k) (hk : 0 ≤ k) : ∃ td, typeAt g t = some td ∧ kindR td.flags = k := by
 unfold kindG at h
 cases ht : typeAt g t with
 | none => rw [ht] at h; simp at h; omega
 | some td => rw [ht] at h; exact ⟨td, rfl, h⟩
theorem Wl.face_up {g : Img} (hW : Wl g) {t : Int} (h : kindG g t = 2) : up g t = [t] := by
 obtain ⟨td, ht, hk⟩ := kindG_some h (by omega)
 have hfl := hW.flag t td ht
 have hext : td.ext = -1 := by
  simp [flaggedR, hk] at hfl
  exact hfl.1.1.1.1
 rw [hW.up_cons ht, hext, up_nil (by rw [typeAt, if_neg (by omega)])]
theorem Wl.face_not {g : Img} (hW : Wl g) {t : Int} (h : kindG g t = 2) : ¬ RF g t t := by
 obtain ⟨td, ht, hk⟩ := kindG_some h (by omega)
 have hh := hW.hang t td ht
 simp only [hangsR, Bool.and_eq_true, Bool.or_eq_true, bne_iff_ne, Bool.not_eq_true', decide_eq_false_iff_not, mem_facesR hW.fm] at hh
 rcases hh.2 with h2 | h2
 ·exact (h2 h).elim
 ·exact h2
theorem RF.up {g : Img} (hW : Wl g) {a b f : Int} (h : b ∈ up g a) (hf : RF g b f) : RF g a f := by
 induction hf with
 | base x hx =>
  obtain ⟨u, hu, hxu⟩ := List.mem_flatMap.1 hx
  exact .base x (List.mem_flatMap.2 ⟨u, hW.up_trans h hu, hxu⟩)
 | step x y _ hy ih => exact .step x y ih hy
theorem RF.trans {g : Img} (hW : Wl g) {a b f : Int} (h : RF g a b) (hf : RF g b f) : RF g a f := by
 have hu := hW.face_up (hW.rf_kind h)
 induction hf with
 | base x hx =>
  obtain ⟨u, hu', hxu⟩ := List.mem_flatMap.1 hx
  rw [hu] at hu'
  simp at hu'
  subst hu'
  exact .step _ x h hxu
 | step x y _ hy ih => exact .step x y ih hy
def Bl (g : Img) (a b : Int) : Prop := b ∈ up g a ∨ RF g a b
theorem belowP_iff {g : Img} (hF : Fm g) {a b : Int} : belowP g a b = true ↔ Bl g a b := by
 simp only [belowP, Bool.or_eq_true, decide_eq_true_eq, mem_facesP hF, Bl]
theorem Wl.trans {g : Img} (hW : Wl g) {a b c : Int} (h1 : Bl g a b) (h2 : Bl g b c) : Bl g a c := by
 rcases h1 with h1 | h1 <;> rcases h2 with h2 | h2
 ·exact .inl (hW.up_trans h1 h2)
 ·exact .inr (h2.up hW h1)
 ·rw [hW.face_up (hW.rf_kind h1)] at h2
  simp at h2; subst h2; exact .inr h1
 ·exact .inr (RF.trans hW h1 h2)
theorem Wl.anti {g : Img} (hW : Wl g) {a b : Int} (h1 : Bl g a b) (h2 : Bl g b a) : a = b := by
 rcases h1 with h1 | h1 <;> rcases h2 with h2 | h2
 ·exact hW.up_anti h1 h2
 ·rw [hW.face_up (hW.rf_kind h2)] at h1
  simp at h1; exact h1.symm
 ·rw [hW.face_up (hW.rf_kind h1)] at h2
  simp at h2; exact h2
 ·exact (hW.face_not (hW.rf_kind h2) (RF.trans hW h1 h2)).elim
theorem Wl.refl {g : Img} (hW : Wl g) {a : Int} {td : TD} (h : typeAt g a = some td) : Bl g a a := by
 rw [Bl, hW.up_cons h]; simp
end Go.Cg
