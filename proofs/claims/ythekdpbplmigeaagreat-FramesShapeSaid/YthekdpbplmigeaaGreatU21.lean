/- A part of the walks by abstract values: no statement of its own. -/
import Derived.Test.YthekdpbplmigeaaGreatU20
namespace Go.Cg
open Go.Proofs
theorem acall_tells2 {P : Program} {f : FuncId} {a a' b b' r : PV} (h : ACall P f [a, b] r) (ha : PTells a' a) (hb : PTells b' b) : ACall P f [a', b'] r :=
 ⟨h.stands, fun K w vs hl hv => by
  obtain ⟨u, us, rfl, h1, h2⟩ := PRels.cons_inv hv
  obtain ⟨v, us2, rfl, h3, h4⟩ := PRels.cons_inv h2
  obtain rfl := PRels.nil_inv h4
  exact h.calls K w _ hl (.cons (ha _ _ _ h1) (.cons (hb _ _ _ h3) .nil))⟩
set_option maxHeartbeats 1000000 in
theorem ShapeNo_call (g : Img) (hx : OkA g) (m : Int) (hno : ¬((check13 g).2 = 0 ∧ mOk g m)) : ACall Tryz.prog 46 [imgPV g, pi m] (.tup [.agg [nilS, nilS, pi 0], pi 17]) := by
 have c1 := CheckS_call g hx
 by_cases hc : (check13 g).2 = 0
 ·have hce : ((check13 g).2 != 0) = false := by rw [hc]; rfl
  by_cases h0 : m < 0
  ·have hd1 : decide (m < 0) = true := decide_eq_true h0
   refine acall_intro tbOK Tryz.func46 rfl (by kernel_rfl) Tryz.ntmps46 (by simp) _ rfl (fun hw gB hgB => ?_)
   repeat' (first | (refine shC ?_; first | refine qC c1 ?_) | refine sK ?_ | refine sC (fun _ => ?_) (fun _ => ?_) | fail)
   exact retq rfl rfl
  ·have hd1 : decide (m < 0) = false := decide_eq_false h0
   have hd2 : decide ((((g.methods.map mePV).length : Nat) : Int) ≤ m) = true := decide_eq_true (by rw [List.length_map]; have : ¬m.toNat < g.methods.length := fun h => hno ⟨hc, by omega, h⟩; omega)
   refine acall_intro tbOK Tryz.func46 rfl (by kernel_rfl) Tryz.ntmps46 (by simp) _ rfl (fun hw gB hgB => ?_)
   repeat' (first | (refine shC ?_; first | refine qC c1 ?_) | refine sK ?_ | refine sC (fun _ => ?_) (fun _ => ?_) | fail)
   exact retq rfl rfl
 ·have hce : ((check13 g).2 != 0) = true := by simpa using hc
  refine acall_intro tbOK Tryz.func46 rfl (by kernel_rfl) Tryz.ntmps46 (by simp) _ rfl (fun hw gB hgB => ?_)
  repeat' (first | (refine shC ?_; first | refine qC c1 ?_) | refine sK ?_ | refine sC (fun _ => ?_) (fun _ => ?_) | fail)
  exact retq rfl rfl
set_option maxHeartbeats 1000000 in
theorem WellR13_call (g : Img) : ACall Tryz.prog 47 [imgPV g] (pb ((check13 g).2 == 0)) := by
 refine acall_intro tbOK Tryz.func47 rfl (by kernel_rfl) Tryz.ntmps47 (by simp) _ rfl (fun hw gB hgB => ?_)
 repeat' (first | (refine shC ?_; first | refine qC (CheckR13_call g) ?_) | refine sK ?_ | refine sC (fun _ => ?_) (fun _ => ?_) | fail)
 exact retq rfl rfl
set_option maxHeartbeats 1000000 in
theorem SameShape_call (a b : List Int) (w : Int) : ACall Tryz.prog 48 [shPV a b w, shPV a b w] (pb true) := by
 have c1 := SameInts_call a a
 have c2 := SameInts_call b b
 rw [decide_eq_true rfl] at c1 c2
 have hw : (w == w) = true := by simp
 refine acall_intro tbOK Tryz.func48 rfl (by kernel_rfl) Tryz.ntmps48 (by simp) _ rfl (fun hw gB hgB => ?_)
 repeat' (first | (refine shC ?_; first | refine qC c1 ?_ | refine qC c2 ?_) | refine sK ?_ | refine sC (fun _ => ?_) (fun _ => ?_) | fail)
 exact retq rfl rfl
theorem z83_tells : PTells (.agg [nilS, nilS, pi 0]) (shPV [] [] 0) := pt_agg (ptl_cons (pt_nil 1 false) (ptl_cons (pt_nil 1 false) (ptl_cons (.refl _) ptl_nil)))
theorem stM_typed {g : Img} : ∀ {l : List Nat}, (stM g l).2 = 0 → ∀ i ∈ l, typedR g (mAt g (i : Int)) = true
 | [], _, i, hi => by cases hi
 | j :: l, h, i, hi => by
  rw [stM] at h
  split at h
  ·split at h
   ·rename_i ht
    rcases List.mem_cons.1 hi with rfl | hi
    ·exact ht
    ·exact stM_typed h i hi
   ·cases h
  ·cases h
theorem typed_of13 {g : Img} (h : (check13 g).2 = 0) {m : Int} (hm : mOk g m) : fineR g = true ∧ typedR g (mAt g m) = true := by
 unfold check13 at h
 split at h
 ·rename_i hf
  refine ⟨hf, ?_⟩
  have := stM_typed h m.toNat (by have := hm.2; simpa using this)
  rwa [show ((m.toNat : Nat) : Int) = m by have := hm.1; omega] at this
 ·cases h
set_option maxHeartbeats 4000000 in
theorem FramesShape_call (g : Img) (hx : OkA g) (m : Int) : ACall Tryz.prog 9 [imgPV g, pi m] (pb true) := by
 have c1 := Long_call g
 have c2 := WellR13_call g
 cases hl : longG g
 ·rw [hl] at c1
  by_cases hy : (check13 g).2 = 0 ∧ mOk g m
  ·obtain ⟨hc, hm⟩ := hy
   obtain ⟨hf, ht⟩ := typed_of13 hc hm
   have hF := fine_of hf
   have hOk := meOk_at hF.formed hm
   have hsm := hOk.small
   simp only [typedR, Bool.and_eq_true, List.all_eq_true] at ht
   have hul : ∀ t ∈ (mAt g m).locals, usedR g t = true := fun t h => ht.1.1.2 t h
   have hua : ∀ t ∈ argL g (mAt g m), usedR g t = true := by
    intro t h
    rw [argL, argsS, List.mem_append] at h
    rcases h with h | h
    ·split at h
     ·rename_i h2
      simp only [List.mem_singleton] at h
      subst h
      exact this_used hF.formed hOk _ h2
     ·cases h
    ·exact ht.1.1.1.2 t h
   have c3 := Shape_call g hx m hc hF hm hua hul
   have c4 := ShapeR_call g hF m hm hua hul
   have hb1 := shS_le g (argL g (mAt g m)) 0 fun t h => hF.used_le (hua t h)
   have hb2 := shS_le g (mAt g m).locals (shS g 0 (argL g (mAt g m))) fun t h => hF.used_le (hul t h)
   have hb3 : (argL g (mAt g m)).length ≤ 7 := by
    rw [argL, argsS, List.length_append]
    split <;> simp <;> omega
   generalize shO g 0 (argL g (mAt g m)) = A at c3 c4
   generalize shO g (shS g 0 (argL g (mAt g m))) (mAt g m).locals = B at c3 c4
   generalize shS g (shS g 0 (argL g (mAt g m))) (mAt g m).locals = W at c3 c4 hb2
   have c5 := SameShape_call A B W
   have hd1 : decide (m < 0) = false := decide_eq_false (by have := hm.1; omega)
   have hd2 : decide ((((g.methods.map mePV).length : Nat) : Int) ≤ m) = false := decide_eq_false (by rw [List.length_map]; have := hm.1; have := hm.2; omega)
   have hd3 : decide ((W : Int) ≤ 152) = true := decide_eq_true (by omega)
   rw [show ((check13 g).2 == 0) = true by rw [hc]; rfl] at c2
   refine acall_intro tbOK Tryz.func9 rfl (by kernel_rfl) Tryz.ntmps9 (by simp) _ rfl (fun hw gB hgB => ?_)
   repeat' (first | (refine shC ?_; first | refine qC wakes21_call ?_ | refine qC c1 ?_ | refine qC c2 ?_ | refine qC c3 ?_ | refine qC c4 ?_ | refine qC c5 ?_) | refine sK ?_ | refine sC (fun _ => ?_) (fun _ => ?_) | fail)
   exact retq rfl (by simp only [retPV, hd3])
  ·have c3 := ShapeNo_call g hx m hy
   have c5 := acall_tells2 (SameShape_call [] [] 0) z83_tells z83_tells
   by_cases hc : (check13 g).2 = 0
   ·rw [show ((check13 g).2 == 0) = true by rw [hc]; rfl] at c2
    by_cases h0 : m < 0
    ·have hd1 : decide (m < 0) = true := decide_eq_true h0
     refine acall_intro tbOK Tryz.func9 rfl (by kernel_rfl) Tryz.ntmps9 (by simp) _ rfl (fun hw gB hgB => ?_)
     repeat' (first | (refine shC ?_; first | refine qC wakes21_call ?_ | refine qC c1 ?_ | refine qC c2 ?_ | refine qC c3 ?_ | refine qC c5 ?_) | refine sK ?_ | refine sC (fun _ => ?_) (fun _ => ?_) | fail)
     exact retq rfl rfl
    ·have hd1 : decide (m < 0) = false := decide_eq_false h0
     have hd2 : decide ((((g.methods.map mePV).length : Nat) : Int) ≤ m) = true := decide_eq_true (by rw [List.length_map]; have : ¬m.toNat < g.methods.length := fun h => hy ⟨hc, by omega, h⟩; omega)
     refine acall_intro tbOK Tryz.func9 rfl (by kernel_rfl) Tryz.ntmps9 (by simp) _ rfl (fun hw gB hgB => ?_)
     repeat' (first | (refine shC ?_; first | refine qC wakes21_call ?_ | refine qC c1 ?_ | refine qC c2 ?_ | refine qC c3 ?_ | refine qC c5 ?_) | refine sK ?_ | refine sC (fun _ => ?_) (fun _ => ?_) | fail)
     exact retq rfl rfl
   ·rw [show ((check13 g).2 == 0) = false by simpa using hc] at c2
    refine acall_intro tbOK Tryz.func9 rfl (by kernel_rfl) Tryz.ntmps9 (by simp) _ rfl (fun hw gB hgB => ?_)
    repeat' (first | (refine shC ?_; first | refine qC wakes21_call ?_ | refine qC c1 ?_ | refine qC c2 ?_ | refine qC c3 ?_ | refine qC c5 ?_) | refine sK ?_ | refine sC (fun _ => ?_) (fun _ => ?_) | fail)
    exact retq rfl rfl
 ·rw [hl] at c1
  refine acall_intro tbOK Tryz.func9 rfl (by kernel_rfl) Tryz.ntmps9 (by simp) _ rfl (fun hw gB hgB => ?_)
  repeat' (first | (refine shC ?_; first | refine qC wakes21_call ?_ | refine qC c1 ?_) | refine sK ?_ | refine sC (fun _ => ?_) (fun _ => ?_) | fail)
  exact retq rfl rfl
end Go.Cg
