/- A part of the walks by abstract values: no statement of its own. -/
import Derived.Test.YthekdpbplmigeaaGreatU17
import Derived.Test.YthekdpbplmigeaaGreatU8
import Derived.Test.YthekdpbplmigeaaGreatU11
namespace Go.Cg
open Go.Proofs
def upT (t : Ty) : Ty := ⟨t.kind, t.index, IntKind.i64.wrap (t.dims + 1), t.ref⟩
def arrM (g : Img) (h w : Nat) (ws : List Int) (u : Nat) (t : Ty) (n : Int) : Giv :=
 if n < 0 ∨ 3 ≤ t.dims ∨ sizeG g t = 0 ∨ 4096 < n then (0, ws, u) else giveG h w ws u (upT t) [IntKind.u64.wrap n] (n.toNat * sizeG g t)
def boxM (g : Img) (h w : Nat) (ws : List Int) (u : Nat) (t : Ty) (l : List Int) : Giv :=
 if t.dims ≠ 0 ∨ ¬(t.kind = 2 ∨ t.kind = 3 ∨ t.kind = 6) ∨ sizeG g t = 0 ∨ sizeG g t ≠ l.length then (0, ws, u) else giveG h w ws u t l 0
theorem arr_no {g : Img} {h w u : Nat} {ws : List Int} {t : Ty} {n : Int} (hc : n < 0 ∨ 3 ≤ t.dims ∨ sizeG g t = 0 ∨ 4096 < n) : arrM g h w ws u t n = (0, ws, u) := by rw [arrM, if_pos hc]
theorem box_no {g : Img} {h w u : Nat} {ws : List Int} {t : Ty} {l : List Int} (hc : t.dims ≠ 0 ∨ ¬(t.kind = 2 ∨ t.kind = 3 ∨ t.kind = 6) ∨ sizeG g t = 0 ∨ sizeG g t ≠ l.length) : boxM g h w ws u t l = (0, ws, u) := by rw [boxM, if_pos hc]
set_option maxHeartbeats 4000000 in
theorem ArrayG_call {g : Img} {ws : List Int} {h w u : Nat} (hm : GM g ws h w u) (fa : Int) (t : Ty) (n : Int) (us : Nat → Value) :
  ACallM Tryz.prog 58 [.box 0 0, .pv (tyPV t), .pv (pi n)] (gR g ws fa h w u ++ pinB us [0]) (.pv (u64 (arrM g h w ws u t n).1)) (gR g (arrM g h w ws u t n).2.1 fa h w (arrM g h w ws u t n).2.2 ++ pinB us [0]) := by
 have hN := (formedG_bounds (fine_of hm.fine).formed).1
 have cS := fun us' => sizeM_call g hN ws fa (h : Int) ((h + w : Nat) : Int) (u : Int) t us'
 have hS8 := sizeG_le hm.fine t
 by_cases h0 : n < 0
 ·rw [arr_no (.inl h0)]
  have e0 : decide (n < 0) = true := decide_eq_true h0
  refine acallM_intro tbOK Tryz.func58 rfl (by kernel_rfl) Tryz.ntmps58 (by simp) _ rfl (fun gB hw1 => ?_)
  repeat' (first | refine ao_q rfl (q_isnil (b := false) rfl Tryz.underlying31 rfl rfl) rfl rfl ?_ | refine AD.step _ _ _ _ _ rfl (q_isnil (b := false) rfl Tryz.underlying31 rfl rfl) rfl rfl ?_ | (refine ao_sh_box ?_; first | refine ao_boxm 1 rfl rfl rfl rfl rfl rfl ?_) | refine sK ?_ | refine sC (fun _ => ?_) (fun _ => ?_) | fail)
  exact ⟨.inr rfl, .inl ⟨_, rfl, rfl, ⟨by repeat (first | exact hsub_nil | refine hsub_cons rfl ?_), rfl⟩⟩⟩
 ·have e0 : decide (n < 0) = false := decide_eq_false h0
  by_cases h3 : 3 ≤ t.dims
  ·rw [arr_no (.inr (.inl h3))]
   have e1 : decide (3 ≤ t.dims) = true := decide_eq_true h3
   refine acallM_intro tbOK Tryz.func58 rfl (by kernel_rfl) Tryz.ntmps58 (by simp) _ rfl (fun gB hw1 => ?_)
   repeat' (first | refine ao_q rfl (q_isnil (b := false) rfl Tryz.underlying31 rfl rfl) rfl rfl ?_ | refine AD.step _ _ _ _ _ rfl (q_isnil (b := false) rfl Tryz.underlying31 rfl rfl) rfl rfl ?_ | (refine ao_sh_box ?_; first | refine ao_boxm 1 rfl rfl rfl rfl rfl rfl ?_) | refine sK ?_ | refine sC (fun _ => ?_) (fun _ => ?_) | fail)
   exact ⟨.inr rfl, .inl ⟨_, rfl, rfl, ⟨by repeat (first | exact hsub_nil | refine hsub_cons rfl ?_), rfl⟩⟩⟩
  ·have e1 : decide (3 ≤ t.dims) = false := decide_eq_false h3
   by_cases hs : sizeG g t = 0
   ·rw [arr_no (.inr (.inr (.inl hs)))]
    rw [hs] at cS
    refine acallM_intro tbOK Tryz.func58 rfl (by kernel_rfl) Tryz.ntmps58 (by simp) _ rfl (fun gB hw1 => ?_)
    repeat' (first | refine ao_q rfl (q_isnil (b := false) rfl Tryz.underlying31 rfl rfl) rfl rfl ?_ | refine AD.step _ _ _ _ _ rfl (q_isnil (b := false) rfl Tryz.underlying31 rfl rfl) rfl rfl ?_ | (refine ao_sh_box ?_; first | refine ao_boxm 1 rfl rfl rfl rfl rfl rfl ?_) | (refine ao_sh_call ?_; first | (refine ao_callM (gR g ws fa h w u) (gR g ws fa h w u) [(1000, .pin (.own 0) (us 0)), (1, .cell (.pv (tyPV t)))] [(0, .box 0 0), (2, .pv (pi n)), (4, .box 1 0)] [0] noLoneH rfl rfl rfl ?_ tS rfl rfl rfl cS ?_; · (repeat (first | exact hsub_nil | refine hsub_cons rfl ?_)))) | refine sK ?_ | refine sC (fun _ => ?_) (fun _ => ?_) | fail)
    exact ⟨.inr rfl, .inl ⟨_, rfl, rfl, ⟨by repeat (first | exact hsub_nil | refine hsub_cons rfl ?_), rfl⟩⟩⟩
   ·have e2 : (((sizeG g t : Nat) : Int) == 0) = false := by simp; omega
    by_cases h4 : 4096 < n
    ·rw [arr_no (.inr (.inr (.inr h4)))]
     have e3 : decide (4096 < n) = true := decide_eq_true h4
     refine acallM_intro tbOK Tryz.func58 rfl (by kernel_rfl) Tryz.ntmps58 (by simp) _ rfl (fun gB hw1 => ?_)
     repeat' (first | refine ao_q rfl (q_isnil (b := false) rfl Tryz.underlying31 rfl rfl) rfl rfl ?_ | refine AD.step _ _ _ _ _ rfl (q_isnil (b := false) rfl Tryz.underlying31 rfl rfl) rfl rfl ?_ | (refine ao_sh_box ?_; first | refine ao_boxm 1 rfl rfl rfl rfl rfl rfl ?_) | (refine ao_sh_call ?_; first | (refine ao_callM (gR g ws fa h w u) (gR g ws fa h w u) [(1000, .pin (.own 0) (us 0)), (1, .cell (.pv (tyPV t)))] [(0, .box 0 0), (2, .pv (pi n)), (4, .box 1 0)] [0] noLoneH rfl rfl rfl ?_ tS rfl rfl rfl cS ?_; · (repeat (first | exact hsub_nil | refine hsub_cons rfl ?_)))) | refine sK ?_ | refine sC (fun _ => ?_) (fun _ => ?_) | fail)
     exact ⟨.inr rfl, .inl ⟨_, rfl, rfl, ⟨by repeat (first | exact hsub_nil | refine hsub_cons rfl ?_), rfl⟩⟩⟩
    ·have e3 : decide (4096 < n) = false := decide_eq_false h4
     rw [arrM, if_neg (by omega)]
     have hz : n.toNat * sizeG g t ≤ 1000000 := Nat.le_trans (Nat.mul_le_mul (show n.toNat ≤ 4096 by omega) hS8) (by decide)
     have hmul : IntKind.i64.wrap (n * ((sizeG g t : Nat) : Int)) = ((n.toNat * sizeG g t : Nat) : Int) := by
      have e : n * ((sizeG g t : Nat) : Int) = ((n.toNat * sizeG g t : Nat) : Int) := by
       rw [Int.natCast_mul, Int.toNat_of_nonneg (by omega)]
      rw [e, wrap_in (by omega) (by omega)]
     have cM := fun us' => giveG_call hm fa (n.toNat * sizeG g t) (upT t) [IntKind.u64.wrap n] true (by simp) hz us'
     rw [← hmul] at cM
     refine acallM_intro tbOK Tryz.func58 rfl (by kernel_rfl) Tryz.ntmps58 (by simp) _ rfl (fun gB hw1 => ?_)
     repeat' (first | refine ao_q rfl (q_isnil (b := false) rfl Tryz.underlying31 rfl rfl) rfl rfl ?_ | refine AD.step _ _ _ _ _ rfl (q_isnil (b := false) rfl Tryz.underlying31 rfl rfl) rfl rfl ?_ | refine ao_aggpv 33 [pi t.kind, pi t.index, pi (IntKind.i64.wrap (t.dims + 1)), pb t.ref] rfl rfl ?_ | (refine ao_sh_box ?_; first | refine ao_boxm 1 rfl rfl rfl rfl rfl rfl ?_) | (refine ao_sh_call ?_; first | (refine ao_callM (gR g ws fa h w u) (gR g ws fa h w u) [(1000, .pin (.own 0) (us 0)), (1, .cell (.pv (tyPV t)))] [(0, .box 0 0), (2, .pv (pi n)), (4, .box 1 0)] [0] noLoneH rfl rfl rfl ?_ tS rfl rfl rfl cS ?_; · (repeat (first | exact hsub_nil | refine hsub_cons rfl ?_))) | (refine ao_callM (gR g ws fa h w u) (gR g (giveG h w ws u (upT t) [IntKind.u64.wrap n] (n.toNat * sizeG g t)).2.1 fa h w (giveG h w ws u (upT t) [IntKind.u64.wrap n] (n.toNat * sizeG g t)).2.2) [(1000, .pin (.own 0) (us 0))] [] [0] noLoneH rfl rfl rfl ?_ tS rfl rfl rfl cM ?_; · (repeat (first | exact hsub_nil | refine hsub_cons rfl ?_)))) | refine sK ?_ | refine sC (fun _ => ?_) (fun _ => ?_) | fail)
     exact ⟨.inr rfl, .inl ⟨_, rfl, rfl, ⟨by repeat (first | exact hsub_nil | refine hsub_cons rfl ?_), rfl⟩⟩⟩
set_option maxHeartbeats 4000000 in
theorem BoxG_call {g : Img} {ws : List Int} {h w u : Nat} (hm : GM g ws h w u) (fa : Int) (t : Ty) (l : List Int) (hl : l.length ≤ 100) (us : Nat → Value) :
  ACallM Tryz.prog 68 [.box 0 0, .pv (tyPV t), .pv (lub l false)] (gR g ws fa h w u ++ pinB us [0]) (.pv (u64 (boxM g h w ws u t l).1)) (gR g (boxM g h w ws u t l).2.1 fa h w (boxM g h w ws u t l).2.2 ++ pinB us [0]) := by
 have hN := (formedG_bounds (fine_of hm.fine).formed).1
 have cS := fun us' => sizeM_call g hN ws fa (h : Int) ((h + w : Nat) : Int) (u : Int) t us'
 obtain ⟨k, i, d, r⟩ := t
 by_cases hd : d = 0
 ·subst hd
  by_cases hk : k = 2 ∨ k = 3 ∨ k = 6
  ·obtain ⟨S, hS⟩ : ∃ S, sizeG g ⟨k, i, 0, r⟩ = S := ⟨_, rfl⟩
   rw [hS] at cS
   by_cases h0 : S = 0
   ·rw [box_no (.inr (.inr (.inl (hS.trans h0))))]
    subst h0
    rcases hk with rfl | rfl | rfl
    ·refine acallM_intro tbOK Tryz.func68 rfl (by kernel_rfl) Tryz.ntmps68 (by simp) _ rfl (fun gB hw1 => ?_)
     repeat' (first | refine ao_q rfl (q_isnil (b := false) rfl Tryz.underlying31 rfl rfl) rfl rfl ?_ | refine AD.step _ _ _ _ _ rfl (q_isnil (b := false) rfl Tryz.underlying31 rfl rfl) rfl rfl ?_ | (refine ao_sh_box ?_; first | refine ao_boxm 1 rfl rfl rfl rfl rfl rfl ?_) | (refine ao_sh_call ?_; first | (refine ao_callM (gR g ws fa h w u) (gR g ws fa h w u) [(1000, .pin (.own 0) (us 0)), (1, .cell (.pv (tyPV ⟨2, i, 0, r⟩)))] [(0, .box 0 0), (2, .pv (lub l false)), (4, .box 1 0)] [0] noLoneH rfl rfl rfl ?_ tS rfl rfl rfl cS ?_; · (repeat (first | exact hsub_nil | refine hsub_cons rfl ?_)))) | refine sK ?_ | refine sC (fun _ => ?_) (fun _ => ?_) | fail)
     exact ⟨.inr rfl, .inl ⟨_, rfl, rfl, ⟨by repeat (first | exact hsub_nil | refine hsub_cons rfl ?_), rfl⟩⟩⟩
    ·refine acallM_intro tbOK Tryz.func68 rfl (by kernel_rfl) Tryz.ntmps68 (by simp) _ rfl (fun gB hw1 => ?_)
     repeat' (first | refine ao_q rfl (q_isnil (b := false) rfl Tryz.underlying31 rfl rfl) rfl rfl ?_ | refine AD.step _ _ _ _ _ rfl (q_isnil (b := false) rfl Tryz.underlying31 rfl rfl) rfl rfl ?_ | (refine ao_sh_box ?_; first | refine ao_boxm 1 rfl rfl rfl rfl rfl rfl ?_) | (refine ao_sh_call ?_; first | (refine ao_callM (gR g ws fa h w u) (gR g ws fa h w u) [(1000, .pin (.own 0) (us 0)), (1, .cell (.pv (tyPV ⟨3, i, 0, r⟩)))] [(0, .box 0 0), (2, .pv (lub l false)), (4, .box 1 0)] [0] noLoneH rfl rfl rfl ?_ tS rfl rfl rfl cS ?_; · (repeat (first | exact hsub_nil | refine hsub_cons rfl ?_)))) | refine sK ?_ | refine sC (fun _ => ?_) (fun _ => ?_) | fail)
     exact ⟨.inr rfl, .inl ⟨_, rfl, rfl, ⟨by repeat (first | exact hsub_nil | refine hsub_cons rfl ?_), rfl⟩⟩⟩
    ·refine acallM_intro tbOK Tryz.func68 rfl (by kernel_rfl) Tryz.ntmps68 (by simp) _ rfl (fun gB hw1 => ?_)
     repeat' (first | refine ao_q rfl (q_isnil (b := false) rfl Tryz.underlying31 rfl rfl) rfl rfl ?_ | refine AD.step _ _ _ _ _ rfl (q_isnil (b := false) rfl Tryz.underlying31 rfl rfl) rfl rfl ?_ | (refine ao_sh_box ?_; first | refine ao_boxm 1 rfl rfl rfl rfl rfl rfl ?_) | (refine ao_sh_call ?_; first | (refine ao_callM (gR g ws fa h w u) (gR g ws fa h w u) [(1000, .pin (.own 0) (us 0)), (1, .cell (.pv (tyPV ⟨6, i, 0, r⟩)))] [(0, .box 0 0), (2, .pv (lub l false)), (4, .box 1 0)] [0] noLoneH rfl rfl rfl ?_ tS rfl rfl rfl cS ?_; · (repeat (first | exact hsub_nil | refine hsub_cons rfl ?_)))) | refine sK ?_ | refine sC (fun _ => ?_) (fun _ => ?_) | fail)
     exact ⟨.inr rfl, .inl ⟨_, rfl, rfl, ⟨by repeat (first | exact hsub_nil | refine hsub_cons rfl ?_), rfl⟩⟩⟩
   ·have e2 : ((S : Int) == 0) = false := by simp; omega
    by_cases h1 : S = l.length
    ·have e3 : ((S : Int) != (((l.map u64).length : Nat) : Int)) = false := by rw [List.length_map, h1]; simp
     rw [boxM, if_neg (by rw [hS]; simp only; omega)]
     have cM := fun us' => giveG_call hm fa 0 ⟨k, i, 0, r⟩ l false hl (by omega) us'
     rcases hk with rfl | rfl | rfl
     ·refine acallM_intro tbOK Tryz.func68 rfl (by kernel_rfl) Tryz.ntmps68 (by simp) _ rfl (fun gB hw1 => ?_)
      repeat' (first | refine ao_q rfl (q_isnil (b := false) rfl Tryz.underlying31 rfl rfl) rfl rfl ?_ | refine AD.step _ _ _ _ _ rfl (q_isnil (b := false) rfl Tryz.underlying31 rfl rfl) rfl rfl ?_ | (refine ao_sh_box ?_; first | refine ao_boxm 1 rfl rfl rfl rfl rfl rfl ?_) | (refine ao_sh_call ?_; first | (refine ao_callM (gR g ws fa h w u) (gR g ws fa h w u) [(1000, .pin (.own 0) (us 0)), (1, .cell (.pv (tyPV ⟨2, i, 0, r⟩)))] [(0, .box 0 0), (2, .pv (lub l false)), (4, .box 1 0)] [0] noLoneH rfl rfl rfl ?_ tS rfl rfl rfl cS ?_; · (repeat (first | exact hsub_nil | refine hsub_cons rfl ?_))) | (refine ao_callM (gR g ws fa h w u) (gR g (giveG h w ws u ⟨2, i, 0, r⟩ l 0).2.1 fa h w (giveG h w ws u ⟨2, i, 0, r⟩ l 0).2.2) [(1000, .pin (.own 0) (us 0))] [] [0] noLoneH rfl rfl rfl ?_ tS rfl rfl rfl cM ?_; · (repeat (first | exact hsub_nil | refine hsub_cons rfl ?_)))) | refine sK ?_ | refine sC (fun _ => ?_) (fun _ => ?_) | fail)
      exact ⟨.inr rfl, .inl ⟨_, rfl, rfl, ⟨by repeat (first | exact hsub_nil | refine hsub_cons rfl ?_), rfl⟩⟩⟩
     ·refine acallM_intro tbOK Tryz.func68 rfl (by kernel_rfl) Tryz.ntmps68 (by simp) _ rfl (fun gB hw1 => ?_)
      repeat' (first | refine ao_q rfl (q_isnil (b := false) rfl Tryz.underlying31 rfl rfl) rfl rfl ?_ | refine AD.step _ _ _ _ _ rfl (q_isnil (b := false) rfl Tryz.underlying31 rfl rfl) rfl rfl ?_ | (refine ao_sh_box ?_; first | refine ao_boxm 1 rfl rfl rfl rfl rfl rfl ?_) | (refine ao_sh_call ?_; first | (refine ao_callM (gR g ws fa h w u) (gR g ws fa h w u) [(1000, .pin (.own 0) (us 0)), (1, .cell (.pv (tyPV ⟨3, i, 0, r⟩)))] [(0, .box 0 0), (2, .pv (lub l false)), (4, .box 1 0)] [0] noLoneH rfl rfl rfl ?_ tS rfl rfl rfl cS ?_; · (repeat (first | exact hsub_nil | refine hsub_cons rfl ?_))) | (refine ao_callM (gR g ws fa h w u) (gR g (giveG h w ws u ⟨3, i, 0, r⟩ l 0).2.1 fa h w (giveG h w ws u ⟨3, i, 0, r⟩ l 0).2.2) [(1000, .pin (.own 0) (us 0))] [] [0] noLoneH rfl rfl rfl ?_ tS rfl rfl rfl cM ?_; · (repeat (first | exact hsub_nil | refine hsub_cons rfl ?_)))) | refine sK ?_ | refine sC (fun _ => ?_) (fun _ => ?_) | fail)
      exact ⟨.inr rfl, .inl ⟨_, rfl, rfl, ⟨by repeat (first | exact hsub_nil | refine hsub_cons rfl ?_), rfl⟩⟩⟩
     ·refine acallM_intro tbOK Tryz.func68 rfl (by kernel_rfl) Tryz.ntmps68 (by simp) _ rfl (fun gB hw1 => ?_)
      repeat' (first | refine ao_q rfl (q_isnil (b := false) rfl Tryz.underlying31 rfl rfl) rfl rfl ?_ | refine AD.step _ _ _ _ _ rfl (q_isnil (b := false) rfl Tryz.underlying31 rfl rfl) rfl rfl ?_ | (refine ao_sh_box ?_; first | refine ao_boxm 1 rfl rfl rfl rfl rfl rfl ?_) | (refine ao_sh_call ?_; first | (refine ao_callM (gR g ws fa h w u) (gR g ws fa h w u) [(1000, .pin (.own 0) (us 0)), (1, .cell (.pv (tyPV ⟨6, i, 0, r⟩)))] [(0, .box 0 0), (2, .pv (lub l false)), (4, .box 1 0)] [0] noLoneH rfl rfl rfl ?_ tS rfl rfl rfl cS ?_; · (repeat (first | exact hsub_nil | refine hsub_cons rfl ?_))) | (refine ao_callM (gR g ws fa h w u) (gR g (giveG h w ws u ⟨6, i, 0, r⟩ l 0).2.1 fa h w (giveG h w ws u ⟨6, i, 0, r⟩ l 0).2.2) [(1000, .pin (.own 0) (us 0))] [] [0] noLoneH rfl rfl rfl ?_ tS rfl rfl rfl cM ?_; · (repeat (first | exact hsub_nil | refine hsub_cons rfl ?_)))) | refine sK ?_ | refine sC (fun _ => ?_) (fun _ => ?_) | fail)
      exact ⟨.inr rfl, .inl ⟨_, rfl, rfl, ⟨by repeat (first | exact hsub_nil | refine hsub_cons rfl ?_), rfl⟩⟩⟩
    ·have e3 : ((S : Int) != (((l.map u64).length : Nat) : Int)) = true := by rw [List.length_map]; simp; omega
     rw [box_no (.inr (.inr (.inr (by rw [hS]; exact h1))))]
     rcases hk with rfl | rfl | rfl
     ·refine acallM_intro tbOK Tryz.func68 rfl (by kernel_rfl) Tryz.ntmps68 (by simp) _ rfl (fun gB hw1 => ?_)
      repeat' (first | refine ao_q rfl (q_isnil (b := false) rfl Tryz.underlying31 rfl rfl) rfl rfl ?_ | refine AD.step _ _ _ _ _ rfl (q_isnil (b := false) rfl Tryz.underlying31 rfl rfl) rfl rfl ?_ | (refine ao_sh_box ?_; first | refine ao_boxm 1 rfl rfl rfl rfl rfl rfl ?_) | (refine ao_sh_call ?_; first | (refine ao_callM (gR g ws fa h w u) (gR g ws fa h w u) [(1000, .pin (.own 0) (us 0)), (1, .cell (.pv (tyPV ⟨2, i, 0, r⟩)))] [(0, .box 0 0), (2, .pv (lub l false)), (4, .box 1 0)] [0] noLoneH rfl rfl rfl ?_ tS rfl rfl rfl cS ?_; · (repeat (first | exact hsub_nil | refine hsub_cons rfl ?_)))) | refine sK ?_ | refine sC (fun _ => ?_) (fun _ => ?_) | fail)
      exact ⟨.inr rfl, .inl ⟨_, rfl, rfl, ⟨by repeat (first | exact hsub_nil | refine hsub_cons rfl ?_), rfl⟩⟩⟩
     ·refine acallM_intro tbOK Tryz.func68 rfl (by kernel_rfl) Tryz.ntmps68 (by simp) _ rfl (fun gB hw1 => ?_)
      repeat' (first | refine ao_q rfl (q_isnil (b := false) rfl Tryz.underlying31 rfl rfl) rfl rfl ?_ | refine AD.step _ _ _ _ _ rfl (q_isnil (b := false) rfl Tryz.underlying31 rfl rfl) rfl rfl ?_ | (refine ao_sh_box ?_; first | refine ao_boxm 1 rfl rfl rfl rfl rfl rfl ?_) | (refine ao_sh_call ?_; first | (refine ao_callM (gR g ws fa h w u) (gR g ws fa h w u) [(1000, .pin (.own 0) (us 0)), (1, .cell (.pv (tyPV ⟨3, i, 0, r⟩)))] [(0, .box 0 0), (2, .pv (lub l false)), (4, .box 1 0)] [0] noLoneH rfl rfl rfl ?_ tS rfl rfl rfl cS ?_; · (repeat (first | exact hsub_nil | refine hsub_cons rfl ?_)))) | refine sK ?_ | refine sC (fun _ => ?_) (fun _ => ?_) | fail)
      exact ⟨.inr rfl, .inl ⟨_, rfl, rfl, ⟨by repeat (first | exact hsub_nil | refine hsub_cons rfl ?_), rfl⟩⟩⟩
     ·refine acallM_intro tbOK Tryz.func68 rfl (by kernel_rfl) Tryz.ntmps68 (by simp) _ rfl (fun gB hw1 => ?_)
      repeat' (first | refine ao_q rfl (q_isnil (b := false) rfl Tryz.underlying31 rfl rfl) rfl rfl ?_ | refine AD.step _ _ _ _ _ rfl (q_isnil (b := false) rfl Tryz.underlying31 rfl rfl) rfl rfl ?_ | (refine ao_sh_box ?_; first | refine ao_boxm 1 rfl rfl rfl rfl rfl rfl ?_) | (refine ao_sh_call ?_; first | (refine ao_callM (gR g ws fa h w u) (gR g ws fa h w u) [(1000, .pin (.own 0) (us 0)), (1, .cell (.pv (tyPV ⟨6, i, 0, r⟩)))] [(0, .box 0 0), (2, .pv (lub l false)), (4, .box 1 0)] [0] noLoneH rfl rfl rfl ?_ tS rfl rfl rfl cS ?_; · (repeat (first | exact hsub_nil | refine hsub_cons rfl ?_)))) | refine sK ?_ | refine sC (fun _ => ?_) (fun _ => ?_) | fail)
      exact ⟨.inr rfl, .inl ⟨_, rfl, rfl, ⟨by repeat (first | exact hsub_nil | refine hsub_cons rfl ?_), rfl⟩⟩⟩
  ·rw [box_no (.inr (.inl hk))]
   have a2 : (k != 2) = true := by simp; omega
   have a3 : (k != 3) = true := by simp; omega
   have a6 : (k != 6) = true := by simp; omega
   refine acallM_intro tbOK Tryz.func68 rfl (by kernel_rfl) Tryz.ntmps68 (by simp) _ rfl (fun gB hw1 => ?_)
   repeat' (first | refine ao_q rfl (q_isnil (b := false) rfl Tryz.underlying31 rfl rfl) rfl rfl ?_ | refine AD.step _ _ _ _ _ rfl (q_isnil (b := false) rfl Tryz.underlying31 rfl rfl) rfl rfl ?_ | (refine ao_sh_box ?_; first | refine ao_boxm 1 rfl rfl rfl rfl rfl rfl ?_) | refine sK ?_ | refine sC (fun _ => ?_) (fun _ => ?_) | fail)
   exact ⟨.inr rfl, .inl ⟨_, rfl, rfl, ⟨by repeat (first | exact hsub_nil | refine hsub_cons rfl ?_), rfl⟩⟩⟩
 ·rw [box_no (.inl hd)]
  have e : (d != 0) = true := by simp [hd]
  refine acallM_intro tbOK Tryz.func68 rfl (by kernel_rfl) Tryz.ntmps68 (by simp) _ rfl (fun gB hw1 => ?_)
  repeat' (first | refine ao_q rfl (q_isnil (b := false) rfl Tryz.underlying31 rfl rfl) rfl rfl ?_ | refine AD.step _ _ _ _ _ rfl (q_isnil (b := false) rfl Tryz.underlying31 rfl rfl) rfl rfl ?_ | (refine ao_sh_box ?_; first | refine ao_boxm 1 rfl rfl rfl rfl rfl rfl ?_) | refine sK ?_ | refine sC (fun _ => ?_) (fun _ => ?_) | fail)
  exact ⟨.inr rfl, .inl ⟨_, rfl, rfl, ⟨by repeat (first | exact hsub_nil | refine hsub_cons rfl ?_), rfl⟩⟩⟩
end Go.Cg
namespace Go.Cg
open Go.Proofs
theorem and_mask4 (a : Int) : (BitVec.ofInt 64 a &&& BitVec.ofInt 64 ((2 ^ 4 - 1 : Nat) : Int)).toNat = (a % 16).toNat := by
 rw [BitVec.toNat_and, BitVec.toNat_ofInt, BitVec.toNat_ofInt, show ((((2 ^ 4 - 1 : Nat) : Int) % ((2 ^ 64 : Nat) : Int)).toNat) = 2 ^ 4 - 1 from rfl, Nat.and_two_pow_sub_one_eq_mod]
 omega
theorem and_mask10 (a : Int) : (BitVec.ofInt 64 a &&& BitVec.ofInt 64 ((2 ^ 10 - 1 : Nat) : Int)).toNat = (a % 1024).toNat := by
 rw [BitVec.toNat_and, BitVec.toNat_ofInt, BitVec.toNat_ofInt, show ((((2 ^ 10 - 1 : Nat) : Int) % ((2 ^ 64 : Nat) : Int)).toNat) = 2 ^ 10 - 1 from rfl, Nat.and_two_pow_sub_one_eq_mod]
 omega
theorem and15 (k : IntKind) (hk : k = .i64 ∨ k = .u64) (a : Int) : andU k a 15 = a % 16 := by
 have h := and_mask4 a
 rcases hk with rfl | rfl
 ·rw [andU]; show IntKind.i64.wrap (((BitVec.ofInt 64 a &&& BitVec.ofInt 64 15).toNat : Nat) : Int) = _
  rw [show (15 : Int) = ((2 ^ 4 - 1 : Nat) : Int) from rfl, h, wrap_in (by omega) (by omega)]; omega
 ·rw [andU]; show IntKind.u64.wrap (((BitVec.ofInt 64 a &&& BitVec.ofInt 64 15).toNat : Nat) : Int) = _
  rw [show (15 : Int) = ((2 ^ 4 - 1 : Nat) : Int) from rfl, h, wrapU_in (by omega) (by omega)]; omega
theorem and1023 (k : IntKind) (hk : k = .i64 ∨ k = .u64) (a : Int) : andU k a 1023 = a % 1024 := by
 have h := and_mask10 a
 rcases hk with rfl | rfl
 ·rw [andU]; show IntKind.i64.wrap (((BitVec.ofInt 64 a &&& BitVec.ofInt 64 1023).toNat : Nat) : Int) = _
  rw [show (1023 : Int) = ((2 ^ 10 - 1 : Nat) : Int) from rfl, h, wrap_in (by omega) (by omega)]; omega
 ·rw [andU]; show IntKind.u64.wrap (((BitVec.ofInt 64 a &&& BitVec.ofInt 64 1023).toNat : Nat) : Int) = _
  rw [show (1023 : Int) = ((2 ^ 10 - 1 : Nat) : Int) from rfl, h, wrapU_in (by omega) (by omega)]; omega
theorem or_add (a b : Nat) (i : Nat) (ha : a < 2 ^ i) (hs : 2 ^ i * b + a < 2 ^ 64) : orU (a : Int) ((2 ^ i * b : Nat) : Int) = ((2 ^ i * b + a : Nat) : Int) := by
 rw [orU]
 show IntKind.u64.wrap (((BitVec.ofInt 64 (a : Int) ||| BitVec.ofInt 64 ((2 ^ i * b : Nat) : Int)).toNat : Nat) : Int) = _
 rw [BitVec.toNat_or, BitVec.toNat_ofInt, BitVec.toNat_ofInt, ← Int.natCast_emod, ← Int.natCast_emod, Int.toNat_natCast, Int.toNat_natCast, Nat.mod_eq_of_lt (by omega), Nat.mod_eq_of_lt (by omega), Nat.or_comm, ← Nat.two_pow_add_eq_or_of_lt ha]
 have : (2 : Nat) ^ 64 = 18446744073709551616 := by decide
 rw [wrapU_in (by omega) (by omega)]
theorem headP_eq (t : Ty) : headP t = t.kind % 16 + 16 * (t.index % 1024) + 16384 * (t.dims % 16) := by
 rw [headP, and15 .i64 (.inl rfl), and1023 .i64 (.inl rfl), and15 .i64 (.inl rfl)]
 have p4 : (2 : Int) ^ (min (4 : Int).toNat IntKind.u64.bits) = 16 := by decide
 have p14 : (2 : Int) ^ (min (14 : Int).toNat IntKind.u64.bits) = 16384 := by decide
 rw [p4, p14, wrapU_in (a := t.kind % 16) (by omega) (by omega), wrapU_in (a := t.index % 1024) (by omega) (by omega), wrapU_in (a := t.dims % 16) (by omega) (by omega), wrapU_in (a := t.index % 1024 * 16) (by omega) (by omega), wrapU_in (a := t.dims % 16 * 16384) (by omega) (by omega)]
 obtain ⟨K, hK, hK1⟩ : ∃ K : Nat, t.kind % 16 = (K : Int) ∧ K < 16 := ⟨(t.kind % 16).toNat, by omega, by omega⟩
 obtain ⟨I, hI, hI1⟩ : ∃ K : Nat, t.index % 1024 = (K : Int) ∧ K < 1024 := ⟨(t.index % 1024).toNat, by omega, by omega⟩
 obtain ⟨D, hD, hD1⟩ : ∃ K : Nat, t.dims % 16 = (K : Int) ∧ K < 16 := ⟨(t.dims % 16).toNat, by omega, by omega⟩
 rw [hK, hI, hD, show (I : Int) * 16 = ((2 ^ 4 * I : Nat) : Int) by omega, show (D : Int) * 16384 = ((2 ^ 14 * D : Nat) : Int) by omega, or_add K I 4 (by omega) (by omega), or_add (2 ^ 4 * I + K) D 14 (by omega) (by omega)]
 omega
theorem fdiv_shift {h : Int} (c : Nat) (_h0 : 0 ≤ h) : h.fdiv (c : Int) = h / (c : Int) := by rw [Int.fdiv_eq_ediv_of_nonneg _ (by omega)]
theorem typeP_eq {h : Int} (h0 : 0 ≤ h) : typeP h = ⟨h % 16, h / 16 % 1024, h / 16384 % 16, false⟩ := by
 have p4 : (2 : Int) ^ (min (4 : Int).toNat IntKind.u64.bits) = ((16 : Nat) : Int) := by decide
 have p14 : (2 : Int) ^ (min (14 : Int).toNat IntKind.u64.bits) = ((16384 : Nat) : Int) := by decide
 rw [typeP, p4, p14, fdiv_shift 16 h0, fdiv_shift 16384 h0, and15 .u64 (.inr rfl), and1023 .u64 (.inr rfl), and15 .u64 (.inr rfl), wrap_in (by omega) (by omega), wrap_in (by omega) (by omega), wrap_in (by omega) (by omega)]
 rfl
theorem type_head {x : Ty} (h : ∃ h, 0 ≤ h ∧ x = typeP h) : typeP (headP x) = x := by
 obtain ⟨h, h0, rfl⟩ := h
 have e := typeP_eq h0
 have e1 : (typeP h).kind = h % 16 := by rw [e]
 have e2 : (typeP h).index = h / 16 % 1024 := by rw [e]
 have e3 : (typeP h).dims = h / 16384 % 16 := by rw [e]
 have h1 := headP_eq (typeP h)
 rw [e1, e2, e3] at h1
 rw [typeP_eq (h := headP (typeP h)) (by omega), h1]
 rw [e]
 congr 1 <;> omega
set_option maxHeartbeats 1000000 in
theorem cut_call (n b : Int) (hb : b = 16 ∨ b = 1024) (h0 : -9223372036854775808 ≤ n) (h1 : n ≤ 9223372036854775807) : ACall Tryz.prog 125 [pi n, pi b] (u64 (n % b)) := by
 have hb0 : b ≠ 0 := by omega
 have key : (0 ≤ n ∧ n.tmod b = n % b) ∨ (n < 0 ∧ n.tmod b = -((-n) % b)) := by
  by_cases hn : 0 ≤ n
  ·exact .inl ⟨hn, Int.tmod_eq_emod_of_nonneg hn⟩
  ·exact .inr ⟨by omega, by rw [← Int.tmod_eq_emod_of_nonneg (show 0 ≤ -n by omega), Int.neg_tmod, Int.neg_neg]⟩
 have hlo : 0 ≤ n % b := Int.emod_nonneg _ hb0
 have hhi : n % b < b := Int.emod_lt_of_pos _ (by omega)
 obtain ⟨x, hx⟩ : ∃ x, n.tmod b = x := ⟨_, rfl⟩
 by_cases hneg : x < 0
 ·refine acall_intro tbOK Tryz.func125 rfl (by kernel_rfl) Tryz.ntmps125 (by simp) _ rfl (fun hw gB hgB => ?_)
  repeat' (first | refine ao_q rfl (q_rem x tbOK rfl rfl rfl hb0 hx) rfl rfl ?_ | refine sK ?_ | refine sC (fun _ => ?_) (fun _ => ?_) | fail)
  refine retq rfl ?_
  simp only [retPV]
  have : x = n % b - b := by rw [hx] at key; rcases hb with rfl | rfl <;> omega
  rw [wrap_in (by omega) (by omega), wrapU_in (by omega) (by omega), this]
  congr 2; omega
 ·refine acall_intro tbOK Tryz.func125 rfl (by kernel_rfl) Tryz.ntmps125 (by simp) _ rfl (fun hw gB hgB => ?_)
  repeat' (first | refine ao_q rfl (q_rem x tbOK rfl rfl rfl hb0 hx) rfl rfl ?_ | refine sK ?_ | refine sC (fun _ => ?_) (fun _ => ?_) | fail)
  refine retq rfl ?_
  simp only [retPV]
  have : x = n % b := by rw [hx] at key; rcases hb with rfl | rfl <;> omega
  rw [wrapU_in (by omega) (by omega), this]
def okT (t : Ty) : Prop := (-9223372036854775808 ≤ t.kind ∧ t.kind ≤ 9223372036854775807) ∧ (-9223372036854775808 ≤ t.index ∧ t.index ≤ 9223372036854775807) ∧ (-9223372036854775808 ≤ t.dims ∧ t.dims ≤ 9223372036854775807)
set_option maxHeartbeats 1000000 in
theorem HeadR_call (t : Ty) (h : okT t) : ACall Tryz.prog 76 [tyPV t] (u64 (headP t)) := by
 have c1 := cut_call t.kind 16 (.inl rfl) h.1.1 h.1.2
 have c2 := cut_call t.index 1024 (.inr rfl) h.2.1.1 h.2.1.2
 have c3 := cut_call t.dims 16 (.inl rfl) h.2.2.1 h.2.2.2
 refine acall_intro tbOK Tryz.func76 rfl (by kernel_rfl) Tryz.ntmps76 (by simp) _ rfl (fun hw gB hgB => ?_)
 repeat' (first | (refine shC ?_; first | refine qC c1 ?_ | refine qC c2 ?_ | refine qC c3 ?_) | refine sA ?_ | refine sC (fun _ => ?_) (fun _ => ?_) | fail)
 refine retq rfl ?_
 simp only [retPV]
 rw [headP_eq, wrapU_in (a := 16 * (t.index % 1024)) (by omega) (by omega), wrapU_in (a := t.kind % 16 + 16 * (t.index % 1024)) (by omega) (by omega), wrapU_in (a := 16384 * (t.dims % 16)) (by omega) (by omega), wrapU_in (by omega) (by omega)]
set_option maxHeartbeats 1000000 in
theorem TypeR_call (h : Int) (h0 : 0 ≤ h) (h1 : h ≤ 18446744073709551615) : ACall Tryz.prog 85 [u64 h] (tyPV (typeP h)) := by
 rw [typeP_eq h0]
 refine acall_intro tbOK Tryz.func85 rfl (by kernel_rfl) Tryz.ntmps85 (by simp) _ rfl (fun hw gB hgB => ?_)
 repeat' (first | refine sA ?_ | refine sC (fun _ => ?_) (fun _ => ?_) | fail)
 refine retq rfl ?_
 have e1 : h.tmod 16 = h % 16 := by rw [Int.tmod_eq_emod_of_nonneg h0]
 have e2 : h.tdiv 16 = h / 16 := by rw [Int.tdiv_eq_ediv_of_nonneg h0]
 have e3 : h.tdiv 16384 = h / 16384 := by rw [Int.tdiv_eq_ediv_of_nonneg h0]
 have e4 : IntKind.i64.wrap (h.tmod 16) = h % 16 := by rw [e1, wrap_in (by omega) (by omega)]
 have e5 : IntKind.i64.wrap ((IntKind.u64.wrap (h.tdiv 16)).tmod 1024) = h / 16 % 1024 := by
  rw [e2, wrapU_in (by omega) (by omega), Int.tmod_eq_emod_of_nonneg (by omega), wrap_in (by omega) (by omega)]
 have e6 : IntKind.i64.wrap ((IntKind.u64.wrap (h.tdiv 16384)).tmod 16) = h / 16384 % 16 := by
  rw [e3, wrapU_in (by omega) (by omega), Int.tmod_eq_emod_of_nonneg (by omega), wrap_in (by omega) (by omega)]
 show PV.agg [pi (IntKind.i64.wrap (h.tmod 16)), pi (IntKind.i64.wrap ((IntKind.u64.wrap (h.tdiv 16)).tmod 1024)), pi (IntKind.i64.wrap ((IntKind.u64.wrap (h.tdiv 16384)).tmod 16)), pb false] = tyPV _
 rw [e4, e5, e6]; rfl
end Go.Cg
namespace Go.Cg
open Go.Proofs
def longA (l : List Ac) : Bool := decide ((40 : Int) < l.length) || l.any fun c => decide ((20 : Int) < c.l.length)
theorem ac_len {l : List Ac} (h : (acts l).lenOk) : l.length ≤ 9223372036854775807 := by
 simp [acts, PV.lenOk, maxLen] at h; exact h.1
set_option maxHeartbeats 1000000 in
theorem long20_call (l : List Ac) : ACall Tryz.prog 15 [acts l] (pb (longA l)) := by
 refine acall_intro tbOK Tryz.func15 rfl (by kernel_rfl) Tryz.ntmps15 (by simp) _ rfl (fun hw gB hgB => ?_)
 have hl := ac_len hw.1
 by_cases h40 : (40 : Int) < l.length
 ·have hd : decide ((40 : Int) < (((l.map acPV).length : Nat) : Int)) = true := decide_eq_true (by rw [List.length_map]; exact h40)
  repeat' (first | refine sK ?_ | refine sC (fun _ => ?_) (fun _ => ?_) | fail)
  exact retq rfl (by rw [longA, decide_eq_true h40]; rfl)
 ·have hd : decide ((40 : Int) < (((l.map acPV).length : Nat) : Int)) = false := decide_eq_false (by rw [List.length_map]; exact h40)
  have hr0 : longA l = (l.drop 0).any fun c => decide ((20 : Int) < c.l.length) := by rw [longA, decide_eq_false h40]; rfl
  repeat' (first | refine sK ?_ | refine sC (fun _ => ?_) (fun _ => ?_) | fail)
  refine aw_loop (fun k : Nat => [(0, .pv (acts l)), (8, .pv (pi l.length)), (9, .pv (pi k))]) (fun _ => []) (fun k => k ≤ l.length ∧ longA l = (l.drop k).any fun c => decide ((20 : Int) < c.l.length)) (fun k => l.length - k) 0 ⟨by omega, hr0⟩ (by repeat (first | exact sub_nil | refine sub_cons rfl ?_ | (refine sub_i rfl ?_ ?_; · simp))) tH ?_
  rintro k ⟨hk, hr⟩
  by_cases hlt : k < l.length
  ·have he := map_get (f := acPV) hlt
   rw [drop_any hlt] at hr
   cases hb : decide ((20 : Int) < l[k].l.length)
   ·have hb' : decide ((20 : Int) < (((l[k].l.map u64).length : Nat) : Int)) = false := by rw [List.length_map]; exact hb
    rw [hb] at hr
    repeat' (first | (refine shX ?_; first | refine qX he ?_) | refine sK ?_ | refine sC (fun _ => ?_) (fun _ => ?_) | fail)
    exact ⟨k + 1, ⟨hlt, hr⟩, tD, tS, tH⟩
   ·have hb' : decide ((20 : Int) < (((l[k].l.map u64).length : Nat) : Int)) = true := by rw [List.length_map]; exact hb
    rw [hb] at hr
    repeat' (first | (refine shX ?_; first | refine qX he ?_) | refine sK ?_ | refine sC (fun _ => ?_) (fun _ => ?_) | fail)
    exact retq rfl (by rw [hr]; rfl)
  ·rw [drop_end (by omega)] at hr
   repeat' (first | refine sK ?_ | refine sC (fun _ => ?_) (fun _ => ?_) | fail)
   exact retq rfl (by rw [hr]; rfl)
theorem rem_in {n m : Int} (hm : 0 < m) (h0 : 0 ≤ n) : 0 ≤ n.tmod m ∧ n.tmod m < m := by
 rw [Int.tmod_eq_emod_of_nonneg h0]; exact ⟨Int.emod_nonneg _ (by omega), Int.emod_lt_of_pos _ hm⟩
theorem rem5000 (n : Int) : -5000 < n.tmod 5000 ∧ n.tmod 5000 < 5000 := by
 by_cases hn : 0 ≤ n
 ·have := rem_in (m := 5000) (by decide) hn; omega
 ·have h : n.tmod 5000 = -((-n) % 5000) := by rw [← Int.tmod_eq_emod_of_nonneg (show 0 ≤ -n by omega), Int.neg_tmod, Int.neg_neg]
  omega
end Go.Cg
namespace Go.Cg
open Go.Proofs
def doM (g : Img) (h w : Nat) (ws : List Int) (u : Nat) (c : Ac) : Giv :=
 if c.kind = 0 then objM g h w ws u c.t.index else if c.kind = 1 then arrM g h w ws u c.t c.n else if c.kind = 2 then boxM g h w ws u c.t c.l else delM g h w ws u c.t.index c.a c.n
set_option maxHeartbeats 4000000 in
theorem do03_call {g : Img} {ws : List Int} {h w u : Nat} (hm : GM g ws h w u) (fa : Int) (c : Ac) (h0 : 0 ≤ c.kind) (h3 : c.kind ≤ 3) (hl : c.l.length ≤ 100) (us : Nat → Value) :
  ACallM Tryz.prog 20 [.box 0 0, .pv (acPV c)] (gR g ws fa h w u ++ pinB us [0]) (.pv (u64 (doM g h w ws u c).1)) (gR g (doM g h w ws u c).2.1 fa h w (doM g h w ws u c).2.2 ++ pinB us [0]) := by
 obtain ⟨k, n, t, a, x, l⟩ := c
 simp only at h0 h3 hl
 have hk : k = 0 ∨ k = 1 ∨ k = 2 ∨ k = 3 := by omega
 rcases hk with rfl | rfl | rfl | rfl
 ·have e : doM g h w ws u ⟨0, n, t, a, x, l⟩ = objM g h w ws u t.index := rfl
  rw [e]
  have cM := fun us' => ObjectG_call hm fa t.index us'
  refine acallM_intro tbOK Tryz.func20 rfl (by kernel_rfl) Tryz.ntmps20 (by simp) _ rfl (fun gB hw1 => ?_)
  repeat' (first | (refine ao_sh_call ?_; first | (refine ao_callM (gR g ws fa h w u) (gR g (objM g h w ws u t.index).2.1 fa h w (objM g h w ws u t.index).2.2) [(1000, .pin (.own 0) (us 0))] [] [0] noLoneH rfl rfl rfl ?_ tS rfl rfl rfl cM ?_; · (repeat (first | exact hsub_nil | refine hsub_cons rfl ?_)))) | refine sK ?_ | refine sC (fun _ => ?_) (fun _ => ?_) | fail)
  exact ⟨.inr rfl, .inl ⟨_, rfl, rfl, ⟨by repeat (first | exact hsub_nil | refine hsub_cons rfl ?_), rfl⟩⟩⟩
 ·have e : doM g h w ws u ⟨1, n, t, a, x, l⟩ = arrM g h w ws u t n := rfl
  rw [e]
  have cM := fun us' => ArrayG_call hm fa t n us'
  refine acallM_intro tbOK Tryz.func20 rfl (by kernel_rfl) Tryz.ntmps20 (by simp) _ rfl (fun gB hw1 => ?_)
  repeat' (first | (refine ao_sh_call ?_; first | (refine ao_callM (gR g ws fa h w u) (gR g (arrM g h w ws u t n).2.1 fa h w (arrM g h w ws u t n).2.2) [(1000, .pin (.own 0) (us 0))] [] [0] noLoneH rfl rfl rfl ?_ tS rfl rfl rfl cM ?_; · (repeat (first | exact hsub_nil | refine hsub_cons rfl ?_)))) | refine sK ?_ | refine sC (fun _ => ?_) (fun _ => ?_) | fail)
  exact ⟨.inr rfl, .inl ⟨_, rfl, rfl, ⟨by repeat (first | exact hsub_nil | refine hsub_cons rfl ?_), rfl⟩⟩⟩
 ·have e : doM g h w ws u ⟨2, n, t, a, x, l⟩ = boxM g h w ws u t l := rfl
  rw [e]
  have cM := fun us' => BoxG_call hm fa t l hl us'
  refine acallM_intro tbOK Tryz.func20 rfl (by kernel_rfl) Tryz.ntmps20 (by simp) _ rfl (fun gB hw1 => ?_)
  repeat' (first | (refine ao_sh_call ?_; first | (refine ao_callM (gR g ws fa h w u) (gR g (boxM g h w ws u t l).2.1 fa h w (boxM g h w ws u t l).2.2) [(1000, .pin (.own 0) (us 0))] [] [0] noLoneH rfl rfl rfl ?_ tS rfl rfl rfl cM ?_; · (repeat (first | exact hsub_nil | refine hsub_cons rfl ?_)))) | refine sK ?_ | refine sC (fun _ => ?_) (fun _ => ?_) | fail)
  exact ⟨.inr rfl, .inl ⟨_, rfl, rfl, ⟨by repeat (first | exact hsub_nil | refine hsub_cons rfl ?_), rfl⟩⟩⟩
 ·have e : doM g h w ws u ⟨3, n, t, a, x, l⟩ = delM g h w ws u t.index a n := rfl
  rw [e]
  have cM := fun us' => DelegateG_call hm fa t.index a n us'
  refine acallM_intro tbOK Tryz.func20 rfl (by kernel_rfl) Tryz.ntmps20 (by simp) _ rfl (fun gB hw1 => ?_)
  repeat' (first | (refine ao_sh_call ?_; first | (refine ao_callM (gR g ws fa h w u) (gR g (delM g h w ws u t.index a n).2.1 fa h w (delM g h w ws u t.index a n).2.2) [(1000, .pin (.own 0) (us 0))] [] [0] noLoneH rfl rfl rfl ?_ tS rfl rfl rfl cM ?_; · (repeat (first | exact hsub_nil | refine hsub_cons rfl ?_)))) | refine sK ?_ | refine sC (fun _ => ?_) (fun _ => ?_) | fail)
  exact ⟨.inr rfl, .inl ⟨_, rfl, rfl, ⟨by repeat (first | exact hsub_nil | refine hsub_cons rfl ?_), rfl⟩⟩⟩
structure Gave (g : Img) (h w u : Nat) (r : Giv) : Prop where
 gm : GM g r.2.1 h w r.2.2
 said : (r.1 = 0 ∧ r.2.2 = u) ∨ (r.1 = ((h + u : Nat) : Int) ∧ u < r.2.2)
theorem gave_none {g : Img} {ws : List Int} {h w u : Nat} (hm : GM g ws h w u) : Gave g h w u (0, ws, u) := ⟨hm, .inl ⟨rfl, rfl⟩⟩
theorem gave_give {g : Img} {ws : List Int} {h w u : Nat} (hm : GM g ws h w u) (t : Ty) (l : List Int) (z : Nat) : Gave g h w u (giveG h w ws u t l z) := by
 refine ⟨giveG_ok hm t l z, ?_⟩
 rw [giveG]
 split
 ·exact .inr ⟨rfl, by show u < u + 1 + l.length + z; omega⟩
 ·exact .inl ⟨rfl, rfl⟩
theorem gave_do {g : Img} {ws : List Int} {h w u : Nat} (hm : GM g ws h w u) (c : Ac) : Gave g h w u (doM g h w ws u c) := by
 rw [doM]
 split
 ·rw [objM]; split
  ·exact gave_give hm _ _ _
  ·exact gave_none hm
 ·split
  ·rw [arrM]; split
   ·exact gave_none hm
   ·exact gave_give hm _ _ _
  ·split
   ·rw [boxM]; split
    ·exact gave_none hm
    ·exact gave_give hm _ _ _
   ·rw [delM]; split
    ·exact gave_give hm _ _ _
    ·exact gave_none hm
theorem longA_at {l : List Ac} (h : longA l = false) {k : Nat} (hk : k < l.length) : l[k].l.length ≤ 20 := by
 rw [longA, Bool.or_eq_false_iff] at h
 have := List.any_eq_false.1 h.2 l[k] (List.getElem_mem hk)
 simp at this; omega
theorem staticsA_le {g : Img} (hf : fineR g = true) : (staticsA g).length ≤ 512 := by
 rw [staticsA, hf]; exact statT_le (fine_of hf) _
end Go.Cg
namespace Go.Cg
open Go.Proofs
def getL (ws : List Int) (a : Int) : Int := if (ws.length : Int) ≤ a then 0 else ws.getD a.toNat 0
def putL (ws : List Int) (a x : Int) : List Int := if 0 < a ∧ a < (ws.length : Int) then ws.set a.toNat x else ws
theorem putL_len (ws : List Int) (a x : Int) : (putL ws a x).length = ws.length := by rw [putL]; split <;> simp
def kindAt (ws : List Int) (a : Int) : Ty := if a = 0 then ⟨0, 0, 0, false⟩ else typeP (getL ws a)
theorem getL_in {ws : List Int} {a : Int} (h0 : 0 ≤ a) (h1 : a < (ws.length : Int)) : (ws.map u64)[a.toNat]? = some (u64 (getL ws a)) := by
 rw [getL, if_neg (by omega), List.getElem?_map, List.getElem?_eq_getElem (by omega), List.getD_eq_getElem?_getD, List.getElem?_eq_getElem (by omega)]; rfl
set_option maxHeartbeats 1000000 in
theorem GetG_call (g : Img) (ws : List Int) (mv : Value) (fa hp fr u a : Int) (h0 : 0 ≤ a) (hl : ws.length ≤ 100000) : ACall Tryz.prog 59 [.ptr (gPV g ws mv fa hp fr u) 0, u64 a] (u64 (getL ws a)) := by
 by_cases h1 : (ws.length : Int) ≤ a
 ·have hd : decide (IntKind.u64.wrap (((ws.map u64).length : Nat) : Int) ≤ a) = true := decide_eq_true (by rw [List.length_map, wrapU_in (by omega) (by omega)]; omega)
  rw [getL, if_pos h1]
  refine acall_intro tbOK Tryz.func59 rfl (by kernel_rfl) Tryz.ntmps59 (by simp) _ rfl (fun hw gB hgB => ?_)
  repeat' (first | refine ao_q rfl (q_isnil (b := false) rfl Tryz.underlying31 rfl rfl) rfl rfl ?_ | refine AD.step _ _ _ _ _ rfl (q_isnil (b := false) rfl Tryz.underlying31 rfl rfl) rfl rfl ?_ | refine sK ?_ | refine sC (fun _ => ?_) (fun _ => ?_) | fail)
  exact retq rfl rfl
 ·have hd : decide (IntKind.u64.wrap (((ws.map u64).length : Nat) : Int) ≤ a) = false := decide_eq_false (by rw [List.length_map, wrapU_in (by omega) (by omega)]; omega)
  have he := getL_in (ws := ws) h0 (by omega)
  refine acall_intro tbOK Tryz.func59 rfl (by kernel_rfl) Tryz.ntmps59 (by simp) _ rfl (fun hw gB hgB => ?_)
  repeat' (first | refine ao_q rfl (q_isnil (b := false) rfl Tryz.underlying31 rfl rfl) rfl rfl ?_ | refine AD.step _ _ _ _ _ rfl (q_isnil (b := false) rfl Tryz.underlying31 rfl rfl) rfl rfl ?_ | (refine shX ?_; first | refine ao_q rfl (q_index tbOK rfl rfl rfl rfl rfl rfl h0 he) rfl rfl ?_ | refine AD.step _ _ _ _ _ rfl (q_index tbOK rfl rfl rfl rfl rfl rfl h0 he) rfl rfl ?_) | refine sK ?_ | refine sC (fun _ => ?_) (fun _ => ?_) | fail)
  exact retq rfl rfl
set_option maxHeartbeats 1000000 in
theorem KindG_call (g : Img) (ws : List Int) (mv : Value) (fa hp fr u a : Int) (h0 : 0 ≤ a) (hl : ws.length ≤ 100000) : ACall Tryz.prog 33 [.ptr (gPV g ws mv fa hp fr u) 0, u64 a] (tyPV (kindAt ws a)) := by
 have c1 := GetG_call g ws mv fa hp fr u a h0 hl
 have c2 := Type_call (getL ws a)
 by_cases h : a = 0
 ·subst h
  refine acall_intro tbOK Tryz.func33 rfl (by kernel_rfl) Tryz.ntmps33 (by simp) _ rfl (fun hw gB hgB => ?_)
  repeat' (first | refine sK ?_ | refine sC (fun _ => ?_) (fun _ => ?_) | fail)
  exact retq rfl rfl
 ·have hb : (a == 0) = false := by simp [h]
  rw [kindAt, if_neg h]
  refine acall_intro tbOK Tryz.func33 rfl (by kernel_rfl) Tryz.ntmps33 (by simp) _ rfl (fun hw gB hgB => ?_)
  repeat' (first | (refine shC ?_; first | refine qC c1 ?_ | refine qC c2 ?_) | refine sK ?_ | refine sC (fun _ => ?_) (fun _ => ?_) | fail)
  exact retq rfl rfl
set_option maxHeartbeats 2000000 in
theorem PutG_call (g : Img) (ws : List Int) (fa : Int) (h w u : Nat) (a x : Int) (h0 : 0 ≤ a) (hl : ws.length ≤ 100000) (us : Nat → Value) :
  ACallM Tryz.prog 70 [.box 0 0, .pv (u64 a), .pv (u64 x)] (gR g ws fa h w u ++ pinB us [0]) (.pv (.tup [])) (gR g (putL ws a x) fa h w u ++ pinB us [0]) := by
 have hL : IntKind.u64.wrap (((ws.map u64).length : Nat) : Int) = (ws.length : Int) := by rw [List.length_map, wrapU_in (by omega) (by omega)]
 by_cases h1 : 0 < a
 ·have e1 : decide (0 < a) = true := decide_eq_true h1
  by_cases h2 : a < (ws.length : Int)
  ·have e2 : decide (a < IntKind.u64.wrap (((ws.map u64).length : Nat) : Int)) = true := decide_eq_true (by rw [hL]; exact h2)
   obtain ⟨k, rfl⟩ : ∃ k : Nat, a = (k : Int) := ⟨a.toNat, by omega⟩
   have hil : k < (ws.map u64).length := by rw [List.length_map]; omega
   have hpp : (ws.map u64)[k]? = some (u64 (ws[k]'(by omega))) := by rw [List.getElem?_map, List.getElem?_eq_getElem (by omega)]; rfl
   rw [putL, if_pos ⟨h1, h2⟩]
   refine acallM_intro tbOK Tryz.func70 rfl (by kernel_rfl) Tryz.ntmps70 (by simp) _ rfl (fun gB hw1 => ?_)
   repeat' (first | refine ao_q rfl (q_notnil0 (b := false) rfl Tryz.underlying31 rfl rfl) rfl rfl ?_ | refine sM ?_ | (refine shX ?_; first | refine ao_q rfl (q_mindex (k := k) tbOK rfl rfl rfl rfl rfl rfl rfl rfl hil) rfl rfl ?_ | refine AD.step _ _ _ _ _ rfl (q_mindex (k := k) tbOK rfl rfl rfl rfl rfl rfl rfl rfl hil) rfl rfl ?_) | (refine ao_sh_store ?_; first | refine ao_mstore (k := k) (j := 0) tbOK rfl rfl rfl rfl rfl hpp rfl rfl rfl rfl rfl ?_) | refine sK ?_ | refine sC (fun _ => ?_) (fun _ => ?_) | fail)
   exact ⟨.inl rfl, .inl ⟨_, rfl, rfl, ⟨hsub_cons rfl (hsub_m rfl (by rw [List.map_set]; rfl) (by repeat (first | exact hsub_nil | refine hsub_cons rfl ?_))), rfl⟩⟩⟩
  ·have e2 : decide (a < IntKind.u64.wrap (((ws.map u64).length : Nat) : Int)) = false := decide_eq_false (by rw [hL]; exact h2)
   rw [putL, if_neg (fun hh => h2 hh.2)]
   refine acallM_intro tbOK Tryz.func70 rfl (by kernel_rfl) Tryz.ntmps70 (by simp) _ rfl (fun gB hw1 => ?_)
   repeat' (first | refine ao_q rfl (q_notnil0 (b := false) rfl Tryz.underlying31 rfl rfl) rfl rfl ?_ | refine sM ?_ | refine sK ?_ | refine sC (fun _ => ?_) (fun _ => ?_) | fail)
   exact ⟨.inl rfl, .inl ⟨_, rfl, rfl, ⟨by repeat (first | exact hsub_nil | refine hsub_cons rfl ?_), rfl⟩⟩⟩
 ·have e1 : decide (0 < a) = false := decide_eq_false h1
  rw [putL, if_neg (fun hh => h1 hh.1)]
  refine acallM_intro tbOK Tryz.func70 rfl (by kernel_rfl) Tryz.ntmps70 (by simp) _ rfl (fun gB hw1 => ?_)
  repeat' (first | refine ao_q rfl (q_notnil0 (b := false) rfl Tryz.underlying31 rfl rfl) rfl rfl ?_ | refine sM ?_ | refine sK ?_ | refine sC (fun _ => ?_) (fun _ => ?_) | fail)
  exact ⟨.inl rfl, .inl ⟨_, rfl, rfl, ⟨by repeat (first | exact hsub_nil | refine hsub_cons rfl ?_), rfl⟩⟩⟩
end Go.Cg
namespace Go.Cg
section
variable {P : Program} {n : Nat} {g : Base} {H : HEnv} {env : Env} {QQ : QC} {c : Code} {Q : Env → HEnv → Prop} {ops : List Oper}
theorem inv_plainv {t i e sz : Nat} {es : List PV} {a : Act} {w : World} (ht : env.get t = some (.own i)) (hi : H.get i = some (.row e sz es)) (hinv : Inv n g env H a w) : Inv n g ((t, .pv (.slc sz es false)) :: env) H a w := by
 obtain ⟨g1, g2, K, ρ, hf, he⟩ := hinv
 refine ⟨g1, g2, K, ρ, hf, fun t' av hg => ?_⟩
 rw [Env.get_cons] at hg
 split at hg
 ·rename_i e1; subst e1
  simp only [Option.some.injEq] at hg; subst hg
  obtain ⟨v, h1, h2⟩ := he _ _ ht
  exact ⟨v, h1, .pv _ _ (row_plain hf hi h2)⟩
 ·exact he t' av hg
theorem ao_plainv {l : List Oper} (t : Nat) {i e sz : Nat} {es : List PV} (ht : env.get t = some (.own i)) (hi : H.get i = some (.row e sz es)) (k : AO P n g ops.toArray l ((t, .pv (.slc sz es false)) :: env) H Q) : AO P n g ops.toArray l env H Q := ⟨fun a w hinv => k.go a w (inv_plainv ht hi hinv)⟩
theorem aw_plainv (t : Nat) {i e sz : Nat} {es : List PV} (ht : env.get t = some (.own i)) (hi : H.get i = some (.row e sz es)) (k : AW P n g c ((t, .pv (.slc sz es false)) :: env) H QQ) : AW P n g c env H QQ := ⟨fun a w hinv => k.go a w (inv_plainv ht hi hinv)⟩
end
end Go.Cg
namespace Go.Cg
open Go.Proofs
abbrev Wd := Int × Ty
abbrev wdPV (x : Wd) : PV := .agg [u64 x.1, pi x.2.kind, pi x.2.index, pi x.2.dims, pb x.2.ref]
abbrev fsts (W : List Wd) : List Int := W.map (·.1)
abbrev rPV (g : Img) (W : List Wd) (fa h fr u : Int) : PV := .agg [.slc 4 (g.types.map tdPV) false, .slc 7 (g.fields.map fdPV) false, .slc 12 (g.methods.map mePV) false, pi g.entry, .slc 5 (W.map wdPV) false, pi fa, pi h, pi fr, pi u]
abbrev rH (g : Img) (W : List Wd) (fa h fr u : Int) : HEnv := [(10, .cell (.agg [.pv (.slc 4 (g.types.map tdPV) false), .pv (.slc 7 (g.fields.map fdPV) false), .pv (.slc 12 (g.methods.map mePV) false), .pv (pi g.entry), .own 11, .pv (pi fa), .pv (pi h), .pv (pi fr), .pv (pi u)])), (11, .mrow 138 5 (W.map wdPV))]
theorem fsts_len (W : List Wd) : (fsts W).length = W.length := List.length_map ..
theorem wd_in {W : List Wd} {a : Int} (h0 : 0 ≤ a) (h1 : a < (W.length : Int)) : ∃ x : Wd, (W.map wdPV)[a.toNat]? = some (wdPV x) ∧ x.1 = getL (fsts W) a := by
 have hl : a.toNat < W.length := by omega
 refine ⟨W[a.toNat], by rw [List.getElem?_map, List.getElem?_eq_getElem hl]; rfl, ?_⟩
 rw [getL, if_neg (by rw [fsts_len]; omega), List.getD_eq_getElem?_getD, List.getElem?_map, List.getElem?_eq_getElem hl]; rfl
set_option maxHeartbeats 1000000 in
theorem GetR_call (g : Img) (W : List Wd) (fa h fr u a : Int) (h0 : 0 ≤ a) (hl : W.length ≤ 100000) : ACall Tryz.prog 82 [.ptr (rPV g W fa h fr u) 0, u64 a] (u64 (getL (fsts W) a)) := by
 by_cases h1 : (W.length : Int) ≤ a
 ·have hd : decide (IntKind.u64.wrap (((W.map wdPV).length : Nat) : Int) ≤ a) = true := decide_eq_true (by rw [List.length_map, wrapU_in (by omega) (by omega)]; omega)
  rw [getL, if_pos (by rw [fsts_len]; exact h1)]
  refine acall_intro tbOK Tryz.func82 rfl (by kernel_rfl) Tryz.ntmps82 (by simp) _ rfl (fun hw gB hgB => ?_)
  repeat' (first | refine sK ?_ | refine sC (fun _ => ?_) (fun _ => ?_) | fail)
  exact retq rfl rfl
 ·have hd : decide (IntKind.u64.wrap (((W.map wdPV).length : Nat) : Int) ≤ a) = false := decide_eq_false (by rw [List.length_map, wrapU_in (by omega) (by omega)]; omega)
  obtain ⟨x, he, hx⟩ := wd_in (W := W) h0 (by omega)
  rw [← hx]
  have hwa : IntKind.i64.wrap a = a := wrap_in (by omega) (by omega)
  have h0' : 0 ≤ IntKind.i64.wrap a := by rw [hwa]; exact h0
  have he' : (W.map wdPV)[(IntKind.i64.wrap a).toNat]? = some (wdPV x) := by rw [hwa]; exact he
  refine acall_intro tbOK Tryz.func82 rfl (by kernel_rfl) Tryz.ntmps82 (by simp) _ rfl (fun hw gB hgB => ?_)
  repeat' (first | (refine shX ?_; first | refine ao_q rfl (q_index tbOK rfl rfl rfl rfl rfl rfl h0' he') rfl rfl ?_ | refine AD.step _ _ _ _ _ rfl (q_index tbOK rfl rfl rfl rfl rfl rfl h0' he') rfl rfl ?_) | refine sK ?_ | refine sC (fun _ => ?_) (fun _ => ?_) | fail)
  exact retq rfl rfl
set_option maxHeartbeats 1000000 in
theorem KindRM_call (g : Img) (W : List Wd) (fa h fr u a : Int) (h0 : 0 ≤ a) (hl : W.length ≤ 100000) (hw : 0 ≤ getL (fsts W) a ∧ getL (fsts W) a ≤ 18446744073709551615) : ACall Tryz.prog 34 [.ptr (rPV g W fa h fr u) 0, u64 a] (tyPV (kindAt (fsts W) a)) := by
 by_cases h2 : a = 0
 ·subst h2
  refine acall_intro tbOK Tryz.func34 rfl (by kernel_rfl) Tryz.ntmps34 (by simp) _ rfl (fun hw gB hgB => ?_)
  repeat' (first | refine sK ?_ | refine sC (fun _ => ?_) (fun _ => ?_) | fail)
  exact retq rfl rfl
 ·have hb : (a == 0) = false := by simp [h2]
  rw [kindAt, if_neg h2]
  by_cases h1 : (W.length : Int) ≤ a
  ·have hd : decide (IntKind.u64.wrap (((W.map wdPV).length : Nat) : Int) ≤ a) = true := decide_eq_true (by rw [List.length_map, wrapU_in (by omega) (by omega)]; omega)
   rw [getL, if_pos (by rw [fsts_len]; exact h1), type0]
   refine acall_intro tbOK Tryz.func34 rfl (by kernel_rfl) Tryz.ntmps34 (by simp) _ rfl (fun hw gB hgB => ?_)
   repeat' (first | refine sK ?_ | refine sC (fun _ => ?_) (fun _ => ?_) | fail)
   exact retq rfl rfl
  ·have hd : decide (IntKind.u64.wrap (((W.map wdPV).length : Nat) : Int) ≤ a) = false := decide_eq_false (by rw [List.length_map, wrapU_in (by omega) (by omega)]; omega)
   obtain ⟨x, he, hx⟩ := wd_in (W := W) h0 (by omega)
   have c2 := TypeR_call (getL (fsts W) a) hw.1 hw.2
   rw [← hx] at c2 ⊢
   have hwa : IntKind.i64.wrap a = a := wrap_in (by omega) (by omega)
   have h0' : 0 ≤ IntKind.i64.wrap a := by rw [hwa]; exact h0
   have he' : (W.map wdPV)[(IntKind.i64.wrap a).toNat]? = some (wdPV x) := by rw [hwa]; exact he
   refine acall_intro tbOK Tryz.func34 rfl (by kernel_rfl) Tryz.ntmps34 (by simp) _ rfl (fun hw gB hgB => ?_)
   repeat' (first | (refine shC ?_; first | refine qC c2 ?_) | (refine shX ?_; first | refine ao_q rfl (q_index tbOK rfl rfl rfl rfl rfl rfl h0' he') rfl rfl ?_ | refine AD.step _ _ _ _ _ rfl (q_index tbOK rfl rfl rfl rfl rfl rfl h0' he') rfl rfl ?_) | refine sK ?_ | refine sC (fun _ => ?_) (fun _ => ?_) | fail)
   exact retq rfl rfl
def putR (W : List Wd) (a x : Int) : List Wd := if h : 0 < a ∧ a.toNat < W.length then W.set a.toNat (x, (W[a.toNat]'h.2).2) else W
theorem putR_fsts (W : List Wd) (a x : Int) : fsts (putR W a x) = putL (fsts W) a x := by
 rw [putR, putL, fsts_len]
 by_cases h : 0 < a ∧ a.toNat < W.length
 ·rw [dif_pos h, if_pos ⟨h.1, by omega⟩]; exact List.map_set
 ·rw [dif_neg h, if_neg (fun hh => h ⟨hh.1, by omega⟩)]
set_option maxHeartbeats 2000000 in
theorem PutR_call (g : Img) (W : List Wd) (fa h fr u a x : Int) (h0 : 0 ≤ a) (hl : W.length ≤ 100000) (us : Nat → Value) :
  ACallM Tryz.prog 81 [.box 10 0, .pv (u64 a), .pv (u64 x)] (rH g W fa h fr u ++ pinB us [10]) (.pv (.tup [])) (rH g (putR W a x) fa h fr u ++ pinB us [10]) := by
 have hL : IntKind.u64.wrap (((W.map wdPV).length : Nat) : Int) = (W.length : Int) := by rw [List.length_map, wrapU_in (by omega) (by omega)]
 by_cases h1 : 0 < a
 ·have e1 : decide (0 < a) = true := decide_eq_true h1
  by_cases h2 : a < (W.length : Int)
  ·have e2 : decide (a < IntKind.u64.wrap (((W.map wdPV).length : Nat) : Int)) = true := decide_eq_true (by rw [hL]; exact h2)
   have hk : a.toNat < W.length := by omega
   have hil : a.toNat < (W.map wdPV).length := by rw [List.length_map]; omega
   have hpp : (W.map wdPV)[a.toNat]? = some (wdPV W[a.toNat]) := by rw [List.getElem?_map, List.getElem?_eq_getElem (by omega)]; rfl
   have hwa : IntKind.i64.wrap a = ((a.toNat : Nat) : Int) := by rw [wrap_in (by omega) (by omega)]; omega
   rw [putR, dif_pos ⟨h1, hk⟩]
   refine acallM_intro tbOK Tryz.func81 rfl (by kernel_rfl) Tryz.ntmps81 (by simp) _ rfl (fun gB hw1 => ?_)
   repeat' (first | refine sM ?_ | (refine shX ?_; first | refine ao_q rfl (q_mindex (k := a.toNat) tbOK rfl rfl rfl rfl rfl rfl rfl hwa hil) rfl rfl ?_ | refine AD.step _ _ _ _ _ rfl (q_mindex (k := a.toNat) tbOK rfl rfl rfl rfl rfl rfl rfl hwa hil) rfl rfl ?_) | (refine ao_sh_store ?_; first | refine ao_mstore (k := a.toNat) (j := 0) tbOK rfl rfl rfl rfl rfl hpp rfl rfl rfl rfl rfl ?_) | refine sK ?_ | refine sC (fun _ => ?_) (fun _ => ?_) | fail)
   exact ⟨.inl rfl, .inl ⟨[], rfl, rfl, ⟨hsub_cons rfl (hsub_m rfl (by rw [List.map_set]; rfl) (by repeat (first | exact hsub_nil | refine hsub_cons rfl ?_))), rfl⟩⟩⟩
  ·have e2 : decide (a < IntKind.u64.wrap (((W.map wdPV).length : Nat) : Int)) = false := decide_eq_false (by rw [hL]; exact h2)
   rw [putR, dif_neg (by omega)]
   refine acallM_intro tbOK Tryz.func81 rfl (by kernel_rfl) Tryz.ntmps81 (by simp) _ rfl (fun gB hw1 => ?_)
   repeat' (first | refine sM ?_ | refine sK ?_ | refine sC (fun _ => ?_) (fun _ => ?_) | fail)
   exact ⟨.inl rfl, .inl ⟨[], rfl, rfl, ⟨by repeat (first | exact hsub_nil | refine hsub_cons rfl ?_), rfl⟩⟩⟩
 ·have e1 : decide (0 < a) = false := decide_eq_false h1
  rw [putR, dif_neg (by omega)]
  refine acallM_intro tbOK Tryz.func81 rfl (by kernel_rfl) Tryz.ntmps81 (by simp) _ rfl (fun gB hw1 => ?_)
  repeat' (first | refine sM ?_ | refine sK ?_ | refine sC (fun _ => ?_) (fun _ => ?_) | fail)
  exact ⟨.inl rfl, .inl ⟨[], rfl, rfl, ⟨by repeat (first | exact hsub_nil | refine hsub_cons rfl ?_), rfl⟩⟩⟩
abbrev RGiv := Int × List Wd × Nat
def layW (W : List Wd) (a : Nat) (l : List Wd) : List Wd := W.take a ++ l ++ W.drop (a + l.length)
def giveR (h w : Nat) (W : List Wd) (u : Nat) (l : List Wd) : RGiv := if u + l.length ≤ w then (((h + u : Nat) : Int), layW W (h + u) l, u + l.length) else (0, W, u)
theorem layW_snoc {W : List Wd} {a i : Nat} {l : List Wd} (hi : i < l.length) (h : a + l.length ≤ W.length) : (layW W a (l.take i)).set (a + i) (l[i]) = layW W a (l.take (i + 1)) := by
 have hil : (l.take i).length = i := by rw [List.length_take]; omega
 have hil' : (l.take (i + 1)).length = i + 1 := by rw [List.length_take]; omega
 have hat : (W.take a).length = a := by rw [List.length_take]; omega
 rw [layW, layW, hil, hil', List.append_assoc, List.append_assoc, List.set_append_right _ _ (by rw [hat]; omega), hat, Nat.add_sub_cancel_left, List.set_append_right _ _ (by rw [hil]; omega), hil, Nat.sub_self]
 congr 1
 have hd : W.drop (a + i) = W[a + i]'(by omega) :: W.drop (a + (i + 1)) := by rw [List.drop_eq_getElem_cons (by omega)]; rfl
 rw [hd, List.set_cons_zero, List.take_succ_eq_append_getElem hi, List.append_assoc]; rfl
theorem layW_len {W : List Wd} {a : Nat} {l : List Wd} (h : a + l.length ≤ W.length) : (layW W a l).length = W.length := by
 rw [layW, List.length_append, List.length_append, List.length_take, List.length_drop]; omega
theorem layW_zero (W : List Wd) (a : Nat) : layW W a [] = W := by rw [layW, List.append_nil, List.length_nil, Nat.add_zero, List.take_append_drop]
set_option maxHeartbeats 4000000 in
theorem give_call (g : Img) (W : List Wd) (fa : Int) (h w u : Nat) (l : List Wd) (hh : h ≤ 10000) (hw : w ≤ 4096) (hu : u ≤ w) (hl : l.length ≤ 100000) (hW : W.length = h + w + 16384) (us : Nat → Value) :
  ACallM Tryz.prog 129 [.box 10 0, .pv (.slc 5 (l.map wdPV) false)] (rH g W fa (h : Int) ((h + w : Nat) : Int) (u : Int) ++ pinB us [10]) (.pv (u64 (giveR h w W u l).1)) (rH g (giveR h w W u l).2.1 fa (h : Int) ((h + w : Nat) : Int) ((giveR h w W u l).2.2 : Int) ++ pinB us [10]) := by
 have hN : IntKind.i64.wrap (IntKind.i64.wrap (((h + w : Nat) : Int) - (h : Int)) - (u : Int)) = (w : Int) - u := by
  rw [wrap_in (a := ((h + w : Nat) : Int) - (h : Int)) (by omega) (by omega), wrap_in (by omega) (by omega)]; omega
 by_cases hr : u + l.length ≤ w
 ·have e1 : decide (IntKind.i64.wrap (IntKind.i64.wrap (((h + w : Nat) : Int) - (h : Int)) - (u : Int)) < (((l.map wdPV).length : Nat) : Int)) = false := decide_eq_false (by rw [hN, List.length_map]; omega)
  have hA : IntKind.i64.wrap ((h : Int) + (u : Int)) = ((h + u : Nat) : Int) := by rw [wrap_in (by omega) (by omega)]; omega
  rw [giveR, if_pos hr]
  refine acallM_intro tbOK Tryz.func129 rfl (by kernel_rfl) Tryz.ntmps129 (by simp) _ rfl (fun gB hw1 => ?_)
  repeat' (first | refine sK ?_ | refine sC (fun _ => ?_) (fun _ => ?_) | fail)
  refine aw_loop (fun i : Nat => [(0, .box 10 0), (1, .pv (.slc 5 (l.map wdPV) false)), (5, .pv (pi ((h + u : Nat) : Int))), (6, .pv (pi i))]) (fun i => rH g (layW W (h + u) (l.take i)) fa (h : Int) ((h + w : Nat) : Int) (u : Int) ++ pinB us [10]) (fun i => i ≤ l.length) (fun i => l.length - i) 0 (by omega) (by repeat (first | exact sub_nil | refine sub_cons rfl ?_ | (refine sub_i rfl ?_ ?_; · first | exact hA | exact hA.symm | rfl))) ⟨hsub_cons rfl (hsub_m rfl (by rw [List.take_zero, layW_zero]) (by repeat (first | exact hsub_nil | refine hsub_cons rfl ?_))), rfl⟩ ?_
  rintro i hi
  by_cases hlt : i < l.length
  ·have e2 : decide ((i : Int) < (((l.map wdPV).length : Nat) : Int)) = true := decide_eq_true (by rw [List.length_map]; omega)
   have he := map_get (f := wdPV) hlt
   have hll : (layW W (h + u) (l.take i)).length = W.length := layW_len (by rw [List.length_take]; omega)
   have hix : IntKind.i64.wrap (((h + u : Nat) : Int) + (i : Int)) = ((h + u + i : Nat) : Int) := by rw [wrap_in (by omega) (by omega)]; omega
   have hil : h + u + i < ((layW W (h + u) (l.take i)).map wdPV).length := by rw [List.length_map, hll]; omega
   have hpp : ((layW W (h + u) (l.take i)).map wdPV)[h + u + i]? = some (wdPV ((layW W (h + u) (l.take i))[h + u + i]'(by rw [hll]; omega))) := by rw [List.getElem?_map, List.getElem?_eq_getElem (by rw [hll]; omega)]; rfl
   repeat' (first | refine aw_draw_tailL 13 12 rfl (by kernel_rfl) (by kernel_rfl) (by kernel_rfl) (by kernel_rfl) (by kernel_rfl) ?_ | (refine shX ?_; first | refine qX he ?_ | refine ao_q rfl (q_mindex (k := h + u + i) tbOK rfl rfl rfl rfl rfl rfl rfl hix hil) rfl rfl ?_ | refine AD.step _ _ _ _ _ rfl (q_mindex (k := h + u + i) tbOK rfl rfl rfl rfl rfl rfl rfl hix hil) rfl rfl ?_) | (refine ao_sh_store ?_; first | refine ao_mstore (k := h + u + i) (j := 0) tbOK rfl rfl rfl rfl rfl hpp rfl rfl rfl rfl rfl ?_) | refine sK ?_ | refine sC (fun _ => ?_) (fun _ => ?_) | fail)
   refine ⟨i + 1, hlt, tD, tS, ⟨hsub_cons rfl (hsub_m rfl ?_ (by repeat (first | exact hsub_nil | refine hsub_cons rfl ?_))), rfl⟩⟩
   rw [← layW_snoc hlt (by omega), List.map_set]
  ·have hi2 : i = l.length := by omega
   subst hi2
   have e2 : decide ((l.length : Int) < (((l.map wdPV).length : Nat) : Int)) = false := decide_eq_false (by rw [List.length_map]; omega)
   have hE : IntKind.i64.wrap ((u : Int) + (((l.map wdPV).length : Nat) : Int)) = ((u + l.length : Nat) : Int) := by rw [List.length_map, wrap_in (by omega) (by omega)]; omega
   have hC : IntKind.u64.wrap ((h + u : Nat) : Int) = ((h + u : Nat) : Int) := wrapU_in (by omega) (by omega)
   rw [List.take_length]
   repeat' (first | refine sK ?_ | refine sC (fun _ => ?_) (fun _ => ?_) | fail)
   refine ⟨.inr rfl, .inl ⟨_, rfl, by show AV.pv _ = AV.pv (u64 (IntKind.u64.wrap ((h + u : Nat) : Int))); rw [hC], ⟨hsub_cons (show some (HE.cell (.agg [.pv (.slc 4 (g.types.map tdPV) false), .pv (.slc 7 (g.fields.map fdPV) false), .pv (.slc 12 (g.methods.map mePV) false), .pv (pi g.entry), .own 11, .pv (pi fa), .pv (pi (h : Int)), .pv (pi ((h + w : Nat) : Int)), .pv (pi (IntKind.i64.wrap ((u : Int) + (((l.map wdPV).length : Nat) : Int))))])) = _ from by rw [hE]) (by repeat (first | exact hsub_nil | refine hsub_cons rfl ?_)), rfl⟩⟩⟩
 ·have e1 : decide (IntKind.i64.wrap (IntKind.i64.wrap (((h + w : Nat) : Int) - (h : Int)) - (u : Int)) < (((l.map wdPV).length : Nat) : Int)) = true := decide_eq_true (by rw [hN, List.length_map]; omega)
  rw [giveR, if_neg hr]
  refine acallM_intro tbOK Tryz.func129 rfl (by kernel_rfl) Tryz.ntmps129 (by simp) _ rfl (fun gB hw1 => ?_)
  repeat' (first | refine sK ?_ | refine sC (fun _ => ?_) (fun _ => ?_) | fail)
  exact ⟨.inr rfl, .inl ⟨_, rfl, rfl, ⟨by repeat (first | exact hsub_nil | refine hsub_cons rfl ?_), rfl⟩⟩⟩
end Go.Cg
namespace Go.Cg
open Go.Proofs
def objectR (t : Ty) : Bool := !t.ref && (decide (0 < t.dims) || t.kind == 4 || t.kind == 5 || t.kind == 7 || t.kind == 8)
set_option maxHeartbeats 1000000 in
theorem ObjectR14_call (t : Ty) : ACall Tryz.prog 124 [tyPV t] (pb (objectR t)) := by
 refine acall_intro tbOK Tryz.func124 rfl (by kernel_rfl) Tryz.ntmps124 (by simp) _ rfl (fun hw gB hgB => ?_)
 repeat' (first | refine sA ?_ | refine sC (fun _ => ?_) (fun _ => ?_) | fail)
 all_goals (first | refine retq rfl ?_ | refine retn rfl ?_)
 all_goals (first | (simp_all [retPV, objectR]; done) | (simp_all [retPV, objectR]; omega))
def tagT (t : Ty) : Ty := if objectR t then ⟨4, 0, 0, false⟩ else t
set_option maxHeartbeats 1000000 in
theorem Tag_call (t : Ty) : ACall Tryz.prog 75 [tyPV t] (tyPV (tagT t)) := by
 have c1 := ObjectR14_call t
 refine acall_intro tbOK Tryz.func75 rfl (by kernel_rfl) Tryz.ntmps75 (by simp) _ rfl (fun hw gB hgB => ?_)
 cases h : objectR t
 ·rw [h] at c1
  have e : tagT t = t := by rw [tagT, h]; rfl
  rw [e]
  repeat' (first | (refine shC ?_; first | refine qC c1 ?_) | refine sK ?_ | refine sC (fun _ => ?_) (fun _ => ?_) | fail)
  exact retq rfl rfl
 ·rw [h] at c1
  have e : tagT t = ⟨4, 0, 0, false⟩ := by rw [tagT, h]; rfl
  rw [e]
  repeat' (first | (refine shC ?_; first | refine qC c1 ?_) | refine sK ?_ | refine sC (fun _ => ?_) (fun _ => ?_) | fail)
  exact retq rfl rfl
abbrev ty1 : Ty := ⟨1, 0, 0, false⟩
set_option maxHeartbeats 1000000 in
theorem headR_call (t : Ty) (h : okT t) : ACallR Tryz.prog 126 [tyPV t] 138 5 [wdPV (headP t, ty1)] := by
 have c1 := HeadR_call t h
 refine acallR_intro Tryz.func126 rfl (by kernel_rfl) Tryz.ntmps126 (by simp) rfl (fun hw gB hgB => ?_)
 repeat' (first | (refine shC ?_; first | refine qC c1 ?_) | (refine ao_sh_bi ?_; first | refine ao_append_new 0 tbOK rfl rfl rfl (.inr ⟨rfl, rfl⟩) rfl (by simp) rfl (by show _ * 40 ≤ _; simp) (by simp) rfl rfl rfl ?_) | refine sA ?_ | refine sC (fun _ => ?_) (fun _ => ?_) | fail)
 exact ⟨.inr rfl, 0, rfl, rfl⟩
abbrev zw (t : Ty) : Wd := (0, tagT t)
set_option maxHeartbeats 1000000 in
theorem zerosP_call (l : List Ty) (hl : l.length ≤ 1000) : ACall Tryz.prog 127 [tys l] (.slc 5 ((l.map zw).map wdPV) false) := by
 refine acall_intro tbOK Tryz.func127 rfl (by kernel_rfl) Tryz.ntmps127 (by simp) _ rfl (fun hw gB hgB => ?_)
 repeat' (first | refine sA ?_ | refine sC (fun _ => ?_) (fun _ => ?_) | fail)
 refine aw_own_nil (t := 3) 0 138 5 (by decide) rfl rfl ?_
 refine aw_loop (fun i : Nat => [(0, .pv (tys l)), (3, .own 0), (4, .pv (pi i))]) (fun i => [(0, .row 138 5 (((l.take i).map zw).map wdPV))]) (fun i => i ≤ l.length) (fun i => l.length - i) 0 (by omega) (tS) ⟨hsub_cons rfl hsub_nil, rfl⟩ ?_
 rintro i hi
 by_cases hlt : i < l.length
 ·have e2 : decide ((i : Int) < (((l.map tyPV).length : Nat) : Int)) = true := decide_eq_true (by rw [List.length_map]; omega)
  have he := map_get (f := tyPV) hlt
  have c1 := Tag_call l[i]
  have hrw : ((l.take (i + 1)).map zw).map wdPV = ((l.take i).map zw).map wdPV ++ [wdPV (zw l[i])] := by rw [List.take_succ_eq_append_getElem hlt, List.map_append, List.map_append]; rfl
  have hb : (((l.take i).map zw).map wdPV).length = i := by rw [List.length_map, List.length_map, List.length_take]; omega
  repeat' (first | (refine shC ?_; first | refine qC c1 ?_) | (refine shX ?_; first | refine qX he ?_) | (refine ao_sh_bi ?_; first | refine ao_append tbOK rfl rfl rfl rfl rfl rfl rfl (by show _ * 40 ≤ _; rw [hb]; simp only [List.length_cons, List.length_nil]; omega) (by rw [hb]; simp only [List.length_cons, List.length_nil]; omega) rfl rfl ?_) | refine sK ?_ | refine sC (fun _ => ?_) (fun _ => ?_) | fail)
  exact ⟨i + 1, hlt, tD, tS, ⟨hsub_r rfl hrw.symm hsub_nil, rfl⟩⟩
 ·have hi2 : i = l.length := by omega
  subst hi2
  have e2 : decide ((l.length : Int) < (((l.map tyPV).length : Nat) : Int)) = false := decide_eq_false (by rw [List.length_map]; omega)
  rw [List.take_length]
  repeat' (first | refine sK ?_ | refine sC (fun _ => ?_) (fun _ => ?_) | fail)
  exact retq rfl rfl
set_option maxHeartbeats 1000000 in
theorem zerosM_call (l : List Ty) (hl : l.length ≤ 1000) : ACallM Tryz.prog 127 [.pv (tys l)] [] (.own 30) [(30, .mrow 138 5 ((l.map zw).map wdPV))] := by
 refine acallM_intro tbOK Tryz.func127 rfl (by kernel_rfl) Tryz.ntmps127 (by simp) _ rfl (fun gB hw1 => ?_)
 repeat' (first | refine sA ?_ | refine sC (fun _ => ?_) (fun _ => ?_) | fail)
 refine aw_mown_nil (t := 3) 30 138 5 (by decide) rfl rfl ?_
 refine aw_loop (fun i : Nat => [(0, .pv (tys l)), (3, .own 30), (4, .pv (pi i))]) (fun i => [(30, .mrow 138 5 (((l.take i).map zw).map wdPV))]) (fun i => i ≤ l.length) (fun i => l.length - i) 0 (by omega) (tS) ⟨hsub_cons rfl hsub_nil, rfl⟩ ?_
 rintro i hi
 by_cases hlt : i < l.length
 ·have e2 : decide ((i : Int) < (((l.map tyPV).length : Nat) : Int)) = true := decide_eq_true (by rw [List.length_map]; omega)
  have he := map_get (f := tyPV) hlt
  have c1 := Tag_call l[i]
  have hrw : ((l.take i).map zw).map wdPV ++ [wdPV (zw l[i])] = ((l.take (i + 1)).map zw).map wdPV := by rw [List.take_succ_eq_append_getElem hlt, List.map_append, List.map_append]; rfl
  have hb : (((l.take i).map zw).map wdPV).length = i := by rw [List.length_map, List.length_map, List.length_take]; omega
  repeat' (first | (refine shC ?_; first | refine qC c1 ?_) | (refine shX ?_; first | refine qX he ?_) | (refine ao_sh_bi ?_; first | refine ao_mappend tbOK rfl rfl rfl rfl rfl rfl rfl (by show _ * 40 ≤ _; rw [hb]; simp only [List.length_cons, List.length_nil]; omega) (by rw [hb]; simp only [List.length_cons, List.length_nil]; omega) rfl rfl ?_) | refine sK ?_ | refine sC (fun _ => ?_) (fun _ => ?_) | fail)
  exact ⟨i + 1, hlt, tD, tS, ⟨hsub_m rfl hrw hsub_nil, rfl⟩⟩
 ·have hi2 : i = l.length := by omega
  subst hi2
  have e2 : decide ((l.length : Int) < (((l.map tyPV).length : Nat) : Int)) = false := decide_eq_false (by rw [List.length_map]; omega)
  rw [List.take_length]
  repeat' (first | refine sK ?_ | refine sC (fun _ => ?_) (fun _ => ?_) | fail)
  exact ⟨.inr rfl, .inr ⟨2, rfl, rfl, ⟨by repeat (first | exact hsub_nil | refine hsub_cons rfl ?_), rfl⟩⟩⟩
def elemR (g : Img) (t : Ty) : Bool := whereT t 1 && usedR g t
set_option maxHeartbeats 1000000 in
theorem Element_call (g : Img) (W : List Wd) (fa h fr u : Int) (t : Ty) : ACall Tryz.prog 130 [.ptr (rPV g W fa h fr u) 0, tyPV t] (pb (elemR g t)) := by
 have c1 := Where_call t 1
 have c2 := UsedR_call g t
 refine acall_intro tbOK Tryz.func130 rfl (by kernel_rfl) Tryz.ntmps130 (by simp) _ rfl (fun hw gB hgB => ?_)
 cases h1 : whereT t 1
 ·rw [h1] at c1
  have e : elemR g t = false := by rw [elemR, h1]; rfl
  rw [e]
  repeat' (first | (refine shC ?_; first | refine qC c1 ?_ | refine qC c2 ?_) | refine sK ?_ | refine sC (fun _ => ?_) (fun _ => ?_) | fail)
  all_goals exact retq rfl rfl
 ·rw [h1] at c1
  have e : elemR g t = usedR g t := by rw [elemR, h1]; rfl
  rw [e]
  repeat' (first | (refine shC ?_; first | refine qC c1 ?_ | refine qC c2 ?_) | refine sK ?_ | refine sC (fun _ => ?_) (fun _ => ?_) | fail)
  all_goals exact retq rfl rfl
def numR (t : Ty) : Bool := (t.kind == 2 && (t.index == 0 && (t.dims == 0 && !t.ref))) || (t.kind == 3 && (t.index == 0 && (t.dims == 0 && !t.ref)))
set_option maxHeartbeats 1000000 in
theorem kind16_call (k : Int) : ACall Tryz.prog 230 [pi k] (tyPV ⟨k, 0, 0, false⟩) := by
 refine acall_intro tbOK Tryz.func230 rfl (by kernel_rfl) Tryz.ntmps230 (by simp) _ rfl (fun hw gB hgB => ?_)
 repeat' (first | refine sA ?_ | refine sC (fun _ => ?_) (fun _ => ?_) | fail)
 exact retq rfl rfl
set_option maxHeartbeats 1000000 in
theorem number_call (t : Ty) : ACall Tryz.prog 177 [tyPV t] (pb (numR t)) := by
 refine acall_intro tbOK Tryz.func177 rfl (by kernel_rfl) Tryz.ntmps177 (by simp) _ rfl (fun hw gB hgB => ?_)
 repeat' (first | (refine shC ?_; first | refine qC (kind16_call 2) ?_ | refine qC (kind16_call 3) ?_) | refine sA ?_ | refine sC (fun _ => ?_) (fun _ => ?_) | fail)
 all_goals (first | refine retq rfl ?_ | refine retn rfl ?_)
 all_goals (first | (simp_all [retPV, numR]; done) | (simp_all [retPV, numR]; omega))
def boxedR (t : Ty) : Bool := numR t || (t.kind == 6 && t.dims == 0 && !t.ref)
set_option maxHeartbeats 1000000 in
theorem Boxed_call (t : Ty) : ACall Tryz.prog 131 [tyPV t] (pb (boxedR t)) := by
 refine acall_intro tbOK Tryz.func131 rfl (by kernel_rfl) Tryz.ntmps131 (by simp) _ rfl (fun hw gB hgB => ?_)
 repeat' (first | (refine shC ?_; first | refine qC (number_call t) ?_) | refine sA ?_ | refine sC (fun _ => ?_) (fun _ => ?_) | fail)
 all_goals (first | refine retq rfl ?_ | refine retn rfl ?_)
 all_goals (first | (simp_all [retPV, boxedR]; done) | (simp_all [retPV, boxedR]; omega))
end Go.Cg
namespace Go.Cg
open Go.Proofs
structure RM (g : Img) (W : List Wd) (h w u : Nat) : Prop where
 fine : fineR g = true
 hh : h ≤ 10000
 hp : 0 < h
 hw : w ≤ 4096
 hu : u ≤ w
 len : W.length = h + w + 16384
abbrev rR (g : Img) (W : List Wd) (fa : Int) (h w u : Nat) : HEnv := rH g W fa (h : Int) ((h + w : Nat) : Int) (u : Int)
theorem giveR_call {g : Img} {W : List Wd} {h w u : Nat} (hm : RM g W h w u) (fa : Int) (l : List Wd) (hl : l.length ≤ 100000) (us : Nat → Value) :
  ACallM Tryz.prog 129 [.box 10 0, .pv (.slc 5 (l.map wdPV) false)] (rR g W fa h w u ++ pinB us [10]) (.pv (u64 (giveR h w W u l).1)) (rR g (giveR h w W u l).2.1 fa h w (giveR h w W u l).2.2 ++ pinB us [10]) :=
 give_call g W fa h w u l hm.hh hm.hw hm.hu hl hm.len us
abbrev imgC (g : Img) : List PV := [.slc 4 (g.types.map tdPV) false, .slc 7 (g.fields.map fdPV) false, .slc 12 (g.methods.map mePV) false, pi g.entry]
def objR (g : Img) (h w : Nat) (W : List Wd) (u : Nat) (t : Int) : RGiv := if kindG g t = 0 then giveR h w W u ((headP ⟨5, t, 0, false⟩, ty1) :: (objT g t).map zw) else (0, W, u)
def delR (g : Img) (h w : Nat) (W : List Wd) (u : Nat) (t this m : Int) : RGiv := if kindG g t = 3 then giveR h w W u [(headP ⟨5, t, 0, false⟩, ty1), (this, ⟨4, 0, 0, false⟩), (IntKind.u64.wrap m, ⟨9, 0, 0, false⟩)] else (0, W, u)
theorem okT_class {g : Img} (hf : fineR g = true) {t k : Int} (h : kindG g t = k) (hk : k ≠ -1) : okT ⟨5, t, 0, false⟩ := by
 obtain ⟨h0, h1⟩ := kindG_there h hk
 have := OkA_len hf
 exact ⟨by simp, ⟨by show _ ≤ t; omega, by show t ≤ _; omega⟩, by simp⟩
set_option maxHeartbeats 4000000 in
theorem ObjectRM_call {g : Img} {W : List Wd} {h w u : Nat} (hm : RM g W h w u) (fa t : Int) (us : Nat → Value) :
  ACallM Tryz.prog 77 [.box 10 0, .pv (pi t)] (rR g W fa h w u ++ pinB us [10]) (.pv (u64 (objR g h w W u t).1)) (rR g (objR g h w W u t).2.1 fa h w (objR g h w W u t).2.2 ++ pinB us [10]) := by
 have hF := fine_of hm.fine
 have c1 := KindR_call g t
 rw [objR]
 by_cases hk : kindG g t = 0
 ·rw [if_pos hk]
  have hb : (kindG g t != 0) = false := by simp [hk]
  have hok := okT_class hm.fine hk (by decide)
  have hle := objT_le hF t
  have c2 := ObjectR_call g hF t
  have c3 := zerosP_call (objT g t) (by omega)
  have cG := fun us' => giveR_call hm fa ((headP ⟨5, t, 0, false⟩, ty1) :: (objT g t).map zw) (by simp only [List.length_cons, List.length_map]; omega) us'
  refine acallM_intro tbOK Tryz.func77 rfl (by kernel_rfl) Tryz.ntmps77 (by simp) _ rfl (fun gB hw1 => ?_)
  repeat' (first | refine ao_q rfl (q_boxload (ps := imgC g) tbOK rfl rfl rfl rfl rfl) rfl rfl ?_ | refine ao_callR 20 rfl rfl rfl (headR_call ⟨5, t, 0, false⟩ hok) (by decide) rfl rfl rfl ?_ | refine ao_plainv 26 rfl rfl ?_ | (refine shC ?_; first | refine qC c1 ?_ | refine qC c2 ?_ | refine qC c3 ?_) | (refine ao_sh_bi ?_; first | refine ao_append tbOK rfl rfl rfl rfl rfl rfl rfl (by show _ * 40 ≤ _; simp only [List.length_map, List.length_cons, List.length_nil]; omega) (by simp only [List.length_map, List.length_cons, List.length_nil]; omega) rfl rfl ?_) | (refine ao_sh_call ?_; first | (refine ao_callM (rR g W fa h w u) (rR g (giveR h w W u ((headP ⟨5, t, 0, false⟩, ty1) :: (objT g t).map zw)).2.1 fa h w (giveR h w W u ((headP ⟨5, t, 0, false⟩, ty1) :: (objT g t).map zw)).2.2) [(1010, .pin (.own 10) (us 10))] [] [10] noLoneH rfl rfl rfl ?_ tS rfl rfl rfl cG ?_; · (repeat (first | exact hsub_nil | refine hsub_cons rfl ?_)))) | refine sK ?_ | refine sC (fun _ => ?_) (fun _ => ?_) | fail)
  exact ⟨.inr rfl, .inl ⟨_, rfl, rfl, ⟨by repeat (first | exact hsub_nil | refine hsub_cons rfl ?_), rfl⟩⟩⟩
 ·rw [if_neg hk]
  have hb : (kindG g t != 0) = true := by simp [hk]
  refine acallM_intro tbOK Tryz.func77 rfl (by kernel_rfl) Tryz.ntmps77 (by simp) _ rfl (fun gB hw1 => ?_)
  repeat' (first | refine ao_q rfl (q_boxload (ps := imgC g) tbOK rfl rfl rfl rfl rfl) rfl rfl ?_ | (refine shC ?_; first | refine qC c1 ?_) | refine sK ?_ | refine sC (fun _ => ?_) (fun _ => ?_) | fail)
  exact ⟨.inr rfl, .inl ⟨_, rfl, rfl, ⟨by repeat (first | exact hsub_nil | refine hsub_cons rfl ?_), rfl⟩⟩⟩
set_option maxHeartbeats 4000000 in
theorem DelegateRM_call {g : Img} {W : List Wd} {h w u : Nat} (hm : RM g W h w u) (fa t this m : Int) (us : Nat → Value) :
  ACallM Tryz.prog 80 [.box 10 0, .pv (pi t), .pv (u64 this), .pv (pi m)] (rR g W fa h w u ++ pinB us [10]) (.pv (u64 (delR g h w W u t this m).1)) (rR g (delR g h w W u t this m).2.1 fa h w (delR g h w W u t this m).2.2 ++ pinB us [10]) := by
 have c1 := KindR_call g t
 rw [delR]
 by_cases hk : kindG g t = 3
 ·rw [if_pos hk]
  have hb : (kindG g t != 3) = false := by simp [hk]
  have hok := okT_class hm.fine hk (by decide)
  have cG := fun us' => giveR_call hm fa [(headP ⟨5, t, 0, false⟩, ty1), (this, ⟨4, 0, 0, false⟩), (IntKind.u64.wrap m, ⟨9, 0, 0, false⟩)] (by simp) us'
  refine acallM_intro tbOK Tryz.func80 rfl (by kernel_rfl) Tryz.ntmps80 (by simp) _ rfl (fun gB hw1 => ?_)
  repeat' (first | refine ao_q rfl (q_boxload (ps := imgC g) tbOK rfl rfl rfl rfl rfl) rfl rfl ?_ | refine ao_callR 20 rfl rfl rfl (headR_call ⟨5, t, 0, false⟩ hok) (by decide) rfl rfl rfl ?_ | refine ao_plainv 31 rfl rfl ?_ | (refine shC ?_; first | refine qC c1 ?_) | (refine ao_sh_bi ?_; first | refine ao_append tbOK rfl rfl rfl rfl rfl rfl rfl (by show _ * 40 ≤ _; simp) (by simp) rfl rfl ?_) | (refine ao_sh_call ?_; first | (refine ao_callM (rR g W fa h w u) (rR g (giveR h w W u [(headP ⟨5, t, 0, false⟩, ty1), (this, ⟨4, 0, 0, false⟩), (IntKind.u64.wrap m, ⟨9, 0, 0, false⟩)]).2.1 fa h w (giveR h w W u [(headP ⟨5, t, 0, false⟩, ty1), (this, ⟨4, 0, 0, false⟩), (IntKind.u64.wrap m, ⟨9, 0, 0, false⟩)]).2.2) [(1010, .pin (.own 10) (us 10))] [] [10] noLoneH rfl rfl rfl ?_ tS rfl rfl rfl cG ?_; · (repeat (first | exact hsub_nil | refine hsub_cons rfl ?_)))) | refine sK ?_ | refine sC (fun _ => ?_) (fun _ => ?_) | fail)
  exact ⟨.inr rfl, .inl ⟨_, rfl, rfl, ⟨by repeat (first | exact hsub_nil | refine hsub_cons rfl ?_), rfl⟩⟩⟩
 ·rw [if_neg hk]
  have hb : (kindG g t != 3) = true := by simp [hk]
  refine acallM_intro tbOK Tryz.func80 rfl (by kernel_rfl) Tryz.ntmps80 (by simp) _ rfl (fun gB hw1 => ?_)
  repeat' (first | refine ao_q rfl (q_boxload (ps := imgC g) tbOK rfl rfl rfl rfl rfl) rfl rfl ?_ | (refine shC ?_; first | refine qC c1 ?_) | refine sK ?_ | refine sC (fun _ => ?_) (fun _ => ?_) | fail)
  exact ⟨.inr rfl, .inl ⟨_, rfl, rfl, ⟨by repeat (first | exact hsub_nil | refine hsub_cons rfl ?_), rfl⟩⟩⟩
def arrWd (t : Ty) (n : Int) (cs : List Ty) (i : Nat) : List Wd := (headP (upT t), ty1) :: (IntKind.u64.wrap n, ty1) :: (List.replicate i (cs.map zw)).flatten
theorem arrWd_len (t : Ty) (n : Int) (cs : List Ty) (i : Nat) : (arrWd t n cs i).length = 2 + i * cs.length := by
 simp [arrWd]; omega
theorem arrWd_snoc (t : Ty) (n : Int) (cs : List Ty) (i : Nat) : arrWd t n cs i ++ cs.map zw = arrWd t n cs (i + 1) := by
 rw [arrWd, arrWd, List.replicate_succ', List.flatten_append]; simp
def arrR (g : Img) (h w : Nat) (W : List Wd) (u : Nat) (t : Ty) (n : Int) : RGiv :=
 if n < 0 ∨ 4096 < n ∨ 3 ≤ t.dims ∨ elemR g t = false then (0, W, u) else giveR h w W u (arrWd t n (cellsT g t) n.toNat)
theorem arrR_no {g : Img} {h w u : Nat} {W : List Wd} {t : Ty} {n : Int} (hc : n < 0 ∨ 4096 < n ∨ 3 ≤ t.dims ∨ elemR g t = false) : arrR g h w W u t n = (0, W, u) := by rw [arrR, if_pos hc]
set_option maxHeartbeats 8000000 in
theorem ArrayRM_call {g : Img} {W : List Wd} {h w u : Nat} (hm : RM g W h w u) (fa : Int) (t : Ty) (ht : okT t) (n : Int) (us : Nat → Value) :
  ACallM Tryz.prog 78 [.box 10 0, .pv (tyPV t), .pv (pi n)] (rR g W fa h w u ++ pinB us [10]) (.pv (u64 (arrR g h w W u t n).1)) (rR g (arrR g h w W u t n).2.1 fa h w (arrR g h w W u t n).2.2 ++ pinB us [10]) := by
 have hF := fine_of hm.fine
 have hu := hm.hu
 have hw := hm.hw
 have hh := hm.hh
 by_cases h0 : n < 0
 ·rw [arrR_no (.inl h0)]
  have e0 : decide (n < 0) = true := decide_eq_true h0
  refine acallM_intro tbOK Tryz.func78 rfl (by kernel_rfl) Tryz.ntmps78 (by simp) _ rfl (fun gB hw1 => ?_)
  repeat' (first | refine sK ?_ | refine sC (fun _ => ?_) (fun _ => ?_) | fail)
  exact ⟨.inr rfl, .inl ⟨_, rfl, rfl, ⟨by repeat (first | exact hsub_nil | refine hsub_cons rfl ?_), rfl⟩⟩⟩
 ·have e0 : decide (n < 0) = false := decide_eq_false h0
  by_cases h4 : 4096 < n
  ·rw [arrR_no (.inr (.inl h4))]
   have e4 : decide (4096 < n) = true := decide_eq_true h4
   refine acallM_intro tbOK Tryz.func78 rfl (by kernel_rfl) Tryz.ntmps78 (by simp) _ rfl (fun gB hw1 => ?_)
   repeat' (first | refine sK ?_ | refine sC (fun _ => ?_) (fun _ => ?_) | fail)
   exact ⟨.inr rfl, .inl ⟨_, rfl, rfl, ⟨by repeat (first | exact hsub_nil | refine hsub_cons rfl ?_), rfl⟩⟩⟩
  ·have e4 : decide (4096 < n) = false := decide_eq_false h4
   by_cases h3 : 3 ≤ t.dims
   ·rw [arrR_no (.inr (.inr (.inl h3)))]
    have e1 : decide (3 ≤ t.dims) = true := decide_eq_true h3
    refine acallM_intro tbOK Tryz.func78 rfl (by kernel_rfl) Tryz.ntmps78 (by simp) _ rfl (fun gB hw1 => ?_)
    repeat' (first | refine sK ?_ | refine sC (fun _ => ?_) (fun _ => ?_) | fail)
    exact ⟨.inr rfl, .inl ⟨_, rfl, rfl, ⟨by repeat (first | exact hsub_nil | refine hsub_cons rfl ?_), rfl⟩⟩⟩
   ·have e1 : decide (3 ≤ t.dims) = false := decide_eq_false h3
    have cE := Element_call g W fa (h : Int) ((h + w : Nat) : Int) (u : Int) t
    cases hel : elemR g t
    ·rw [hel] at cE
     rw [arrR_no (.inr (.inr (.inr hel)))]
     refine acallM_intro tbOK Tryz.func78 rfl (by kernel_rfl) Tryz.ntmps78 (by simp) _ rfl (fun gB hw1 => ?_)
     repeat' (first | refine ao_q (r := .pv (pb false)) rfl (q_callO (args := fun ρ => [.ptr (rPV g W fa (h : Int) ((h + w : Nat) : Int) (u : Int)) 0, tyPV t]) rfl (fun _ => rfl) (fun ρ => cE)) rfl rfl ?_ | refine AD.step _ _ _ (.pv (pb false)) _ rfl (q_callO (args := fun ρ => [.ptr (rPV g W fa (h : Int) ((h + w : Nat) : Int) (u : Int)) 0, tyPV t]) rfl (fun _ => rfl) (fun ρ => cE)) rfl rfl ?_ | refine sK ?_ | refine sC (fun _ => ?_) (fun _ => ?_) | fail)
     exact ⟨.inr rfl, .inl ⟨_, rfl, rfl, ⟨by repeat (first | exact hsub_nil | refine hsub_cons rfl ?_), rfl⟩⟩⟩
    ·rw [hel] at cE
     rw [arrR, if_neg (by rw [hel]; simp; omega)]
     have hus : usedR g t = true := by rw [elemR, Bool.and_eq_true] at hel; exact hel.2
     have hc8 := hF.used_le hus
     have c2 := CellsRT_call g hF t
     obtain ⟨cs, hcs⟩ : ∃ cs, cellsT g t = cs := ⟨_, rfl⟩
     rw [hcs] at c2 hc8 ⊢
     have c3 := zerosP_call cs (by omega)
     have hok : okT (upT t) := ⟨ht.1, ht.2.1, by show -9223372036854775808 ≤ IntKind.i64.wrap (t.dims + 1) ∧ IntKind.i64.wrap (t.dims + 1) ≤ 9223372036854775807; have := ht.2.2; rw [wrap_in (by omega) (by omega)]; omega⟩
     obtain ⟨N, rfl⟩ : ∃ N : Nat, n = (N : Int) := ⟨n.toNat, by omega⟩
     rw [Int.toNat_natCast]
     have hml : N * cs.length ≤ 4096 * 8 := Nat.mul_le_mul (by omega) hc8
     have hneed : IntKind.i64.wrap (IntKind.i64.wrap ((N : Int) * ((((cs.map zw).map wdPV).length : Nat) : Int)) + 2) = ((N * cs.length + 2 : Nat) : Int) := by
      rw [List.length_map, List.length_map, ← Int.natCast_mul, wrap_in (a := ((N * cs.length : Nat) : Int)) (by omega) (by omega), wrap_in (by omega) (by omega)]; omega
     have hleft : IntKind.i64.wrap (IntKind.i64.wrap (((h + w : Nat) : Int) - (h : Int)) - (u : Int)) = (w : Int) - u := by
      rw [wrap_in (a := ((h + w : Nat) : Int) - (h : Int)) (by omega) (by omega), wrap_in (by omega) (by omega)]; omega
     by_cases hroom : u + (N * cs.length + 2) ≤ w
     ·have e5 : decide (IntKind.i64.wrap (IntKind.i64.wrap (((h + w : Nat) : Int) - (h : Int)) - (u : Int)) < IntKind.i64.wrap (IntKind.i64.wrap ((N : Int) * ((((cs.map zw).map wdPV).length : Nat) : Int)) + 2)) = false := decide_eq_false (by rw [hneed, hleft]; omega)
      have cG := fun us' => giveR_call hm fa (arrWd t (N : Int) cs N) (by rw [arrWd_len]; omega) us'
      refine acallM_intro tbOK Tryz.func78 rfl (by kernel_rfl) Tryz.ntmps78 (by simp) _ rfl (fun gB hw1 => ?_)
      repeat' (first | refine ao_q (r := .pv (pb true)) rfl (q_callO (args := fun ρ => [.ptr (rPV g W fa (h : Int) ((h + w : Nat) : Int) (u : Int)) 0, tyPV t]) rfl (fun _ => rfl) (fun ρ => cE)) rfl rfl ?_ | refine AD.step _ _ _ (.pv (pb true)) _ rfl (q_callO (args := fun ρ => [.ptr (rPV g W fa (h : Int) ((h + w : Nat) : Int) (u : Int)) 0, tyPV t]) rfl (fun _ => rfl) (fun ρ => cE)) rfl rfl ?_ | refine AD.step _ _ _ _ _ rfl (q_boxload (ps := imgC g) tbOK rfl rfl rfl rfl rfl) rfl rfl ?_ | refine ao_aggpv 33 [pi t.kind, pi t.index, pi (IntKind.i64.wrap (t.dims + 1)), pb t.ref] rfl rfl ?_ | refine ao_callR 20 rfl rfl rfl (headR_call (upT t) hok) (by decide) rfl rfl rfl ?_ | (refine shC ?_; first | refine qC c2 ?_ | refine qC c3 ?_) | (refine ao_sh_bi ?_; first | refine ao_append tbOK rfl rfl rfl rfl rfl rfl rfl (by show _ * 40 ≤ _; simp) (by simp) rfl rfl ?_) | refine sK ?_ | refine sC (fun _ => ?_) (fun _ => ?_) | fail)
      refine aw_loop (fun i : Nat => [(0, .box 10 0), (2, .pv (pi (N : Int))), (8, .own 20), (9, .pv (.slc 5 ((cs.map zw).map wdPV) false)), (10, .pv (pi i))]) (fun i => (20, .row 138 5 ((arrWd t (N : Int) cs i).map wdPV)) :: (rR g W fa h w u ++ pinB us [10])) (fun i => i ≤ N) (fun i => N - i) 0 (by omega) (tS) ⟨by repeat (first | exact hsub_nil | refine hsub_cons rfl ?_), rfl⟩ ?_
      rintro i hi
      by_cases hlt : i < N
      ·have e6 : decide ((i : Int) < (N : Int)) = true := decide_eq_true (by omega)
       have hrw : (arrWd t (N : Int) cs i).map wdPV ++ (cs.map zw).map wdPV = (arrWd t (N : Int) cs (i + 1)).map wdPV := by rw [← List.map_append, arrWd_snoc]
       have hb1 : ((arrWd t (N : Int) cs i).map wdPV).length = 2 + i * cs.length := by rw [List.length_map, arrWd_len]
       have hb2 : ((cs.map zw).map wdPV).length = cs.length := by rw [List.length_map, List.length_map]
       have hml2 : i * cs.length ≤ 4096 * 8 := Nat.mul_le_mul (by omega) hc8
       repeat' (first | (refine ao_sh_bi ?_; first | refine ao_append tbOK rfl rfl rfl rfl rfl rfl rfl (by show _ * 40 ≤ _; rw [hb1, hb2]; omega) (by rw [hb1, hb2]; omega) rfl rfl ?_) | refine sK ?_ | refine sC (fun _ => ?_) (fun _ => ?_) | fail)
       exact ⟨i + 1, hlt, tD, tS, ⟨hsub_r rfl hrw (by repeat (first | exact hsub_nil | refine hsub_cons rfl ?_)), rfl⟩⟩
      ·have hi2 : i = N := by omega
       subst hi2
       have e6 : decide ((i : Int) < (i : Int)) = false := decide_eq_false (by omega)
       repeat' (first | refine ao_plainv 78 rfl rfl ?_ | (refine ao_sh_call ?_; first | (refine ao_callM (rR g W fa h w u) (rR g (giveR h w W u (arrWd t (i : Int) cs i)).2.1 fa h w (giveR h w W u (arrWd t (i : Int) cs i)).2.2) [(1010, .pin (.own 10) (us 10))] [] [10] noLoneH rfl rfl rfl ?_ tS rfl rfl rfl cG ?_; · (repeat (first | exact hsub_nil | refine hsub_cons rfl ?_)))) | refine sK ?_ | refine sC (fun _ => ?_) (fun _ => ?_) | fail)
       exact ⟨.inr rfl, .inl ⟨_, rfl, rfl, ⟨by repeat (first | exact hsub_nil | refine hsub_cons rfl ?_), rfl⟩⟩⟩
     ·have e5 : decide (IntKind.i64.wrap (IntKind.i64.wrap (((h + w : Nat) : Int) - (h : Int)) - (u : Int)) < IntKind.i64.wrap (IntKind.i64.wrap ((N : Int) * ((((cs.map zw).map wdPV).length : Nat) : Int)) + 2)) = true := decide_eq_true (by rw [hneed, hleft]; omega)
      rw [giveR, if_neg (by rw [arrWd_len]; omega)]
      refine acallM_intro tbOK Tryz.func78 rfl (by kernel_rfl) Tryz.ntmps78 (by simp) _ rfl (fun gB hw1 => ?_)
      repeat' (first | refine ao_q (r := .pv (pb true)) rfl (q_callO (args := fun ρ => [.ptr (rPV g W fa (h : Int) ((h + w : Nat) : Int) (u : Int)) 0, tyPV t]) rfl (fun _ => rfl) (fun ρ => cE)) rfl rfl ?_ | refine AD.step _ _ _ (.pv (pb true)) _ rfl (q_callO (args := fun ρ => [.ptr (rPV g W fa (h : Int) ((h + w : Nat) : Int) (u : Int)) 0, tyPV t]) rfl (fun _ => rfl) (fun ρ => cE)) rfl rfl ?_ | refine AD.step _ _ _ _ _ rfl (q_boxload (ps := imgC g) tbOK rfl rfl rfl rfl rfl) rfl rfl ?_ | refine ao_aggpv 33 [pi t.kind, pi t.index, pi (IntKind.i64.wrap (t.dims + 1)), pb t.ref] rfl rfl ?_ | refine ao_callR 20 rfl rfl rfl (headR_call (upT t) hok) (by decide) rfl rfl rfl ?_ | (refine shC ?_; first | refine qC c2 ?_ | refine qC c3 ?_) | (refine ao_sh_bi ?_; first | refine ao_append tbOK rfl rfl rfl rfl rfl rfl rfl (by show _ * 40 ≤ _; simp) (by simp) rfl rfl ?_) | refine sK ?_ | refine sC (fun _ => ?_) (fun _ => ?_) | fail)
      exact ⟨.inr rfl, .inl ⟨_, rfl, rfl, ⟨by repeat (first | exact hsub_nil | refine hsub_cons rfl ?_), rfl⟩⟩⟩
end Go.Cg
