/- A part of the walks by abstract values: no statement of its own. -/
import Derived.Test.YthekdpbplmigeaaGreatU17
import Derived.Test.YthekdpbplmigeaaGreatU15
namespace Go.Cg
open Go.Proofs
def upT (t : Ty) : Ty := ⟨t.kind, t.index, IntKind.i64.wrap (t.dims + 1), t.ref⟩
def arrM (g : Img) (h w : Nat) (ws : List Int) (u : Nat) (t : Ty) (n : Int) : Giv :=
 if n < 0 ∨ 3 ≤ t.dims ∨ sizeG g t = 0 ∨ 4096 < n then (0, ws, u) else giveG h w ws u (upT t) [IntKind.u64.wrap n] (n.toNat * sizeG g t)
def boxM (g : Img) (h w : Nat) (ws : List Int) (u : Nat) (t : Ty) (l : List Int) : Giv :=
 if t.dims ≠ 0 ∨ ¬(t.kind = 2 ∨ t.kind = 3 ∨ t.kind = 6) ∨ sizeG g t = 0 ∨ sizeG g t ≠ l.length then (0, ws, u) else giveG h w ws u t l 0
theorem arr_no {g : Img} {h w u : Nat} {ws : List Int} {t : Ty} {n : Int} (hc : n < 0 ∨ 3 ≤ t.dims ∨ sizeG g t = 0 ∨ 4096 < n) : arrM g h w ws u t n = (0, ws, u) := by rw [arrM, if_pos hc]
theorem box_no {g : Img} {h w u : Nat} {ws : List Int} {t : Ty} {l : List Int} (hc : t.dims ≠ 0 ∨ ¬(t.kind = 2 ∨ t.kind = 3 ∨ t.kind = 6) ∨ sizeG g t = 0 ∨ sizeG g t ≠ l.length) : boxM g h w ws u t l = (0, ws, u) := by rw [boxM, if_pos hc]
set_option maxHeartbeats 4000000 in
theorem ArrayG_call {g : Img} {ws : List Int} {h w u : Nat} (hm : GM g ws h w u) (fa : Int) (t : Ty) (n : Int) (us : Nat → Value) :
  ACallM Tryz.prog 58 [.box 0 0, .pv (tyPV t), .pv (pi n)] (gR g ws fa h w u ++ pinB us [0]) (.pv (u64 (arrM g h w ws u t n).1)) (gR g (arrM g h w ws u t n).2.1 fa h w (arrM g h w ws u t n).2.2 ++ pinB us [0]) := by
 have hN := (formedG_bounds (fine_of hm.fine).formed).1
 have cS := fun us' => sizeM_call g hN ws fa (h : Int) ((h + w : Nat) : Int) (u : Int) t us'
 have hS8 := sizeG_le hm.fine t
 by_cases h0 : n < 0
 ·rw [arr_no (.inl h0)]
  have e0 : decide (n < 0) = true := decide_eq_true h0
  refine acallM_intro tbOK Tryz.func58 rfl (by kernel_rfl) Tryz.ntmps58 (by simp) _ rfl (fun gB hw1 => ?_)
  repeat' (first | refine ao_q rfl (q_isnil (b := false) rfl Tryz.underlying31 rfl rfl) rfl rfl ?_ | refine AD.step _ _ _ _ _ rfl (q_isnil (b := false) rfl Tryz.underlying31 rfl rfl) rfl rfl ?_ | (refine ao_sh_box ?_; first | refine ao_boxm 1 rfl rfl rfl rfl rfl rfl ?_) | refine sK ?_ | refine sC (fun _ => ?_) (fun _ => ?_) | fail)
  exact ⟨.inr rfl, .inl ⟨_, rfl, rfl, ⟨by repeat (first | exact hsub_nil | refine hsub_cons rfl ?_), rfl⟩⟩⟩
 ·have e0 : decide (n < 0) = false := decide_eq_false h0
  by_cases h3 : 3 ≤ t.dims
  ·rw [arr_no (.inr (.inl h3))]
   have e1 : decide (3 ≤ t.dims) = true := decide_eq_true h3
   refine acallM_intro tbOK Tryz.func58 rfl (by kernel_rfl) Tryz.ntmps58 (by simp) _ rfl (fun gB hw1 => ?_)
   repeat' (first | refine ao_q rfl (q_isnil (b := false) rfl Tryz.underlying31 rfl rfl) rfl rfl ?_ | refine AD.step _ _ _ _ _ rfl (q_isnil (b := false) rfl Tryz.underlying31 rfl rfl) rfl rfl ?_ | (refine ao_sh_box ?_; first | refine ao_boxm 1 rfl rfl rfl rfl rfl rfl ?_) | refine sK ?_ | refine sC (fun _ => ?_) (fun _ => ?_) | fail)
   exact ⟨.inr rfl, .inl ⟨_, rfl, rfl, ⟨by repeat (first | exact hsub_nil | refine hsub_cons rfl ?_), rfl⟩⟩⟩
  ·have e1 : decide (3 ≤ t.dims) = false := decide_eq_false h3
   by_cases hs : sizeG g t = 0
   ·rw [arr_no (.inr (.inr (.inl hs)))]
    rw [hs] at cS
    refine acallM_intro tbOK Tryz.func58 rfl (by kernel_rfl) Tryz.ntmps58 (by simp) _ rfl (fun gB hw1 => ?_)
    repeat' (first | refine ao_q rfl (q_isnil (b := false) rfl Tryz.underlying31 rfl rfl) rfl rfl ?_ | refine AD.step _ _ _ _ _ rfl (q_isnil (b := false) rfl Tryz.underlying31 rfl rfl) rfl rfl ?_ | (refine ao_sh_box ?_; first | refine ao_boxm 1 rfl rfl rfl rfl rfl rfl ?_) | (refine ao_sh_call ?_; first | (refine ao_callM (gR g ws fa h w u) (gR g ws fa h w u) [(1000, .pin (.own 0) (us 0)), (1, .cell (.pv (tyPV t)))] [(0, .box 0 0), (2, .pv (pi n)), (4, .box 1 0)] [0] noLoneH rfl rfl rfl ?_ tS rfl rfl rfl cS ?_; · (repeat (first | exact hsub_nil | refine hsub_cons rfl ?_)))) | refine sK ?_ | refine sC (fun _ => ?_) (fun _ => ?_) | fail)
    exact ⟨.inr rfl, .inl ⟨_, rfl, rfl, ⟨by repeat (first | exact hsub_nil | refine hsub_cons rfl ?_), rfl⟩⟩⟩
   ·have e2 : (((sizeG g t : Nat) : Int) == 0) = false := by simp; omega
    by_cases h4 : 4096 < n
    ·rw [arr_no (.inr (.inr (.inr h4)))]
     have e3 : decide (4096 < n) = true := decide_eq_true h4
     refine acallM_intro tbOK Tryz.func58 rfl (by kernel_rfl) Tryz.ntmps58 (by simp) _ rfl (fun gB hw1 => ?_)
     repeat' (first | refine ao_q rfl (q_isnil (b := false) rfl Tryz.underlying31 rfl rfl) rfl rfl ?_ | refine AD.step _ _ _ _ _ rfl (q_isnil (b := false) rfl Tryz.underlying31 rfl rfl) rfl rfl ?_ | (refine ao_sh_box ?_; first | refine ao_boxm 1 rfl rfl rfl rfl rfl rfl ?_) | (refine ao_sh_call ?_; first | (refine ao_callM (gR g ws fa h w u) (gR g ws fa h w u) [(1000, .pin (.own 0) (us 0)), (1, .cell (.pv (tyPV t)))] [(0, .box 0 0), (2, .pv (pi n)), (4, .box 1 0)] [0] noLoneH rfl rfl rfl ?_ tS rfl rfl rfl cS ?_; · (repeat (first | exact hsub_nil | refine hsub_cons rfl ?_)))) | refine sK ?_ | refine sC (fun _ => ?_) (fun _ => ?_) | fail)
     exact ⟨.inr rfl, .inl ⟨_, rfl, rfl, ⟨by repeat (first | exact hsub_nil | refine hsub_cons rfl ?_), rfl⟩⟩⟩
    ·have e3 : decide (4096 < n) = false := decide_eq_false h4
     rw [arrM, if_neg (by omega)]
     have hz : n.toNat * sizeG g t ≤ 1000000 := Nat.le_trans (Nat.mul_le_mul (show n.toNat ≤ 4096 by omega) hS8) (by decide)
     have hmul : IntKind.i64.wrap (n * ((sizeG g t : Nat) : Int)) = ((n.toNat * sizeG g t : Nat) : Int) := by
      have e : n * ((sizeG g t : Nat) : Int) = ((n.toNat * sizeG g t : Nat) : Int) := by
       rw [Int.natCast_mul, Int.toNat_of_nonneg (by omega)]
      rw [e, wrap_in (by omega) (by omega)]
     have cM := fun us' => giveG_call hm fa (n.toNat * sizeG g t) (upT t) [IntKind.u64.wrap n] true (by simp) hz us'
     rw [← hmul] at cM
     refine acallM_intro tbOK Tryz.func58 rfl (by kernel_rfl) Tryz.ntmps58 (by simp) _ rfl (fun gB hw1 => ?_)
     repeat' (first | refine ao_q rfl (q_isnil (b := false) rfl Tryz.underlying31 rfl rfl) rfl rfl ?_ | refine AD.step _ _ _ _ _ rfl (q_isnil (b := false) rfl Tryz.underlying31 rfl rfl) rfl rfl ?_ | refine ao_aggpv 33 [pi t.kind, pi t.index, pi (IntKind.i64.wrap (t.dims + 1)), pb t.ref] rfl rfl ?_ | (refine ao_sh_box ?_; first | refine ao_boxm 1 rfl rfl rfl rfl rfl rfl ?_) | (refine ao_sh_call ?_; first | (refine ao_callM (gR g ws fa h w u) (gR g ws fa h w u) [(1000, .pin (.own 0) (us 0)), (1, .cell (.pv (tyPV t)))] [(0, .box 0 0), (2, .pv (pi n)), (4, .box 1 0)] [0] noLoneH rfl rfl rfl ?_ tS rfl rfl rfl cS ?_; · (repeat (first | exact hsub_nil | refine hsub_cons rfl ?_))) | (refine ao_callM (gR g ws fa h w u) (gR g (giveG h w ws u (upT t) [IntKind.u64.wrap n] (n.toNat * sizeG g t)).2.1 fa h w (giveG h w ws u (upT t) [IntKind.u64.wrap n] (n.toNat * sizeG g t)).2.2) [(1000, .pin (.own 0) (us 0))] [] [0] noLoneH rfl rfl rfl ?_ tS rfl rfl rfl cM ?_; · (repeat (first | exact hsub_nil | refine hsub_cons rfl ?_)))) | refine sK ?_ | refine sC (fun _ => ?_) (fun _ => ?_) | fail)
     exact ⟨.inr rfl, .inl ⟨_, rfl, rfl, ⟨by repeat (first | exact hsub_nil | refine hsub_cons rfl ?_), rfl⟩⟩⟩
set_option maxHeartbeats 4000000 in
theorem BoxG_call {g : Img} {ws : List Int} {h w u : Nat} (hm : GM g ws h w u) (fa : Int) (t : Ty) (l : List Int) (hl : l.length ≤ 100) (us : Nat → Value) :
  ACallM Tryz.prog 68 [.box 0 0, .pv (tyPV t), .pv (lub l false)] (gR g ws fa h w u ++ pinB us [0]) (.pv (u64 (boxM g h w ws u t l).1)) (gR g (boxM g h w ws u t l).2.1 fa h w (boxM g h w ws u t l).2.2 ++ pinB us [0]) := by
 have hN := (formedG_bounds (fine_of hm.fine).formed).1
 have cS := fun us' => sizeM_call g hN ws fa (h : Int) ((h + w : Nat) : Int) (u : Int) t us'
 obtain ⟨k, i, d, r⟩ := t
 by_cases hd : d = 0
 ·subst hd
  by_cases hk : k = 2 ∨ k = 3 ∨ k = 6
  ·obtain ⟨S, hS⟩ : ∃ S, sizeG g ⟨k, i, 0, r⟩ = S := ⟨_, rfl⟩
   rw [hS] at cS
   by_cases h0 : S = 0
   ·rw [box_no (.inr (.inr (.inl (hS.trans h0))))]
    subst h0
    rcases hk with rfl | rfl | rfl
    ·refine acallM_intro tbOK Tryz.func68 rfl (by kernel_rfl) Tryz.ntmps68 (by simp) _ rfl (fun gB hw1 => ?_)
     repeat' (first | refine ao_q rfl (q_isnil (b := false) rfl Tryz.underlying31 rfl rfl) rfl rfl ?_ | refine AD.step _ _ _ _ _ rfl (q_isnil (b := false) rfl Tryz.underlying31 rfl rfl) rfl rfl ?_ | (refine ao_sh_box ?_; first | refine ao_boxm 1 rfl rfl rfl rfl rfl rfl ?_) | (refine ao_sh_call ?_; first | (refine ao_callM (gR g ws fa h w u) (gR g ws fa h w u) [(1000, .pin (.own 0) (us 0)), (1, .cell (.pv (tyPV ⟨2, i, 0, r⟩)))] [(0, .box 0 0), (2, .pv (lub l false)), (4, .box 1 0)] [0] noLoneH rfl rfl rfl ?_ tS rfl rfl rfl cS ?_; · (repeat (first | exact hsub_nil | refine hsub_cons rfl ?_)))) | refine sK ?_ | refine sC (fun _ => ?_) (fun _ => ?_) | fail)
     exact ⟨.inr rfl, .inl ⟨_, rfl, rfl, ⟨by repeat (first | exact hsub_nil | refine hsub_cons rfl ?_), rfl⟩⟩⟩
    ·refine acallM_intro tbOK Tryz.func68 rfl (by kernel_rfl) Tryz.ntmps68 (by simp) _ rfl (fun gB hw1 => ?_)
     repeat' (first | refine ao_q rfl (q_isnil (b := false) rfl Tryz.underlying31 rfl rfl) rfl rfl ?_ | refine AD.step _ _ _ _ _ rfl (q_isnil (b := false) rfl Tryz.underlying31 rfl rfl) rfl rfl ?_ | (refine ao_sh_box ?_; first | refine ao_boxm 1 rfl rfl rfl rfl rfl rfl ?_) | (refine ao_sh_call ?_; first | (refine ao_callM (gR g ws fa h w u) (gR g ws fa h w u) [(1000, .pin (.own 0) (us 0)), (1, .cell (.pv (tyPV ⟨3, i, 0, r⟩)))] [(0, .box 0 0), (2, .pv (lub l false)), (4, .box 1 0)] [0] noLoneH rfl rfl rfl ?_ tS rfl rfl rfl cS ?_; · (repeat (first | exact hsub_nil | refine hsub_cons rfl ?_)))) | refine sK ?_ | refine sC (fun _ => ?_) (fun _ => ?_) | fail)
     exact ⟨.inr rfl, .inl ⟨_, rfl, rfl, ⟨by repeat (first | exact hsub_nil | refine hsub_cons rfl ?_), rfl⟩⟩⟩
    ·refine acallM_intro tbOK Tryz.func68 rfl (by kernel_rfl) Tryz.ntmps68 (by simp) _ rfl (fun gB hw1 => ?_)
     repeat' (first | refine ao_q rfl (q_isnil (b := false) rfl Tryz.underlying31 rfl rfl) rfl rfl ?_ | refine AD.step _ _ _ _ _ rfl (q_isnil (b := false) rfl Tryz.underlying31 rfl rfl) rfl rfl ?_ | (refine ao_sh_box ?_; first | refine ao_boxm 1 rfl rfl rfl rfl rfl rfl ?_) | (refine ao_sh_call ?_; first | (refine ao_callM (gR g ws fa h w u) (gR g ws fa h w u) [(1000, .pin (.own 0) (us 0)), (1, .cell (.pv (tyPV ⟨6, i, 0, r⟩)))] [(0, .box 0 0), (2, .pv (lub l false)), (4, .box 1 0)] [0] noLoneH rfl rfl rfl ?_ tS rfl rfl rfl cS ?_; · (repeat (first | exact hsub_nil | refine hsub_cons rfl ?_)))) | refine sK ?_ | refine sC (fun _ => ?_) (fun _ => ?_) | fail)
     exact ⟨.inr rfl, .inl ⟨_, rfl, rfl, ⟨by repeat (first | exact hsub_nil | refine hsub_cons rfl ?_), rfl⟩⟩⟩
   ·have e2 : ((S : Int) == 0) = false := by simp; omega
    by_cases h1 : S = l.length
    ·have e3 : ((S : Int) != (((l.map u64).length : Nat) : Int)) = false := by rw [List.length_map, h1]; simp
     rw [boxM, if_neg (by rw [hS]; simp only; omega)]
     have cM := fun us' => giveG_call hm fa 0 ⟨k, i, 0, r⟩ l false hl (by omega) us'
     rcases hk with rfl | rfl | rfl
     ·refine acallM_intro tbOK Tryz.func68 rfl (by kernel_rfl) Tryz.ntmps68 (by simp) _ rfl (fun gB hw1 => ?_)
      repeat' (first | refine ao_q rfl (q_isnil (b := false) rfl Tryz.underlying31 rfl rfl) rfl rfl ?_ | refine AD.step _ _ _ _ _ rfl (q_isnil (b := false) rfl Tryz.underlying31 rfl rfl) rfl rfl ?_ | (refine ao_sh_box ?_; first | refine ao_boxm 1 rfl rfl rfl rfl rfl rfl ?_) | (refine ao_sh_call ?_; first | (refine ao_callM (gR g ws fa h w u) (gR g ws fa h w u) [(1000, .pin (.own 0) (us 0)), (1, .cell (.pv (tyPV ⟨2, i, 0, r⟩)))] [(0, .box 0 0), (2, .pv (lub l false)), (4, .box 1 0)] [0] noLoneH rfl rfl rfl ?_ tS rfl rfl rfl cS ?_; · (repeat (first | exact hsub_nil | refine hsub_cons rfl ?_))) | (refine ao_callM (gR g ws fa h w u) (gR g (giveG h w ws u ⟨2, i, 0, r⟩ l 0).2.1 fa h w (giveG h w ws u ⟨2, i, 0, r⟩ l 0).2.2) [(1000, .pin (.own 0) (us 0))] [] [0] noLoneH rfl rfl rfl ?_ tS rfl rfl rfl cM ?_; · (repeat (first | exact hsub_nil | refine hsub_cons rfl ?_)))) | refine sK ?_ | refine sC (fun _ => ?_) (fun _ => ?_) | fail)
      exact ⟨.inr rfl, .inl ⟨_, rfl, rfl, ⟨by repeat (first | exact hsub_nil | refine hsub_cons rfl ?_), rfl⟩⟩⟩
     ·refine acallM_intro tbOK Tryz.func68 rfl (by kernel_rfl) Tryz.ntmps68 (by simp) _ rfl (fun gB hw1 => ?_)
      repeat' (first | refine ao_q rfl (q_isnil (b := false) rfl Tryz.underlying31 rfl rfl) rfl rfl ?_ | refine AD.step _ _ _ _ _ rfl (q_isnil (b := false) rfl Tryz.underlying31 rfl rfl) rfl rfl ?_ | (refine ao_sh_box ?_; first | refine ao_boxm 1 rfl rfl rfl rfl rfl rfl ?_) | (refine ao_sh_call ?_; first | (refine ao_callM (gR g ws fa h w u) (gR g ws fa h w u) [(1000, .pin (.own 0) (us 0)), (1, .cell (.pv (tyPV ⟨3, i, 0, r⟩)))] [(0, .box 0 0), (2, .pv (lub l false)), (4, .box 1 0)] [0] noLoneH rfl rfl rfl ?_ tS rfl rfl rfl cS ?_; · (repeat (first | exact hsub_nil | refine hsub_cons rfl ?_))) | (refine ao_callM (gR g ws fa h w u) (gR g (giveG h w ws u ⟨3, i, 0, r⟩ l 0).2.1 fa h w (giveG h w ws u ⟨3, i, 0, r⟩ l 0).2.2) [(1000, .pin (.own 0) (us 0))] [] [0] noLoneH rfl rfl rfl ?_ tS rfl rfl rfl cM ?_; · (repeat (first | exact hsub_nil | refine hsub_cons rfl ?_)))) | refine sK ?_ | refine sC (fun _ => ?_) (fun _ => ?_) | fail)
      exact ⟨.inr rfl, .inl ⟨_, rfl, rfl, ⟨by repeat (first | exact hsub_nil | refine hsub_cons rfl ?_), rfl⟩⟩⟩
     ·refine acallM_intro tbOK Tryz.func68 rfl (by kernel_rfl) Tryz.ntmps68 (by simp) _ rfl (fun gB hw1 => ?_)
      repeat' (first | refine ao_q rfl (q_isnil (b := false) rfl Tryz.underlying31 rfl rfl) rfl rfl ?_ | refine AD.step _ _ _ _ _ rfl (q_isnil (b := false) rfl Tryz.underlying31 rfl rfl) rfl rfl ?_ | (refine ao_sh_box ?_; first | refine ao_boxm 1 rfl rfl rfl rfl rfl rfl ?_) | (refine ao_sh_call ?_; first | (refine ao_callM (gR g ws fa h w u) (gR g ws fa h w u) [(1000, .pin (.own 0) (us 0)), (1, .cell (.pv (tyPV ⟨6, i, 0, r⟩)))] [(0, .box 0 0), (2, .pv (lub l false)), (4, .box 1 0)] [0] noLoneH rfl rfl rfl ?_ tS rfl rfl rfl cS ?_; · (repeat (first | exact hsub_nil | refine hsub_cons rfl ?_))) | (refine ao_callM (gR g ws fa h w u) (gR g (giveG h w ws u ⟨6, i, 0, r⟩ l 0).2.1 fa h w (giveG h w ws u ⟨6, i, 0, r⟩ l 0).2.2) [(1000, .pin (.own 0) (us 0))] [] [0] noLoneH rfl rfl rfl ?_ tS rfl rfl rfl cM ?_; · (repeat (first | exact hsub_nil | refine hsub_cons rfl ?_)))) | refine sK ?_ | refine sC (fun _ => ?_) (fun _ => ?_) | fail)
      exact ⟨.inr rfl, .inl ⟨_, rfl, rfl, ⟨by repeat (first | exact hsub_nil | refine hsub_cons rfl ?_), rfl⟩⟩⟩
    ·have e3 : ((S : Int) != (((l.map u64).length : Nat) : Int)) = true := by rw [List.length_map]; simp; omega
     rw [box_no (.inr (.inr (.inr (by rw [hS]; exact h1))))]
     rcases hk with rfl | rfl | rfl
     ·refine acallM_intro tbOK Tryz.func68 rfl (by kernel_rfl) Tryz.ntmps68 (by simp) _ rfl (fun gB hw1 => ?_)
      repeat' (first | refine ao_q rfl (q_isnil (b := false) rfl Tryz.underlying31 rfl rfl) rfl rfl ?_ | refine AD.step _ _ _ _ _ rfl (q_isnil (b := false) rfl Tryz.underlying31 rfl rfl) rfl rfl ?_ | (refine ao_sh_box ?_; first | refine ao_boxm 1 rfl rfl rfl rfl rfl rfl ?_) | (refine ao_sh_call ?_; first | (refine ao_callM (gR g ws fa h w u) (gR g ws fa h w u) [(1000, .pin (.own 0) (us 0)), (1, .cell (.pv (tyPV ⟨2, i, 0, r⟩)))] [(0, .box 0 0), (2, .pv (lub l false)), (4, .box 1 0)] [0] noLoneH rfl rfl rfl ?_ tS rfl rfl rfl cS ?_; · (repeat (first | exact hsub_nil | refine hsub_cons rfl ?_)))) | refine sK ?_ | refine sC (fun _ => ?_) (fun _ => ?_) | fail)
      exact ⟨.inr rfl, .inl ⟨_, rfl, rfl, ⟨by repeat (first | exact hsub_nil | refine hsub_cons rfl ?_), rfl⟩⟩⟩
     ·refine acallM_intro tbOK Tryz.func68 rfl (by kernel_rfl) Tryz.ntmps68 (by simp) _ rfl (fun gB hw1 => ?_)
      repeat' (first | refine ao_q rfl (q_isnil (b := false) rfl Tryz.underlying31 rfl rfl) rfl rfl ?_ | refine AD.step _ _ _ _ _ rfl (q_isnil (b := false) rfl Tryz.underlying31 rfl rfl) rfl rfl ?_ | (refine ao_sh_box ?_; first | refine ao_boxm 1 rfl rfl rfl rfl rfl rfl ?_) | (refine ao_sh_call ?_; first | (refine ao_callM (gR g ws fa h w u) (gR g ws fa h w u) [(1000, .pin (.own 0) (us 0)), (1, .cell (.pv (tyPV ⟨3, i, 0, r⟩)))] [(0, .box 0 0), (2, .pv (lub l false)), (4, .box 1 0)] [0] noLoneH rfl rfl rfl ?_ tS rfl rfl rfl cS ?_; · (repeat (first | exact hsub_nil | refine hsub_cons rfl ?_)))) | refine sK ?_ | refine sC (fun _ => ?_) (fun _ => ?_) | fail)
      exact ⟨.inr rfl, .inl ⟨_, rfl, rfl, ⟨by repeat (first | exact hsub_nil | refine hsub_cons rfl ?_), rfl⟩⟩⟩
     ·refine acallM_intro tbOK Tryz.func68 rfl (by kernel_rfl) Tryz.ntmps68 (by simp) _ rfl (fun gB hw1 => ?_)
      repeat' (first | refine ao_q rfl (q_isnil (b := false) rfl Tryz.underlying31 rfl rfl) rfl rfl ?_ | refine AD.step _ _ _ _ _ rfl (q_isnil (b := false) rfl Tryz.underlying31 rfl rfl) rfl rfl ?_ | (refine ao_sh_box ?_; first | refine ao_boxm 1 rfl rfl rfl rfl rfl rfl ?_) | (refine ao_sh_call ?_; first | (refine ao_callM (gR g ws fa h w u) (gR g ws fa h w u) [(1000, .pin (.own 0) (us 0)), (1, .cell (.pv (tyPV ⟨6, i, 0, r⟩)))] [(0, .box 0 0), (2, .pv (lub l false)), (4, .box 1 0)] [0] noLoneH rfl rfl rfl ?_ tS rfl rfl rfl cS ?_; · (repeat (first | exact hsub_nil | refine hsub_cons rfl ?_)))) | refine sK ?_ | refine sC (fun _ => ?_) (fun _ => ?_) | fail)
      exact ⟨.inr rfl, .inl ⟨_, rfl, rfl, ⟨by repeat (first | exact hsub_nil | refine hsub_cons rfl ?_), rfl⟩⟩⟩
  ·rw [box_no (.inr (.inl hk))]
   have a2 : (k != 2) = true := by simp; omega
   have a3 : (k != 3) = true := by simp; omega
   have a6 : (k != 6) = true := by simp; omega
   refine acallM_intro tbOK Tryz.func68 rfl (by kernel_rfl) Tryz.ntmps68 (by simp) _ rfl (fun gB hw1 => ?_)
   repeat' (first | refine ao_q rfl (q_isnil (b := false) rfl Tryz.underlying31 rfl rfl) rfl rfl ?_ | refine AD.step _ _ _ _ _ rfl (q_isnil (b := false) rfl Tryz.underlying31 rfl rfl) rfl rfl ?_ | (refine ao_sh_box ?_; first | refine ao_boxm 1 rfl rfl rfl rfl rfl rfl ?_) | refine sK ?_ | refine sC (fun _ => ?_) (fun _ => ?_) | fail)
   exact ⟨.inr rfl, .inl ⟨_, rfl, rfl, ⟨by repeat (first | exact hsub_nil | refine hsub_cons rfl ?_), rfl⟩⟩⟩
 ·rw [box_no (.inl hd)]
  have e : (d != 0) = true := by simp [hd]
  refine acallM_intro tbOK Tryz.func68 rfl (by kernel_rfl) Tryz.ntmps68 (by simp) _ rfl (fun gB hw1 => ?_)
  repeat' (first | refine ao_q rfl (q_isnil (b := false) rfl Tryz.underlying31 rfl rfl) rfl rfl ?_ | refine AD.step _ _ _ _ _ rfl (q_isnil (b := false) rfl Tryz.underlying31 rfl rfl) rfl rfl ?_ | (refine ao_sh_box ?_; first | refine ao_boxm 1 rfl rfl rfl rfl rfl rfl ?_) | refine sK ?_ | refine sC (fun _ => ?_) (fun _ => ?_) | fail)
  exact ⟨.inr rfl, .inl ⟨_, rfl, rfl, ⟨by repeat (first | exact hsub_nil | refine hsub_cons rfl ?_), rfl⟩⟩⟩
end Go.Cg
namespace Go.Cg
open Go.Proofs
theorem and_mask4 (a : Int) : (BitVec.ofInt 64 a &&& BitVec.ofInt 64 ((2 ^ 4 - 1 : Nat) : Int)).toNat = (a % 16).toNat := by
 rw [BitVec.toNat_and, BitVec.toNat_ofInt, BitVec.toNat_ofInt, show ((((2 ^ 4 - 1 : Nat) : Int) % ((2 ^ 64 : Nat) : Int)).toNat) = 2 ^ 4 - 1 from rfl, Nat.and_two_pow_sub_one_eq_mod]
 omega
theorem and_mask10 (a : Int) : (BitVec.ofInt 64 a &&& BitVec.ofInt 64 ((2 ^ 10 - 1 : Nat) : Int)).toNat = (a % 1024).toNat := by
 rw [BitVec.toNat_and, BitVec.toNat_ofInt, BitVec.toNat_ofInt, show ((((2 ^ 10 - 1 : Nat) : Int) % ((2 ^ 64 : Nat) : Int)).toNat) = 2 ^ 10 - 1 from rfl, Nat.and_two_pow_sub_one_eq_mod]
 omega
theorem and15 (k : IntKind) (hk : k = .i64 ∨ k = .u64) (a : Int) : andU k a 15 = a % 16 := by
 have h := and_mask4 a
 rcases hk with rfl | rfl
 ·rw [andU]; show IntKind.i64.wrap (((BitVec.ofInt 64 a &&& BitVec.ofInt 64 15).toNat : Nat) : Int) = _
  rw [show (15 : Int) = ((2 ^ 4 - 1 : Nat) : Int) from rfl, h, wrap_in (by omega) (by omega)]; omega
 ·rw [andU]; show IntKind.u64.wrap (((BitVec.ofInt 64 a &&& BitVec.ofInt 64 15).toNat : Nat) : Int) = _
  rw [show (15 : Int) = ((2 ^ 4 - 1 : Nat) : Int) from rfl, h, wrapU_in (by omega) (by omega)]; omega
theorem and1023 (k : IntKind) (hk : k = .i64 ∨ k = .u64) (a : Int) : andU k a 1023 = a % 1024 := by
 have h := and_mask10 a
 rcases hk with rfl | rfl
 ·rw [andU]; show IntKind.i64.wrap (((BitVec.ofInt 64 a &&& BitVec.ofInt 64 1023).toNat : Nat) : Int) = _
  rw [show (1023 : Int) = ((2 ^ 10 - 1 : Nat) : Int) from rfl, h, wrap_in (by omega) (by omega)]; omega
 ·rw [andU]; show IntKind.u64.wrap (((BitVec.ofInt 64 a &&& BitVec.ofInt 64 1023).toNat : Nat) : Int) = _
  rw [show (1023 : Int) = ((2 ^ 10 - 1 : Nat) : Int) from rfl, h, wrapU_in (by omega) (by omega)]; omega
theorem or_add (a b : Nat) (i : Nat) (ha : a < 2 ^ i) (hs : 2 ^ i * b + a < 2 ^ 64) : orU (a : Int) ((2 ^ i * b : Nat) : Int) = ((2 ^ i * b + a : Nat) : Int) := by
 rw [orU]
 show IntKind.u64.wrap (((BitVec.ofInt 64 (a : Int) ||| BitVec.ofInt 64 ((2 ^ i * b : Nat) : Int)).toNat : Nat) : Int) = _
 rw [BitVec.toNat_or, BitVec.toNat_ofInt, BitVec.toNat_ofInt, ← Int.natCast_emod, ← Int.natCast_emod, Int.toNat_natCast, Int.toNat_natCast, Nat.mod_eq_of_lt (by omega), Nat.mod_eq_of_lt (by omega), Nat.or_comm, ← Nat.two_pow_add_eq_or_of_lt ha]
 have : (2 : Nat) ^ 64 = 18446744073709551616 := by decide
 rw [wrapU_in (by omega) (by omega)]
theorem headP_eq (t : Ty) : headP t = t.kind % 16 + 16 * (t.index % 1024) + 16384 * (t.dims % 16) := by
 rw [headP, and15 .i64 (.inl rfl), and1023 .i64 (.inl rfl), and15 .i64 (.inl rfl)]
 have p4 : (2 : Int) ^ (min (4 : Int).toNat IntKind.u64.bits) = 16 := by decide
 have p14 : (2 : Int) ^ (min (14 : Int).toNat IntKind.u64.bits) = 16384 := by decide
 rw [p4, p14, wrapU_in (a := t.kind % 16) (by omega) (by omega), wrapU_in (a := t.index % 1024) (by omega) (by omega), wrapU_in (a := t.dims % 16) (by omega) (by omega), wrapU_in (a := t.index % 1024 * 16) (by omega) (by omega), wrapU_in (a := t.dims % 16 * 16384) (by omega) (by omega)]
 obtain ⟨K, hK, hK1⟩ : ∃ K : Nat, t.kind % 16 = (K : Int) ∧ K < 16 := ⟨(t.kind % 16).toNat, by omega, by omega⟩
 obtain ⟨I, hI, hI1⟩ : ∃ K : Nat, t.index % 1024 = (K : Int) ∧ K < 1024 := ⟨(t.index % 1024).toNat, by omega, by omega⟩
 obtain ⟨D, hD, hD1⟩ : ∃ K : Nat, t.dims % 16 = (K : Int) ∧ K < 16 := ⟨(t.dims % 16).toNat, by omega, by omega⟩
 rw [hK, hI, hD, show (I : Int) * 16 = ((2 ^ 4 * I : Nat) : Int) by omega, show (D : Int) * 16384 = ((2 ^ 14 * D : Nat) : Int) by omega, or_add K I 4 (by omega) (by omega), or_add (2 ^ 4 * I + K) D 14 (by omega) (by omega)]
 omega
theorem fdiv_shift {h : Int} (c : Nat) (_h0 : 0 ≤ h) : h.fdiv (c : Int) = h / (c : Int) := by rw [Int.fdiv_eq_ediv_of_nonneg _ (by omega)]
theorem typeP_eq {h : Int} (h0 : 0 ≤ h) : typeP h = ⟨h % 16, h / 16 % 1024, h / 16384 % 16, false⟩ := by
 have p4 : (2 : Int) ^ (min (4 : Int).toNat IntKind.u64.bits) = ((16 : Nat) : Int) := by decide
 have p14 : (2 : Int) ^ (min (14 : Int).toNat IntKind.u64.bits) = ((16384 : Nat) : Int) := by decide
 rw [typeP, p4, p14, fdiv_shift 16 h0, fdiv_shift 16384 h0, and15 .u64 (.inr rfl), and1023 .u64 (.inr rfl), and15 .u64 (.inr rfl), wrap_in (by omega) (by omega), wrap_in (by omega) (by omega), wrap_in (by omega) (by omega)]
 rfl
theorem type_head {x : Ty} (h : ∃ h, 0 ≤ h ∧ x = typeP h) : typeP (headP x) = x := by
 obtain ⟨h, h0, rfl⟩ := h
 have e := typeP_eq h0
 have e1 : (typeP h).kind = h % 16 := by rw [e]
 have e2 : (typeP h).index = h / 16 % 1024 := by rw [e]
 have e3 : (typeP h).dims = h / 16384 % 16 := by rw [e]
 have h1 := headP_eq (typeP h)
 rw [e1, e2, e3] at h1
 rw [typeP_eq (h := headP (typeP h)) (by omega), h1]
 rw [e]
 congr 1 <;> omega
set_option maxHeartbeats 1000000 in
theorem cut_call (n b : Int) (hb : b = 16 ∨ b = 1024) (h0 : -9223372036854775808 ≤ n) (h1 : n ≤ 9223372036854775807) : ACall Tryz.prog 125 [pi n, pi b] (u64 (n % b)) := by
 have hb0 : b ≠ 0 := by omega
 have key : (0 ≤ n ∧ n.tmod b = n % b) ∨ (n < 0 ∧ n.tmod b = -((-n) % b)) := by
  by_cases hn : 0 ≤ n
  ·exact .inl ⟨hn, Int.tmod_eq_emod_of_nonneg hn⟩
  ·exact .inr ⟨by omega, by rw [← Int.tmod_eq_emod_of_nonneg (show 0 ≤ -n by omega), Int.neg_tmod, Int.neg_neg]⟩
 have hlo : 0 ≤ n % b := Int.emod_nonneg _ hb0
 have hhi : n % b < b := Int.emod_lt_of_pos _ (by omega)
 obtain ⟨x, hx⟩ : ∃ x, n.tmod b = x := ⟨_, rfl⟩
 by_cases hneg : x < 0
 ·refine acall_intro tbOK Tryz.func125 rfl (by kernel_rfl) Tryz.ntmps125 (by simp) _ rfl (fun hw gB hgB => ?_)
  repeat' (first | refine ao_q rfl (q_rem x tbOK rfl rfl rfl hb0 hx) rfl rfl ?_ | refine sK ?_ | refine sC (fun _ => ?_) (fun _ => ?_) | fail)
  refine retq rfl ?_
  simp only [retPV]
  have : x = n % b - b := by rw [hx] at key; rcases hb with rfl | rfl <;> omega
  rw [wrap_in (by omega) (by omega), wrapU_in (by omega) (by omega), this]
  congr 2; omega
 ·refine acall_intro tbOK Tryz.func125 rfl (by kernel_rfl) Tryz.ntmps125 (by simp) _ rfl (fun hw gB hgB => ?_)
  repeat' (first | refine ao_q rfl (q_rem x tbOK rfl rfl rfl hb0 hx) rfl rfl ?_ | refine sK ?_ | refine sC (fun _ => ?_) (fun _ => ?_) | fail)
  refine retq rfl ?_
  simp only [retPV]
  have : x = n % b := by rw [hx] at key; rcases hb with rfl | rfl <;> omega
  rw [wrapU_in (by omega) (by omega), this]
def okT (t : Ty) : Prop := (-9223372036854775808 ≤ t.kind ∧ t.kind ≤ 9223372036854775807) ∧ (-9223372036854775808 ≤ t.index ∧ t.index ≤ 9223372036854775807) ∧ (-9223372036854775808 ≤ t.dims ∧ t.dims ≤ 9223372036854775807)
set_option maxHeartbeats 1000000 in
theorem HeadR_call (t : Ty) (h : okT t) : ACall Tryz.prog 76 [tyPV t] (u64 (headP t)) := by
 have c1 := cut_call t.kind 16 (.inl rfl) h.1.1 h.1.2
 have c2 := cut_call t.index 1024 (.inr rfl) h.2.1.1 h.2.1.2
 have c3 := cut_call t.dims 16 (.inl rfl) h.2.2.1 h.2.2.2
 refine acall_intro tbOK Tryz.func76 rfl (by kernel_rfl) Tryz.ntmps76 (by simp) _ rfl (fun hw gB hgB => ?_)
 repeat' (first | (refine shC ?_; first | refine qC c1 ?_ | refine qC c2 ?_ | refine qC c3 ?_) | refine sA ?_ | refine sC (fun _ => ?_) (fun _ => ?_) | fail)
 refine retq rfl ?_
 simp only [retPV]
 rw [headP_eq, wrapU_in (a := 16 * (t.index % 1024)) (by omega) (by omega), wrapU_in (a := t.kind % 16 + 16 * (t.index % 1024)) (by omega) (by omega), wrapU_in (a := 16384 * (t.dims % 16)) (by omega) (by omega), wrapU_in (by omega) (by omega)]
set_option maxHeartbeats 1000000 in
theorem TypeR_call (h : Int) (h0 : 0 ≤ h) (h1 : h ≤ 18446744073709551615) : ACall Tryz.prog 85 [u64 h] (tyPV (typeP h)) := by
 rw [typeP_eq h0]
 refine acall_intro tbOK Tryz.func85 rfl (by kernel_rfl) Tryz.ntmps85 (by simp) _ rfl (fun hw gB hgB => ?_)
 repeat' (first | refine sA ?_ | refine sC (fun _ => ?_) (fun _ => ?_) | fail)
 refine retq rfl ?_
 have e1 : h.tmod 16 = h % 16 := by rw [Int.tmod_eq_emod_of_nonneg h0]
 have e2 : h.tdiv 16 = h / 16 := by rw [Int.tdiv_eq_ediv_of_nonneg h0]
 have e3 : h.tdiv 16384 = h / 16384 := by rw [Int.tdiv_eq_ediv_of_nonneg h0]
 have e4 : IntKind.i64.wrap (h.tmod 16) = h % 16 := by rw [e1, wrap_in (by omega) (by omega)]
 have e5 : IntKind.i64.wrap ((IntKind.u64.wrap (h.tdiv 16)).tmod 1024) = h / 16 % 1024 := by
  rw [e2, wrapU_in (by omega) (by omega), Int.tmod_eq_emod_of_nonneg (by omega), wrap_in (by omega) (by omega)]
 have e6 : IntKind.i64.wrap ((IntKind.u64.wrap (h.tdiv 16384)).tmod 16) = h / 16384 % 16 := by
  rw [e3, wrapU_in (by omega) (by omega), Int.tmod_eq_emod_of_nonneg (by omega), wrap_in (by omega) (by omega)]
 show PV.agg [pi (IntKind.i64.wrap (h.tmod 16)), pi (IntKind.i64.wrap ((IntKind.u64.wrap (h.tdiv 16)).tmod 1024)), pi (IntKind.i64.wrap ((IntKind.u64.wrap (h.tdiv 16384)).tmod 16)), pb false] = tyPV _
 rw [e4, e5, e6]; rfl
end Go.Cg
namespace Go.Cg
open Go.Proofs
def longA (l : List Ac) : Bool := decide ((40 : Int) < l.length) || l.any fun c => decide ((20 : Int) < c.l.length)
theorem ac_len {l : List Ac} (h : (acts l).lenOk) : l.length ≤ 9223372036854775807 := by
 simp [acts, PV.lenOk, maxLen] at h; exact h.1
set_option maxHeartbeats 1000000 in
theorem long20_call (l : List Ac) : ACall Tryz.prog 15 [acts l] (pb (longA l)) := by
 refine acall_intro tbOK Tryz.func15 rfl (by kernel_rfl) Tryz.ntmps15 (by simp) _ rfl (fun hw gB hgB => ?_)
 have hl := ac_len hw.1
 by_cases h40 : (40 : Int) < l.length
 ·have hd : decide ((40 : Int) < (((l.map acPV).length : Nat) : Int)) = true := decide_eq_true (by rw [List.length_map]; exact h40)
  repeat' (first | refine sK ?_ | refine sC (fun _ => ?_) (fun _ => ?_) | fail)
  exact retq rfl (by rw [longA, decide_eq_true h40]; rfl)
 ·have hd : decide ((40 : Int) < (((l.map acPV).length : Nat) : Int)) = false := decide_eq_false (by rw [List.length_map]; exact h40)
  have hr0 : longA l = (l.drop 0).any fun c => decide ((20 : Int) < c.l.length) := by rw [longA, decide_eq_false h40]; rfl
  repeat' (first | refine sK ?_ | refine sC (fun _ => ?_) (fun _ => ?_) | fail)
  refine aw_loop (fun k : Nat => [(0, .pv (acts l)), (8, .pv (pi l.length)), (9, .pv (pi k))]) (fun _ => []) (fun k => k ≤ l.length ∧ longA l = (l.drop k).any fun c => decide ((20 : Int) < c.l.length)) (fun k => l.length - k) 0 ⟨by omega, hr0⟩ (by repeat (first | exact sub_nil | refine sub_cons rfl ?_ | (refine sub_i rfl ?_ ?_; · simp))) tH ?_
  rintro k ⟨hk, hr⟩
  by_cases hlt : k < l.length
  ·have he := map_get (f := acPV) hlt
   rw [drop_any hlt] at hr
   cases hb : decide ((20 : Int) < l[k].l.length)
   ·have hb' : decide ((20 : Int) < (((l[k].l.map u64).length : Nat) : Int)) = false := by rw [List.length_map]; exact hb
    rw [hb] at hr
    repeat' (first | (refine shX ?_; first | refine qX he ?_) | refine sK ?_ | refine sC (fun _ => ?_) (fun _ => ?_) | fail)
    exact ⟨k + 1, ⟨hlt, hr⟩, tD, tS, tH⟩
   ·have hb' : decide ((20 : Int) < (((l[k].l.map u64).length : Nat) : Int)) = true := by rw [List.length_map]; exact hb
    rw [hb] at hr
    repeat' (first | (refine shX ?_; first | refine qX he ?_) | refine sK ?_ | refine sC (fun _ => ?_) (fun _ => ?_) | fail)
    exact retq rfl (by rw [hr]; rfl)
  ·rw [drop_end (by omega)] at hr
   repeat' (first | refine sK ?_ | refine sC (fun _ => ?_) (fun _ => ?_) | fail)
   exact retq rfl (by rw [hr]; rfl)
theorem rem_in {n m : Int} (hm : 0 < m) (h0 : 0 ≤ n) : 0 ≤ n.tmod m ∧ n.tmod m < m := by
 rw [Int.tmod_eq_emod_of_nonneg h0]; exact ⟨Int.emod_nonneg _ (by omega), Int.emod_lt_of_pos _ hm⟩
theorem rem5000 (n : Int) : -5000 < n.tmod 5000 ∧ n.tmod 5000 < 5000 := by
 by_cases hn : 0 ≤ n
 ·have := rem_in (m := 5000) (by decide) hn; omega
 ·have h : n.tmod 5000 = -((-n) % 5000) := by rw [← Int.tmod_eq_emod_of_nonneg (show 0 ≤ -n by omega), Int.neg_tmod, Int.neg_neg]
  omega
end Go.Cg
namespace Go.Cg
open Go.Proofs
def doM (g : Img) (h w : Nat) (ws : List Int) (u : Nat) (c : Ac) : Giv :=
 if c.kind = 0 then objM g h w ws u c.t.index else if c.kind = 1 then arrM g h w ws u c.t c.n else if c.kind = 2 then boxM g h w ws u c.t c.l else delM g h w ws u c.t.index c.a c.n
set_option maxHeartbeats 4000000 in
theorem do03_call {g : Img} {ws : List Int} {h w u : Nat} (hm : GM g ws h w u) (fa : Int) (c : Ac) (h0 : 0 ≤ c.kind) (h3 : c.kind ≤ 3) (hl : c.l.length ≤ 100) (us : Nat → Value) :
  ACallM Tryz.prog 20 [.box 0 0, .pv (acPV c)] (gR g ws fa h w u ++ pinB us [0]) (.pv (u64 (doM g h w ws u c).1)) (gR g (doM g h w ws u c).2.1 fa h w (doM g h w ws u c).2.2 ++ pinB us [0]) := by
 obtain ⟨k, n, t, a, x, l⟩ := c
 simp only at h0 h3 hl
 have hk : k = 0 ∨ k = 1 ∨ k = 2 ∨ k = 3 := by omega
 rcases hk with rfl | rfl | rfl | rfl
 ·have e : doM g h w ws u ⟨0, n, t, a, x, l⟩ = objM g h w ws u t.index := rfl
  rw [e]
  have cM := fun us' => ObjectG_call hm fa t.index us'
  refine acallM_intro tbOK Tryz.func20 rfl (by kernel_rfl) Tryz.ntmps20 (by simp) _ rfl (fun gB hw1 => ?_)
  repeat' (first | (refine ao_sh_call ?_; first | (refine ao_callM (gR g ws fa h w u) (gR g (objM g h w ws u t.index).2.1 fa h w (objM g h w ws u t.index).2.2) [(1000, .pin (.own 0) (us 0))] [] [0] noLoneH rfl rfl rfl ?_ tS rfl rfl rfl cM ?_; · (repeat (first | exact hsub_nil | refine hsub_cons rfl ?_)))) | refine sK ?_ | refine sC (fun _ => ?_) (fun _ => ?_) | fail)
  exact ⟨.inr rfl, .inl ⟨_, rfl, rfl, ⟨by repeat (first | exact hsub_nil | refine hsub_cons rfl ?_), rfl⟩⟩⟩
 ·have e : doM g h w ws u ⟨1, n, t, a, x, l⟩ = arrM g h w ws u t n := rfl
  rw [e]
  have cM := fun us' => ArrayG_call hm fa t n us'
  refine acallM_intro tbOK Tryz.func20 rfl (by kernel_rfl) Tryz.ntmps20 (by simp) _ rfl (fun gB hw1 => ?_)
  repeat' (first | (refine ao_sh_call ?_; first | (refine ao_callM (gR g ws fa h w u) (gR g (arrM g h w ws u t n).2.1 fa h w (arrM g h w ws u t n).2.2) [(1000, .pin (.own 0) (us 0))] [] [0] noLoneH rfl rfl rfl ?_ tS rfl rfl rfl cM ?_; · (repeat (first | exact hsub_nil | refine hsub_cons rfl ?_)))) | refine sK ?_ | refine sC (fun _ => ?_) (fun _ => ?_) | fail)
  exact ⟨.inr rfl, .inl ⟨_, rfl, rfl, ⟨by repeat (first | exact hsub_nil | refine hsub_cons rfl ?_), rfl⟩⟩⟩
 ·have e : doM g h w ws u ⟨2, n, t, a, x, l⟩ = boxM g h w ws u t l := rfl
  rw [e]
  have cM := fun us' => BoxG_call hm fa t l hl us'
  refine acallM_intro tbOK Tryz.func20 rfl (by kernel_rfl) Tryz.ntmps20 (by simp) _ rfl (fun gB hw1 => ?_)
  repeat' (first | (refine ao_sh_call ?_; first | (refine ao_callM (gR g ws fa h w u) (gR g (boxM g h w ws u t l).2.1 fa h w (boxM g h w ws u t l).2.2) [(1000, .pin (.own 0) (us 0))] [] [0] noLoneH rfl rfl rfl ?_ tS rfl rfl rfl cM ?_; · (repeat (first | exact hsub_nil | refine hsub_cons rfl ?_)))) | refine sK ?_ | refine sC (fun _ => ?_) (fun _ => ?_) | fail)
  exact ⟨.inr rfl, .inl ⟨_, rfl, rfl, ⟨by repeat (first | exact hsub_nil | refine hsub_cons rfl ?_), rfl⟩⟩⟩
 ·have e : doM g h w ws u ⟨3, n, t, a, x, l⟩ = delM g h w ws u t.index a n := rfl
  rw [e]
  have cM := fun us' => DelegateG_call hm fa t.index a n us'
  refine acallM_intro tbOK Tryz.func20 rfl (by kernel_rfl) Tryz.ntmps20 (by simp) _ rfl (fun gB hw1 => ?_)
  repeat' (first | (refine ao_sh_call ?_; first | (refine ao_callM (gR g ws fa h w u) (gR g (delM g h w ws u t.index a n).2.1 fa h w (delM g h w ws u t.index a n).2.2) [(1000, .pin (.own 0) (us 0))] [] [0] noLoneH rfl rfl rfl ?_ tS rfl rfl rfl cM ?_; · (repeat (first | exact hsub_nil | refine hsub_cons rfl ?_)))) | refine sK ?_ | refine sC (fun _ => ?_) (fun _ => ?_) | fail)
  exact ⟨.inr rfl, .inl ⟨_, rfl, rfl, ⟨by repeat (first | exact hsub_nil | refine hsub_cons rfl ?_), rfl⟩⟩⟩
structure Gave (g : Img) (h w u : Nat) (r : Giv) : Prop where
 gm : GM g r.2.1 h w r.2.2
 said : (r.1 = 0 ∧ r.2.2 = u) ∨ (r.1 = ((h + u : Nat) : Int) ∧ u < r.2.2)
theorem gave_none {g : Img} {ws : List Int} {h w u : Nat} (hm : GM g ws h w u) : Gave g h w u (0, ws, u) := ⟨hm, .inl ⟨rfl, rfl⟩⟩
theorem gave_give {g : Img} {ws : List Int} {h w u : Nat} (hm : GM g ws h w u) (t : Ty) (l : List Int) (z : Nat) : Gave g h w u (giveG h w ws u t l z) := by
 refine ⟨giveG_ok hm t l z, ?_⟩
 rw [giveG]
 split
 ·exact .inr ⟨rfl, by show u < u + 1 + l.length + z; omega⟩
 ·exact .inl ⟨rfl, rfl⟩
theorem gave_do {g : Img} {ws : List Int} {h w u : Nat} (hm : GM g ws h w u) (c : Ac) : Gave g h w u (doM g h w ws u c) := by
 rw [doM]
 split
 ·rw [objM]; split
  ·exact gave_give hm _ _ _
  ·exact gave_none hm
 ·split
  ·rw [arrM]; split
   ·exact gave_none hm
   ·exact gave_give hm _ _ _
  ·split
   ·rw [boxM]; split
    ·exact gave_none hm
    ·exact gave_give hm _ _ _
   ·rw [delM]; split
    ·exact gave_give hm _ _ _
    ·exact gave_none hm
theorem longA_at {l : List Ac} (h : longA l = false) {k : Nat} (hk : k < l.length) : l[k].l.length ≤ 20 := by
 rw [longA, Bool.or_eq_false_iff] at h
 have := List.any_eq_false.1 h.2 l[k] (List.getElem_mem hk)
 simp at this; omega
theorem staticsA_le {g : Img} (hf : fineR g = true) : (staticsA g).length ≤ 512 := by
 rw [staticsA, hf]; exact statT_le (fine_of hf) _
set_option maxHeartbeats 8000000 in
theorem HeapApart_call (g : Img) (hx : OkA g) (l : List Ac) : ACall Tryz.prog 3 [imgPV g, acts l] (pb true) := by
 have c1 := Long_call g
 have c2 := long20_call l
 have c3 := FineR_call g
 refine acall_intro tbOK Tryz.func3 rfl (by kernel_rfl) Tryz.ntmps3 (by simp) _ rfl (fun hw gB hgB => ?_)
 cases hlg : longG g
 ·rw [hlg] at c1
  cases hla : longA l
  ·rw [hla] at c2
   cases hfi : fineR g
   ·rw [hfi] at c3
    repeat' (first | (refine shC ?_; first | refine qC wakes20_call ?_ | refine qC c1 ?_ | refine qC c2 ?_ | refine qC c3 ?_) | refine sK ?_ | refine sC (fun _ => ?_) (fun _ => ?_) | fail)
    exact retq rfl rfl
   ·rw [hfi] at c3
    have hl40 : l.length ≤ 40 := by
     have h := hla
     rw [longA, Bool.or_eq_false_iff] at h
     have := h.1; simp at this; omega
    obtain ⟨h, hh⟩ : ∃ h, h = 8 + (staticsA g).length := ⟨_, rfl⟩
    obtain ⟨fa, hfa⟩ : ∃ fa : Int, fa = ((1 + (staticsA g).length : Nat) : Int) := ⟨_, rfl⟩
    have hSb := staticsA_le hfi
    have cN0 := NewG_call g hx hfi 2000 (by decide) (by decide)
    obtain ⟨q, hq⟩ : ∃ q : Nat, q = 2000 := ⟨_, rfl⟩
    rw [← hfa, ← hh, show (2000 : Int).toNat = q from hq.symm] at cN0
    have hl0 := wsG_len (1 + (staticsA g).length) (h + q + 16384) 7
    generalize wsG (1 + (staticsA g).length) (h + q + 16384) 7 = W at cN0 hl0
    have cN : ∀ _ : Nat → Value, ACallM Tryz.prog 17 [.pv (imgPV g), .pv (pi 2000)] [] (.box 0 0) (gR g W fa h q 0) true := fun _ => cN0
    have hm0 : GM g W h q 0 := ⟨hfi, by omega, by omega, by omega, by omega, hl0⟩
    have cF0 := fun mv => FramesG_call g W mv fa (h : Int) ((h + q : Nat) : Int) ((0 : Nat) : Int)
    have ef : IntKind.u64.wrap (((h + q : Nat) : Int) - 2000) = ((h + 0 : Nat) : Int) := by rw [wrapU_in (by omega) (by omega)]; omega
    repeat' (first | refine ao_q (r := .pv (u64 ((h + q : Nat) : Int))) rfl (q_callO (args := fun ρ => [.ptr (gPV g W (ρ 8) fa (h : Int) ((h + q : Nat) : Int) ((0 : Nat) : Int)) 0]) rfl (fun _ => rfl) (fun ρ => cF0 (ρ 8))) rfl rfl ?_ | refine AD.step _ _ _ (.pv (u64 ((h + q : Nat) : Int))) _ rfl (q_callO (args := fun ρ => [.ptr (gPV g W (ρ 8) fa (h : Int) ((h + q : Nat) : Int) ((0 : Nat) : Int)) 0]) rfl (fun _ => rfl) (fun ρ => cF0 (ρ 8))) rfl rfl ?_ | (refine shC ?_; first | refine qC wakes20_call ?_ | refine qC c1 ?_ | refine qC c2 ?_ | refine qC c3 ?_) | (refine ao_sh_call ?_; first | refine ao_callM [] (gR g W fa h q 0) [] [(1, .pv (acts l))] [] (fun _ => hgB.1) rfl rfl rfl (by repeat (first | exact hsub_nil | refine hsub_cons rfl ?_)) tS rfl rfl rfl cN ?_) | refine sK ?_ | refine sC (fun _ => ?_) (fun _ => ?_) | fail)
    refine aw_loop (fun s : Nat × List Int × Nat => [(5, .box 0 0), (6, .pv (u64 ((h + s.2.2 : Nat) : Int))), (29, .pv (acts l)), (30, .pv (pi l.length)), (31, .pv (pi s.1))]) (fun s => gR g s.2.1 fa h q s.2.2)
     (fun s => s.1 ≤ l.length ∧ GM g s.2.1 h q s.2.2) (fun s => l.length - s.1) (0, W, 0) ⟨by simp, hm0⟩ (by repeat (first | exact sub_nil | refine sub_cons rfl ?_ | (refine sub_i rfl ?_ ?_; · first | exact ef | exact ef.symm | simp))) ⟨by repeat (first | exact hsub_nil | refine hsub_cons rfl ?_), rfl⟩ ?_
    rintro ⟨k, ws, u⟩ ⟨hk, hm⟩
    simp only at hk hm
    have hu := hm.hu
    by_cases hlt : k < l.length
    ·have he := map_get (f := acPV) hlt
     have hll := longA_at hla hlt
     generalize l[k] = c at he hll
     by_cases hk3 : 3 < c.kind
     ·have e3 : decide (3 < c.kind) = true := decide_eq_true hk3
      repeat' (first | (refine shX ?_; first | refine qX he ?_) | refine sK ?_ | refine sC (fun _ => ?_) (fun _ => ?_) | fail)
      exact ⟨(k + 1, ws, u), ⟨hlt, hm⟩, tD, tS, ⟨by repeat (first | exact hsub_nil | refine hsub_cons rfl ?_), rfl⟩⟩
     ·have e3 : decide (3 < c.kind) = false := decide_eq_false hk3
      by_cases hk0 : c.kind < 0
      ·have e0 : decide (c.kind < 0) = true := decide_eq_true hk0
       repeat' (first | (refine shX ?_; first | refine qX he ?_) | refine sK ?_ | refine sC (fun _ => ?_) (fun _ => ?_) | fail)
       exact ⟨(k + 1, ws, u), ⟨hlt, hm⟩, tD, tS, ⟨by repeat (first | exact hsub_nil | refine hsub_cons rfl ?_), rfl⟩⟩
      ·have e0 : decide (c.kind < 0) = false := decide_eq_false hk0
       have cD := fun us' => do03_call hm fa c (by omega) (by omega) (by omega) us'
       have hg := gave_do hm c
       generalize doM g h q ws u c = r at cD hg
       obtain ⟨A, W', U⟩ := r
       obtain ⟨hm', hsd⟩ := hg
       simp only at hm' hsd cD
       have hU := hm'.hu
       have hhp := hm'.hp
       have hhh := hm'.hh
       have cU := fun mv => UsedG_call g ws mv fa (h : Int) ((h + q : Nat) : Int) (u : Int)
       have cU' := fun mv => UsedG_call g W' mv fa (h : Int) ((h + q : Nat) : Int) (U : Int)
       rcases hsd with ⟨rfl, hUu⟩ | ⟨rfl, hUu⟩
       ·subst hUu
        have d5 : ((U : Int) != (U : Int)) = false := by simp
        repeat' (first | refine ao_q (r := .pv (pi (U : Int))) rfl (q_callO (args := fun ρ => [.ptr (gPV g W' (ρ 8) fa (h : Int) ((h + q : Nat) : Int) (U : Int)) 0]) rfl (fun _ => rfl) (fun ρ => cU' (ρ 8))) rfl rfl ?_ | refine AD.step _ _ _ (.pv (pi (U : Int))) _ rfl (q_callO (args := fun ρ => [.ptr (gPV g W' (ρ 8) fa (h : Int) ((h + q : Nat) : Int) (U : Int)) 0]) rfl (fun _ => rfl) (fun ρ => cU' (ρ 8))) rfl rfl ?_ | refine ao_q (r := .pv (pi (U : Int))) rfl (q_callO (args := fun ρ => [.ptr (gPV g ws (ρ 8) fa (h : Int) ((h + q : Nat) : Int) (U : Int)) 0]) rfl (fun _ => rfl) (fun ρ => cU (ρ 8))) rfl rfl ?_ | refine AD.step _ _ _ (.pv (pi (U : Int))) _ rfl (q_callO (args := fun ρ => [.ptr (gPV g ws (ρ 8) fa (h : Int) ((h + q : Nat) : Int) (U : Int)) 0]) rfl (fun _ => rfl) (fun ρ => cU (ρ 8))) rfl rfl ?_ | (refine shX ?_; first | refine qX he ?_) | (refine ao_sh_call ?_; first | (refine ao_callM (gR g ws fa h q U) (gR g W' fa h q U) [] [(5, .box 0 0), (6, .pv (u64 ((h + U : Nat) : Int))), (9, .pv (pi (U : Int))), (29, .pv (acts l)), (30, .pv (pi l.length)), (31, .pv (pi k))] [0] noLoneH rfl rfl rfl ?_ tS rfl rfl rfl cD ?_; · (repeat (first | exact hsub_nil | refine hsub_cons rfl ?_)))) | refine sK ?_ | refine sC (fun _ => ?_) (fun _ => ?_) | fail)
        exact ⟨(k + 1, W', U), ⟨hlt, hm'⟩, tD, tS, ⟨by repeat (first | exact hsub_nil | refine hsub_cons rfl ?_), rfl⟩⟩
       ·have d1 : (((h + u : Nat) : Int) == 0) = false := by simp; omega
        have d2 : (((h + u : Nat) : Int) != 0) = true := by simp; omega
        have d3 : (((h + u : Nat) : Int) != ((h + u : Nat) : Int)) = false := by simp
        have d4 : decide ((U : Int) ≤ (u : Int)) = false := decide_eq_false (by omega)
        have e6 : IntKind.u64.wrap (((h + u : Nat) : Int) + IntKind.u64.wrap (IntKind.i64.wrap ((U : Int) - (u : Int)))) = ((h + U : Nat) : Int) := by
         rw [wrap_in (by omega) (by omega), wrapU_in (a := (U : Int) - (u : Int)) (by omega) (by omega), wrapU_in (by omega) (by omega)]; omega
        repeat' (first | refine ao_q (r := .pv (pi (U : Int))) rfl (q_callO (args := fun ρ => [.ptr (gPV g W' (ρ 8) fa (h : Int) ((h + q : Nat) : Int) (U : Int)) 0]) rfl (fun _ => rfl) (fun ρ => cU' (ρ 8))) rfl rfl ?_ | refine AD.step _ _ _ (.pv (pi (U : Int))) _ rfl (q_callO (args := fun ρ => [.ptr (gPV g W' (ρ 8) fa (h : Int) ((h + q : Nat) : Int) (U : Int)) 0]) rfl (fun _ => rfl) (fun ρ => cU' (ρ 8))) rfl rfl ?_ | refine ao_q (r := .pv (pi (u : Int))) rfl (q_callO (args := fun ρ => [.ptr (gPV g ws (ρ 8) fa (h : Int) ((h + q : Nat) : Int) (u : Int)) 0]) rfl (fun _ => rfl) (fun ρ => cU (ρ 8))) rfl rfl ?_ | refine AD.step _ _ _ (.pv (pi (u : Int))) _ rfl (q_callO (args := fun ρ => [.ptr (gPV g ws (ρ 8) fa (h : Int) ((h + q : Nat) : Int) (u : Int)) 0]) rfl (fun _ => rfl) (fun ρ => cU (ρ 8))) rfl rfl ?_ | (refine shX ?_; first | refine qX he ?_) | (refine ao_sh_call ?_; first | (refine ao_callM (gR g ws fa h q u) (gR g W' fa h q U) [] [(5, .box 0 0), (6, .pv (u64 ((h + u : Nat) : Int))), (9, .pv (pi (u : Int))), (29, .pv (acts l)), (30, .pv (pi l.length)), (31, .pv (pi k))] [0] noLoneH rfl rfl rfl ?_ tS rfl rfl rfl cD ?_; · (repeat (first | exact hsub_nil | refine hsub_cons rfl ?_)))) | refine sK ?_ | refine sC (fun _ => ?_) (fun _ => ?_) | fail)
        exact ⟨(k + 1, W', U), ⟨hlt, hm'⟩, tD, by repeat (first | exact sub_nil | refine sub_cons rfl ?_ | (refine sub_i rfl ?_ ?_; · first | exact e6 | exact e6.symm | (dsimp only; rw [wrap_in (by omega) (by omega)] <;> omega) | omega)), ⟨by repeat (first | exact hsub_nil | refine hsub_cons rfl ?_), rfl⟩⟩
    ·have hk2 : k = l.length := by omega
     have hhh := hm.hh
     have cF := fun mv => FramesG_call g ws mv fa (h : Int) ((h + q : Nat) : Int) (u : Int)
     have cU := fun mv => UsedG_call g ws mv fa (h : Int) ((h + q : Nat) : Int) (u : Int)
     have d0 : (((h + u : Nat) : Int) == IntKind.u64.wrap (IntKind.u64.wrap (((h + q : Nat) : Int) - 2000) + IntKind.u64.wrap (u : Int))) = true := by
      rw [ef, wrapU_in (a := (u : Int)) (by omega) (by omega), wrapU_in (by omega) (by omega)]; simp
     have hdk : decide ((k : Int) < (l.length : Int)) = false := decide_eq_false (by omega)
     repeat' (first | refine ao_q (r := .pv (u64 ((h + q : Nat) : Int))) rfl (q_callO (args := fun ρ => [.ptr (gPV g ws (ρ 8) fa (h : Int) ((h + q : Nat) : Int) (u : Int)) 0]) rfl (fun _ => rfl) (fun ρ => cF (ρ 8))) rfl rfl ?_ | refine AD.step _ _ _ (.pv (u64 ((h + q : Nat) : Int))) _ rfl (q_callO (args := fun ρ => [.ptr (gPV g ws (ρ 8) fa (h : Int) ((h + q : Nat) : Int) (u : Int)) 0]) rfl (fun _ => rfl) (fun ρ => cF (ρ 8))) rfl rfl ?_ | refine ao_q (r := .pv (pi (u : Int))) rfl (q_callO (args := fun ρ => [.ptr (gPV g ws (ρ 8) fa (h : Int) ((h + q : Nat) : Int) (u : Int)) 0]) rfl (fun _ => rfl) (fun ρ => cU (ρ 8))) rfl rfl ?_ | refine AD.step _ _ _ (.pv (pi (u : Int))) _ rfl (q_callO (args := fun ρ => [.ptr (gPV g ws (ρ 8) fa (h : Int) ((h + q : Nat) : Int) (u : Int)) 0]) rfl (fun _ => rfl) (fun ρ => cU (ρ 8))) rfl rfl ?_ | refine sK ?_ | refine sC (fun _ => ?_) (fun _ => ?_) | fail)
     exact retq rfl (by show pb _ = pb true; rw [d0])
  ·rw [hla] at c2
   repeat' (first | (refine shC ?_; first | refine qC wakes20_call ?_ | refine qC c1 ?_ | refine qC c2 ?_) | refine sK ?_ | refine sC (fun _ => ?_) (fun _ => ?_) | fail)
   exact retq rfl rfl
 ·rw [hlg] at c1
  repeat' (first | (refine shC ?_; first | refine qC wakes20_call ?_ | refine qC c1 ?_) | refine sK ?_ | refine sC (fun _ => ?_) (fun _ => ?_) | fail)
  exact retq rfl rfl
end Go.Cg
namespace Go.Cg
open Go.RowKit Go.Proofs
def okAc (c : Ac) : Prop := okI64 c.kind ∧ okI64 c.n ∧ okTy c.t ∧ okU64 c.a ∧ okU64 c.x ∧ ∀ n ∈ c.l, okU64 n
def okAcs (l : List Ac) : Prop := ∀ c ∈ l, okAc c
section
variable {H : Type} {enc : TypeId × Value → H} {w : World}
theorem rdAct : Rd enc Tryz.prog w 39 9 (fun ps => ∃ c : Ac, okAc c ∧ ps = (acPV c).cells) := by
 refine (rd_struct Tryz.underlying39 (by kernel_rfl) (fits_cons rfl rdI64 (fits_cons rfl rdI64 (fits_cons rfl rdTy (fits_cons rfl rdU64 (fits_cons rfl rdU64 (fits_cons rfl rdU64s fits_nil))))))).mono ?_
 rintro _ ⟨_, _, ⟨a, ha, rfl⟩, ⟨_, _, ⟨b, hb, rfl⟩, ⟨_, _, ⟨c, hc, rfl⟩, ⟨_, _, ⟨d, hd, rfl⟩, ⟨_, _, ⟨e, he, rfl⟩, ⟨_, _, ⟨f, hf, rfl⟩, rfl, rfl⟩, rfl⟩, rfl⟩, rfl⟩, rfl⟩, rfl⟩
 exact ⟨⟨a, b, c, d, e, f⟩, ⟨ha, hb, hc, hd, he, hf⟩, rfl⟩
theorem rdActs : Rd enc Tryz.prog w 27 1 (fun ps => ∃ l : List Ac, okAcs l ∧ ps = [acts l]) := rd_slice (f := acPV) Tryz.underlying27 (by kernel_rfl) (by decide) rdAct
end
theorem okTy_in {t : Ty} (h : okTy t) : (-9223372036854775808 ≤ t.kind ∧ t.kind ≤ 9223372036854775807) ∧ (-9223372036854775808 ≤ t.index ∧ t.index ≤ 9223372036854775807) ∧ (-9223372036854775808 ≤ t.dims ∧ t.dims ≤ 9223372036854775807) := by
 simp [okTy, Lit.wf, IntKind.min, IntKind.max, IntKind.bits, IntKind.signed] at h; omega
end Go.Cg
