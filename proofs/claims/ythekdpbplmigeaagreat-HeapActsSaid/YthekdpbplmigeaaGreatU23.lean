/- A part of the walks by abstract values: no statement of its own. -/
import Derived.Test.YthekdpbplmigeaaGreatU22
import Derived.Test.YthekdpbplmigeaaGreatU13
import Derived.Test.YthekdpbplmigeaaGreatU14
import Derived.Test.YthekdpbplmigeaaGreatU17
namespace Go.Cg
open Go.Proofs
def zipWd (cs : List Ty) (x : List Int) : List Wd := List.zipWith (fun c v => ((v, tagT c) : Wd)) cs x
def bxW (cs : List Ty) (x : List Int) (i : Nat) : List Wd := zipWd (cs.take i) (x.take i) ++ (cs.drop i).map zw
theorem zipWd_len {cs : List Ty} {x : List Int} (h : cs.length = x.length) : (zipWd cs x).length = cs.length := by simp [zipWd]; omega
theorem bxW_len {cs : List Ty} {x : List Int} (h : cs.length = x.length) (i : Nat) : (bxW cs x i).length = cs.length := by
 rw [bxW, List.length_append, zipWd_len (by rw [List.length_take, List.length_take, h]), List.length_map, List.length_take, List.length_drop]; omega
theorem bxW_zero (cs : List Ty) (x : List Int) : bxW cs x 0 = cs.map zw := by simp [bxW, zipWd]
theorem bxW_all {cs : List Ty} {x : List Int} (h : cs.length = x.length) : bxW cs x cs.length = zipWd cs x := by rw [bxW, List.take_length, h, List.take_length, ← h, List.drop_length]; simp
theorem bxW_at {cs : List Ty} {x : List Int} {i : Nat} (h : cs.length = x.length) (hi : i < cs.length) : (bxW cs x i)[i]? = some (zw cs[i]) := by
 have hl : (zipWd (cs.take i) (x.take i)).length = i := by rw [zipWd_len (by rw [List.length_take, List.length_take, h]), List.length_take]; omega
 rw [bxW, List.getElem?_append_right (by omega), hl, Nat.sub_self, List.getElem?_map, List.getElem?_drop, Nat.add_zero, List.getElem?_eq_getElem hi]; rfl
theorem bxW_set {cs : List Ty} {x : List Int} {i : Nat} (h : cs.length = x.length) (hi : i < cs.length) : (bxW cs x i).set i (x[i]'(by omega), tagT cs[i]) = bxW cs x (i + 1) := by
 have hl : (zipWd (cs.take i) (x.take i)).length = i := by rw [zipWd_len (by rw [List.length_take, List.length_take, h]), List.length_take]; omega
 rw [bxW, List.set_append_right _ _ (by omega), hl, Nat.sub_self, List.drop_eq_getElem_cons hi, List.map_cons, List.set_cons_zero, bxW]
 have e : zipWd (cs.take (i + 1)) (x.take (i + 1)) = zipWd (cs.take i) (x.take i) ++ [(x[i]'(by omega), tagT cs[i])] := by
  rw [zipWd, List.take_succ_eq_append_getElem hi, List.take_succ_eq_append_getElem (show i < x.length by omega), List.zipWith_append (by rw [List.length_take, List.length_take, h])]; rfl
 rw [e, List.append_assoc]; rfl
def boxR (g : Img) (h w : Nat) (W : List Wd) (u : Nat) (t : Ty) (x : List Int) : RGiv :=
 if boxedR t = false ∨ elemR g t = false ∨ (cellsT g t).length ≠ x.length then (0, W, u) else giveR h w W u ((headP t, ty1) :: zipWd (cellsT g t) x)
theorem boxR_no {g : Img} {h w u : Nat} {W : List Wd} {t : Ty} {x : List Int} (hc : boxedR t = false ∨ elemR g t = false ∨ (cellsT g t).length ≠ x.length) : boxR g h w W u t x = (0, W, u) := by rw [boxR, if_pos hc]
set_option maxHeartbeats 8000000 in
theorem BoxRM_call {g : Img} {W : List Wd} {h w u : Nat} (hm : RM g W h w u) (fa : Int) (t : Ty) (ht : okT t) (x : List Int) (us : Nat → Value) :
  ACallM Tryz.prog 79 [.box 10 0, .pv (tyPV t), .pv (lub x false)] (rR g W fa h w u ++ pinB us [10]) (.pv (u64 (boxR g h w W u t x).1)) (rR g (boxR g h w W u t x).2.1 fa h w (boxR g h w W u t x).2.2 ++ pinB us [10]) := by
 have hF := fine_of hm.fine
 have cB := Boxed_call t
 cases hbx : boxedR t
 ·rw [hbx] at cB
  rw [boxR_no (.inl hbx)]
  refine acallM_intro tbOK Tryz.func79 rfl (by kernel_rfl) Tryz.ntmps79 (by simp) _ rfl (fun gB hw1 => ?_)
  repeat' (first | (refine shC ?_; first | refine qC cB ?_) | refine sK ?_ | refine sC (fun _ => ?_) (fun _ => ?_) | fail)
  exact ⟨.inr rfl, .inl ⟨_, rfl, rfl, ⟨by repeat (first | exact hsub_nil | refine hsub_cons rfl ?_), rfl⟩⟩⟩
 ·rw [hbx] at cB
  have cE := Element_call g W fa (h : Int) ((h + w : Nat) : Int) (u : Int) t
  cases hel : elemR g t
  ·rw [hel] at cE
   rw [boxR_no (.inr (.inl hel))]
   refine acallM_intro tbOK Tryz.func79 rfl (by kernel_rfl) Tryz.ntmps79 (by simp) _ rfl (fun gB hw1 => ?_)
   repeat' (first | refine ao_q (r := .pv (pb false)) rfl (q_callO (args := fun ρ => [.ptr (rPV g W fa (h : Int) ((h + w : Nat) : Int) (u : Int)) 0, tyPV t]) rfl (fun _ => rfl) (fun ρ => cE)) rfl rfl ?_ | refine AD.step _ _ _ (.pv (pb false)) _ rfl (q_callO (args := fun ρ => [.ptr (rPV g W fa (h : Int) ((h + w : Nat) : Int) (u : Int)) 0, tyPV t]) rfl (fun _ => rfl) (fun ρ => cE)) rfl rfl ?_ | (refine shC ?_; first | refine qC cB ?_) | refine sK ?_ | refine sC (fun _ => ?_) (fun _ => ?_) | fail)
   exact ⟨.inr rfl, .inl ⟨_, rfl, rfl, ⟨by repeat (first | exact hsub_nil | refine hsub_cons rfl ?_), rfl⟩⟩⟩
  ·rw [hel] at cE
   have hus : usedR g t = true := by rw [elemR, Bool.and_eq_true] at hel; exact hel.2
   have hc8 := hF.used_le hus
   have c2 := CellsRT_call g hF t
   by_cases hlen : (cellsT g t).length = x.length
   ·rw [boxR, if_neg (by rw [hbx, hel]; simp; exact hlen)]
    obtain ⟨cs, hcs⟩ : ∃ cs, cellsT g t = cs := ⟨_, rfl⟩
    rw [hcs] at c2 hc8 hlen ⊢
    have c3 := fun (_ : Nat → Value) => zerosM_call cs (by omega)
    have cG := fun us' => giveR_call hm fa ((headP t, ty1) :: zipWd cs x) (by rw [List.length_cons, zipWd_len hlen]; omega) us'
    have e1 : (((((cs.map zw).map wdPV).length : Nat) : Int) != (((x.map u64).length : Nat) : Int)) = false := by rw [List.length_map, List.length_map, List.length_map, hlen]; simp
    refine acallM_intro tbOK Tryz.func79 rfl (by kernel_rfl) Tryz.ntmps79 (by simp) _ rfl (fun gB hw1 => ?_)
    repeat' (first | refine ao_q (r := .pv (pb true)) rfl (q_callO (args := fun ρ => [.ptr (rPV g W fa (h : Int) ((h + w : Nat) : Int) (u : Int)) 0, tyPV t]) rfl (fun _ => rfl) (fun ρ => cE)) rfl rfl ?_ | refine AD.step _ _ _ (.pv (pb true)) _ rfl (q_callO (args := fun ρ => [.ptr (rPV g W fa (h : Int) ((h + w : Nat) : Int) (u : Int)) 0, tyPV t]) rfl (fun _ => rfl) (fun ρ => cE)) rfl rfl ?_ | refine aw_draw_tailL 8 6 rfl (by kernel_rfl) (by kernel_rfl) (by kernel_rfl) (by kernel_rfl) (by kernel_rfl) ?_ | refine AD.step _ _ _ _ _ rfl (q_boxload (ps := imgC g) tbOK rfl rfl rfl rfl rfl) rfl rfl ?_ | refine sM ?_ | (refine shC ?_; first | refine qC cB ?_ | refine qC c2 ?_) | (refine ao_sh_call ?_; first | (refine ao_callM ([]) ([(30, .mrow 138 5 ((cs.map zw).map wdPV))]) (rR g W fa h w u ++ pinB us [10]) [(0, .box 10 0), (2, .pv (lub x false)), (4, .pv (.ptr (tyPV t) 0))] [] noLoneH rfl rfl rfl ?_ tS rfl rfl rfl c3 ?_; · (repeat (first | exact hsub_nil | refine hsub_cons rfl ?_)))) | refine sK ?_ | refine sC (fun _ => ?_) (fun _ => ?_) | fail)
    refine aw_loop (fun i : Nat => [(0, .box 10 0), (2, .pv (lub x false)), (4, .pv (.ptr (tyPV t) 0)), (7, .own 30), (8, .pv (pi i))]) (fun i => (30, .mrow 138 5 ((bxW cs x i).map wdPV)) :: (rR g W fa h w u ++ pinB us [10])) (fun i => i ≤ x.length) (fun i => x.length - i) 0 (by omega) (tS) ⟨hsub_m rfl (by rw [bxW_zero]) (by repeat (first | exact hsub_nil | refine hsub_cons rfl ?_)), rfl⟩ ?_
    rintro i hi
    by_cases hlt : i < x.length
    ·have e2 : decide ((i : Int) < (((x.map u64).length : Nat) : Int)) = true := decide_eq_true (by rw [List.length_map]; omega)
     have he := map_get (f := u64) hlt
     have hil : i < ((bxW cs x i).map wdPV).length := by rw [List.length_map, bxW_len hlen]; omega
     have hpp : ((bxW cs x i).map wdPV)[i]? = some (wdPV (zw (cs[i]'(by omega)))) := by rw [List.getElem?_map, bxW_at hlen (by omega)]; rfl
     repeat' (first | refine sM ?_ | (refine shX ?_; first | refine qX he ?_ | refine ao_q rfl (q_mindex (k := i) tbOK rfl rfl rfl rfl rfl rfl rfl rfl hil) rfl rfl ?_ | refine AD.step _ _ _ _ _ rfl (q_mindex (k := i) tbOK rfl rfl rfl rfl rfl rfl rfl rfl hil) rfl rfl ?_) | (refine ao_sh_store ?_; first | refine ao_mstore (k := i) (j := 0) tbOK rfl rfl rfl rfl rfl hpp rfl rfl rfl rfl rfl ?_) | refine sK ?_ | refine sC (fun _ => ?_) (fun _ => ?_) | fail)
     refine ⟨i + 1, hlt, tD, tS, ⟨hsub_m rfl ?_ (by repeat (first | exact hsub_nil | refine hsub_cons rfl ?_)), rfl⟩⟩
     rw [← bxW_set hlen (by omega), List.map_set]; rfl
    ·have hi2 : i = x.length := by omega
     subst hi2
     have e2 : decide ((x.length : Int) < (((x.map u64).length : Nat) : Int)) = false := decide_eq_false (by rw [List.length_map]; omega)
     rw [← hlen, bxW_all hlen]
     have hz := zipWd_len hlen
     repeat' (first | refine ao_callR 20 rfl rfl rfl (headR_call t ht) (by decide) rfl rfl rfl ?_ | refine ao_mfreeze 30 rfl ?_ | refine ao_plainv 51 rfl rfl ?_ | (refine ao_sh_bi ?_; first | refine ao_append tbOK rfl rfl rfl rfl rfl rfl rfl (by show _ * 40 ≤ _; rw [List.length_map, hz]; simp only [List.length_cons, List.length_nil]; omega) (by rw [List.length_map, hz]; simp only [List.length_cons, List.length_nil]; omega) rfl rfl ?_) | (refine ao_sh_call ?_; first | (refine ao_callM (rR g W fa h w u) (rR g (giveR h w W u ((headP t, ty1) :: zipWd cs x)).2.1 fa h w (giveR h w W u ((headP t, ty1) :: zipWd cs x)).2.2) [(1010, .pin (.own 10) (us 10))] [] [10] noLoneH rfl rfl rfl ?_ tS rfl rfl rfl cG ?_; · (repeat (first | exact hsub_nil | refine hsub_cons rfl ?_)))) | refine sK ?_ | refine sC (fun _ => ?_) (fun _ => ?_) | fail)
     exact ⟨.inr rfl, .inl ⟨_, rfl, rfl, ⟨by repeat (first | exact hsub_nil | refine hsub_cons rfl ?_), rfl⟩⟩⟩
   ·rw [boxR_no (.inr (.inr hlen))]
    have c3 := fun (_ : Nat → Value) => zerosM_call (cellsT g t) (by omega)
    have e1 : ((((((cellsT g t).map zw).map wdPV).length : Nat) : Int) != (((x.map u64).length : Nat) : Int)) = true := by rw [List.length_map, List.length_map, List.length_map, bne_iff_ne]; omega
    refine acallM_intro tbOK Tryz.func79 rfl (by kernel_rfl) Tryz.ntmps79 (by simp) _ rfl (fun gB hw1 => ?_)
    repeat' (first | refine ao_q (r := .pv (pb true)) rfl (q_callO (args := fun ρ => [.ptr (rPV g W fa (h : Int) ((h + w : Nat) : Int) (u : Int)) 0, tyPV t]) rfl (fun _ => rfl) (fun ρ => cE)) rfl rfl ?_ | refine AD.step _ _ _ (.pv (pb true)) _ rfl (q_callO (args := fun ρ => [.ptr (rPV g W fa (h : Int) ((h + w : Nat) : Int) (u : Int)) 0, tyPV t]) rfl (fun _ => rfl) (fun ρ => cE)) rfl rfl ?_ | refine aw_draw_tailL 8 6 rfl (by kernel_rfl) (by kernel_rfl) (by kernel_rfl) (by kernel_rfl) (by kernel_rfl) ?_ | refine AD.step _ _ _ _ _ rfl (q_boxload (ps := imgC g) tbOK rfl rfl rfl rfl rfl) rfl rfl ?_ | refine sM ?_ | (refine shC ?_; first | refine qC cB ?_ | refine qC c2 ?_) | (refine ao_sh_call ?_; first | (refine ao_callM ([]) ([(30, .mrow 138 5 (((cellsT g t).map zw).map wdPV))]) (rR g W fa h w u ++ pinB us [10]) [(0, .box 10 0), (2, .pv (lub x false)), (4, .pv (.ptr (tyPV t) 0))] [] noLoneH rfl rfl rfl ?_ tS rfl rfl rfl c3 ?_; · (repeat (first | exact hsub_nil | refine hsub_cons rfl ?_)))) | refine sK ?_ | refine sC (fun _ => ?_) (fun _ => ?_) | fail)
    exact ⟨.inr rfl, .inl ⟨_, rfl, rfl, ⟨by repeat (first | exact hsub_nil | refine hsub_cons rfl ?_), rfl⟩⟩⟩
end Go.Cg
namespace Go.Cg
open Go.Proofs
abbrev tyZ : Ty := ⟨0, 0, 0, false⟩
def refT (N : Nat) (S : List Ty) : Nat → List Wd
 | 0 => List.replicate N (0, tyZ)
 | i + 1 => (refT N S i).set (1 + i) (((refT N S i).getD (1 + i) (0, tyZ)).1, tagT (S.getD i tyZ))
theorem refT_len (N : Nat) (S : List Ty) : ∀ i, (refT N S i).length = N
 | 0 => by simp [refT]
 | i + 1 => by rw [refT, List.length_set, refT_len N S i]
theorem fsts_keep (W : List Wd) (k : Nat) (t : Ty) : fsts (W.set k ((W.getD k (0, tyZ)).1, t)) = fsts W := by
 rw [fsts, List.map_set]
 by_cases hk : k < W.length
 ·have e : (W.getD k (0, tyZ)).1 = (W.map (·.1))[k]'(by rw [List.length_map]; exact hk) := by rw [List.getD_eq_getElem?_getD, List.getElem?_eq_getElem hk]; simp
  rw [show ((W.getD k (0, tyZ)).1, t).1 = (W.getD k (0, tyZ)).1 from rfl, e, List.set_getElem_self]
 ·rw [List.set_eq_of_length_le (by rw [List.length_map]; omega)]
theorem refT_fsts (N : Nat) (S : List Ty) : ∀ i, fsts (refT N S i) = List.replicate N 0
 | 0 => by simp [refT, fsts]
 | i + 1 => by rw [refT, fsts_keep, refT_fsts N S i]
def refF (N fa : Nat) (S : List Ty) : Nat → List Wd
 | 0 => refT N S S.length
 | k + 1 => (refF N fa S k).set (fa + k) (headP ⟨7, ((k + 1 : Nat) : Int), 0, false⟩, ty1)
theorem refF_len (N fa : Nat) (S : List Ty) : ∀ k, (refF N fa S k).length = N
 | 0 => by rw [refF, refT_len]
 | k + 1 => by rw [refF, List.length_set, refF_len N fa S k]
theorem refF_fsts (N fa : Nat) (S : List Ty) : ∀ k, fsts (refF N fa S k) = wsG fa N k
 | 0 => by rw [refF, refT_fsts, wsG]
 | k + 1 => by rw [refF, wsG, ← refF_fsts N fa S k]; exact List.map_set
set_option maxHeartbeats 8000000 in
theorem NewR_call (g : Img) (hfi : fineR g = true) (w : Int) (h0 : 0 ≤ w) (h1 : w ≤ 4096) : ACallM Tryz.prog 28 [.pv (imgPV g), .pv (pi w)] [] (.box 10 0)
  (rH g (refF (8 + (statT g g.fields.length).length + w.toNat + 16384) (1 + (statT g g.fields.length).length) (statT g g.fields.length) 7) ((1 + (statT g g.fields.length).length : Nat) : Int) ((8 + (statT g g.fields.length).length : Nat) : Int) ((8 + (statT g g.fields.length).length + w.toNat : Nat) : Int) 0) := by
 have hF := fine_of hfi
 have hSb : (statT g g.fields.length).length ≤ 512 := statT_le hF _
 have cS : ACall Tryz.prog 74 [imgPV g, pi (((g.fields.map fdPV).length : Nat) : Int)] (tys (statT g g.fields.length)) := by rw [List.length_map]; exact StaticsR_call g hF _ (Nat.le_refl _)
 generalize statT g g.fields.length = S at hSb cS ⊢
 have hd1 : decide (w < 0) = false := decide_eq_false (by omega)
 have hd2 : decide (4096 < w) = false := decide_eq_false (by omega)
 obtain ⟨N, hN⟩ : ∃ N, N = 8 + S.length + w.toNat + 16384 := ⟨_, rfl⟩
 obtain ⟨E1, hE1⟩ : ∃ E, E = IntKind.i64.wrap (1 + (((S.map tyPV).length : Nat) : Int)) := ⟨_, rfl⟩
 have e1 : E1 = ((1 + S.length : Nat) : Int) := by rw [hE1, List.length_map, wrap_in (by omega) (by omega)]; omega
 obtain ⟨E2, hE2⟩ : ∃ E, E = IntKind.i64.wrap (E1 + 7) := ⟨_, rfl⟩
 have e2 : E2 = ((8 + S.length : Nat) : Int) := by rw [hE2, e1, wrap_in (by omega) (by omega)]; omega
 obtain ⟨E3, hE3⟩ : ∃ E, E = IntKind.i64.wrap (E2 + w) := ⟨_, rfl⟩
 have e3 : E3 = ((8 + S.length + w.toNat : Nat) : Int) := by rw [hE3, e2, wrap_in (by omega) (by omega)]; omega
 have hmi : IntKind.i64.wrap (E3 + 16384) = ((N : Nat) : Int) := by rw [e3, wrap_in (by omega) (by omega)]; omega
 have hcell : ∀ {x y z : Int}, x = E1 → y = E2 → z = E3 → some (HE.cell (.agg [.pv (.slc 4 (g.types.map tdPV) false), .pv (.slc 7 (g.fields.map fdPV) false), .pv (.slc 12 (g.methods.map mePV) false), .pv (pi g.entry), .own 11, .pv (pi x), .pv (pi y), .pv (pi z), .pv (pi 0)])) = some (HE.cell (.agg [.pv (.slc 4 (g.types.map tdPV) false), .pv (.slc 7 (g.fields.map fdPV) false), .pv (.slc 12 (g.methods.map mePV) false), .pv (pi g.entry), .own 11, .pv (pi ((1 + S.length : Nat) : Int)), .pv (pi ((8 + S.length : Nat) : Int)), .pv (pi ((8 + S.length + w.toNat : Nat) : Int)), .pv (pi 0)])) := by
  rintro x y z rfl rfl rfl; rw [e1, e2, e3]
 rw [hE3, hE2, hE1] at hmi
 rw [← hN]
 refine acallM_intro tbOK Tryz.func28 rfl (by kernel_rfl) Tryz.ntmps28 (by simp) _ rfl (fun gB hw1 => ?_)
 repeat' (first | refine aw_condF rfl hd2 ?_ | refine ao_makeK (m := N) (sz := 5) tbOK 11 rfl rfl rfl rfl rfl hmi rfl rfl (by show 40 * _ ≤ _; omega) (by simp [maxLen]; omega) rfl rfl rfl ?_ | (refine shC ?_; first | refine qC cS ?_) | (refine ao_sh_box ?_; first | refine ao_boxm 12 rfl rfl rfl rfl rfl rfl ?_ | refine ao_boxm 10 rfl rfl rfl rfl rfl rfl ?_) | refine sK ?_ | refine sC (fun _ => ?_) (fun _ => ?_) | fail)
 have hfin : ∀ j, (refF N (1 + S.length) S j).length = N := refF_len N _ S
 refine aw_loop (fun i : Nat => [(5, .box 10 0), (6, .pv (tys S)), (7, .pv (pi i))]) (fun i => rH g (refT N S i) ((1 + S.length : Nat) : Int) ((8 + S.length : Nat) : Int) ((8 + S.length + w.toNat : Nat) : Int) 0) (fun i => i ≤ S.length) (fun i => S.length - i) 0 (by omega) tSU2
  ⟨hsub_cons (hcell (x := IntKind.i64.wrap (1 + (((S.map tyPV).length : Nat) : Int))) (y := IntKind.i64.wrap (IntKind.i64.wrap (1 + (((S.map tyPV).length : Nat) : Int)) + 7)) (z := IntKind.i64.wrap (IntKind.i64.wrap (IntKind.i64.wrap (1 + (((S.map tyPV).length : Nat) : Int)) + 7) + w)) hE1.symm (by rw [hE2, hE1]) (by rw [hE3, hE2, hE1])) (hsub_m rfl (by rw [refT, List.map_replicate]) hsub_nil), rfl⟩ ?_
 rintro i hi
 by_cases hlt : i < S.length
 ·have ed : decide ((i : Int) < (((S.map tyPV).length : Nat) : Int)) = true := decide_eq_true (by rw [List.length_map]; omega)
  have hl := refT_len N S i
  have hil : 1 + i < ((refT N S i).map wdPV).length := by rw [List.length_map, hl]; omega
  have hix : IntKind.i64.wrap (1 + (i : Int)) = ((1 + i : Nat) : Int) := by rw [wrap_in (by omega) (by omega)]; omega
  have hpp : ((refT N S i).map wdPV)[1 + i]? = some (wdPV ((refT N S i)[1 + i]'(by rw [hl]; omega))) := by rw [List.getElem?_map, List.getElem?_eq_getElem (by rw [hl]; omega)]; rfl
  have hgd : (refT N S i).getD (1 + i) (0, tyZ) = (refT N S i)[1 + i]'(by rw [hl]; omega) := by rw [List.getD_eq_getElem?_getD, List.getElem?_eq_getElem (by rw [hl]; omega)]; rfl
  have hsd : S.getD i tyZ = S[i] := by rw [List.getD_eq_getElem?_getD, List.getElem?_eq_getElem hlt]; rfl
  have c1 := Tag_call S[i]
  have he := map_get (f := tyPV) hlt
  repeat' (first | refine aw_draw_tailL 14 13 rfl (by kernel_rfl) (by kernel_rfl) (by kernel_rfl) (by kernel_rfl) (by kernel_rfl) ?_ | refine sM ?_ | (refine shC ?_; first | refine qC c1 ?_) | (refine shX ?_; first | refine qX he ?_ | refine ao_q rfl (q_mindex (k := 1 + i) tbOK rfl rfl rfl rfl rfl rfl rfl hix hil) rfl rfl ?_ | refine AD.step _ _ _ _ _ rfl (q_mindex (k := 1 + i) tbOK rfl rfl rfl rfl rfl rfl rfl hix hil) rfl rfl ?_) | (refine ao_sh_store ?_; first | refine ao_mstore (k := 1 + i) (j := 1) tbOK rfl rfl rfl rfl rfl hpp rfl rfl rfl rfl rfl ?_) | refine sK ?_ | refine sC (fun _ => ?_) (fun _ => ?_) | fail)
  refine ⟨i + 1, hlt, tD, tSU2, ⟨hsub_cons rfl (hsub_m rfl ?_ hsub_nil), rfl⟩⟩
  rw [refT, hgd, hsd, List.map_set]; rfl
 ·have hi2 : i = S.length := by omega
  subst hi2
  have ed : decide ((S.length : Int) < (((S.map tyPV).length : Nat) : Int)) = false := decide_eq_false (by rw [List.length_map]; omega)
  repeat' (first | refine sK ?_ | refine sC (fun _ => ?_) (fun _ => ?_) | fail)
  refine aw_loop (fun j : Nat => [(5, .box 10 0), (8, .pv (pi ((j + 1 : Nat) : Int)))]) (fun j => rH g (refF N (1 + S.length) S j) ((1 + S.length : Nat) : Int) ((8 + S.length : Nat) : Int) ((8 + S.length + w.toNat : Nat) : Int) 0) (fun j => j ≤ 7) (fun j => 7 - j) 0 (by omega) tSU2 ⟨hsub_cons rfl (hsub_m rfl (by rw [refF]) hsub_nil), rfl⟩ ?_
  clear hi hlt ed
  rintro j hj
  by_cases hlt : j < 7
  ·have ed : decide (((j + 1 : Nat) : Int) ≤ 7) = true := decide_eq_true (by omega)
   have hl := refF_len N (1 + S.length) S j
   have hil : 1 + S.length + j < ((refF N (1 + S.length) S j).map wdPV).length := by rw [List.length_map, hl]; omega
   have hix : IntKind.i64.wrap (IntKind.i64.wrap (((1 + S.length : Nat) : Int) + ((j + 1 : Nat) : Int)) - 1) = ((1 + S.length + j : Nat) : Int) := by rw [wrap_in (a := ((1 + S.length : Nat) : Int) + ((j + 1 : Nat) : Int)) (by omega) (by omega), wrap_in (by omega) (by omega)]; omega
   have hpp : ((refF N (1 + S.length) S j).map wdPV)[1 + S.length + j]? = some (wdPV ((refF N (1 + S.length) S j)[1 + S.length + j]'(by rw [hl]; omega))) := by rw [List.getElem?_map, List.getElem?_eq_getElem (by rw [hl]; omega)]; rfl
   have c1 := HeadR_call ⟨7, ((j + 1 : Nat) : Int), 0, false⟩ ⟨by simp, ⟨by simp only; omega, by simp only; omega⟩, by simp⟩
   repeat' (first | refine aw_draw_tailL 18 17 rfl (by kernel_rfl) (by kernel_rfl) (by kernel_rfl) (by kernel_rfl) (by kernel_rfl) ?_ | refine sM ?_ | (refine shC ?_; first | refine qC c1 ?_) | (refine shX ?_; first | refine ao_q rfl (q_mindex (k := 1 + S.length + j) tbOK rfl rfl rfl rfl rfl rfl rfl hix hil) rfl rfl ?_ | refine AD.step _ _ _ _ _ rfl (q_mindex (k := 1 + S.length + j) tbOK rfl rfl rfl rfl rfl rfl rfl hix hil) rfl rfl ?_) | (refine ao_sh_store ?_; first | refine ao_mstore (k := 1 + S.length + j) (j := 0) tbOK rfl rfl rfl rfl rfl hpp rfl rfl rfl rfl rfl ?_) | refine sK ?_ | refine sC (fun _ => ?_) (fun _ => ?_) | fail)
   refine ⟨j + 1, hlt, tD, tSU2, ⟨hsub_cons rfl (hsub_m rfl ?_ hsub_nil), rfl⟩⟩
   rw [refF, List.map_set]; rfl
  ·have hj2 : j = 7 := by omega
   subst hj2
   repeat' (first | refine sK ?_ | refine sC (fun _ => ?_) (fun _ => ?_) | fail)
   exact ⟨.inr rfl, .inr ⟨4, rfl, rfl, ⟨by repeat (first | exact hsub_nil | refine hsub_cons rfl ?_), rfl⟩⟩⟩
end Go.Cg
namespace Go.Cg
open Go.Proofs
theorem mkW_flat {ws : List Int} {a z : Nat} {hd : Int} {l : List Int} (h : a + 1 + l.length + z ≤ ws.length) : mkW ws a hd l z = ws.take a ++ (hd :: l ++ List.replicate z 0) ++ ws.drop (a + 1 + l.length + z) := by
 have hlen : (ws.set a hd).length = ws.length := List.length_set ..
 have h1 : (ws.set a hd).take (a + 1) = ws.take a ++ [hd] := by
  rw [List.take_succ_eq_append_getElem (by rw [hlen]; omega), List.take_set_of_le (Nat.le_refl a), List.getElem_set_self]
 have h2 : ∀ m, a < m → (ws.set a hd).drop m = ws.drop m := fun m hm => List.drop_set_of_lt hm
 have h3 : ((ws.set a hd).take (a + 1) ++ l).length = a + 1 + l.length := by rw [List.length_append, List.length_take, hlen]; omega
 rw [mkW]
 rw [List.take_left' h3, show a + 1 + l.length + z = (a + 1 + l.length) + z from rfl, ← List.drop_drop, List.drop_left' h3, h1, h2 _ (by omega), List.drop_drop]
 simp
theorem fsts_lay {W L : List Wd} {a z : Nat} {hd : Int} {l : List Int} (hL : fsts L = hd :: l ++ List.replicate z 0) (h : a + 1 + l.length + z ≤ W.length) : fsts (layW W a L) = mkW (fsts W) a hd l z := by
 have hlen : L.length = 1 + l.length + z := by
  have := congrArg List.length hL
  rw [fsts_len] at this
  simp at this; omega
 rw [mkW_flat (by rw [fsts_len]; exact h), ← hL, layW, hlen]
 simp only [fsts, List.map_append, List.map_take, List.map_drop]
 rw [show a + (1 + l.length + z) = a + 1 + l.length + z by omega]
def Same (r : Giv) (r' : RGiv) : Prop := r.1 = r'.1 ∧ r.2.1 = fsts r'.2.1 ∧ r.2.2 = r'.2.2
theorem same_give {h w u z : Nat} {W L : List Wd} {t : Ty} {l : List Int} (hW : W.length = h + w + 16384) (hL : fsts L = headP t :: l ++ List.replicate z 0) : Same (giveG h w (fsts W) u t l z) (giveR h w W u L) := by
 have hlen : L.length = 1 + l.length + z := by
  have := congrArg List.length hL
  rw [fsts_len] at this
  simp at this; omega
 rw [giveG, giveR, hlen]
 by_cases hr : u + 1 + l.length + z ≤ w
 ·rw [if_pos hr, if_pos (by omega)]
  exact ⟨rfl, (fsts_lay hL (by omega)).symm, by show u + 1 + l.length + z = u + (1 + l.length + z); omega⟩
 ·rw [if_neg hr, if_neg (by omega)]
  exact ⟨rfl, rfl, rfl⟩
theorem same_none {W : List Wd} {u : Nat} : Same (0, fsts W, u) (0, W, u) := ⟨rfl, rfl, rfl⟩
theorem fsts_zw (cs : List Ty) : fsts (cs.map zw) = List.replicate cs.length 0 := by
 induction cs with
 | nil => rfl
 | cons c cs ih => simp only [List.map_cons, fsts, List.length_cons, List.replicate_succ] at ih ⊢; rw [← ih]
theorem same_obj {g : Img} {h w u : Nat} {W : List Wd} (hf : fineR g = true) (hW : W.length = h + w + 16384) (t : Int) : Same (objM g h w (fsts W) u t) (objR g h w W u t) := by
 rw [objM, objR]
 by_cases hk : kindG g t = 0
 ·rw [if_pos hk, if_pos hk]
  have e : objectA g t = objT g t := by rw [objectA, hf, hk]; rfl
  rw [e]
  refine same_give hW ?_
  show headP ⟨5, t, 0, false⟩ :: fsts ((objT g t).map zw) = _
  rw [fsts_zw]; rfl
 ·rw [if_neg hk, if_neg hk]; exact same_none
theorem same_del {g : Img} {h w u : Nat} {W : List Wd} (hW : W.length = h + w + 16384) (t this m : Int) : Same (delM g h w (fsts W) u t this m) (delR g h w W u t this m) := by
 rw [delM, delR]
 by_cases hk : kindG g t = 3
 ·rw [if_pos hk, if_pos hk]; exact same_give hW rfl
 ·rw [if_neg hk, if_neg hk]; exact same_none
theorem elem_facts {g : Img} (hf : fineR g = true) (t : Ty) : sizeG g t = (if elemR g t then (cellsT g t).length else 0) ∧ (elemR g t = true → 0 < (cellsT g t).length) := by
 have hF := fine_of hf
 obtain ⟨k, i, d, r⟩ := t
 cases hel : elemR g ⟨k, i, d, r⟩
 ·refine ⟨?_, fun h => by cases h⟩
  rw [if_neg (by decide)]
  cases r
  ·by_cases h0 : d < 0
   ·exact sz_neg h0
   ·by_cases h3 : 3 < d
    ·exact sz_big h3
    ·refine sz_not ?_
     cases hp : plainG g ⟨k, i, d, false⟩
     ·rfl
     ·exfalso
      have e : elemR g ⟨k, i, d, false⟩ = true := by
       have hN := (formedG_bounds hF.formed).1
       have hd1 : decide (d < 0) = false := decide_eq_false h0
       have hd2 : decide (3 < d) = false := decide_eq_false h3
       simp only [plainG] at hp
       by_cases hk2 : k = 2 ∨ k = 3 ∨ k = 4
       ·have hi : i = 0 := by rcases hk2 with rfl | rfl | rfl <;> simpa using hp
        subst hi
        rcases hk2 with rfl | rfl | rfl <;> simp [elemR, whereT, usedR, plainT, h0, h3]
       ·by_cases hk7 : k = 7
        ·subst hk7
         simp at hp
         have : ¬ i < 0 := by omega
         simp [elemR, whereT, usedR, plainT, h0, h3, this, hp.2]
        ·by_cases hk5 : k = 5
         ·subst hk5
          simp at hp
          obtain ⟨h1, h2⟩ := kindG_there (g := g) (t := i) (k := kindG g i) rfl (by omega)
          have a1 : ¬ i < 0 := by omega
          have a2 : i < 32 := by omega
          have hr := kindG_range g i
          have h4 : kindG g i = 0 ∨ kindG g i = 2 ∨ kindG g i = 3 := by omega
          rcases h4 with h4 | h4 | h4 <;> simp [elemR, whereT, usedR, plainT, h0, h3, a1, a2, h4]
         ·by_cases hk6 : k = 6
          ·subst hk6
           simp at hp
           obtain ⟨h1, h2⟩ := kindG_there (g := g) (t := i) hp (by decide)
           have a1 : ¬ i < 0 := by omega
           have a2 : i < 32 := by omega
           simp [elemR, whereT, usedR, plainT, h0, h3, a1, a2, hp]
          ·have b2 : (k == 2) = false := by simp; omega
           have b3 : (k == 3) = false := by simp; omega
           have b4 : (k == 4) = false := by simp; omega
           have b5 : (k == 5) = false := by simp; omega
           have b6 : (k == 6) = false := by simp; omega
           have b7 : (k == 7) = false := by simp; omega
           simp [b2, b3, b4, b5, b6, b7] at hp
      rw [e] at hel; cases hel
  ·exact sz_ref
 ·rw [if_pos rfl]
  rw [elemR, Bool.and_eq_true] at hel
  obtain ⟨hw, hu⟩ := hel
  have hpl : plainT ⟨k, i, d, r⟩ = true := by
   cases h : plainT ⟨k, i, d, r⟩
   ·rw [whereT, h] at hw; cases hw
   ·rfl
  have hw2 : k ≠ 1 ∧ r = false := by
   rw [whereT, hpl] at hw
   simpa using hw
  obtain ⟨hk1, rfl⟩ := hw2
  have hd : ¬ d < 0 ∧ ¬ 3 < d ∧ ¬ i < 0 := by
   simp only [plainT] at hpl
   split at hpl
   ·cases hpl
   ·rename_i h; simp at h; omega
  obtain ⟨h0, h3, hi0⟩ := hd
  have hg : plainG g ⟨k, i, d, false⟩ = true := by
   rw [usedR, hpl, Bool.true_and] at hu
   simp only [plainT, h0, h3, hi0, decide_false, Bool.or_false, Bool.false_eq_true, if_false] at hpl
   simp only [plainG]
   by_cases hk2 : k = 2 ∨ k = 3 ∨ k = 4
   ·rcases hk2 with rfl | rfl | rfl <;> simpa using hpl
   ·by_cases hk7 : k = 7
    ·subst hk7; simp at hpl ⊢; omega
    ·by_cases hk5 : k = 5
     ·subst hk5
      simp at hu ⊢; omega
     ·by_cases hk6 : k = 6
      ·subst hk6; simpa using hu
      ·have b2 : (k == 2) = false := by simp; omega
       have b3 : (k == 3) = false := by simp; omega
       have b4 : (k == 4) = false := by simp; omega
       have b5 : (k == 5) = false := by simp; omega
       have b6 : (k == 6) = false := by simp; omega
       have b7 : (k == 7) = false := by simp; omega
       have b1 : (k == 1) = false := by simp; omega
       simp [b1, b2, b3, b4, b5, b6, b7] at hpl
  by_cases h6 : k = 6 ∧ d = 0
  ·obtain ⟨rfl, rfl⟩ := h6
   have hkg : kindG g i = 1 := by simpa [plainG] using hg
   rw [sz_val hkg, cellsA_yes hf hu]
   refine ⟨rfl, fun _ => ?_⟩
   have hlen := cells_open_len hF.well hF.used (t := ⟨6, i, 0, false⟩) (by simp [whole])
   rw [hlen]; omega
  ·have hwh : whole ⟨k, i, d, false⟩ = true := by
    cases h : whole ⟨k, i, d, false⟩
    ·obtain ⟨a1, _, a3, _⟩ := used_value hu h
     exact absurd ⟨a1, a3⟩ h6
    ·rfl
   rw [sz_one h0 h3 hg h6, cells_whole hF.well hF.used hk1 hwh]
   exact ⟨rfl, fun _ => by simp⟩
end Go.Cg
namespace Go.Cg.Any
open Go.RowKit
section
variable {P : Program} {tb : Tab} {n : Nat} {g : Base} {K K' : KK} {w w' : World} {ρ ρ' : Nat → Value} {H H' : HEnv} {env : Env} {a : Act} {ops : List Oper} {o : Oper} {rest : List Oper} {Q : Env → HEnv → Prop} {f : FuncId} {args : List AV} {r : AV}
def isReady (ops : List Oper) (listed : List Bool) (j : Nat) : Bool := match ops[j]?, listed[j]? with
 | some o, some false => o.after.toList.all fun e => !Region.binds .any e || (listed[e.on]?).getD false
 | _, _ => false
structure AT (P : Program) (n : Nat) (g : Base) (ops : List Oper) (listed : List Bool) (env : Env) (H : HEnv) (QQ : QC) : Prop where
 go : ∀ (fuel : Nat) a w, Inv n g env H a w → fuel = (listed.filter (! ·)).length → listed.length = ops.length → wpAny P .any ops.toArray (fun e a' w' => e = .normal ∧ ∃ env' H', Inv n g env' H' a' w' ∧ QQ .normal env' H') fuel listed.toArray a w
structure ATs (P : Program) (n : Nat) (g : Base) (ops : List Oper) (listed : List Bool) (env : Env) (H : HEnv) (QQ : QC) (j : Nat) : Prop where
 go : ∀ m, j ≤ m → isReady ops listed m = true → ∃ o, ops[m]? = some o ∧ AO P n g ops.toArray [o] env H (fun env' H' => AT P n g ops (listed.set m true) env' H' QQ)
variable {listed : List Bool} {QQ : QC}
theorem ready_isReady {m : Nat} : m ∈ Region.ready .any ops.toArray listed.toArray → isReady ops listed m = true := by
 rw [mem_ready_iff]
 rintro ⟨o, ho, hun, hall⟩
 have hl : listed[m]? = some false := by
  simp only [Array.getD_eq_getD_getElem?, List.getElem?_toArray] at hun
  cases h : listed[m]? with
  | none => rw [h] at hun; cases hun
  | some b => rw [h] at hun; simp at hun; rw [hun]
 simp only [isReady, ho, hl]
 rw [List.all_eq_true]
 intro e he
 cases hb : Region.binds .any e
 ·rfl
 ·have := hall e.on (List.any_eq_true.2 ⟨e, he, by simp [hb]⟩)
  simp only [Array.getD_eq_getD_getElem?, List.getElem?_toArray] at this
  simpa using this
theorem at_end {j : Nat} (h : ops.length = j) : ATs P n g ops listed env H QQ j := ⟨fun m hm hr => by
 simp only [isReady, List.getElem?_eq_none (show ops.length ≤ m by omega)] at hr; cases hr⟩
theorem at_skip {j : Nat} (h : isReady ops listed j = false) (k : ATs P n g ops listed env H QQ (j + 1)) : ATs P n g ops listed env H QQ j := ⟨fun m hm hr => by
 rcases Nat.eq_or_lt_of_le hm with rfl | hm
 ·rw [h] at hr; cases hr
 ·exact k.go m hm hr⟩
theorem at_take {j : Nat} {o : Oper} (ho : ops[j]? = some o) (h : AO P n g ops.toArray [o] env H (fun env' H' => AT P n g ops (listed.set j true) env' H' QQ)) (k : ATs P n g ops listed env H QQ (j + 1)) : ATs P n g ops listed env H QQ j := ⟨fun m hm hr => by
 rcases Nat.eq_or_lt_of_le hm with rfl | hm
 ·exact ⟨o, ho, h⟩
 ·exact k.go m hm hr⟩
theorem at_fin (h : listed.all id = true) (hq : QQ .normal env H) : AT P n g ops listed env H QQ := ⟨fun fuel a w hi hf hl => by
 have h0 : (listed.filter (! ·)) = [] := by
  rw [List.filter_eq_nil_iff]
  intro b hb
  have := List.all_eq_true.1 h b hb
  simpa using this
 rw [h0] at hf
 subst hf
 refine ⟨?_, rfl, env, H, hi, hq⟩
 rw [List.eq_nil_iff_forall_not_mem]
 intro j hj
 obtain ⟨o, ho, hun, _⟩ := mem_ready_iff.1 hj
 have hlt : j < listed.length := by rw [hl]; exact (List.getElem?_eq_some_iff.1 ho).1
 have := List.all_eq_true.1 h listed[j] (List.getElem_mem hlt)
 simp only [Array.getD_eq_getD_getElem?, List.getElem?_toArray, List.getElem?_eq_getElem hlt, Option.getD_some] at hun
 rw [hun] at this; cases this⟩
theorem at_go (hE : edgesDown ops = true) (hn : listed.any (! ·) = true) (h : ATs P n g ops listed env H QQ 0) : AT P n g ops listed env H QQ := ⟨fun fuel a w hi hf hl => by
 obtain ⟨b, hb, hb2⟩ := List.any_eq_true.1 hn
 cases fuel with
 | zero =>
  have := List.filter_eq_nil_iff.1 (List.eq_nil_of_length_eq_zero hf.symm) b hb
  exact absurd hb2 this
 | succ fuel =>
  refine ⟨fun h0 => ?_, fun j hj => ?_⟩
  ·have hall := ready_nil hE (by simpa using hl) h0
   obtain ⟨j, hj⟩ := List.getElem?_of_mem hb
   have hlt := (List.getElem?_eq_some_iff.1 hj).1
   have := hall j (by omega)
   simp only [Array.getD_eq_getD_getElem?, List.getElem?_toArray, hj, Option.getD_some] at this
   subst this; cases hb2
  ·obtain ⟨o, ho, hao⟩ := h.go j (Nat.zero_le _) (ready_isReady hj)
   obtain ⟨_, _, hun, _⟩ := mem_ready_iff.1 hj
   have hlt : j < listed.length := by rw [hl]; exact (List.getElem?_eq_some_iff.1 ho).1
   have hcount : fuel = ((listed.set j true).filter (! ·)).length := by
    have h1 := count_next (listed := listed.toArray) (j := j) (fuel := fuel) (by simpa using hlt) hun (by simpa using hf.symm)
    simpa using h1.symm
   have hw := hao.go a w hi
   have hnext : ∀ a2 w2, (∃ env' H', Inv n g env' H' a2 w2 ∧ Exit.normal = .normal ∧ AT P n g ops (listed.set j true) env' H' QQ) → wpAny P .any ops.toArray (fun e a' w' => e = .normal ∧ ∃ env' H', Inv n g env' H' a' w' ∧ QQ .normal env' H') fuel (listed.toArray.setIfInBounds j true) a2 w2 := by
    rintro a2 w2 ⟨env', H', hi', _, hat⟩
    have := hat.go fuel a2 w2 hi' hcount (by simpa using hl)
    simpa using this
   unfold wpOp
   simp only [List.getElem?_toArray, ho]
   unfold wpList at hw
   split at hw
   ·rename_i hwt
    rw [if_pos hwt]
    rcases hw with hw | hw
    ·refine .inl ?_
     unfold Oper.wp at hw ⊢
     generalize (execOp a.eval o).run P w = res at hw
     cases res with
     | halt x w' => cases x <;> simp only [Oper.upon] at hw <;> (obtain ⟨_, _, _, he, _⟩ := hw; cases he)
     | ok nx w' =>
      cases nx <;> simp only [Oper.upon] at hw ⊢
      case value v => exact hnext _ _ hw
      case skip => exact hnext _ _ hw
      case defer d => exact hnext _ _ hw
      case enter f args => exact Calls.mono hw (fun e w'' he => by
       cases e with
       | returned v => exact hnext _ _ he
       | panicked ch => obtain ⟨_, _, _, he, _⟩ := he; cases he
       | outgrown => obtain ⟨_, _, _, _, _, he, _⟩ := he; cases he)
      case row f args => exact Rows.mono hw (fun v _ he => hnext _ _ he)
    ·obtain ⟨_, _, _, _, _, _, he, _⟩ := hw; cases he
   ·rename_i hwt
    rw [if_neg hwt]
    exact hnext _ _ hw⟩
theorem aw_draw_all {id : Nat} (hm : P.follows .mixedOrders = true) (h : AT P n g ops (ops.map fun _ => false) env H QQ) (hnd : noDefer ops = true := by kernel_rfl) : AW P n g (.region id ops.toArray true) env H QQ := by
 refine ⟨fun a w hi rr dd => ?_⟩
 refine wpIn_mono (region_anyR (R := fun a' w' => ∃ env' H', Inv n g env' H' a' w' ∧ QQ .normal env' H') hnd hm ?_) (fun e a' w' h => by obtain ⟨rfl, h⟩ := h; exact h)
 obtain ⟨h1, h2, K, ρ, hf, he⟩ := hi
 have hev : Evo K K w { w with drawn := w.drawn + 1 } := (Evo.refl hf.lt).drew
 have hi2 : Inv n g env H a { w with drawn := w.drawn + 1 } := ⟨h1, h2, K, ρ, hf.evo hev, fun t av ht => let ⟨v, v1, v2⟩ := he t av ht; ⟨v, v1, v2.later (hev.later hf.lt)⟩⟩
 have hg := h.go ops.length a _ hi2 ((show ∀ l : List Oper, l.length = ((l.map fun _ => false).filter (! ·)).length from fun l => by induction l with | nil => rfl | cons x l ih => simp only [List.map_cons, List.filter_cons, Bool.not_false, if_true, List.length_cons]; omega) ops) (by simp)
 have e1 : (ops.map fun _ => false).toArray = Array.replicate ops.toArray.size false := by
  apply Array.ext
  ·simp
  ·intro i h1 h2; simp
 rw [e1] at hg
 simpa using hg
end
end Go.Cg.Any
namespace Go.Cg
open Go.RowKit Go.Cg.Any
def shiftE (k : Nat) (e : Edge) : Option Edge := if e.on < k then none else some { e with on := e.on - k }
def shiftO (k : Nat) (o : Oper) : Oper := { o with after := (o.after.toList.filterMap (shiftE k)).toArray, guard := o.guard.map fun x => (x.1 - k, x.2) }
def shiftOps (k : Nat) (ops : List Oper) : List Oper := (ops.drop k).map (shiftO k)
def shiftOk (k : Nat) (ops : List Oper) : Bool := (ops.drop k).all fun o => match o.guard with | none => true | some x => Nat.ble k x.1
theorem shiftOps_get (k : Nat) (ops : List Oper) (j : Nat) : (shiftOps k ops)[j]? = (ops[k + j]?).map (shiftO k) := by
 rw [shiftOps, List.getElem?_map, List.getElem?_drop]
theorem shiftO_edge (k : Nat) (o : Oper) (i : Nat) : hasEdge (shiftO k o) i = hasEdge o (k + i) := by
 have key : ∀ l : List Edge, (l.filterMap (shiftE k)).any (fun e => Region.binds .any e && e.on == i) = l.any fun e => Region.binds .any e && e.on == k + i := by
  intro l
  induction l with
  | nil => rfl
  | cons e l ih =>
   rw [List.filterMap_cons, List.any_cons]
   by_cases h : e.on < k
   ·have h1 : shiftE k e = none := if_pos h
    have h2 : (e.on == k + i) = false := by simp; omega
    rw [h1, h2, Bool.and_false, Bool.false_or]; exact ih
   ·have h1 : shiftE k e = some { e with on := e.on - k } := if_neg h
    have h2 : (e.on - k == i) = (e.on == k + i) := by
     rw [Bool.eq_iff_iff, beq_iff_eq, beq_iff_eq]; omega
    rw [h1]
    simp only [List.any_cons, ih, h2]
    rfl
 simp only [hasEdge, shiftO]
 exact key _
section
variable {P : Program} {R : Exit → Act → World → Prop} {ops : List Oper} {k : Nat}
structure Shifted (k : Nat) (ops : List Oper) (L L' : Array Bool) : Prop where
 size : L.size = ops.length
 size' : k + L'.size = ops.length
 low : ∀ i d, i < k → L.getD i d = true
 high : ∀ i d, L'.getD i d = L.getD (k + i) d
theorem shifted_ready {L L' : Array Bool} (hs : Shifted k ops L L') (j : Nat) : j ∈ Region.ready .any ops.toArray L ↔ k ≤ j ∧ j - k ∈ Region.ready .any (shiftOps k ops).toArray L' := by
 rw [mem_ready_iff, mem_ready_iff]
 constructor
 ·rintro ⟨o, ho, h1, h2⟩
  have hkj : k ≤ j := by
   rcases Nat.lt_or_ge j k with h | h
   ·rw [hs.low j true h] at h1; cases h1
   ·exact h
  refine ⟨hkj, shiftO k o, by rw [shiftOps_get, show k + (j - k) = j by omega, ho]; rfl, by rw [hs.high, show k + (j - k) = j by omega]; exact h1, fun i hi => ?_⟩
  rw [hs.high]; exact h2 _ (by rw [← shiftO_edge]; exact hi)
 ·rintro ⟨hkj, o', ho', h1, h2⟩
  rw [shiftOps_get, show k + (j - k) = j by omega] at ho'
  cases ho : ops[j]? with
  | none => rw [ho] at ho'; cases ho'
  | some o =>
   rw [ho] at ho'
   simp only [Option.map_some, Option.some.injEq] at ho'
   subst ho'
   refine ⟨o, rfl, by rw [hs.high, show k + (j - k) = j by omega] at h1; exact h1, fun i hi => ?_⟩
   rcases Nat.lt_or_ge i k with h | h
   ·exact hs.low i false h
   ·have := h2 (i - k) (by rw [shiftO_edge, show k + (i - k) = i by omega]; exact hi)
    rw [hs.high, show k + (i - k) = i by omega] at this; exact this
theorem shifted_next {L L' : Array Bool} (hs : Shifted k ops L L') {j : Nat} (hkj : k ≤ j) (hj : j < ops.length) : Shifted k ops (L.setIfInBounds j true) (L'.setIfInBounds (j - k) true) := by
 refine ⟨by simp [hs.size], by simp [hs.size'], fun i d hi => by rw [getD_set_other (by omega)]; exact hs.low i d hi, fun i d => ?_⟩
 by_cases e : k + i = j
 ·rw [show i = j - k by omega, getD_set_same (by have := hs.size'; omega), show k + (j - k) = j by omega, getD_set_same (by have := hs.size; omega)]
 ·rw [getD_set_other (by omega), getD_set_other e]; exact hs.high i d
theorem wpOp_shift (hok : shiftOk k ops = true) {j : Nat} (hkj : k ≤ j) {K : Act → World → Prop} {a : Act} {w : World} (h : wpOp P (shiftOps k ops).toArray R (j - k) K a w) : wpOp P ops.toArray R j K a w := by
 unfold wpOp at h ⊢
 simp only [List.getElem?_toArray, shiftOps_get, show k + (j - k) = j by omega] at h ⊢
 cases ho : ops[j]? with
 | none => simpa [ho] using h
 | some o =>
  simp only [ho, Option.map_some] at h ⊢
  have hw : Region.wanted (shiftO k o) (yielded (shiftOps k ops).toArray a.tmps) = Region.wanted o (yielded ops.toArray a.tmps) := by
   unfold Region.wanted
   have hmem : o ∈ ops.drop k := by
    rw [List.mem_drop_iff_getElem]
    have hlt := (List.getElem?_eq_some_iff.1 ho).1
    refine ⟨j - k, by omega, ?_⟩
    have : k + (j - k) = j := by omega
    simp only [this]
    exact (List.getElem?_eq_some_iff.1 ho).2
   have hg := List.all_eq_true.1 hok o hmem
   cases hgd : o.guard with
   | none => simp [shiftO, hgd]
   | some x =>
    obtain ⟨m, b⟩ := x
    rw [hgd] at hg
    have hkm : k ≤ m := Nat.le_of_ble_eq_true hg
    have hy : yielded (shiftOps k ops).toArray a.tmps (m - k) = yielded ops.toArray a.tmps m := by
     unfold yielded
     simp only [List.getElem?_toArray, shiftOps_get, show k + (m - k) = m by omega]
     cases ops[m]? <;> rfl
    simp only [shiftO, hgd, Option.map_some, hy]
  rw [hw] at h
  split at h
  ·rename_i hwt; rw [if_pos hwt]; exact h
  ·rename_i hwt; rw [if_neg hwt]; exact h
theorem wpAny_shift (hok : shiftOk k ops = true) : ∀ (fuel : Nat) (L L' : Array Bool) (a : Act) (w : World), Shifted k ops L L' → wpAny P .any (shiftOps k ops).toArray R fuel L' a w → wpAny P .any ops.toArray R fuel L a w
 | 0, L, L', a, w, hs, h => by
  refine ⟨?_, h.2⟩
  rw [List.eq_nil_iff_forall_not_mem]
  intro j hj
  have := ((shifted_ready hs j).1 hj).2
  rw [h.1] at this; cases this
 | fuel + 1, L, L', a, w, hs, h => by
  refine ⟨fun hn => h.1 ?_, fun j hj => ?_⟩
  ·rw [List.eq_nil_iff_forall_not_mem]
   intro j hj
   have : k + j ∈ Region.ready .any ops.toArray L := (shifted_ready hs _).2 ⟨by omega, by rw [Nat.add_sub_cancel_left]; exact hj⟩
   rw [hn] at this; cases this
  ·obtain ⟨hkj, hj'⟩ := (shifted_ready hs j).1 hj
   obtain ⟨o, ho, _, _⟩ := mem_ready_iff.1 hj
   have hlt := (List.getElem?_eq_some_iff.1 ho).1
   exact wpOp_shift hok hkj (wpOp_mono (fun a w hh => wpAny_shift hok fuel _ _ a w (shifted_next hs hkj hlt) hh) (h.2 (j - k) hj'))
end
section
variable {P : Program} {n : Nat} {g : Base} {H : HEnv} {env : Env} {ops : List Oper} {QQ : QC}
theorem at_shift (k : Nat) (hk : Nat.ble k ops.length = true) (hok : shiftOk k ops = true) (hB : drawOk (shiftOps k ops) (shiftOps k ops) = true) (h : AD P n g H (shiftOps k ops) (fun env' => QQ .normal env' H) (shiftOps k ops) env) :
  AT P n g ops (List.replicate k true ++ List.replicate (ops.length - k) false) env H QQ := ⟨fun fuel a w hi hf hl => by
 obtain ⟨s⟩ := script_of h
 have hkl := Nat.le_of_ble_eq_true hk
 obtain ⟨h1, h2, K, ρ, hfs, he⟩ := hi
 have hlen : (shiftOps k ops).length = ops.length - k := by rw [shiftOps, List.length_map, List.length_drop]
 have hsh : Shifted k ops (List.replicate k true ++ List.replicate (ops.length - k) false).toArray (Array.replicate (shiftOps k ops).length false) := by
  refine ⟨by simp; omega, by rw [Array.size_replicate, hlen]; omega, fun i d hi => ?_, fun i d => ?_⟩
  ·rw [Array.getD_eq_getD_getElem?, List.getElem?_toArray, List.getElem?_append_left (by simpa using hi), List.getElem?_replicate, if_pos hi]; rfl
  ·rw [Array.getD_eq_getD_getElem?, Array.getD_eq_getD_getElem?, show (List.replicate k true ++ List.replicate (ops.length - k) false).toArray[k + i]? = (List.replicate k true ++ List.replicate (ops.length - k) false)[k + i]? from List.getElem?_toArray .., List.getElem?_append_right (by simp), List.length_replicate, Nat.add_sub_cancel_left, List.getElem?_replicate, Array.getElem?_replicate, hlen]
 refine wpAny_shift hok fuel _ _ a w hsh ?_
 have hfuel : ((Array.replicate (shiftOps k ops).length false).toList.filter (! ·)).length = fuel := by
  rw [hf]
  simp [hlen]
 have hnl : ∀ i, i < (shiftOps k ops).length → (Array.replicate (shiftOps k ops).length false).getD i true = false := fun i hi => by simp [Array.getD_eq_getD_getElem?, hi]
 refine wpAny_of_script (l := shiftOps k ops) (by rw [List.take_length]) s hB (by rw [tailOk, List.drop_eq_nil_of_le (by simp)]; rfl) (fun env' a' w' hq hi' => ?_) _ _ _ _ hfuel ⟨h1, h2, by simp, Nat.le_refl _, fun j hj1 hj2 => by omega, ?_, K, ρ, hfs, ?_, ?_⟩
 ·rw [List.drop_length]
  exact ⟨rfl, env', H, hi', hq⟩
 ·intro i o ho hli
  rw [hnl i (List.getElem?_eq_some_iff.1 ho).1] at hli; cases hli
 ·intro i o ri t ho hli
  rw [hnl i (List.getElem?_eq_some_iff.1 ho).1] at hli; cases hli
 ·intro t av hav _
  exact he t av hav⟩
theorem at_sub {listed : List Bool} {env' : Env} {H' : HEnv} (h : AT P n g ops listed env' H' QQ) (hs : Sub env env') (hh : HFit H H' env') : AT P n g ops listed env H QQ := ⟨fun fuel a w hi hf hl => h.go fuel a w ((hi.sub hs).hsub hh) hf hl⟩
theorem aw_draw_two {id : Nat} (k : Nat) (env' : Env) (H' : HEnv) (hm : P.follows .mixedOrders = true) (hk : Nat.ble k ops.length = true) (hok : shiftOk k ops = true) (hB : drawOk (shiftOps k ops) (shiftOps k ops) = true)
  (h2 : AD P n g H' (shiftOps k ops) (fun env2 => QQ .normal env2 H') (shiftOps k ops) env')
  (h1 : AT P n g ops (List.replicate k true ++ List.replicate (ops.length - k) false) env' H' QQ → AT P n g ops (ops.map fun _ => false) env H QQ)
  (hnd : noDefer ops = true := by kernel_rfl) : AW P n g (.region id ops.toArray true) env H QQ :=
 aw_draw_all hm (h1 (at_shift k hk hok hB h2)) hnd
end
end Go.Cg
namespace Go.Cg
open Go.Proofs
theorem base_u64 (l : List Int) : ∀ p ∈ l.map u64, ∃ u, p = .base u := by
 intro p hp
 obtain ⟨x, _, rfl⟩ := List.mem_map.1 hp
 exact ⟨_, rfl⟩
set_option maxHeartbeats 1000000 in
theorem SameWordsU_call (a b : List Int) (fa fb : Bool) (ha : a.length ≤ 100000) (hb : b.length ≤ 100000) : ACall Tryz.prog 30 [.slc 1 (a.map u64) fa, .slc 1 (b.map u64) fb] (pb (decide (a = b))) := by
 refine acall_intro tbOK Tryz.func30 rfl (by kernel_rfl) Tryz.ntmps30 (by simp) _ rfl (fun hw gB hgB => ?_)
 by_cases hlen : a.length = b.length
 ·have hd : (decide ((((a.map u64).length : Nat) : Int) = (((b.map u64).length : Nat) : Int))) = true := decide_eq_true (by simp [hlen])
  repeat' (first | refine sK ?_ | refine sC (fun _ => ?_) (fun _ => ?_) | fail)
  refine aw_loop (fun k : Nat => [(0, .pv (.slc 1 (a.map u64) fa)), (1, .pv (.slc 1 (b.map u64) fb)), (5, .pv (pi k))]) (fun _ => []) (fun k => k ≤ a.length ∧ a.take k = b.take k) (fun k => a.length - k) 0 ⟨by simp, by simp⟩ (tS) tH ?_
  rintro k ⟨hk, hno⟩
  by_cases hlt : k < a.length
  ·have he : (a.map u64)[k]? = some (u64 a[k]) := by rw [List.getElem?_map, List.getElem?_eq_getElem hlt]; rfl
   have hltb : k < b.length := by omega
   have he' : (b.map u64)[k]? = some (u64 b[k]) := by rw [List.getElem?_map, List.getElem?_eq_getElem hltb]; rfl
   have hdk : decide ((k : Int) < (((a.map u64).length : Nat) : Int)) = true := decide_eq_true (by rw [List.length_map]; omega)
   repeat' (first | (refine shX ?_; first | refine qX he ?_ | refine qX he' ?_) | refine sK ?_ | refine sC (fun _ => ?_) (fun _ => ?_) | fail)
   ·rename_i h
    refine retq rfl ?_
    have : a ≠ b := by
     rintro rfl
     simp at h
    simp [retPV, this]
   ·rename_i h
    have e : a[k] = b[k] := by simpa using h
    exact ⟨k + 1, ⟨by omega, by rw [List.take_succ_eq_append_getElem hlt, List.take_succ_eq_append_getElem hltb, hno, e]⟩, tD, tS, tH⟩
  ·have hdk : decide ((k : Int) < (((a.map u64).length : Nat) : Int)) = false := decide_eq_false (by rw [List.length_map]; omega)
   repeat' (first | refine sK ?_ | refine sC (fun _ => ?_) (fun _ => ?_) | fail)
   have e : a = b := by
    have h1 := hno
    rw [List.take_of_length_le (by omega), List.take_of_length_le (by omega)] at h1
    exact h1
   exact retq rfl (by simp [retPV, e])
 ·have hd : (decide ((((a.map u64).length : Nat) : Int) = (((b.map u64).length : Nat) : Int))) = false := decide_eq_false (by simp; omega)
  repeat' (first | refine sK ?_ | refine sC (fun _ => ?_) (fun _ => ?_) | fail)
  exact retq rfl (by
    have : a ≠ b := by rintro rfl; exact hlen rfl
    simp [retPV, this])
end Go.Cg
namespace Go.Cg
open Go.Proofs
theorem fsts_flat (n m : Nat) : ∀ (W : List Wd), fsts W = List.replicate m 0 → fsts (List.replicate n W).flatten = List.replicate (n * m) 0 := by
 intro W hW
 induction n with
 | zero => simp [fsts]
 | succ n ih =>
  rw [List.replicate_succ, List.flatten_cons, fsts, List.map_append]
  rw [show W.map (·.1) = List.replicate m 0 from hW, show (List.replicate n W).flatten.map (·.1) = List.replicate (n * m) 0 from ih, List.replicate_append_replicate, Nat.succ_mul, Nat.add_comm]
theorem fsts_zip {cs : List Ty} {x : List Int} (h : cs.length = x.length) : fsts (zipWd cs x) = x := by
 induction cs generalizing x with
 | nil => cases x with
  | nil => rfl
  | cons _ _ => cases h
 | cons c cs ih =>
  cases x with
  | nil => cases h
  | cons v x =>
   show v :: fsts (zipWd cs x) = v :: x
   rw [ih (by simpa using h)]
theorem same_arr {g : Img} {h w u : Nat} {W : List Wd} (hf : fineR g = true) (hW : W.length = h + w + 16384) (t : Ty) (n : Int) : Same (arrM g h w (fsts W) u t n) (arrR g h w W u t n) := by
 obtain ⟨hs, hp⟩ := elem_facts hf t
 by_cases h1 : n < 0 ∨ 4096 < n ∨ 3 ≤ t.dims ∨ elemR g t = false
 ·rw [arrR_no h1, arr_no]
  ·exact same_none
  ·rcases h1 with h1 | h1 | h1 | h1
   ·exact .inl h1
   ·exact .inr (.inr (.inr h1))
   ·exact .inr (.inl h1)
   ·rw [h1] at hs
    exact .inr (.inr (.inl hs))
 ·have hel : elemR g t = true := by
   cases he : elemR g t
   ·exact absurd (.inr (.inr (.inr he))) h1
   ·rfl
  rw [if_pos hel] at hs
  have hp := hp hel
  rw [arrR, if_neg h1, arrM, if_neg (by rintro (h2 | h2 | h2 | h2); exact h1 (.inl h2); exact h1 (.inr (.inr (.inl h2))); omega; exact h1 (.inr (.inl h2))), hs]
  refine same_give hW ?_
  show headP (upT t) :: IntKind.u64.wrap n :: fsts (List.replicate n.toNat ((cellsT g t).map zw)).flatten = _
  rw [fsts_flat _ _ _ (fsts_zw _)]; rfl
theorem same_box {g : Img} {h w u : Nat} {W : List Wd} (hf : fineR g = true) (hW : W.length = h + w + 16384) (t : Ty) (x : List Int) : Same (boxM g h w (fsts W) u t x) (boxR g h w W u t x) := by
 obtain ⟨hs, hp⟩ := elem_facts hf t
 cases hel : elemR g t
 ·rw [boxR_no (.inr (.inl hel)), box_no]
  ·exact same_none
  ·rw [hel] at hs
   exact .inr (.inr (.inl hs))
 ·rw [if_pos hel] at hs
  have hp := hp hel
  have hw : whereT t 1 = true := by rw [elemR, Bool.and_eq_true] at hel; exact hel.1
  have hbx : boxedR t = true ↔ (t.dims = 0 ∧ (t.kind = 2 ∨ t.kind = 3 ∨ t.kind = 6)) := by
   obtain ⟨k, i, d, r⟩ := t
   cases hpl : plainT ⟨k, i, d, r⟩
   ·rw [whereT, hpl] at hw; cases hw
   ·rw [whereT, hpl] at hw
    simp at hw
    obtain ⟨hk1, rfl⟩ := hw
    simp only [plainT] at hpl
    split at hpl
    ·cases hpl
    ·simp only [boxedR, numR]
     by_cases h2 : k = 2
     ·subst h2; simp at hpl; subst hpl; simp
     ·by_cases h3 : k = 3
      ·subst h3; simp at hpl; subst hpl; simp
      ·by_cases h6 : k = 6
       ·subst h6; simp
       ·simp [h2, h3, h6]
  by_cases hc : boxedR t = false ∨ (cellsT g t).length ≠ x.length
  ·rw [boxR_no (by rcases hc with hc | hc; exact .inl hc; exact .inr (.inr hc)), box_no]
   ·exact same_none
   ·rcases hc with hc | hc
    ·have : ¬ (t.dims = 0 ∧ (t.kind = 2 ∨ t.kind = 3 ∨ t.kind = 6)) := fun hh => by rw [hbx.2 hh] at hc; cases hc
     by_cases hd : t.dims = 0
     ·exact .inr (.inl fun hk => this ⟨hd, hk⟩)
     ·exact .inl hd
    ·rw [hs]; exact .inr (.inr (.inr hc))
  ·have hbt : boxedR t = true := by
    cases hb : boxedR t
    ·exact absurd (.inl hb) hc
    ·rfl
   have hlen : (cellsT g t).length = x.length := Classical.byContradiction fun hn => hc (.inr hn)
   obtain ⟨hd, hk⟩ := hbx.1 hbt
   rw [boxR, if_neg (by rw [hbt, hel]; simp; exact hlen), boxM, if_neg (by rw [hs]; rintro (h2 | h2 | h2 | h2); exact h2 hd; exact h2 hk; omega; exact h2 hlen)]
   refine same_give hW ?_
   show headP t :: fsts (zipWd (cellsT g t) x) = _
   rw [fsts_zip hlen]; simp
def doA (g : Img) (h w : Nat) (ws : List Int) (u : Nat) (c : Ac) : Giv :=
 if 0 ≤ c.kind ∧ c.kind ≤ 3 then doM g h w ws u c else if c.kind = 4 then (0, putL ws c.a c.x, u) else (getL ws c.a, ws, u)
def sameA (g : Img) (h w : Nat) (W : List Wd) (u : Nat) (c : Ac) : RGiv :=
 if c.kind = 0 then objR g h w W u c.t.index else if c.kind = 1 then arrR g h w W u c.t c.n else if c.kind = 2 then boxR g h w W u c.t c.l else if c.kind = 3 then delR g h w W u c.t.index c.a c.n
 else if c.kind = 4 then (0, putR W c.a c.x, u) else (getL (fsts W) c.a, W, u)
theorem same_act {g : Img} {h w u : Nat} {W : List Wd} (hf : fineR g = true) (hW : W.length = h + w + 16384) (c : Ac) : Same (doA g h w (fsts W) u c) (sameA g h w W u c) := by
 obtain ⟨k, n, t, a, x, l⟩ := c
 by_cases h0 : k = 0
 ·subst h0; exact same_obj hf hW t.index
 ·by_cases h1 : k = 1
  ·subst h1; exact same_arr hf hW t n
  ·by_cases h2 : k = 2
   ·subst h2; exact same_box hf hW t l
   ·by_cases h3 : k = 3
    ·subst h3; exact same_del hW t.index a n
    ·by_cases h4 : k = 4
     ·subst h4; exact ⟨rfl, (putR_fsts W a x).symm, rfl⟩
     ·have e1 : doA g h w (fsts W) u ⟨k, n, t, a, x, l⟩ = (getL (fsts W) a, fsts W, u) := by
       rw [doA, if_neg (by simp only; omega), if_neg (by simp only; exact h4)]
      have e2 : sameA g h w W u ⟨k, n, t, a, x, l⟩ = (getL (fsts W) a, W, u) := by
       rw [sameA, if_neg (by simp only; exact h0), if_neg (by simp only; exact h1), if_neg (by simp only; exact h2), if_neg (by simp only; exact h3), if_neg (by simp only; exact h4)]
      rw [e1, e2]; exact ⟨rfl, rfl, rfl⟩
def okWs (ws : List Int) : Prop := ∀ x ∈ ws, 0 ≤ x ∧ x ≤ 18446744073709551615
theorem headP_in (t : Ty) : 0 ≤ headP t ∧ headP t ≤ 18446744073709551615 := by rw [headP_eq]; omega
theorem wrapU_rng (a : Int) : 0 ≤ IntKind.u64.wrap a ∧ IntKind.u64.wrap a ≤ 18446744073709551615 := by
 unfold IntKind.wrap
 simp only [IntKind.bits, IntKind.signed]
 simp
 omega
theorem okWs_get {ws : List Int} (h : okWs ws) (a : Int) : 0 ≤ getL ws a ∧ getL ws a ≤ 18446744073709551615 := by
 rw [getL]
 split
 ·omega
 ·rw [List.getD_eq_getElem?_getD]
  cases hg : ws[a.toNat]? with
  | none => simp
  | some x => exact h x (List.mem_of_getElem? hg)
theorem okWs_set {ws : List Int} (h : okWs ws) {x : Int} (hx : 0 ≤ x ∧ x ≤ 18446744073709551615) (k : Nat) : okWs (ws.set k x) := fun y hy => by
 rcases List.mem_or_eq_of_mem_set hy with hy | rfl
 ·exact h y hy
 ·exact hx
theorem okWs_give {h w u z : Nat} {ws l : List Int} {t : Ty} (ho : okWs ws) (hl : okWs l) : okWs (giveG h w ws u t l z).2.1 := by
 rw [giveG]
 split
 ·intro x hx
  simp only [mkW, List.mem_append] at hx
  have hs := okWs_set ho (headP_in t) (h + u)
  rcases hx with (hx | hx) | hx
  ·have hx := List.mem_of_mem_take hx
   simp only [List.mem_append] at hx
   rcases hx with (hx | hx) | hx
   ·exact hs x (List.mem_of_mem_take hx)
   ·exact hl x hx
   ·exact hs x (List.mem_of_mem_drop hx)
  ·have := List.eq_of_mem_replicate hx
   omega
  ·have hx := List.mem_of_mem_drop hx
   simp only [List.mem_append] at hx
   rcases hx with (hx | hx) | hx
   ·exact hs x (List.mem_of_mem_take hx)
   ·exact hl x hx
   ·exact hs x (List.mem_of_mem_drop hx)
 ·exact ho
theorem okWs_act {g : Img} {h w u : Nat} {ws : List Int} {c : Ac} (ho : okWs ws) (ha : 0 ≤ c.a ∧ c.a ≤ 18446744073709551615) (hx : 0 ≤ c.x ∧ c.x ≤ 18446744073709551615) (hl : okWs c.l) : okWs (doA g h w ws u c).2.1 := by
 rw [doA]
 split
 ·rw [doM]
  split
  ·rw [objM]; split
   ·exact okWs_give ho (fun _ h => by cases h)
   ·exact ho
  ·split
   ·rw [arrM]; split
    ·exact ho
    ·exact okWs_give ho (fun y hy => by rw [List.mem_singleton] at hy; subst hy; exact wrapU_rng _)
   ·split
    ·rw [boxM]; split
     ·exact ho
     ·exact okWs_give ho hl
    ·rw [delM]; split
     ·exact okWs_give ho (fun y hy => by
       rcases List.mem_cons.1 hy with rfl | hy
       ·exact ha
       ·rw [List.mem_singleton] at hy; subst hy; exact wrapU_rng _)
     ·exact ho
 ·split
  ·show okWs (putL ws c.a c.x)
   rw [putL]; split
   ·exact okWs_set ho hx _
   ·exact ho
  ·exact ho
theorem okWs_new (fa N : Nat) : ∀ k, okWs (wsG fa N k)
 | 0 => fun x hx => by have := List.eq_of_mem_replicate hx; omega
 | k + 1 => okWs_set (okWs_new fa N k) (headP_in _) _
theorem GM_act {g : Img} {ws : List Int} {h w u : Nat} (hm : GM g ws h w u) (c : Ac) : GM g (doA g h w ws u c).2.1 h w (doA g h w ws u c).2.2 := by
 rw [doA]
 split
 ·exact (gave_do hm c).gm
 ·split
  ·exact ⟨hm.fine, hm.hh, hm.hp, hm.hw, hm.hu, by show (putL ws c.a c.x).length = _; rw [putL_len, hm.len]⟩
  ·exact hm
end Go.Cg
namespace Go.Cg
open Go.RowKit
section
variable {P : Program} {g : Base} {H : HEnv} {env : Env} {o : Oper}
theorem q_callA {xs : Array Operand} {ts : Array TypeId} {f : FuncId} {args : (Nat → Value) → List PV} {r : PV} (hop : o.op = .call { callee := .value (.func f), args := xs, argTypes := ts }) (hargs : ∀ ρ, loans ρ env H xs.toList = some (args ρ)) (hr : flatP r = true)
  (hc : ∀ ρ, ACall P f (args ρ) r) : QStep P g H o env (.pv r) := by
 refine ⟨fun K ρ a w hf hv => ?_⟩
 have hp := loans_rel hf (a := a) (xs := xs.toList) (fun x hx => hv x (by rw [hop]; simp [Op.operands, Call.operands]; exact .inr (by simpa using hx))) (hargs ρ)
 have : (execOp a.eval o).run P w = .ok (.enter f (xs.toList.map a.eval).toArray) w := by
  have e : (xs.toList.map a.eval).toArray = xs.map a.eval := by rw [← Array.toList_map, Array.toArray_toList]
  rw [e]
  simp [execOp, hop, resolve, Act.eval, Deferred.ofValue, invoke, call_run (hc ρ).stands]
 rw [this]
 refine ⟨rfl, ((hc ρ).calls _ w _ (lent_lt hf) hp).mono fun e w'' ⟨v, K', h1, h2, h3⟩ => ?_⟩
 exact ⟨_, K, h1, ⟨h2.below, fun _ _ h => h, fun _ _ h => .inl h, fun b o h => Nat.lt_of_lt_of_le (hf.lt b o h) h2.below.size⟩, .pv _ _ (flatP_any hr h3 K w'')⟩
end
end Go.Cg
namespace Go.Cg
open Go.Proofs
theorem wds_take (W : List Wd) (k : Nat) : fsts (W.take k) = (fsts W).take k := List.map_take ..
set_option maxHeartbeats 1000000 in
theorem NewBad_call (g : Img) (hx : OkA g) (w : Int) (h : fineR g = false ∨ w < 0 ∨ 4096 < w) : ACall Tryz.prog 17 [imgPV g, pi w] nilP := by
 have c0 := CheckL_call g hx
 cases hf : fineR g
 ·have hce : ((check12 g).2 != 0) = true := by
   rw [fineR] at hf
   cases hb : ((check12 g).2 != 0)
   ·have : (check12 g).2 = 0 := by simpa using hb
    rw [this] at hf; cases hf
   ·rfl
  refine acall_intro tbOK Tryz.func17 rfl (by kernel_rfl) Tryz.ntmps17 (by simp) _ rfl (fun hw gB hgB => ?_)
  repeat' (first | (refine shC ?_; first | refine qC c0 ?_) | refine sK ?_ | refine sC (fun _ => ?_) (fun _ => ?_) | fail)
  exact retq rfl rfl
 ·have hch : (check12 g).2 = 0 := by rw [fineR] at hf; simpa using hf
  have hce : ((check12 g).2 != 0) = false := by rw [hch]; rfl
  by_cases h0 : w < 0
  ·have hd1 : decide (w < 0) = true := decide_eq_true h0
   refine acall_intro tbOK Tryz.func17 rfl (by kernel_rfl) Tryz.ntmps17 (by simp) _ rfl (fun hw gB hgB => ?_)
   repeat' (first | (refine shC ?_; first | refine qC c0 ?_) | refine sK ?_ | refine sC (fun _ => ?_) (fun _ => ?_) | fail)
   exact retq rfl rfl
  ·have hd1 : decide (w < 0) = false := decide_eq_false h0
   have h4 : 4096 < w := by
    rcases h with h | h | h
    ·rw [hf] at h; cases h
    ·exact absurd h h0
    ·exact h
   have hd2 : decide (4096 < w) = true := decide_eq_true h4
   refine acall_intro tbOK Tryz.func17 rfl (by kernel_rfl) Tryz.ntmps17 (by simp) _ rfl (fun hw gB hgB => ?_)
   repeat' (first | refine aw_condT rfl hd2 ?_ | (refine shC ?_; first | refine qC c0 ?_) | refine sK ?_ | refine sC (fun _ => ?_) (fun _ => ?_) | fail)
   exact retq rfl rfl
set_option maxHeartbeats 4000000 in
theorem doA_call {g : Img} {ws : List Int} {h w u : Nat} (hm : GM g ws h w u) (fa : Int) (c : Ac) (ha : 0 ≤ c.a) (hl : c.l.length ≤ 100) (us : Nat → Value) :
  ACallM Tryz.prog 20 [.box 0 0, .pv (acPV c)] (gR g ws fa h w u ++ pinB us [0]) (.pv (u64 (doA g h w ws u c).1)) (gR g (doA g h w ws u c).2.1 fa h w (doA g h w ws u c).2.2 ++ pinB us [0]) := by
 have hh := hm.hh
 have hw := hm.hw
 have hlen := hm.len
 by_cases h03 : 0 ≤ c.kind ∧ c.kind ≤ 3
 ·rw [doA, if_pos h03]; exact do03_call hm fa c h03.1 h03.2 hl us
 ·rw [doA, if_neg h03]
  obtain ⟨k, n, t, a, x, l⟩ := c
  simp only at ha h03
  have b0 : (k == 0) = false := by simp; omega
  have b1 : (k == 1) = false := by simp; omega
  have b2 : (k == 2) = false := by simp; omega
  have b3 : (k == 3) = false := by simp; omega
  by_cases h4 : k = 4
  ·subst h4
   have e : (if (Ac.mk 4 n t a x l).kind = 4 then ((0, putL ws a x, u) : Giv) else (getL ws a, ws, u)) = (0, putL ws a x, u) := rfl
   simp only [if_true]
   have cP := fun us' => PutG_call g ws fa h w u a x ha (by omega) us'
   refine acallM_intro tbOK Tryz.func20 rfl (by kernel_rfl) Tryz.ntmps20 (by simp) _ rfl (fun gB hw1 => ?_)
   repeat' (first | (refine ao_sh_call ?_; first | (refine ao_callM (gR g ws fa h w u) (gR g (putL ws a x) fa h w u) [(1000, .pin (.own 0) (us 0))] [] [0] noLoneH rfl rfl rfl ?_ tS rfl rfl rfl cP ?_; · (repeat (first | exact hsub_nil | refine hsub_cons rfl ?_)))) | refine sK ?_ | refine sC (fun _ => ?_) (fun _ => ?_) | fail)
   exact ⟨.inr rfl, .inl ⟨_, rfl, rfl, ⟨by repeat (first | exact hsub_nil | refine hsub_cons rfl ?_), rfl⟩⟩⟩
  ·have b4 : (k == 4) = false := by simp; omega
   simp only [h4, if_false]
   have cG := fun mv => GetG_call g ws mv fa (h : Int) ((h + w : Nat) : Int) (u : Int) a ha (by omega)
   refine acallM_intro tbOK Tryz.func20 rfl (by kernel_rfl) Tryz.ntmps20 (by simp) _ rfl (fun gB hw1 => ?_)
   repeat' (first | refine ao_q (r := .pv (u64 (getL ws a))) rfl (q_callO (args := fun ρ => [.ptr (gPV g ws (ρ 8) fa (h : Int) ((h + w : Nat) : Int) (u : Int)) 0, u64 a]) rfl (fun _ => rfl) (fun ρ => cG (ρ 8))) rfl rfl ?_ | refine AD.step _ _ _ (.pv (u64 (getL ws a))) _ rfl (q_callO (args := fun ρ => [.ptr (gPV g ws (ρ 8) fa (h : Int) ((h + w : Nat) : Int) (u : Int)) 0, u64 a]) rfl (fun _ => rfl) (fun ρ => cG (ρ 8))) rfl rfl ?_ | refine sK ?_ | refine sC (fun _ => ?_) (fun _ => ?_) | fail)
   exact ⟨.inr rfl, .inl ⟨_, rfl, rfl, ⟨by repeat (first | exact hsub_nil | refine hsub_cons rfl ?_), rfl⟩⟩⟩
set_option maxHeartbeats 4000000 in
theorem sameA_call {g : Img} {W : List Wd} {h w u : Nat} (hm : RM g W h w u) (fa : Int) (c : Ac) (ha : 0 ≤ c.a) (ht : okT c.t) (us : Nat → Value) :
  ACallM Tryz.prog 29 [.box 10 0, .pv (acPV c)] (rR g W fa h w u ++ pinB us [10]) (.pv (u64 (sameA g h w W u c).1)) (rR g (sameA g h w W u c).2.1 fa h w (sameA g h w W u c).2.2 ++ pinB us [10]) := by
 have hh := hm.hh
 have hw := hm.hw
 have hlen := hm.len
 obtain ⟨k, n, t, a, x, l⟩ := c
 simp only at ha ht
 by_cases h0 : k = 0
 ·subst h0
  have e : sameA g h w W u ⟨0, n, t, a, x, l⟩ = objR g h w W u t.index := rfl
  rw [e]
  have cM := fun us' => ObjectRM_call hm fa t.index us'
  refine acallM_intro tbOK Tryz.func29 rfl (by kernel_rfl) Tryz.ntmps29 (by simp) _ rfl (fun gB hw1 => ?_)
  repeat' (first | (refine ao_sh_call ?_; first | (refine ao_callM (rR g W fa h w u) (rR g (objR g h w W u t.index).2.1 fa h w (objR g h w W u t.index).2.2) [(1010, .pin (.own 10) (us 10))] [] [10] noLoneH rfl rfl rfl ?_ tS rfl rfl rfl cM ?_; · (repeat (first | exact hsub_nil | refine hsub_cons rfl ?_)))) | refine sK ?_ | refine sC (fun _ => ?_) (fun _ => ?_) | fail)
  exact ⟨.inr rfl, .inl ⟨_, rfl, rfl, ⟨by repeat (first | exact hsub_nil | refine hsub_cons rfl ?_), rfl⟩⟩⟩
 ·by_cases h1 : k = 1
  ·subst h1
   have e : sameA g h w W u ⟨1, n, t, a, x, l⟩ = arrR g h w W u t n := rfl
   rw [e]
   have cM := fun us' => ArrayRM_call hm fa t ht n us'
   refine acallM_intro tbOK Tryz.func29 rfl (by kernel_rfl) Tryz.ntmps29 (by simp) _ rfl (fun gB hw1 => ?_)
   repeat' (first | (refine ao_sh_call ?_; first | (refine ao_callM (rR g W fa h w u) (rR g (arrR g h w W u t n).2.1 fa h w (arrR g h w W u t n).2.2) [(1010, .pin (.own 10) (us 10))] [] [10] noLoneH rfl rfl rfl ?_ tS rfl rfl rfl cM ?_; · (repeat (first | exact hsub_nil | refine hsub_cons rfl ?_)))) | refine sK ?_ | refine sC (fun _ => ?_) (fun _ => ?_) | fail)
   exact ⟨.inr rfl, .inl ⟨_, rfl, rfl, ⟨by repeat (first | exact hsub_nil | refine hsub_cons rfl ?_), rfl⟩⟩⟩
  ·by_cases h2 : k = 2
   ·subst h2
    have e : sameA g h w W u ⟨2, n, t, a, x, l⟩ = boxR g h w W u t l := rfl
    rw [e]
    have cM := fun us' => BoxRM_call hm fa t ht l us'
    refine acallM_intro tbOK Tryz.func29 rfl (by kernel_rfl) Tryz.ntmps29 (by simp) _ rfl (fun gB hw1 => ?_)
    repeat' (first | (refine ao_sh_call ?_; first | (refine ao_callM (rR g W fa h w u) (rR g (boxR g h w W u t l).2.1 fa h w (boxR g h w W u t l).2.2) [(1010, .pin (.own 10) (us 10))] [] [10] noLoneH rfl rfl rfl ?_ tS rfl rfl rfl cM ?_; · (repeat (first | exact hsub_nil | refine hsub_cons rfl ?_)))) | refine sK ?_ | refine sC (fun _ => ?_) (fun _ => ?_) | fail)
    exact ⟨.inr rfl, .inl ⟨_, rfl, rfl, ⟨by repeat (first | exact hsub_nil | refine hsub_cons rfl ?_), rfl⟩⟩⟩
   ·by_cases h3 : k = 3
    ·subst h3
     have e : sameA g h w W u ⟨3, n, t, a, x, l⟩ = delR g h w W u t.index a n := rfl
     rw [e]
     have cM := fun us' => DelegateRM_call hm fa t.index a n us'
     refine acallM_intro tbOK Tryz.func29 rfl (by kernel_rfl) Tryz.ntmps29 (by simp) _ rfl (fun gB hw1 => ?_)
     repeat' (first | (refine ao_sh_call ?_; first | (refine ao_callM (rR g W fa h w u) (rR g (delR g h w W u t.index a n).2.1 fa h w (delR g h w W u t.index a n).2.2) [(1010, .pin (.own 10) (us 10))] [] [10] noLoneH rfl rfl rfl ?_ tS rfl rfl rfl cM ?_; · (repeat (first | exact hsub_nil | refine hsub_cons rfl ?_)))) | refine sK ?_ | refine sC (fun _ => ?_) (fun _ => ?_) | fail)
     exact ⟨.inr rfl, .inl ⟨_, rfl, rfl, ⟨by repeat (first | exact hsub_nil | refine hsub_cons rfl ?_), rfl⟩⟩⟩
    ·by_cases h4 : k = 4
     ·subst h4
      have e : sameA g h w W u ⟨4, n, t, a, x, l⟩ = (0, putR W a x, u) := rfl
      rw [e]
      have cP := fun us' => PutR_call g W fa (h : Int) ((h + w : Nat) : Int) (u : Int) a x ha (by omega) us'
      refine acallM_intro tbOK Tryz.func29 rfl (by kernel_rfl) Tryz.ntmps29 (by simp) _ rfl (fun gB hw1 => ?_)
      repeat' (first | (refine ao_sh_call ?_; first | (refine ao_callM (rR g W fa h w u) (rR g (putR W a x) fa h w u) [(1010, .pin (.own 10) (us 10))] [] [10] noLoneH rfl rfl rfl ?_ tS rfl rfl rfl cP ?_; · (repeat (first | exact hsub_nil | refine hsub_cons rfl ?_)))) | refine sK ?_ | refine sC (fun _ => ?_) (fun _ => ?_) | fail)
      exact ⟨.inr rfl, .inl ⟨_, rfl, rfl, ⟨by repeat (first | exact hsub_nil | refine hsub_cons rfl ?_), rfl⟩⟩⟩
     ·have e : sameA g h w W u ⟨k, n, t, a, x, l⟩ = (getL (fsts W) a, W, u) := by
       rw [sameA, if_neg (by simp only; exact h0), if_neg (by simp only; exact h1), if_neg (by simp only; exact h2), if_neg (by simp only; exact h3), if_neg (by simp only; exact h4)]
      rw [e]
      have b0 : (k == 0) = false := by simp [h0]
      have b1 : (k == 1) = false := by simp [h1]
      have b2 : (k == 2) = false := by simp [h2]
      have b3 : (k == 3) = false := by simp [h3]
      have b4 : (k == 4) = false := by simp [h4]
      have cG := GetR_call g W fa (h : Int) ((h + w : Nat) : Int) (u : Int) a ha (by omega)
      refine acallM_intro tbOK Tryz.func29 rfl (by kernel_rfl) Tryz.ntmps29 (by simp) _ rfl (fun gB hw1 => ?_)
      repeat' (first | refine ao_q (r := .pv (u64 (getL (fsts W) a))) rfl (q_callO (args := fun ρ => [.ptr (rPV g W fa (h : Int) ((h + w : Nat) : Int) (u : Int)) 0, u64 a]) rfl (fun _ => rfl) (fun ρ => cG)) rfl rfl ?_ | refine AD.step _ _ _ (.pv (u64 (getL (fsts W) a))) _ rfl (q_callO (args := fun ρ => [.ptr (rPV g W fa (h : Int) ((h + w : Nat) : Int) (u : Int)) 0, u64 a]) rfl (fun _ => rfl) (fun ρ => cG)) rfl rfl ?_ | refine sK ?_ | refine sC (fun _ => ?_) (fun _ => ?_) | fail)
      exact ⟨.inr rfl, .inl ⟨_, rfl, rfl, ⟨by repeat (first | exact hsub_nil | refine hsub_cons rfl ?_), rfl⟩⟩⟩
end Go.Cg
