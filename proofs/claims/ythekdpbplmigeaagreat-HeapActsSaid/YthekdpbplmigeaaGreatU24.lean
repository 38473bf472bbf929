/- A part of the walks by abstract values: no statement of its own. -/
import Derived.Test.YthekdpbplmigeaaGreatU23
import Derived.Test.YthekdpbplmigeaaGreatU4
import Derived.OpenShut
import Derived.Deep.Slices
import Derived.ProofKit
import Derived.Test.YthekdpbplmigeaaGreatRows
import Derived.Test.YthekdpbplmigeaaGreatU8
import Derived.Test.YthekdpbplmigeaaGreatU17
import Derived.JoinedOf
import Derived.Test.YthekdpbplmigeaaGreatChecked
namespace Go.Cg
open Go.Proofs Go.Cg.Any
theorem at_none {P : Program} {n : Nat} {g : Base} {H : HEnv} {env : Env} {ops : List Oper} {listed : List Bool} {QQ : QC} {j : Nat} (h : ((List.range (ops.length - j)).all fun i => !isReady ops listed (j + i)) = true) : ATs P n g ops listed env H QQ j := ⟨fun m hm hr => by
 have hlt : m < ops.length := by
  simp only [isReady] at hr
  cases ho : ops[m]? with
  | none => rw [ho] at hr; cases hr
  | some o => exact (List.getElem?_eq_some_iff.1 ho).1
 have := List.all_eq_true.1 h (m - j) (List.mem_range.2 (by omega))
 rw [show j + (m - j) = m by omega, hr] at this; cases this⟩
theorem at_cut {P : Program} {n : Nat} {g : Base} {H : HEnv} {env : Env} {ops : List Oper} {listed : List Bool} {QQ : QC} (L : List Bool) (env' : Env) (H' : HEnv) (h1 : AT P n g ops L env' H' QQ) (h2 : AT P n g ops L env' H' QQ → AT P n g ops listed env H QQ) : AT P n g ops listed env H QQ := h2 h1
structure Hold (p : Prop) : Prop where
 go : p
theorem aw_draw_hold {P : Program} {n : Nat} {g : Base} {H : HEnv} {env : Env} {ops : List Oper} {QQ : QC} {id : Nat} (k : Nat) (env' : Env) (H' : HEnv) (hm : P.follows .mixedOrders = true) (hk : Nat.ble k ops.length = true) (hok : shiftOk k ops = true) (hB : drawOk (shiftOps k ops) (shiftOps k ops) = true)
  (h2 : Hold (AD P n g H' (shiftOps k ops) (fun env2 => QQ .normal env2 H') (shiftOps k ops) env'))
  (h1 : Hold (AT P n g ops (List.replicate k true ++ List.replicate (ops.length - k) false) env' H' QQ → AT P n g ops (ops.map fun _ => false) env H QQ))
  (hnd : noDefer ops = true := by kernel_rfl) : AW P n g (.region id ops.toArray true) env H QQ := aw_draw_two k env' H' hm hk hok hB h2.go h1.go hnd
set_option maxHeartbeats 1000000 in
theorem CloneU_callR (l : List Int) (fl : Bool) (hne : l ≠ []) (hb : l.length ≤ 100000) : ACallR Tryz.prog 83 [.slc 1 (l.map u64) fl] 33 1 (l.map u64) := by
 refine acallR_intro (t := 2) Tryz.func83 rfl (by kernel_rfl) Tryz.ntmps83 (by simp) rfl (fun hw gB hgB => ?_)
 repeat' (first | refine ao_isnil tbOK rfl rfl rfl rfl rfl rfl rfl (fun bb hbb => ?_) | refine ao_q rfl (q_slice0 tbOK rfl rfl rfl rfl rfl) rfl rfl ?_ | (refine ao_sh_bi ?_; first | refine ao_append_new 0 tbOK rfl rfl rfl (.inl rfl) rfl (by have := List.length_pos_iff.2 hne; simpa using this) rfl (by show _ * 8 ≤ _; simp; omega) (by simp; omega) rfl rfl rfl ?_) | refine sA ?_ | refine sC (fun _ => ?_) (fun _ => ?_) | fail)
 ·rename_i hx
  exact (hne (by simpa using hbb hx)).elim
 ·exact ⟨.inr rfl, 0, rfl, rfl⟩
set_option maxHeartbeats 1000000 in
theorem AllG_callR (g : Img) (ws : List Int) (mv : Value) (fa fr : Int) (h u : Nat) (hl : ws.length ≤ 100000) (hu : h + u ≤ ws.length) (hp : 0 < h) : ACallR Tryz.prog 31 [.ptr (gPV g ws mv fa (h : Int) fr (u : Int)) 0] 33 1 ((ws.take (h + u)).map u64) := by
 have hA : IntKind.u64.wrap ((h : Int) + IntKind.u64.wrap (u : Int)) = ((h + u : Nat) : Int) := by rw [wrapU_in (a := (u : Int)) (by omega) (by omega), wrapU_in (by omega) (by omega)]; omega
 have hll : (ws.take (h + u)).length = h + u := by rw [List.length_take]; omega
 have cC := CloneU_callR (ws.take (h + u)) false (by intro h0; rw [h0] at hll; simp at hll; omega) (by omega)
 refine acallR_intro Tryz.func31 rfl (by kernel_rfl) Tryz.ntmps31 (by simp) rfl (fun hw gB hgB => ?_)
 repeat' (first | refine ao_q rfl (q_isnil (b := false) rfl Tryz.underlying31 rfl rfl) rfl rfl ?_ | refine AD.step _ _ _ _ _ rfl (q_isnil (b := false) rfl Tryz.underlying31 rfl rfl) rfl rfl ?_ | refine aw_draw_tailL 17 15 rfl (by kernel_rfl) (by kernel_rfl) (by kernel_rfl) (by kernel_rfl) (by kernel_rfl) ?_ | refine AD.step _ _ _ _ _ rfl (q_slice_map (xs := ws) (f := u64) 0 (h + u) tbOK rfl rfl rfl rfl rfl rfl (congrArg some hA) (by omega) (by omega)) rfl rfl ?_ | refine ao_callR 0 rfl rfl rfl cC (by decide) rfl rfl rfl ?_ | refine sK ?_ | refine sC (fun _ => ?_) (fun _ => ?_) | fail)
 exact ⟨.inr rfl, 0, rfl, rfl⟩
set_option maxHeartbeats 1000000 in
theorem AllR_callR (g : Img) (W : List Wd) (fa fr : Int) (h u : Nat) (hl : W.length ≤ 100000) (hu : h + u ≤ W.length) : ACallR Tryz.prog 32 [.ptr (rPV g W fa (h : Int) fr (u : Int)) 0] 33 1 (((fsts W).take (h + u)).map u64) := by
 have hA : IntKind.i64.wrap ((h : Int) + (u : Int)) = ((h + u : Nat) : Int) := by rw [wrap_in (by omega) (by omega)]; omega
 refine acallR_intro Tryz.func32 rfl (by kernel_rfl) Tryz.ntmps32 (by simp) rfl (fun hw gB hgB => ?_)
 repeat' (first | refine sA ?_ | refine sC (fun _ => ?_) (fun _ => ?_) | fail)
 refine aw_own_nil (t := 3) 0 33 1 (by decide) rfl rfl ?_
 refine aw_loop (fun i : Nat => [(0, .pv (.ptr (rPV g W fa (h : Int) fr (u : Int)) 0)), (3, .own 0), (4, .pv (pi i))]) (fun i => [(0, .row 33 1 (((fsts W).take i).map u64))]) (fun i => i ≤ h + u) (fun i => h + u - i) 0 (by omega) (tS) ⟨hsub_cons rfl hsub_nil, rfl⟩ ?_
 rintro i hi
 by_cases hlt : i < h + u
 ·have e2 : decide ((i : Int) < IntKind.i64.wrap ((h : Int) + (u : Int))) = true := decide_eq_true (by rw [hA]; omega)
  have hWi : i < W.length := by omega
  have he := map_get (f := wdPV) hWi
  have hfi : (fsts W).take (i + 1) = (fsts W).take i ++ [W[i].1] := by rw [List.take_succ_eq_append_getElem (by rw [fsts_len]; exact hWi)]; simp
  have hrw : ((fsts W).take (i + 1)).map u64 = ((fsts W).take i).map u64 ++ [u64 W[i].1] := by rw [hfi, List.map_append]; rfl
  have hb : (((fsts W).take i).map u64).length = i := by rw [List.length_map, List.length_take, fsts_len]; omega
  repeat' (first | (refine shX ?_; first | refine qX he ?_) | (refine ao_sh_bi ?_; first | refine ao_append tbOK rfl rfl rfl rfl rfl rfl rfl (by show _ * 8 ≤ _; rw [hb]; simp only [List.length_cons, List.length_nil]; omega) (by rw [hb]; simp only [List.length_cons, List.length_nil]; omega) rfl rfl ?_) | refine sK ?_ | refine sC (fun _ => ?_) (fun _ => ?_) | fail)
  exact ⟨i + 1, hlt, tD, tS, ⟨hsub_r rfl hrw.symm hsub_nil, rfl⟩⟩
 ·have hi2 : i = h + u := by omega
  subst hi2
  have e2 : decide (((h + u : Nat) : Int) < IntKind.i64.wrap ((h : Int) + (u : Int))) = false := decide_eq_false (by rw [hA]; omega)
  repeat' (first | refine sK ?_ | refine sC (fun _ => ?_) (fun _ => ?_) | fail)
  exact ⟨.inr rfl, 0, rfl, rfl⟩
structure OkAct (c : Ac) : Prop where
 t : okT c.t
 a : 0 ≤ c.a ∧ c.a ≤ 18446744073709551615
 x : 0 ≤ c.x ∧ c.x ≤ 18446744073709551615
 l : okWs c.l
abbrev bE (l : List Ac) (k : Nat) : Env := [(7, .box 0 0), (8, .box 10 0), (10, .box 1 0), (38, .pv (acts l)), (39, .pv (pi l.length)), (40, .pv (pi k))]
abbrev bR (g : Img) (W : List Wd) (fa : Int) (h q u : Nat) (c : Ac) : HEnv := rR g W fa h q u ++ [(1, .cell (.pv (acPV c)))]
abbrev lB (a b c d e : Bool) : List Bool := [a, b, c, d, e, false] ++ List.replicate 29 false
theorem tSC {P : Prop} (h : P := by repeat (first | exact sub_nil | refine sub_cons rfl ?_)) : P := h
theorem tHC {P : Prop} (h : P := by repeat (first | exact hsub_nil | refine hsub_cons rfl ?_)) : P := h
theorem tFC {P : Prop} (h : P := by exact ⟨by repeat (first | exact hsub_nil | refine hsub_cons rfl ?_), rfl⟩) : P := h
set_option maxHeartbeats 16000000 in
theorem HeapActs_call (g : Img) (hx : OkA g) (w : Int) (l : List Ac) (hok : ∀ c ∈ l, OkAct c) : ACall Tryz.prog 5 [imgPV g, pi w, acts l] (pb true) := by
 have c1 := Long_call g
 have c2 := long20_call l
 have c3 := FineR_call g
 refine acall_intro tbOK Tryz.func5 rfl (by kernel_rfl) Tryz.ntmps5 (by simp) _ rfl (fun hw gB hgB => ?_)
 cases hlg : longG g
 ·rw [hlg] at c1
  cases hla : longA l
  ·rw [hla] at c2
   by_cases hbad : fineR g = false ∨ w < 0 ∨ 4096 < w
   ·have cN := NewBad_call g hx w hbad
    cases hfi : fineR g
    ·rw [hfi] at c3
     repeat' (first | refine ao_q rfl (q_isnil (b := true) rfl Tryz.underlying31 rfl rfl) rfl rfl ?_ | (refine shC ?_; first | refine qC wakes20_call ?_ | refine qC c1 ?_ | refine qC c2 ?_ | refine qC c3 ?_ | refine qC cN ?_) | refine sK ?_ | refine sC (fun _ => ?_) (fun _ => ?_) | fail)
     exact retq rfl rfl
    ·rw [hfi] at c3
     by_cases h0 : w < 0
     ·have e0 : decide (w < 0) = true := decide_eq_true h0
      repeat' (first | refine ao_q rfl (q_isnil (b := true) rfl Tryz.underlying31 rfl rfl) rfl rfl ?_ | (refine shC ?_; first | refine qC wakes20_call ?_ | refine qC c1 ?_ | refine qC c2 ?_ | refine qC c3 ?_ | refine qC cN ?_) | refine sK ?_ | refine sC (fun _ => ?_) (fun _ => ?_) | fail)
      exact retq rfl rfl
     ·have e0 : decide (w < 0) = false := decide_eq_false h0
      have e4 : decide (4096 < w) = true := decide_eq_true (by
       rcases hbad with h | h | h
       ·rw [hfi] at h; cases h
       ·exact absurd h h0
       ·exact h)
      repeat' (first | refine ao_q rfl (q_isnil (b := true) rfl Tryz.underlying31 rfl rfl) rfl rfl ?_ | refine aw_condT rfl e4 ?_ | (refine shC ?_; first | refine qC wakes20_call ?_ | refine qC c1 ?_ | refine qC c2 ?_ | refine qC c3 ?_ | refine qC cN ?_) | refine sK ?_ | refine sC (fun _ => ?_) (fun _ => ?_) | fail)
      exact retq rfl rfl
   ·have hfi : fineR g = true := by
     cases hf : fineR g
     ·exact absurd (.inl hf) hbad
     ·rfl
    have h0 : ¬ w < 0 := fun h => hbad (.inr (.inl h))
    have h4 : ¬ 4096 < w := fun h => hbad (.inr (.inr h))
    have e0 : decide (w < 0) = false := decide_eq_false h0
    have e4 : decide (4096 < w) = false := decide_eq_false h4
    rw [hfi] at c3
    have hl40 : l.length ≤ 40 := by
     have h := hla
     rw [longA, Bool.or_eq_false_iff] at h
     have := h.1; simp at this; omega
    have hst : staticsA g = statT g g.fields.length := by rw [staticsA, hfi]; rfl
    have hSb := staticsA_le hfi
    have cN0 := NewG_call g hx hfi w (by omega) (by omega)
    have cR0 := NewR_call g hfi w (by omega) (by omega)
    rw [← hst] at cR0
    obtain ⟨q, hq⟩ : ∃ q, q = w.toNat := ⟨_, rfl⟩
    obtain ⟨h, hh⟩ : ∃ h, h = 8 + (staticsA g).length := ⟨_, rfl⟩
    rw [← hq, ← hh, ← refF_fsts (h + q + 16384) (1 + (staticsA g).length) (staticsA g) 7] at cN0
    rw [← hq, ← hh] at cR0
    have hl0 := refF_len (h + q + 16384) (1 + (staticsA g).length) (staticsA g) 7
    have hw0 : okWs (fsts (refF (h + q + 16384) (1 + (staticsA g).length) (staticsA g) 7)) := by rw [refF_fsts]; exact okWs_new _ _ _
    obtain ⟨fa, hfa⟩ : ∃ fa : Int, fa = ((1 + (staticsA g).length : Nat) : Int) := ⟨_, rfl⟩
    rw [← hfa] at cN0 cR0
    generalize refF (h + q + 16384) (1 + (staticsA g).length) (staticsA g) 7 = W0 at cN0 cR0 hl0 hw0
    have cN : ∀ _ : Nat → Value, ACallM Tryz.prog 17 [.pv (imgPV g), .pv (pi w)] [] (.box 0 0) (gR g (fsts W0) fa h q 0) true := fun _ => cN0
    have cR : ∀ _ : Nat → Value, ACallM Tryz.prog 28 [.pv (imgPV g), .pv (pi w)] [] (.box 10 0) (rR g W0 fa h q 0) := fun _ => cR0
    have hm0 : GM g (fsts W0) h q 0 := ⟨hfi, by omega, by omega, by omega, by omega, by rw [fsts_len]; exact hl0⟩
    repeat' (first | refine aw_condF rfl e4 ?_ | (refine shC ?_; first | refine qC wakes20_call ?_ | refine qC c1 ?_ | refine qC c2 ?_ | refine qC c3 ?_) | (refine ao_sh_call ?_; first | refine ao_callM [] (gR g (fsts W0) fa h q 0) [] [(1, .pv (pi w)), (2, .pv (acts l)), (3, .pv (.ptr (imgPV g) 0))] [] (fun _ => hgB.1) rfl rfl rfl (by repeat (first | exact hsub_nil | refine hsub_cons rfl ?_)) tS rfl rfl rfl cN ?_ | (refine ao_callM ([]) (rR g W0 fa h q 0) (gR g (fsts W0) fa h q 0) [(2, .pv (acts l)), (7, .box 0 0)] [] noLoneH rfl rfl rfl ?_ tS rfl rfl rfl cR ?_; · (repeat (first | exact hsub_nil | refine hsub_cons rfl ?_)))) | refine sK ?_ | refine sC (fun _ => ?_) (fun _ => ?_) | fail)
    refine aw_loop (fun s : Nat × List Wd × Nat => [(7, .box 0 0), (8, .box 10 0), (38, .pv (acts l)), (39, .pv (pi l.length)), (40, .pv (pi s.1))]) (fun s => gR g (fsts s.2.1) fa h q s.2.2 ++ rR g s.2.1 fa h q s.2.2)
     (fun s => s.1 ≤ l.length ∧ GM g (fsts s.2.1) h q s.2.2 ∧ okWs (fsts s.2.1)) (fun s => l.length - s.1) (0, W0, 0) ⟨by simp, hm0, hw0⟩ tSU2 ⟨by repeat (first | exact hsub_nil | refine hsub_cons rfl ?_), rfl⟩ ?_
    rintro ⟨k, W, u⟩ ⟨hk, hm, hwo⟩
    simp only at hk hm hwo
    by_cases hlt : k < l.length
    ·have he := map_get (f := acPV) hlt
     have hll := longA_at hla hlt
     have hoc := hok l[k] (List.getElem_mem hlt)
     generalize l[k] = c at he hll hoc
     have edk : decide ((k : Int) < (l.length : Int)) = true := decide_eq_true (by omega)
     have hmR : RM g W h q u := ⟨hfi, hm.hh, hm.hp, hm.hw, hm.hu, by rw [← fsts_len]; exact hm.len⟩
     have cA := fun us => doA_call hm fa c hoc.a.1 (by omega) us
     have cB := fun us => sameA_call hmR fa c hoc.a.1 hoc.t us
     have hm' := GM_act hm c
     have hwo' := okWs_act (g := g) (h := h) (w := q) (u := u) (c := c) hwo hoc.a hoc.x hoc.l
     obtain ⟨s1, s2, s3⟩ := same_act (u := u) (w := q) hfi hmR.len c
     rw [s1, s2, s3] at cA
     rw [s2, s3] at hm'
     rw [s2] at hwo'
     generalize sameA g h q W u c = r at cA cB hm' hwo'
     obtain ⟨A, W', U⟩ := r
     simp only at cA cB hm' hwo'
     have hlen' := hm'.len
     rw [fsts_len] at hlen'
     have hU := hm'.hu
     have hhh := hm'.hh
     have hqq := hm'.hw
     have d1 : (A != A) = false := by simp
     have d2 : ((U : Int) != (U : Int)) = false := by simp
     have cU := fun mv => UsedG_call g (fsts W') mv fa (h : Int) ((h + q : Nat) : Int) (U : Int)
     have cAG := fun mv => AllG_callR g (fsts W') mv fa ((h + q : Nat) : Int) h U (by rw [fsts_len]; omega) (by rw [fsts_len]; omega) hm'.hp
     have cAR := AllR_callR g W' fa ((h + q : Nat) : Int) h U (by omega) (by omega)
     have cSW : ACall Tryz.prog 30 [.slc 1 (((fsts W').take (h + U)).map u64) false, .slc 1 (((fsts W').take (h + U)).map u64) false] (pb true) := by
      have := SameWordsU_call ((fsts W').take (h + U)) ((fsts W').take (h + U)) false false (by rw [List.length_take, fsts_len]; omega) (by rw [List.length_take, fsts_len]; omega)
      simpa using this
     have cKG := fun mv => KindG_call g (fsts W') mv fa (h : Int) ((h + q : Nat) : Int) (U : Int) c.a hoc.a.1 (by rw [fsts_len]; omega)
     have cKR := KindRM_call g W' fa (h : Int) ((h + q : Nat) : Int) (U : Int) c.a hoc.a.1 (by omega) (okWs_get hwo' c.a)
     generalize kindAt (fsts W') c.a = T at cKG cKR
     repeat' (first | refine aw_draw_hold 6 [(46, .pv (u64 A)), (49, .pv (u64 A)), (7, .box 0 0), (8, .box 10 0), (10, .box 1 0), (38, .pv (acts l)), (39, .pv (pi l.length)), (40, .pv (pi k))] (gR g (fsts W') fa h q U ++ rR g W' fa h q U ++ [(1, .cell (.pv (acPV c)))]) (by kernel_rfl) (by kernel_rfl) (by kernel_rfl) (by kernel_rfl) ?_ ?_ | (refine shX ?_; first | refine qX he ?_) | refine sK ?_ | refine sC (fun _ => ?_) (fun _ => ?_) | fail)
     ·refine ⟨?_⟩
      dsimp only [shiftOps, shiftO, List.drop, List.map, Option.map]
      repeat' (first | refine ao_q (r := .pv (pi (U : Int))) rfl (q_callO (args := fun ρ => [.ptr (gPV g (fsts W') (ρ 8) fa (h : Int) ((h + q : Nat) : Int) (U : Int)) 0]) rfl (fun _ => rfl) (fun ρ => cU (ρ 8))) rfl rfl ?_ | refine AD.step _ _ _ (.pv (pi (U : Int))) _ rfl (q_callO (args := fun ρ => [.ptr (gPV g (fsts W') (ρ 8) fa (h : Int) ((h + q : Nat) : Int) (U : Int)) 0]) rfl (fun _ => rfl) (fun ρ => cU (ρ 8))) rfl rfl ?_ | refine ao_q rfl (q_callRW (args := fun ρ => [.ptr (gPV g (fsts W') (ρ 8) fa (h : Int) ((h + q : Nat) : Int) (U : Int)) 0]) rfl (fun _ => rfl) (fun ρ => cAG (ρ 8)) (by decide) (base_u64 _)) rfl rfl ?_ | refine AD.step _ _ _ _ _ rfl (q_callRW (args := fun ρ => [.ptr (gPV g (fsts W') (ρ 8) fa (h : Int) ((h + q : Nat) : Int) (U : Int)) 0]) rfl (fun _ => rfl) (fun ρ => cAG (ρ 8)) (by decide) (base_u64 _)) rfl rfl ?_ | refine ao_q rfl (q_callRW (args := fun ρ => [.ptr (rPV g W' fa (h : Int) ((h + q : Nat) : Int) (U : Int)) 0]) rfl (fun _ => rfl) (fun ρ => cAR) (by decide) (base_u64 _)) rfl rfl ?_ | refine AD.step _ _ _ _ _ rfl (q_callRW (args := fun ρ => [.ptr (rPV g W' fa (h : Int) ((h + q : Nat) : Int) (U : Int)) 0]) rfl (fun _ => rfl) (fun ρ => cAR) (by decide) (base_u64 _)) rfl rfl ?_ | refine AD.step _ _ _ _ _ rfl (q_callA (args := fun ρ => [.ptr (gPV g (fsts W') (ρ 8) fa (h : Int) ((h + q : Nat) : Int) (U : Int)) 0, u64 c.a]) rfl (fun _ => rfl) rfl (fun ρ => cKG (ρ 8))) rfl rfl ?_ | refine AD.step _ _ _ _ _ rfl (q_callA (args := fun ρ => [.ptr (rPV g W' fa (h : Int) ((h + q : Nat) : Int) (U : Int)) 0, u64 c.a]) rfl (fun _ => rfl) rfl (fun ρ => cKR)) rfl rfl ?_ | (refine shC ?_; first | refine qC cSW ?_) | refine sK ?_ | refine sC (fun _ => ?_) (fun _ => ?_) | fail)
      all_goals exact ⟨(k + 1, W', U), ⟨hlt, hm', hwo'⟩, tD, tS, ⟨by repeat (first | exact hsub_nil | refine hsub_cons rfl ?_), rfl⟩⟩
     ·refine ⟨fun hfin => ?_⟩
      refine at_cut (lB true true true true true) ([(46, .pv (u64 A)), (47, .box 10 0), (48, .pv (acPV c))] ++ bE l k) (gR g (fsts W') fa h q U ++ bR g W fa h q u c) ?_ (fun hs01234 => ?_)
      ·refine at_go (by kernel_rfl) rfl ?_
       repeat' (first | (refine at_sub hfin ?_ ?_; (· exact tSC); (· exact tFC)) | exact at_none (by decide +kernel) | refine at_skip rfl ?_ | refine at_take rfl ?_ ?_ | (refine ao_sh_call ?_; first | (refine ao_callM (rR g W fa h q u) (rR g W' fa h q U) (gR g (fsts W') fa h q U ++ [(1, .cell (.pv (acPV c)))]) ([(46, .pv (u64 A))] ++ bE l k) [10] noLoneH rfl rfl rfl ?_ ?_ rfl rfl rfl cB ?_; (· exact tHC); (· exact tSC))) | refine sK ?_ | refine sC (fun _ => ?_) (fun _ => ?_) | fail)
      refine at_cut (lB true true false true true) ([(44, .box 0 0), (45, .pv (acPV c)), (47, .box 10 0), (48, .pv (acPV c))] ++ bE l k) (gR g (fsts W) fa h q u ++ bR g W fa h q u c) ?_ (fun hs0134 => ?_)
      ·refine at_go (by kernel_rfl) rfl ?_
       repeat' (first | (refine at_sub hs01234 ?_ ?_; (· exact tSC); (· exact tFC)) | exact at_none (by decide +kernel) | refine at_skip rfl ?_ | refine at_take rfl ?_ ?_ | (refine ao_sh_call ?_; first | (refine ao_callM (gR g (fsts W) fa h q u) (gR g (fsts W') fa h q U) (bR g W fa h q u c) ([(47, .box 10 0), (48, .pv (acPV c))] ++ bE l k) [0] noLoneH rfl rfl rfl ?_ ?_ rfl rfl rfl cA ?_; (· exact tHC); (· exact tSC))) | refine sK ?_ | refine sC (fun _ => ?_) (fun _ => ?_) | fail)
      refine at_cut (lB true true true false true) ([(46, .pv (u64 A)), (48, .pv (acPV c))] ++ bE l k) (gR g (fsts W') fa h q U ++ bR g W fa h q u c) ?_ (fun hs0124 => ?_)
      ·refine at_go (by kernel_rfl) rfl ?_
       repeat' (first | (refine at_sub hs01234 ?_ ?_; (· exact tSC); (· exact tFC)) | exact at_none (by decide +kernel) | refine at_skip rfl ?_ | refine at_take rfl ?_ ?_ | refine sK ?_ | refine sC (fun _ => ?_) (fun _ => ?_) | fail)
      refine at_cut (lB true true true true false) ([(46, .pv (u64 A)), (47, .box 10 0)] ++ bE l k) (gR g (fsts W') fa h q U ++ bR g W fa h q u c) ?_ (fun hs0123 => ?_)
      ·refine at_go (by kernel_rfl) rfl ?_
       repeat' (first | (refine at_sub hs01234 ?_ ?_; (· exact tSC); (· exact tFC)) | exact at_none (by decide +kernel) | refine at_skip rfl ?_ | refine at_take rfl ?_ ?_ | refine sK ?_ | refine sC (fun _ => ?_) (fun _ => ?_) | fail)
      refine at_cut (lB false true false true true) ([(45, .pv (acPV c)), (47, .box 10 0), (48, .pv (acPV c))] ++ bE l k) (gR g (fsts W) fa h q u ++ bR g W fa h q u c) ?_ (fun hs134 => ?_)
      ·refine at_go (by kernel_rfl) rfl ?_
       repeat' (first | (refine at_sub hs0134 ?_ ?_; (· exact tSC); (· exact tFC)) | exact at_none (by decide +kernel) | refine at_skip rfl ?_ | refine at_take rfl ?_ ?_ | refine sK ?_ | refine sC (fun _ => ?_) (fun _ => ?_) | fail)
      refine at_cut (lB true false false true true) ([(44, .box 0 0), (47, .box 10 0), (48, .pv (acPV c))] ++ bE l k) (gR g (fsts W) fa h q u ++ bR g W fa h q u c) ?_ (fun hs034 => ?_)
      ·refine at_go (by kernel_rfl) rfl ?_
       repeat' (first | (refine at_sub hs0134 ?_ ?_; (· exact tSC); (· exact tFC)) | exact at_none (by decide +kernel) | refine at_skip rfl ?_ | refine at_take rfl ?_ ?_ | refine sK ?_ | refine sC (fun _ => ?_) (fun _ => ?_) | fail)
      refine at_cut (lB true true false false true) ([(44, .box 0 0), (45, .pv (acPV c)), (48, .pv (acPV c))] ++ bE l k) (gR g (fsts W) fa h q u ++ bR g W fa h q u c) ?_ (fun hs014 => ?_)
      ·refine at_go (by kernel_rfl) rfl ?_
       repeat' (first | (refine at_sub hs0124 ?_ ?_; (· exact tSC); (· exact tFC)) | (refine at_sub hs0134 ?_ ?_; (· exact tSC); (· exact tFC)) | exact at_none (by decide +kernel) | refine at_skip rfl ?_ | refine at_take rfl ?_ ?_ | (refine ao_sh_call ?_; first | (refine ao_callM (gR g (fsts W) fa h q u) (gR g (fsts W') fa h q U) (bR g W fa h q u c) ([(48, .pv (acPV c))] ++ bE l k) [0] noLoneH rfl rfl rfl ?_ ?_ rfl rfl rfl cA ?_; (· exact tHC); (· exact tSC))) | refine sK ?_ | refine sC (fun _ => ?_) (fun _ => ?_) | fail)
      refine at_cut (lB true true false true false) ([(44, .box 0 0), (45, .pv (acPV c)), (47, .box 10 0)] ++ bE l k) (gR g (fsts W) fa h q u ++ bR g W fa h q u c) ?_ (fun hs013 => ?_)
      ·refine at_go (by kernel_rfl) rfl ?_
       repeat' (first | (refine at_sub hs0123 ?_ ?_; (· exact tSC); (· exact tFC)) | (refine at_sub hs0134 ?_ ?_; (· exact tSC); (· exact tFC)) | exact at_none (by decide +kernel) | refine at_skip rfl ?_ | refine at_take rfl ?_ ?_ | (refine ao_sh_call ?_; first | (refine ao_callM (gR g (fsts W) fa h q u) (gR g (fsts W') fa h q U) (bR g W fa h q u c) ([(47, .box 10 0)] ++ bE l k) [0] noLoneH rfl rfl rfl ?_ ?_ rfl rfl rfl cA ?_; (· exact tHC); (· exact tSC))) | refine sK ?_ | refine sC (fun _ => ?_) (fun _ => ?_) | fail)
      refine at_cut (lB true true true false false) ([(46, .pv (u64 A))] ++ bE l k) (gR g (fsts W') fa h q U ++ bR g W fa h q u c) ?_ (fun hs012 => ?_)
      ·refine at_go (by kernel_rfl) rfl ?_
       repeat' (first | (refine at_sub hs0123 ?_ ?_; (· exact tSC); (· exact tFC)) | (refine at_sub hs0124 ?_ ?_; (· exact tSC); (· exact tFC)) | exact at_none (by decide +kernel) | refine at_skip rfl ?_ | refine at_take rfl ?_ ?_ | refine sK ?_ | refine sC (fun _ => ?_) (fun _ => ?_) | fail)
      refine at_cut (lB false false false true true) ([(47, .box 10 0), (48, .pv (acPV c))] ++ bE l k) (gR g (fsts W) fa h q u ++ bR g W fa h q u c) ?_ (fun hs34 => ?_)
      ·refine at_go (by kernel_rfl) rfl ?_
       repeat' (first | (refine at_sub hs034 ?_ ?_; (· exact tSC); (· exact tFC)) | (refine at_sub hs134 ?_ ?_; (· exact tSC); (· exact tFC)) | exact at_none (by decide +kernel) | refine at_skip rfl ?_ | refine at_take rfl ?_ ?_ | refine sK ?_ | refine sC (fun _ => ?_) (fun _ => ?_) | fail)
      refine at_cut (lB false true false false true) ([(45, .pv (acPV c)), (48, .pv (acPV c))] ++ bE l k) (gR g (fsts W) fa h q u ++ bR g W fa h q u c) ?_ (fun hs14 => ?_)
      ·refine at_go (by kernel_rfl) rfl ?_
       repeat' (first | (refine at_sub hs014 ?_ ?_; (· exact tSC); (· exact tFC)) | (refine at_sub hs134 ?_ ?_; (· exact tSC); (· exact tFC)) | exact at_none (by decide +kernel) | refine at_skip rfl ?_ | refine at_take rfl ?_ ?_ | refine sK ?_ | refine sC (fun _ => ?_) (fun _ => ?_) | fail)
      refine at_cut (lB false true false true false) ([(45, .pv (acPV c)), (47, .box 10 0)] ++ bE l k) (gR g (fsts W) fa h q u ++ bR g W fa h q u c) ?_ (fun hs13 => ?_)
      ·refine at_go (by kernel_rfl) rfl ?_
       repeat' (first | (refine at_sub hs013 ?_ ?_; (· exact tSC); (· exact tFC)) | (refine at_sub hs134 ?_ ?_; (· exact tSC); (· exact tFC)) | exact at_none (by decide +kernel) | refine at_skip rfl ?_ | refine at_take rfl ?_ ?_ | refine sK ?_ | refine sC (fun _ => ?_) (fun _ => ?_) | fail)
      refine at_cut (lB true false false false true) ([(44, .box 0 0), (48, .pv (acPV c))] ++ bE l k) (gR g (fsts W) fa h q u ++ bR g W fa h q u c) ?_ (fun hs04 => ?_)
      ·refine at_go (by kernel_rfl) rfl ?_
       repeat' (first | (refine at_sub hs014 ?_ ?_; (· exact tSC); (· exact tFC)) | (refine at_sub hs034 ?_ ?_; (· exact tSC); (· exact tFC)) | exact at_none (by decide +kernel) | refine at_skip rfl ?_ | refine at_take rfl ?_ ?_ | refine sK ?_ | refine sC (fun _ => ?_) (fun _ => ?_) | fail)
      refine at_cut (lB true false false true false) ([(44, .box 0 0), (47, .box 10 0)] ++ bE l k) (gR g (fsts W) fa h q u ++ bR g W fa h q u c) ?_ (fun hs03 => ?_)
      ·refine at_go (by kernel_rfl) rfl ?_
       repeat' (first | (refine at_sub hs013 ?_ ?_; (· exact tSC); (· exact tFC)) | (refine at_sub hs034 ?_ ?_; (· exact tSC); (· exact tFC)) | exact at_none (by decide +kernel) | refine at_skip rfl ?_ | refine at_take rfl ?_ ?_ | refine sK ?_ | refine sC (fun _ => ?_) (fun _ => ?_) | fail)
      refine at_cut (lB true true false false false) ([(44, .box 0 0), (45, .pv (acPV c))] ++ bE l k) (gR g (fsts W) fa h q u ++ bR g W fa h q u c) ?_ (fun hs01 => ?_)
      ·refine at_go (by kernel_rfl) rfl ?_
       repeat' (first | (refine at_sub hs012 ?_ ?_; (· exact tSC); (· exact tFC)) | (refine at_sub hs013 ?_ ?_; (· exact tSC); (· exact tFC)) | (refine at_sub hs014 ?_ ?_; (· exact tSC); (· exact tFC)) | exact at_none (by decide +kernel) | refine at_skip rfl ?_ | refine at_take rfl ?_ ?_ | (refine ao_sh_call ?_; first | (refine ao_callM (gR g (fsts W) fa h q u) (gR g (fsts W') fa h q U) (bR g W fa h q u c) (bE l k) [0] noLoneH rfl rfl rfl ?_ ?_ rfl rfl rfl cA ?_; (· exact tHC); (· exact tSC))) | refine sK ?_ | refine sC (fun _ => ?_) (fun _ => ?_) | fail)
      refine at_cut (lB false false false false true) ([(48, .pv (acPV c))] ++ bE l k) (gR g (fsts W) fa h q u ++ bR g W fa h q u c) ?_ (fun hs4 => ?_)
      ·refine at_go (by kernel_rfl) rfl ?_
       repeat' (first | (refine at_sub hs04 ?_ ?_; (· exact tSC); (· exact tFC)) | (refine at_sub hs14 ?_ ?_; (· exact tSC); (· exact tFC)) | (refine at_sub hs34 ?_ ?_; (· exact tSC); (· exact tFC)) | exact at_none (by decide +kernel) | refine at_skip rfl ?_ | refine at_take rfl ?_ ?_ | refine sK ?_ | refine sC (fun _ => ?_) (fun _ => ?_) | fail)
      refine at_cut (lB false false false true false) ([(47, .box 10 0)] ++ bE l k) (gR g (fsts W) fa h q u ++ bR g W fa h q u c) ?_ (fun hs3 => ?_)
      ·refine at_go (by kernel_rfl) rfl ?_
       repeat' (first | (refine at_sub hs03 ?_ ?_; (· exact tSC); (· exact tFC)) | (refine at_sub hs13 ?_ ?_; (· exact tSC); (· exact tFC)) | (refine at_sub hs34 ?_ ?_; (· exact tSC); (· exact tFC)) | exact at_none (by decide +kernel) | refine at_skip rfl ?_ | refine at_take rfl ?_ ?_ | refine sK ?_ | refine sC (fun _ => ?_) (fun _ => ?_) | fail)
      refine at_cut (lB false true false false false) ([(45, .pv (acPV c))] ++ bE l k) (gR g (fsts W) fa h q u ++ bR g W fa h q u c) ?_ (fun hs1 => ?_)
      ·refine at_go (by kernel_rfl) rfl ?_
       repeat' (first | (refine at_sub hs01 ?_ ?_; (· exact tSC); (· exact tFC)) | (refine at_sub hs13 ?_ ?_; (· exact tSC); (· exact tFC)) | (refine at_sub hs14 ?_ ?_; (· exact tSC); (· exact tFC)) | exact at_none (by decide +kernel) | refine at_skip rfl ?_ | refine at_take rfl ?_ ?_ | refine sK ?_ | refine sC (fun _ => ?_) (fun _ => ?_) | fail)
      refine at_cut (lB true false false false false) ([(44, .box 0 0)] ++ bE l k) (gR g (fsts W) fa h q u ++ bR g W fa h q u c) ?_ (fun hs0 => ?_)
      ·refine at_go (by kernel_rfl) rfl ?_
       repeat' (first | (refine at_sub hs01 ?_ ?_; (· exact tSC); (· exact tFC)) | (refine at_sub hs03 ?_ ?_; (· exact tSC); (· exact tFC)) | (refine at_sub hs04 ?_ ?_; (· exact tSC); (· exact tFC)) | exact at_none (by decide +kernel) | refine at_skip rfl ?_ | refine at_take rfl ?_ ?_ | refine sK ?_ | refine sC (fun _ => ?_) (fun _ => ?_) | fail)
      refine at_go (by kernel_rfl) rfl ?_
      repeat' (first | (refine at_sub hs0 ?_ ?_; (· exact tSC); (· exact tFC)) | (refine at_sub hs1 ?_ ?_; (· exact tSC); (· exact tFC)) | (refine at_sub hs3 ?_ ?_; (· exact tSC); (· exact tFC)) | (refine at_sub hs4 ?_ ?_; (· exact tSC); (· exact tFC)) | exact at_none (by decide +kernel) | refine at_skip rfl ?_ | refine at_take rfl ?_ ?_ | refine sK ?_ | refine sC (fun _ => ?_) (fun _ => ?_) | fail)
    ·have hk2 : k = l.length := by omega
     have hhh := hm.hh
     have hqq := hm.hw
     have edk : decide ((k : Int) < (l.length : Int)) = false := decide_eq_false (by omega)
     have cF := fun mv => FramesG_call g (fsts W) mv fa (h : Int) ((h + q : Nat) : Int) (u : Int)
     have d0 : (((h + q : Nat) : Int) == IntKind.u64.wrap ((h + q : Nat) : Int)) = true := by rw [wrapU_in (by omega) (by omega)]; simp
     repeat' (first | refine ao_q (r := .pv (u64 ((h + q : Nat) : Int))) rfl (q_callO (args := fun ρ => [.ptr (gPV g (fsts W) (ρ 8) fa (h : Int) ((h + q : Nat) : Int) (u : Int)) 0]) rfl (fun _ => rfl) (fun ρ => cF (ρ 8))) rfl rfl ?_ | refine AD.step _ _ _ (.pv (u64 ((h + q : Nat) : Int))) _ rfl (q_callO (args := fun ρ => [.ptr (gPV g (fsts W) (ρ 8) fa (h : Int) ((h + q : Nat) : Int) (u : Int)) 0]) rfl (fun _ => rfl) (fun ρ => cF (ρ 8))) rfl rfl ?_ | refine sK ?_ | refine sC (fun _ => ?_) (fun _ => ?_) | fail)
     exact retq rfl (by show pb _ = pb true; rw [d0])
  ·rw [hla] at c2
   repeat' (first | (refine shC ?_; first | refine qC wakes20_call ?_ | refine qC c1 ?_ | refine qC c2 ?_) | refine sK ?_ | refine sC (fun _ => ?_) (fun _ => ?_) | fail)
   exact retq rfl rfl
 ·rw [hlg] at c1
  repeat' (first | (refine shC ?_; first | refine qC wakes20_call ?_ | refine qC c1 ?_) | refine sK ?_ | refine sC (fun _ => ?_) (fun _ => ?_) | fail)
  exact retq rfl rfl
end Go.Cg
/- From a reading of an argument to a pure value. -/
namespace Go.Cg
open Go.RowKit Go.ChangeShapes Go.WideShapes Go.ChangeAt Go.Deep

/-- All that lay when the call began. -/
def KW (w : World) : KK := fun b _ => b < w.heap.size

section
variable {H : Type} {enc : TypeId × Value → H} {P : Program} {w : World}

/-- Whatever reads at this type, holds cells of this kind. -/
def Rd (enc : TypeId × Value → H) (P : Program) (w : World) (t : TypeId) (sz : Nat) (X : List PV → Prop) : Prop :=
  P.cellsOf t = sz ∧ ∀ fuel cs x, DataW.trod enc P w 0 (fun _ => true) true fuel t cs = some x → ∃ pvs, X pvs ∧ PRels (KW w) w pvs cs ∧ cs.length = sz ∧ (∀ v ∈ cs, v.oneCell' = true)

theorem Rd.mono {t : TypeId} {sz : Nat} {X Y : List PV → Prop} (h : Rd enc P w t sz X) (hxy : ∀ ps, X ps → Y ps) : Rd enc P w t sz Y :=
  ⟨h.1, fun fuel cs x hx => let ⟨ps, h1, h2⟩ := h.2 fuel cs x hx; ⟨ps, hxy ps h1, h2⟩⟩

theorem rd_int {t : TypeId} {k : IntKind} (ht : P.underlying t = some (.int k)) (hc : P.cellsOf t = 1) : Rd enc P w t 1 (fun ps => ∃ n, (Lit.int k n).wf = true ∧ ps = [.base (.int k n)]) := by
  refine ⟨hc, fun fuel cs x hx => ?_⟩
  obtain ⟨n, rfl, _, hw⟩ := DataW.trod_int ht hx
  exact ⟨_, ⟨n, hw, rfl⟩, .cons (.base _ rfl) .nil, rfl, by simp [Value.oneCell']⟩

theorem rd_bool {t : TypeId} (ht : P.underlying t = some .bool) (hc : P.cellsOf t = 1) : Rd enc P w t 1 (fun ps => ∃ b, ps = [.base (.bool b)]) := by
  refine ⟨hc, fun fuel cs x hx => ?_⟩
  obtain ⟨b, rfl, _⟩ := DataW.trod_bool ht hx
  exact ⟨_, ⟨b, rfl⟩, .cons (.base _ rfl) .nil, rfl, by simp [Value.oneCell']⟩

theorem rd_string {t : TypeId} (ht : P.underlying t = some .string) (hc : P.cellsOf t = 1) : Rd enc P w t 1 (fun ps => ∃ s : ByteArray, s.size ≤ maxLen ∧ ps = [.base (.string s)]) := by
  refine ⟨hc, fun fuel cs x hx => ?_⟩
  obtain ⟨s, rfl, _, hs⟩ := DataW.trod_string ht hx
  exact ⟨_, ⟨s, hs, rfl⟩, .cons (.base _ (by simpa [baseOk] using hs)) .nil, rfl, by simp [Value.oneCell']⟩

theorem rd_slice {t e : TypeId} {sz : Nat} {α : Type} [Inhabited α] {G : α → Prop} {f : α → PV} (ht : P.underlying t = some (.slice e)) (hc : P.cellsOf t = 1) (h0 : 0 < sz) (he : Rd enc P w e sz (fun ps => ∃ x : α, G x ∧ ps = (f x).cells)) :
    Rd enc P w t 1 (fun ps => ∃ l : List α, (∀ x ∈ l, G x) ∧ ps = [.slc sz (l.map f) false]) := by
  refine ⟨hc, fun fuel cs x hx => ?_⟩
  obtain ⟨hes, hel⟩ := he
  rcases open_slice ht hx with ⟨rfl, _⟩ | ⟨a, len, cap, m, n, D, Pl, rfl, _, hl, hm, hmm, _, hall⟩
  · exact ⟨_, ⟨[], by simp, rfl⟩, .cons (.nil sz false) .nil, rfl, by simp [Value.oneCell']⟩
  · simp only [if_true] at hmm
    subst hmm
    rw [hes] at hall
    by_cases hcap : m = 0
    · subst hcap
      obtain rfl : len = 0 := by omega
      exact ⟨_, ⟨[], by simp, rfl⟩, .cons (.emp sz false a) .nil, rfl, by simp [Value.oneCell']⟩
    · have hx : ∀ i, i < len → ∃ y : α × List Value, G y.1 ∧ w.cells? 0 (a.add (i * sz)) sz = some y.2 ∧ PRels (KW w) w (f y.1).cells y.2 ∧ y.2.length = sz ∧ (∀ v ∈ y.2, v.oneCell' = true) := by
        intro i hi
        obtain ⟨cs', h1, h2⟩ := hall i (by omega)
        obtain ⟨pvs, ⟨x, hg, rfl⟩, h4, h5, h6⟩ := hel _ _ _ h2
        exact ⟨(x, cs'), hg, h1, h4, h5, h6⟩
      obtain ⟨F, hF⟩ := choose_lt hx
      obtain ⟨b, o, spot⟩ := a
      have hspot : spot = none := by
        obtain ⟨cs', h1, _⟩ := hall 0 (by omega)
        obtain ⟨_, h2, h3⟩ := World.cells?_some h1
        have := h3 0 h0
        have h4 : cs'[0]? = some (cs'[0]'(by omega)) := List.getElem?_eq_getElem _
        rw [h4] at this
        simp only [Nat.zero_mul] at this
        have := World.cell?_spot this
        simpa [Addr.add] using this
      subst hspot
      refine ⟨_, ⟨(List.range len).map fun i => (F i).1, ?_, rfl⟩, .cons ?_ .nil, rfl, by simp [Value.oneCell']⟩
      · intro x hx
        simp only [List.mem_map, List.mem_range] at hx
        obtain ⟨i, hi, rfl⟩ := hx
        exact (hF i hi).1
      · have hlen : (((List.range len).map fun i => (F i).1).map f).length = len := by simp
        have hget : ∀ i e, (((List.range len).map fun i => (F i).1).map f)[i]? = some e → i < len ∧ e = f (F i).1 := by
          intro i e he
          have hi : i < len := by have := (List.getElem?_eq_some_iff.1 he).1; rw [hlen] at this; exact this
          refine ⟨hi, ?_⟩
          simp [hi] at he
          exact he.symm
        have := PRel.slc (K := KW w) (w := w) sz (((List.range len).map fun i => (F i).1).map f) false b o m (fun i => (F i).2) h0 (by rw [hlen]; exact hl) (by simp) (by rw [hlen]; omega) hm
          (fun i e he => by
            obtain ⟨hi, rfl⟩ := hget i e he
            obtain ⟨_, h1, h2, h3, h4⟩ := hF i hi
            refine ⟨by rw [← h2.1]; exact h3, h3, fun k v hv => ?_⟩
            have hk : k < sz := by rw [← h3]; exact (List.getElem?_eq_some_iff.1 hv).1
            obtain ⟨_, _, h5⟩ := World.cells?_some h1
            have h6 := h5 k hk
            rw [hv, Addr.add_lit, Addr.add_lit] at h6
            have h7 : b < w.heap.size := World.cells?_block h1 h0 |> (by simpa [Addr.add_lit] using ·)
            exact ⟨h7, h6, h4 v (List.mem_of_getElem? hv)⟩)
          (fun i e k c v he hc hv => by
            obtain ⟨hi, rfl⟩ := hget i e he
            exact (hF i hi).2.2.1.2 k c v hc hv)
        rw [hlen] at this
        exact this

def CatX : List (List PV → Prop) → List PV → Prop
  | [], ps => ps = []
  | X :: r, ps => ∃ a b, X a ∧ CatX r b ∧ ps = a ++ b

def FitsF (enc : TypeId × Value → H) (P : Program) (w : World) (n : Nat) : List Field → List (List PV → Prop) → Nat → Prop
  | [], [], off => off = n
  | f :: fs, X :: Xs, off => f.offset = off ∧ ∃ sz, Rd enc P w f.type sz X ∧ FitsF enc P w n fs Xs (off + sz)
  | _, _, _ => False

theorem fits_nil {n : Nat} : FitsF enc P w n [] [] n := rfl
theorem fits_cons {n sz off : Nat} {f : Field} {fs : List Field} {X : List PV → Prop} {Xs : List (List PV → Prop)} (ho : f.offset = off) (hr : Rd enc P w f.type sz X) (h : FitsF enc P w n fs Xs (off + sz)) : FitsF enc P w n (f :: fs) (X :: Xs) off := ⟨ho, sz, hr, h⟩

theorem fitsF_rd {n m : Nat} {cs : List Value} (hl : cs.length = n) : ∀ {fs : List Field} {Xs : List (List PV → Prop)} {off : Nat}, FitsF enc P w n fs Xs off →
    (∀ (i : Nat) (f : Field), fs[i]? = some f → ∃ x, DataW.trod enc P w 0 (fun _ => true) true m f.type ((cs.drop f.offset).take (P.cellsOf f.type)) = some x) →
    ∃ pvs, CatX Xs pvs ∧ PRels (KW w) w pvs (cs.drop off) ∧ (∀ v ∈ cs.drop off, v.oneCell' = true)
  | [], [], off, h, _ => by
    have h : off = n := h
    subst h
    have : cs.drop off = [] := by rw [← hl]; simp
    rw [this]
    exact ⟨[], rfl, .nil, by simp⟩
  | f :: fs, X :: Xs, off, h, hall => by
    obtain ⟨rfl, sz, ⟨h1, h2⟩, h3⟩ := h
    obtain ⟨x, hx⟩ := hall 0 f rfl
    obtain ⟨pa, a1, a2, a3, a4⟩ := h2 _ _ _ hx
    obtain ⟨pb, b1, b2, b3⟩ := fitsF_rd hl h3 (fun i g hg => hall (i + 1) g (by simpa using hg))
    have e : cs.drop f.offset = (cs.drop f.offset).take sz ++ cs.drop (f.offset + sz) := by
      rw [← List.drop_drop, List.take_append_drop]
    rw [h1] at a2 a3 a4
    rw [e]
    exact ⟨pa ++ pb, ⟨pa, pb, a1, b1, rfl⟩, a2.append b2, fun v hv => (List.mem_append.1 hv).elim (a4 v) (b3 v)⟩

theorem rd_struct {t : TypeId} {fs : Array Field} {n : Nat} {Xs : List (List PV → Prop)} (ht : P.underlying t = some (.struct fs)) (hc : P.cellsOf t = n) (hf : FitsF enc P w n fs.toList Xs 0) : Rd enc P w t n (CatX Xs) := by
  refine ⟨hc, fun fuel cs x hx => ?_⟩
  obtain ⟨xs, m, _, _, hl, hxs, hall⟩ := DataW.trod_struct ht hx
  have := fitsF_rd (m := m) (by rw [hl, hc]) hf (fun i f hf => by
    have hi : i < fs.size := by simpa using (List.getElem?_eq_some_iff.1 hf).1
    have := hall i f (by simpa using hf)
    exact ⟨_, this.trans (List.getElem?_eq_getElem (by omega))⟩)
  simp only [List.drop_zero] at this
  obtain ⟨pvs, h1, h2, h3⟩ := this
  exact ⟨pvs, h1, h2, by rw [hl, hc], h3⟩

/-- An argument of one cell. -/
theorem rd_one {t : TypeId} {X : List PV → Prop} (h : Rd enc P w t 1 X) {v : Value} {d : DataW H} {ps : List MemPlace} (hv : v.cells = #[v]) (ht : DataW.Trod enc P w 0 (fun _ => true) true t v d ps) : ∃ p, X [p] ∧ PRel (KW w) w p v := by
  obtain ⟨fuel, hx⟩ := ht
  obtain ⟨pvs, h1, h2, _, _⟩ := h.2 _ _ _ hx
  rw [hv] at h2
  have hl : pvs.length = 1 := by simpa using h2.1.symm
  obtain ⟨p, rfl⟩ := List.length_eq_one_iff.1 hl
  exact ⟨p, h1, h2.2 0 p v (by simp) (by simp)⟩
/-- An argument that is a struct or an array. -/
theorem rd_agg {t : TypeId} {n : Nat} {X : List PV → Prop} (h : Rd enc P w t n X) {cs : Array Value} {d : DataW H} {ps : List MemPlace} (ht : DataW.Trod enc P w 0 (fun _ => true) true t (.agg cs) d ps) : ∃ pvs, X pvs ∧ PRel (KW w) w (.agg pvs) (.agg cs) := by
  obtain ⟨fuel, hx⟩ := ht
  obtain ⟨pvs, h1, h2, _, h4⟩ := h.2 _ _ _ hx
  refine ⟨pvs, h1, ?_⟩
  have := PRel.agg pvs cs.toList h2.1 (by simpa [Value.cells] using h4) (by simpa [Value.cells] using h2.2)
  simpa using this

theorem okWide_slice_one {t e : TypeId} {v : Value} (ht : P.underlying t = some (.slice e)) {base : Nat} (h : Value.okWide P w .any base t v) : v.cells = #[v] := by
  simp only [Value.okWide, ht, Cell.okWide, Cell.ok] at h
  cases v <;> first | rfl | simp at h
theorem okWide_int_one {t : TypeId} {k : IntKind} {v : Value} (ht : P.underlying t = some (.int k)) {base : Nat} (h : Value.okWide P w .any base t v) : v.cells = #[v] := by
  simp only [Value.okWide, ht, Cell.okWide, Cell.ok] at h
  cases v <;> first | rfl | simp at h
theorem okWide_struct {t : TypeId} {fs : Array Field} {v : Value} (ht : P.underlying t = some (.struct fs)) {base : Nat} (h : Value.okWide P w .any base t v) : ∃ cs, v = .agg cs := by
  simp only [Value.okWide, ht] at h
  obtain ⟨cs, h, _⟩ := h
  exact ⟨cs, h⟩
theorem okWide_array {t e : TypeId} {n : Nat} {v : Value} (ht : P.underlying t = some (.array n e)) {base : Nat} (h : Value.okWide P w .any base t v) : ∃ cs, v = .agg cs := by
  simp only [Value.okWide, ht] at h
  obtain ⟨cs, h, _⟩ := h
  exact ⟨cs, h⟩

theorem rd_array3 {t e : TypeId} {sz : Nat} {X : List PV → Prop} (ht : P.underlying t = some (.array 3 e)) (hc : P.cellsOf t = 3 * sz) (he : Rd enc P w e sz X) : Rd enc P w t (3 * sz) (CatX [X, X, X]) := by
  refine ⟨hc, fun fuel cs x hx => ?_⟩
  obtain ⟨xs, m, _, _, hl, hxs, hall⟩ := DataW.trod_array ht hx
  obtain ⟨hes, hel⟩ := he
  rw [hc] at hl
  rw [hes] at hall
  have one : ∀ i, i < 3 → ∃ pvs, X pvs ∧ PRels (KW w) w pvs ((cs.drop (i * sz)).take sz) ∧ (∀ v ∈ (cs.drop (i * sz)).take sz, v.oneCell' = true) := by
    intro i hi
    have h1 := (hall i hi).trans (List.getElem?_eq_getElem (by omega))
    obtain ⟨pvs, h2, h3, _, h5⟩ := hel _ _ _ h1
    exact ⟨pvs, h2, h3, h5⟩
  obtain ⟨a, a1, a2, a3⟩ := one 0 (by omega)
  obtain ⟨b, b1, b2, b3⟩ := one 1 (by omega)
  obtain ⟨c, c1, c2, c3⟩ := one 2 (by omega)
  have hcs : cs = (cs.drop (0 * sz)).take sz ++ ((cs.drop (1 * sz)).take sz ++ (cs.drop (2 * sz)).take sz) := by
    have e1 : cs = cs.take sz ++ (cs.drop sz) := (List.take_append_drop sz cs).symm
    have e2 : cs.drop sz = (cs.drop sz).take sz ++ (cs.drop sz).drop sz := (List.take_append_drop sz _).symm
    have e3 : (cs.drop sz).drop sz = (cs.drop (2 * sz)).take sz := by
      rw [List.drop_drop, show sz + sz = 2 * sz by omega, List.take_of_length_le]; simp; omega
    simp only [Nat.zero_mul, List.drop_zero, Nat.one_mul]
    rw [← e3, ← e2, ← e1]
  refine ⟨a ++ (b ++ c), ⟨a, b ++ c, a1, ⟨b, c, b1, ⟨c, [], c1, rfl, by simp⟩, rfl⟩, rfl⟩, ?_, hl, ?_⟩
  · rw [hcs]; exact a2.append (b2.append c2)
  · rw [hcs]
    intro v hv
    simp only [List.mem_append] at hv
    rcases hv with hv | hv | hv
    · exact a3 v hv
    · exact b3 v hv
    · exact c3 v hv
end
end Go.Cg
namespace Go.Cg
open Go.RowKit Go.Proofs

def okTy (t : Ty) : Prop := (Lit.int .i64 t.kind).wf = true ∧ (Lit.int .i64 t.index).wf = true ∧ (Lit.int .i64 t.dims).wf = true
def okTys (l : List Ty) : Prop := ∀ t ∈ l, okTy t
def okTD (t : TD) : Prop := (Lit.int .i64 t.flags).wf = true ∧ (Lit.int .i64 t.ext).wf = true ∧ ∀ f ∈ t.faces, (Lit.int .i64 f).wf = true
def okFd (f : Fd) : Prop := (Lit.int .i64 f.owner).wf = true ∧ okTy f.ty
def okIns (x : Ins) : Prop := (Lit.int .i64 x.op).wf = true ∧ (Lit.int .i64 x.arg).wf = true ∧ okTy x.t
def okCl (c : Cl) : Prop := (Lit.int .i64 c.kind).wf = true ∧ (Lit.int .i64 c.tf).wf = true ∧ (Lit.int .i64 c.tt).wf = true ∧ (Lit.int .i64 c.hf).wf = true ∧ (Lit.int .i64 c.ht).wf = true ∧ (Lit.int .i64 c.filter).wf = true ∧ okTy c.t
def okMe (m : Me) : Prop := (Lit.int .i64 m.owner).wf = true ∧ (Lit.int .i64 m.flags).wf = true ∧ okTys m.params ∧ okTy m.ret ∧ okTys m.locals ∧ (Lit.int .i64 m.max).wf = true ∧ (∀ x ∈ m.code, okIns x) ∧ ∀ c ∈ m.clauses, okCl c
def okImg (g : Img) : Prop := (∀ t ∈ g.types, okTD t) ∧ (∀ f ∈ g.fields, okFd f) ∧ (∀ m ∈ g.methods, okMe m) ∧ (Lit.int .i64 g.entry).wf = true
def arrPV (l : Ty × Ty × Ty) : PV := .agg ((tyPV l.1).cells ++ ((tyPV l.2.1).cells ++ (tyPV l.2.2).cells))
def okArr (l : Ty × Ty × Ty) : Prop := okTy l.1 ∧ okTy l.2.1 ∧ okTy l.2.2
def okU8 (n : Int) : Prop := (Lit.int .u8 n).wf = true

section
variable {H : Type} {enc : TypeId × Value → H} {w : World}
theorem rdInt : Rd enc Tryz.prog w 3 1 (fun ps => ∃ n, (Lit.int .i64 n).wf = true ∧ ps = [.base (.int .i64 n)]) := rd_int Tryz.underlying3 (by kernel_rfl)
theorem rdInt64 : Rd enc Tryz.prog w 2 1 (fun ps => ∃ n, (Lit.int .i64 n).wf = true ∧ ps = [.base (.int .i64 n)]) := rd_int Tryz.underlying2 (by kernel_rfl)
theorem rdBool : Rd enc Tryz.prog w 4 1 (fun ps => ∃ b, ps = [.base (.bool b)]) := rd_bool Tryz.underlying4 (by kernel_rfl)
theorem rdStr : Rd enc Tryz.prog w 9 1 (fun ps => ∃ s : ByteArray, s.size ≤ maxLen ∧ ps = [.base (.string s)]) := rd_string Tryz.underlying9 (by kernel_rfl)
theorem rdTy : Rd enc Tryz.prog w 36 4 (fun ps => ∃ t : Ty, okTy t ∧ ps = (tyPV t).cells) := by
  refine (rd_struct Tryz.underlying36 (by kernel_rfl) (fits_cons rfl rdInt (fits_cons rfl rdInt (fits_cons rfl rdInt (fits_cons rfl rdBool fits_nil))))).mono ?_
  rintro _ ⟨_, _, ⟨a, ha, rfl⟩, ⟨_, _, ⟨b, hb, rfl⟩, ⟨_, _, ⟨c, hc, rfl⟩, ⟨_, _, ⟨d, rfl⟩, rfl, rfl⟩, rfl⟩, rfl⟩, rfl⟩
  exact ⟨⟨a, b, c, d⟩, ⟨ha, hb, hc⟩, rfl⟩
theorem rdTys : Rd enc Tryz.prog w 92 1 (fun ps => ∃ l : List Ty, okTys l ∧ ps = [tys l]) := rd_slice Tryz.underlying92 (by kernel_rfl) (by decide) rdTy
theorem rdInts : Rd enc Tryz.prog w 81 1 (fun ps => ∃ l : List Int, (∀ n ∈ l, (Lit.int .i64 n).wf = true) ∧ ps = [ints l]) :=
  rd_slice (f := pi) Tryz.underlying81 (by kernel_rfl) (by decide) rdInt
theorem rdTD : Rd enc Tryz.prog w 113 4 (fun ps => ∃ t : TD, okTD t ∧ ps = (tdPV t).cells) := by
  refine (rd_struct Tryz.underlying113 (by kernel_rfl) (fits_cons rfl rdStr (fits_cons rfl rdInt (fits_cons rfl rdInt (fits_cons rfl rdInts fits_nil))))).mono ?_
  rintro _ ⟨_, _, ⟨a, ha, rfl⟩, ⟨_, _, ⟨b, hb, rfl⟩, ⟨_, _, ⟨c, hc, rfl⟩, ⟨_, _, ⟨d, hd, rfl⟩, rfl, rfl⟩, rfl⟩, rfl⟩, rfl⟩
  exact ⟨⟨a, b, c, d⟩, ⟨hb, hc, hd⟩, rfl⟩
theorem rdFd : Rd enc Tryz.prog w 167 7 (fun ps => ∃ t : Fd, okFd t ∧ ps = (fdPV t).cells) := by
  refine (rd_struct Tryz.underlying167 (by kernel_rfl) (fits_cons rfl rdStr (fits_cons rfl rdInt (fits_cons rfl rdTy (fits_cons rfl rdBool fits_nil))))).mono ?_
  rintro _ ⟨_, _, ⟨a, ha, rfl⟩, ⟨_, _, ⟨b, hb, rfl⟩, ⟨_, _, ⟨c, hc, rfl⟩, ⟨_, _, ⟨d, rfl⟩, rfl, rfl⟩, rfl⟩, rfl⟩, rfl⟩
  exact ⟨⟨a, b, c, d⟩, ⟨hb, hc⟩, rfl⟩
theorem rdIns : Rd enc Tryz.prog w 108 6 (fun ps => ∃ t : Ins, okIns t ∧ ps = (insPV t).cells) := by
  refine (rd_struct Tryz.underlying108 (by kernel_rfl) (fits_cons rfl rdInt (fits_cons rfl rdInt64 (fits_cons rfl rdTy fits_nil)))).mono ?_
  rintro _ ⟨_, _, ⟨a, ha, rfl⟩, ⟨_, _, ⟨b, hb, rfl⟩, ⟨_, _, ⟨c, hc, rfl⟩, rfl, rfl⟩, rfl⟩, rfl⟩
  exact ⟨⟨a, b, c⟩, ⟨ha, hb, hc⟩, rfl⟩
theorem rdCl : Rd enc Tryz.prog w 194 10 (fun ps => ∃ t : Cl, okCl t ∧ ps = (clPV t).cells) := by
  refine (rd_struct Tryz.underlying194 (by kernel_rfl) (fits_cons rfl rdInt (fits_cons rfl rdInt (fits_cons rfl rdInt (fits_cons rfl rdInt (fits_cons rfl rdInt (fits_cons rfl rdInt (fits_cons rfl rdTy fits_nil)))))))).mono ?_
  rintro _ ⟨_, _, ⟨a, ha, rfl⟩, ⟨_, _, ⟨b, hb, rfl⟩, ⟨_, _, ⟨c, hc, rfl⟩, ⟨_, _, ⟨d, hd, rfl⟩, ⟨_, _, ⟨e, he, rfl⟩, ⟨_, _, ⟨f, hf, rfl⟩, ⟨_, _, ⟨t, ht, rfl⟩, rfl, rfl⟩, rfl⟩, rfl⟩, rfl⟩, rfl⟩, rfl⟩, rfl⟩
  exact ⟨⟨a, b, c, d, e, f, t⟩, ⟨ha, hb, hc, hd, he, hf, ht⟩, rfl⟩
theorem rdCode : Rd enc Tryz.prog w 102 1 (fun ps => ∃ l : List Ins, (∀ x ∈ l, okIns x) ∧ ps = [.slc 6 (l.map insPV) false]) := rd_slice Tryz.underlying102 (by kernel_rfl) (by decide) rdIns
theorem rdCls : Rd enc Tryz.prog w 103 1 (fun ps => ∃ l : List Cl, (∀ x ∈ l, okCl x) ∧ ps = [.slc 10 (l.map clPV) false]) := rd_slice Tryz.underlying103 (by kernel_rfl) (by decide) rdCl
theorem rdMe : Rd enc Tryz.prog w 105 12 (fun ps => ∃ t : Me, okMe t ∧ ps = (mePV t).cells) := by
  refine (rd_struct Tryz.underlying105 (by kernel_rfl) (fits_cons rfl rdStr (fits_cons rfl rdInt (fits_cons rfl rdInt (fits_cons rfl rdTys (fits_cons rfl rdTy (fits_cons rfl rdTys (fits_cons rfl rdInt (fits_cons rfl rdCode (fits_cons rfl rdCls fits_nil)))))))))).mono ?_
  rintro _ ⟨_, _, ⟨a, ha, rfl⟩, ⟨_, _, ⟨b, hb, rfl⟩, ⟨_, _, ⟨c, hc, rfl⟩, ⟨_, _, ⟨d, hd, rfl⟩, ⟨_, _, ⟨e, he, rfl⟩, ⟨_, _, ⟨f, hf, rfl⟩, ⟨_, _, ⟨t, ht, rfl⟩, ⟨_, _, ⟨x, hx, rfl⟩, ⟨_, _, ⟨y, hy, rfl⟩, rfl, rfl⟩, rfl⟩, rfl⟩, rfl⟩, rfl⟩, rfl⟩, rfl⟩, rfl⟩, rfl⟩
  exact ⟨⟨a, b, c, d, e, f, t, x, y⟩, ⟨hb, hc, hd, he, hf, ht, hx, hy⟩, rfl⟩
theorem rdTDs : Rd enc Tryz.prog w 22 1 (fun ps => ∃ l : List TD, (∀ x ∈ l, okTD x) ∧ ps = [.slc 4 (l.map tdPV) false]) := rd_slice Tryz.underlying22 (by kernel_rfl) (by decide) rdTD
theorem rdFds : Rd enc Tryz.prog w 23 1 (fun ps => ∃ l : List Fd, (∀ x ∈ l, okFd x) ∧ ps = [.slc 7 (l.map fdPV) false]) := rd_slice Tryz.underlying23 (by kernel_rfl) (by decide) rdFd
theorem rdMes : Rd enc Tryz.prog w 24 1 (fun ps => ∃ l : List Me, (∀ x ∈ l, okMe x) ∧ ps = [.slc 12 (l.map mePV) false]) := rd_slice Tryz.underlying24 (by kernel_rfl) (by decide) rdMe
theorem rdImg : Rd enc Tryz.prog w 26 4 (fun ps => ∃ t : Img, okImg t ∧ ps = (imgPV t).cells) := by
  refine (rd_struct Tryz.underlying26 (by kernel_rfl) (fits_cons rfl rdTDs (fits_cons rfl rdFds (fits_cons rfl rdMes (fits_cons rfl rdInt fits_nil))))).mono ?_
  rintro _ ⟨_, _, ⟨a, ha, rfl⟩, ⟨_, _, ⟨b, hb, rfl⟩, ⟨_, _, ⟨c, hc, rfl⟩, ⟨_, _, ⟨d, hd, rfl⟩, rfl, rfl⟩, rfl⟩, rfl⟩, rfl⟩
  exact ⟨⟨a, b, c, d⟩, ⟨ha, hb, hc, hd⟩, rfl⟩
end
theorem own : ownKnob Tryz.prog.godebug = none := by kernel_rfl
theorem laidOut : laidOutB Tryz.prog = true := by kernel_rfl
end Go.Cg
namespace Go.Cg
open Go.RowKit Go.Proofs
theorem rdU8 {H : Type} {enc : TypeId × Value → H} {w : World} : Rd enc Tryz.prog w 5 1 (fun ps => ∃ n, okU8 n ∧ ps = [.base (.int .u8 n)]) := rd_int Tryz.underlying5 (by kernel_rfl)
theorem okU8_in {n : Int} (h : okU8 n) : 0 ≤ n ∧ n ≤ 255 := by
  simp [okU8, Lit.wf, IntKind.min, IntKind.max, IntKind.bits, IntKind.signed] at h; omega
end Go.Cg
namespace Go.Cg
open Go.RowKit Go.Proofs
def okI64 (n : Int) : Prop := (Lit.int .i64 n).wf = true
theorem rdI64 {H : Type} {enc : TypeId × Value → H} {w : World} : Rd enc Tryz.prog w 3 1 (fun ps => ∃ n, okI64 n ∧ ps = [.base (.int .i64 n)]) := rdInt
theorem okI64_in {n : Int} (h : okI64 n) : -9223372036854775808 ≤ n ∧ n ≤ 9223372036854775807 := by
  simp [okI64, Lit.wf, IntKind.min, IntKind.max, IntKind.bits, IntKind.signed] at h; omega
theorem okImg_arg {g : Img} (h : okImg g) : ∀ m ∈ g.methods, ∀ x ∈ m.code, okArg x := fun m hm x hx => by
  have := ((h.2.2.1 m hm).2.2.2.2.2.2.1 x hx).2.1
  simp [Lit.wf, IntKind.min, IntKind.max, IntKind.bits, IntKind.signed] at this
  exact ⟨by omega, by omega⟩
end Go.Cg
namespace Go.Cg
open Go.RowKit Go.Proofs
def okU64 (n : Int) : Prop := (Lit.int .u64 n).wf = true
def okU16 (n : Int) : Prop := (Lit.int .u16 n).wf = true
def okU8s (l : List Int) : Prop := ∀ n ∈ l, okU8 n
theorem okU64_in {n : Int} (h : okU64 n) : 0 ≤ n ∧ n ≤ 18446744073709551615 := by
  simp [okU64, Lit.wf, IntKind.min, IntKind.max, IntKind.bits, IntKind.signed] at h; omega
theorem okU16_in {n : Int} (h : okU16 n) : 0 ≤ n ∧ n ≤ 65535 := by
  simp [okU16, Lit.wf, IntKind.min, IntKind.max, IntKind.bits, IntKind.signed] at h; omega
section
variable {H : Type} {enc : TypeId × Value → H} {w : World}
theorem rdU64 : Rd enc Tryz.prog w 33 1 (fun ps => ∃ n, okU64 n ∧ ps = [.base (.int .u64 n)]) := rd_int Tryz.underlying33 (by kernel_rfl)
theorem rdU64s : Rd enc Tryz.prog w 37 1 (fun ps => ∃ l : List Int, (∀ n ∈ l, okU64 n) ∧ ps = [.slc 1 (l.map fun n => .base (.int .u64 n)) false]) :=
  rd_slice (f := fun n => .base (.int .u64 n)) Tryz.underlying37 (by kernel_rfl) (by decide) rdU64
theorem rdU8s : Rd enc Tryz.prog w 43 1 (fun ps => ∃ l : List Int, okU8s l ∧ ps = [.slc 1 (l.map fun n => .base (.int .u8 n)) false]) :=
  rd_slice (f := fun n => .base (.int .u8 n)) Tryz.underlying43 (by kernel_rfl) (by decide) rdU8
end
end Go.Cg
namespace Go.Cg
open Go.RowKit Go.Proofs
def okAc (c : Ac) : Prop := okI64 c.kind ∧ okI64 c.n ∧ okTy c.t ∧ okU64 c.a ∧ okU64 c.x ∧ ∀ n ∈ c.l, okU64 n
def okAcs (l : List Ac) : Prop := ∀ c ∈ l, okAc c
section
variable {H : Type} {enc : TypeId × Value → H} {w : World}
theorem rdAct : Rd enc Tryz.prog w 39 9 (fun ps => ∃ c : Ac, okAc c ∧ ps = (acPV c).cells) := by
  refine (rd_struct Tryz.underlying39 (by kernel_rfl) (fits_cons rfl rdI64 (fits_cons rfl rdI64 (fits_cons rfl rdTy (fits_cons rfl rdU64 (fits_cons rfl rdU64 (fits_cons rfl rdU64s fits_nil))))))).mono ?_
  rintro _ ⟨_, _, ⟨a, ha, rfl⟩, ⟨_, _, ⟨b, hb, rfl⟩, ⟨_, _, ⟨c, hc, rfl⟩, ⟨_, _, ⟨d, hd, rfl⟩, ⟨_, _, ⟨e, he, rfl⟩, ⟨_, _, ⟨f, hf, rfl⟩, rfl, rfl⟩, rfl⟩, rfl⟩, rfl⟩, rfl⟩, rfl⟩
  exact ⟨⟨a, b, c, d, e, f⟩, ⟨ha, hb, hc, hd, he, hf⟩, rfl⟩
theorem rdActs : Rd enc Tryz.prog w 27 1 (fun ps => ∃ l : List Ac, okAcs l ∧ ps = [acts l]) := rd_slice (f := acPV) Tryz.underlying27 (by kernel_rfl) (by decide) rdAct
end
theorem okTy_in {t : Ty} (h : okTy t) : (-9223372036854775808 ≤ t.kind ∧ t.kind ≤ 9223372036854775807) ∧ (-9223372036854775808 ≤ t.index ∧ t.index ≤ 9223372036854775807) ∧ (-9223372036854775808 ≤ t.dims ∧ t.dims ≤ 9223372036854775807) := by
  simp [okTy, Lit.wf, IntKind.min, IntKind.max, IntKind.bits, IntKind.signed] at h; omega
end Go.Cg
namespace Go.Cg
open Go
theorem joined_of {P : Program} {f : FuncId} {fn : Func} {s : ChangeSpec} {c : OpenClaim}
  (a1 : laidOutB P = true) (a2 : mapsRowed P = true) (a3 : P.stopsHeard = true) (a4 : P.mayEnter = true) (a5 : P.liftsFinal = c.lifted) (a6 : P.make = some c.make)
  (b1 : P.inPlace f = c.inPlace) (b2 : P.unfollowed f = c.unfollowed) (b3 : P.recurses f = c.recurses) (b4 : P.varsNamed f = c.named)
  (rest : (c.wf (OpenSpec.ofChange s) && fn.params.all (P.readableRec ·) && namedTie P c.named s.vars &&
   (c.stops == []) && (P.stops == []) && (c.knobs == []) && (P.stopKnobs == []) &&
   (c.maps == (fn.params.toList ++ s.plain.varTypes P).any (P.mapsRec ·)) && (c.ifaces == (fn.params.toList ++ s.plain.varTypes P).any (P.ifacesRec ·)) && (c.mapsOut == P.mapsAmong fn.resultTypes.toList) &&
   (c.loops == (fn.params.toList ++ s.plain.varTypes P).any (P.loopsFrom ·)) && (c.wideKeys == (fn.params.toList ++ s.plain.varTypes P ++ fn.resultTypes.toList).any (P.wideKeysFrom ·)) &&
   s.vars.all (P.varReadable ·) && fn.resultTypes.all (fun t => P.readableRec t && decide (t < P.types.size)) && (c.ifacesOut == fn.resultTypes.toList.any (P.ifacesRec ·)) && (c.loopsOut == fn.resultTypes.toList.any (P.loopsFrom ·)) && (c.plainKeys == P.plainKeys) && c.shortTexts.isNone && (c.kinds == (if c.domain.isEmpty then [] else fn.params.toList.map fun t => match P.underlying t with | some (.int k) => some k | _ => none)) && (c.pinned == c.pinnedBy) &&
   (c.veiled == (fn.params.toList ++ s.plain.varTypes P ++ fn.resultTypes.toList).any (P.veiledRec ·)) && c.veiledFits P fn.params.toList (fn.params.toList ++ s.plain.varTypes P ++ fn.resultTypes.toList)) = true) : joinedFacts P f fn s c = true := by
 unfold joinedFacts
 rw [a1, a2, a3, a4, a5, a6, b1, b2, b3, b4]
 simp only [Bool.and_eq_true, beq_self_eq_true, and_true] at rest ⊢
 exact rest
end Go.Cg
namespace Go.Cg
open Go Go.Proofs
theorem jf_laid : laidOutB Tryz.checked.prog = true := by kernel_rfl
theorem jf_maps : mapsRowed Tryz.checked.prog = true := by kernel_rfl
theorem jf_heard : Tryz.checked.prog.stopsHeard = true := by kernel_rfl
theorem jf_enter : Tryz.checked.prog.mayEnter = true := by kernel_rfl
theorem jf_lifts : Tryz.checked.prog.liftsFinal = false := by kernel_rfl
theorem jf_make : Tryz.checked.prog.make = some .cut := by kernel_rfl
end Go.Cg
