/- A part of the walks by abstract values: no statement of its own. -/
import Derived.Test.YthekdpbplmigeaaGreatU19
import Derived.Test.YthekdpbplmigeaaGreatU6
import Derived.Test.YthekdpbplmigeaaGreatU8
import Derived.Test.YthekdpbplmigeaaGreatU15
import Derived.Test.YthekdpbplmigeaaGreatU7
namespace Go.Cg
open Go.Proofs
set_option maxHeartbeats 1000000 in
theorem useS_call (g : Img) (hf : formedG g = true) (t : Ty) : ACall Tryz.prog 183 [imgPV g, tyPV t] (pb (useP g t)) := by
 have ck := KindPG_call g hf t.index
 refine acall_intro tbOK Tryz.func183 rfl (by kernel_rfl) Tryz.ntmps183 (by simp) _ rfl (fun hw gB hgB => ?_)
 rw [useP]
 generalize kindG g t.index = k at ck ⊢
 repeat' (first | (refine shC ?_; first | refine qC ck ?_) | refine sA ?_ | refine sC (fun _ => ?_) (fun _ => ?_) | fail)
 all_goals (refine retq rfl ?_; simp_all [retPV])
set_option maxHeartbeats 1000000 in
theorem typed1_call (g : Img) (hf : formedG g = true) (t : Ty) : ACall Tryz.prog 182 ([] ++ [tyPV t] ++ [.ptr (imgPV g) 0]) (pb (!useP g t)) := by
 show ACall Tryz.prog 182 [tyPV t, .ptr (imgPV g) 0] (pb (!useP g t))
 refine acall_intro tbOK Tryz.func182 rfl (by kernel_rfl) Tryz.ntmps182 (by simp) _ rfl (fun hw gB hgB => ?_)
 repeat' (first | (refine shC ?_; first | refine qC (useS_call g hf t) ?_) | refine sA ?_ | refine sC (fun _ => ?_) (fun _ => ?_) | fail)
 exact retq rfl rfl
def cat3N (a b c : List Ty) : Nat → Int
 | 0 => 0
 | 1 => a.length
 | 2 => a.length + b.length
 | _ => a.length + b.length + c.length
def cat3L (a b c : List Ty) : Nat → List Ty
 | 0 => []
 | 1 => a
 | 2 => a ++ b
 | _ => a ++ b ++ c
set_option maxHeartbeats 2000000 in
theorem Concat3_call (a b c : List Ty) (ha : a.length ≤ 100) (hb : b.length ≤ 100) (hc : c.length ≤ 100) : ACallR Tryz.prog 179 [.slc 1 [tys a, tys b, tys c] true] 36 4 ((a ++ b ++ c).map tyPV) := by
 refine acallR_intro Tryz.func179 rfl (by kernel_rfl) Tryz.ntmps179 (by simp) rfl (fun hw gB hgB => ?_)
 repeat' (first | refine sK ?_ | refine sC (fun _ => ?_) (fun _ => ?_) | fail)
 refine aw_loop (fun k : Nat => [(0, .pv (.slc 1 [tys a, tys b, tys c] true)), (9, .pv (.slc 1 [tys a, tys b, tys c] true)), (10, .pv (pi 3)), (11, .pv (pi k)), (3, .pv (pi (cat3N a b c k)))]) (fun _ => []) (fun k => k ≤ 3) (fun k => 3 - k) 0 (by omega) (tS) tH ?_
 intro k hk
 have hk3 : k = 0 ∨ k = 1 ∨ k = 2 ∨ k = 3 := by omega
 rcases hk3 with rfl | rfl | rfl | rfl
 ·repeat' (first | refine ao_q rfl (q_int tbOK rfl (by first | omega | (simp [cat3N] <;> omega)) (by first | omega | (simp [cat3N] <;> omega))) rfl rfl ?_ | (refine shX ?_; first | refine ao_q rfl (q_index tbOK rfl rfl rfl rfl rfl rfl (by decide) rfl) rfl rfl ?_ | refine AD.step _ _ _ _ _ rfl (q_index tbOK rfl rfl rfl rfl rfl rfl (by decide) rfl) rfl rfl ?_) | refine sK ?_ | refine sC (fun _ => ?_) (fun _ => ?_) | fail)
  exact ⟨1, by omega, tD, by repeat (first | exact sub_nil | refine sub_cons rfl ?_ | (refine sub_i rfl ?_ ?_; · (first | (simp [cat3N]; done) | (simp [cat3N]; omega) | omega))), tH⟩
 ·repeat' (first | refine ao_q rfl (q_int tbOK rfl (by first | omega | (simp [cat3N] <;> omega)) (by first | omega | (simp [cat3N] <;> omega))) rfl rfl ?_ | (refine shX ?_; first | refine ao_q rfl (q_index tbOK rfl rfl rfl rfl rfl rfl (by decide) rfl) rfl rfl ?_ | refine AD.step _ _ _ _ _ rfl (q_index tbOK rfl rfl rfl rfl rfl rfl (by decide) rfl) rfl rfl ?_) | refine sK ?_ | refine sC (fun _ => ?_) (fun _ => ?_) | fail)
  exact ⟨2, by omega, tD, by repeat (first | exact sub_nil | refine sub_cons rfl ?_ | (refine sub_i rfl ?_ ?_; · (first | (simp [cat3N]; done) | (simp [cat3N]; omega) | omega))), tH⟩
 ·repeat' (first | refine ao_q rfl (q_int tbOK rfl (by first | omega | (simp [cat3N] <;> omega)) (by first | omega | (simp [cat3N] <;> omega))) rfl rfl ?_ | (refine shX ?_; first | refine ao_q rfl (q_index tbOK rfl rfl rfl rfl rfl rfl (by decide) rfl) rfl rfl ?_ | refine AD.step _ _ _ _ _ rfl (q_index tbOK rfl rfl rfl rfl rfl rfl (by decide) rfl) rfl rfl ?_) | refine sK ?_ | refine sC (fun _ => ?_) (fun _ => ?_) | fail)
  exact ⟨3, by omega, tD, by repeat (first | exact sub_nil | refine sub_cons rfl ?_ | (refine sub_i rfl ?_ ?_; · (first | (simp [cat3N]; done) | (simp [cat3N]; omega) | omega))), tH⟩
 ·repeat' (first | (refine ao_sh_call ?_; first | refine ao_callR 0 rfl rfl rfl (Grow_call _ (by simp [cat3N]; omega) (by simp [cat3N]; omega)) (by decide) rfl rfl rfl ?_) | refine sK ?_ | refine sC (fun _ => ?_) (fun _ => ?_) | fail)
  refine aw_loop (fun k : Nat => [(6, .own 0), (25, .pv (.slc 1 [tys a, tys b, tys c] true)), (26, .pv (pi 3)), (27, .pv (pi k))]) (fun k => [(0, .row 36 4 ((cat3L a b c k).map tyPV))]) (fun k => k ≤ 3) (fun k => 3 - k) 0 (by omega) (tS) tH ?_
  intro k hk
  have hk3 : k = 0 ∨ k = 1 ∨ k = 2 ∨ k = 3 := by omega
  rcases hk3 with rfl | rfl | rfl | rfl
  ·repeat' (first | refine ao_q rfl (q_int tbOK rfl (by first | omega | (simp [cat3N] <;> omega)) (by first | omega | (simp [cat3N] <;> omega))) rfl rfl ?_ | (refine shX ?_; first | refine ao_q rfl (q_index tbOK rfl rfl rfl rfl rfl rfl (by decide) rfl) rfl rfl ?_ | refine AD.step _ _ _ _ _ rfl (q_index tbOK rfl rfl rfl rfl rfl rfl (by decide) rfl) rfl rfl ?_) | (refine ao_sh_bi ?_; first | refine ao_append tbOK rfl rfl rfl rfl rfl rfl rfl (by show _ * 32 ≤ _; simp [cat3L]; omega) (by simp [cat3L]; omega) rfl rfl ?_) | refine sK ?_ | refine sC (fun _ => ?_) (fun _ => ?_) | fail)
   exact ⟨1, by omega, tD, by repeat (first | exact sub_nil | refine sub_cons rfl ?_ | (refine sub_i rfl ?_ ?_; · omega)), ⟨hsub_cons rfl hsub_nil, rfl⟩⟩
  ·repeat' (first | refine ao_q rfl (q_int tbOK rfl (by first | omega | (simp [cat3N] <;> omega)) (by first | omega | (simp [cat3N] <;> omega))) rfl rfl ?_ | (refine shX ?_; first | refine ao_q rfl (q_index tbOK rfl rfl rfl rfl rfl rfl (by decide) rfl) rfl rfl ?_ | refine AD.step _ _ _ _ _ rfl (q_index tbOK rfl rfl rfl rfl rfl rfl (by decide) rfl) rfl rfl ?_) | (refine ao_sh_bi ?_; first | refine ao_append tbOK rfl rfl rfl rfl rfl rfl rfl (by show _ * 32 ≤ _; simp [cat3L]; omega) (by simp [cat3L]; omega) rfl rfl ?_) | refine sK ?_ | refine sC (fun _ => ?_) (fun _ => ?_) | fail)
   exact ⟨2, by omega, tD, by repeat (first | exact sub_nil | refine sub_cons rfl ?_ | (refine sub_i rfl ?_ ?_; · omega)), ⟨hsub_cons (by show some (HE.row 36 4 (_ ++ _)) = _; simp [cat3L]) hsub_nil, rfl⟩⟩
  ·repeat' (first | refine ao_q rfl (q_int tbOK rfl (by first | omega | (simp [cat3N] <;> omega)) (by first | omega | (simp [cat3N] <;> omega))) rfl rfl ?_ | (refine shX ?_; first | refine ao_q rfl (q_index tbOK rfl rfl rfl rfl rfl rfl (by decide) rfl) rfl rfl ?_ | refine AD.step _ _ _ _ _ rfl (q_index tbOK rfl rfl rfl rfl rfl rfl (by decide) rfl) rfl rfl ?_) | (refine ao_sh_bi ?_; first | refine ao_append tbOK rfl rfl rfl rfl rfl rfl rfl (by show _ * 32 ≤ _; simp [cat3L]; omega) (by simp [cat3L]; omega) rfl rfl ?_) | refine sK ?_ | refine sC (fun _ => ?_) (fun _ => ?_) | fail)
   exact ⟨3, by omega, tD, by repeat (first | exact sub_nil | refine sub_cons rfl ?_ | (refine sub_i rfl ?_ ?_; · omega)), ⟨hsub_cons (by show some (HE.row 36 4 (_ ++ _)) = _; simp [cat3L]) hsub_nil, rfl⟩⟩
  ·repeat' (first | refine sK ?_ | refine sC (fun _ => ?_) (fun _ => ?_) | fail)
   exact ⟨.inr rfl, 0, rfl, rfl⟩
theorem take_filt {α β : Type} {l : List α} {p : α → Bool} {f : α → β} {k : Nat} (h : k < l.length) : (((l.take (k + 1)).filter p).map f) = ((l.take k).filter p).map f ++ (if p l[k] then [f l[k]] else []) := by
 rw [List.take_succ_eq_append_getElem h, List.filter_append, List.map_append]
 cases hp : p l[k] <;> simp [hp]
end Go.Cg
namespace Go.Cg
open Go.Proofs
theorem ty_owner {g : Img} {m : Me} (h : MeOk g m) : (g.types.map tdPV)[m.owner.toNat]? = some (tdPV (g.types.getD m.owner.toNat default)) := by
 rw [getD_get h.o1]; exact map_get' h.o1
theorem ty_flags {g : Img} (hf : formedG g = true) {t : Int} (h0 : 0 ≤ t) (h1 : t.toNat < g.types.length) : 0 ≤ (g.types.getD t.toNat default).flags ∧ (g.types.getD t.toNat default).flags ≤ 31 := by
 have : typeAt g t = some (g.types.getD t.toNat default) := by
  rw [typeAt, if_pos h0, getD_get h1]; exact List.getElem?_eq_getElem h1
 have := formed_at hf this
 exact ⟨this.1, this.2.1⟩
set_option maxHeartbeats 4000000 in
theorem ownedS_call (g : Img) (hf : formedG g = true) (m : Me) (h : MeOk g m) : ACall Tryz.prog 134 [imgPV g, mePV m] (pb (ownP13 g m)) := by
 obtain ⟨h1, h2, h4, h8, h16⟩ := hasM h
 have ck := KindPG_call g hf m.owner
 have hk := h.kind
 have hgm : g.methods.length ≤ 64 := (formedG_bounds hf).2.2.1
 have cm := MethodsP_call g m.owner (by omega)
 have hml := methodsOf_len g m.owner
 have hto := ty_owner h
 have hfl := ty_flags hf h.o0 h.o1
 have hfe : andB (g.types.getD m.owner.toNat default).flags 4 = bitF (g.types.getD m.owner.toNat default).flags 4 := (flags_eq hfl.1 hfl.2).2.2.1
 have hms : (((((methodsOf g m.owner).map pi).length : Nat) : Int) == 1) = ((methodsOf g m.owner).length == 1) := by
  rw [List.length_map, Bool.eq_iff_iff]; simp only [beq_iff_eq]; omega
 refine acall_intro tbOK Tryz.func134 rfl (by kernel_rfl) Tryz.ntmps134 (by simp) _ rfl (fun hw gB hgB => ?_)
 rw [ownP13]
 generalize bitF m.flags 4 = b4 at h4 ⊢
 rw [← hfe, andB]
 rcases hk with hk | hk | hk | hk <;> rw [hk] at ck ⊢ <;> clear hk
 all_goals repeat' (first | (refine shC ?_; first | refine qC ck ?_ | refine qC h4 ?_ | refine qC cm ?_) | (refine shX ?_; first | refine ao_q rfl (q_index tbOK rfl rfl rfl rfl rfl rfl h.o0 hto) rfl rfl ?_ | refine AD.step _ _ _ _ _ rfl (q_index tbOK rfl rfl rfl rfl rfl rfl h.o0 hto) rfl rfl ?_) | refine sA ?_ | refine sC (fun _ => ?_) (fun _ => ?_) | fail)
 all_goals (refine retq rfl ?_; first | (simp_all [retPV, ownPB]; done) | (simp_all [retPV, ownPB]; omega))
def noNormal (QQ : QC) : QC
 | .normal, _, _ => False
 | e, env, H => QQ e env H
theorem aw_cutR {P : Program} {n : Nat} {g : Base} {x y : Code} {env : Env} {H : HEnv} {QQ : QC} (h1 : AW P n g x env H (noNormal QQ)) : AW P n g (.seq x y) env H QQ :=
 aw_seq (h1.mono fun e env' H' hq => by
  cases e <;> first
   | exact hq.elim
   | exact hq)
set_option maxHeartbeats 4000000 in
theorem flaggedR13_call (g : Img) (hf : formedG g = true) (m : Me) (h : MeOk g m) : ACall Tryz.prog 140 [imgPV g, mePV m] (pb (flagR g m)) := by
 have h1 := Bit1_call m
 have h2 := Bit2_call m
 have h4 := Bit4_call m
 have h8 := Bit8_call m
 have h16 := Bit16_call m
 have ck := KindR_call g m.owner
 have hgm : g.methods.length ≤ 64 := (formedG_bounds hf).2.2.1
 obtain ⟨s1, s2, _, s4, s5, s6⟩ := h.small
 have cm := MethodsR_call g m.owner (by omega)
 have hml := methodsOf_len g m.owner
 have hto := ty_owner h
 have hms : (((((methodsOf g m.owner).map pi).length : Nat) : Int) == 1) = ((methodsOf g m.owner).length == 1) := by
  rw [List.length_map, Bool.eq_iff_iff]; simp only [beq_iff_eq]; omega
 have he : emptyM m = (!(decide (0 < (((m.code.map insPV).length : Nat) : Int)) || decide (0 < (((m.locals.map tyPV).length : Nat) : Int)) || decide (0 < (((m.clauses.map clPV).length : Nat) : Int)) || decide (0 < m.max))) := by
  rw [emptyM, Bool.eq_iff_iff]
  simp only [List.length_map, Bool.and_eq_true, beq_iff_eq, Bool.not_eq_true', Bool.or_eq_false_iff, decide_eq_false_iff_not]
  omega
 have hc : decide (0 < m.code.length) = !((((m.code.map insPV).length : Nat) : Int) == 0) := by
  rw [List.length_map, Bool.eq_iff_iff]
  simp only [decide_eq_true_eq, Bool.not_eq_true', beq_eq_false_iff_ne]
  omega
 refine acall_intro tbOK Tryz.func140 rfl (by kernel_rfl) Tryz.ntmps140 (by simp) _ rfl (fun hw gB hgB => ?_)
 rw [flagR]
 generalize bitF m.flags 1 = b1 at h1 ⊢
 generalize bitF m.flags 2 = b2 at h2 ⊢
 generalize bitF m.flags 4 = b4 at h4 ⊢
 generalize bitF m.flags 8 = b8 at h8 ⊢
 generalize bitF m.flags 16 = b16 at h16 ⊢
 generalize hab : bitF (g.types.getD m.owner.toNat default).flags 4 = ab
 rw [bitF] at hab
 generalize emptyM m = em at he ⊢
 generalize decide (0 < m.code.length) = nc at hc ⊢
 generalize hm1 : ((methodsOf g m.owner).length == 1) = m1 at hms ⊢
 generalize kindG g m.owner = k at ck ⊢
 refine aw_cut [(2, .pv (.ptr (imgPV g) 0)), (3, .pv (.ptr (mePV m) 0))] [] ?_ ?_
 ·repeat' (first | refine sA ?_ | refine sC (fun _ => ?_) (fun _ => ?_) | fail)
  exact ⟨tS, tH⟩
 refine aw_cut [(2, .pv (.ptr (imgPV g) 0)), (3, .pv (.ptr (mePV m) 0)), (5, .pv (pi k))] [] ?_ ?_
 ·repeat' (first | (refine shC ?_; first | refine qC ck ?_) | refine sA ?_ | refine sC (fun _ => ?_) (fun _ => ?_) | fail)
  exact ⟨tS, tH⟩
 cases hA : (b16 && (k != 0 || (m.ret.kind != 1) || (m.flags != 16)))
 ·refine aw_cut [(2, .pv (.ptr (imgPV g) 0)), (3, .pv (.ptr (mePV m) 0)), (5, .pv (pi k))] [] ?_ ?_
  ·clear he hc hms hm1
   repeat' (first | (refine shC ?_; first | refine qC h16 ?_) | refine sA ?_ | refine sC (fun _ => ?_) (fun _ => ?_) | fail)
   all_goals first | exact ⟨tS, tH⟩ | (exfalso; simp_all; done)
  cases hB : (b2 && (b1 || k == 1))
  ·refine aw_cut [(2, .pv (.ptr (imgPV g) 0)), (3, .pv (.ptr (mePV m) 0)), (5, .pv (pi k))] [] ?_ ?_
   ·clear he hc hms hm1
    repeat' (first | (refine shC ?_; first | refine qC h1 ?_ | refine qC h2 ?_) | refine sA ?_ | refine sC (fun _ => ?_) (fun _ => ?_) | fail)
    all_goals first | exact ⟨tS, tH⟩ | (exfalso; simp_all; done)
   cases hC : (!b2 && (b4 || b8))
   ·refine aw_cut [(2, .pv (.ptr (imgPV g) 0)), (3, .pv (.ptr (mePV m) 0)), (5, .pv (pi k))] [] ?_ ?_
    ·clear he hc hms hm1
     repeat' (first | (refine shC ?_; first | refine qC h2 ?_ | refine qC h4 ?_ | refine qC h8 ?_) | refine sA ?_ | refine sC (fun _ => ?_) (fun _ => ?_) | fail)
     all_goals first | exact ⟨tS, tH⟩ | (exfalso; simp_all; done)
    cases hD : (b4 && !em)
    ·refine aw_cut [(2, .pv (.ptr (imgPV g) 0)), (3, .pv (.ptr (mePV m) 0)), (5, .pv (pi k))] [] ?_ ?_
     ·clear hc hms hm1 hA hB hC
      repeat' (first | (refine shC ?_; first | refine qC h4 ?_) | refine sA ?_ | refine sC (fun _ => ?_) (fun _ => ?_) | fail)
      all_goals first | exact ⟨tS, tH⟩ | (exfalso; simp_all; done)
     cases hE : (!b4 && (!nc || decide (2 ≤ k)))
     ·refine aw_cut [(2, .pv (.ptr (imgPV g) 0)), (3, .pv (.ptr (mePV m) 0)), (5, .pv (pi k))] [] ?_ ?_
      ·clear he hms hm1 hA hB hC hD
       repeat' (first | (refine shC ?_; first | refine qC h4 ?_) | refine sA ?_ | refine sC (fun _ => ?_) (fun _ => ?_) | fail)
       all_goals first | exact ⟨tS, tH⟩ | (exfalso; simp_all; done)
      cases hG : (k == 3 && !m1)
      ·refine aw_cut [(2, .pv (.ptr (imgPV g) 0)), (3, .pv (.ptr (mePV m) 0)), (5, .pv (pi k))] [] ?_ ?_
       ·clear he hc hA hB hC hD hE hm1
        repeat' (first | (refine shC ?_; first | refine qC cm ?_) | refine sA ?_ | refine sC (fun _ => ?_) (fun _ => ?_) | fail)
        all_goals first | exact ⟨tS, tH⟩ | (exfalso; simp_all; done)
       rw [flagRB, hA, hB, hC, hD, hE, hG]
       clear hA hB hC hD hE hG he hc hms hm1
       repeat' (first | (refine shC ?_; first | refine qC h4 ?_) | (refine shX ?_; first | refine ao_q rfl (q_index tbOK rfl rfl rfl rfl rfl rfl h.o0 hto) rfl rfl ?_ | refine AD.step _ _ _ _ _ rfl (q_index tbOK rfl rfl rfl rfl rfl rfl h.o0 hto) rfl rfl ?_) | refine sA ?_ | refine sC (fun _ => ?_) (fun _ => ?_) | fail)
       all_goals (refine retq rfl ?_; first | (simp_all [retPV]; done) | (simp_all [retPV]; intros; omega))
      ·have hv : flagRB k b1 b2 b4 b8 b16 (m.ret.kind != 1) (m.flags != 16) em nc m1 ab = false := by rw [flagRB, hG]; simp
       rw [hv]
       refine aw_cutR ?_
       clear he hc hA hB hC hD hE hm1 hv
       repeat' (first | (refine shC ?_; first | refine qC cm ?_) | refine sA ?_ | refine sC (fun _ => ?_) (fun _ => ?_) | fail)
       all_goals first | exact retq rfl rfl | (exfalso; simp_all; done)
     ·have hv : flagRB k b1 b2 b4 b8 b16 (m.ret.kind != 1) (m.flags != 16) em nc m1 ab = false := by rw [flagRB, hE]; simp
      rw [hv]
      refine aw_cutR ?_
      clear he hms hm1 hA hB hC hD hv
      repeat' (first | (refine shC ?_; first | refine qC h4 ?_) | refine sA ?_ | refine sC (fun _ => ?_) (fun _ => ?_) | fail)
      all_goals first | exact retq rfl rfl | (exfalso; simp_all; done)
    ·have hv : flagRB k b1 b2 b4 b8 b16 (m.ret.kind != 1) (m.flags != 16) em nc m1 ab = false := by rw [flagRB, hD]; simp
     rw [hv]
     refine aw_cutR ?_
     clear hc hms hm1 hA hB hC hv
     repeat' (first | (refine shC ?_; first | refine qC h4 ?_) | refine sA ?_ | refine sC (fun _ => ?_) (fun _ => ?_) | fail)
     all_goals first | exact retq rfl rfl | (exfalso; simp_all; done)
   ·have hv : flagRB k b1 b2 b4 b8 b16 (m.ret.kind != 1) (m.flags != 16) em nc m1 ab = false := by rw [flagRB, hC]; simp
    rw [hv]
    refine aw_cutR ?_
    clear he hc hms hm1 hA hB hv
    repeat' (first | (refine shC ?_; first | refine qC h2 ?_ | refine qC h4 ?_ | refine qC h8 ?_) | refine sA ?_ | refine sC (fun _ => ?_) (fun _ => ?_) | fail)
    all_goals first | exact retq rfl rfl | (exfalso; simp_all; done)
  ·have hv : flagRB k b1 b2 b4 b8 b16 (m.ret.kind != 1) (m.flags != 16) em nc m1 ab = false := by rw [flagRB, hB]; simp
   rw [hv]
   refine aw_cutR ?_
   clear he hc hms hm1 hA hv
   repeat' (first | (refine shC ?_; first | refine qC h1 ?_ | refine qC h2 ?_) | refine sA ?_ | refine sC (fun _ => ?_) (fun _ => ?_) | fail)
   all_goals first | exact retq rfl rfl | (exfalso; simp_all; done)
 ·have hv : flagRB k b1 b2 b4 b8 b16 (m.ret.kind != 1) (m.flags != 16) em nc m1 ab = false := by rw [flagRB, hA]; simp
  rw [hv]
  refine aw_cutR ?_
  clear he hc hms hm1 hv
  repeat' (first | (refine shC ?_; first | refine qC h16 ?_) | refine sA ?_ | refine sC (fun _ => ?_) (fun _ => ?_) | fail)
  all_goals first | exact retq rfl rfl | (exfalso; simp_all; done)
end Go.Cg
namespace Go.Cg
open Go.Proofs
theorem formed_op {g : Img} {m : Me} (h : MeOk g m) {x : Ins} (hx : x ∈ m.code) : 1 ≤ x.op ∧ x.op ≤ 75 := by
 have := h.formed
 simp only [formedM, formedC, Bool.and_eq_true, List.all_eq_true, codeOk] at this
 have := (this.2.1.1.2 x hx).1
 exact codeOk_op (by simpa using this)
def isT (x : Ins) : Bool := operand06 x.op == 8
def isC (c : Cl) : Bool := c.kind == 1
def head3 (m : Me) : List Ty := m.params ++ m.locals ++ [m.ret]
theorem typedL_eq (m : Me) : typedL m = head3 m ++ (m.code.filter isT).map (·.t) ++ (m.clauses.filter isC).map (·.t) := rfl
set_option maxHeartbeats 4000000 in
theorem typedS_call (g : Img) (hf : formedG g = true) (m : Me) (h : MeOk g m) : ACall Tryz.prog 135 [imgPV g, mePV m] (pb (typedR g m)) := by
 obtain ⟨s1, s2, s3, s4, s5, s6⟩ := h.small
 have hc3 := Concat3_call m.params m.locals [m.ret] (by omega) (by omega) (by simp)
 have ht : PTells (.slc 4 [tyPV m.ret] true) (tys [m.ret]) := pt_slc (pcl_cons (ptl_cons (.refl _) (ptl_cons (.refl _) (ptl_cons (.refl _) (ptl_cons (.refl _) ptl_nil)))) pcl_nil)
 have hh : (head3 m).length ≤ 19 := by simp [head3]; omega
 have cu := ContainsFuncTy_call (typedL m) (fun t => !useP g t) 182 [] [.ptr (imgPV g) 0] (fun t _ => typed1_call g hf t)
 rw [← List.not_all_eq_any_not, typed_eq h.formed] at cu
 refine acall_intro tbOK Tryz.func135 rfl (by kernel_rfl) Tryz.ntmps135 (by simp) _ rfl (fun hw gB hgB => ?_)
 repeat' (first | refine ao_tells 18 ht rfl ?_ | (refine ao_sh_call ?_; first | refine ao_callR 5 rfl rfl rfl hc3 (by decide) rfl rfl rfl ?_) | refine sK ?_ | refine sC (fun _ => ?_) (fun _ => ?_) | fail)
 refine aw_loop (fun k : Nat => [(2, .pv (.ptr (imgPV g) 0)), (3, .pv (.ptr (mePV m) 0)), (5, .own 5), (22, .pv (.slc 6 (m.code.map insPV) false)), (23, .pv (pi m.code.length)), (24, .pv (pi k))])
  (fun k => [(5, .row 36 4 ((head3 m ++ ((m.code.take k).filter isT).map (·.t)).map tyPV))]) (fun k => k ≤ m.code.length) (fun k => m.code.length - k) 0 (by omega)
  (by repeat (first | exact sub_nil | refine sub_cons rfl ?_ | (refine sub_i rfl ?_ ?_; · simp))) ⟨hsub_r rfl (by simp [head3]) hsub_nil, rfl⟩ ?_
 rintro k hk
 by_cases hlt : k < m.code.length
 ·have he := map_get (f := insPV) hlt
  obtain ⟨o1, o2⟩ := formed_op h (List.getElem_mem hlt)
  have co := OfP_call m.code[k].op o1 o2
  rw [(ofI_op _ o1 o2).2] at co
  have hsl : ((m.code.take k).filter isT).length ≤ 160 := by
   have := List.length_filter_le isT (m.code.take k)
   rw [List.length_take] at this; omega
  have hn := take_filt (p := isT) (f := (·.t)) hlt
  cases hop : operand06 m.code[k].op == 8
  ·rw [show isT m.code[k] = false from hop, if_neg (by simp), List.append_nil] at hn
   repeat' (first | (refine shC ?_; first | refine qC co ?_) | (refine shX ?_; first | refine qX he ?_) | refine sK ?_ | refine sC (fun _ => ?_) (fun _ => ?_) | fail)
   exact ⟨k + 1, hlt, tD, tS, ⟨hsub_r rfl (by rw [hn]) hsub_nil, rfl⟩⟩
  ·rw [show isT m.code[k] = true from hop, if_pos rfl] at hn
   repeat' (first | (refine shC ?_; first | refine qC co ?_) | (refine shX ?_; first | refine qX he ?_) | (refine ao_sh_bi ?_; first | refine ao_append tbOK rfl rfl rfl rfl rfl rfl rfl (by show _ * 32 ≤ _; simp only [List.length_map, List.length_append, List.length_cons, List.length_nil]; omega) (by simp only [List.length_map, List.length_append, List.length_cons, List.length_nil]; omega) rfl rfl ?_) | refine sK ?_ | refine sC (fun _ => ?_) (fun _ => ?_) | fail)
   exact ⟨k + 1, hlt, tD, tS, ⟨hsub_r rfl (by rw [hn]; simp; rfl) hsub_nil, rfl⟩⟩
 ·have hk2 : k = m.code.length := by omega
  subst hk2
  have hsl : (m.code.filter isT).length ≤ 160 := by
   have := List.length_filter_le isT m.code
   omega
  rw [List.take_length]
  repeat' (first | refine sK ?_ | refine sC (fun _ => ?_) (fun _ => ?_) | fail)
  refine aw_loop (fun k : Nat => [(2, .pv (.ptr (imgPV g) 0)), (5, .own 5), (44, .pv (.slc 10 (m.clauses.map clPV) false)), (45, .pv (pi m.clauses.length)), (46, .pv (pi k))])
   (fun k => [(5, .row 36 4 ((head3 m ++ (m.code.filter isT).map (·.t) ++ ((m.clauses.take k).filter isC).map (·.t)).map tyPV))]) (fun k => k ≤ m.clauses.length) (fun k => m.clauses.length - k) 0 (by omega)
   (by repeat (first | exact sub_nil | refine sub_cons rfl ?_ | (refine sub_i rfl ?_ ?_; · simp))) ⟨hsub_r rfl (by simp) hsub_nil, rfl⟩ ?_
  clear hk hlt
  rintro k hk
  by_cases hlt : k < m.clauses.length
  ·have he := map_get (f := clPV) hlt
   have hsl2 : ((m.clauses.take k).filter isC).length ≤ 6 := by
    have := List.length_filter_le isC (m.clauses.take k)
    rw [List.length_take] at this; omega
   have hn := take_filt (p := isC) (f := (·.t)) hlt
   cases hop : m.clauses[k].kind == 1
   ·rw [show isC m.clauses[k] = false from hop, if_neg (by simp), List.append_nil] at hn
    repeat' (first | (refine shX ?_; first | refine qX he ?_) | refine sK ?_ | refine sC (fun _ => ?_) (fun _ => ?_) | fail)
    exact ⟨k + 1, hlt, tD, tS, ⟨hsub_r rfl (by rw [hn]) hsub_nil, rfl⟩⟩
   ·rw [show isC m.clauses[k] = true from hop, if_pos rfl] at hn
    repeat' (first | (refine shX ?_; first | refine qX he ?_) | (refine ao_sh_bi ?_; first | refine ao_append tbOK rfl rfl rfl rfl rfl rfl rfl (by show _ * 32 ≤ _; simp only [List.length_map, List.length_append, List.length_cons, List.length_nil]; omega) (by simp only [List.length_map, List.length_append, List.length_cons, List.length_nil]; omega) rfl rfl ?_) | refine sK ?_ | refine sC (fun _ => ?_) (fun _ => ?_) | fail)
    exact ⟨k + 1, hlt, tD, tS, ⟨hsub_r rfl (by rw [hn]; simp; rfl) hsub_nil, rfl⟩⟩
  ·have hk2 : k = m.clauses.length := by omega
   subst hk2
   rw [List.take_length, ← typedL_eq]
   repeat' (first | (refine shC ?_; first | refine qC cu ?_) | refine sK ?_ | refine sC (fun _ => ?_) (fun _ => ?_) | fail)
   exact retq rfl (by simp [retPV])
set_option maxHeartbeats 4000000 in
theorem typedR13_call (g : Img) (m : Me) (h : MeOk g m) : ACall Tryz.prog 141 [imgPV g, mePV m] (pb (typedR g m)) := by
 obtain ⟨s1, s2, s3, s4, s5, s6⟩ := h.small
 have cr := UsedR_call g m.ret
 refine acall_intro tbOK Tryz.func141 rfl (by kernel_rfl) Tryz.ntmps141 (by simp) _ rfl (fun hw gB hgB => ?_)
 cases hr : usedR g m.ret
 ·rw [hr] at cr
  repeat' (first | (refine shC ?_; first | refine qC cr ?_) | refine sK ?_ | refine sC (fun _ => ?_) (fun _ => ?_) | fail)
  exact retq rfl (by simp [retPV, typedR, hr])
 ·rw [hr] at cr
  repeat' (first | (refine shC ?_; first | refine qC cr ?_) | refine sK ?_ | refine sC (fun _ => ?_) (fun _ => ?_) | fail)
  refine aw_loop (fun k : Nat => [(2, .pv (.ptr (imgPV g) 0)), (3, .pv (.ptr (mePV m) 0)), (5, .pv (pi k))]) (fun _ => [])
   (fun k => k ≤ m.params.length ∧ typedR g m = ((m.params.drop k).all (usedR g) && m.locals.all (usedR g) && m.code.all (fun x => operand06 x.op != 8 || usedR g x.t) && m.clauses.all (fun c => c.kind != 1 || usedR g c.t))) (fun k => m.params.length - k) 0 ⟨by omega, by simp [typedR, hr]⟩ (tS) tH ?_
  rintro k ⟨hk, hv⟩
  by_cases hlt : k < m.params.length
  ·have he := map_get (f := tyPV) hlt
   have c1 := UsedR_call g m.params[k]
   rw [drop_all hlt] at hv
   cases hu : usedR g m.params[k]
   ·rw [hu] at c1 hv
    repeat' (first | (refine shC ?_; first | refine qC c1 ?_) | (refine shX ?_; first | refine qX he ?_) | refine sK ?_ | refine sC (fun _ => ?_) (fun _ => ?_) | fail)
    exact retq rfl (by rw [hv]; simp [retPV])
   ·rw [hu] at c1 hv
    repeat' (first | (refine shC ?_; first | refine qC c1 ?_) | (refine shX ?_; first | refine qX he ?_) | refine sK ?_ | refine sC (fun _ => ?_) (fun _ => ?_) | fail)
    exact ⟨k + 1, ⟨hlt, by rw [hv]; simp⟩, tD, tS, tH⟩
  ·rw [drop_end (by omega)] at hv
   repeat' (first | refine sK ?_ | refine sC (fun _ => ?_) (fun _ => ?_) | fail)
   refine aw_loop (fun k : Nat => [(2, .pv (.ptr (imgPV g) 0)), (3, .pv (.ptr (mePV m) 0)), (6, .pv (pi k))]) (fun _ => [])
    (fun k => k ≤ m.locals.length ∧ typedR g m = ((m.locals.drop k).all (usedR g) && m.code.all (fun x => operand06 x.op != 8 || usedR g x.t) && m.clauses.all (fun c => c.kind != 1 || usedR g c.t))) (fun k => m.locals.length - k) 0 ⟨by omega, by rw [hv]; simp⟩ (tS) tH ?_
   clear hk hv hlt
   rintro k ⟨hk, hv⟩
   by_cases hlt : k < m.locals.length
   ·have he := map_get (f := tyPV) hlt
    have c1 := UsedR_call g m.locals[k]
    rw [drop_all hlt] at hv
    cases hu : usedR g m.locals[k]
    ·rw [hu] at c1 hv
     repeat' (first | (refine shC ?_; first | refine qC c1 ?_) | (refine shX ?_; first | refine qX he ?_) | refine sK ?_ | refine sC (fun _ => ?_) (fun _ => ?_) | fail)
     exact retq rfl (by rw [hv]; simp [retPV])
    ·rw [hu] at c1 hv
     repeat' (first | (refine shC ?_; first | refine qC c1 ?_) | (refine shX ?_; first | refine qX he ?_) | refine sK ?_ | refine sC (fun _ => ?_) (fun _ => ?_) | fail)
     exact ⟨k + 1, ⟨hlt, by rw [hv]; simp⟩, tD, tS, tH⟩
   ·rw [drop_end (by omega)] at hv
    repeat' (first | refine sK ?_ | refine sC (fun _ => ?_) (fun _ => ?_) | fail)
    refine aw_loop (fun k : Nat => [(2, .pv (.ptr (imgPV g) 0)), (3, .pv (.ptr (mePV m) 0)), (7, .pv (pi k))]) (fun _ => [])
     (fun k => k ≤ m.code.length ∧ typedR g m = ((m.code.drop k).all (fun x => operand06 x.op != 8 || usedR g x.t) && m.clauses.all (fun c => c.kind != 1 || usedR g c.t))) (fun k => m.code.length - k) 0 ⟨by omega, by rw [hv]; simp⟩ (tS) tH ?_
    clear hk hv hlt
    rintro k ⟨hk, hv⟩
    by_cases hlt : k < m.code.length
    ·have he := map_get (f := insPV) hlt
     obtain ⟨o1, o2⟩ := formed_op h (List.getElem_mem hlt)
     have co := Of_call m.code[k].op o1 o2
     have c1 := UsedR_call g m.code[k].t
     rw [drop_all hlt] at hv
     cases hop : operand06 m.code[k].op == 8
     ·rw [show (operand06 m.code[k].op != 8) = true by rw [bne, hop]; rfl] at hv
      repeat' (first | (refine shC ?_; first | refine qC co ?_) | (refine shX ?_; first | refine qX he ?_) | refine sK ?_ | refine sC (fun _ => ?_) (fun _ => ?_) | fail)
      exact ⟨k + 1, ⟨hlt, by rw [hv]; simp⟩, tD, tS, tH⟩
     ·rw [show (operand06 m.code[k].op != 8) = false by rw [bne, hop]; rfl] at hv
      cases hu : usedR g m.code[k].t
      ·rw [hu] at c1 hv
       repeat' (first | (refine shC ?_; first | refine qC co ?_ | refine qC c1 ?_) | (refine shX ?_; first | refine qX he ?_) | refine sK ?_ | refine sC (fun _ => ?_) (fun _ => ?_) | fail)
       exact retq rfl (by rw [hv]; simp [retPV])
      ·rw [hu] at c1 hv
       repeat' (first | (refine shC ?_; first | refine qC co ?_ | refine qC c1 ?_) | (refine shX ?_; first | refine qX he ?_) | refine sK ?_ | refine sC (fun _ => ?_) (fun _ => ?_) | fail)
       exact ⟨k + 1, ⟨hlt, by rw [hv]; simp⟩, tD, tS, tH⟩
    ·rw [drop_end (by omega)] at hv
     repeat' (first | refine sK ?_ | refine sC (fun _ => ?_) (fun _ => ?_) | fail)
     refine aw_loop (fun k : Nat => [(2, .pv (.ptr (imgPV g) 0)), (3, .pv (.ptr (mePV m) 0)), (10, .pv (pi k))]) (fun _ => [])
      (fun k => k ≤ m.clauses.length ∧ typedR g m = (m.clauses.drop k).all (fun c => c.kind != 1 || usedR g c.t)) (fun k => m.clauses.length - k) 0 ⟨by omega, by rw [hv]; simp⟩ (tS) tH ?_
     clear hk hv hlt
     rintro k ⟨hk, hv⟩
     by_cases hlt : k < m.clauses.length
     ·have he := map_get (f := clPV) hlt
      have c1 := UsedR_call g m.clauses[k].t
      rw [drop_all hlt] at hv
      cases hop : m.clauses[k].kind == 1
      ·rw [show (m.clauses[k].kind != 1) = true by rw [bne, hop]; rfl] at hv
       repeat' (first | (refine shX ?_; first | refine qX he ?_) | refine sK ?_ | refine sC (fun _ => ?_) (fun _ => ?_) | fail)
       exact ⟨k + 1, ⟨hlt, by rw [hv]; simp⟩, tD, tS, tH⟩
      ·rw [show (m.clauses[k].kind != 1) = false by rw [bne, hop]; rfl] at hv
       cases hu : usedR g m.clauses[k].t
       ·rw [hu] at c1 hv
        repeat' (first | (refine shC ?_; first | refine qC c1 ?_) | (refine shX ?_; first | refine qX he ?_) | refine sK ?_ | refine sC (fun _ => ?_) (fun _ => ?_) | fail)
        exact retq rfl (by rw [hv]; simp [retPV])
       ·rw [hu] at c1 hv
        repeat' (first | (refine shC ?_; first | refine qC c1 ?_) | (refine shX ?_; first | refine qX he ?_) | refine sK ?_ | refine sC (fun _ => ?_) (fun _ => ?_) | fail)
        exact ⟨k + 1, ⟨hlt, by rw [hv]; simp⟩, tD, tS, tH⟩
     ·rw [drop_end (by omega)] at hv
      repeat' (first | refine sK ?_ | refine sC (fun _ => ?_) (fun _ => ?_) | fail)
      exact retq rfl (by rw [hv]; rfl)
end Go.Cg
namespace Go.Cg
open Go.Proofs
def openT (g : Img) (m : Int) : Bool := decide (m < 0) || bitF (mAt g m).flags 4
def wholeF (g : Img) (t : Int) (what : Int → Int) (fs : List Int) : Bool := !(tbl g t).any (openT g) && !fs.any fun f => (methodsOf g f).any fun m => openT g (what m)
def okI (g : Img) (m : Int) : Prop := m < 0 ∨ mOk g m
set_option maxHeartbeats 1000000 in
theorem whole1_call (g : Img) (hF : Fine g) (m : Int) (hm : okI g m) : ACall Tryz.prog 184 ([] ++ [pi m] ++ [.ptr (imgPV g) 0]) (pb (openT g m)) := by
 show ACall Tryz.prog 184 [pi m, .ptr (imgPV g) 0] (pb (openT g m))
 refine acall_intro tbOK Tryz.func184 rfl (by kernel_rfl) Tryz.ntmps184 (by simp) _ rfl (fun hw gB hgB => ?_)
 by_cases h0 : m < 0
 ·repeat' (first | refine sK ?_ | refine sC (fun _ => ?_) (fun _ => ?_) | fail)
  exact retq rfl (by rw [openT, decide_eq_true h0]; rfl)
 ·have hm2 : mOk g m := hm.resolve_left h0
  have hem := mAt_get hm2
  have h := mOk_flags hF.formed hm2
  have c := has_call (mAt g m) 4
  rw [(flags_eq h.1 h.2).2.2.1] at c
  have hd : decide (m < 0) = false := decide_eq_false h0
  repeat' (first | (refine shC ?_; first | refine qC c ?_) | (refine shX ?_; first | refine ao_q rfl (q_index tbOK rfl rfl rfl rfl rfl rfl hm2.1 hem) rfl rfl ?_ | refine AD.step _ _ _ _ _ rfl (q_index tbOK rfl rfl rfl rfl rfl rfl hm2.1 hem) rfl rfl ?_) | refine sK ?_ | refine sC (fun _ => ?_) (fun _ => ?_) | fail)
  exact retq rfl (by rw [openT, hd]; rfl)
set_option maxHeartbeats 1000000 in
theorem openR_call (g : Img) (m : Int) (hm : okI g m) : ACall Tryz.prog 191 [imgPV g, pi m] (pb (openT g m)) := by
 refine acall_intro tbOK Tryz.func191 rfl (by kernel_rfl) Tryz.ntmps191 (by simp) _ rfl (fun hw gB hgB => ?_)
 by_cases h0 : m < 0
 ·repeat' (first | refine sK ?_ | refine sC (fun _ => ?_) (fun _ => ?_) | fail)
  exact retq rfl (by rw [openT, decide_eq_true h0]; rfl)
 ·have hm2 : mOk g m := hm.resolve_left h0
  have hem := mAt_get hm2
  have hd : decide (m < 0) = false := decide_eq_false h0
  repeat' (first | (refine shC ?_; first | refine qC (Bit4_call _) ?_) | (refine shX ?_; first | refine ao_q rfl (q_index tbOK rfl rfl rfl rfl rfl rfl hm2.1 hem) rfl rfl ?_ | refine AD.step _ _ _ _ _ rfl (q_index tbOK rfl rfl rfl rfl rfl rfl hm2.1 hem) rfl rfl ?_) | refine sK ?_ | refine sC (fun _ => ?_) (fun _ => ?_) | fail)
  exact retq rfl (by rw [openT, hd]; rfl)
theorem done0_ok {g : Img} (hW : Wl g) {t m : Int} (hm : mOk g m) (hb : kindG g (ownM g m) = 0 → ownM g m ∈ up g t) : mOk g (done0 g t m) := by
 rw [done0]
 split
 ·exact hm
 ·rename_i h
  have := slot_in hW hb h
  rw [getD_get this]
  exact tbl_mem (List.getElem_mem this)
theorem faceT_ok {g : Img} (hW : Wl g) {t m : Int} (hk : kindG g t = 0) : okI g (faceT g t m) := by
 rw [faceT]
 cases h : faceK g t m with
 | none => exact .inl (by show (-1 : Int) < 0; omega)
 | some k =>
  have := List.mem_of_find?_eq_some h
  obtain ⟨u, hu, hku⟩ := List.mem_flatMap.1 this
  obtain ⟨q1, q2, q3⟩ := up0 hW hk hu hku
  exact .inr (done0_ok hW q1 q3)
theorem doneT_ok {g : Img} (hW : Wl g) {t m : Int} (hm : mOk g m) (hk : kindG g t = 0) (hb : kindG g (ownM g m) = 0 → ownM g m ∈ up g t) : okI g (doneT g t m) := by
 rw [doneT]
 split
 ·exact faceT_ok hW hk
 ·exact .inr (done0_ok hW hm hb)
theorem facesP_le {g : Img} (hF : Fm g) (t : Int) : (facesP g t).length ≤ g.types.length := by
 have := (reachT hF t).2.len
 rw [facesP, sortL]
 simpa using this
set_option maxHeartbeats 1000000 in
set_option maxHeartbeats 2000000 in
theorem wholeS_call (g : Img) (hF : Fine g) (t : Int) (hk : kindG g t = 0) : ACall Tryz.prog 136 [imgPV g, pi t] (pb (wholeF g t (faceT g t) (facesP g t))) := by
 have hW := well_wl hF.well
 obtain ⟨hgt, _, hgm, _⟩ := formedG_bounds hF.formed
 have c1 := ofS_call g hF t
 have c2 := ContainsFuncI_call (tbl g t) (openT g) 184 [] [.ptr (imgPV g) 0] (fun x hx => whole1_call g hF x (.inr (tbl_mem hx)))
 have c3 := FacesP_call g t (fm_of hF.formed)
 have hfpl := facesP_le (fm_of hF.formed) t
 refine acall_intro tbOK Tryz.func136 rfl (by kernel_rfl) Tryz.ntmps136 (by simp) _ rfl (fun hw gB hgB => ?_)
 rw [wholeF]
 cases ho : (tbl g t).any (openT g)
 ·rw [ho] at c2
  repeat' (first | (refine shC ?_; first | refine qC c1 ?_ | refine qC c2 ?_ | refine qC c3 ?_) | refine sK ?_ | refine sC (fun _ => ?_) (fun _ => ?_) | fail)
  refine aw_loop (fun i : Nat => [(1, .pv (pi t)), (2, .pv (.ptr (imgPV g) 0)), (5, .pv (.fn (.func 184) [] [.ptr (imgPV g) 0])), (18, .pv (ints (facesP g t))), (19, .pv (pi (facesP g t).length)), (20, .pv (pi i))]) (fun _ => [])
   (fun i => i ≤ (facesP g t).length ∧ ((facesP g t).any fun f => (methodsOf g f).any fun m => openT g (faceT g t m)) = ((facesP g t).drop i).any fun f => (methodsOf g f).any fun m => openT g (faceT g t m)) (fun i => (facesP g t).length - i) 0 ⟨by omega, rfl⟩
   (by repeat (first | exact sub_nil | refine sub_cons rfl ?_ | (refine sub_i rfl ?_ ?_; · simp))) tH ?_
  rintro i ⟨hi, hr⟩
  by_cases hlt : i < (facesP g t).length
  ·obtain ⟨f, hf⟩ : ∃ f, f = (facesP g t)[i] := ⟨_, rfl⟩
   have hef : ((facesP g t).map pi)[i]? = some (pi f) := by rw [hf]; exact map_get (f := pi) hlt
   have cm := MethodsP_call g f (by omega)
   have hml := methodsOf_len g f
   rw [drop_any hlt, ← hf] at hr
   repeat' (first | (refine shC ?_; first | refine qC cm ?_) | (refine shX ?_; first | refine qX hef ?_) | refine sK ?_ | refine sC (fun _ => ?_) (fun _ => ?_) | fail)
   refine aw_loop (fun j : Nat => [(1, .pv (pi t)), (2, .pv (.ptr (imgPV g) 0)), (5, .pv (.fn (.func 184) [] [.ptr (imgPV g) 0])), (18, .pv (ints (facesP g t))), (19, .pv (pi (facesP g t).length)), (20, .pv (pi i)), (26, .pv (ints (methodsOf g f))), (27, .pv (pi (methodsOf g f).length)), (28, .pv (pi j))]) (fun _ => [])
    (fun j => j ≤ (methodsOf g f).length ∧ ((facesP g t).any fun f => (methodsOf g f).any fun m => openT g (faceT g t m)) = ((((methodsOf g f).drop j).any fun m => openT g (faceT g t m)) || ((facesP g t).drop (i + 1)).any fun f => (methodsOf g f).any fun m => openT g (faceT g t m))) (fun j => (methodsOf g f).length - j) 0 ⟨by omega, hr⟩
    (by repeat (first | exact sub_nil | refine sub_cons rfl ?_ | (refine sub_i rfl ?_ ?_; · simp))) tH ?_
   clear hr
   rintro j ⟨hj, hr⟩
   by_cases hjl : j < (methodsOf g f).length
   ·obtain ⟨m, hm⟩ : ∃ m, m = (methodsOf g f)[j] := ⟨_, rfl⟩
    have hem : ((methodsOf g f).map pi)[j]? = some (pi m) := by rw [hm]; exact map_get (f := pi) hjl
    have hmk : mOk g m := by rw [hm]; exact methodsOf_mem (List.getElem_mem hjl)
    have cf := face_call g hF t m hmk hk
    have cv := whole1_call g hF (faceT g t m) (faceT_ok hW hk)
    rw [drop_any hjl, ← hm] at hr
    cases hop : openT g (faceT g t m)
    ·rw [hop] at cv hr
     repeat' (first | (refine shC ?_; first | refine qC cf ?_ | refine qV (cv) ?_) | (refine shX ?_; first | refine qX hem ?_) | refine sK ?_ | refine sC (fun _ => ?_) (fun _ => ?_) | fail)
     exact ⟨j + 1, ⟨hjl, hr⟩, tD, tS, tH⟩
    ·rw [hop] at cv hr
     repeat' (first | (refine shC ?_; first | refine qC cf ?_ | refine qV (cv) ?_) | (refine shX ?_; first | refine qX hem ?_) | refine sK ?_ | refine sC (fun _ => ?_) (fun _ => ?_) | fail)
     exact retq rfl (by rw [hr]; rfl)
   ·rw [drop_end (by omega)] at hr
    repeat' (first | refine sK ?_ | refine sC (fun _ => ?_) (fun _ => ?_) | fail)
    exact ⟨i + 1, ⟨hlt, hr⟩, tD, tS, tH⟩
  ·rw [drop_end (by omega)] at hr
   repeat' (first | refine sK ?_ | refine sC (fun _ => ?_) (fun _ => ?_) | fail)
   exact retq rfl (by rw [hr]; rfl)
 ·rw [ho] at c2
  repeat' (first | (refine shC ?_; first | refine qC c1 ?_ | refine qC c2 ?_) | refine sK ?_ | refine sC (fun _ => ?_) (fun _ => ?_) | fail)
  exact retq rfl rfl
set_option maxHeartbeats 2000000 in
theorem wholeR13_call (g : Img) (hF : Fine g) (t : Int) (hk : kindG g t = 0) : ACall Tryz.prog 142 [imgPV g, pi t] (pb (wholeF g t (doneT g t) (facesR g t))) := by
 have hW := well_wl hF.well
 have hFm := fm_of hF.formed
 obtain ⟨hgt, _, hgm, hgf⟩ := formedG_bounds hF.formed
 have c1 := Table_call g hF _ t (Nat.le_refl _)
 have c3 := FacesR_call g t (by omega) (fun td h => by have := (formedT_facts (hgf td h)).2.2.2.2.1; omega)
 refine acall_intro tbOK Tryz.func142 rfl (by kernel_rfl) Tryz.ntmps142 (by simp) _ rfl (fun hw gB hgB => ?_)
 rw [wholeF]
 obtain ⟨N, hN⟩ : ∃ N, N = (facesR g t).any fun f => (methodsOf g f).any fun m => openT g (doneT g t m) := ⟨_, rfl⟩
 rw [← hN]
 repeat' (first | (refine shC ?_; first | refine qC c1 ?_) | refine sK ?_ | refine sC (fun _ => ?_) (fun _ => ?_) | fail)
 refine aw_loop (fun i : Nat => [(1, .pv (pi t)), (2, .pv (.ptr (imgPV g) 0)), (5, .pv (ints (tbl g t))), (6, .pv (pi i))]) (fun _ => []) (fun i => i ≤ (tbl g t).length ∧ (tbl g t).any (openT g) = ((tbl g t).drop i).any (openT g)) (fun i => (tbl g t).length - i) 0 ⟨by omega, rfl⟩ (tS) tH ?_
 have htl := tbl_len hF t
 rintro i ⟨hi, hr⟩
 by_cases hlt : i < (tbl g t).length
 ·have he : ((tbl g t).map pi)[i]? = some (pi (tbl g t)[i]) := map_get (f := pi) hlt
  have co := openR_call g (tbl g t)[i] (.inr (tbl_mem (List.getElem_mem hlt)))
  rw [drop_any hlt] at hr
  cases ho : openT g (tbl g t)[i]
  ·rw [ho] at co hr
   repeat' (first | (refine shC ?_; first | refine qC co ?_) | (refine shX ?_; first | refine qX he ?_) | refine sK ?_ | refine sC (fun _ => ?_) (fun _ => ?_) | fail)
   exact ⟨i + 1, ⟨hlt, hr⟩, tD, tS, tH⟩
  ·rw [ho] at co hr
   repeat' (first | (refine shC ?_; first | refine qC co ?_) | (refine shX ?_; first | refine qX he ?_) | refine sK ?_ | refine sC (fun _ => ?_) (fun _ => ?_) | fail)
   exact retq rfl (by rw [hr]; rfl)
 ·rw [drop_end (by omega)] at hr
  rw [hr]
  clear hr
  repeat' (first | (refine shC ?_; first | refine qC c3 ?_) | refine sK ?_ | refine sC (fun _ => ?_) (fun _ => ?_) | fail)
  refine aw_loop (fun i : Nat => [(1, .pv (pi t)), (2, .pv (.ptr (imgPV g) 0)), (7, .pv (ints (facesR g t))), (8, .pv (pi i))]) (fun _ => [])
   (fun i => i ≤ (facesR g t).length ∧ N = ((facesR g t).drop i).any fun f => (methodsOf g f).any fun m => openT g (doneT g t m)) (fun i => (facesR g t).length - i) 0 ⟨by omega, hN⟩ (tS) tH ?_
  have hfl : (facesR g t).length ≤ 1000 := by
   have : (facesR g t).length ≤ (nums g.types.length).length := List.length_filter_le _ _
   simp [nums] at this; omega
  rintro i ⟨hi, hr⟩
  by_cases hlt : i < (facesR g t).length
  ·obtain ⟨f, hf⟩ : ∃ f, f = (facesR g t)[i] := ⟨_, rfl⟩
   have hfk : kindG g f = 2 := hW.rf_kind ((mem_facesR hFm).1 (by rw [hf]; exact List.getElem_mem hlt))
   have hef : ((facesR g t).map pi)[i]? = some (pi f) := by rw [hf]; exact map_get (f := pi) hlt
   have cm := MethodsR_call g f (by omega)
   have hml := methodsOf_len g f
   rw [drop_any hlt, ← hf] at hr
   repeat' (first | (refine shC ?_; first | refine qC cm ?_) | (refine shX ?_; first | refine qX hef ?_) | refine sK ?_ | refine sC (fun _ => ?_) (fun _ => ?_) | fail)
   refine aw_loop (fun j : Nat => [(1, .pv (pi t)), (2, .pv (.ptr (imgPV g) 0)), (7, .pv (ints (facesR g t))), (8, .pv (pi i)), (9, .pv (ints (methodsOf g f))), (10, .pv (pi j))]) (fun _ => [])
    (fun j => j ≤ (methodsOf g f).length ∧ N = ((((methodsOf g f).drop j).any fun m => openT g (doneT g t m)) || ((facesR g t).drop (i + 1)).any fun f => (methodsOf g f).any fun m => openT g (doneT g t m))) (fun j => (methodsOf g f).length - j) 0 ⟨by omega, hr⟩ (tS) tH ?_
   clear hr
   rintro j ⟨hj, hr⟩
   by_cases hjl : j < (methodsOf g f).length
   ·obtain ⟨m, hm⟩ : ∃ m, m = (methodsOf g f)[j] := ⟨_, rfl⟩
    have hmf : m ∈ methodsOf g f := by rw [hm]; exact List.getElem_mem hjl
    have hem : ((methodsOf g f).map pi)[j]? = some (pi m) := by rw [hm]; exact map_get (f := pi) hjl
    have hmk : mOk g m := methodsOf_mem hmf
    have hb : kindG g (ownM g m) = 0 → ownM g m ∈ up g t := fun h => by rw [methodsOf_own hmf, hfk] at h; omega
    have cd := DoneR_call g hF t m hmk hk hb
    have cv := openR_call g (doneT g t m) (doneT_ok hW hmk hk hb)
    rw [drop_any hjl, ← hm] at hr
    cases hop : openT g (doneT g t m)
    ·rw [hop] at cv hr
     repeat' (first | (refine shC ?_; first | refine qC cd ?_ | refine qC cv ?_) | (refine shX ?_; first | refine qX hem ?_) | refine sK ?_ | refine sC (fun _ => ?_) (fun _ => ?_) | fail)
     exact ⟨j + 1, ⟨hjl, hr⟩, tD, tS, tH⟩
    ·rw [hop] at cv hr
     repeat' (first | (refine shC ?_; first | refine qC cd ?_ | refine qC cv ?_) | (refine shX ?_; first | refine qX hem ?_) | refine sK ?_ | refine sC (fun _ => ?_) (fun _ => ?_) | fail)
     exact retq rfl (by rw [hr]; rfl)
   ·rw [drop_end (by omega)] at hr
    repeat' (first | refine sK ?_ | refine sC (fun _ => ?_) (fun _ => ?_) | fail)
    exact ⟨i + 1, ⟨hlt, hr⟩, tD, tS, tH⟩
  ·rw [drop_end (by omega)] at hr
   repeat' (first | refine sK ?_ | refine sC (fun _ => ?_) (fun _ => ?_) | fail)
   exact retq rfl (by rw [hr]; rfl)
end Go.Cg
namespace Go.Cg
open Go.Proofs
def numT (t : Ty) : Bool := decide (t = ⟨1, 0, 0, false⟩) || decide (t = ⟨2, 0, 0, false⟩) || decide (t = ⟨3, 0, 0, false⟩)
def begB (m : Me) : Bool := bitF m.flags 1 && !bitF m.flags 4 && m.params.length == 0 && numT m.ret
theorem numT_eq {t : Ty} (hp : plainT t = true) (hr : t.ref = false) : numT t = (t.dims == 0 && decide (1 ≤ t.kind) && decide (t.kind ≤ 3)) := by
 obtain ⟨k, i, d, r⟩ := t
 simp only at hr
 subst hr
 rw [Bool.eq_iff_iff]
 simp only [numT, Ty.mk.injEq, Bool.or_eq_true, decide_eq_true_eq, Bool.and_eq_true, beq_iff_eq, and_true]
 constructor
 ·omega
 ·rintro ⟨⟨h1, h2⟩, h3⟩
  have hk : k = 1 ∨ k = 2 ∨ k = 3 := by omega
  rcases hk with rfl | rfl | rfl <;> simp_all [plainT]
set_option maxHeartbeats 1000000 in
theorem beginsS_call (g : Img) (m : Me) (h : MeOk g m) : ACall Tryz.prog 138 [mePV m] (pb (begB m)) := by
 obtain ⟨h1, _, h4, _, _⟩ := hasM h
 have e1 := tyEq_iff m.ret ⟨1, 0, 0, false⟩
 have e2 := tyEq_iff m.ret ⟨2, 0, 0, false⟩
 have e3 := tyEq_iff m.ret ⟨3, 0, 0, false⟩
 have hl : ((((m.params.map tyPV).length : Nat) : Int) == 0) = (m.params.length == 0) := by
  rw [List.length_map, Bool.eq_iff_iff]; simp only [beq_iff_eq]; omega
 refine acall_intro tbOK Tryz.func138 rfl (by kernel_rfl) Tryz.ntmps138 (by simp) _ rfl (fun hw gB hgB => ?_)
 rw [begB, numT, ← e1, ← e2, ← e3]
 generalize bitF m.flags 1 = b1 at h1 ⊢
 generalize bitF m.flags 4 = b4 at h4 ⊢
 clear e1 e2 e3
 repeat' (first | (refine shC ?_; first | refine qC h1 ?_ | refine qC h4 ?_) | refine sA ?_ | refine sC (fun _ => ?_) (fun _ => ?_) | fail)
 all_goals (refine retq rfl ?_; first | (simp_all [retPV]; done) | (simp_all [retPV]; intro hh; rcases hh with ⟨a1, a2, a3, a4⟩ | ⟨a1, a2, a3, a4⟩ <;> simp_all))
abbrev Spot13 := (Int × Int) × Int
def spotPV (r : Spot13) : PV := .tup [.agg [pi r.1.1, pi r.1.2], pi r.2]
def stE (g : Img) : Spot13 := if decide (0 ≤ g.entry) && !begB (mAt g g.entry) then ((1, g.entry), 11) else ((0, 0), 0)
def badD (g : Img) (t : Int) : Bool := kindG g t == 3 && (methodsOf g t).length == 0
def badC (g : Img) (W : Int → Bool) (t : Int) : Bool := kindG g t == 0 && !bitF (g.types.getD t.toNat default).flags 4 && !W t
def stD (g : Img) : List Nat → Spot13
 | [] => stE g
 | t :: ts => if badD g (t : Int) then ((0, (t : Int)), 8) else stD g ts
def stC (g : Img) (W : Int → Bool) : List Nat → Spot13
 | [] => stD g (List.range g.types.length)
 | t :: ts => if badC g W (t : Int) then ((0, (t : Int)), 18) else stC g W ts
def stM (g : Img) : List Nat → Spot13
 | [] => stC g (fun t => wholeF g t (doneT g t) (facesR g t)) (List.range g.types.length)
 | i :: is => if flagR g (mAt g (i : Int)) then (if typedR g (mAt g (i : Int)) then stM g is else ((1, (i : Int)), 10)) else ((1, (i : Int)), 8)
def check13 (g : Img) : Spot13 := if fineR g then stM g (List.range g.methods.length) else ((0, 0), 17)
theorem range_drop {n k : Nat} (h : k < n) : (List.range n).drop k = k :: (List.range n).drop (k + 1) := by
 rw [List.drop_eq_getElem_cons (by simpa using h)]; simp
theorem range_end (n : Nat) : (List.range n).drop n = [] := List.drop_eq_nil_of_le (by simp)
theorem any_congr_mem {l l' : List Int} {p q : Int → Bool} (h : ∀ x, x ∈ l ↔ x ∈ l') (hp : ∀ x ∈ l, p x = q x) : l.any p = l'.any q := by
 rw [Bool.eq_iff_iff, List.any_eq_true, List.any_eq_true]
 constructor
 ·rintro ⟨x, hx, hpx⟩; exact ⟨x, (h x).1 hx, by rw [← hp x hx]; exact hpx⟩
 ·rintro ⟨x, hx, hpx⟩; exact ⟨x, (h x).2 hx, by rw [hp x ((h x).2 hx)]; exact hpx⟩
theorem flag_virt {k : Int} {b1 b2 b4 b8 b16 rv f16 em nc m1 ab : Bool} (h : flagRB k b1 b2 b4 b8 b16 rv f16 em nc m1 ab = true) (hk : k = 2) : b2 = true := by
 subst hk
 cases b2
 ·cases b4
  ·simp [flagRB] at h
  ·simp [flagRB] at h
 ·rfl
theorem whole_eq {g : Img} (hF : Fine g) (hm : ∀ i, i < g.methods.length → flagR g (mAt g (i : Int)) = true) (t : Int) : wholeF g t (faceT g t) (facesP g t) = wholeF g t (doneT g t) (facesR g t) := by
 have hFm := fm_of hF.formed
 have hW := well_wl hF.well
 rw [wholeF, wholeF]
 congr 2
 refine any_congr_mem (fun f => by rw [mem_facesP hFm, mem_facesR hFm]) fun f hf => ?_
 refine any_congr_mem (fun m => Iff.rfl) fun m hmm => ?_
 have hk : kindG g (ownM g m) = 2 := by rw [methodsOf_own hmm]; exact hW.rf_kind ((mem_facesP hFm).1 hf)
 have hmo := methodsOf_mem hmm
 have h1 := hm m.toNat hmo.2
 rw [Int.toNat_of_nonneg hmo.1] at h1
 have hv : virt g m = true := flag_virt h1 hk
 rw [doneT, hk, hv]; rfl
theorem mOk_at {g : Img} {k : Nat} (h : k < g.methods.length) : mOk g (k : Int) := ⟨by omega, by simpa using h⟩
theorem me_get {g : Img} {k : Nat} (h : k < g.methods.length) : (g.methods.map mePV)[((k : Int)).toNat]? = some (mePV (mAt g (k : Int))) := mAt_get (mOk_at h)
theorem td_get {g : Img} {k : Nat} (h : k < g.types.length) : (g.types.map tdPV)[((k : Int)).toNat]? = some (tdPV (g.types.getD ((k : Int)).toNat default)) := by
 have h' : ((k : Int)).toNat < g.types.length := by simpa using h
 rw [getD_get h']; exact map_get' h'
theorem entry_in {g : Img} (hf : formedG g = true) (h : 0 ≤ g.entry) : mOk g g.entry := by
 simp only [formedG, Bool.and_eq_true, decide_eq_true_eq] at hf
 exact ⟨h, by omega⟩
end Go.Cg
namespace Go.Cg
open Go.Proofs
theorem and4_zero {f : Int} (h0 : 0 ≤ f) (h1 : f ≤ 31) : (IntKind.i64.wrap ((BitVec.ofInt IntKind.i64.bits f &&& BitVec.ofInt IntKind.i64.bits 4).toNat : Int) == 0) = !bitF f 4 := by
 rw [← (flags_eq h0 h1).2.2.1, andB, bne, Bool.not_not]
theorem div4_fin : ∀ a : Fin 32, ((IntKind.i64.wrap ((a.val : Int).tdiv 4)).tmod 2 == 0) = !bitF (a.val : Int) 4 := by decide +kernel
theorem div4_zero {f : Int} (h0 : 0 ≤ f) (h1 : f ≤ 31) : ((IntKind.i64.wrap (f.tdiv 4)).tmod 2 == 0) = !bitF f 4 := by
 have := div4_fin ⟨f.toNat, by omega⟩
 simpa only [Int.toNat_of_nonneg h0] using this
theorem ty_flags' {g : Img} (hf : formedG g = true) {k : Nat} (h : k < g.types.length) : 0 ≤ (g.types.getD ((k : Int)).toNat default).flags ∧ (g.types.getD ((k : Int)).toNat default).flags ≤ 31 := ty_flags hf (by omega) (by simpa using h)
theorem len_zero {l : List Int} : ((((l.map pi).length : Nat) : Int) == 0) = (l.length == 0) := by
 rw [List.length_map, Bool.eq_iff_iff]; simp only [beq_iff_eq]; omega
set_option maxHeartbeats 4000000 in
theorem CheckS_call (g : Img) (hx : OkA g) : ACall Tryz.prog 93 [imgPV g] (spotPV (check13 g)) := by
 have c0 := fineS_call g hx
 refine acall_intro tbOK Tryz.func93 rfl (by kernel_rfl) Tryz.ntmps93 (by simp) _ rfl (fun hw gB hgB => ?_)
 cases hfi : fineR g
 ·rw [hfi] at c0
  repeat' (first | (refine shC ?_; first | refine qC c0 ?_) | refine sK ?_ | refine sC (fun _ => ?_) (fun _ => ?_) | fail)
  exact retq rfl (by rw [check13, hfi]; rfl)
 ·rw [hfi] at c0
  have hF := fine_of hfi
  obtain ⟨hgt, _, hgm, _⟩ := formedG_bounds hF.formed
  have hr0 : check13 g = stM g (List.range g.methods.length) := by rw [check13, hfi]; rfl
  repeat' (first | (refine shC ?_; first | refine qC c0 ?_) | refine sK ?_ | refine sC (fun _ => ?_) (fun _ => ?_) | fail)
  refine aw_loop (fun k : Nat => [(1, .pv (.ptr (imgPV g) 0)), (2, .box 0 0), (14, .pv (.slc 12 (g.methods.map mePV) false)), (15, .pv (pi g.methods.length)), (16, .pv (pi k))]) (fun _ => [(0, .cell (.pv (.agg [pi 0, pi 0])))])
   (fun k => k ≤ g.methods.length ∧ check13 g = stM g ((List.range g.methods.length).drop k) ∧ ∀ i, i < k → flagR g (mAt g (i : Int)) = true) (fun k => g.methods.length - k) 0 ⟨by omega, hr0, fun i h => by omega⟩ (by repeat (first | exact sub_nil | refine sub_cons rfl ?_ | (refine sub_i rfl ?_ ?_; · simp))) tH ?_
  rintro k ⟨hk, hr, hall⟩
  by_cases hlt : k < g.methods.length
  ·have he := me_get hlt
   have hM := meOk_at hF.formed (mOk_at hlt)
   have cf := flaggedS_call g hF.formed _ hM
   have co := ownedS_call g hF.formed _ hM
   have ct := typedS_call g hF.formed _ hM
   have hfe := flag_eq hM
   rw [range_drop hlt, stM] at hr
   cases hf : flagP g (mAt g (k : Int))
   ·rw [hf] at cf hfe
    rw [← hfe] at hr
    repeat' (first | (refine shC ?_; first | refine qC cf ?_) | (refine shX ?_; first | refine qX he ?_) | refine sK ?_ | refine sC (fun _ => ?_) (fun _ => ?_) | fail)
    exact retq rfl (by rw [hr]; rfl)
   ·rw [hf] at cf hfe
    cases ho : ownP13 g (mAt g (k : Int))
    ·rw [ho] at co hfe
     rw [← hfe] at hr
     repeat' (first | (refine shC ?_; first | refine qC cf ?_ | refine qC co ?_) | (refine shX ?_; first | refine qX he ?_) | refine sK ?_ | refine sC (fun _ => ?_) (fun _ => ?_) | fail)
     exact retq rfl (by rw [hr]; rfl)
    ·rw [ho] at co hfe
     have hfR : flagR g (mAt g (k : Int)) = true := hfe.symm
     rw [hfR, if_pos rfl] at hr
     cases ht : typedR g (mAt g (k : Int))
     ·rw [ht] at ct hr
      repeat' (first | (refine shC ?_; first | refine qC cf ?_ | refine qC co ?_ | refine qC ct ?_) | (refine shX ?_; first | refine qX he ?_) | refine sK ?_ | refine sC (fun _ => ?_) (fun _ => ?_) | fail)
      exact retq rfl (by rw [hr]; rfl)
     ·rw [ht] at ct hr
      repeat' (first | (refine shC ?_; first | refine qC cf ?_ | refine qC co ?_ | refine qC ct ?_) | (refine shX ?_; first | refine qX he ?_) | refine sK ?_ | refine sC (fun _ => ?_) (fun _ => ?_) | fail)
      exact ⟨k + 1, ⟨hlt, hr, fun i hi => by
       by_cases e : i = k
       ·subst e; exact hfR
       ·exact hall i (by omega)⟩, tD, tS, tH⟩
  ·have hk2 : k = g.methods.length := by omega
   subst hk2
   rw [range_end, stM] at hr
   have hwe := fun t => whole_eq hF hall t
   clear hall
   repeat' (first | refine sK ?_ | refine sC (fun _ => ?_) (fun _ => ?_) | fail)
   refine aw_loop (fun k : Nat => [(1, .pv (.ptr (imgPV g) 0)), (2, .box 0 0), (43, .pv (.slc 4 (g.types.map tdPV) false)), (44, .pv (pi g.types.length)), (45, .pv (pi k))]) (fun _ => [(0, .cell (.pv (.agg [pi 0, pi 0])))])
    (fun k => k ≤ g.types.length ∧ check13 g = stC g (fun t => wholeF g t (doneT g t) (facesR g t)) ((List.range g.types.length).drop k)) (fun k => g.types.length - k) 0 ⟨by omega, hr⟩ (by repeat (first | exact sub_nil | refine sub_cons rfl ?_ | (refine sub_i rfl ?_ ?_; · simp))) tH ?_
   clear hr hk hlt
   rintro k ⟨hk, hr⟩
   by_cases hlt : k < g.types.length
   ·have he := td_get hlt
    have hfl := ty_flags' hF.formed hlt
    have hz := and4_zero hfl.1 hfl.2
    have ck := KindPG_call g hF.formed (k : Int)
    rw [range_drop hlt, stC, badC] at hr
    by_cases hk0 : kindG g (k : Int) = 0
    ·have cw := wholeS_call g hF (k : Int) hk0
     rw [hwe] at cw
     rw [hk0] at ck hr
     cases hb : bitF (g.types.getD ((k : Int)).toNat default).flags 4
     ·rw [hb] at hz hr
      cases hw2 : wholeF g (k : Int) (doneT g (k : Int)) (facesR g (k : Int))
      ·rw [hw2] at cw hr
       repeat' (first | (refine shC ?_; first | refine qC ck ?_ | refine qC cw ?_) | (refine shX ?_; first | refine qX he ?_) | refine sK ?_ | refine sC (fun _ => ?_) (fun _ => ?_) | fail)
       exact retq rfl (by rw [hr]; rfl)
      ·rw [hw2] at cw hr
       repeat' (first | (refine shC ?_; first | refine qC ck ?_ | refine qC cw ?_) | (refine shX ?_; first | refine qX he ?_) | refine sK ?_ | refine sC (fun _ => ?_) (fun _ => ?_) | fail)
       exact ⟨k + 1, ⟨hlt, hr⟩, tD, tS, tH⟩
     ·rw [hb] at hz hr
      repeat' (first | (refine shC ?_; first | refine qC ck ?_) | (refine shX ?_; first | refine qX he ?_) | refine sK ?_ | refine sC (fun _ => ?_) (fun _ => ?_) | fail)
      exact ⟨k + 1, ⟨hlt, hr⟩, tD, tS, tH⟩
    ·have hkb : (kindG g (k : Int) == 0) = false := by simp [hk0]
     rw [hkb] at hr
     repeat' (first | (refine shC ?_; first | refine qC ck ?_) | (refine shX ?_; first | refine qX he ?_) | refine sK ?_ | refine sC (fun _ => ?_) (fun _ => ?_) | fail)
     exact ⟨k + 1, ⟨hlt, hr⟩, tD, tS, tH⟩
   ·have hk2 : k = g.types.length := by omega
    subst hk2
    rw [range_end, stC] at hr
    repeat' (first | refine sK ?_ | refine sC (fun _ => ?_) (fun _ => ?_) | fail)
    refine aw_loop (fun k : Nat => [(1, .pv (.ptr (imgPV g) 0)), (2, .box 0 0), (71, .pv (pi g.types.length)), (72, .pv (pi k))]) (fun _ => [(0, .cell (.pv (.agg [pi 0, pi 0])))])
     (fun k => k ≤ g.types.length ∧ check13 g = stD g ((List.range g.types.length).drop k)) (fun k => g.types.length - k) 0 ⟨by omega, hr⟩ (by repeat (first | exact sub_nil | refine sub_cons rfl ?_ | (refine sub_i rfl ?_ ?_; · simp))) tH ?_
    clear hr hk hlt
    rintro k ⟨hk, hr⟩
    by_cases hlt : k < g.types.length
    ·have ck := KindPG_call g hF.formed (k : Int)
     have cm := MethodsP_call g (k : Int) (by omega)
     have hlz := len_zero (l := methodsOf g (k : Int))
     rw [range_drop hlt, stD, badD] at hr
     by_cases hk3 : kindG g (k : Int) = 3
     ·rw [hk3] at ck hr
      cases hb : (methodsOf g (k : Int)).length == 0
      ·rw [hb] at hlz hr
       repeat' (first | (refine shC ?_; first | refine qC ck ?_ | refine qC cm ?_) | refine sK ?_ | refine sC (fun _ => ?_) (fun _ => ?_) | fail)
       exact ⟨k + 1, ⟨hlt, hr⟩, tD, tS, tH⟩
      ·rw [hb] at hlz hr
       repeat' (first | (refine shC ?_; first | refine qC ck ?_ | refine qC cm ?_) | refine sK ?_ | refine sC (fun _ => ?_) (fun _ => ?_) | fail)
       exact retq rfl (by rw [hr]; rfl)
     ·have hkb : (kindG g (k : Int) == 3) = false := by simp [hk3]
      rw [hkb] at hr
      repeat' (first | (refine shC ?_; first | refine qC ck ?_) | refine sK ?_ | refine sC (fun _ => ?_) (fun _ => ?_) | fail)
      exact ⟨k + 1, ⟨hlt, hr⟩, tD, tS, tH⟩
    ·have hk2 : k = g.types.length := by omega
     subst hk2
     rw [range_end, stD, stE] at hr
     by_cases h0 : 0 ≤ g.entry
     ·have hen := entry_in hF.formed h0
      have hem := mAt_get hen
      have cb := beginsS_call g _ (meOk_at hF.formed hen)
      rw [decide_eq_true h0] at hr
      cases hb : begB (mAt g g.entry)
      ·rw [hb] at cb hr
       repeat' (first | (refine shC ?_; first | refine qC cb ?_) | (refine shX ?_; first | refine ao_q rfl (q_index tbOK rfl rfl rfl rfl rfl rfl h0 hem) rfl rfl ?_ | refine AD.step _ _ _ _ _ rfl (q_index tbOK rfl rfl rfl rfl rfl rfl h0 hem) rfl rfl ?_) | refine sK ?_ | refine sC (fun _ => ?_) (fun _ => ?_) | fail)
       exact retq rfl (by rw [hr]; rfl)
      ·rw [hb] at cb hr
       repeat' (first | (refine shC ?_; first | refine qC cb ?_) | (refine shX ?_; first | refine ao_q rfl (q_index tbOK rfl rfl rfl rfl rfl rfl h0 hem) rfl rfl ?_ | refine AD.step _ _ _ _ _ rfl (q_index tbOK rfl rfl rfl rfl rfl rfl h0 hem) rfl rfl ?_) | refine sK ?_ | refine sC (fun _ => ?_) (fun _ => ?_) | fail)
       exact retq rfl (by rw [hr]; rfl)
     ·rw [decide_eq_false h0] at hr
      repeat' (first | refine sK ?_ | refine sC (fun _ => ?_) (fun _ => ?_) | fail)
      exact retq rfl (by rw [hr]; rfl)
end Go.Cg
namespace Go.Cg
open Go.Proofs
set_option maxHeartbeats 4000000 in
theorem CheckR13_call (g : Img) : ACall Tryz.prog 96 [imgPV g] (spotPV (check13 g)) := by
 have c0 := FineR_call g
 refine acall_intro tbOK Tryz.func96 rfl (by kernel_rfl) Tryz.ntmps96 (by simp) _ rfl (fun hw gB hgB => ?_)
 cases hfi : fineR g
 ·rw [hfi] at c0
  repeat' (first | (refine shC ?_; first | refine qC c0 ?_) | refine sK ?_ | refine sC (fun _ => ?_) (fun _ => ?_) | fail)
  exact retq rfl (by rw [check13, hfi]; rfl)
 ·rw [hfi] at c0
  have hF := fine_of hfi
  obtain ⟨hgt, _, hgm, _⟩ := formedG_bounds hF.formed
  have hr0 : check13 g = stM g (List.range g.methods.length) := by rw [check13, hfi]; rfl
  repeat' (first | (refine shC ?_; first | refine qC c0 ?_) | refine sK ?_ | refine sC (fun _ => ?_) (fun _ => ?_) | fail)
  refine aw_loop (fun k : Nat => [(1, .pv (.ptr (imgPV g) 0)), (2, .box 0 0), (4, .pv (pi k))]) (fun _ => [(0, .cell (.pv (.agg [pi 0, pi 0])))])
   (fun k => k ≤ g.methods.length ∧ check13 g = stM g ((List.range g.methods.length).drop k)) (fun k => g.methods.length - k) 0 ⟨by omega, hr0⟩ (tS) tH ?_
  rintro k ⟨hk, hr⟩
  by_cases hlt : k < g.methods.length
  ·have he := me_get hlt
   have hM := meOk_at hF.formed (mOk_at hlt)
   have cf := flaggedR13_call g hF.formed _ hM
   have ct := typedR13_call g _ hM
   rw [range_drop hlt, stM] at hr
   cases hf : flagR g (mAt g (k : Int))
   ·rw [hf] at cf hr
    repeat' (first | (refine shC ?_; first | refine qC cf ?_) | (refine shX ?_; first | refine qX he ?_) | refine sK ?_ | refine sC (fun _ => ?_) (fun _ => ?_) | fail)
    exact retq rfl (by rw [hr]; rfl)
   ·rw [hf] at cf hr
    cases ht : typedR g (mAt g (k : Int))
    ·rw [ht] at ct hr
     repeat' (first | (refine shC ?_; first | refine qC cf ?_ | refine qC ct ?_) | (refine shX ?_; first | refine qX he ?_) | refine sK ?_ | refine sC (fun _ => ?_) (fun _ => ?_) | fail)
     exact retq rfl (by rw [hr]; rfl)
    ·rw [ht] at ct hr
     repeat' (first | (refine shC ?_; first | refine qC cf ?_ | refine qC ct ?_) | (refine shX ?_; first | refine qX he ?_) | refine sK ?_ | refine sC (fun _ => ?_) (fun _ => ?_) | fail)
     exact ⟨k + 1, ⟨hlt, hr⟩, tD, tS, tH⟩
  ·have hk2 : k = g.methods.length := by omega
   subst hk2
   rw [range_end, stM] at hr
   repeat' (first | refine sK ?_ | refine sC (fun _ => ?_) (fun _ => ?_) | fail)
   refine aw_loop (fun k : Nat => [(1, .pv (.ptr (imgPV g) 0)), (2, .box 0 0), (5, .pv (pi k))]) (fun _ => [(0, .cell (.pv (.agg [pi 0, pi 0])))])
    (fun k => k ≤ g.types.length ∧ check13 g = stC g (fun t => wholeF g t (doneT g t) (facesR g t)) ((List.range g.types.length).drop k)) (fun k => g.types.length - k) 0 ⟨by omega, hr⟩ (tS) tH ?_
   clear hr hk hlt
   rintro k ⟨hk, hr⟩
   by_cases hlt : k < g.types.length
   ·have he := td_get hlt
    have hfl := ty_flags' hF.formed hlt
    have hz := div4_zero hfl.1 hfl.2
    have ck := KindR_call g (k : Int)
    rw [range_drop hlt, stC, badC] at hr
    by_cases hk0 : kindG g (k : Int) = 0
    ·have cw := wholeR13_call g hF (k : Int) hk0
     rw [hk0] at ck hr
     cases hb : bitF (g.types.getD ((k : Int)).toNat default).flags 4
     ·rw [hb] at hz hr
      cases hw2 : wholeF g (k : Int) (doneT g (k : Int)) (facesR g (k : Int))
      ·rw [hw2] at cw hr
       repeat' (first | (refine shC ?_; first | refine qC ck ?_ | refine qC cw ?_) | (refine shX ?_; first | refine qX he ?_) | refine sK ?_ | refine sC (fun _ => ?_) (fun _ => ?_) | fail)
       exact retq rfl (by rw [hr]; rfl)
      ·rw [hw2] at cw hr
       repeat' (first | (refine shC ?_; first | refine qC ck ?_ | refine qC cw ?_) | (refine shX ?_; first | refine qX he ?_) | refine sK ?_ | refine sC (fun _ => ?_) (fun _ => ?_) | fail)
       exact ⟨k + 1, ⟨hlt, hr⟩, tD, tS, tH⟩
     ·rw [hb] at hz hr
      repeat' (first | (refine shC ?_; first | refine qC ck ?_) | (refine shX ?_; first | refine qX he ?_) | refine sK ?_ | refine sC (fun _ => ?_) (fun _ => ?_) | fail)
      exact ⟨k + 1, ⟨hlt, hr⟩, tD, tS, tH⟩
    ·have hkb : (kindG g (k : Int) == 0) = false := by simp [hk0]
     rw [hkb] at hr
     repeat' (first | (refine shC ?_; first | refine qC ck ?_) | (refine shX ?_; first | refine qX he ?_) | refine sK ?_ | refine sC (fun _ => ?_) (fun _ => ?_) | fail)
     exact ⟨k + 1, ⟨hlt, hr⟩, tD, tS, tH⟩
   ·have hk2 : k = g.types.length := by omega
    subst hk2
    rw [range_end, stC] at hr
    repeat' (first | refine sK ?_ | refine sC (fun _ => ?_) (fun _ => ?_) | fail)
    refine aw_loop (fun k : Nat => [(1, .pv (.ptr (imgPV g) 0)), (2, .box 0 0), (6, .pv (pi k))]) (fun _ => [(0, .cell (.pv (.agg [pi 0, pi 0])))])
     (fun k => k ≤ g.types.length ∧ check13 g = stD g ((List.range g.types.length).drop k)) (fun k => g.types.length - k) 0 ⟨by omega, hr⟩ (tS) tH ?_
    clear hr hk hlt
    rintro k ⟨hk, hr⟩
    by_cases hlt : k < g.types.length
    ·have ck := KindR_call g (k : Int)
     have cm := MethodsR_call g (k : Int) (by omega)
     have hlz := len_zero (l := methodsOf g (k : Int))
     rw [range_drop hlt, stD, badD] at hr
     by_cases hk3 : kindG g (k : Int) = 3
     ·rw [hk3] at ck hr
      cases hb : (methodsOf g (k : Int)).length == 0
      ·rw [hb] at hlz hr
       repeat' (first | (refine shC ?_; first | refine qC ck ?_ | refine qC cm ?_) | refine sK ?_ | refine sC (fun _ => ?_) (fun _ => ?_) | fail)
       exact ⟨k + 1, ⟨hlt, hr⟩, tD, tS, tH⟩
      ·rw [hb] at hlz hr
       repeat' (first | (refine shC ?_; first | refine qC ck ?_ | refine qC cm ?_) | refine sK ?_ | refine sC (fun _ => ?_) (fun _ => ?_) | fail)
       exact retq rfl (by rw [hr]; rfl)
     ·have hkb : (kindG g (k : Int) == 3) = false := by simp [hk3]
      rw [hkb] at hr
      repeat' (first | (refine shC ?_; first | refine qC ck ?_) | refine sK ?_ | refine sC (fun _ => ?_) (fun _ => ?_) | fail)
      exact ⟨k + 1, ⟨hlt, hr⟩, tD, tS, tH⟩
    ·have hk2 : k = g.types.length := by omega
     subst hk2
     rw [range_end, stD, stE] at hr
     by_cases h0 : 0 ≤ g.entry
     ·have hen := entry_in hF.formed h0
      have hem := mAt_get hen
      have hM := meOk_at hF.formed hen
      have b1 := Bit1_call (mAt g g.entry)
      have b4 := Bit4_call (mAt g g.entry)
      have hmay : mayT (mAt g g.entry).ret 3 g.types.length = true := by
       have := hM.formed
       simp only [formedM, Bool.and_eq_true] at this
       exact this.1.1.1.2
      have hnr : (mAt g g.entry).ret.ref = false := by
       have hpl := (may_plain hmay).1
       rw [mayT, Bool.and_eq_true, whereT, hpl] at hmay
       simpa using hmay.1
      have hl0 : decide (0 < ((((mAt g g.entry).params.map tyPV).length : Nat) : Int)) = !((mAt g g.entry).params.length == 0) := by
       rw [List.length_map, Bool.eq_iff_iff]
       simp only [decide_eq_true_eq, Bool.not_eq_true', beq_eq_false_iff_ne]
       omega
      rw [decide_eq_true h0, begB, numT_eq (may_plain hmay).1 hnr] at hr
      generalize bitF (mAt g g.entry).flags 1 = c1 at b1 hr
      generalize bitF (mAt g g.entry).flags 4 = c4 at b4 hr
      repeat' (first | (refine shX ?_; first | refine ao_q rfl (q_index tbOK rfl rfl rfl rfl rfl rfl h0 hem) rfl rfl ?_ | refine AD.step _ _ _ _ _ rfl (q_index tbOK rfl rfl rfl rfl rfl rfl h0 hem) rfl rfl ?_) | refine sK ?_ | refine sC (fun _ => ?_) (fun _ => ?_) | fail)
      all_goals repeat' (first | (refine shC ?_; first | refine qC b1 ?_ | refine qC b4 ?_) | refine sA ?_ | refine sC (fun _ => ?_) (fun _ => ?_) | fail)
      all_goals (refine retq rfl ?_; rw [hr]; clear hr hr0; first | (rw [if_neg (by simp_all)]; rfl) | (rw [if_pos (by simp_all)]; rfl))
     ·rw [decide_eq_false h0] at hr
      repeat' (first | refine sK ?_ | refine sC (fun _ => ?_) (fun _ => ?_) | fail)
      exact retq rfl (by rw [hr]; rfl)
end Go.Cg
namespace Go.Cg
open Go.Proofs
def cwT (g : Img) (t : Ty) : Nat := (cellsT g t).length
def shS (g : Img) : Nat → List Ty → Nat
 | s, [] => s
 | s, t :: l => shS g (s + cwT g t) l
def shO (g : Img) : Nat → List Ty → List Int
 | _, [] => []
 | s, t :: l => (s : Int) :: shO g (s + cwT g t) l
theorem shS_snoc (g : Img) (t : Ty) : ∀ (l : List Ty) (s : Nat), shS g s (l ++ [t]) = shS g s l + cwT g t
 | [], s => rfl
 | u :: l, s => by rw [List.cons_append, shS, shS, shS_snoc g t l]
theorem shO_snoc (g : Img) (t : Ty) : ∀ (l : List Ty) (s : Nat), shO g s (l ++ [t]) = shO g s l ++ [(shS g s l : Int)]
 | [], s => rfl
 | u :: l, s => by rw [List.cons_append, shO, shO, shO_snoc g t l, shS]; rfl
theorem shO_len (g : Img) : ∀ (l : List Ty) (s : Nat), (shO g s l).length = l.length
 | [], _ => rfl
 | u :: l, s => by rw [shO, List.length_cons, List.length_cons, shO_len g l]
theorem shS_le (g : Img) : ∀ (l : List Ty) (s : Nat), (∀ t ∈ l, cwT g t ≤ 8) → shS g s l ≤ s + 8 * l.length
 | [], s, _ => by simp [shS]
 | u :: l, s, h => by
  have h1 := shS_le g l (s + cwT g u) fun t ht => h t (by simp [ht])
  have h2 := h u (by simp)
  rw [shS, List.length_cons]; omega
theorem take_snoc' {l : List Ty} {k : Nat} (h : k < l.length) : l.take (k + 1) = l.take k ++ [l[k]] := List.take_succ_eq_append_getElem h
def argL (g : Img) (m : Me) : List Ty := argsS (thisS (kindG g m.owner) (m.flags.tmod 2 != 0) m.owner) m.params
theorem this_used {g : Img} {m : Me} (hf : formedG g = true) (h : MeOk g m) (st : Bool) (h2 : (thisS (kindG g m.owner) st m.owner).2 = true) : usedR g (thisS (kindG g m.owner) st m.owner).1 = true := by
 have h0 := h.o0
 have h1 := h.o1
 have h3 := (formedG_bounds hf).1
 have hk := h.kind
 unfold thisS at h2 ⊢
 split
 ·rename_i hc; rw [if_pos hc] at h2; cases h2
 ·split
  ·rename_i hc
   simp only [beq_iff_eq] at hc
   simp [usedR, plainT, hc]
   omega
  ·rename_i hc
   simp only [beq_iff_eq] at hc
   have : (kindG g m.owner == 0 || kindG g m.owner == 2 || kindG g m.owner == 3) = true := by simp; omega
   simp [usedR, plainT, this]
   omega
abbrev sbH (a b : List Int) (w : Nat) : HEnv := [(2, .cell (.agg [.own 5, .own 6, .pv (pi w)])), (5, .row 3 1 (a.map pi)), (6, .row 3 1 (b.map pi))]
set_option maxHeartbeats 2000000 in
theorem Shape1_call (g : Img) (hx : OkA g) (t : Ty) (a b : List Int) (w : Nat) (hw : w ≤ 10000) (hc : (cellsA g t).length ≤ 10000) (us : Nat → Value) :
  ACallM Tryz.prog 94 ([] ++ [.pv (tyPV t)] ++ [.box 2 0, .pv (.ptr (imgPV g) 0)]) (sbH a b w ++ pinB us [2, 5, 6]) (.pv (pi w)) (sbH a b (w + (cellsA g t).length) ++ pinB us [2, 5, 6]) := by
 show ACallM Tryz.prog 94 [.pv (tyPV t), .box 2 0, .pv (.ptr (imgPV g) 0)] (sbH a b w ++ pinB us [2, 5, 6]) (.pv (pi w)) (sbH a b (w + (cellsA g t).length) ++ pinB us [2, 5, 6])
 have e : IntKind.i64.wrap ((w : Int) + ((cellsA g t).length : Nat)) = ((w + (cellsA g t).length : Nat) : Int) := by rw [wrap_in (by omega) (by omega)]; omega
 refine acallM_intro tbOK Tryz.func94 rfl (by kernel_rfl) Tryz.ntmps94 (by simp) _ rfl (fun gB hw1 => ?_)
 repeat' (first | refine aw_draw_tailL 8 7 rfl (by kernel_rfl) (by kernel_rfl) (by kernel_rfl) (by kernel_rfl) (by kernel_rfl) ?_ | (refine shC ?_; first | refine qC (Words_call g hx t) ?_) | refine sK ?_ | refine sC (fun _ => ?_) (fun _ => ?_) | fail)
 exact ⟨.inr rfl, .inl ⟨_, rfl, rfl, ⟨hsub_cons (by rw [← e]; rfl) (by repeat (first | exact hsub_nil | refine hsub_cons rfl ?_)), rfl⟩⟩⟩
end Go.Cg
namespace Go.Cg
open Go.Proofs
theorem sub_refl2 {env : Env} : Sub env env := fun _ _ h => h
abbrev shPV (a b : List Int) (w : Int) : PV := .agg [ints a, ints b, pi w]
abbrev z83 : HE := .cell (.pv (.agg [nilS, nilS, pi 0]))
set_option maxHeartbeats 8000000 in
theorem Shape_call (g : Img) (hx : OkA g) (m : Int) (hc : (check13 g).2 = 0) (hF : Fine g) (hm : mOk g m) (hua : ∀ t ∈ argL g (mAt g m), usedR g t = true) (hul : ∀ t ∈ (mAt g m).locals, usedR g t = true) :
  ACall Tryz.prog 46 [imgPV g, pi m] (.tup [shPV (shO g 0 (argL g (mAt g m))) (shO g (shS g 0 (argL g (mAt g m))) (mAt g m).locals) ((shS g (shS g 0 (argL g (mAt g m))) (mAt g m).locals : Nat) : Int), pi 0]) := by
 have hOk := meOk_at hF.formed hm
 have hsm := hOk.small
 have c1 := CheckS_call g hx
 have hfi : fineR g = true := by
  cases h : fineR g
  ·rw [check13, h] at hc; simp at hc
  ·rfl
 have hca : ∀ t, usedR g t = true → cellsA g t = cellsT g t := fun t ht => by rw [cellsA, hfi, ht]; rfl
 have cA := Args_call g (mAt g m) (by omega)
 rw [kindP_eq hF.formed, andB_one] at cA
 obtain ⟨al, hal⟩ : ∃ al, al = argL g (mAt g m) := ⟨_, rfl⟩
 obtain ⟨ll, hll⟩ : ∃ ll, ll = (mAt g m).locals := ⟨_, rfl⟩
 have hall : al.length ≤ 7 := by
  rw [hal, argL, argsS, List.length_append]
  split <;> simp <;> omega
 have hlll : ll.length ≤ 12 := by rw [hll]; exact hsm.2.1
 rw [← hal] at hua
 rw [← hll] at hul
 change ACall _ _ _ (tys (argL g (mAt g m))) at cA
 rw [← hal] at cA ⊢
 rw [← hll]
 have hwa : ∀ t ∈ al, cwT g t ≤ 8 := fun t ht => hF.used_le (hua t ht)
 have hwl : ∀ t ∈ ll, cwT g t ≤ 8 := fun t ht => hF.used_le (hul t ht)
 obtain ⟨s1, hs1⟩ : ∃ s1, s1 = shS g 0 al := ⟨_, rfl⟩
 have hs1b : s1 ≤ 56 := by have := shS_le g al 0 hwa; omega
 have he := mAt_get hm
 have hd1 : decide (m < 0) = false := decide_eq_false (by have := hm.1; omega)
 have hd2 : decide ((((g.methods.map mePV).length : Nat) : Int) ≤ m) = false := decide_eq_false (by rw [List.length_map]; have := hm.1; have := hm.2; omega)
 have hce : ((check13 g).2 != 0) = false := by rw [hc]; rfl
 refine acall_intro tbOK Tryz.func46 rfl (by kernel_rfl) Tryz.ntmps46 (by simp) _ rfl (fun hw gB hgB => ?_)
 repeat' (first | refine aw_own_nil_field 2 5 0 3 1 (by decide) rfl rfl rfl rfl ?_ | refine aw_own_nil_field 2 6 1 3 1 (by decide) rfl rfl rfl rfl ?_ | (refine shC ?_; first | refine qC c1 ?_ | refine qC cA ?_) | (refine shX ?_; first | refine ao_q rfl (q_index tbOK rfl rfl rfl rfl rfl rfl hm.1 he) rfl rfl ?_ | refine AD.step _ _ _ _ _ rfl (q_index tbOK rfl rfl rfl rfl rfl rfl hm.1 he) rfl rfl ?_) | refine sK ?_ | refine sC (fun _ => ?_) (fun _ => ?_) | fail)
 refine aw_loop (fun k : Nat => [(1, .pv (pi m)), (2, .pv (.ptr (imgPV g) 0)), (4, .box 0 0), (8, .box 2 0), (9, .fn (.func 94) [] [.box 2 0, .pv (.ptr (imgPV g) 0)]), (40, .pv (tys al)), (41, .pv (pi al.length)), (42, .pv (pi k))])
  (fun k => (0, z83) :: sbH (shO g 0 (al.take k)) [] (shS g 0 (al.take k))) (fun k => k ≤ al.length) (fun k => al.length - k) 0 (by omega) tSU ⟨by repeat (first | exact hsub_nil | refine hsub_cons rfl ?_), rfl⟩ ?_
 rintro k hk
 by_cases hlt : k < al.length
 ·have hdk : decide ((k : Int) < (al.length : Int)) = true := decide_eq_true (by omega)
  have hex : (al.map tyPV)[k]? = some (tyPV al[k]) := by rw [List.getElem?_map, List.getElem?_eq_getElem hlt]; rfl
  obtain ⟨t, ht⟩ : ∃ t, t = al[k] := ⟨_, rfl⟩
  have htk := take_snoc' hlt
  rw [← ht] at hex htk
  have hut : t ∈ al := by rw [ht]; exact List.getElem_mem hlt
  have hb := shS_le g (al.take k) 0 fun t ht => hwa t (List.mem_of_mem_take ht)
  have hbl : (al.take k).length ≤ 7 := by simp; omega
  have hW : shS g 0 (al.take k) + (cellsA g t).length = shS g 0 (al.take (k + 1)) := by rw [htk, shS_snoc, hca t (hua t hut)]; rfl
  have hO : (shO g 0 (al.take k)).map pi ++ [pi ((shS g 0 (al.take k) : Nat) : Int)] = (shO g 0 (al.take (k + 1))).map pi := by rw [htk, shO_snoc, List.map_append]; rfl
  have cS := fun us => Shape1_call g hx t (shO g 0 (al.take k)) [] (shS g 0 (al.take k)) (by omega) (by rw [hca t (hua t hut)]; have := hwa t hut; simp only [cwT] at this; omega) us
  rw [hW] at cS
  have hlen : ((shO g 0 (al.take k)).map pi).length = (al.take k).length := by rw [List.length_map, shO_len]
  repeat' (first | refine aw_draw_all (by kernel_rfl) ?_ | refine at_fin rfl ?_ | refine at_go (by kernel_rfl) rfl ?_ | refine at_end rfl | refine at_skip rfl ?_ | refine at_take rfl ?_ ?_ | (refine shX ?_; first | refine qX hex ?_) | (refine ao_sh_call ?_; first | (refine ao_callC (sbH (shO g 0 (al.take k)) [] (shS g 0 (al.take k))) (sbH (shO g 0 (al.take k)) [] (shS g 0 (al.take (k + 1)))) [(0, z83), (1, .cell (.pv (tyPV t)))] _ [2, 5, 6] noLoneH rfl rfl rfl rfl ?_ sub_refl2 rfl rfl rfl cS ?_; · (repeat (first | exact hsub_nil | refine hsub_cons rfl ?_)))) | (refine ao_sh_bi ?_; first | refine ao_append tbOK rfl rfl rfl rfl rfl rfl rfl (by show _ * 8 ≤ _; rw [hlen]; simp only [List.length_cons, List.length_nil]; omega) (by rw [hlen]; simp only [List.length_cons, List.length_nil]; omega) rfl rfl ?_) | refine sK ?_ | refine sC (fun _ => ?_) (fun _ => ?_) | fail)
  all_goals exact ⟨k + 1, hlt, tD, tSU, ⟨by repeat (first | exact hsub_nil | refine hsub_cons rfl ?_ | refine hsub_r rfl hO ?_), rfl⟩⟩
 ·have hk2 : k = al.length := by omega
  subst hk2
  have hdk : decide ((al.length : Int) < (al.length : Int)) = false := decide_eq_false (by omega)
  rw [List.take_length, ← hs1]
  repeat' (first | (refine shX ?_; first | refine ao_q rfl (q_index tbOK rfl rfl rfl rfl rfl rfl hm.1 he) rfl rfl ?_ | refine AD.step _ _ _ _ _ rfl (q_index tbOK rfl rfl rfl rfl rfl rfl hm.1 he) rfl rfl ?_) | refine sK ?_ | refine sC (fun _ => ?_) (fun _ => ?_) | fail)
  refine aw_loop (fun k : Nat => [(2, .pv (.ptr (imgPV g) 0)), (4, .box 0 0), (8, .box 2 0), (9, .fn (.func 94) [] [.box 2 0, .pv (.ptr (imgPV g) 0)]), (60, .pv (tys ll)), (61, .pv (pi ll.length)), (62, .pv (pi k))])
   (fun k => (0, z83) :: sbH (shO g 0 al) (shO g s1 (ll.take k)) (shS g s1 (ll.take k))) (fun k => k ≤ ll.length) (fun k => ll.length - k) 0 (by omega) (by rw [hll]; exact tSU) ⟨by repeat (first | exact hsub_nil | refine hsub_cons rfl ?_), rfl⟩ ?_
  rintro k hk
  by_cases hlt : k < ll.length
  ·have hdk : decide ((k : Int) < (ll.length : Int)) = true := decide_eq_true (by omega)
   have hex : (ll.map tyPV)[k]? = some (tyPV ll[k]) := by rw [List.getElem?_map, List.getElem?_eq_getElem hlt]; rfl
   obtain ⟨t, ht⟩ : ∃ t, t = ll[k] := ⟨_, rfl⟩
   have htk := take_snoc' hlt
   rw [← ht] at hex htk
   have hut : t ∈ ll := by rw [ht]; exact List.getElem_mem hlt
   have hb := shS_le g (ll.take k) s1 fun t ht => hwl t (List.mem_of_mem_take ht)
   have hbl : (ll.take k).length ≤ 12 := by simp; omega
   have hW : shS g s1 (ll.take k) + (cellsA g t).length = shS g s1 (ll.take (k + 1)) := by rw [htk, shS_snoc, hca t (hul t hut)]; rfl
   have hO : (shO g s1 (ll.take k)).map pi ++ [pi ((shS g s1 (ll.take k) : Nat) : Int)] = (shO g s1 (ll.take (k + 1))).map pi := by rw [htk, shO_snoc, List.map_append]; rfl
   have cS := fun us => Shape1_call g hx t (shO g 0 al) (shO g s1 (ll.take k)) (shS g s1 (ll.take k)) (by omega) (by rw [hca t (hul t hut)]; have := hwl t hut; simp only [cwT] at this; omega) us
   rw [hW] at cS
   have hlen : ((shO g s1 (ll.take k)).map pi).length = (ll.take k).length := by rw [List.length_map, shO_len]
   repeat' (first | refine aw_draw_all (by kernel_rfl) ?_ | refine at_fin rfl ?_ | refine at_go (by kernel_rfl) rfl ?_ | refine at_end rfl | refine at_skip rfl ?_ | refine at_take rfl ?_ ?_ | (refine shX ?_; first | refine qX hex ?_) | (refine ao_sh_call ?_; first | (refine ao_callC (sbH (shO g 0 al) (shO g s1 (ll.take k)) (shS g s1 (ll.take k))) (sbH (shO g 0 al) (shO g s1 (ll.take k)) (shS g s1 (ll.take (k + 1)))) [(0, z83), (1, .cell (.pv (tyPV t)))] _ [2, 5, 6] noLoneH rfl rfl rfl rfl ?_ sub_refl2 rfl rfl rfl cS ?_; · (repeat (first | exact hsub_nil | refine hsub_cons rfl ?_)))) | (refine ao_sh_bi ?_; first | refine ao_append tbOK rfl rfl rfl rfl rfl rfl rfl (by show _ * 8 ≤ _; rw [hlen]; simp only [List.length_cons, List.length_nil]; omega) (by rw [hlen]; simp only [List.length_cons, List.length_nil]; omega) rfl rfl ?_) | refine sK ?_ | refine sC (fun _ => ?_) (fun _ => ?_) | fail)
   all_goals exact ⟨k + 1, hlt, tD, tSU, ⟨by repeat (first | exact hsub_nil | refine hsub_cons rfl ?_ | refine hsub_r rfl hO ?_), rfl⟩⟩
  ·have hk2 : k = ll.length := by omega
   subst hk2
   have hdk : decide ((ll.length : Int) < (ll.length : Int)) = false := decide_eq_false (by omega)
   rw [List.take_length]
   repeat' (first | refine sK ?_ | refine sC (fun _ => ?_) (fun _ => ?_) | fail)
   exact retq rfl rfl
end Go.Cg
namespace Go.Cg
open Go.Proofs
abbrev shH (a b : List Int) (w : Nat) : HEnv := [(1, .cell (.agg [.own 5, .own 6, .pv (pi w)])), (5, .row 3 1 (a.map pi)), (6, .row 3 1 (b.map pi))]
set_option maxHeartbeats 8000000 in
theorem ShapeR_call (g : Img) (hF : Fine g) (m : Int) (hm : mOk g m) (hua : ∀ t ∈ argL g (mAt g m), usedR g t = true) (hul : ∀ t ∈ (mAt g m).locals, usedR g t = true) :
  ACall Tryz.prog 49 [imgPV g, pi m] (shPV (shO g 0 (argL g (mAt g m))) (shO g (shS g 0 (argL g (mAt g m))) (mAt g m).locals) ((shS g (shS g 0 (argL g (mAt g m))) (mAt g m).locals : Nat) : Int)) := by
 have hOk := meOk_at hF.formed hm
 have hsm := hOk.small
 have cA := ArgsR_call g (mAt g m) (by omega)
 obtain ⟨al, hal⟩ : ∃ al, al = argL g (mAt g m) := ⟨_, rfl⟩
 obtain ⟨ll, hll⟩ : ∃ ll, ll = (mAt g m).locals := ⟨_, rfl⟩
 have hall : al.length ≤ 7 := by
  rw [hal, argL, argsS, List.length_append]
  split <;> simp <;> omega
 have hlll : ll.length ≤ 12 := by rw [hll]; exact hsm.2.1
 rw [← hal] at hua
 rw [← hll] at hul
 change ACall _ _ _ (tys (argL g (mAt g m))) at cA
 rw [← hal] at cA ⊢
 rw [← hll]
 have hwa : ∀ t ∈ al, cwT g t ≤ 8 := fun t ht => hF.used_le (hua t ht)
 have hwl : ∀ t ∈ ll, cwT g t ≤ 8 := fun t ht => hF.used_le (hul t ht)
 obtain ⟨s1, hs1⟩ : ∃ s1, s1 = shS g 0 al := ⟨_, rfl⟩
 have hs1b : s1 ≤ 56 := by have := shS_le g al 0 hwa; omega
 have he := mAt_get hm
 refine acall_intro tbOK Tryz.func49 rfl (by kernel_rfl) Tryz.ntmps49 (by simp) _ rfl (fun hw gB hgB => ?_)
 repeat' (first | refine aw_own_nil_field 1 5 0 3 1 (by decide) rfl rfl rfl rfl ?_ | refine aw_own_nil_field 1 6 1 3 1 (by decide) rfl rfl rfl rfl ?_ | (refine shC ?_; first | refine qC cA ?_) | (refine shX ?_; first | refine ao_q rfl (q_index tbOK rfl rfl rfl rfl rfl rfl hm.1 he) rfl rfl ?_ | refine AD.step _ _ _ _ _ rfl (q_index tbOK rfl rfl rfl rfl rfl rfl hm.1 he) rfl rfl ?_) | refine sK ?_ | refine sC (fun _ => ?_) (fun _ => ?_) | fail)
 refine aw_loop (fun k : Nat => [(1, .pv (pi m)), (2, .pv (.ptr (imgPV g) 0)), (4, .box 0 0), (5, .box 1 0), (6, .pv (tys al)), (7, .pv (pi k))])
  (fun k => (0, z83) :: shH (shO g 0 (al.take k)) [] (shS g 0 (al.take k))) (fun k => k ≤ al.length) (fun k => al.length - k) 0 (by omega) tSU ⟨by repeat (first | exact hsub_nil | refine hsub_cons rfl ?_), rfl⟩ ?_
 rintro k hk
 by_cases hlt : k < al.length
 ·have hdk : decide ((k : Int) < (((al.map tyPV).length : Nat) : Int)) = true := decide_eq_true (by rw [List.length_map]; omega)
  have hex : (al.map tyPV)[k]? = some (tyPV al[k]) := by rw [List.getElem?_map, List.getElem?_eq_getElem hlt]; rfl
  obtain ⟨t, ht⟩ : ∃ t, t = al[k] := ⟨_, rfl⟩
  have htk := take_snoc' hlt
  rw [← ht] at hex htk
  have hut : t ∈ al := by rw [ht]; exact List.getElem_mem hlt
  have hb := shS_le g (al.take k) 0 fun t ht => hwa t (List.mem_of_mem_take ht)
  have hb8 := hwa t hut
  have hbl : (al.take k).length ≤ 7 := by simp; omega
  have hW : IntKind.i64.wrap (((shS g 0 (al.take k) : Nat) : Int) + ((((cellsT g t).map tyPV).length : Nat) : Int)) = ((shS g 0 (al.take (k + 1)) : Nat) : Int) := by
   rw [htk, shS_snoc, List.length_map]
   simp only [cwT] at hb8 ⊢
   rw [wrap_in (by omega) (by omega)]; omega
  have hO : (shO g 0 (al.take k)).map pi ++ [pi ((shS g 0 (al.take k) : Nat) : Int)] = (shO g 0 (al.take (k + 1))).map pi := by rw [htk, shO_snoc, List.map_append]; rfl
  have hlen : ((shO g 0 (al.take k)).map pi).length = (al.take k).length := by rw [List.length_map, shO_len]
  repeat' (first | refine aw_draw_tailL 12 11 rfl (by kernel_rfl) (by kernel_rfl) (by kernel_rfl) (by kernel_rfl) (by kernel_rfl) ?_ | (refine shC ?_; first | refine qC (CellsRT_call g hF t) ?_) | (refine shX ?_; first | refine qX hex ?_) | (refine ao_sh_bi ?_; first | refine ao_append tbOK rfl rfl rfl rfl rfl rfl rfl (by show _ * 8 ≤ _; rw [hlen]; simp only [List.length_cons, List.length_nil]; omega) (by rw [hlen]; simp only [List.length_cons, List.length_nil]; omega) rfl rfl ?_) | refine sK ?_ | refine sC (fun _ => ?_) (fun _ => ?_) | fail)
  exact ⟨k + 1, hlt, tD, tSU, ⟨by repeat (first | exact hsub_nil | refine hsub_cons rfl ?_ | refine hsub_r rfl hO ?_ | refine hsub_cons (by rw [← hW]; rfl) ?_), rfl⟩⟩
 ·have hk2 : k = al.length := by omega
  subst hk2
  have hdk : decide ((al.length : Int) < (((al.map tyPV).length : Nat) : Int)) = false := decide_eq_false (by rw [List.length_map]; omega)
  rw [List.take_length, ← hs1]
  repeat' (first | (refine shX ?_; first | refine ao_q rfl (q_index tbOK rfl rfl rfl rfl rfl rfl hm.1 he) rfl rfl ?_ | refine AD.step _ _ _ _ _ rfl (q_index tbOK rfl rfl rfl rfl rfl rfl hm.1 he) rfl rfl ?_) | refine sK ?_ | refine sC (fun _ => ?_) (fun _ => ?_) | fail)
  refine aw_loop (fun k : Nat => [(2, .pv (.ptr (imgPV g) 0)), (4, .box 0 0), (5, .box 1 0), (8, .pv (tys ll)), (9, .pv (pi k))])
   (fun k => (0, z83) :: shH (shO g 0 al) (shO g s1 (ll.take k)) (shS g s1 (ll.take k))) (fun k => k ≤ ll.length) (fun k => ll.length - k) 0 (by omega) (by rw [hll]; exact tSU) ⟨by repeat (first | exact hsub_nil | refine hsub_cons rfl ?_), rfl⟩ ?_
  rintro k hk
  by_cases hlt : k < ll.length
  ·have hdk : decide ((k : Int) < (((ll.map tyPV).length : Nat) : Int)) = true := decide_eq_true (by rw [List.length_map]; omega)
   have hex : (ll.map tyPV)[k]? = some (tyPV ll[k]) := by rw [List.getElem?_map, List.getElem?_eq_getElem hlt]; rfl
   obtain ⟨t, ht⟩ : ∃ t, t = ll[k] := ⟨_, rfl⟩
   have htk := take_snoc' hlt
   rw [← ht] at hex htk
   have hut : t ∈ ll := by rw [ht]; exact List.getElem_mem hlt
   have hb := shS_le g (ll.take k) s1 fun t ht => hwl t (List.mem_of_mem_take ht)
   have hb8 := hwl t hut
   have hbl : (ll.take k).length ≤ 12 := by simp; omega
   have hW : IntKind.i64.wrap (((shS g s1 (ll.take k) : Nat) : Int) + ((((cellsT g t).map tyPV).length : Nat) : Int)) = ((shS g s1 (ll.take (k + 1)) : Nat) : Int) := by
    rw [htk, shS_snoc, List.length_map]
    simp only [cwT] at hb8 ⊢
    rw [wrap_in (by omega) (by omega)]; omega
   have hO : (shO g s1 (ll.take k)).map pi ++ [pi ((shS g s1 (ll.take k) : Nat) : Int)] = (shO g s1 (ll.take (k + 1))).map pi := by rw [htk, shO_snoc, List.map_append]; rfl
   have hlen : ((shO g s1 (ll.take k)).map pi).length = (ll.take k).length := by rw [List.length_map, shO_len]
   repeat' (first | refine aw_draw_tailL 12 11 rfl (by kernel_rfl) (by kernel_rfl) (by kernel_rfl) (by kernel_rfl) (by kernel_rfl) ?_ | (refine shC ?_; first | refine qC (CellsRT_call g hF t) ?_) | (refine shX ?_; first | refine qX hex ?_) | (refine ao_sh_bi ?_; first | refine ao_append tbOK rfl rfl rfl rfl rfl rfl rfl (by show _ * 8 ≤ _; rw [hlen]; simp only [List.length_cons, List.length_nil]; omega) (by rw [hlen]; simp only [List.length_cons, List.length_nil]; omega) rfl rfl ?_) | refine sK ?_ | refine sC (fun _ => ?_) (fun _ => ?_) | fail)
   exact ⟨k + 1, hlt, tD, tSU, ⟨by repeat (first | exact hsub_nil | refine hsub_cons rfl ?_ | refine hsub_r rfl hO ?_ | refine hsub_cons (by rw [← hW]; rfl) ?_), rfl⟩⟩
  ·have hk2 : k = ll.length := by omega
   subst hk2
   have hdk : decide ((ll.length : Int) < (((ll.map tyPV).length : Nat) : Int)) = false := decide_eq_false (by rw [List.length_map]; omega)
   rw [List.take_length]
   repeat' (first | refine sK ?_ | refine sC (fun _ => ?_) (fun _ => ?_) | fail)
   exact retq rfl rfl
end Go.Cg
