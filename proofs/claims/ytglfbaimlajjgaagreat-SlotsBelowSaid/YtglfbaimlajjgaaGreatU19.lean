/- A part of the walks by abstract values: no statement of its own. -/
import Derived.Test.YtglfbaimlajjgaaGreatU18
import Derived.Test.YtglfbaimlajjgaaGreatU6
import Derived.Test.YtglfbaimlajjgaaGreatU7
namespace Go.Cg
open Go.Proofs

/-! the document's side of it; Find -/
set_option maxHeartbeats 1000000 in
theorem doneR0_call (g : Img) (hF : Fine g) (t m : Int) (hm : mOk g m) (hn : (kindG g (ownM g m) == 2 && virt g m) = false) (hb : kindG g (ownM g m) = 0 → ownM g m ∈ up g t) : ACall Tryz.prog 134 [imgPV g, pi t, pi m] (pi (done0 g t m)) := by
  have hW := well_wl hF.well
  have hem := mAt_get hm
  have c1 := KindR_call g (mAt g m).owner
  have c2 := Bit2_call (mAt g m)
  rw [show bitF (mAt g m).flags 2 = virt g m from rfl] at c2
  have c3 := SlotR_call g hF m hm
  have c4 := Table_call g hF _ t (Nat.le_refl _)
  have hsi := slot_in hW hb
  rw [ownM] at hn
  refine acall_intro tbOK Tryz.func134 rfl (by kernel_rfl) Tryz.ntmps134 (by simp) _ rfl (fun hw gB hgB => ?_)
  by_cases hk : kindG g (mAt g m).owner = 2
  · rw [hk] at c1 hn
    have hv : virt g m = false := by simpa using hn
    rw [hv] at c2
    by_cases hs : slotT g m < 0
    · repeat' (first | refine aw_draw_box 0 5 6 0 4 tbOK (by kernel_rfl) (by kernel_rfl) rfl rfl rfl rfl rfl rfl rfl rfl rfl rfl rfl rfl rfl rfl rfl rfl rfl rfl rfl rfl rfl rfl ?_ | refine ad_shadow rfl rfl ?_ | refine ⟨_, _, rfl, rfl, ?_⟩ | (refine shC ?_; first | refine qC c1 ?_ | refine qC c2 ?_ | refine qC c3 ?_) | (refine shX ?_; first | refine ao_q rfl (q_index tbOK rfl rfl rfl rfl rfl rfl hm.1 hem) rfl rfl ?_ | refine AD.step _ _ _ _ _ rfl (q_index tbOK rfl rfl rfl rfl rfl rfl hm.1 hem) rfl rfl ?_) | refine sK ?_ | refine sC (fun _ => ?_) (fun _ => ?_) | fail)
      exact retq rfl (by simp [retPV, done0, hs])
    · have he : ((tbl g t).map pi)[(slotT g m).toNat]? = some (pi ((tbl g t).getD (slotT g m).toNat 0)) := by rw [getD_get (hsi hs)]; exact map_get' (hsi hs)
      have hd : decide (slotT g m < 0) = false := decide_eq_false hs
      repeat' (first | refine aw_draw_box 0 5 6 0 4 tbOK (by kernel_rfl) (by kernel_rfl) rfl rfl rfl rfl rfl rfl rfl rfl rfl rfl rfl rfl rfl rfl rfl rfl rfl rfl rfl rfl rfl rfl ?_ | refine ad_shadow rfl rfl ?_ | refine ⟨_, _, rfl, rfl, ?_⟩ | (refine shC ?_; first | refine qC c1 ?_ | refine qC c2 ?_ | refine qC c3 ?_ | refine qC c4 ?_) | (refine shX ?_; first | refine ao_q rfl (q_index tbOK rfl rfl rfl rfl rfl rfl hm.1 hem) rfl rfl ?_ | refine AD.step _ _ _ _ _ rfl (q_index tbOK rfl rfl rfl rfl rfl rfl hm.1 hem) rfl rfl ?_ | refine qX he ?_) | refine sK ?_ | refine sC (fun _ => ?_) (fun _ => ?_) | fail)
      exact retq rfl (by rw [done0, if_neg hs]; rfl)
  · have hkb : (kindG g (mAt g m).owner == 2) = false := by simp [hk]
    by_cases hs : slotT g m < 0
    · repeat' (first | refine aw_draw_box 0 5 6 0 4 tbOK (by kernel_rfl) (by kernel_rfl) rfl rfl rfl rfl rfl rfl rfl rfl rfl rfl rfl rfl rfl rfl rfl rfl rfl rfl rfl rfl rfl rfl ?_ | refine ad_shadow rfl rfl ?_ | refine ⟨_, _, rfl, rfl, ?_⟩ | (refine shC ?_; first | refine qC c1 ?_ | refine qC c2 ?_ | refine qC c3 ?_) | (refine shX ?_; first | refine ao_q rfl (q_index tbOK rfl rfl rfl rfl rfl rfl hm.1 hem) rfl rfl ?_ | refine AD.step _ _ _ _ _ rfl (q_index tbOK rfl rfl rfl rfl rfl rfl hm.1 hem) rfl rfl ?_) | refine sK ?_ | refine sC (fun _ => ?_) (fun _ => ?_) | fail)
      exact retq rfl (by simp [retPV, done0, hs])
    · have he : ((tbl g t).map pi)[(slotT g m).toNat]? = some (pi ((tbl g t).getD (slotT g m).toNat 0)) := by rw [getD_get (hsi hs)]; exact map_get' (hsi hs)
      have hd : decide (slotT g m < 0) = false := decide_eq_false hs
      repeat' (first | refine aw_draw_box 0 5 6 0 4 tbOK (by kernel_rfl) (by kernel_rfl) rfl rfl rfl rfl rfl rfl rfl rfl rfl rfl rfl rfl rfl rfl rfl rfl rfl rfl rfl rfl rfl rfl ?_ | refine ad_shadow rfl rfl ?_ | refine ⟨_, _, rfl, rfl, ?_⟩ | (refine shC ?_; first | refine qC c1 ?_ | refine qC c2 ?_ | refine qC c3 ?_ | refine qC c4 ?_) | (refine shX ?_; first | refine ao_q rfl (q_index tbOK rfl rfl rfl rfl rfl rfl hm.1 hem) rfl rfl ?_ | refine AD.step _ _ _ _ _ rfl (q_index tbOK rfl rfl rfl rfl rfl rfl hm.1 hem) rfl rfl ?_ | refine qX he ?_) | refine sK ?_ | refine sC (fun _ => ?_) (fun _ => ?_) | fail)
      exact retq rfl (by rw [done0, if_neg hs]; rfl)
set_option maxHeartbeats 2000000 in
theorem DoneR_call (g : Img) (hF : Fine g) (t m : Int) (hm : mOk g m) (hk : kindG g t = 0) (hb : kindG g (ownM g m) = 0 → ownM g m ∈ up g t) : ACall Tryz.prog 134 [imgPV g, pi t, pi m] (pi (doneT g t m)) := by
  cases hc : (kindG g (ownM g m) == 2 && virt g m)
  · rw [show doneT g t m = done0 g t m by rw [doneT, hc]; rfl]
    exact doneR0_call g hF t m hm hc hb
  · have hW := well_wl hF.well
    obtain ⟨hgt, _, hgm, _⟩ := formedG_bounds hF.formed
    have hui := up_inv g t
    have hul := nodup_le _ _ hui.1 hui.2
    have hem := mAt_get hm
    have c1 := KindR_call g (mAt g m).owner
    have c2 := Bit2_call (mAt g m)
    rw [show bitF (mAt g m).flags 2 = virt g m from rfl] at c2
    rw [show doneT g t m = faceT g t m by rw [doneT, hc]; rfl]
    rw [Bool.and_eq_true, ownM, beq_iff_eq] at hc
    rw [hc.1] at c1
    rw [hc.2] at c2
    refine acall_intro tbOK Tryz.func134 rfl (by kernel_rfl) Tryz.ntmps134 (by simp) _ rfl (fun hw gB hgB => ?_)
    repeat' (first | refine aw_draw_box 0 5 6 0 4 tbOK (by kernel_rfl) (by kernel_rfl) rfl rfl rfl rfl rfl rfl rfl rfl rfl rfl rfl rfl rfl rfl rfl rfl rfl rfl rfl rfl rfl rfl ?_ | refine ad_shadow rfl rfl ?_ | refine ⟨_, _, rfl, rfl, ?_⟩ | (refine shC ?_; first | refine qC c1 ?_ | refine qC c2 ?_ | refine ao_q rfl (q_call rfl rfl (UpR_call g t (by omega))) rfl rfl ?_ | refine AD.step _ _ _ _ _ rfl (q_call rfl rfl (UpR_call g t (by omega))) rfl rfl ?_) | (refine shX ?_; first | refine ao_q rfl (q_index tbOK rfl rfl rfl rfl rfl rfl hm.1 hem) rfl rfl ?_ | refine AD.step _ _ _ _ _ rfl (q_index tbOK rfl rfl rfl rfl rfl rfl hm.1 hem) rfl rfl ?_) | refine sK ?_ | refine sC (fun _ => ?_) (fun _ => ?_) | fail)
    refine aw_loop (fun i : Nat => [(1, .pv (pi t)), (3, .pv (.ptr (imgPV g) 0)), (7, .box 0 0), (8, .pv (ints (up g t))), (9, .pv (pi i))]) (fun _ => [(0, .cell (.pv (mePV (mAt g m))))]) (fun i => i ≤ (up g t).length ∧ faceK g t m = (((up g t).drop i).flatMap (methodsOf g)).find? (does g m)) (fun i => (up g t).length - i) 0 ⟨by omega, rfl⟩ (tS) tH ?_
    rintro i ⟨hi, hr⟩
    by_cases hlt : i < (up g t).length
    · obtain ⟨u, hu⟩ : ∃ u, u = (up g t)[i] := ⟨_, rfl⟩
      have hum : u ∈ up g t := by rw [hu]; exact List.getElem_mem hlt
      have heu : ((up g t).map pi)[i]? = some (pi u) := by rw [hu]; exact map_get (f := pi) hlt
      have c3 := MethodsR_call g u (by omega)
      have hml := methodsOf_len g u
      rw [drop_flat hlt, ← hu] at hr
      repeat' (first | (refine shC ?_; first | refine qC c3 ?_) | (refine shX ?_; first | refine qX heu ?_) | refine sK ?_ | refine sC (fun _ => ?_) (fun _ => ?_) | fail)
      refine aw_loop (fun j : Nat => [(1, .pv (pi t)), (3, .pv (.ptr (imgPV g) 0)), (7, .box 0 0), (8, .pv (ints (up g t))), (9, .pv (pi i)), (10, .pv (ints (methodsOf g u))), (11, .pv (pi j))]) (fun _ => [(0, .cell (.pv (mePV (mAt g m))))])
        (fun j => j ≤ (methodsOf g u).length ∧ faceK g t m = ((methodsOf g u).drop j ++ ((up g t).drop (i + 1)).flatMap (methodsOf g)).find? (does g m)) (fun j => (methodsOf g u).length - j) 0 ⟨by omega, hr⟩ (tS) tH ?_
      clear hr
      rintro j ⟨hj, hr⟩
      by_cases hjl : j < (methodsOf g u).length
      · obtain ⟨k, hk2⟩ : ∃ k, k = (methodsOf g u)[j] := ⟨_, rfl⟩
        have hkm : k ∈ methodsOf g u := by rw [hk2]; exact List.getElem_mem hjl
        have hek : ((methodsOf g u).map pi)[j]? = some (pi k) := by rw [hk2]; exact map_get (f := pi) hjl
        obtain ⟨q1, q2, q3⟩ := up0 hW hk hum hkm
        have hekm := mAt_get q1
        have c4 := Bit2_call (mAt g k)
        rw [show bitF (mAt g k).flags 2 = virt g k from rfl] at c4
        have c5 := AlikeR_call (mAt g k) (mAt g m)
        rw [show alikeR (mAt g k) (mAt g m) = alk g k m from rfl] at c5
        rw [List.drop_eq_getElem_cons hjl, ← hk2, List.cons_append, List.find?_cons] at hr
        cases hv : virt g k
        · rw [hv] at c4
          rw [show does g m k = false by rw [does, hv]; rfl] at hr
          repeat' (first | (refine shC ?_; first | refine qC c4 ?_) | (refine shX ?_; first | refine qX hek ?_ | refine ao_q rfl (q_index tbOK rfl rfl rfl rfl rfl rfl q1.1 hekm) rfl rfl ?_ | refine AD.step _ _ _ _ _ rfl (q_index tbOK rfl rfl rfl rfl rfl rfl q1.1 hekm) rfl rfl ?_) | refine sK ?_ | refine sC (fun _ => ?_) (fun _ => ?_) | fail)
          exact ⟨j + 1, ⟨hjl, hr⟩, tD, tS, tH⟩
        · rw [hv] at c4
          cases ha : alk g k m
          · rw [ha] at c5
            rw [show does g m k = false by rw [does, hv, ha]; rfl] at hr
            repeat' (first | (refine shC ?_; first | refine qC c4 ?_ | refine qC c5 ?_) | (refine shX ?_; first | refine qX hek ?_ | refine ao_q rfl (q_index tbOK rfl rfl rfl rfl rfl rfl q1.1 hekm) rfl rfl ?_ | refine AD.step _ _ _ _ _ rfl (q_index tbOK rfl rfl rfl rfl rfl rfl q1.1 hekm) rfl rfl ?_) | refine sK ?_ | refine sC (fun _ => ?_) (fun _ => ?_) | fail)
            exact ⟨j + 1, ⟨hjl, hr⟩, tD, tS, tH⟩
          · rw [ha] at c5
            rw [show does g m k = true by rw [does, hv, ha]; rfl] at hr
            repeat' (first | (refine shC ?_; first | refine qC c4 ?_ | refine qC c5 ?_ | refine qC (doneR0_call g hF t k q1 q2 q3) ?_) | (refine shX ?_; first | refine qX hek ?_ | refine ao_q rfl (q_index tbOK rfl rfl rfl rfl rfl rfl q1.1 hekm) rfl rfl ?_ | refine AD.step _ _ _ _ _ rfl (q_index tbOK rfl rfl rfl rfl rfl rfl q1.1 hekm) rfl rfl ?_) | refine sK ?_ | refine sC (fun _ => ?_) (fun _ => ?_) | fail)
            exact retq rfl (by rw [faceT, hr]; rfl)
      · rw [List.drop_eq_nil_of_le (by omega), List.nil_append] at hr
        repeat' (first | refine sK ?_ | refine sC (fun _ => ?_) (fun _ => ?_) | fail)
        exact ⟨i + 1, ⟨hlt, hr⟩, tD, tS, tH⟩
    · rw [List.drop_eq_nil_of_le (by omega)] at hr
      repeat' (first | refine sK ?_ | refine sC (fun _ => ?_) (fun _ => ?_) | fail)
      exact retq rfl (by rw [faceT, hr]; rfl)
set_option maxHeartbeats 1000000 in
theorem FindP_call (g : Img) (hx : OkA g) (hf : fineR g = true) (t m : Int) (hm : mOk g m) (hk : kindG g t = 0) (hl : belowP g t (ownM g m) = true) (hb : kindG g (ownM g m) = 0 → ownM g m ∈ up g t) : ACall Tryz.prog 79 [imgPV g, pi t, pi m] (pi (doneT g t m)) := by
  have hF := fine_of hf
  have hem := mAt_get hm
  have c1 := fineS_call g hx
  rw [hf] at c1
  have c2 := KindPG_call g hF.formed t
  rw [hk] at c2
  have c3 := BelowP_call g t (mAt g m).owner (fm_of hF.formed)
  rw [show belowP g t (mAt g m).owner = true from hl] at c3
  have c4 := done_call g hF t m hm hk hb
  have hd0 : decide (m < 0) = false := decide_eq_false (by have := hm.1; omega)
  have hd1 : decide ((((g.methods.map mePV).length : Nat) : Int) ≤ m) = false := decide_eq_false (by rw [List.length_map]; have := hm.1; have := hm.2; omega)
  refine acall_intro tbOK Tryz.func79 rfl (by kernel_rfl) Tryz.ntmps79 (by simp) _ rfl (fun hw gB hgB => ?_)
  repeat' (first | (refine shC ?_; first | refine qC c1 ?_ | refine qC c2 ?_ | refine qC c3 ?_ | refine qC c4 ?_) | (refine shX ?_; first | refine ao_q rfl (q_index tbOK rfl rfl rfl rfl rfl rfl hm.1 hem) rfl rfl ?_ | refine AD.step _ _ _ _ _ rfl (q_index tbOK rfl rfl rfl rfl rfl rfl hm.1 hem) rfl rfl ?_) | refine sK ?_ | refine sC (fun _ => ?_) (fun _ => ?_) | fail)
  exact retq rfl rfl
end Go.Cg
namespace Go.Cg
open Go.Proofs

/-! what a method must be: both sides -/
def emptyM (m : Me) : Bool := m.code.length == 0 && m.locals.length == 0 && m.clauses.length == 0 && m.max == 0
def flagPB (k : Int) (b1 b2 b4 b8 b16 rv f16 em nc : Bool) : Bool := !(b16 && (k != 0 || rv || f16)) && !(b2 && (b1 || k == 1)) && !((b4 || b8) && !b2) && (if b4 then em else nc)
def ownPB (k : Int) (b4 m1 ab : Bool) : Bool := if k == 2 then b4 else if k == 3 then b4 && m1 else !b4 || ab
def flagRB (k : Int) (b1 b2 b4 b8 b16 rv f16 em nc m1 ab : Bool) : Bool :=
  !(b16 && (k != 0 || rv || f16)) && !(b2 && (b1 || k == 1)) && !(!b2 && (b4 || b8)) && !(b4 && !em) && !(!b4 && (!nc || decide (2 ≤ k))) && !(k == 3 && !m1) && (!b4 || decide (2 ≤ k) || ab)
theorem flagB_eq (b1 b2 b4 b8 b16 rv f16 em nc m1 ab : Bool) {k : Int} (hk : k = 0 ∨ k = 1 ∨ k = 2 ∨ k = 3) : (flagPB k b1 b2 b4 b8 b16 rv f16 em nc && ownPB k b4 m1 ab) = flagRB k b1 b2 b4 b8 b16 rv f16 em nc m1 ab := by
  simp only [flagPB, ownPB, flagRB]
  generalize (b16 && (k != 0 || rv || f16)) = x
  generalize (b2 && (b1 || k == 1)) = y
  rcases hk with rfl | rfl | rfl | rfl <;> cases x <;> cases y <;> cases b2 <;> cases b4 <;> cases b8 <;> cases em <;> cases nc <;> cases m1 <;> cases ab <;> rfl
def flagP (g : Img) (m : Me) : Bool := flagPB (kindG g m.owner) (bitF m.flags 1) (bitF m.flags 2) (bitF m.flags 4) (bitF m.flags 8) (bitF m.flags 16) (m.ret.kind != 1) (m.flags != 16) (emptyM m) (decide (0 < m.code.length))
def ownP13 (g : Img) (m : Me) : Bool := ownPB (kindG g m.owner) (bitF m.flags 4) ((methodsOf g m.owner).length == 1) (bitF (g.types.getD m.owner.toNat default).flags 4)
def flagR (g : Img) (m : Me) : Bool := flagRB (kindG g m.owner) (bitF m.flags 1) (bitF m.flags 2) (bitF m.flags 4) (bitF m.flags 8) (bitF m.flags 16) (m.ret.kind != 1) (m.flags != 16) (emptyM m) (decide (0 < m.code.length)) ((methodsOf g m.owner).length == 1) (bitF (g.types.getD m.owner.toNat default).flags 4)
/-- What is known of a method of an image that is formed. -/
structure MeOk (g : Img) (m : Me) : Prop where
  f0 : 0 ≤ m.flags
  f1 : m.flags ≤ 31
  o0 : 0 ≤ m.owner
  o1 : m.owner.toNat < g.types.length
  formed : formedM g m = true
theorem meOk_at {g : Img} (hf : formedG g = true) {x : Int} (h : mOk g x) : MeOk g (mAt g x) := by
  have h1 := mOk_flags hf h
  have h2 := formed_me hf h.2
  simp only [formedG, Bool.and_eq_true, List.all_eq_true] at hf
  have := hf.2 x.toNat (by simpa using h.2)
  rw [mthOk] at this
  simp only [Bool.and_eq_true, decide_eq_true_eq] at this
  have e : g.methods.getD x.toNat default = mAt g x := rfl
  rw [e] at this h2
  obtain ⟨⟨⟨t1, t2⟩, _⟩, _⟩ := this
  exact ⟨h1.1, h1.2, t1, by omega, h2⟩
theorem MeOk.kind {g : Img} {m : Me} (h : MeOk g m) : kindG g m.owner = 0 ∨ kindG g m.owner = 1 ∨ kindG g m.owner = 2 ∨ kindG g m.owner = 3 := by
  have h1 := kindG_range g m.owner
  obtain ⟨td, htd⟩ := typeAt_of_lt (g := g) (t := m.owner) ⟨h.o0, by have := h.o1; have := h.o0; omega⟩
  have h2 : kindG g m.owner = kindR td.flags := by rw [kindG, htd]
  have h3 := kindR_range td.flags
  omega
theorem flag_eq {g : Img} {m : Me} (h : MeOk g m) : (flagP g m && ownP13 g m) = flagR g m := flagB_eq _ _ _ _ _ _ _ _ _ _ _ h.kind
theorem MeOk.small {g : Img} {m : Me} (h : MeOk g m) : m.code.length ≤ 160 ∧ m.locals.length ≤ 12 ∧ m.params.length ≤ 6 ∧ m.clauses.length ≤ 6 ∧ 0 ≤ m.max ∧ m.max ≤ 12 := by
  have := h.formed
  simp only [formedM, formedC, right09, Bool.and_eq_true, decide_eq_true_eq] at this
  obtain ⟨⟨⟨⟨⟨⟨⟨⟨⟨⟨_, _⟩, _⟩, h3⟩, h4⟩, h5⟩, h6⟩, _⟩, _⟩, _⟩, ⟨⟨h7, _⟩, _⟩, h8⟩ := this
  refine ⟨by omega, by omega, by omega, ?_, h3, h4⟩
  by_cases hc : 6 < m.clauses.length
  · rw [check09, if_pos hc] at h8; simp at h8
  · omega
theorem empty_sum {m : Me} (h1 : m.code.length ≤ 160) (h2 : m.locals.length ≤ 12) (h3 : m.clauses.length ≤ 6) (h4 : 0 ≤ m.max) (h5 : m.max ≤ 12) :
    (IntKind.i64.wrap (IntKind.i64.wrap (IntKind.i64.wrap ((((m.code.map insPV).length : Nat) : Int) + (((m.locals.map tyPV).length : Nat) : Int)) + (((m.clauses.map clPV).length : Nat) : Int)) + m.max) == 0) = emptyM m := by
  simp only [List.length_map]
  rw [wrap_in (a := (m.code.length : Int) + (m.locals.length : Int)) (by omega) (by omega), wrap_in (a := (m.code.length : Int) + (m.locals.length : Int) + (m.clauses.length : Int)) (by omega) (by omega), wrap_in (by omega) (by omega), emptyM, Bool.eq_iff_iff]
  simp only [beq_iff_eq, Bool.and_eq_true]
  omega
theorem hasM {g : Img} {m : Me} (h : MeOk g m) : ACall Tryz.prog 121 [mePV m, pi 1] (pb (bitF m.flags 1)) ∧ ACall Tryz.prog 121 [mePV m, pi 2] (pb (bitF m.flags 2)) ∧ ACall Tryz.prog 121 [mePV m, pi 4] (pb (bitF m.flags 4)) ∧ ACall Tryz.prog 121 [mePV m, pi 8] (pb (bitF m.flags 8)) ∧ ACall Tryz.prog 121 [mePV m, pi 16] (pb (bitF m.flags 16)) := by
  obtain ⟨e1, e2, e4, e8, e16⟩ := flags_eq h.f0 h.f1
  exact ⟨e1 ▸ has_call m 1, e2 ▸ has_call m 2, e4 ▸ has_call m 4, e8 ▸ has_call m 8, e16 ▸ has_call m 16⟩
set_option maxHeartbeats 4000000 in
theorem flaggedS_call (g : Img) (hf : formedG g = true) (m : Me) (h : MeOk g m) : ACall Tryz.prog 81 [imgPV g, mePV m] (pb (flagP g m)) := by
  obtain ⟨h1, h2, h4, h8, h16⟩ := hasM h
  have ck := KindPG_call g hf m.owner
  have hk := h.kind
  obtain ⟨s1, s2, _, s4, s5, s6⟩ := h.small
  have he := empty_sum s1 s2 s4 s5 s6
  refine acall_intro tbOK Tryz.func81 rfl (by kernel_rfl) Tryz.ntmps81 (by simp) _ rfl (fun hw gB hgB => ?_)
  rw [flagP]
  generalize bitF m.flags 1 = b1 at h1 ⊢
  generalize bitF m.flags 2 = b2 at h2 ⊢
  generalize bitF m.flags 4 = b4 at h4 ⊢
  generalize bitF m.flags 8 = b8 at h8 ⊢
  generalize bitF m.flags 16 = b16 at h16 ⊢
  generalize emptyM m = em at he ⊢
  rcases hk with hk | hk | hk | hk <;> rw [hk] at ck ⊢ <;> clear hk
  all_goals repeat' (first | (refine shC ?_; first | refine qC ck ?_ | refine qC h1 ?_ | refine qC h2 ?_ | refine qC h4 ?_ | refine qC h8 ?_ | refine qC h16 ?_) | refine sA ?_ | refine sC (fun _ => ?_) (fun _ => ?_) | fail)
  all_goals (refine retq rfl ?_; first | (simp_all [retPV, flagPB]; done) | (rename_i hx; simp_all [retPV, flagPB]; omega) | (trace_state))
end Go.Cg
namespace Go.Cg
open Go.Proofs

/-! owned, flagged (the document's), begins, use: both sides -/
theorem ty_owner {g : Img} {m : Me} (h : MeOk g m) : (g.types.map tdPV)[m.owner.toNat]? = some (tdPV (g.types.getD m.owner.toNat default)) := by
  rw [getD_get h.o1]; exact map_get' h.o1
theorem ty_flags {g : Img} (hf : formedG g = true) {t : Int} (h0 : 0 ≤ t) (h1 : t.toNat < g.types.length) : 0 ≤ (g.types.getD t.toNat default).flags ∧ (g.types.getD t.toNat default).flags ≤ 31 := by
  have : typeAt g t = some (g.types.getD t.toNat default) := by
    rw [typeAt, if_pos h0, getD_get h1]; exact List.getElem?_eq_getElem h1
  have := formed_at hf this
  exact ⟨this.1, this.2.1⟩
set_option maxHeartbeats 4000000 in
theorem ownedS_call (g : Img) (hf : formedG g = true) (m : Me) (h : MeOk g m) : ACall Tryz.prog 82 [imgPV g, mePV m] (pb (ownP13 g m)) := by
  obtain ⟨h1, h2, h4, h8, h16⟩ := hasM h
  have ck := KindPG_call g hf m.owner
  have hk := h.kind
  have hgm : g.methods.length ≤ 64 := (formedG_bounds hf).2.2.1
  have cm := MethodsP_call g m.owner (by omega)
  have hml := methodsOf_len g m.owner
  have hto := ty_owner h
  have hfl := ty_flags hf h.o0 h.o1
  have hfe : andB (g.types.getD m.owner.toNat default).flags 4 = bitF (g.types.getD m.owner.toNat default).flags 4 := (flags_eq hfl.1 hfl.2).2.2.1
  have hms : (((((methodsOf g m.owner).map pi).length : Nat) : Int) == 1) = ((methodsOf g m.owner).length == 1) := by
    rw [List.length_map, Bool.eq_iff_iff]; simp only [beq_iff_eq]; omega
  refine acall_intro tbOK Tryz.func82 rfl (by kernel_rfl) Tryz.ntmps82 (by simp) _ rfl (fun hw gB hgB => ?_)
  rw [ownP13]
  generalize bitF m.flags 4 = b4 at h4 ⊢
  rw [← hfe, andB]
  rcases hk with hk | hk | hk | hk <;> rw [hk] at ck ⊢ <;> clear hk
  all_goals repeat' (first | (refine shC ?_; first | refine qC ck ?_ | refine qC h4 ?_ | refine qC cm ?_) | (refine shX ?_; first | refine ao_q rfl (q_index tbOK rfl rfl rfl rfl rfl rfl h.o0 hto) rfl rfl ?_ | refine AD.step _ _ _ _ _ rfl (q_index tbOK rfl rfl rfl rfl rfl rfl h.o0 hto) rfl rfl ?_) | refine sA ?_ | refine sC (fun _ => ?_) (fun _ => ?_) | fail)
  all_goals (refine retq rfl ?_; first | (simp_all [retPV, ownPB]; done) | (simp_all [retPV, ownPB]; omega))
def noNormal (QQ : QC) : QC
  | .normal, _, _ => False
  | e, env, H => QQ e env H
/-- A part that never ends in the ordinary way. -/
theorem aw_cutR {P : Program} {n : Nat} {g : Base} {x y : Code} {env : Env} {H : HEnv} {QQ : QC} (h1 : AW P n g x env H (noNormal QQ)) : AW P n g (.seq x y) env H QQ :=
  aw_seq (h1.mono fun e env' H' hq => by
    cases e <;> first
      | exact hq.elim
      | exact hq)
set_option maxHeartbeats 4000000 in
theorem flaggedR13_call (g : Img) (hf : formedG g = true) (m : Me) (h : MeOk g m) : ACall Tryz.prog 87 [imgPV g, mePV m] (pb (flagR g m)) := by
  have h1 := Bit1_call m
  have h2 := Bit2_call m
  have h4 := Bit4_call m
  have h8 := Bit8_call m
  have h16 := Bit16_call m
  have ck := KindR_call g m.owner
  have hgm : g.methods.length ≤ 64 := (formedG_bounds hf).2.2.1
  obtain ⟨s1, s2, _, s4, s5, s6⟩ := h.small
  have cm := MethodsR_call g m.owner (by omega)
  have hml := methodsOf_len g m.owner
  have hto := ty_owner h
  have hms : (((((methodsOf g m.owner).map pi).length : Nat) : Int) == 1) = ((methodsOf g m.owner).length == 1) := by
    rw [List.length_map, Bool.eq_iff_iff]; simp only [beq_iff_eq]; omega
  have he : emptyM m = (!(decide (0 < (((m.code.map insPV).length : Nat) : Int)) || decide (0 < (((m.locals.map tyPV).length : Nat) : Int)) || decide (0 < (((m.clauses.map clPV).length : Nat) : Int)) || decide (0 < m.max))) := by
    rw [emptyM, Bool.eq_iff_iff]
    simp only [List.length_map, Bool.and_eq_true, beq_iff_eq, Bool.not_eq_true', Bool.or_eq_false_iff, decide_eq_false_iff_not]
    omega
  have hc : decide (0 < m.code.length) = !((((m.code.map insPV).length : Nat) : Int) == 0) := by
    rw [List.length_map, Bool.eq_iff_iff]
    simp only [decide_eq_true_eq, Bool.not_eq_true', beq_eq_false_iff_ne]
    omega
  refine acall_intro tbOK Tryz.func87 rfl (by kernel_rfl) Tryz.ntmps87 (by simp) _ rfl (fun hw gB hgB => ?_)
  rw [flagR]
  generalize bitF m.flags 1 = b1 at h1 ⊢
  generalize bitF m.flags 2 = b2 at h2 ⊢
  generalize bitF m.flags 4 = b4 at h4 ⊢
  generalize bitF m.flags 8 = b8 at h8 ⊢
  generalize bitF m.flags 16 = b16 at h16 ⊢
  generalize hab : bitF (g.types.getD m.owner.toNat default).flags 4 = ab
  rw [bitF] at hab
  generalize emptyM m = em at he ⊢
  generalize decide (0 < m.code.length) = nc at hc ⊢
  generalize hm1 : ((methodsOf g m.owner).length == 1) = m1 at hms ⊢
  generalize kindG g m.owner = k at ck ⊢
  refine aw_cut [(2, .pv (.ptr (imgPV g) 0)), (3, .pv (.ptr (mePV m) 0))] [] ?_ ?_
  · repeat' (first | refine sA ?_ | refine sC (fun _ => ?_) (fun _ => ?_) | fail)
    exact ⟨tS, tH⟩
  refine aw_cut [(2, .pv (.ptr (imgPV g) 0)), (3, .pv (.ptr (mePV m) 0)), (5, .pv (pi k))] [] ?_ ?_
  · repeat' (first | (refine shC ?_; first | refine qC ck ?_) | refine sA ?_ | refine sC (fun _ => ?_) (fun _ => ?_) | fail)
    exact ⟨tS, tH⟩
  cases hA : (b16 && (k != 0 || (m.ret.kind != 1) || (m.flags != 16)))
  · refine aw_cut [(2, .pv (.ptr (imgPV g) 0)), (3, .pv (.ptr (mePV m) 0)), (5, .pv (pi k))] [] ?_ ?_
    · clear he hc hms hm1
      repeat' (first | (refine shC ?_; first | refine qC h16 ?_) | refine sA ?_ | refine sC (fun _ => ?_) (fun _ => ?_) | fail)
      all_goals first | exact ⟨tS, tH⟩ | (exfalso; simp_all; done)
    cases hB : (b2 && (b1 || k == 1))
    · refine aw_cut [(2, .pv (.ptr (imgPV g) 0)), (3, .pv (.ptr (mePV m) 0)), (5, .pv (pi k))] [] ?_ ?_
      · clear he hc hms hm1
        repeat' (first | (refine shC ?_; first | refine qC h1 ?_ | refine qC h2 ?_) | refine sA ?_ | refine sC (fun _ => ?_) (fun _ => ?_) | fail)
        all_goals first | exact ⟨tS, tH⟩ | (exfalso; simp_all; done)
      cases hC : (!b2 && (b4 || b8))
      · refine aw_cut [(2, .pv (.ptr (imgPV g) 0)), (3, .pv (.ptr (mePV m) 0)), (5, .pv (pi k))] [] ?_ ?_
        · clear he hc hms hm1
          repeat' (first | (refine shC ?_; first | refine qC h2 ?_ | refine qC h4 ?_ | refine qC h8 ?_) | refine sA ?_ | refine sC (fun _ => ?_) (fun _ => ?_) | fail)
          all_goals first | exact ⟨tS, tH⟩ | (exfalso; simp_all; done)
        cases hD : (b4 && !em)
        · refine aw_cut [(2, .pv (.ptr (imgPV g) 0)), (3, .pv (.ptr (mePV m) 0)), (5, .pv (pi k))] [] ?_ ?_
          · clear hc hms hm1 hA hB hC
            repeat' (first | (refine shC ?_; first | refine qC h4 ?_) | refine sA ?_ | refine sC (fun _ => ?_) (fun _ => ?_) | fail)
            all_goals first | exact ⟨tS, tH⟩ | (exfalso; simp_all; done)
          cases hE : (!b4 && (!nc || decide (2 ≤ k)))
          · refine aw_cut [(2, .pv (.ptr (imgPV g) 0)), (3, .pv (.ptr (mePV m) 0)), (5, .pv (pi k))] [] ?_ ?_
            · clear he hms hm1 hA hB hC hD
              repeat' (first | (refine shC ?_; first | refine qC h4 ?_) | refine sA ?_ | refine sC (fun _ => ?_) (fun _ => ?_) | fail)
              all_goals first | exact ⟨tS, tH⟩ | (exfalso; simp_all; done)
            cases hG : (k == 3 && !m1)
            · refine aw_cut [(2, .pv (.ptr (imgPV g) 0)), (3, .pv (.ptr (mePV m) 0)), (5, .pv (pi k))] [] ?_ ?_
              · clear he hc hA hB hC hD hE hm1
                repeat' (first | (refine shC ?_; first | refine qC cm ?_) | refine sA ?_ | refine sC (fun _ => ?_) (fun _ => ?_) | fail)
                all_goals first | exact ⟨tS, tH⟩ | (exfalso; simp_all; done)
              rw [flagRB, hA, hB, hC, hD, hE, hG]
              clear hA hB hC hD hE hG he hc hms hm1
              repeat' (first | (refine shC ?_; first | refine qC h4 ?_) | (refine shX ?_; first | refine ao_q rfl (q_index tbOK rfl rfl rfl rfl rfl rfl h.o0 hto) rfl rfl ?_ | refine AD.step _ _ _ _ _ rfl (q_index tbOK rfl rfl rfl rfl rfl rfl h.o0 hto) rfl rfl ?_) | refine sA ?_ | refine sC (fun _ => ?_) (fun _ => ?_) | fail)
              all_goals (refine retq rfl ?_; first | (simp_all [retPV]; done) | (simp_all [retPV]; intros; omega))
            · have hv : flagRB k b1 b2 b4 b8 b16 (m.ret.kind != 1) (m.flags != 16) em nc m1 ab = false := by rw [flagRB, hG]; simp
              rw [hv]
              refine aw_cutR ?_
              clear he hc hA hB hC hD hE hm1 hv
              repeat' (first | (refine shC ?_; first | refine qC cm ?_) | refine sA ?_ | refine sC (fun _ => ?_) (fun _ => ?_) | fail)
              all_goals first | exact retq rfl rfl | (exfalso; simp_all; done)
          · have hv : flagRB k b1 b2 b4 b8 b16 (m.ret.kind != 1) (m.flags != 16) em nc m1 ab = false := by rw [flagRB, hE]; simp
            rw [hv]
            refine aw_cutR ?_
            clear he hms hm1 hA hB hC hD hv
            repeat' (first | (refine shC ?_; first | refine qC h4 ?_) | refine sA ?_ | refine sC (fun _ => ?_) (fun _ => ?_) | fail)
            all_goals first | exact retq rfl rfl | (exfalso; simp_all; done)
        · have hv : flagRB k b1 b2 b4 b8 b16 (m.ret.kind != 1) (m.flags != 16) em nc m1 ab = false := by rw [flagRB, hD]; simp
          rw [hv]
          refine aw_cutR ?_
          clear hc hms hm1 hA hB hC hv
          repeat' (first | (refine shC ?_; first | refine qC h4 ?_) | refine sA ?_ | refine sC (fun _ => ?_) (fun _ => ?_) | fail)
          all_goals first | exact retq rfl rfl | (exfalso; simp_all; done)
      · have hv : flagRB k b1 b2 b4 b8 b16 (m.ret.kind != 1) (m.flags != 16) em nc m1 ab = false := by rw [flagRB, hC]; simp
        rw [hv]
        refine aw_cutR ?_
        clear he hc hms hm1 hA hB hv
        repeat' (first | (refine shC ?_; first | refine qC h2 ?_ | refine qC h4 ?_ | refine qC h8 ?_) | refine sA ?_ | refine sC (fun _ => ?_) (fun _ => ?_) | fail)
        all_goals first | exact retq rfl rfl | (exfalso; simp_all; done)
    · have hv : flagRB k b1 b2 b4 b8 b16 (m.ret.kind != 1) (m.flags != 16) em nc m1 ab = false := by rw [flagRB, hB]; simp
      rw [hv]
      refine aw_cutR ?_
      clear he hc hms hm1 hA hv
      repeat' (first | (refine shC ?_; first | refine qC h1 ?_ | refine qC h2 ?_) | refine sA ?_ | refine sC (fun _ => ?_) (fun _ => ?_) | fail)
      all_goals first | exact retq rfl rfl | (exfalso; simp_all; done)
  · have hv : flagRB k b1 b2 b4 b8 b16 (m.ret.kind != 1) (m.flags != 16) em nc m1 ab = false := by rw [flagRB, hA]; simp
    rw [hv]
    refine aw_cutR ?_
    clear he hc hms hm1 hv
    repeat' (first | (refine shC ?_; first | refine qC h16 ?_) | refine sA ?_ | refine sC (fun _ => ?_) (fun _ => ?_) | fail)
    all_goals first | exact retq rfl rfl | (exfalso; simp_all; done)
end Go.Cg
namespace Go.Cg
open Go.Proofs

/-! what types a method uses: both sides -/
set_option maxHeartbeats 1000000 in
theorem useS_call (g : Img) (hf : formedG g = true) (t : Ty) : ACall Tryz.prog 126 [imgPV g, tyPV t] (pb (useP g t)) := by
  have ck := KindPG_call g hf t.index
  refine acall_intro tbOK Tryz.func126 rfl (by kernel_rfl) Tryz.ntmps126 (by simp) _ rfl (fun hw gB hgB => ?_)
  rw [useP]
  generalize kindG g t.index = k at ck ⊢
  repeat' (first | (refine shC ?_; first | refine qC ck ?_) | refine sA ?_ | refine sC (fun _ => ?_) (fun _ => ?_) | fail)
  all_goals (refine retq rfl ?_; simp_all [retPV])
set_option maxHeartbeats 1000000 in
theorem typed1_call (g : Img) (hf : formedG g = true) (t : Ty) : ACall Tryz.prog 125 ([] ++ [tyPV t] ++ [.ptr (imgPV g) 0]) (pb (!useP g t)) := by
  show ACall Tryz.prog 125 [tyPV t, .ptr (imgPV g) 0] (pb (!useP g t))
  refine acall_intro tbOK Tryz.func125 rfl (by kernel_rfl) Tryz.ntmps125 (by simp) _ rfl (fun hw gB hgB => ?_)
  repeat' (first | (refine shC ?_; first | refine qC (useS_call g hf t) ?_) | refine sA ?_ | refine sC (fun _ => ?_) (fun _ => ?_) | fail)
  exact retq rfl rfl
def cat3N (a b c : List Ty) : Nat → Int
  | 0 => 0
  | 1 => a.length
  | 2 => a.length + b.length
  | _ => a.length + b.length + c.length
def cat3L (a b c : List Ty) : Nat → List Ty
  | 0 => []
  | 1 => a
  | 2 => a ++ b
  | _ => a ++ b ++ c
set_option maxHeartbeats 2000000 in
theorem Concat3_call (a b c : List Ty) (ha : a.length ≤ 100) (hb : b.length ≤ 100) (hc : c.length ≤ 100) : ACallR Tryz.prog 122 [.slc 1 [tys a, tys b, tys c] true] 48 4 ((a ++ b ++ c).map tyPV) := by
  refine acallR_intro Tryz.func122 rfl (by kernel_rfl) Tryz.ntmps122 (by simp) rfl (fun hw gB hgB => ?_)
  repeat' (first | refine sK ?_ | refine sC (fun _ => ?_) (fun _ => ?_) | fail)
  refine aw_loop (fun k : Nat => [(0, .pv (.slc 1 [tys a, tys b, tys c] true)), (9, .pv (.slc 1 [tys a, tys b, tys c] true)), (10, .pv (pi 3)), (11, .pv (pi k)), (3, .pv (pi (cat3N a b c k)))]) (fun _ => []) (fun k => k ≤ 3) (fun k => 3 - k) 0 (by omega) (tS) tH ?_
  intro k hk
  have hk3 : k = 0 ∨ k = 1 ∨ k = 2 ∨ k = 3 := by omega
  rcases hk3 with rfl | rfl | rfl | rfl
  · repeat' (first | refine ao_q rfl (q_int tbOK rfl (by first | omega | (simp [cat3N] <;> omega)) (by first | omega | (simp [cat3N] <;> omega))) rfl rfl ?_ | (refine shX ?_; first | refine ao_q rfl (q_index tbOK rfl rfl rfl rfl rfl rfl (by decide) rfl) rfl rfl ?_ | refine AD.step _ _ _ _ _ rfl (q_index tbOK rfl rfl rfl rfl rfl rfl (by decide) rfl) rfl rfl ?_) | refine sK ?_ | refine sC (fun _ => ?_) (fun _ => ?_) | fail)
    exact ⟨1, by omega, tD, by repeat (first | exact sub_nil | refine sub_cons rfl ?_ | (refine sub_i rfl ?_ ?_; · (first | (simp [cat3N]; done) | (simp [cat3N]; omega) | omega))), tH⟩
  · repeat' (first | refine ao_q rfl (q_int tbOK rfl (by first | omega | (simp [cat3N] <;> omega)) (by first | omega | (simp [cat3N] <;> omega))) rfl rfl ?_ | (refine shX ?_; first | refine ao_q rfl (q_index tbOK rfl rfl rfl rfl rfl rfl (by decide) rfl) rfl rfl ?_ | refine AD.step _ _ _ _ _ rfl (q_index tbOK rfl rfl rfl rfl rfl rfl (by decide) rfl) rfl rfl ?_) | refine sK ?_ | refine sC (fun _ => ?_) (fun _ => ?_) | fail)
    exact ⟨2, by omega, tD, by repeat (first | exact sub_nil | refine sub_cons rfl ?_ | (refine sub_i rfl ?_ ?_; · (first | (simp [cat3N]; done) | (simp [cat3N]; omega) | omega))), tH⟩
  · repeat' (first | refine ao_q rfl (q_int tbOK rfl (by first | omega | (simp [cat3N] <;> omega)) (by first | omega | (simp [cat3N] <;> omega))) rfl rfl ?_ | (refine shX ?_; first | refine ao_q rfl (q_index tbOK rfl rfl rfl rfl rfl rfl (by decide) rfl) rfl rfl ?_ | refine AD.step _ _ _ _ _ rfl (q_index tbOK rfl rfl rfl rfl rfl rfl (by decide) rfl) rfl rfl ?_) | refine sK ?_ | refine sC (fun _ => ?_) (fun _ => ?_) | fail)
    exact ⟨3, by omega, tD, by repeat (first | exact sub_nil | refine sub_cons rfl ?_ | (refine sub_i rfl ?_ ?_; · (first | (simp [cat3N]; done) | (simp [cat3N]; omega) | omega))), tH⟩
  · repeat' (first | (refine ao_sh_call ?_; first | refine ao_callR 0 rfl rfl rfl (Grow_call _ (by simp [cat3N]; omega) (by simp [cat3N]; omega)) (by decide) rfl rfl rfl ?_) | refine sK ?_ | refine sC (fun _ => ?_) (fun _ => ?_) | fail)
    refine aw_loop (fun k : Nat => [(6, .own 0), (25, .pv (.slc 1 [tys a, tys b, tys c] true)), (26, .pv (pi 3)), (27, .pv (pi k))]) (fun k => [(0, .row 48 4 ((cat3L a b c k).map tyPV))]) (fun k => k ≤ 3) (fun k => 3 - k) 0 (by omega) (tS) tH ?_
    intro k hk
    have hk3 : k = 0 ∨ k = 1 ∨ k = 2 ∨ k = 3 := by omega
    rcases hk3 with rfl | rfl | rfl | rfl
    · repeat' (first | refine ao_q rfl (q_int tbOK rfl (by first | omega | (simp [cat3N] <;> omega)) (by first | omega | (simp [cat3N] <;> omega))) rfl rfl ?_ | (refine shX ?_; first | refine ao_q rfl (q_index tbOK rfl rfl rfl rfl rfl rfl (by decide) rfl) rfl rfl ?_ | refine AD.step _ _ _ _ _ rfl (q_index tbOK rfl rfl rfl rfl rfl rfl (by decide) rfl) rfl rfl ?_) | (refine ao_sh_bi ?_; first | refine ao_append tbOK rfl rfl rfl rfl rfl rfl rfl (by show _ * 32 ≤ _; simp [cat3L]; omega) (by simp [cat3L]; omega) rfl rfl ?_) | refine sK ?_ | refine sC (fun _ => ?_) (fun _ => ?_) | fail)
      exact ⟨1, by omega, tD, by repeat (first | exact sub_nil | refine sub_cons rfl ?_ | (refine sub_i rfl ?_ ?_; · omega)), ⟨hsub_cons rfl hsub_nil, rfl⟩⟩
    · repeat' (first | refine ao_q rfl (q_int tbOK rfl (by first | omega | (simp [cat3N] <;> omega)) (by first | omega | (simp [cat3N] <;> omega))) rfl rfl ?_ | (refine shX ?_; first | refine ao_q rfl (q_index tbOK rfl rfl rfl rfl rfl rfl (by decide) rfl) rfl rfl ?_ | refine AD.step _ _ _ _ _ rfl (q_index tbOK rfl rfl rfl rfl rfl rfl (by decide) rfl) rfl rfl ?_) | (refine ao_sh_bi ?_; first | refine ao_append tbOK rfl rfl rfl rfl rfl rfl rfl (by show _ * 32 ≤ _; simp [cat3L]; omega) (by simp [cat3L]; omega) rfl rfl ?_) | refine sK ?_ | refine sC (fun _ => ?_) (fun _ => ?_) | fail)
      exact ⟨2, by omega, tD, by repeat (first | exact sub_nil | refine sub_cons rfl ?_ | (refine sub_i rfl ?_ ?_; · omega)), ⟨hsub_cons (by show some (HE.row 48 4 (_ ++ _)) = _; simp [cat3L]) hsub_nil, rfl⟩⟩
    · repeat' (first | refine ao_q rfl (q_int tbOK rfl (by first | omega | (simp [cat3N] <;> omega)) (by first | omega | (simp [cat3N] <;> omega))) rfl rfl ?_ | (refine shX ?_; first | refine ao_q rfl (q_index tbOK rfl rfl rfl rfl rfl rfl (by decide) rfl) rfl rfl ?_ | refine AD.step _ _ _ _ _ rfl (q_index tbOK rfl rfl rfl rfl rfl rfl (by decide) rfl) rfl rfl ?_) | (refine ao_sh_bi ?_; first | refine ao_append tbOK rfl rfl rfl rfl rfl rfl rfl (by show _ * 32 ≤ _; simp [cat3L]; omega) (by simp [cat3L]; omega) rfl rfl ?_) | refine sK ?_ | refine sC (fun _ => ?_) (fun _ => ?_) | fail)
      exact ⟨3, by omega, tD, by repeat (first | exact sub_nil | refine sub_cons rfl ?_ | (refine sub_i rfl ?_ ?_; · omega)), ⟨hsub_cons (by show some (HE.row 48 4 (_ ++ _)) = _; simp [cat3L]) hsub_nil, rfl⟩⟩
    · repeat' (first | refine sK ?_ | refine sC (fun _ => ?_) (fun _ => ?_) | fail)
      exact ⟨.inr rfl, 0, rfl, rfl⟩
theorem take_filt {α β : Type} {l : List α} {p : α → Bool} {f : α → β} {k : Nat} (h : k < l.length) : (((l.take (k + 1)).filter p).map f) = ((l.take k).filter p).map f ++ (if p l[k] then [f l[k]] else []) := by
  rw [List.take_succ_eq_append_getElem h, List.filter_append, List.map_append]
  cases hp : p l[k] <;> simp [hp]
end Go.Cg
namespace Go.Cg
open Go.Proofs

/-! all of a method's types: both sides -/
theorem formed_op {g : Img} {m : Me} (h : MeOk g m) {x : Ins} (hx : x ∈ m.code) : 1 ≤ x.op ∧ x.op ≤ 75 := by
  have := h.formed
  simp only [formedM, formedC, Bool.and_eq_true, List.all_eq_true, codeOk] at this
  have := (this.2.1.1.2 x hx).1
  exact codeOk_op (by simpa using this)
def isT (x : Ins) : Bool := operand06 x.op == 8
def isC (c : Cl) : Bool := c.kind == 1
def head3 (m : Me) : List Ty := m.params ++ m.locals ++ [m.ret]
theorem typedL_eq (m : Me) : typedL m = head3 m ++ (m.code.filter isT).map (·.t) ++ (m.clauses.filter isC).map (·.t) := rfl
set_option maxHeartbeats 4000000 in
theorem typedS_call (g : Img) (hf : formedG g = true) (m : Me) (h : MeOk g m) : ACall Tryz.prog 83 [imgPV g, mePV m] (pb (typedR g m)) := by
  obtain ⟨s1, s2, s3, s4, s5, s6⟩ := h.small
  have hc3 := Concat3_call m.params m.locals [m.ret] (by omega) (by omega) (by simp)
  have ht : PTells (.slc 4 [tyPV m.ret] true) (tys [m.ret]) := pt_slc (pcl_cons (ptl_cons (.refl _) (ptl_cons (.refl _) (ptl_cons (.refl _) (ptl_cons (.refl _) ptl_nil)))) pcl_nil)
  have hh : (head3 m).length ≤ 19 := by simp [head3]; omega
  have cu := ContainsFuncTy_call (typedL m) (fun t => !useP g t) 125 [] [.ptr (imgPV g) 0] (fun t _ => typed1_call g hf t)
  rw [← List.not_all_eq_any_not, typed_eq h.formed] at cu
  refine acall_intro tbOK Tryz.func83 rfl (by kernel_rfl) Tryz.ntmps83 (by simp) _ rfl (fun hw gB hgB => ?_)
  repeat' (first | refine ao_tells 18 ht rfl ?_ | (refine ao_sh_call ?_; first | refine ao_callR 5 rfl rfl rfl hc3 (by decide) rfl rfl rfl ?_) | refine sK ?_ | refine sC (fun _ => ?_) (fun _ => ?_) | fail)
  refine aw_loop (fun k : Nat => [(2, .pv (.ptr (imgPV g) 0)), (3, .pv (.ptr (mePV m) 0)), (5, .own 5), (22, .pv (.slc 6 (m.code.map insPV) false)), (23, .pv (pi m.code.length)), (24, .pv (pi k))])
    (fun k => [(5, .row 48 4 ((head3 m ++ ((m.code.take k).filter isT).map (·.t)).map tyPV))]) (fun k => k ≤ m.code.length) (fun k => m.code.length - k) 0 (by omega)
    (by repeat (first | exact sub_nil | refine sub_cons rfl ?_ | (refine sub_i rfl ?_ ?_; · simp))) ⟨hsub_r rfl (by simp [head3]) hsub_nil, rfl⟩ ?_
  rintro k hk
  by_cases hlt : k < m.code.length
  · have he := map_get (f := insPV) hlt
    obtain ⟨o1, o2⟩ := formed_op h (List.getElem_mem hlt)
    have co := OfP_call m.code[k].op o1 o2
    rw [(ofI_op _ o1 o2).2] at co
    have hsl : ((m.code.take k).filter isT).length ≤ 160 := by
      have := List.length_filter_le isT (m.code.take k)
      rw [List.length_take] at this; omega
    have hn := take_filt (p := isT) (f := (·.t)) hlt
    cases hop : operand06 m.code[k].op == 8
    · rw [show isT m.code[k] = false from hop, if_neg (by simp), List.append_nil] at hn
      repeat' (first | (refine shC ?_; first | refine qC co ?_) | (refine shX ?_; first | refine qX he ?_) | refine sK ?_ | refine sC (fun _ => ?_) (fun _ => ?_) | fail)
      exact ⟨k + 1, hlt, tD, tS, ⟨hsub_r rfl (by rw [hn]) hsub_nil, rfl⟩⟩
    · rw [show isT m.code[k] = true from hop, if_pos rfl] at hn
      repeat' (first | (refine shC ?_; first | refine qC co ?_) | (refine shX ?_; first | refine qX he ?_) | (refine ao_sh_bi ?_; first | refine ao_append tbOK rfl rfl rfl rfl rfl rfl rfl (by show _ * 32 ≤ _; simp only [List.length_map, List.length_append, List.length_cons, List.length_nil]; omega) (by simp only [List.length_map, List.length_append, List.length_cons, List.length_nil]; omega) rfl rfl ?_) | refine sK ?_ | refine sC (fun _ => ?_) (fun _ => ?_) | fail)
      exact ⟨k + 1, hlt, tD, tS, ⟨hsub_r rfl (by rw [hn]; simp; rfl) hsub_nil, rfl⟩⟩
  · have hk2 : k = m.code.length := by omega
    subst hk2
    have hsl : (m.code.filter isT).length ≤ 160 := by
      have := List.length_filter_le isT m.code
      omega
    rw [List.take_length]
    repeat' (first | refine sK ?_ | refine sC (fun _ => ?_) (fun _ => ?_) | fail)
    refine aw_loop (fun k : Nat => [(2, .pv (.ptr (imgPV g) 0)), (5, .own 5), (44, .pv (.slc 10 (m.clauses.map clPV) false)), (45, .pv (pi m.clauses.length)), (46, .pv (pi k))])
      (fun k => [(5, .row 48 4 ((head3 m ++ (m.code.filter isT).map (·.t) ++ ((m.clauses.take k).filter isC).map (·.t)).map tyPV))]) (fun k => k ≤ m.clauses.length) (fun k => m.clauses.length - k) 0 (by omega)
      (by repeat (first | exact sub_nil | refine sub_cons rfl ?_ | (refine sub_i rfl ?_ ?_; · simp))) ⟨hsub_r rfl (by simp) hsub_nil, rfl⟩ ?_
    clear hk hlt
    rintro k hk
    by_cases hlt : k < m.clauses.length
    · have he := map_get (f := clPV) hlt
      have hsl2 : ((m.clauses.take k).filter isC).length ≤ 6 := by
        have := List.length_filter_le isC (m.clauses.take k)
        rw [List.length_take] at this; omega
      have hn := take_filt (p := isC) (f := (·.t)) hlt
      cases hop : m.clauses[k].kind == 1
      · rw [show isC m.clauses[k] = false from hop, if_neg (by simp), List.append_nil] at hn
        repeat' (first | (refine shX ?_; first | refine qX he ?_) | refine sK ?_ | refine sC (fun _ => ?_) (fun _ => ?_) | fail)
        exact ⟨k + 1, hlt, tD, tS, ⟨hsub_r rfl (by rw [hn]) hsub_nil, rfl⟩⟩
      · rw [show isC m.clauses[k] = true from hop, if_pos rfl] at hn
        repeat' (first | (refine shX ?_; first | refine qX he ?_) | (refine ao_sh_bi ?_; first | refine ao_append tbOK rfl rfl rfl rfl rfl rfl rfl (by show _ * 32 ≤ _; simp only [List.length_map, List.length_append, List.length_cons, List.length_nil]; omega) (by simp only [List.length_map, List.length_append, List.length_cons, List.length_nil]; omega) rfl rfl ?_) | refine sK ?_ | refine sC (fun _ => ?_) (fun _ => ?_) | fail)
        exact ⟨k + 1, hlt, tD, tS, ⟨hsub_r rfl (by rw [hn]; simp; rfl) hsub_nil, rfl⟩⟩
    · have hk2 : k = m.clauses.length := by omega
      subst hk2
      rw [List.take_length, ← typedL_eq]
      repeat' (first | (refine shC ?_; first | refine qC cu ?_) | refine sK ?_ | refine sC (fun _ => ?_) (fun _ => ?_) | fail)
      exact retq rfl (by simp [retPV])
set_option maxHeartbeats 4000000 in
theorem typedR13_call (g : Img) (m : Me) (h : MeOk g m) : ACall Tryz.prog 88 [imgPV g, mePV m] (pb (typedR g m)) := by
  obtain ⟨s1, s2, s3, s4, s5, s6⟩ := h.small
  have cr := UsedR_call g m.ret
  refine acall_intro tbOK Tryz.func88 rfl (by kernel_rfl) Tryz.ntmps88 (by simp) _ rfl (fun hw gB hgB => ?_)
  cases hr : usedR g m.ret
  · rw [hr] at cr
    repeat' (first | (refine shC ?_; first | refine qC cr ?_) | refine sK ?_ | refine sC (fun _ => ?_) (fun _ => ?_) | fail)
    exact retq rfl (by simp [retPV, typedR, hr])
  · rw [hr] at cr
    repeat' (first | (refine shC ?_; first | refine qC cr ?_) | refine sK ?_ | refine sC (fun _ => ?_) (fun _ => ?_) | fail)
    refine aw_loop (fun k : Nat => [(2, .pv (.ptr (imgPV g) 0)), (3, .pv (.ptr (mePV m) 0)), (5, .pv (pi k))]) (fun _ => [])
      (fun k => k ≤ m.params.length ∧ typedR g m = ((m.params.drop k).all (usedR g) && m.locals.all (usedR g) && m.code.all (fun x => operand06 x.op != 8 || usedR g x.t) && m.clauses.all (fun c => c.kind != 1 || usedR g c.t))) (fun k => m.params.length - k) 0 ⟨by omega, by simp [typedR, hr]⟩ (tS) tH ?_
    rintro k ⟨hk, hv⟩
    by_cases hlt : k < m.params.length
    · have he := map_get (f := tyPV) hlt
      have c1 := UsedR_call g m.params[k]
      rw [drop_all hlt] at hv
      cases hu : usedR g m.params[k]
      · rw [hu] at c1 hv
        repeat' (first | (refine shC ?_; first | refine qC c1 ?_) | (refine shX ?_; first | refine qX he ?_) | refine sK ?_ | refine sC (fun _ => ?_) (fun _ => ?_) | fail)
        exact retq rfl (by rw [hv]; simp [retPV])
      · rw [hu] at c1 hv
        repeat' (first | (refine shC ?_; first | refine qC c1 ?_) | (refine shX ?_; first | refine qX he ?_) | refine sK ?_ | refine sC (fun _ => ?_) (fun _ => ?_) | fail)
        exact ⟨k + 1, ⟨hlt, by rw [hv]; simp⟩, tD, tS, tH⟩
    · rw [drop_end (by omega)] at hv
      repeat' (first | refine sK ?_ | refine sC (fun _ => ?_) (fun _ => ?_) | fail)
      refine aw_loop (fun k : Nat => [(2, .pv (.ptr (imgPV g) 0)), (3, .pv (.ptr (mePV m) 0)), (6, .pv (pi k))]) (fun _ => [])
        (fun k => k ≤ m.locals.length ∧ typedR g m = ((m.locals.drop k).all (usedR g) && m.code.all (fun x => operand06 x.op != 8 || usedR g x.t) && m.clauses.all (fun c => c.kind != 1 || usedR g c.t))) (fun k => m.locals.length - k) 0 ⟨by omega, by rw [hv]; simp⟩ (tS) tH ?_
      clear hk hv hlt
      rintro k ⟨hk, hv⟩
      by_cases hlt : k < m.locals.length
      · have he := map_get (f := tyPV) hlt
        have c1 := UsedR_call g m.locals[k]
        rw [drop_all hlt] at hv
        cases hu : usedR g m.locals[k]
        · rw [hu] at c1 hv
          repeat' (first | (refine shC ?_; first | refine qC c1 ?_) | (refine shX ?_; first | refine qX he ?_) | refine sK ?_ | refine sC (fun _ => ?_) (fun _ => ?_) | fail)
          exact retq rfl (by rw [hv]; simp [retPV])
        · rw [hu] at c1 hv
          repeat' (first | (refine shC ?_; first | refine qC c1 ?_) | (refine shX ?_; first | refine qX he ?_) | refine sK ?_ | refine sC (fun _ => ?_) (fun _ => ?_) | fail)
          exact ⟨k + 1, ⟨hlt, by rw [hv]; simp⟩, tD, tS, tH⟩
      · rw [drop_end (by omega)] at hv
        repeat' (first | refine sK ?_ | refine sC (fun _ => ?_) (fun _ => ?_) | fail)
        refine aw_loop (fun k : Nat => [(2, .pv (.ptr (imgPV g) 0)), (3, .pv (.ptr (mePV m) 0)), (7, .pv (pi k))]) (fun _ => [])
          (fun k => k ≤ m.code.length ∧ typedR g m = ((m.code.drop k).all (fun x => operand06 x.op != 8 || usedR g x.t) && m.clauses.all (fun c => c.kind != 1 || usedR g c.t))) (fun k => m.code.length - k) 0 ⟨by omega, by rw [hv]; simp⟩ (tS) tH ?_
        clear hk hv hlt
        rintro k ⟨hk, hv⟩
        by_cases hlt : k < m.code.length
        · have he := map_get (f := insPV) hlt
          obtain ⟨o1, o2⟩ := formed_op h (List.getElem_mem hlt)
          have co := Of_call m.code[k].op o1 o2
          have c1 := UsedR_call g m.code[k].t
          rw [drop_all hlt] at hv
          cases hop : operand06 m.code[k].op == 8
          · rw [show (operand06 m.code[k].op != 8) = true by rw [bne, hop]; rfl] at hv
            repeat' (first | (refine shC ?_; first | refine qC co ?_) | (refine shX ?_; first | refine qX he ?_) | refine sK ?_ | refine sC (fun _ => ?_) (fun _ => ?_) | fail)
            exact ⟨k + 1, ⟨hlt, by rw [hv]; simp⟩, tD, tS, tH⟩
          · rw [show (operand06 m.code[k].op != 8) = false by rw [bne, hop]; rfl] at hv
            cases hu : usedR g m.code[k].t
            · rw [hu] at c1 hv
              repeat' (first | (refine shC ?_; first | refine qC co ?_ | refine qC c1 ?_) | (refine shX ?_; first | refine qX he ?_) | refine sK ?_ | refine sC (fun _ => ?_) (fun _ => ?_) | fail)
              exact retq rfl (by rw [hv]; simp [retPV])
            · rw [hu] at c1 hv
              repeat' (first | (refine shC ?_; first | refine qC co ?_ | refine qC c1 ?_) | (refine shX ?_; first | refine qX he ?_) | refine sK ?_ | refine sC (fun _ => ?_) (fun _ => ?_) | fail)
              exact ⟨k + 1, ⟨hlt, by rw [hv]; simp⟩, tD, tS, tH⟩
        · rw [drop_end (by omega)] at hv
          repeat' (first | refine sK ?_ | refine sC (fun _ => ?_) (fun _ => ?_) | fail)
          refine aw_loop (fun k : Nat => [(2, .pv (.ptr (imgPV g) 0)), (3, .pv (.ptr (mePV m) 0)), (10, .pv (pi k))]) (fun _ => [])
            (fun k => k ≤ m.clauses.length ∧ typedR g m = (m.clauses.drop k).all (fun c => c.kind != 1 || usedR g c.t)) (fun k => m.clauses.length - k) 0 ⟨by omega, by rw [hv]; simp⟩ (tS) tH ?_
          clear hk hv hlt
          rintro k ⟨hk, hv⟩
          by_cases hlt : k < m.clauses.length
          · have he := map_get (f := clPV) hlt
            have c1 := UsedR_call g m.clauses[k].t
            rw [drop_all hlt] at hv
            cases hop : m.clauses[k].kind == 1
            · rw [show (m.clauses[k].kind != 1) = true by rw [bne, hop]; rfl] at hv
              repeat' (first | (refine shX ?_; first | refine qX he ?_) | refine sK ?_ | refine sC (fun _ => ?_) (fun _ => ?_) | fail)
              exact ⟨k + 1, ⟨hlt, by rw [hv]; simp⟩, tD, tS, tH⟩
            · rw [show (m.clauses[k].kind != 1) = false by rw [bne, hop]; rfl] at hv
              cases hu : usedR g m.clauses[k].t
              · rw [hu] at c1 hv
                repeat' (first | (refine shC ?_; first | refine qC c1 ?_) | (refine shX ?_; first | refine qX he ?_) | refine sK ?_ | refine sC (fun _ => ?_) (fun _ => ?_) | fail)
                exact retq rfl (by rw [hv]; simp [retPV])
              · rw [hu] at c1 hv
                repeat' (first | (refine shC ?_; first | refine qC c1 ?_) | (refine shX ?_; first | refine qX he ?_) | refine sK ?_ | refine sC (fun _ => ?_) (fun _ => ?_) | fail)
                exact ⟨k + 1, ⟨hlt, by rw [hv]; simp⟩, tD, tS, tH⟩
          · rw [drop_end (by omega)] at hv
            repeat' (first | refine sK ?_ | refine sC (fun _ => ?_) (fun _ => ?_) | fail)
            exact retq rfl (by rw [hv]; rfl)
end Go.Cg
