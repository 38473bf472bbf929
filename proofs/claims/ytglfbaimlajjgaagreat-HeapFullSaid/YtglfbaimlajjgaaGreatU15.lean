/- A part of the walks by abstract values: no statement of its own. -/
import Derived.Test.YtglfbaimlajjgaaGreatU13
namespace Go.Cg
open Go.Proofs

theorem ext_kind0 {g : Img} (hW : Wl g) {t : Int} {td : TD} (h : typeAt g t = some td) (he : 0 ≤ td.ext) : kindG g t = 0 ∧ kindG g td.ext = 0 := by
  refine ⟨?_, (hW.extk h).resolve_left (by omega)⟩
  have hfl := hW.flag t td h
  rw [kindG, h]
  simp only
  have hne : (td.ext == -1) = false := by simp; omega
  have hr : kindR td.flags = 2 ∨ kindR td.flags = 1 ∨ kindR td.flags = 3 ∨ kindR td.flags = 0 := by
    unfold kindR
    cases bitF td.flags 2 <;> cases bitF td.flags 1 <;> cases bitF td.flags 16 <;> simp
  rw [flaggedR, hne] at hfl
  rcases hr with h1 | h1 | h1 | h1
  · rw [h1] at hfl; simp at hfl
  · rw [h1] at hfl; simp at hfl
  · rw [h1] at hfl; simp at hfl
  · exact h1
theorem objT_cons {g : Img} (hW : Wl g) {t : Int} {td : TD} (h : typeAt g t = some td) : objT g t = objT g td.ext ++ fcs g (ownF g t) := by
  rw [objT, hW.up_cons h, List.reverse_cons, List.flatMap_append]
  simp [objT]
set_option maxHeartbeats 1000000 in
theorem LayoutBelow_call (g : Img) (hx : OkA g) (a : Int) (ha0 : 0 ≤ a) (ha1 : a ≤ 255) : ACall Tryz.prog 4 [imgPV g, .base (.int .u8 a)] (pb true) := by
  refine acall_intro tbOK Tryz.func4 rfl (by kernel_rfl) Tryz.ntmps4 (by simp) _ rfl (fun hw gB hgB => ?_)
  have c1 := Long_call g
  cases hl : longG g
  · rw [hl] at c1
    have c7 := FineR_call g
    cases hfi : fineR g
    · rw [hfi] at c7
      repeat' (first | (refine shC ?_; first | refine qC wakes12_call ?_ | refine qC c1 ?_ | refine qC c7 ?_) | refine sK ?_ | refine sC (fun _ => ?_) (fun _ => ?_) | fail)
      all_goals exact retq rfl rfl
    · have hF := fine_of hfi
      have hW := well_wl hF.well
      have hN := (formedG_bounds hF.formed).1
      rw [hfi] at c7
      by_cases hn : g.types.length = 0
      · have hnb : ((((g.types.map tdPV).length : Nat) : Int) == 0) = true := by simp [hn]
        repeat' (first | (refine shC ?_; first | refine qC wakes12_call ?_ | refine qC c1 ?_ | refine qC c7 ?_) | refine sK ?_ | refine sC (fun _ => ?_) (fun _ => ?_) | fail)
        all_goals exact retq rfl rfl
      · have hnb : ((((g.types.map tdPV).length : Nat) : Int) == 0) = false := by rw [List.length_map, beq_eq_false_iff_ne]; omega
        have hne : (((g.types.map tdPV).length : Nat) : Int) ≠ 0 := by rw [List.length_map]; omega
        have hlen : (g.types.map tdPV).length = g.types.length := by simp
        obtain ⟨hx0, hx1⟩ := u8_rem ha0 ha1 hn
        rw [← hlen] at hx0 hx1
        obtain ⟨t, hxx⟩ : ∃ x, (IntKind.i64.wrap a).tmod (((g.types.map tdPV).length : Nat) : Int) = x := ⟨_, rfl⟩
        rw [hxx] at hx0 hx1
        rw [hlen] at hx1
        obtain ⟨td, htd⟩ := typeAt_of_lt ⟨hx0, hx1⟩
        obtain ⟨t0, het⟩ := typeAt_get htd
        by_cases hb : 0 ≤ td.ext
        · obtain ⟨k1, k2⟩ := ext_kind0 hW htd hb
          have hd1 : decide (td.ext < 0) = false := decide_eq_false (by omega)
          have c2 := ObjectA_call g hx t
          have c3 := ObjectA_call g hx td.ext
          rw [show objectA g t = objT g t by simp [objectA, hfi, k1]] at c2
          rw [show objectA g td.ext = objT g td.ext by simp [objectA, hfi, k2]] at c3
          have hc := objT_cons hW htd
          have hle : (objT g td.ext).length ≤ (objT g t).length := by rw [hc]; simp
          have htake : (objT g t).take (objT g td.ext).length = objT g td.ext := by rw [hc]; simp
          have hd2 : decide ((((objT g td.ext).map tyPV).length : Int) ≤ (((objT g t).map tyPV).length : Nat)) = true := by simp; omega
          have c4 := SameTypes_call (objT g td.ext) (objT g td.ext)
          rw [decide_eq_true rfl] at c4
          have c4' : ACall Tryz.prog 23 [.slc 4 ((((objT g t).take (objT g td.ext).length).drop 0).map tyPV) false, tys (objT g td.ext)] (pb true) := by
            rw [List.drop_zero, htake]; exact c4
          repeat' (first | refine ao_q rfl (q_rem t tbOK rfl rfl rfl hne hxx) rfl rfl ?_ | refine ao_q rfl (q_slice_map (xs := objT g t) (f := tyPV) 0 (objT g td.ext).length tbOK rfl rfl rfl rfl rfl rfl (by simp [boundE]; rfl) (by omega) hle) rfl rfl ?_ | (refine shC ?_; first | refine qC wakes12_call ?_ | refine qC c1 ?_ | refine qC c7 ?_ | refine qC c2 ?_ | refine qC c3 ?_ | refine qC c4' ?_) | (refine shX ?_; first | refine ao_q rfl (q_index tbOK rfl rfl rfl rfl rfl rfl t0 het) rfl rfl ?_ | refine AD.step _ _ _ _ _ rfl (q_index tbOK rfl rfl rfl rfl rfl rfl t0 het) rfl rfl ?_) | refine sK ?_ | refine sC (fun _ => ?_) (fun _ => ?_) | fail)
          all_goals exact retq rfl rfl
        · have hd1 : decide (td.ext < 0) = true := decide_eq_true (by omega)
          repeat' (first | refine ao_q rfl (q_rem t tbOK rfl rfl rfl hne hxx) rfl rfl ?_ | (refine shC ?_; first | refine qC wakes12_call ?_ | refine qC c1 ?_ | refine qC c7 ?_) | (refine shX ?_; first | refine ao_q rfl (q_index tbOK rfl rfl rfl rfl rfl rfl t0 het) rfl rfl ?_ | refine AD.step _ _ _ _ _ rfl (q_index tbOK rfl rfl rfl rfl rfl rfl t0 het) rfl rfl ?_) | refine sK ?_ | refine sC (fun _ => ?_) (fun _ => ?_) | fail)
          all_goals exact retq rfl rfl
  · rw [hl] at c1
    repeat' (first | (refine shC ?_; first | refine qC wakes12_call ?_ | refine qC c1 ?_) | refine sK ?_ | refine sC (fun _ => ?_) (fun _ => ?_) | fail)
    all_goals exact retq rfl rfl
set_option maxHeartbeats 1000000 in
theorem LayoutSum_call (g : Img) (hx : OkA g) (a : Int) (ha0 : 0 ≤ a) (ha1 : a ≤ 255) : ACall Tryz.prog 6 [imgPV g, .base (.int .u8 a)] (pb true) := by
  refine acall_intro tbOK Tryz.func6 rfl (by kernel_rfl) Tryz.ntmps6 (by simp) _ rfl (fun hw gB hgB => ?_)
  have c1 := Long_call g
  cases hl : longG g
  · rw [hl] at c1
    have c7 := FineR_call g
    cases hfi : fineR g
    · rw [hfi] at c7
      repeat' (first | (refine shC ?_; first | refine qC wakes12_call ?_ | refine qC c1 ?_ | refine qC c7 ?_) | refine sK ?_ | refine sC (fun _ => ?_) (fun _ => ?_) | fail)
      all_goals exact retq rfl rfl
    · have hF := fine_of hfi
      have hN := (formedG_bounds hF.formed).1
      have hgl := (formedG_bounds hF.formed).2.1
      rw [hfi] at c7
      by_cases hn : g.types.length = 0
      · have hnb : ((((g.types.map tdPV).length : Nat) : Int) == 0) = true := by simp [hn]
        repeat' (first | (refine shC ?_; first | refine qC wakes12_call ?_ | refine qC c1 ?_ | refine qC c7 ?_) | refine sK ?_ | refine sC (fun _ => ?_) (fun _ => ?_) | fail)
        all_goals exact retq rfl rfl
      · have hnb : ((((g.types.map tdPV).length : Nat) : Int) == 0) = false := by rw [List.length_map, beq_eq_false_iff_ne]; omega
        have hne : (((g.types.map tdPV).length : Nat) : Int) ≠ 0 := by rw [List.length_map]; omega
        have hlen : (g.types.map tdPV).length = g.types.length := by simp
        obtain ⟨hx0, hx1⟩ := u8_rem ha0 ha1 hn
        rw [← hlen] at hx0 hx1
        obtain ⟨t, hxx⟩ : ∃ x, (IntKind.i64.wrap a).tmod (((g.types.map tdPV).length : Nat) : Int) = x := ⟨_, rfl⟩
        rw [hxx] at hx0 hx1
        rw [hlen] at hx1
        have ck := KindR_call g t
        have cw := Words_call g hx ⟨6, t, 0, false⟩
        by_cases hk : kindG g t = 1
        · rw [hk] at ck
          have hus : usedR g ⟨6, t, 0, false⟩ = true := by
            rw [usedR]
            have : plainT ⟨6, t, 0, false⟩ = true := by
              rw [plainT]; simp; omega
            rw [this]; simp [hk]
          rw [cellsA_yes hfi hus] at cw
          have hcl := hF.used_le hus
          have hlenc := cells_open_len hF.well hF.used (t := ⟨6, t, 0, false⟩) (by simp [whole])
          simp only at hlenc
          generalize (cellsT g ⟨6, t, 0, false⟩).length = c at cw hcl hlenc
          have hown := fcs_filter_le hF (ownP t)
          repeat' (first | refine ao_q rfl (q_rem t tbOK rfl rfl rfl hne hxx) rfl rfl ?_ | (refine shC ?_; first | refine qC wakes12_call ?_ | refine qC c1 ?_ | refine qC c7 ?_ | refine qC ck ?_ | refine qC cw ?_) | refine sK ?_ | refine sC (fun _ => ?_) (fun _ => ?_) | fail)
          refine aw_loop (fun m : Nat => [(2, .pv (.ptr (imgPV g) 0)), (5, .pv (pi t)), (6, .pv (pi c)), (7, .pv (pi ((fcs g ((g.fields.take m).filter (ownP t))).length : Nat))), (42, .pv (.slc 7 (g.fields.map fdPV) false)), (43, .pv (pi g.fields.length)), (44, .pv (pi m))]) (fun _ => [])
            (fun m => m ≤ g.fields.length) (fun m => g.fields.length - m) 0 (by omega) (by repeat (first | exact sub_nil | refine sub_cons rfl ?_ | (refine sub_i rfl ?_ ?_; · (simp [])))) tH ?_
          rintro m hm
          have hb1 := hown m
          by_cases hlt : m < g.fields.length
          · have he := map_get (f := fdPV) hlt
            have c2 := Words_call g hx g.fields[m].ty
            have hu := allUsed_at hF.used (List.getElem_mem hlt)
            rw [cellsA_yes hfi hu] at c2
            have hcf := hF.used_le hu
            cases hp : ownP t g.fields[m]
            · have hs := filter_take_no (g := g) hlt hp
              have hpa : (g.fields[m].owner == t && !g.fields[m].static) = false := hp
              repeat' (first | (refine shX ?_; first | refine qX he ?_) | refine sA ?_ | refine sC (fun _ => ?_) (fun _ => ?_) | fail)
              all_goals first
                | exact ⟨m + 1, hlt, tD, by repeat (first | exact sub_nil | refine sub_cons rfl ?_ | (refine sub_i rfl ?_ ?_; · (first | (rw [hs]; done) | (rw [wrap_in (by omega) (by omega)] <;> omega)))), tH⟩
                | (exfalso; simp_all; done)
            · have hs := filter_take_yes (g := g) hlt hp
              have hpa : (g.fields[m].owner == t && !g.fields[m].static) = true := hp
              rw [Bool.and_eq_true] at hpa
              obtain ⟨hp1, hp2⟩ := hpa
              repeat' (first | (refine shC ?_; first | refine qC c2 ?_) | (refine shX ?_; first | refine qX he ?_) | refine sK ?_ | refine sC (fun _ => ?_) (fun _ => ?_) | fail)
              all_goals first
                | exact ⟨m + 1, hlt, tD, by repeat (first | exact sub_nil | refine sub_cons rfl ?_ | (refine sub_i rfl ?_ ?_; · (first | (rw [hs, List.length_append, wrap_in (by omega) (by omega)]; omega) | (rw [wrap_in (by omega) (by omega)] <;> omega)))), tH⟩
                | (exfalso; simp_all; done)
          · rw [List.take_of_length_le (by omega)]
            have hown2 : g.fields.filter (ownP t) = ownF g t := rfl
            rw [hown2]
            have e1 : ((c : Int) == max (((fcs g (ownF g t)).length : Nat) : Int) 1) = true := by rw [beq_iff_eq, hlenc]; omega
            have e2 : decide ((c : Int) ≤ 8) = true := decide_eq_true (by omega)
            repeat' (first | refine ao_q rfl (q_max rfl rfl rfl) rfl rfl ?_ | refine sK ?_ | refine sC (fun _ => ?_) (fun _ => ?_) | fail)
            all_goals exact retq rfl (by simp only [retPV, e2])
        · have hkb : (kindG g t != 1) = true := by simp [hk]
          have hus : usedR g ⟨6, t, 0, false⟩ = false := by
            rw [usedR]; simp [hk]
          rw [cellsA_no (by rw [hus]; simp)] at cw
          repeat' (first | refine ao_q rfl (q_rem t tbOK rfl rfl rfl hne hxx) rfl rfl ?_ | (refine shC ?_; first | refine qC wakes12_call ?_ | refine qC c1 ?_ | refine qC c7 ?_ | refine qC ck ?_ | refine qC cw ?_) | refine sK ?_ | refine sC (fun _ => ?_) (fun _ => ?_) | fail)
          all_goals exact retq rfl rfl
  · rw [hl] at c1
    repeat' (first | (refine shC ?_; first | refine qC wakes12_call ?_ | refine qC c1 ?_) | refine sK ?_ | refine sC (fun _ => ?_) (fun _ => ?_) | fail)
    all_goals exact retq rfl rfl
end Go.Cg
