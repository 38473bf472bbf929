/- A part of the walks by abstract values: no statement of its own. -/
import Derived.Test.YtglfbaimlajjgaaGreatU2
import Derived.Test.YtglfbaimlajjgaaGreatU13
/- A nil slice in a field of a structure that the call owns is a row of its own. -/
namespace Go.Cg
open Go.RowKit
section
variable {P : Program} {n : Nat} {g : Base} {H : HEnv} {env : Env} {c : Code} {QQ : QC} {K : KK} {w : World} {ρ : Nat → Value}
def aggOf : AV → Option (List AV)
  | .agg cs => some cs
  | .pv (.agg ps) => some (ps.map .pv)
  | _ => none
theorem ARel.aggOf {v : AV} {cs : List AV} {u : Value} (h : ARel K w ρ H v u) (hc : Cg.aggOf v = some cs) : ARel K w ρ H (.agg cs) u := by
  cases h with
  | pv p v hp =>
    cases hp <;> simp [Cg.aggOf] at hc
    rename_i ps vs h1 h2 h3
    subst hc
    refine .agg _ vs (by simpa using h1) h2 fun k c v hc hv => ?_
    simp only [List.getElem?_map, Option.map_eq_some_iff] at hc
    obtain ⟨p, hp, rfl⟩ := hc
    exact .pv _ _ (h3 k p v hp hv)
  | agg ds vs h1 h2 h3 => simp only [Cg.aggOf, Option.some.injEq] at hc; subst hc; exact .agg _ vs h1 h2 h3
  | _ => simp [Cg.aggOf] at hc
theorem aw_own_nil_field (b i k : Nat) (e : TypeId) (sz : Nat) {v : AV} {cs : List AV} (hsz : 0 < sz) (hb : H.get b = some (.cell v)) (hv : aggOf v = some cs) (hk : cs[k]? = some (.pv (.base (.slice none 0 0)))) (hi : H.get i = none)
    (h : AW P n g c env ((b, .cell (.agg (cs.set k (.own i)))) :: (i, .row e sz []) :: H) QQ) : AW P n g c env H QQ := by
  refine ⟨fun a w hinv => h.go a w ?_⟩
  obtain ⟨h1, h2, K, ρ, hf, he⟩ := hinv
  have hev : Evo K K w w := .refl hf.lt
  have hne : b ≠ i := by rintro rfl; simp [hi] at hb
  have hf2 : FS g K (fun j => if j = i then .slice none 0 0 else ρ j) ((i, .row e sz []) :: H) w := hf.fresh hev hi ⟨[], World.ownsRow_nil w _ e sz, hsz, fun i e h => by simp at h, by simp [Value.ownBlock]⟩ (by simp [blockOf])
  have hkk : ∀ j, (HEnv.get ((i, HE.row e sz []) :: H) j).isSome = true → (HEnv.get ((b, .cell (.agg (cs.set k (.own i)))) :: (i, HE.row e sz []) :: H) j).isSome = true ∧ (fun j => if j = i then Value.slice none 0 0 else ρ j) j = (fun j => if j = i then Value.slice none 0 0 else ρ j) j := by
    intro j hj
    refine ⟨?_, rfl⟩
    simp only [HEnv.get_cons] at hj ⊢
    split
    · rfl
    · exact hj
  have hlat := hev.later hf.lt
  refine ⟨h1, h2, K, fun j => if j = i then .slice none 0 0 else ρ j, ⟨hf2.below, hf2.old, hf2.new, hf2.lt, hf2.others, hf2.pt, hf2.away.set (e0 := .cell v) (by rw [HEnv.get_cons, if_neg (Ne.symm hne)]; exact hb) rfl, ?_, ?_⟩, (he.keeps hlat (fresh_keeps hi _ _)).keeps hlat hkk⟩
  · intro j hh hj
    simp only [HEnv.get_cons] at hj
    split at hj
    · rename_i e'; subst e'
      simp only [Option.some.injEq] at hj; subst hj
      have hb2 := (hf2.heap.ok b (.cell v) (by rw [HEnv.get_cons, if_neg (Ne.symm hne)]; exact hb)).keeps hev hf.lt hkk
      obtain ⟨b', t', arr, u, hr, hB, hheap, hu, harr, hn⟩ := hb2
      refine ⟨b', t', arr, u, hr, hB, hheap, ?_, harr, hn⟩
      have hu' := hu.aggOf hv
      cases hu' with
      | agg _ vs a1 a2 a3 =>
        refine .agg _ vs (by simpa using a1) a2 fun m c x hc hx => ?_
        rw [List.getElem?_set] at hc
        split at hc
        · rename_i e1; subst e1
          split at hc
          · simp only [Option.some.injEq] at hc; subst hc
            have := a3 k _ x hk hx
            cases this with
            | pv _ _ hp =>
              cases hp
              have := ARel.own (K := K) (w := w) (ρ := fun j => if j = i then .slice none 0 0 else ρ j) (H := (b, .cell (.agg (cs.set k (.own i)))) :: (i, HE.row e sz []) :: H) i (by simp [HEnv.get_cons, hne])
              simpa using this
          · cases hc
        · exact a3 m c x hc hx
    · exact (hf2.heap.ok j hh (by simpa only [HEnv.get_nil, HEnv.get_cons] using hj)).keeps hev hf.lt hkk
  · intro j k' hh hh' bb hjk hj hk' hlj hlk hbj hbk
    have e1 : ∀ (j : Nat) (hh : HE), HEnv.get ((b, .cell (.agg (cs.set k (.own i)))) :: (i, HE.row e sz []) :: H) j = some hh → hh.live = true → ∃ h0, HEnv.get ((i, HE.row e sz []) :: H) j = some h0 ∧ h0.live = true := by
      intro j hh hj hl
      rw [HEnv.get_cons] at hj
      split at hj
      · rename_i e'; subst e'
        refine ⟨.cell v, ?_, rfl⟩
        simp only [HEnv.get_cons]; rw [if_neg (Ne.symm hne)]; exact hb
      · exact ⟨hh, hj, hl⟩
    obtain ⟨a1, a2, a3⟩ := e1 j hh hj hlj
    obtain ⟨b1, b2, b3⟩ := e1 k' hh' hk' hlk
    exact hf2.heap.apart j k' a1 b1 bb hjk a2 b2 a3 b3 hbj hbk
end
end Go.Cg
namespace Go.Cg
open Go.Proofs

set_option maxHeartbeats 1000000 in
theorem SameCode_call (a : List Ins) : ACall Tryz.prog 111 [.slc 6 (a.map insPV) false, .slc 6 (a.map insPV) false] (pb true) := by
  refine acall_intro tbOK Tryz.func111 rfl (by kernel_rfl) Tryz.ntmps111 (by simp) _ rfl (fun hw gB hgB => ?_)
  have hl := hw.1
  simp only [PV.lenOk, List.length_map, maxLen] at hl
  repeat' (first | refine sK ?_ | refine sC (fun _ => ?_) (fun _ => ?_) | fail)
  refine aw_loop (fun k : Nat => [(0, .pv (.slc 6 (a.map insPV) false)), (1, .pv (.slc 6 (a.map insPV) false)), (5, .pv (pi k))]) (fun _ => []) (fun k => k ≤ a.length) (fun k => a.length - k) 0 (by simp) (tS) tH ?_
  rintro k hk
  by_cases hlt : k < a.length
  · have he := map_get (f := insPV) hlt
    repeat' (first | (refine shX ?_; first | refine qX he ?_) | refine sK ?_ | refine sC (fun _ => ?_) (fun _ => ?_) | fail)
    all_goals exact ⟨k + 1, by omega, tD, tS, tH⟩
  · repeat' (first | refine sK ?_ | refine sC (fun _ => ?_) (fun _ => ?_) | fail)
    all_goals exact retq rfl rfl

set_option maxHeartbeats 1000000 in
theorem sameMethod_call (m : Me) : ACall Tryz.prog 68 [mePV m, mePV m] (pb true) := by
  refine acall_intro tbOK Tryz.func68 rfl (by kernel_rfl) Tryz.ntmps68 (by simp) _ rfl (fun hw gB hgB => ?_)
  have hl := hw.1
  simp only [PV.lenOk, lensOk, mePV, List.length_map, maxLen] at hl
  have c1 := SameTypes_call m.params m.params
  have c2 := SameTypes_call m.locals m.locals
  rw [decide_eq_true rfl] at c1 c2
  repeat' (first | refine sK ?_ | refine sC (fun _ => ?_) (fun _ => ?_) | fail)
  refine aw_loop (fun k : Nat => [(2, .pv (.ptr (mePV m) 0)), (3, .pv (.ptr (mePV m) 0)), (5, .pv (pi k))]) (fun _ => []) (fun k => k ≤ m.clauses.length) (fun k => m.clauses.length - k) 0 (by simp) (tS) tH ?_
  rintro k hk
  by_cases hlt : k < m.clauses.length
  · have he := map_get (f := clPV) hlt
    repeat' (first | (refine shX ?_; first | refine qX he ?_) | refine sK ?_ | refine sC (fun _ => ?_) (fun _ => ?_) | fail)
    all_goals exact ⟨k + 1, by omega, tD, tS, tH⟩
  · repeat' (first | (refine shC ?_; first | refine qC c1 ?_ | refine qC c2 ?_ | refine qC (SameCode_call _) ?_) | refine sK ?_ | refine sC (fun _ => ?_) (fun _ => ?_) | fail)
    all_goals exact retq rfl rfl

set_option maxHeartbeats 1000000 in
theorem SameImg_call (g : Img) : ACall Tryz.prog 20 [imgPV g, imgPV g] (pb true) := by
  refine acall_intro tbOK Tryz.func20 rfl (by kernel_rfl) Tryz.ntmps20 (by simp) _ rfl (fun hw gB hgB => ?_)
  obtain ⟨hl1, hl2, hl3⟩ := img_len hw.1
  repeat' (first | refine sK ?_ | refine sC (fun _ => ?_) (fun _ => ?_) | fail)
  refine aw_loop (fun k : Nat => [(2, .pv (.ptr (imgPV g) 0)), (3, .pv (.ptr (imgPV g) 0)), (5, .pv (pi k))]) (fun _ => []) (fun k => k ≤ g.types.length) (fun k => g.types.length - k) 0 (by simp) (tS) tH ?_
  rintro k hk
  by_cases hlt : k < g.types.length
  · have he := map_get (f := tdPV) hlt
    have c1 := SameInts_call g.types[k].faces g.types[k].faces
    rw [decide_eq_true rfl] at c1
    repeat' (first | (refine shC ?_; first | refine qC c1 ?_) | (refine shX ?_; first | refine qX he ?_) | refine sK ?_ | refine sC (fun _ => ?_) (fun _ => ?_) | fail)
    all_goals exact ⟨k + 1, by omega, tD, tS, tH⟩
  · repeat' (first | refine sK ?_ | refine sC (fun _ => ?_) (fun _ => ?_) | fail)
    refine aw_loop (fun k : Nat => [(2, .pv (.ptr (imgPV g) 0)), (3, .pv (.ptr (imgPV g) 0)), (8, .pv (pi k))]) (fun _ => []) (fun k => k ≤ g.fields.length) (fun k => g.fields.length - k) 0 (by simp) (tS) tH ?_
    clear hk hlt
    rintro k hk
    by_cases hlt : k < g.fields.length
    · have he := map_get (f := fdPV) hlt
      repeat' (first | (refine shX ?_; first | refine qX he ?_) | refine sK ?_ | refine sC (fun _ => ?_) (fun _ => ?_) | fail)
      all_goals exact ⟨k + 1, by omega, tD, tS, tH⟩
    · repeat' (first | refine sK ?_ | refine sC (fun _ => ?_) (fun _ => ?_) | fail)
      refine aw_loop (fun k : Nat => [(2, .pv (.ptr (imgPV g) 0)), (3, .pv (.ptr (imgPV g) 0)), (9, .pv (pi k))]) (fun _ => []) (fun k => k ≤ g.methods.length) (fun k => g.methods.length - k) 0 (by simp) (tS) tH ?_
      clear hk hlt
      rintro k hk
      by_cases hlt : k < g.methods.length
      · have he := map_get (f := mePV) hlt
        repeat' (first | (refine shC ?_; first | refine qC (sameMethod_call _) ?_) | (refine shX ?_; first | refine qX he ?_) | refine sK ?_ | refine sC (fun _ => ?_) (fun _ => ?_) | fail)
        all_goals exact ⟨k + 1, by omega, tD, tS, tH⟩
      · repeat' (first | refine sK ?_ | refine sC (fun _ => ?_) (fun _ => ?_) | fail)
        all_goals exact retq rfl rfl
end Go.Cg
namespace Go.Cg
open Go.Proofs

theorem take_map_succ {α β : Type} {f : α → β} {l : List α} {k : Nat} (h : k < l.length) : (l.take k).map f ++ [f l[k]] = (l.take (k + 1)).map f := by
  rw [List.take_succ_eq_append_getElem h, List.map_append, List.map_cons, List.map_nil]
theorem bnd {n b c : Nat} (m : Nat) (h : n ≤ m) (h2 : m * b ≤ c) : n * b ≤ c := Nat.le_trans (Nat.mul_le_mul_right _ h) h2
set_option maxHeartbeats 4000000 in
theorem Copied_call (g : Img) (hl : longG g = false) : ACall Tryz.prog 17 [imgPV g] (imgPV g) := by
  refine acall_intro tbOK Tryz.func17 rfl (by kernel_rfl) Tryz.ntmps17 (by simp) _ rfl (fun hw gB hgB => ?_)
  simp only [longG, Bool.or_eq_false_iff, Bool.not_eq_false', decide_eq_true_eq] at hl
  obtain ⟨⟨⟨⟨hl1, hl2⟩, hl3⟩, hl4⟩, hl5⟩ := hl
  have ht : ∀ t ∈ g.types, t.faces.length ≤ 20 := fun t h => by
    have := List.any_eq_false.1 hl4 t h
    simp only [longT, Bool.or_eq_true, Bool.not_eq_true', decide_eq_false_iff_not, not_or, Decidable.not_not] at this
    omega
  have hm : ∀ m ∈ g.methods, m.params.length ≤ 30 ∧ m.locals.length ≤ 30 ∧ m.code.length ≤ 200 ∧ m.clauses.length ≤ 20 := fun m h => by
    have := List.any_eq_false.1 hl5 m h
    simp only [longM, Bool.or_eq_true, Bool.not_eq_true', decide_eq_false_iff_not, not_or, Decidable.not_not] at this
    omega
  repeat' (first | refine sK ?_ | refine sC (fun _ => ?_) (fun _ => ?_) | fail)
  refine aw_own_nil_field 1 10 0 38 4 (by decide) rfl rfl rfl rfl ?_
  refine aw_own_nil_field 1 11 1 50 7 (by decide) rfl rfl rfl rfl ?_
  refine aw_own_nil_field 1 12 2 65 12 (by decide) rfl rfl rfl rfl ?_
  refine aw_loop (fun k : Nat => [(1, .pv (.ptr (imgPV g) 0)), (2, .box 0 0), (3, .box 1 0), (4, .pv (pi k))])
    (fun k => [(0, .cell (.pv (.agg [.base (.slice none 0 0), .base (.slice none 0 0), .base (.slice none 0 0), pi 0]))), (1, .cell (.agg [.own 10, .own 11, .own 12, .pv (pi g.entry)])), (10, .row 38 4 ((g.types.take k).map tdPV)), (11, .row 50 7 []), (12, .row 65 12 [])])
    (fun k => k ≤ g.types.length) (fun k => g.types.length - k) 0 (by simp) (tS) tH ?_
  rintro k hk
  by_cases hlt : k < g.types.length
  · have he := map_get (f := tdPV) hlt
    have hf := ht _ (List.getElem_mem hlt)
    have hkl : ((g.types.take k).map tdPV).length = k := by rw [List.length_map, List.length_take]; omega
    repeat' (first | (refine shX ?_; first | refine qX he ?_) | (refine ao_sh_bi ?_; first | refine ao_q rfl (q_append tbOK rfl rfl (.inr ⟨rfl, rfl⟩) rfl rfl (by show _ * 8 ≤ _; simp; omega) (by simp; omega)) rfl rfl ?_ | refine ao_append tbOK rfl rfl rfl rfl rfl rfl rfl (by show _ * 56 ≤ _; rw [hkl]; simp; omega) (by rw [hkl]; simp; omega) rfl rfl ?_) | refine sK ?_ | refine sC (fun _ => ?_) (fun _ => ?_) | fail)
    all_goals exact ⟨k + 1, hlt, tD, tS, ⟨hsub_cons rfl (hsub_cons rfl (hsub_r rfl (take_map_succ hlt) (hsub_cons rfl (hsub_cons rfl hsub_nil)))), rfl⟩⟩
  · obtain rfl : k = g.types.length := by omega
    rw [List.take_length]
    repeat' (first | (refine ao_sh_bi ?_; first | refine ao_append tbOK rfl rfl rfl rfl rfl rfl rfl (by show _ * 64 ≤ _; simp; omega) (by simp; omega) rfl rfl ?_) | refine sK ?_ | refine sC (fun _ => ?_) (fun _ => ?_) | fail)
    refine aw_loop (fun k : Nat => [(1, .pv (.ptr (imgPV g) 0)), (2, .box 0 0), (3, .box 1 0), (7, .pv (pi k))])
      (fun k => [(0, .cell (.pv (.agg [.base (.slice none 0 0), .base (.slice none 0 0), .base (.slice none 0 0), pi 0]))), (1, .cell (.agg [.own 10, .own 11, .own 12, .pv (pi g.entry)])), (10, .row 38 4 (g.types.map tdPV)), (11, .row 50 7 (g.fields.map fdPV)), (12, .row 65 12 ((g.methods.take k).map mePV))])
      (fun k => k ≤ g.methods.length) (fun k => g.methods.length - k) 0 (by simp) (tS) ⟨hsub_cons rfl (hsub_cons rfl (hsub_cons rfl (hsub_r rfl (by simp) (hsub_cons rfl hsub_nil)))), rfl⟩ ?_
    clear hk hlt
    rintro k hk
    by_cases hlt : k < g.methods.length
    · have he := map_get (f := mePV) hlt
      obtain ⟨hf1, hf2, hf3, hf4⟩ := hm _ (List.getElem_mem hlt)
      have hkl : ((g.methods.take k).map mePV).length = k := by rw [List.length_map, List.length_take]; omega
      repeat' (first | (refine shX ?_; first | refine qX he ?_) | (refine ao_sh_bi ?_; first | refine ao_q rfl (q_append tbOK rfl rfl (.inr ⟨rfl, rfl⟩) rfl rfl (bnd 200 (by simp; omega) (by decide)) (by simp; omega)) rfl rfl ?_ | refine ao_append tbOK rfl rfl rfl rfl rfl rfl rfl (by show _ * 168 ≤ _; rw [hkl]; simp; omega) (by rw [hkl]; simp; omega) rfl rfl ?_) | refine sK ?_ | refine sC (fun _ => ?_) (fun _ => ?_) | fail)
      all_goals exact ⟨k + 1, hlt, tD, tS, ⟨hsub_cons rfl (hsub_cons rfl (hsub_cons rfl (hsub_cons rfl (hsub_r rfl (take_map_succ hlt) hsub_nil)))), rfl⟩⟩
    · obtain rfl : k = g.methods.length := by omega
      rw [List.take_length]
      repeat' (first | refine sK ?_ | refine sC (fun _ => ?_) (fun _ => ?_) | fail)
      all_goals exact retq rfl rfl

set_option maxHeartbeats 1000000 in
theorem LayoutCheck_call (g : Img) (hx : OkA g) : ACall Tryz.prog 3 [imgPV g] (pb true) := by
  refine acall_intro tbOK Tryz.func3 rfl (by kernel_rfl) Tryz.ntmps3 (by simp) _ rfl (fun hw gB hgB => ?_)
  have c1 := Long_call g
  cases hl : longG g
  · rw [hl] at c1
    repeat' (first | (refine shC ?_; first | refine qC wakes12_call ?_ | refine qC c1 ?_ | refine qC (Copied_call g hl) ?_ | refine qC (CheckL_call g hx) ?_ | refine qC (CheckR12_call g) ?_ | refine qC (SameImg_call g) ?_) | refine sK ?_ | refine sC (fun _ => ?_) (fun _ => ?_) | fail)
    all_goals exact retq rfl (by simp [retPV])
  · rw [hl] at c1
    repeat' (first | (refine shC ?_; first | refine qC wakes12_call ?_ | refine qC c1 ?_) | refine sK ?_ | refine sC (fun _ => ?_) (fun _ => ?_) | fail)
    all_goals exact retq rfl rfl
end Go.Cg
