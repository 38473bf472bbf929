/- A part of the walks by abstract values: no statement of its own. -/
import Derived.Test.YtglfbaimlajjgaaGreatU17
import Derived.Test.YtglfbaimlajjgaaGreatU12
import Derived.Test.YtglfbaimlajjgaaGreatU7
import Derived.Test.YtglfbaimlajjgaaGreatU16
namespace Go.Cg
open Go.Proofs
theorem tSO {P : Prop} (h : P := by repeat (first | exact sub_nil | refine sub_cons rfl ?_ | (refine sub_i rfl ?_ ?_; · (first | omega | (rw [wrap_in (by omega) (by omega)] <;> omega) | (dsimp only; rw [wrap_in (by omega) (by omega)] <;> omega) | (simp; done))))) : P := h

/-! the document's table -/
theorem mAt_get {g : Img} {x : Int} (h : mOk g x) : (g.methods.map mePV)[x.toNat]? = some (mePV (mAt g x)) := by
  rw [mAt, getD_get h.2]; exact map_get' h.2
theorem tblFold_snoc (g : Img) (out ms : List Int) (k : Nat) (h : k < ms.length) : tblFold g out (ms.take (k + 1)) = tblStep g (tblFold g out (ms.take k)) ms[k] := by
  rw [List.take_succ_eq_append_getElem h, tblFold, List.foldl_append]; rfl
theorem not_there {g : Img} {t : Int} (h : typeAt g t = none) : there g t = false := by
  cases hh : there g t with
  | false => rfl
  | true => obtain ⟨td, h2⟩ := (there_iff g t).1 hh; rw [h] at h2; cases h2
set_option maxHeartbeats 1000000 in
theorem TableN_call (g : Img) (t : Int) (ht : typeAt g t = none) : ACall Tryz.prog 45 [imgPV g, pi t] (ints (tbl g t)) := by
  have c1 := There_call g t
  rw [not_there ht] at c1
  rw [tbl_none ht]
  refine acall_intro tbOK Tryz.func45 rfl (by kernel_rfl) Tryz.ntmps45 (by simp) _ rfl (fun hw gB hgB => ?_)
  repeat' (first | refine aw_own_nil (t := 5) 10 3 1 (by decide) rfl rfl ?_ | (refine shC ?_; first | refine qC c1 ?_) | refine sA ?_ | refine sC (fun _ => ?_) (fun _ => ?_) | fail)
  exact retq rfl rfl
set_option maxHeartbeats 2000000 in
theorem Table_call (g : Img) (hF : Fine g) : ∀ (n : Nat) (t : Int), (up g t).length ≤ n → ACall Tryz.prog 45 [imgPV g, pi t] (ints (tbl g t)) := by
  have hW := well_wl hF.well
  have hgm : g.methods.length ≤ 64 := (formedG_bounds hF.formed).2.2.1
  intro n
  induction n with
  | zero =>
    intro t hn
    cases ht : typeAt g t with
    | some td => rw [hW.up_cons ht] at hn; simp at hn
    | none => exact TableN_call g t ht
  | succ n ih =>
    intro t hn
    cases ht : typeAt g t with
    | none => exact TableN_call g t ht
    | some td =>
      have c1 := There_call g t
      rw [(there_iff g t).2 ⟨td, ht⟩] at c1
      have c2 := ih td.ext (by rw [hW.up_cons ht] at hn; simpa using hn)
      obtain ⟨h0, he⟩ := typeAt_get ht
      have hl0 := tbl_len hF td.ext
      have c3 := MethodsR_call g t (by omega)
      have hml := methodsOf_len g t
      refine acall_intro tbOK Tryz.func45 rfl (by kernel_rfl) Tryz.ntmps45 (by simp) _ rfl (fun hw gB hgB => ?_)
      repeat' (first | refine aw_mown_nil (t := 5) 10 3 1 (by decide) rfl rfl ?_ | refine aw_draw_tailL 11 9 rfl (by kernel_rfl) (by kernel_rfl) (by kernel_rfl) (by kernel_rfl) (by kernel_rfl) ?_ | (refine shC ?_; first | refine qC c1 ?_ | refine qC c2 ?_ | refine qC c3 ?_) | (refine shX ?_; first | refine ao_q rfl (q_index tbOK rfl rfl rfl rfl rfl rfl h0 he) rfl rfl ?_ | refine AD.step _ _ _ _ _ rfl (q_index tbOK rfl rfl rfl rfl rfl rfl h0 he) rfl rfl ?_) | (refine ao_sh_bi ?_; first | refine ao_mappend tbOK rfl rfl rfl rfl rfl rfl rfl (by show _ * 8 ≤ _; simp; omega) (by simp; omega) rfl rfl ?_) | refine sA ?_ | refine sC (fun _ => ?_) (fun _ => ?_) | fail)
      refine aw_loop (fun k : Nat => [(2, .pv (.ptr (imgPV g) 0)), (5, .own 10), (6, .pv (ints (methodsOf g t))), (7, .pv (pi k))]) (fun k => [(10, .mrow 3 1 ((tblFold g (tbl g td.ext) ((methodsOf g t).take k)).map pi))])
        (fun k => k ≤ (methodsOf g t).length) (fun k => (methodsOf g t).length - k) 0 (by omega) (tS) ⟨hsub_m rfl rfl hsub_nil, rfl⟩ ?_
      rintro k hk
      by_cases hlt : k < (methodsOf g t).length
      · obtain ⟨x, hx⟩ : ∃ x, x = (methodsOf g t)[k] := ⟨_, rfl⟩
        have hex : ((methodsOf g t).map pi)[k]? = some (pi x) := by rw [hx]; exact map_get (f := pi) hlt
        have hmx : mOk g x := by rw [hx]; exact methodsOf_mem (List.getElem_mem hlt)
        have hem := mAt_get hmx
        have hs := tblFold_snoc g (tbl g td.ext) _ k hlt
        rw [← hx] at hs
        obtain ⟨out, ho⟩ : ∃ o, o = tblFold g (tbl g td.ext) ((methodsOf g t).take k) := ⟨_, rfl⟩
        have hol : out.length ≤ 2112 := by
          have := (tblFold_len g ((methodsOf g t).take k) (tbl g td.ext)).2
          have h2 : ((methodsOf g t).take k).length ≤ 64 := by simp; omega
          rw [ho]; omega
        have hom : ∀ y ∈ out, mOk g y := by
          intro y hy
          rw [ho] at hy
          rcases tblFold_mem hy with hy | hy
          · exact tbl_mem hy
          · exact methodsOf_mem (List.mem_of_mem_take hy)
        rw [← ho] at hs ⊢
        have b2 := Bit2_call (mAt g x)
        have b8 := Bit8_call (mAt g x)
        cases hv : virt g x
        · rw [show bitF (mAt g x).flags 2 = false from hv] at b2
          repeat' (first | refine aw_draw_box 1 8 9 0 7 tbOK (by kernel_rfl) (by kernel_rfl) rfl rfl rfl rfl rfl rfl rfl rfl rfl rfl rfl rfl rfl rfl rfl rfl rfl rfl rfl rfl rfl rfl ?_ | refine ad_shadow rfl rfl ?_ | refine ⟨_, _, rfl, rfl, ?_⟩ | (refine shC ?_; first | refine qC b2 ?_) | (refine shX ?_; first | refine qX hex ?_ | refine ao_q rfl (q_index tbOK rfl rfl rfl rfl rfl rfl hmx.1 hem) rfl rfl ?_ | refine AD.step _ _ _ _ _ rfl (q_index tbOK rfl rfl rfl rfl rfl rfl hmx.1 hem) rfl rfl ?_) | refine sK ?_ | refine sC (fun _ => ?_) (fun _ => ?_) | fail)
          exact ⟨k + 1, hlt, tD, tS, ⟨hsub_m rfl (by rw [hs, tblStep, hv]; rfl) hsub_nil, rfl⟩⟩
        · rw [show bitF (mAt g x).flags 2 = true from hv] at b2
          rw [tblStep_at hv] at hs
          repeat' (first | refine aw_draw_box 1 8 9 0 7 tbOK (by kernel_rfl) (by kernel_rfl) rfl rfl rfl rfl rfl rfl rfl rfl rfl rfl rfl rfl rfl rfl rfl rfl rfl rfl rfl rfl rfl rfl ?_ | refine ad_shadow rfl rfl ?_ | refine ⟨_, _, rfl, rfl, ?_⟩ | (refine shC ?_; first | refine qC b2 ?_) | (refine shX ?_; first | refine qX hex ?_ | refine ao_q rfl (q_index tbOK rfl rfl rfl rfl rfl rfl hmx.1 hem) rfl rfl ?_ | refine AD.step _ _ _ _ _ rfl (q_index tbOK rfl rfl rfl rfl rfl rfl hmx.1 hem) rfl rfl ?_) | (refine ao_sh_bi ?_; first | refine ao_mlen tbOK rfl rfl rfl rfl rfl rfl rfl ?_) | refine sK ?_ | refine sC (fun _ => ?_) (fun _ => ?_) | fail)
          refine aw_loop (fun c : Nat => [(2, .pv (.ptr (imgPV g) 0)), (5, .own 10), (6, .pv (ints (methodsOf g t))), (7, .pv (pi k)), (8, .box 1 0), (9, .pv (pi (atF g out x c))), (10, .pv (pi ((c : Int) - 1)))])
            (fun c => [(10, .mrow 3 1 (out.map pi)), (1, .cell (.pv (mePV (mAt g x))))]) (fun c => c ≤ out.length) (fun c => c) out.length (by omega)
            (by rw [atF_end]; repeat (first | exact sub_nil | refine sub_cons rfl ?_ | (refine sub_i rfl ?_ ?_; · (rw [wrap_in (by simp; omega) (by simp; omega)]; simp)))) tH ?_
          rintro c hc
          cases c with
          | zero =>
            have hr := atF_range (g := g) (out := out) (m := x) 0
            obtain ⟨a, ha⟩ : ∃ a, a = atF g out x 0 := ⟨_, rfl⟩
            rw [← ha] at hs hr ⊢
            rcases hr with rfl | ⟨ha0, ha1⟩
            · rw [if_pos (by simp)] at hs
              repeat' (first | (refine shC ?_; first | refine qC b8 ?_) | (refine shX ?_; first | refine qX hex ?_) | (refine ao_sh_bi ?_; first | refine ao_mappend tbOK rfl rfl rfl rfl rfl rfl rfl (by show _ * 8 ≤ _; simp; omega) (by simp; omega) rfl rfl ?_) | refine sK ?_ | refine sC (fun _ => ?_) (fun _ => ?_) | fail)
              exact ⟨k + 1, hlt, tD, tS, ⟨hsub_m rfl (by rw [hs]; simp) hsub_nil, rfl⟩⟩
            · have hd : decide (a < 0) = false := decide_eq_false (by omega)
              rw [hd] at hs
              cases hf : fresh g x
              · rw [show bitF (mAt g x).flags 8 = false from hf] at b8
                rw [hf, if_neg (by simp)] at hs
                have hal : a.toNat < (out.map pi).length := by rw [List.length_map]; exact ha1
                have hap : (out.map pi)[a.toNat]? = some (pi out[a.toNat]) := map_get' ha1
                repeat' (first | (refine shC ?_; first | refine qC b8 ?_) | (refine shX ?_; first | refine qX hex ?_ | refine ao_q rfl (q_mindex (k := a.toNat) tbOK rfl rfl rfl rfl rfl rfl rfl (by omega) hal) rfl rfl ?_ | refine AD.step _ _ _ _ _ rfl (q_mindex (k := a.toNat) tbOK rfl rfl rfl rfl rfl rfl rfl (by omega) hal) rfl rfl ?_) | (refine ao_sh_store ?_; first | refine ao_mstore (k := a.toNat) (j := 0) tbOK rfl rfl rfl rfl rfl hap rfl rfl rfl rfl rfl ?_) | refine sK ?_ | refine sC (fun _ => ?_) (fun _ => ?_) | fail)
                exact ⟨k + 1, hlt, tD, tS, ⟨hsub_m rfl (by rw [hs, List.map_set]) hsub_nil, rfl⟩⟩
              · rw [show bitF (mAt g x).flags 8 = true from hf] at b8
                rw [hf, if_pos (by simp)] at hs
                repeat' (first | (refine shC ?_; first | refine qC b8 ?_) | (refine shX ?_; first | refine qX hex ?_) | (refine ao_sh_bi ?_; first | refine ao_mappend tbOK rfl rfl rfl rfl rfl rfl rfl (by show _ * 8 ≤ _; simp; omega) (by simp; omega) rfl rfl ?_) | refine sK ?_ | refine sC (fun _ => ?_) (fun _ => ?_) | fail)
                exact ⟨k + 1, hlt, tD, tS, ⟨hsub_m rfl (by rw [hs]; simp) hsub_nil, rfl⟩⟩
          | succ c =>
            have hcl : c < out.length := by omega
            have hcl' : c < (out.map pi).length := by rw [List.length_map]; exact hcl
            have hcp : (out.map pi)[c]? = some (pi out[c]) := by simp [hcl]
            have hst := atF_step (g := g) (m := x) hcl
            have hcm := hom _ (List.getElem_mem hcl)
            have hcg := mAt_get hcm
            have ca := AlikeR_call (mAt g out[c]) (mAt g x)
            cases ha : alk g out[c] x
            · rw [show alikeR (mAt g out[c]) (mAt g x) = false from ha] at ca
              rw [ha, if_neg (by simp)] at hst
              repeat' (first | refine ao_q rfl (q_mload (k := c) (j := 0) tbOK rfl rfl rfl rfl hcp rfl) rfl rfl ?_ | refine AD.step _ _ _ _ _ rfl (q_mload (k := c) (j := 0) tbOK rfl rfl rfl rfl hcp rfl) rfl rfl ?_ | (refine shC ?_; first | refine qC ca ?_) | (refine shX ?_; first | refine ao_q rfl (q_mindex (k := c) tbOK rfl rfl rfl rfl rfl rfl rfl (by push_cast; omega) hcl') rfl rfl ?_ | refine AD.step _ _ _ _ _ rfl (q_mindex (k := c) tbOK rfl rfl rfl rfl rfl rfl rfl (by push_cast; omega) hcl') rfl rfl ?_ | refine ao_q rfl (q_index tbOK rfl rfl rfl rfl rfl rfl hcm.1 hcg) rfl rfl ?_ | refine AD.step _ _ _ _ _ rfl (q_index tbOK rfl rfl rfl rfl rfl rfl hcm.1 hcg) rfl rfl ?_) | refine sK ?_ | refine sC (fun _ => ?_) (fun _ => ?_) | fail)
              exact ⟨c, by omega, tD, tSO, tH⟩
            · rw [show alikeR (mAt g out[c]) (mAt g x) = true from ha] at ca
              rw [ha, if_pos rfl] at hst
              repeat' (first | refine ao_q rfl (q_mload (k := c) (j := 0) tbOK rfl rfl rfl rfl hcp rfl) rfl rfl ?_ | refine AD.step _ _ _ _ _ rfl (q_mload (k := c) (j := 0) tbOK rfl rfl rfl rfl hcp rfl) rfl rfl ?_ | (refine shC ?_; first | refine qC ca ?_) | (refine shX ?_; first | refine ao_q rfl (q_mindex (k := c) tbOK rfl rfl rfl rfl rfl rfl rfl (by push_cast; omega) hcl') rfl rfl ?_ | refine AD.step _ _ _ _ _ rfl (q_mindex (k := c) tbOK rfl rfl rfl rfl rfl rfl rfl (by push_cast; omega) hcl') rfl rfl ?_ | refine ao_q rfl (q_index tbOK rfl rfl rfl rfl rfl rfl hcm.1 hcg) rfl rfl ?_ | refine AD.step _ _ _ _ _ rfl (q_index tbOK rfl rfl rfl rfl rfl rfl hcm.1 hcg) rfl rfl ?_) | refine sK ?_ | refine sC (fun _ => ?_) (fun _ => ?_) | fail)
              exact ⟨c, by omega, tD, tSO, tH⟩
      · have hk2 : k = (methodsOf g t).length := by omega
        subst hk2
        rw [List.take_length, ← tbl_cons hW ht]
        repeat' (first | refine aw_mfreeze 10 rfl ?_ | refine sK ?_ | refine sC (fun _ => ?_) (fun _ => ?_) | fail)
        exact retq rfl rfl
end Go.Cg
namespace Go.Cg
open Go.Proofs

/-! the program's table -/
theorem mOk_flags {g : Img} (hf : formedG g = true) {a : Int} (h : mOk g a) : 0 ≤ (mAt g a).flags ∧ (mAt g a).flags ≤ 31 := formedM_flags (formed_me hf h.2)
theorem alkP_eq {g : Img} (hf : formedG g = true) {a b : Int} (ha : mOk g a) (hb : mOk g b) : alikeP (mAt g a) (mAt g b) = alk g a b := by
  have h1 := mOk_flags hf ha
  have h2 := mOk_flags hf hb
  exact alike_eq h1.1 h1.2 h2.1 h2.2
set_option maxHeartbeats 1000000 in
theorem find1_call (g : Img) (hf : formedG g = true) (x m : Int) (hx : mOk g x) (hm : mOk g m) : ACall Tryz.prog 185 ([] ++ [pi x] ++ [.ptr (imgPV g) 0, .ptr (pi m) 0]) (pb (alk g x m)) := by
  show ACall Tryz.prog 185 [pi x, .ptr (imgPV g) 0, .ptr (pi m) 0] (pb (alk g x m))
  refine acall_intro tbOK Tryz.func185 rfl (by kernel_rfl) Tryz.ntmps185 (by simp) _ rfl (fun hw gB hgB => ?_)
  have e1 := mAt_get hx
  have e2 := mAt_get hm
  have c1 := AlikeP_call (mAt g x) (mAt g m)
  rw [alkP_eq hf hx hm] at c1
  repeat' (first | (refine shC ?_; first | refine qC c1 ?_) | (refine shX ?_; first | refine ao_q rfl (q_index tbOK rfl rfl rfl rfl rfl rfl hx.1 e1) rfl rfl ?_ | refine AD.step _ _ _ _ _ rfl (q_index tbOK rfl rfl rfl rfl rfl rfl hx.1 e1) rfl rfl ?_ | refine ao_q rfl (q_index tbOK rfl rfl rfl rfl rfl rfl hm.1 e2) rfl rfl ?_ | refine AD.step _ _ _ _ _ rfl (q_index tbOK rfl rfl rfl rfl rfl rfl hm.1 e2) rfl rfl ?_) | refine sA ?_ | refine sC (fun _ => ?_) (fun _ => ?_) | fail)
  exact retq rfl rfl
abbrev slH (out : List Int) : HEnv := [(0, .cell (.agg [.own 7])), (7, .mrow 3 1 (out.map pi))]
set_option maxHeartbeats 1000000 in
theorem findS_call (g : Img) (hf : formedG g = true) (out : List Int) (m : Int) (ho : ∀ x ∈ out, mOk g x) (hm : mOk g m) (us : Nat → Value) : ACallM Tryz.prog 163 [.box 0 0, .pv (imgPV g), .pv (pi m)] (slH out ++ pinB us [0]) (.pv (pi (idxF out (fun x => alk g x m)))) (slH out ++ pinB us [0]) := by
  refine acallM_intro tbOK Tryz.func163 rfl (by kernel_rfl) Tryz.ntmps163 (by simp) _ rfl (fun gB hw1 => ?_)
  have c1 := IndexFunc_call out (fun x => alk g x m) 185 [] [.ptr (imgPV g) 0, .ptr (pi m) 0] (fun x hx => find1_call g hf x m (ho x hx) hm)
  repeat' (first | (refine ao_sh_call ?_; first | refine ao_callL rfl rfl rfl c1 rfl rfl ?_) | refine sA ?_ | refine sC (fun _ => ?_) (fun _ => ?_) | fail)
  exact ⟨.inr rfl, .inl ⟨_, rfl, rfl, ⟨by repeat (first | exact hsub_nil | refine hsub_cons rfl ?_), rfl⟩⟩⟩
set_option maxHeartbeats 1000000 in
theorem putS_call (out : List Int) (m : Int) (ho : out.length ≤ 5000) (us : Nat → Value) : ACallM Tryz.prog 164 [.box 0 0, .pv (pi m)] (slH out ++ pinB us [0]) (.pv (.tup [])) (slH (out ++ [m]) ++ pinB us [0]) := by
  refine acallM_intro tbOK Tryz.func164 rfl (by kernel_rfl) Tryz.ntmps164 (by simp) _ rfl (fun gB hw1 => ?_)
  repeat' (first | (refine ao_sh_bi ?_; first | refine ao_mappend tbOK rfl rfl rfl rfl rfl rfl rfl (by show _ * 8 ≤ _; simp; omega) (by simp; omega) rfl rfl ?_) | refine sA ?_ | refine sC (fun _ => ?_) (fun _ => ?_) | fail)
  exact ⟨.inl rfl, .inl ⟨[], rfl, rfl, ⟨hsub_cons rfl (hsub_m rfl (by simp) (by repeat (first | exact hsub_nil | refine hsub_cons rfl ?_))), rfl⟩⟩⟩
theorem tblStep_idx {g : Img} {out : List Int} {m : Int} (hv : virt g m = true) : tblStep g out m = if decide (0 ≤ idxF out (fun x => alk g x m)) && !fresh g m then out.set (idxF out (fun x => alk g x m)).toNat m else out ++ [m] := by
  rw [tblStep, if_pos hv, idxF]
  cases out.any (fun x => alk g x m) <;> cases fresh g m <;> simp
theorem idxF_range {l : List Int} {p : Int → Bool} : idxF l p = -1 ∨ (0 ≤ idxF l p ∧ (idxF l p).toNat < l.length) := by
  rw [idxF]
  split
  · rename_i h
    right
    obtain ⟨x, hx, hp⟩ := List.any_eq_true.1 h
    have := List.findIdx_lt_length_of_exists (p := p) ⟨x, hx, hp⟩
    omega
  · exact .inl rfl
def imgCs (g : Img) : List PV := [.slc 4 (g.types.map tdPV) false, .slc 7 (g.fields.map fdPV) false, .slc 12 (g.methods.map mePV) false, pi g.entry]
abbrev tabAV (g : Img) : AV := .agg [.box 0 0, .pv (.slc 4 (g.types.map tdPV) false), .pv (.slc 7 (g.fields.map fdPV) false), .pv (.slc 12 (g.methods.map mePV) false), .pv (pi g.entry)]
theorem noLone {P : Prop} : false = true → P := fun h => nomatch h
set_option maxHeartbeats 2000000 in
theorem takeS_call (g : Img) (hF : Fine g) (out : List Int) (u : Int) (ho : ∀ x ∈ out, mOk g x) (hol0 : out.length ≤ 2048) (us : Nat → Value) :
    ACallM Tryz.prog 135 [tabAV g, .pv (pi u)] (slH out ++ pinB us [0]) (.pv (.tup [])) (slH (tblFold g out (methodsOf g u)) ++ pinB us [0]) := by
  have hgm : g.methods.length ≤ 64 := (formedG_bounds hF.formed).2.2.1
  have c3 := MethodsP_call g u (by omega)
  have hml := methodsOf_len g u
  refine acallM_intro tbOK Tryz.func135 rfl (by kernel_rfl) Tryz.ntmps135 (by simp) _ rfl (fun gB hw1 => ?_)
  repeat' (first | refine ao_q rfl (q_boxload (ps := imgCs g) tbOK rfl rfl rfl rfl rfl) rfl rfl ?_ | (refine shC ?_; first | refine qC c3 ?_) | (refine ao_sh_box ?_; first | refine ao_boxm 2 rfl rfl rfl rfl rfl rfl ?_) | refine sA ?_ | refine sC (fun _ => ?_) (fun _ => ?_) | fail)
  refine aw_loop (fun k : Nat => [(2, .box 2 0), (11, .pv (ints (methodsOf g u))), (12, .pv (pi (methodsOf g u).length)), (13, .pv (pi k))])
    (fun k => [(0, .cell (.agg [.own 7])), (7, .mrow 3 1 ((tblFold g out ((methodsOf g u).take k)).map pi)), (2, .cell (tabAV g)), (1000, .pin (.own 0) (us 0))])
    (fun k => k ≤ (methodsOf g u).length) (fun k => (methodsOf g u).length - k) 0 (by omega) (tS) ⟨hsub_cons rfl (hsub_m rfl rfl (by repeat (first | exact hsub_nil | refine hsub_cons rfl ?_))), rfl⟩ ?_
  rintro k hk
  by_cases hlt : k < (methodsOf g u).length
  · obtain ⟨x, hx⟩ : ∃ x, x = (methodsOf g u)[k] := ⟨_, rfl⟩
    have hex : ((methodsOf g u).map pi)[k]? = some (pi x) := by rw [hx]; exact map_get (f := pi) hlt
    have hmx : mOk g x := by rw [hx]; exact methodsOf_mem (List.getElem_mem hlt)
    have hem := mAt_get hmx
    have hs := tblFold_snoc g out _ k hlt
    rw [← hx] at hs
    obtain ⟨cur, hcu⟩ : ∃ o, o = tblFold g out ((methodsOf g u).take k) := ⟨_, rfl⟩
    have hcl : cur.length ≤ 2112 := by
      have := (tblFold_len g ((methodsOf g u).take k) out).2
      have h2 : ((methodsOf g u).take k).length ≤ 64 := by simp; omega
      rw [hcu]; omega
    have hcm : ∀ y ∈ cur, mOk g y := by
      intro y hy
      rw [hcu] at hy
      rcases tblFold_mem hy with hy | hy
      · exact ho y hy
      · exact methodsOf_mem (List.mem_of_mem_take hy)
    rw [← hcu] at hs ⊢
    have hfl := mOk_flags hF.formed hmx
    have hfe := flags_eq hfl.1 hfl.2
    have b2 := has_call (mAt g x) 2
    have b8 := has_call (mAt g x) 8
    rw [hfe.2.1] at b2
    rw [hfe.2.2.2.1] at b8
    cases hv : virt g x
    · rw [show bitF (mAt g x).flags 2 = false from hv] at b2
      repeat' (first | (refine shC ?_; first | refine qC b2 ?_) | (refine shX ?_; first | refine qX hex ?_ | refine ao_q rfl (q_index tbOK rfl rfl rfl rfl rfl rfl hmx.1 hem) rfl rfl ?_ | refine AD.step _ _ _ _ _ rfl (q_index tbOK rfl rfl rfl rfl rfl rfl hmx.1 hem) rfl rfl ?_) | refine sK ?_ | refine sC (fun _ => ?_) (fun _ => ?_) | fail)
      exact ⟨k + 1, hlt, tD, tS, ⟨hsub_cons rfl (hsub_m rfl (by rw [hs, tblStep, hv]; rfl) (by repeat (first | exact hsub_nil | refine hsub_cons rfl ?_))), rfl⟩⟩
    · rw [show bitF (mAt g x).flags 2 = true from hv] at b2
      rw [tblStep_idx hv] at hs
      have cF := fun us => findS_call g hF.formed cur x hcm hmx us
      have cP := fun us => putS_call cur x (by omega) us
      have hr := idxF_range (l := cur) (p := fun y => alk g y x)
      obtain ⟨a, ha⟩ : ∃ a, a = idxF cur (fun y => alk g y x) := ⟨_, rfl⟩
      simp only [← ha] at cF
      rw [← ha] at hs hr
      rcases hr with rfl | ⟨ha0, ha1⟩
      · rw [if_neg (by simp)] at hs
        repeat' (first | refine ao_q rfl (q_boxload (ps := imgCs g) tbOK rfl rfl rfl rfl rfl) rfl rfl ?_ | (refine shC ?_; first | refine qC b2 ?_ | refine qC b8 ?_) | (refine shX ?_; first | refine qX hex ?_ | refine ao_q rfl (q_index tbOK rfl rfl rfl rfl rfl rfl hmx.1 hem) rfl rfl ?_ | refine AD.step _ _ _ _ _ rfl (q_index tbOK rfl rfl rfl rfl rfl rfl hmx.1 hem) rfl rfl ?_) | (refine ao_sh_call ?_; first | refine ao_callM (slH cur) (slH cur) [(2, .cell (tabAV g)), (1, .cell (.pv (mePV (mAt g x)))), (1000, .pin (.own 0) (us 0))] [(2, .box 2 0), (5, .pv (pi x)), (6, .box 1 0), (11, .pv (ints (methodsOf g u))), (12, .pv (pi (methodsOf g u).length)), (13, .pv (pi k))] [0] noLone rfl rfl rfl (by repeat (first | exact hsub_nil | refine hsub_cons rfl ?_)) tS rfl rfl rfl cF ?_ | refine ao_callM (slH cur) (slH (cur ++ [x])) [(2, .cell (tabAV g)), (1000, .pin (.own 0) (us 0))] [(2, .box 2 0), (11, .pv (ints (methodsOf g u))), (12, .pv (pi (methodsOf g u).length)), (13, .pv (pi k))] [0] noLone rfl rfl rfl (by repeat (first | exact hsub_nil | refine hsub_cons rfl ?_)) tS rfl rfl rfl cP ?_) | refine sK ?_ | refine sC (fun _ => ?_) (fun _ => ?_) | fail)
        exact ⟨k + 1, hlt, tD, tS, ⟨hsub_cons rfl (hsub_m rfl (by rw [hs]) (by repeat (first | exact hsub_nil | refine hsub_cons rfl ?_))), rfl⟩⟩
      · have hd : decide (0 ≤ a) = true := decide_eq_true ha0
        rw [hd] at hs
        cases hf : fresh g x
        · rw [show bitF (mAt g x).flags 8 = false from hf] at b8
          rw [hf, if_pos (by simp)] at hs
          have hal : a.toNat < (cur.map pi).length := by rw [List.length_map]; exact ha1
          have hap : (cur.map pi)[a.toNat]? = some (pi cur[a.toNat]) := map_get' ha1
          repeat' (first | refine ao_q rfl (q_boxload (ps := imgCs g) tbOK rfl rfl rfl rfl rfl) rfl rfl ?_ | (refine shC ?_; first | refine qC b2 ?_ | refine qC b8 ?_) | (refine shX ?_; first | refine qX hex ?_ | refine ao_q rfl (q_index tbOK rfl rfl rfl rfl rfl rfl hmx.1 hem) rfl rfl ?_ | refine AD.step _ _ _ _ _ rfl (q_index tbOK rfl rfl rfl rfl rfl rfl hmx.1 hem) rfl rfl ?_ | refine ao_q rfl (q_mindex (k := a.toNat) tbOK rfl rfl rfl rfl rfl rfl rfl (by omega) hal) rfl rfl ?_ | refine AD.step _ _ _ _ _ rfl (q_mindex (k := a.toNat) tbOK rfl rfl rfl rfl rfl rfl rfl (by omega) hal) rfl rfl ?_) | (refine ao_sh_call ?_; first | refine ao_callM (slH cur) (slH cur) [(2, .cell (tabAV g)), (1, .cell (.pv (mePV (mAt g x)))), (1000, .pin (.own 0) (us 0))] [(2, .box 2 0), (5, .pv (pi x)), (6, .box 1 0), (11, .pv (ints (methodsOf g u))), (12, .pv (pi (methodsOf g u).length)), (13, .pv (pi k))] [0] noLone rfl rfl rfl (by repeat (first | exact hsub_nil | refine hsub_cons rfl ?_)) tS rfl rfl rfl cF ?_) | (refine ao_sh_store ?_; first | refine ao_mstore (k := a.toNat) (j := 0) tbOK rfl rfl rfl rfl rfl hap rfl rfl rfl rfl rfl ?_) | refine sK ?_ | refine sC (fun _ => ?_) (fun _ => ?_) | fail)
          exact ⟨k + 1, hlt, tD, tS, ⟨hsub_cons rfl (hsub_m rfl (by rw [hs, List.map_set]) (by repeat (first | exact hsub_nil | refine hsub_cons rfl ?_))), rfl⟩⟩
        · rw [show bitF (mAt g x).flags 8 = true from hf] at b8
          rw [hf, if_neg (by simp)] at hs
          repeat' (first | refine ao_q rfl (q_boxload (ps := imgCs g) tbOK rfl rfl rfl rfl rfl) rfl rfl ?_ | (refine shC ?_; first | refine qC b2 ?_ | refine qC b8 ?_) | (refine shX ?_; first | refine qX hex ?_ | refine ao_q rfl (q_index tbOK rfl rfl rfl rfl rfl rfl hmx.1 hem) rfl rfl ?_ | refine AD.step _ _ _ _ _ rfl (q_index tbOK rfl rfl rfl rfl rfl rfl hmx.1 hem) rfl rfl ?_) | (refine ao_sh_call ?_; first | refine ao_callM (slH cur) (slH cur) [(2, .cell (tabAV g)), (1, .cell (.pv (mePV (mAt g x)))), (1000, .pin (.own 0) (us 0))] [(2, .box 2 0), (5, .pv (pi x)), (6, .box 1 0), (11, .pv (ints (methodsOf g u))), (12, .pv (pi (methodsOf g u).length)), (13, .pv (pi k))] [0] noLone rfl rfl rfl (by repeat (first | exact hsub_nil | refine hsub_cons rfl ?_)) tS rfl rfl rfl cF ?_ | refine ao_callM (slH cur) (slH (cur ++ [x])) [(2, .cell (tabAV g)), (1000, .pin (.own 0) (us 0))] [(2, .box 2 0), (11, .pv (ints (methodsOf g u))), (12, .pv (pi (methodsOf g u).length)), (13, .pv (pi k))] [0] noLone rfl rfl rfl (by repeat (first | exact hsub_nil | refine hsub_cons rfl ?_)) tS rfl rfl rfl cP ?_) | refine sK ?_ | refine sC (fun _ => ?_) (fun _ => ?_) | fail)
          exact ⟨k + 1, hlt, tD, tS, ⟨hsub_cons rfl (hsub_m rfl (by rw [hs]) (by repeat (first | exact hsub_nil | refine hsub_cons rfl ?_))), rfl⟩⟩
  · have hk2 : k = (methodsOf g u).length := by omega
    subst hk2
    rw [List.take_length]
    repeat' (first | refine sK ?_ | refine sC (fun _ => ?_) (fun _ => ?_) | fail)
    exact ⟨.inl rfl, .inl ⟨[], rfl, rfl, ⟨by repeat (first | exact hsub_nil | refine hsub_cons rfl ?_), rfl⟩⟩⟩
end Go.Cg
namespace Go.Cg
open Go.Proofs

set_option maxHeartbeats 2000000 in
theorem ofS_call (g : Img) (hF : Fine g) (t : Int) : ACall Tryz.prog 92 [imgPV g, pi t] (ints (tbl g t)) := by
  obtain ⟨hgt, _, hgm, _⟩ := formedG_bounds hF.formed
  have hui := up_inv g t
  have hul := nodup_le _ _ hui.1 hui.2
  refine acall2_intro tbOK Tryz.func92 rfl (by kernel_rfl) Tryz.ntmps92 (by simp) _ rfl (fun hw gB hgB hds => ?_)
  refine aw2_seqL ?_
  repeat' (first | refine sA ?_ | refine sC (fun _ => ?_) (fun _ => ?_) | fail)
  refine aw2_seqL ?_
  repeat' (first | refine ao_q rfl (q_buildA tbOK rfl ⟨_, rfl⟩ rfl rfl rfl rfl rfl rfl) rfl rfl ?_ | (refine ao_sh_box ?_; first | refine ao_boxm 0 rfl rfl rfl rfl rfl rfl ?_) | refine sA ?_ | refine sC (fun _ => ?_) (fun _ => ?_) | fail)
  refine aw2_seqR ?_
  refine aw2_seqL ?_
  repeat' (first | refine aw_mown_nil_field 0 7 0 3 1 (by decide) rfl rfl rfl rfl ?_ | (refine shC ?_; first | refine ao_q rfl (q_call rfl rfl (UpP_call g t (by omega))) rfl rfl ?_ | refine AD.step _ _ _ _ _ rfl (q_call rfl rfl (UpP_call g t (by omega))) rfl rfl ?_ | refine qC (Backward_call _) ?_) | refine sA ?_ | refine sC (fun _ => ?_) (fun _ => ?_) | fail)
  refine aw2_block ?_
  refine aw2_range (fun x => .int .i64 x.1) (fun x => .int .i64 x.2) (back_iter (up g t) (by omega)) [(2, .pv (.ptr (imgPV g) 0)), (5, .box 1 0), (15, .pv (.fn (.func 147) [] [.ptr (ints (up g t)) 0]))]
    (fun pre => [(0, .cell (.agg [.own 7])), (7, .mrow 3 1 ((tblU g (pre.map (·.2))).map pi)), (1, .cell (tabAV g))]) 100 hgB hds (fun _ => rfl) (fun _ => rfl) rfl (tS) rfl rfl rfl (by decide) ⟨by repeat (first | exact hsub_nil | refine hsub_cons rfl ?_), rfl⟩ (fun _ => rfl) (fun _ => rfl) rfl ?_ ?_
  · intro g2 us pre x hlen
    rw [backL_len] at hlen
    obtain ⟨cur, hcu⟩ : ∃ c, c = tblU g (pre.map (·.2)) := ⟨_, rfl⟩
    have hcl : cur.length ≤ 2048 := by
      have h1 := tblU_len (g := g) (pre.map (·.2))
      have h2 : g.methods.length * (pre.map (·.2)).length ≤ 64 * 32 := Nat.mul_le_mul hgm (by rw [List.length_map]; omega)
      rw [hcu]; omega
    have hcm : ∀ y ∈ cur, mOk g y := fun y hy => tblU_mem (by rw [hcu] at hy; exact hy)
    have hs : tblU g ((pre ++ [x]).map (·.2)) = tblFold g cur (methodsOf g x.2) := by rw [hcu, List.map_append, tblU, List.foldl_append]; rfl
    rw [← hcu]
    have cT := fun us' => takeS_call g hF cur x.2 hcm hcl us'
    repeat' (first | (refine ao_sh_call ?_; first | refine ao_callM (slH cur) (slH (tblFold g cur (methodsOf g x.2))) ((1, .cell (tabAV g)) :: pinsOf us 100 [(2, .pv (.ptr (imgPV g) 0)), (5, .box 1 0), (15, .pv (.fn (.func 147) [] [.ptr (ints (up g t)) 0]))]) [] [0] noLone rfl rfl rfl (by repeat (first | exact hsub_nil | refine hsub_cons rfl ?_)) tS rfl rfl rfl cT ?_) | refine sA ?_ | refine sC (fun _ => ?_) (fun _ => ?_) | fail)
    exact ⟨hsub_cons rfl (hsub_m rfl (by rw [hs]) (by repeat (first | exact hsub_nil | refine hsub_cons rfl ?_))), rfl⟩
  · intro g3
    repeat' (first | refine aw_mfreeze 7 rfl ?_ | refine sA ?_ | refine sC (fun _ => ?_) (fun _ => ?_) | fail)
    exact ⟨rfl, retq rfl (by rw [backL_snd]; rfl)⟩
end Go.Cg
namespace Go.Cg
open Go.Proofs

/-! what a method must be: plainly -/
theorem kindR_range (f : Int) : 0 ≤ kindR f := by
  unfold kindR
  cases bitF f 2 <;> cases bitF f 1 <;> cases bitF f 16 <;> simp
def useP (g : Img) (t : Ty) : Bool := (t.kind != 5 && t.kind != 6) || (t.kind == 6 && kindG g t.index == 1) || (t.kind == 5 && kindG g t.index != 1)
theorem useP_eq {g : Img} {t : Ty} (hp : plainT t = true) (ho : ownT t g.types.length = true) : useP g t = usedR g t := by
  have hk := kindG_range g t.index
  have hn : (t.kind = 5 ∨ t.kind = 6) → kindG g t.index ≠ -1 := by
    intro h
    have h0 : 0 ≤ t.index := by
      rw [plainT] at hp
      split at hp
      · cases hp
      · rename_i hh; simp at hh; omega
    have h1 : t.index < g.types.length := by
      rw [ownT] at ho
      rcases h with h | h <;> simpa [h] using ho
    obtain ⟨td, htd⟩ := typeAt_of_lt ⟨h0, h1⟩
    rw [kindG, htd]
    have := kindR_range td.flags
    simp only; omega
  rw [useP, usedR, hp]
  generalize kindG g t.index = k at hk hn
  by_cases h5 : t.kind = 5
  · have := hn (.inl h5)
    rcases hk with rfl | rfl | rfl | rfl | rfl <;> simp_all
  · by_cases h6 : t.kind = 6
    · have := hn (.inr h6)
      rcases hk with rfl | rfl | rfl | rfl | rfl <;> simp_all
    · have e5 : (t.kind == 5) = false := beq_eq_false_iff_ne.2 h5
      have e6 : (t.kind == 6) = false := beq_eq_false_iff_ne.2 h6
      simp only [bne, e5, e6]; rfl
theorem may_plain {t : Ty} {p n : Int} (h : mayT t p n = true) : plainT t = true ∧ ownT t n = true := by
  rw [mayT, Bool.and_eq_true] at h
  refine ⟨?_, h.2⟩
  have := h.1
  rw [whereT] at this
  cases hp : plainT t
  · rw [hp] at this; simp at this
  · rfl
def codeT (m : Me) : List Ty := (m.code.filter fun x => operand06 x.op == 8).map (·.t)
def catchT (m : Me) : List Ty := (m.clauses.filter fun c => c.kind == 1).map (·.t)
def typedL (m : Me) : List Ty := m.params ++ m.locals ++ [m.ret] ++ codeT m ++ catchT m
def typedR (g : Img) (m : Me) : Bool := usedR g m.ret && m.params.all (usedR g) && m.locals.all (usedR g) && m.code.all (fun x => operand06 x.op != 8 || usedR g x.t) && m.clauses.all (fun c => c.kind != 1 || usedR g c.t)
theorem filt_all {α : Type} {l : List α} {p : α → Bool} {f : α → Ty} {q : Ty → Bool} : ((l.filter p).map f).all q = l.all fun x => !p x || q (f x) := by
  induction l with
  | nil => rfl
  | cons x l ih =>
    rw [List.filter_cons]
    cases h : p x <;> simp [h, ih]
theorem typed_eq {g : Img} {m : Me} (h : formedM g m = true) : (typedL m).all (useP g) = typedR g m := by
  simp only [formedM, formedC, Bool.and_eq_true, List.all_eq_true, clauseOk, codeOk] at h
  obtain ⟨⟨⟨⟨_, hr⟩, hp⟩, hl⟩, ⟨⟨_, hc⟩, hk⟩, _⟩ := h
  have e : (typedL m).all (useP g) = (typedL m).all (usedR g) := by
    rw [Bool.eq_iff_iff, List.all_eq_true, List.all_eq_true]
    have : ∀ t ∈ typedL m, useP g t = usedR g t := by
      intro t ht
      have key : plainT t = true ∧ ownT t g.types.length = true := by
        simp only [typedL, codeT, catchT, List.mem_append, List.mem_singleton, List.mem_map, List.mem_filter] at ht
        rcases ht with (((ht | ht) | rfl) | ⟨x, ⟨hx, ho⟩, rfl⟩) | ⟨c, ⟨hx, ho⟩, rfl⟩
        · exact may_plain (hp t ht)
        · exact may_plain (hl t ht)
        · exact may_plain hr
        · have h1 := hc x hx
          rw [beq_iff_eq] at ho
          obtain ⟨hf, h2⟩ := h1
          rw [ho] at h2
          refine ⟨?_, by simpa using h2⟩
          rw [beq_iff_eq, fits06] at hf
          cases hpx : plainT x.t
          · have hw : whereT x.t 1 = false := by rw [whereT, hpx]; rfl
            split at hf
            · omega
            · split at hf
              · omega
              · split at hf
                · omega
                · rw [if_pos ⟨ho, hw⟩] at hf; omega
          · rfl
        · have h1 := hk c hx
          rw [beq_iff_eq] at ho
          rw [ho] at h1
          simp at h1
          exact may_plain h1
      exact useP_eq key.1 key.2
    constructor
    · intro h t ht; rw [← this t ht]; exact h t ht
    · intro h t ht; rw [this t ht]; exact h t ht
  rw [e, typedL, List.all_append, List.all_append, List.all_append, List.all_append, codeT, catchT, filt_all, filt_all, typedR]
  have e1 : (m.code.all fun x => !(operand06 x.op == 8) || usedR g x.t) = m.code.all fun x => operand06 x.op != 8 || usedR g x.t := rfl
  have e2 : (m.clauses.all fun c => !(c.kind == 1) || usedR g c.t) = m.clauses.all fun c => c.kind != 1 || usedR g c.t := rfl
  rw [e1, e2]
  simp only [List.all_cons, List.all_nil, Bool.and_true]
  cases usedR g m.ret <;> simp [Bool.and_assoc]
def flg13 (k : Int) (b1 b2 b4 b8 b16 rv f16 : Bool) (nc : Nat) (bd : Bool) (ms : Nat) (ab : Bool) : Bool :=
  !(b16 && (k != 0 || !rv || !f16)) && !(b2 && (b1 || k == 1)) && !(!b2 && (b4 || b8)) && !(b4 && (0 < nc || bd)) && !(!b4 && (nc == 0 || decide (2 ≤ k))) && !(k == 3 && ms != 1) && (!b4 || decide (2 ≤ k) || ab)
end Go.Cg
namespace Go.Cg
open Go.Proofs

/-! a method's slot; what does a method for a class -/
set_option maxHeartbeats 1000000 in
theorem fineS_call (g : Img) (hx : OkA g) : ACall Tryz.prog 80 [imgPV g] (pb (fineR g)) := by
  refine acall_intro tbOK Tryz.func80 rfl (by kernel_rfl) Tryz.ntmps80 (by simp) _ rfl (fun hw gB hgB => ?_)
  repeat' (first | (refine shC ?_; first | refine qC (CheckL_call g hx) ?_) | refine sA ?_ | refine sC (fun _ => ?_) (fun _ => ?_) | fail)
  exact retq rfl rfl
def tableA (g : Img) (t : Int) : List Int := if fineR g && kindG g t == 0 then tbl g t else []
set_option maxHeartbeats 1000000 in
theorem TableP_call (g : Img) (hx : OkA g) (t : Int) : ACall Tryz.prog 41 [imgPV g, pi t] (ints (tableA g t)) := by
  have c1 := fineS_call g hx
  refine acall_intro tbOK Tryz.func41 rfl (by kernel_rfl) Tryz.ntmps41 (by simp) _ rfl (fun hw gB hgB => ?_)
  cases hf : fineR g
  · rw [hf] at c1
    repeat' (first | (refine shC ?_; first | refine qC c1 ?_) | refine sK ?_ | refine sC (fun _ => ?_) (fun _ => ?_) | fail)
    rw [show tableA g t = [] by rw [tableA, hf]; rfl]
    exact retq_w (t := 4) (ps := [ints []]) rfl (tells_nil 1 false) rfl rfl
  · have hF := fine_of hf
    have c2 := KindPG_call g hF.formed t
    have c3 := ofS_call g hF t
    rw [hf] at c1
    by_cases hk : kindG g t = 0
    · rw [hk] at c2
      repeat' (first | (refine shC ?_; first | refine qC c1 ?_ | refine qC c2 ?_ | refine qC c3 ?_) | refine sK ?_ | refine sC (fun _ => ?_) (fun _ => ?_) | fail)
      exact retq rfl (by rw [tableA, hf, hk]; rfl)
    · have hkb : (kindG g t != 0) = true := by simp [hk]
      have hkc : (kindG g t == 0) = false := by simp [hk]
      repeat' (first | (refine shC ?_; first | refine qC c1 ?_ | refine qC c2 ?_) | refine sK ?_ | refine sC (fun _ => ?_) (fun _ => ?_) | fail)
      rw [show tableA g t = [] by rw [tableA, hf, hkc]; rfl]
      exact retq_w (t := 4) (ps := [ints []]) rfl (tells_nil 1 false) rfl rfl
def ownM (g : Img) (m : Int) : Int := (mAt g m).owner
def slotT (g : Img) (m : Int) : Int := if virt g m && kindG g (ownM g m) == 0 then idx (tbl g (ownM g m)) m else -1
theorem has2 {g : Img} (hF : Fine g) {m : Int} (hm : mOk g m) : ACall Tryz.prog 121 [mePV (mAt g m), pi 2] (pb (virt g m)) := by
  have h := mOk_flags hF.formed hm
  have c := has_call (mAt g m) 2
  rwa [(flags_eq h.1 h.2).2.1] at c
set_option maxHeartbeats 1000000 in
theorem slotP_call (g : Img) (hF : Fine g) (m : Int) (hm : mOk g m) : ACall Tryz.prog 94 [imgPV g, pi m] (pi (slotT g m)) := by
  have hem := mAt_get hm
  have c1 := has2 hF hm
  have c2 := KindPG_call g hF.formed (mAt g m).owner
  have c3 := ofS_call g hF (mAt g m).owner
  have c4 := Index_call (tbl g (mAt g m).owner) m
  refine acall_intro tbOK Tryz.func94 rfl (by kernel_rfl) Tryz.ntmps94 (by simp) _ rfl (fun hw gB hgB => ?_)
  cases hv : virt g m
  · rw [hv] at c1
    repeat' (first | (refine shC ?_; first | refine qC c1 ?_) | (refine shX ?_; first | refine ao_q rfl (q_index tbOK rfl rfl rfl rfl rfl rfl hm.1 hem) rfl rfl ?_ | refine AD.step _ _ _ _ _ rfl (q_index tbOK rfl rfl rfl rfl rfl rfl hm.1 hem) rfl rfl ?_) | refine sK ?_ | refine sC (fun _ => ?_) (fun _ => ?_) | fail)
    exact retq rfl (by simp [retPV, slotT, hv])
  · rw [hv] at c1
    by_cases hk : kindG g (mAt g m).owner = 0
    · rw [hk] at c2
      repeat' (first | (refine shC ?_; first | refine qC c1 ?_ | refine qC c2 ?_ | refine qC c3 ?_ | refine qC c4 ?_) | (refine shX ?_; first | refine ao_q rfl (q_index tbOK rfl rfl rfl rfl rfl rfl hm.1 hem) rfl rfl ?_ | refine AD.step _ _ _ _ _ rfl (q_index tbOK rfl rfl rfl rfl rfl rfl hm.1 hem) rfl rfl ?_) | refine sK ?_ | refine sC (fun _ => ?_) (fun _ => ?_) | fail)
      exact retq rfl (by simp [retPV, slotT, hv, ownM, hk])
    · have hkb : (kindG g (mAt g m).owner != 0) = true := by simp [hk]
      repeat' (first | (refine shC ?_; first | refine qC c1 ?_ | refine qC c2 ?_) | (refine shX ?_; first | refine ao_q rfl (q_index tbOK rfl rfl rfl rfl rfl rfl hm.1 hem) rfl rfl ?_ | refine AD.step _ _ _ _ _ rfl (q_index tbOK rfl rfl rfl rfl rfl rfl hm.1 hem) rfl rfl ?_) | refine sK ?_ | refine sC (fun _ => ?_) (fun _ => ?_) | fail)
      exact retq rfl (by simp [retPV, slotT, hv, ownM, hk])
def slotA (g : Img) (m : Int) : Int := if fineR g && decide (0 ≤ m) && decide (m < g.methods.length) then slotT g m else -1
set_option maxHeartbeats 1000000 in
theorem Slot_call (g : Img) (hx : OkA g) (m : Int) : ACall Tryz.prog 43 [imgPV g, pi m] (pi (slotA g m)) := by
  have c1 := fineS_call g hx
  refine acall_intro tbOK Tryz.func43 rfl (by kernel_rfl) Tryz.ntmps43 (by simp) _ rfl (fun hw gB hgB => ?_)
  obtain ⟨_, _, hl3⟩ := img_len hw.1
  cases hf : fineR g
  · rw [hf] at c1
    repeat' (first | (refine shC ?_; first | refine qC c1 ?_) | refine sK ?_ | refine sC (fun _ => ?_) (fun _ => ?_) | fail)
    exact retq rfl (by rw [slotA, hf]; rfl)
  · rw [hf] at c1
    by_cases h0 : m < 0
    · repeat' (first | (refine shC ?_; first | refine qC c1 ?_) | refine sK ?_ | refine sC (fun _ => ?_) (fun _ => ?_) | fail)
      exact retq rfl (by rw [slotA, hf, decide_eq_false (show ¬ 0 ≤ m by omega)]; rfl)
    · by_cases h1 : m < g.methods.length
      · have c2 := slotP_call g (fine_of hf) m ⟨by omega, by omega⟩
        have hd0 : decide (m < 0) = false := decide_eq_false h0
        have hd1 : decide ((((g.methods.map mePV).length : Nat) : Int) ≤ m) = false := decide_eq_false (by rw [List.length_map]; omega)
        repeat' (first | (refine shC ?_; first | refine qC c1 ?_ | refine qC c2 ?_) | refine sK ?_ | refine sC (fun _ => ?_) (fun _ => ?_) | fail)
        exact retq rfl (by rw [slotA, hf, decide_eq_true (show 0 ≤ m by omega), decide_eq_true h1]; rfl)
      · have hd0 : decide (m < 0) = false := decide_eq_false h0
        have hd1 : decide ((((g.methods.map mePV).length : Nat) : Int) ≤ m) = true := decide_eq_true (by rw [List.length_map]; omega)
        repeat' (first | (refine shC ?_; first | refine qC c1 ?_) | refine sK ?_ | refine sC (fun _ => ?_) (fun _ => ?_) | fail)
        exact retq rfl (by rw [slotA, hf, decide_eq_false h1]; simp [retPV])
set_option maxHeartbeats 1000000 in
theorem SlotR_call (g : Img) (hF : Fine g) (m : Int) (hm : mOk g m) : ACall Tryz.prog 46 [imgPV g, pi m] (pi (slotT g m)) := by
  have hem := mAt_get hm
  have c1 := Bit2_call (mAt g m)
  rw [show bitF (mAt g m).flags 2 = virt g m from rfl] at c1
  have c2 := KindR_call g (mAt g m).owner
  have c3 := Table_call g hF _ (mAt g m).owner (Nat.le_refl _)
  refine acall_intro tbOK Tryz.func46 rfl (by kernel_rfl) Tryz.ntmps46 (by simp) _ rfl (fun hw gB hgB => ?_)
  cases hv : virt g m
  · rw [hv] at c1
    repeat' (first | (refine shC ?_; first | refine qC c1 ?_) | (refine shX ?_; first | refine ao_q rfl (q_index tbOK rfl rfl rfl rfl rfl rfl hm.1 hem) rfl rfl ?_ | refine AD.step _ _ _ _ _ rfl (q_index tbOK rfl rfl rfl rfl rfl rfl hm.1 hem) rfl rfl ?_) | refine sK ?_ | refine sC (fun _ => ?_) (fun _ => ?_) | fail)
    exact retq rfl (by simp [retPV, slotT, hv])
  · rw [hv] at c1
    by_cases hk : kindG g (mAt g m).owner = 0
    · rw [hk] at c2
      obtain ⟨l, hl⟩ : ∃ l, l = tbl g (mAt g m).owner := ⟨_, rfl⟩
      have hs : slotT g m = idx l m := by rw [slotT, hv, ownM, hk, hl]; rfl
      have hll := tbl_len hF (mAt g m).owner
      rw [← hl] at c3 hll
      repeat' (first | (refine shC ?_; first | refine qC c1 ?_ | refine qC c2 ?_ | refine qC c3 ?_) | (refine shX ?_; first | refine ao_q rfl (q_index tbOK rfl rfl rfl rfl rfl rfl hm.1 hem) rfl rfl ?_ | refine AD.step _ _ _ _ _ rfl (q_index tbOK rfl rfl rfl rfl rfl rfl hm.1 hem) rfl rfl ?_) | refine sK ?_ | refine sC (fun _ => ?_) (fun _ => ?_) | fail)
      refine aw_loop (fun k : Nat => [(1, .pv (pi m)), (6, .pv (ints l)), (7, .pv (pi k))]) (fun _ => []) (fun k => k ≤ l.length ∧ ∀ j (h : j < k) (h2 : j < l.length), l[j] ≠ m) (fun k => l.length - k) 0 ⟨by omega, fun j h => by omega⟩ (tS) tH ?_
      rintro k ⟨hk2, hno⟩
      by_cases hlt : k < l.length
      · have he : (l.map pi)[k]? = some (pi l[k]) := map_get (f := pi) hlt
        by_cases hx : l[k] = m
        · have hxb : (l[k] == m) = true := by simp [hx]
          have hi : l.findIdx (· == m) = k := by
            rw [List.findIdx_eq hlt]
            exact ⟨hxb, fun j hj => by have := hno j hj (by omega); simpa using this⟩
          repeat' (first | (refine shX ?_; first | refine qX he ?_) | refine sK ?_ | refine sC (fun _ => ?_) (fun _ => ?_) | fail)
          exact retq rfl (by rw [hs, idx, if_pos (by rw [← hx]; exact List.getElem_mem hlt), hi]; rfl)
        · have hxb : (l[k] == m) = false := by simp [hx]
          repeat' (first | (refine shX ?_; first | refine qX he ?_) | refine sK ?_ | refine sC (fun _ => ?_) (fun _ => ?_) | fail)
          exact ⟨k + 1, ⟨hlt, fun j hj h2 => by
            by_cases e : j = k
            · subst e; exact hx
            · exact hno j (by omega) h2⟩, tD, tS, tH⟩
      · repeat' (first | refine sK ?_ | refine sC (fun _ => ?_) (fun _ => ?_) | fail)
        exact retq rfl (by
          rw [hs, idx, if_neg]
          · rfl
          · intro h
            obtain ⟨j, hj, e⟩ := List.getElem_of_mem h
            exact hno j (by omega) hj e)
    · have hkb : (kindG g (mAt g m).owner != 0) = true := by simp [hk]
      repeat' (first | (refine shC ?_; first | refine qC c1 ?_ | refine qC c2 ?_) | (refine shX ?_; first | refine ao_q rfl (q_index tbOK rfl rfl rfl rfl rfl rfl hm.1 hem) rfl rfl ?_ | refine AD.step _ _ _ _ _ rfl (q_index tbOK rfl rfl rfl rfl rfl rfl hm.1 hem) rfl rfl ?_) | refine sK ?_ | refine sC (fun _ => ?_) (fun _ => ?_) | fail)
      exact retq rfl (by simp [retPV, slotT, hv, ownM, hk])
end Go.Cg
namespace Go.Cg
open Go.Proofs

/-! what does a method for a class -/
def done0 (g : Img) (t m : Int) : Int := if slotT g m < 0 then m else (tbl g t).getD (slotT g m).toNat 0
def does (g : Img) (m k : Int) : Bool := virt g k && alk g k m
def faceK (g : Img) (t m : Int) : Option Int := ((up g t).flatMap (methodsOf g)).find? (does g m)
def faceT (g : Img) (t m : Int) : Int := match faceK g t m with | some k => done0 g t k | none => -1
def doneT (g : Img) (t m : Int) : Int := if kindG g (ownM g m) == 2 && virt g m then faceT g t m else done0 g t m
theorem tbl_mono {g : Img} (hW : Wl g) : ∀ (l : List Int) (t b : Int), up g t = l → b ∈ l → (tbl g b).length ≤ (tbl g t).length
  | [], t, b, h, hb => by cases hb
  | x :: l, t, b, h, hb => by
    cases ht : typeAt g t with
    | none => rw [up_nil ht] at h; cases h
    | some td =>
      rw [hW.up_cons ht] at h
      simp only [List.cons.injEq] at h
      obtain ⟨rfl, h⟩ := h
      rcases List.mem_cons.1 hb with rfl | hb
      · exact Nat.le_refl _
      · have h1 := tbl_mono hW l td.ext b h hb
        have h2 := (tblFold_len g (methodsOf g t) (tbl g td.ext)).1
        rw [tbl_cons hW ht]; omega
theorem idx_range {l : List Int} {v : Int} : idx l v = -1 ∨ (0 ≤ idx l v ∧ (idx l v).toNat < l.length) := by
  rw [idx]
  split
  · rename_i h
    right
    have := List.findIdx_lt_length_of_exists (p := (· == v)) ⟨v, h, by simp⟩
    omega
  · exact .inl rfl
theorem slot_in {g : Img} (hW : Wl g) {t m : Int} (hb : kindG g (ownM g m) = 0 → ownM g m ∈ up g t) (h : ¬ slotT g m < 0) : (slotT g m).toNat < (tbl g t).length := by
  rw [slotT] at h ⊢
  split at h
  · rename_i hh
    rw [if_pos hh]
    simp only [Bool.and_eq_true, beq_iff_eq] at hh
    have h1 := tbl_mono hW _ t _ rfl (hb hh.2)
    rcases idx_range (l := tbl g (ownM g m)) (v := m) with h2 | h2
    · omega
    · omega
  · omega
theorem methodsOf_own {g : Img} {u k : Int} (h : k ∈ methodsOf g u) : ownM g k = u := by
  simp only [methodsOf, List.mem_filter, Bool.and_eq_true, beq_iff_eq] at h
  exact h.2.2
set_option maxHeartbeats 1000000 in
/-- A method of a class, or one that has no slot. -/
theorem done0_call (g : Img) (hF : Fine g) (t m : Int) (hm : mOk g m) (hn : (kindG g (ownM g m) == 2 && virt g m) = false) (hb : kindG g (ownM g m) = 0 → ownM g m ∈ up g t) : ACall Tryz.prog 120 [imgPV g, pi t, pi m] (pi (done0 g t m)) := by
  have hW := well_wl hF.well
  have hem := mAt_get hm
  have c1 := KindPG_call g hF.formed (mAt g m).owner
  have c2 := has2 hF hm
  have c3 := slotP_call g hF m hm
  have c4 := ofS_call g hF t
  have hsi := slot_in hW hb
  rw [ownM] at hn
  refine acall_intro tbOK Tryz.func120 rfl (by kernel_rfl) Tryz.ntmps120 (by simp) _ rfl (fun hw gB hgB => ?_)
  by_cases hk : kindG g (mAt g m).owner = 2
  · rw [hk] at c1 hn
    have hv : virt g m = false := by simpa using hn
    rw [hv] at c2
    by_cases hs : slotT g m < 0
    · repeat' (first | (refine shC ?_; first | refine qC c1 ?_ | refine qC c2 ?_ | refine qC c3 ?_) | (refine shX ?_; first | refine ao_q rfl (q_index tbOK rfl rfl rfl rfl rfl rfl hm.1 hem) rfl rfl ?_ | refine AD.step _ _ _ _ _ rfl (q_index tbOK rfl rfl rfl rfl rfl rfl hm.1 hem) rfl rfl ?_) | refine sK ?_ | refine sC (fun _ => ?_) (fun _ => ?_) | fail)
      exact retq rfl (by simp [retPV, done0, hs])
    · have he : ((tbl g t).map pi)[(slotT g m).toNat]? = some (pi ((tbl g t).getD (slotT g m).toNat 0)) := by rw [getD_get (hsi hs)]; exact map_get' (hsi hs)
      have hd : decide (slotT g m < 0) = false := decide_eq_false hs
      repeat' (first | (refine shC ?_; first | refine qC c1 ?_ | refine qC c2 ?_ | refine qC c3 ?_ | refine qC c4 ?_) | (refine shX ?_; first | refine ao_q rfl (q_index tbOK rfl rfl rfl rfl rfl rfl hm.1 hem) rfl rfl ?_ | refine AD.step _ _ _ _ _ rfl (q_index tbOK rfl rfl rfl rfl rfl rfl hm.1 hem) rfl rfl ?_ | refine qX he ?_) | refine sK ?_ | refine sC (fun _ => ?_) (fun _ => ?_) | fail)
      exact retq rfl (by rw [done0, if_neg hs]; rfl)
  · have hkb : (kindG g (mAt g m).owner == 2) = false := by simp [hk]
    by_cases hs : slotT g m < 0
    · repeat' (first | (refine shC ?_; first | refine qC c1 ?_ | refine qC c2 ?_ | refine qC c3 ?_) | (refine shX ?_; first | refine ao_q rfl (q_index tbOK rfl rfl rfl rfl rfl rfl hm.1 hem) rfl rfl ?_ | refine AD.step _ _ _ _ _ rfl (q_index tbOK rfl rfl rfl rfl rfl rfl hm.1 hem) rfl rfl ?_) | refine sK ?_ | refine sC (fun _ => ?_) (fun _ => ?_) | fail)
      exact retq rfl (by simp [retPV, done0, hs])
    · have he : ((tbl g t).map pi)[(slotT g m).toNat]? = some (pi ((tbl g t).getD (slotT g m).toNat 0)) := by rw [getD_get (hsi hs)]; exact map_get' (hsi hs)
      have hd : decide (slotT g m < 0) = false := decide_eq_false hs
      repeat' (first | (refine shC ?_; first | refine qC c1 ?_ | refine qC c2 ?_ | refine qC c3 ?_ | refine qC c4 ?_) | (refine shX ?_; first | refine ao_q rfl (q_index tbOK rfl rfl rfl rfl rfl rfl hm.1 hem) rfl rfl ?_ | refine AD.step _ _ _ _ _ rfl (q_index tbOK rfl rfl rfl rfl rfl rfl hm.1 hem) rfl rfl ?_ | refine qX he ?_) | refine sK ?_ | refine sC (fun _ => ?_) (fun _ => ?_) | fail)
      exact retq rfl (by rw [done0, if_neg hs]; rfl)
theorem drop_flat {α : Type} {l : List α} {f : α → List Int} {i : Nat} (h : i < l.length) : (l.drop i).flatMap f = f l[i] ++ (l.drop (i + 1)).flatMap f := by
  rw [List.drop_eq_getElem_cons h, List.flatMap_cons]
theorem up0 {g : Img} (hW : Wl g) {t u k : Int} (hk : kindG g t = 0) (hu : u ∈ up g t) (h : k ∈ methodsOf g u) : mOk g k ∧ (kindG g (ownM g k) == 2 && virt g k) = false ∧ (kindG g (ownM g k) = 0 → ownM g k ∈ up g t) := by
  have h1 := up_kind0 hW _ t rfl hk _ hu
  refine ⟨methodsOf_mem h, ?_, fun _ => by rw [methodsOf_own h]; exact hu⟩
  rw [methodsOf_own h, h1]; rfl
set_option maxHeartbeats 2000000 in
theorem face_call (g : Img) (hF : Fine g) (t m : Int) (hm : mOk g m) (hk : kindG g t = 0) : ACall Tryz.prog 130 [imgPV g, pi t, pi m] (pi (faceT g t m)) := by
  have hW := well_wl hF.well
  obtain ⟨hgt, _, hgm, _⟩ := formedG_bounds hF.formed
  have hem := mAt_get hm
  have hui := up_inv g t
  have hul := nodup_le _ _ hui.1 hui.2
  refine acall_intro tbOK Tryz.func130 rfl (by kernel_rfl) Tryz.ntmps130 (by simp) _ rfl (fun hw gB hgB => ?_)
  repeat' (first | (refine shC ?_; first | refine ao_q rfl (q_call rfl rfl (UpP_call g t (by omega))) rfl rfl ?_ | refine AD.step _ _ _ _ _ rfl (q_call rfl rfl (UpP_call g t (by omega))) rfl rfl ?_) | refine sA ?_ | refine sC (fun _ => ?_) (fun _ => ?_) | fail)
  refine aw_loop (fun i : Nat => [(1, .pv (pi t)), (2, .pv (pi m)), (3, .pv (.ptr (imgPV g) 0)), (13, .pv (ints (up g t))), (14, .pv (pi (up g t).length)), (15, .pv (pi i))]) (fun _ => []) (fun i => i ≤ (up g t).length ∧ faceK g t m = (((up g t).drop i).flatMap (methodsOf g)).find? (does g m)) (fun i => (up g t).length - i) 0 ⟨by omega, rfl⟩ (tS) tH ?_
  rintro i ⟨hi, hr⟩
  by_cases hlt : i < (up g t).length
  · obtain ⟨u, hu⟩ : ∃ u, u = (up g t)[i] := ⟨_, rfl⟩
    have hum : u ∈ up g t := by rw [hu]; exact List.getElem_mem hlt
    have heu : ((up g t).map pi)[i]? = some (pi u) := by rw [hu]; exact map_get (f := pi) hlt
    have c1 := MethodsP_call g u (by omega)
    have hml := methodsOf_len g u
    rw [drop_flat hlt, ← hu] at hr
    repeat' (first | (refine shC ?_; first | refine qC c1 ?_) | (refine shX ?_; first | refine qX heu ?_) | refine sK ?_ | refine sC (fun _ => ?_) (fun _ => ?_) | fail)
    refine aw_loop (fun j : Nat => [(1, .pv (pi t)), (2, .pv (pi m)), (3, .pv (.ptr (imgPV g) 0)), (13, .pv (ints (up g t))), (14, .pv (pi (up g t).length)), (15, .pv (pi i)), (21, .pv (ints (methodsOf g u))), (22, .pv (pi (methodsOf g u).length)), (23, .pv (pi j))]) (fun _ => [])
      (fun j => j ≤ (methodsOf g u).length ∧ faceK g t m = ((methodsOf g u).drop j ++ ((up g t).drop (i + 1)).flatMap (methodsOf g)).find? (does g m)) (fun j => (methodsOf g u).length - j) 0 ⟨by omega, hr⟩ (tS) tH ?_
    clear hr
    rintro j ⟨hj, hr⟩
    by_cases hjl : j < (methodsOf g u).length
    · obtain ⟨k, hk2⟩ : ∃ k, k = (methodsOf g u)[j] := ⟨_, rfl⟩
      have hkm : k ∈ methodsOf g u := by rw [hk2]; exact List.getElem_mem hjl
      have hek : ((methodsOf g u).map pi)[j]? = some (pi k) := by rw [hk2]; exact map_get (f := pi) hjl
      obtain ⟨q1, q2, q3⟩ := up0 hW hk hum hkm
      have hekm := mAt_get q1
      have c2 := has2 hF q1
      have c3 := AlikeP_call (mAt g k) (mAt g m)
      rw [alkP_eq hF.formed q1 hm] at c3
      rw [List.drop_eq_getElem_cons hjl, ← hk2, List.cons_append, List.find?_cons] at hr
      cases hv : virt g k
      · rw [hv] at c2
        rw [show does g m k = false by rw [does, hv]; rfl] at hr
        repeat' (first | (refine shC ?_; first | refine qC c2 ?_) | (refine shX ?_; first | refine qX hek ?_ | refine ao_q rfl (q_index tbOK rfl rfl rfl rfl rfl rfl q1.1 hekm) rfl rfl ?_ | refine AD.step _ _ _ _ _ rfl (q_index tbOK rfl rfl rfl rfl rfl rfl q1.1 hekm) rfl rfl ?_) | refine sK ?_ | refine sC (fun _ => ?_) (fun _ => ?_) | fail)
        exact ⟨j + 1, ⟨hjl, hr⟩, tD, tS, tH⟩
      · rw [hv] at c2
        cases ha : alk g k m
        · rw [ha] at c3
          rw [show does g m k = false by rw [does, hv, ha]; rfl] at hr
          repeat' (first | (refine shC ?_; first | refine qC c2 ?_ | refine qC c3 ?_) | (refine shX ?_; first | refine qX hek ?_ | refine ao_q rfl (q_index tbOK rfl rfl rfl rfl rfl rfl q1.1 hekm) rfl rfl ?_ | refine AD.step _ _ _ _ _ rfl (q_index tbOK rfl rfl rfl rfl rfl rfl q1.1 hekm) rfl rfl ?_ | refine ao_q rfl (q_index tbOK rfl rfl rfl rfl rfl rfl hm.1 hem) rfl rfl ?_ | refine AD.step _ _ _ _ _ rfl (q_index tbOK rfl rfl rfl rfl rfl rfl hm.1 hem) rfl rfl ?_) | refine sK ?_ | refine sC (fun _ => ?_) (fun _ => ?_) | fail)
          exact ⟨j + 1, ⟨hjl, hr⟩, tD, tS, tH⟩
        · rw [ha] at c3
          rw [show does g m k = true by rw [does, hv, ha]; rfl] at hr
          repeat' (first | (refine shC ?_; first | refine qC c2 ?_ | refine qC c3 ?_ | refine qC (done0_call g hF t k q1 q2 q3) ?_) | (refine shX ?_; first | refine qX hek ?_ | refine ao_q rfl (q_index tbOK rfl rfl rfl rfl rfl rfl q1.1 hekm) rfl rfl ?_ | refine AD.step _ _ _ _ _ rfl (q_index tbOK rfl rfl rfl rfl rfl rfl q1.1 hekm) rfl rfl ?_ | refine ao_q rfl (q_index tbOK rfl rfl rfl rfl rfl rfl hm.1 hem) rfl rfl ?_ | refine AD.step _ _ _ _ _ rfl (q_index tbOK rfl rfl rfl rfl rfl rfl hm.1 hem) rfl rfl ?_) | refine sK ?_ | refine sC (fun _ => ?_) (fun _ => ?_) | fail)
          exact retq rfl (by rw [faceT, hr]; rfl)
    · rw [List.drop_eq_nil_of_le (by omega), List.nil_append] at hr
      repeat' (first | refine sK ?_ | refine sC (fun _ => ?_) (fun _ => ?_) | fail)
      exact ⟨i + 1, ⟨hlt, hr⟩, tD, tS, tH⟩
  · rw [List.drop_eq_nil_of_le (by omega)] at hr
    repeat' (first | refine sK ?_ | refine sC (fun _ => ?_) (fun _ => ?_) | fail)
    exact retq rfl (by rw [faceT, hr]; rfl)
set_option maxHeartbeats 1000000 in
theorem done_call (g : Img) (hF : Fine g) (t m : Int) (hm : mOk g m) (hk : kindG g t = 0) (hb : kindG g (ownM g m) = 0 → ownM g m ∈ up g t) : ACall Tryz.prog 120 [imgPV g, pi t, pi m] (pi (doneT g t m)) := by
  cases hc : (kindG g (ownM g m) == 2 && virt g m)
  · rw [show doneT g t m = done0 g t m by rw [doneT, hc]; rfl]
    exact done0_call g hF t m hm hc hb
  · have hem := mAt_get hm
    have c1 := KindPG_call g hF.formed (mAt g m).owner
    have c2 := has2 hF hm
    have c3 := face_call g hF t m hm hk
    rw [show doneT g t m = faceT g t m by rw [doneT, hc]; rfl]
    rw [Bool.and_eq_true, ownM, beq_iff_eq] at hc
    rw [hc.1] at c1
    rw [hc.2] at c2
    refine acall_intro tbOK Tryz.func120 rfl (by kernel_rfl) Tryz.ntmps120 (by simp) _ rfl (fun hw gB hgB => ?_)
    repeat' (first | (refine shC ?_; first | refine qC c1 ?_ | refine qC c2 ?_ | refine qC c3 ?_) | (refine shX ?_; first | refine ao_q rfl (q_index tbOK rfl rfl rfl rfl rfl rfl hm.1 hem) rfl rfl ?_ | refine AD.step _ _ _ _ _ rfl (q_index tbOK rfl rfl rfl rfl rfl rfl hm.1 hem) rfl rfl ?_) | refine sK ?_ | refine sC (fun _ => ?_) (fun _ => ?_) | fail)
    exact retq rfl rfl
end Go.Cg
