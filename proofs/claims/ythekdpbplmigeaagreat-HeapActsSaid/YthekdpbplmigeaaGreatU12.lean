/- A part of the walks by abstract values: no statement of its own. -/
import Derived.Test.YthekdpbplmigeaaGreatU4
import Derived.Test.YthekdpbplmigeaaGreatU11
import Derived.Shelf.Abstract
import Derived.OwnWalkIn
import Derived.TacticsInMore
import Derived.LoopNIn
import Derived.LoopIn
import Derived.Test.YthekdpbplmigeaaGreatU9
import Derived.Test.YthekdpbplmigeaaGreatU2
import Derived.Test.YthekdpbplmigeaaGreatU8
import Derived.Laws.OwnMore
set_option linter.unusedVariables false
set_option linter.unusedSimpArgs false
namespace Go.Cg
open Go.Proofs Go.RowKit Go.Shelf
attribute [local go_sem] Oper.semAt_some
def backL (l : List Int) (r : Nat) : List (Int × Int) := (List.range (l.length - r)).map fun k => (((l.length - 1 - k : Nat) : Int), l.getD (l.length - 1 - k) 0)
theorem backL_none (l : List Int) : backL l l.length = [] := by simp [backL]
theorem backL_len (l : List Int) (r : Nat) : (backL l r).length = l.length - r := by simp [backL]
theorem backL_step {l : List Int} {m : Nat} (h : m < l.length) : backL l m = backL l (m + 1) ++ [((m : Int), l.getD m 0)] := by
 rw [backL, backL, show l.length - m = (l.length - (m + 1)) + 1 by omega, List.range_succ, List.map_append, List.map_singleton]
 rw [show l.length - 1 - (l.length - (m + 1)) = m by omega]
def SlHolds (W : World) (v : Value) (l : List Int) : Prop :=
 ∃ (Bs o : Nat) (sv : Value), v = .pointer (some ⟨Bs, o, none⟩) ∧ W.cell? ⟨Bs, o, none⟩ = some sv ∧
  ((l = [] ∧ ∃ p, sv = .slice p 0 0) ∨ ∃ b off cap, sv = .slice (some ⟨b, off, none⟩) l.length cap ∧ ∀ j, j < l.length → W.cell? ⟨b, off + j, none⟩ = some (.int .i64 (l.getD j 0)))
theorem slHolds_of {K : Cg.KK} {W : World} {l : List Int} {vc : List Value} (h : PRels K W [.ptr (ints l) 0] vc) : ∃ v, vc = [v] ∧ SlHolds W v l := by
 obtain ⟨v, vs, rfl, r, h2⟩ := h.cons_inv
 obtain rfl := h2.nil_inv
 refine ⟨v, rfl, ?_⟩
 cases r with
 | ptr _ _ b o vs hl hr hc =>
  cases vs with
  | nil => simp [PV.cells, ints] at hl
  | cons sv vs' =>
   have h0 := hr 0 sv rfl
   have hp := hc 0 (ints l) sv rfl rfl
   refine ⟨b, o, sv, by simp, by simpa using h0.2.1, ?_⟩
   generalize hls : ints l = p at hp
   cases hp with
   | nil sz full =>
    simp [ints] at hls
    exact .inl ⟨hls.2.1, none, rfl⟩
   | emp sz full a =>
    simp [ints] at hls
    exact .inl ⟨hls.2.1, some a, rfl⟩
   | slc sz es full b2 o2 cap vss q0 q1 q2 q3 q4 q5 q6 =>
    simp only [ints, PV.slc.injEq] at hls
    obtain ⟨rfl, rfl, _⟩ := hls
    refine .inr ⟨b2, o2, cap, by simp, fun j hj => ?_⟩
    have he : (l.map pi)[j]? = some (pi l[j]) := by simp [hj]
    obtain ⟨_, e2, e3⟩ := q5 j _ he
    have hlt : 0 < (vss j).length := by omega
    have hv := q6 j _ 0 _ (vss j)[0] he rfl (List.getElem?_eq_getElem hlt)
    have hcell := (e3 0 _ (List.getElem?_eq_getElem hlt)).2.1
    generalize (vss j)[0] = y at hv hcell
    cases hv
    rw [List.getD_eq_getElem?_getD, List.getElem?_eq_getElem hj, Option.getD_some]
    simpa using hcell
   | _ => simp [ints] at hls
set_option maxRecDepth 100000 in
set_option maxHeartbeats 4000000 in
theorem back1_in (n : Nat) (rn : Nat) (v : Value) (l : List Int) (hreach : l.length ≤ 1000) (J Jx : List (Int × Int) → World → Prop)
  (hY : ∀ pre x W, J pre W → pre.length < l.length → YieldAt Fence.wide (n - 1) Tryz.prog rn #[.int .i64 x.1, .int .i64 x.2] W fun e W' =>
   (e = .returned (.bool true) ∧ J (pre ++ [x]) W' ∧ ((∃ K, PRels K W [.ptr (ints l) 0] [v]) → ∃ K, PRels K W' [.ptr (ints l) 0] [v])) ∨ (e = .returned (.bool false) ∧ Jx (pre ++ [x]) W'))
  (W : World) (hvP : ∃ K, PRels K W [.ptr (ints l) 0] [v]) (h0 : J [] W) :
  CallsIn Fence.wide n Tryz.prog 229 #[.func (.yield rn) #[] #[], v] W fun e W' => (∃ u, e = .returned u) ∧
   ((∃ ys, ys = backL l 0 ∧ J ys W') ∨ (∃ pre, Jx pre W')) := by
 obtain ⟨Bs, o, sv, rfl, hBs, hsv⟩ : SlHolds W v l := by
  obtain ⟨K, hp⟩ := hvP
  obtain ⟨v2, e, hv2⟩ := slHolds_of hp
  simp only [List.cons.injEq, and_true] at e; subst e; exact hv2
 obtain ⟨p, cap, hsve⟩ : ∃ p cap, sv = .slice p l.length cap := by
  rcases hsv with ⟨rfl, p, rfl⟩ | ⟨b, off, cap, rfl, _⟩
  ·exact ⟨p, 0, rfl⟩
  ·exact ⟨_, cap, rfl⟩
 subst hsve
 refine callsIn_of_wp Tryz.func229 rfl trivial ?_ rfl
 simp only [Tryz.ntmps229, List.size_toArray, List.length_cons, List.length_nil, Nat.reduceAdd, Nat.reduceSub, Array.replicate_succ, Array.replicate_zero, List.push_toArray, List.append_toArray, List.nil_append, List.cons_append]
 gi_wp2
 gi_loopw [3] (fun i wr => ∃ r : Nat, r ≤ l.length ∧ i = .int .i64 ((r : Int) - 1) ∧ J (backL l r) wr ∧ ∃ K, PRels K wr [.ptr (ints l) 0] [.pointer (some ⟨Bs, o, none⟩)])
  (fun i _ => (RowKit.intOf i + 1).toNat)
 case atStart => exact ⟨l.length, Nat.le_refl _, by first | rfl | (simp; done) | (congr 1; exact wrap_in (by omega) (by omega)), by rw [backL_none]; exact h0, hvP⟩
 case round =>
  obtain ⟨r, hk, rfl, hJs, hnx⟩ := hrel
  clear hsv hBs
  obtain ⟨Bs', o', sv, e1, hBs, hsv⟩ : SlHolds wr (.pointer (some ⟨Bs, o, none⟩)) l := by
   obtain ⟨K, hp⟩ := hnx
   obtain ⟨v2, e, hv2⟩ := slHolds_of hp
   simp only [List.cons.injEq, and_true] at e; subst e; exact hv2
  simp only [Value.pointer.injEq, Option.some.injEq, Addr.mk.injEq, and_true] at e1
  obtain ⟨rfl, rfl⟩ := e1
  cases r with
  | zero =>
   gi_wp2
   go_end0
   exact ⟨⟨_, rfl⟩, .inl ⟨_, rfl, hJs⟩⟩
  | succ m =>
   have hm : m < l.length := by omega
   rcases hsv with ⟨rfl, _⟩ | ⟨b, off, cap2, rfl, hcs⟩
   ·simp at hm
   ·have hcx := hcs m hm
    obtain ⟨fn, tmps, assign, body, hy, hR⟩ := hY _ ((m : Int), l.getD m 0) wr hJs (by rw [backL_len]; omega)
    dsimp only at hy
    have hgd : l.getD m 0 = l[m] := by rw [List.getD_eq_getElem?_getD, List.getElem?_eq_getElem hm, Option.getD_some]
    rw [hgd] at hy hcx
    rw [show (((m + 1 : Nat) : Int) - 1) = ((m : Nat) : Int) by omega]
    gi_wp2
    refine ⟨fun hh => by simp [Fence.wide] at hh, hR.mono ?_⟩
    rintro e W3 (⟨rfl, hJ3, hk3⟩ | ⟨rfl, hJx3⟩)
    ·gi_wp2
     go_roundw
     case rel => exact ⟨m, by omega, by first | rfl | (simp; done) | (congr 1; exact wrap_in (by omega) (by omega)), by rw [backL_step hm]; exact hJ3, hk3 hnx⟩
     case measure => simp [RowKit.intOf]
    ·gi_wp2
     refine bodyPost_ret (results_none rfl _ _ _) rfl ?_
     exact ⟨⟨_, rfl⟩, .inr ⟨_, hJx3⟩⟩
theorem back_iter (l : List Int) (hreach : l.length ≤ 1000) : AIter Tryz.prog 229 [.ptr (ints l) 0] (fun x : Int × Int => #[.int .i64 x.1, .int .i64 x.2]) (backL l 0) := by
 refine ⟨⟨_, Tryz.func229, rfl, by kernel_rfl⟩, fun K w vc n hp => ?_⟩
 obtain ⟨v, rfl, _⟩ := slHolds_of hp
 intro rn J Jx W hW hJ hJx hY h0
 have hpW : PRels K W [.ptr (ints l) 0] [v] := hp.keepc fun x u hx => by
  obtain ⟨o, ho, _⟩ := cells_of_cell hx
  exact (hW.cell (p := x) (Array.getElem?_eq_some_iff.1 ho).1).trans hx
 rw [show (backL l 0).length = l.length by rw [backL_len]; omega] at hY
 refine (back1_in n rn v l hreach J Jx hY W ⟨K, hpW⟩ h0).mono ?_
 rintro e W' ⟨h1, h2 | ⟨pre, h2⟩⟩
 ·exact ⟨h1, .inl h2⟩
 ·exact ⟨h1, .inr ⟨pre, trivial, h2⟩⟩
set_option maxHeartbeats 1000000 in
theorem Backward_call (l : List Int) : ACall Tryz.prog 174 [ints l] (.fn (.func 229) [] [.ptr (ints l) 0]) := by
 refine acall_intro tbOK Tryz.func174 rfl (by kernel_rfl) Tryz.ntmps174 (by simp) _ rfl (fun hw gB hgB => ?_)
 repeat' (first | refine sA ?_ | refine sC (fun _ => ?_) (fun _ => ?_) | fail)
 exact retq rfl rfl
end Go.Cg
namespace Go.Cg
open Go.Proofs
theorem backL_snd (l : List Int) : (backL l 0).map (·.2) = l.reverse := by
 apply List.ext_getElem
 ·simp [backL]
 ·intro i h1 h2
  have hi : i < l.length := by simpa [backL] using h1
  simp only [backL, List.getElem_map, List.getElem_range, List.getElem_reverse]
  rw [List.getD_eq_getElem?_getD, List.getElem?_eq_getElem (by omega), Option.getD_some]
theorem ownF_cells_le {g : Img} (hF : Fine g) (u : Int) : (fcs g (ownF g u)).length ≤ 512 := by
 have := fcs_filter_le hF (ownP u) g.fields.length
 rw [List.take_length] at this
 exact this
theorem upCells_any {g : Img} (hF : Fine g) : ∀ us : List Int, (upCells g us).length ≤ 512 * us.length
 | [] => by simp [upCells]
 | u :: us => by
  have h1 := ownF_cells_le hF u
  have h2 := upCells_any hF us
  rw [upCells, List.flatMap_cons, List.length_append]
  rw [upCells] at h2
  simp only [List.length_cons]; omega
set_option maxHeartbeats 1000000 in
theorem object_call (g : Img) (hF : Fine g) (t : Int) : ACall Tryz.prog 120 [imgPV g, pi t] (tys (objT g t)) := by
 have hgl : g.fields.length ≤ 64 := by have := (formedG_bounds hF.formed).2.1; omega
 have hgt : g.types.length ≤ 32 := (formedG_bounds hF.formed).1
 have hui := up_inv g t
 have hul := nodup_le _ _ hui.1 hui.2
 refine acall2_intro tbOK Tryz.func120 rfl (by kernel_rfl) Tryz.ntmps120 (by simp) _ rfl (fun hw gB hgB hds => ?_)
 refine aw2_seqL ?_
 repeat' (first | refine sA ?_ | refine sC (fun _ => ?_) (fun _ => ?_) | fail)
 refine aw2_seqL ?_
 repeat' (first | refine sA ?_ | refine sC (fun _ => ?_) (fun _ => ?_) | fail)
 refine aw2_seqR ?_
 refine aw2_seqL ?_
 repeat' (first | refine aw_own_nil_cell 0 1 36 4 (by decide) rfl rfl ?_ | (refine shC ?_; first | refine ao_q rfl (q_call rfl rfl (UpP_call g t (by omega))) rfl rfl ?_ | refine AD.step _ _ _ _ _ rfl (q_call rfl rfl (UpP_call g t (by omega))) rfl rfl ?_ | refine qC (Backward_call _) ?_) | refine sA ?_ | refine sC (fun _ => ?_) (fun _ => ?_) | fail)
 refine aw2_block ?_
 refine aw2_range (fun x => .int .i64 x.1) (fun x => .int .i64 x.2) (back_iter (up g t) (by omega)) [(2, .pv (.ptr (imgPV g) 0)), (5, .box 0 0), (13, .pv (.fn (.func 229) [] [.ptr (ints (up g t)) 0]))]
  (fun pre => [(0, .cell (.own 1)), (1, .row 36 4 ((upCells g (pre.map (·.2))).map tyPV))]) 100 hgB hds (fun _ => rfl) (fun _ => rfl) rfl (tS) rfl rfl rfl (by decide) ⟨by repeat (first | exact hsub_nil | refine hsub_cons rfl ?_), rfl⟩ (fun _ => rfl) (fun _ => rfl) rfl ?_ ?_
 ·intro g2 us pre x hlen
  rw [backL_len] at hlen
  have hb1 := upCells_any hF (pre.map (·.2))
  rw [List.length_map] at hb1
  have hol := ownF_len g x.2
  repeat' (first | (refine shC ?_; first | refine qC (own_call g x.2 hF.formed) ?_) | refine sA ?_ | refine sC (fun _ => ?_) (fun _ => ?_) | fail)
  refine aw_loop (fun k : Nat => [(2, .pv (.ptr (imgPV g) 0)), (5, .box 0 0), (18, .pv (.slc 7 ((ownF g x.2).map fdPV) false)), (19, .pv (pi (ownF g x.2).length)), (20, .pv (pi k))])
   (fun k => [(0, .cell (.own 1)), (1, .row 36 4 ((upCells g (pre.map (·.2)) ++ fcs g ((ownF g x.2).take k)).map tyPV))] ++ pinsOf us 100 [(2, .pv (.ptr (imgPV g) 0)), (5, .box 0 0), (13, .pv (.fn (.func 229) [] [.ptr (ints (up g t)) 0]))])
   (fun k => k ≤ (ownF g x.2).length) (fun k => (ownF g x.2).length - k) 0 (by omega) (tS) ⟨hsub_cons rfl (hsub_r rfl (by simp [fcs]) (by repeat (first | exact hsub_nil | refine hsub_cons rfl ?_))), rfl⟩ ?_
  rintro k hk
  have hle := fcs_le hF ((ownF g x.2).take k) (fun f h => ownF_sub (List.mem_of_mem_take h))
  have hlk : ((ownF g x.2).take k).length ≤ k := by simp; omega
  by_cases hlt : k < (ownF g x.2).length
  ·have he := map_get (f := fdPV) hlt
   have c1 := cellsPT_call g hF (ownF g x.2)[k].ty
   have hs := fcs_take_succ' (g := g) hlt
   have hcl := hF.field_le (ownF_sub (List.getElem_mem hlt))
   repeat' (first | refine aw_draw_tailL 7 5 rfl (by kernel_rfl) (by kernel_rfl) (by kernel_rfl) (by kernel_rfl) (by kernel_rfl) ?_ | (refine shC ?_; first | refine qC c1 ?_) | (refine shX ?_; first | refine qX he ?_) | (refine ao_sh_bi ?_; first | refine ao_append tbOK rfl rfl rfl rfl rfl rfl rfl (by show _ * 32 ≤ _; simp; omega) (by simp; omega) rfl rfl ?_) | refine sK ?_ | refine sC (fun _ => ?_) (fun _ => ?_) | fail)
   exact ⟨k + 1, hlt, tD, tS, ⟨hsub_cons rfl (hsub_r rfl (by rw [hs]; simp) (by repeat (first | exact hsub_nil | refine hsub_cons rfl ?_))), rfl⟩⟩
  ·rw [List.take_of_length_le (by omega)]
   repeat' (first | refine sK ?_ | refine sC (fun _ => ?_) (fun _ => ?_) | fail)
   exact ⟨hsub_cons rfl (hsub_r rfl (by simp [upCells]) (by repeat (first | exact hsub_nil | refine hsub_cons rfl ?_))), rfl⟩
 ·intro g3
  repeat' (first | refine sA ?_ | refine sC (fun _ => ?_) (fun _ => ?_) | fail)
  exact ⟨rfl, retq rfl (by rw [backL_snd]; rfl)⟩
end Go.Cg
namespace Go.Cg
open Go.Proofs
theorem sum_take_succ {l : List Int} {f : Int → Nat} {k : Nat} (h : k < l.length) : ((l.take (k + 1)).map f).sum = ((l.take k).map f).sum + f l[k] := by
 rw [List.take_succ_eq_append_getElem h, List.map_append, List.sum_append]; simp
set_option maxHeartbeats 1000000 in
theorem total_call (g : Img) (hwl : wellR g = true) (hu : allUsed g = true) (t : Int) : ∃ r : Nat, Cnt 32 r (objT g t).length ∧ ACall Tryz.prog 116 [imgPV g, pi t] (pi (r : Nat)) := by
 have hf := well_formed hwl
 have hgl : g.fields.length ≤ 64 := by have := (formedG_bounds hf).2.1; omega
 have hgt : g.types.length ≤ 32 := (formedG_bounds hf).1
 have hui := up_inv g t
 have hul := nodup_le _ _ hui.1 hui.2
 let add : Nat → Fd → Nat := fun r f => if r ≤ 32 then r + cntT g 32 f.ty else r
 let addU : Nat → Int → Nat := fun r u => (ownF g u).foldl add r
 have hadd : ∀ (l : List Fd) (r s : Nat), r ≤ 65 → Cnt 32 r s → l.foldl add r ≤ 65 ∧ Cnt 32 (l.foldl add r) (s + (fcs g l).length) := by
  intro l
  induction l with
  | nil => intro r s h1 h2; exact ⟨h1, by simpa [fcs] using h2⟩
  | cons f l ih =>
   intro r s h1 h2
   rw [List.foldl_cons, fcs_len_cons, ← Nat.add_assoc]
   have hcl : cntT g 32 f.ty ≤ 33 := Nat.min_le_right _ _
   refine ih _ _ ?_ ?_
   ·simp only [add]; split <;> omega
   ·simp only [add]
    split
    ·rename_i h; exact h2.add h
    ·rename_i h; exact h2.stay (by omega)
 have haddU : ∀ (us : List Int) (r s : Nat), r ≤ 65 → Cnt 32 r s → us.foldl addU r ≤ 65 ∧ Cnt 32 (us.foldl addU r) (s + (us.map fun u => (fcs g (ownF g u)).length).sum) := by
  intro us
  induction us with
  | nil => intro r s h1 h2; exact ⟨h1, by simpa using h2⟩
  | cons u us ih =>
   intro r s h1 h2
   obtain ⟨k1, k2⟩ := hadd (ownF g u) r s h1 h2
   rw [List.foldl_cons, List.map_cons, List.sum_cons, ← Nat.add_assoc]
   exact ih _ _ k1 k2
 obtain ⟨hb, hc⟩ := haddU (up g t) 0 0 (by omega) (Cnt.zero _)
 rw [Nat.zero_add, ← objT_len] at hc
 refine ⟨(up g t).foldl addU 0, hc, ?_⟩
 clear hc
 refine acall_intro tbOK Tryz.func116 rfl (by kernel_rfl) Tryz.ntmps116 (by simp) _ rfl (fun hw gB hgB => ?_)
 repeat' (first | (refine shC ?_; first | refine ao_q rfl (q_call rfl rfl (UpP_call g t (by omega))) rfl rfl ?_ | refine AD.step _ _ _ _ _ rfl (q_call rfl rfl (UpP_call g t (by omega))) rfl rfl ?_) | refine sA ?_ | refine sC (fun _ => ?_) (fun _ => ?_) | fail)
 refine aw_loop (fun x : Nat × Nat => [(2, .pv (.ptr (imgPV g) 0)), (5, .pv (pi x.2)), (12, .pv (ints (up g t))), (13, .pv (pi (up g t).length)), (14, .pv (pi x.1))]) (fun _ => [])
  (fun x => x.1 ≤ (up g t).length ∧ x.2 ≤ 65 ∧ ((up g t).drop x.1).foldl addU x.2 = (up g t).foldl addU 0) (fun x => (up g t).length - x.1) (0, 0) ⟨by simp, by simp, rfl⟩ (tS) tH ?_
 rintro ⟨k, r⟩ ⟨hk, hr, hfd⟩
 simp only at hk hr hfd
 by_cases hlt : k < (up g t).length
 ·have heU := ints_get hlt
  rw [drop_foldl hlt] at hfd
  have hol := ownF_len g (up g t)[k]
  repeat' (first | (refine shC ?_; first | refine qC (own_call g _ hf) ?_) | (refine shX ?_; first | refine qX heU ?_) | refine sK ?_ | refine sC (fun _ => ?_) (fun _ => ?_) | fail)
  refine aw_loop (fun x : Nat × Nat => [(2, .pv (.ptr (imgPV g) 0)), (5, .pv (pi x.2)), (12, .pv (ints (up g t))), (13, .pv (pi (up g t).length)), (14, .pv (pi k)), (20, .pv (.slc 7 ((ownF g (up g t)[k]).map fdPV) false)), (21, .pv (pi (ownF g (up g t)[k]).length)), (22, .pv (pi x.1))]) (fun _ => [])
   (fun x => x.1 ≤ (ownF g (up g t)[k]).length ∧ x.2 ≤ 65 ∧ ((ownF g (up g t)[k]).drop x.1).foldl add x.2 = addU r (up g t)[k]) (fun x => (ownF g (up g t)[k]).length - x.1) (0, r) ⟨by simp, hr, rfl⟩ (tS) tH ?_
  rintro ⟨m, s⟩ ⟨hm, hs, hfs⟩
  simp only at hm hs hfs
  by_cases hltm : m < (ownF g (up g t)[k]).length
  ·have he := map_get (f := fdPV) hltm
   rw [drop_foldl hltm] at hfs
   have c1 := count_call g hwl hu 32 (by omega) (by omega) _ (ownF g (up g t)[k])[m].ty (dp_all hwl hu _)
   have hcl : cntT g 32 (ownF g (up g t)[k])[m].ty ≤ 33 := Nat.min_le_right _ _
   simp only [add] at hfs
   generalize cntT g 32 (ownF g (up g t)[k])[m].ty = c at c1 hcl hfs
   by_cases hsb : s ≤ 32
   ·rw [if_pos hsb] at hfs
    have hd1 : decide ((s : Int) ≤ 32) = true := by simp; omega
    repeat' (first | (refine shC ?_; first | refine qC c1 ?_) | (refine shX ?_; first | refine qX he ?_) | refine sK ?_ | refine sC (fun _ => ?_) (fun _ => ?_) | fail)
    exact ⟨(m + 1, s + c), ⟨hltm, by simp only; omega, hfs⟩, tD, by repeat (first | exact sub_nil | refine sub_cons rfl ?_ | (refine sub_i rfl ?_ ?_; · (first | (rw [wrap_in (by omega) (by omega)] <;> omega) | (dsimp only; rw [wrap_in (by omega) (by omega)] <;> (push_cast; omega))))), tH⟩
   ·rw [if_neg hsb] at hfs
    have hd1 : decide ((s : Int) ≤ 32) = false := by simp; omega
    repeat' (first | (refine shX ?_; first | refine qX he ?_) | refine sK ?_ | refine sC (fun _ => ?_) (fun _ => ?_) | fail)
    exact ⟨(m + 1, s), ⟨hltm, hs, hfs⟩, tD, tS, tH⟩
  ·rw [drop_end (by omega)] at hfs
   simp only [List.foldl_nil] at hfs
   repeat' (first | refine sK ?_ | refine sC (fun _ => ?_) (fun _ => ?_) | fail)
   exact ⟨(k + 1, s), ⟨hlt, hs, by rw [hfs]; exact hfd⟩, tD, tS, tH⟩
 ·rw [drop_end (by omega)] at hfd
  simp only [List.foldl_nil] at hfd
  repeat' (first | refine sK ?_ | refine sC (fun _ => ?_) (fun _ => ?_) | fail)
  exact retq rfl (by rw [← hfd]; rfl)
theorem fd_getD {g : Img} {k : Nat} (h : k < g.fields.length) : g.fields.getD k default = g.fields[k] := getD_get h
set_option maxHeartbeats 1000000 in
theorem CheckL_call (g : Img) (hx : OkA g) : ACall Tryz.prog 61 [imgPV g] (.tup [pi (check12 g).1, pi (check12 g).2]) := by
 refine acall_intro tbOK Tryz.func61 rfl (by kernel_rfl) Tryz.ntmps61 (by simp) _ rfl (fun hw gB hgB => ?_)
 have c0 := wellP_call g hx
 cases hwl : wellR g
 ·rw [hwl] at c0
  repeat' (first | (refine shC ?_; first | refine qC c0 ?_) | refine sK ?_ | refine sC (fun _ => ?_) (fun _ => ?_) | fail)
  exact retq rfl (by simp [retPV, check12, hwl])
 ·rw [hwl] at c0
  have hf := well_formed hwl
  have hgl : g.fields.length ≤ 64 := by have := (formedG_bounds hf).2.1; omega
  have hgt : g.types.length ≤ 32 := (formedG_bounds hf).1
  repeat' (first | (refine shC ?_; first | refine qC c0 ?_) | refine sK ?_ | refine sC (fun _ => ?_) (fun _ => ?_) | fail)
  refine aw_loop (fun k : Nat => [(1, .pv (.ptr (imgPV g) 0)), (11, .pv (.slc 7 (g.fields.map fdPV) false)), (12, .pv (pi g.fields.length)), (13, .pv (pi k))]) (fun _ => []) (fun k => k ≤ g.fields.length ∧ ∀ j, j < k → usedR g (g.fields.getD j default).ty = true) (fun k => g.fields.length - k) 0 ⟨by omega, fun j h => by omega⟩ (tS) tH ?_
  rintro k ⟨hk, hno⟩
  by_cases hlt : k < g.fields.length
  ·have he := map_get (f := fdPV) hlt
   have c1 := usedP_call g g.fields[k].ty hf
   cases hus : usedR g g.fields[k].ty
   ·have hfin := check12_used hwl hlt hno (by rw [fd_getD hlt]; exact hus)
    rw [hus] at c1
    repeat' (first | (refine shC ?_; first | refine qC c1 ?_) | (refine shX ?_; first | refine qX he ?_) | refine sK ?_ | refine sC (fun _ => ?_) (fun _ => ?_) | fail)
    exact retq rfl (by rw [hfin]; rfl)
   ·rw [hus] at c1
    repeat' (first | (refine shC ?_; first | refine qC c1 ?_) | (refine shX ?_; first | refine qX he ?_) | refine sK ?_ | refine sC (fun _ => ?_) (fun _ => ?_) | fail)
    exact ⟨k + 1, ⟨hlt, fun j hj => by
     by_cases e : j = k
     ·subst e; rw [fd_getD hlt]; exact hus
     ·exact hno j (by omega)⟩, tD, tS, tH⟩
  ·have hu : allUsed g = true := List.all_eq_true.2 fun j hj => hno j (by have := List.mem_range.1 hj; omega)
   clear hno
   repeat' (first | refine sK ?_ | refine sC (fun _ => ?_) (fun _ => ?_) | fail)
   refine aw_loop (fun k : Nat => [(1, .pv (.ptr (imgPV g) 0)), (27, .pv (pi g.types.length)), (28, .pv (pi k))]) (fun _ => []) (fun k => k ≤ g.types.length ∧ ∀ j, j < k → sizeBad g j = false) (fun k => g.types.length - k) 0 ⟨by omega, fun j h => by omega⟩ (tS) tH ?_
   clear hk hlt
   rintro k ⟨hk, hno⟩
   by_cases hlt : k < g.types.length
   ·have c1 := KindPG_call g hf (k : Int)
    have hfin := fun h => check12_size hwl hu hlt hno h
    have hnx : sizeBad g k = false → ∀ j, j < k + 1 → sizeBad g j = false := fun h j hj => by
     by_cases e : j = k
     ·subst e; exact h
     ·exact hno j (by omega)
    have hsb : sizeBad g k = ((kindG g k == 1 && decide (8 < (cellsT g ⟨6, k, 0, false⟩).length)) || (kindG g k == 0 && decide (32 < (objT g k).length))) := rfl
    clear hno
    by_cases hk1 : kindG g k = 1
    ·have c2 := long_call g hwl hu 8 (by omega) (by omega) ⟨6, k, 0, false⟩
     rw [hk1] at hsb c1
     cases hl : decide (8 < (cellsT g ⟨6, k, 0, false⟩).length)
     ·rw [hl] at c2 hsb
      repeat' (first | (refine shC ?_; first | refine qC c1 ?_ | refine qC c2 ?_) | refine sK ?_ | refine sC (fun _ => ?_) (fun _ => ?_) | fail)
      exact ⟨k + 1, ⟨hlt, hnx (by rw [hsb]; rfl)⟩, tD, tS, tH⟩
     ·rw [hl] at c2 hsb
      repeat' (first | (refine shC ?_; first | refine qC c1 ?_ | refine qC c2 ?_) | refine sK ?_ | refine sC (fun _ => ?_) (fun _ => ?_) | fail)
      exact retq rfl (by rw [hfin (by rw [hsb]; rfl)]; rfl)
    ·have hb1 : (kindG g k == 1) = false := by simp [hk1]
     by_cases hk0 : kindG g k = 0
     ·obtain ⟨r, hr, c2⟩ := total_call g hwl hu k
      rw [hk0] at hsb c1
      have hd : decide (32 < (r : Int)) = decide (32 < (objT g k).length) := by rw [decide_eq_decide, ← hr.more]; omega
      cases hl : decide (32 < (objT g k).length)
      ·rw [hl] at hsb hd
       repeat' (first | (refine shC ?_; first | refine qC c1 ?_ | refine qC c2 ?_) | refine sK ?_ | refine sC (fun _ => ?_) (fun _ => ?_) | fail)
       exact ⟨k + 1, ⟨hlt, hnx (by rw [hsb]; rfl)⟩, tD, tS, tH⟩
      ·rw [hl] at hsb hd
       repeat' (first | (refine shC ?_; first | refine qC c1 ?_ | refine qC c2 ?_) | refine sK ?_ | refine sC (fun _ => ?_) (fun _ => ?_) | fail)
       exact retq rfl (by rw [hfin (by rw [hsb]; rfl)]; rfl)
     ·have hb0 : (kindG g k == 0) = false := by simp [hk0]
      rw [hb1, hb0] at hsb
      repeat' (first | (refine shC ?_; first | refine qC c1 ?_) | refine sK ?_ | refine sC (fun _ => ?_) (fun _ => ?_) | fail)
      exact ⟨k + 1, ⟨hlt, hnx (by rw [hsb]; rfl)⟩, tD, tS, tH⟩
   ·repeat' (first | refine sK ?_ | refine sC (fun _ => ?_) (fun _ => ?_) | fail)
    exact retq rfl (by rw [check12_no hwl hu (fun j hj => hno j (by omega))]; rfl)
end Go.Cg
namespace Go.Cg
open Go.Proofs
def objP (g : Img) (t : Int) (f : Fd) : Bool := decide (f.owner ∈ up g t) && !f.static
set_option maxHeartbeats 1000000 in
theorem CheckR12_call (g : Img) : ACall Tryz.prog 60 [imgPV g] (.tup [pi (check12 g).1, pi (check12 g).2]) := by
 refine acall_intro tbOK Tryz.func60 rfl (by kernel_rfl) Tryz.ntmps60 (by simp) _ rfl (fun hw gB hgB => ?_)
 have c0 := Well_call g
 cases hwl : wellR g
 ·rw [hwl] at c0
  repeat' (first | (refine shC ?_; first | refine qC c0 ?_) | refine sK ?_ | refine sC (fun _ => ?_) (fun _ => ?_) | fail)
  exact retq rfl (by simp [retPV, check12, hwl])
 ·rw [hwl] at c0
  have hf := well_formed hwl
  have hgl : g.fields.length ≤ 64 := by have := (formedG_bounds hf).2.1; omega
  have hgt : g.types.length ≤ 32 := (formedG_bounds hf).1
  repeat' (first | (refine shC ?_; first | refine qC c0 ?_) | refine sK ?_ | refine sC (fun _ => ?_) (fun _ => ?_) | fail)
  refine aw_loop (fun k : Nat => [(1, .pv (.ptr (imgPV g) 0)), (4, .pv (pi k))]) (fun _ => []) (fun k => k ≤ g.fields.length ∧ ∀ j, j < k → usedR g (g.fields.getD j default).ty = true) (fun k => g.fields.length - k) 0 ⟨by omega, fun j h => by omega⟩ (tS) tH ?_
  rintro k ⟨hk, hno⟩
  by_cases hlt : k < g.fields.length
  ·have he := map_get (f := fdPV) hlt
   have c1 := UsedR_call g g.fields[k].ty
   cases hus : usedR g g.fields[k].ty
   ·have hfin := check12_used hwl hlt hno (by rw [fd_getD hlt]; exact hus)
    rw [hus] at c1
    repeat' (first | (refine shC ?_; first | refine qC c1 ?_) | (refine shX ?_; first | refine qX he ?_) | refine sK ?_ | refine sC (fun _ => ?_) (fun _ => ?_) | fail)
    exact retq rfl (by rw [hfin]; rfl)
   ·rw [hus] at c1
    repeat' (first | (refine shC ?_; first | refine qC c1 ?_) | (refine shX ?_; first | refine qX he ?_) | refine sK ?_ | refine sC (fun _ => ?_) (fun _ => ?_) | fail)
    exact ⟨k + 1, ⟨hlt, fun j hj => by
     by_cases e : j = k
     ·subst e; rw [fd_getD hlt]; exact hus
     ·exact hno j (by omega)⟩, tD, tS, tH⟩
  ·have hu : allUsed g = true := List.all_eq_true.2 fun j hj => hno j (by have := List.mem_range.1 hj; omega)
   clear hno
   repeat' (first | refine sK ?_ | refine sC (fun _ => ?_) (fun _ => ?_) | fail)
   refine aw_loop (fun k : Nat => [(1, .pv (.ptr (imgPV g) 0)), (5, .pv (pi k))]) (fun _ => []) (fun k => k ≤ g.types.length ∧ ∀ j, j < k → sizeBad g j = false) (fun k => g.types.length - k) 0 ⟨by omega, fun j h => by omega⟩ (tS) tH ?_
   clear hk hlt
   rintro k ⟨hk, hno⟩
   by_cases hlt : k < g.types.length
   ·have c1 := KindR_call g (k : Int)
    have hfin := fun h => check12_size hwl hu hlt hno h
    have hnx : sizeBad g k = false → ∀ j, j < k + 1 → sizeBad g j = false := fun h j hj => by
     by_cases e : j = k
     ·subst e; exact h
     ·exact hno j (by omega)
    have hsb : sizeBad g k = ((kindG g k == 1 && decide (8 < (cellsT g ⟨6, k, 0, false⟩).length)) || (kindG g k == 0 && decide (32 < (objT g k).length))) := rfl
    clear hno
    by_cases hk1 : kindG g k = 1
    ·have c2 := CountR_call g hwl hu 8 (by omega) (by omega) _ ⟨6, k, 0, false⟩ (dp_all hwl hu _)
     rw [hk1] at hsb c1
     have hd : decide (8 < ((cntT g 8 ⟨6, k, 0, false⟩ : Nat) : Int)) = decide (8 < (cellsT g ⟨6, k, 0, false⟩).length) := by rw [decide_eq_decide]; unfold cntT; omega
     generalize cntT g 8 ⟨6, k, 0, false⟩ = c at c2 hd
     cases hl : decide (8 < (cellsT g ⟨6, k, 0, false⟩).length)
     ·rw [hl] at hsb hd
      repeat' (first | (refine shC ?_; first | refine qC c1 ?_ | refine qC c2 ?_) | refine sK ?_ | refine sC (fun _ => ?_) (fun _ => ?_) | fail)
      exact ⟨k + 1, ⟨hlt, hnx (by rw [hsb]; rfl)⟩, tD, tS, tH⟩
     ·rw [hl] at hsb hd
      repeat' (first | (refine shC ?_; first | refine qC c1 ?_ | refine qC c2 ?_) | refine sK ?_ | refine sC (fun _ => ?_) (fun _ => ?_) | fail)
      exact retq rfl (by rw [hfin (by rw [hsb]; rfl)]; rfl)
    ·have hb1 : (kindG g k == 1) = false := by simp [hk1]
     by_cases hk0 : kindG g k = 0
     ·rw [hk0] at hsb c1
      have hui := up_inv g k
      have hul := nodup_le _ _ hui.1 hui.2
      have hobl : (fcs g (g.fields.filter (objP g k))).length = (objT g k).length := objF_len g k
      repeat' (first | (refine shC ?_; first | refine qC c1 ?_ | refine ao_q rfl (q_call rfl rfl (UpR_call g k (by omega))) rfl rfl ?_ | refine AD.step _ _ _ _ _ rfl (q_call rfl rfl (UpR_call g k (by omega))) rfl rfl ?_) | refine sK ?_ | refine sC (fun _ => ?_) (fun _ => ?_) | fail)
      refine aw_loop (fun x : Nat × Nat => [(1, .pv (.ptr (imgPV g) 0)), (5, .pv (pi k)), (7, .pv (pi x.2)), (8, .pv (ints (up g k))), (9, .pv (pi x.1))]) (fun _ => [])
       (fun x => x.1 ≤ g.fields.length ∧ x.2 ≤ 65 ∧ Cnt 32 x.2 (fcs g ((g.fields.take x.1).filter (objP g k))).length) (fun x => g.fields.length - x.1) (0, 0) ⟨by simp, by simp, rfl⟩ (tS) tH ?_
      rintro ⟨m, r⟩ ⟨hm, hr, hc⟩
      simp only at hm hr hc
      have hle := fcs_sub_le g (objP g k) g.fields m
      rw [hobl] at hle
      have hend : (32 < r ∨ m = g.fields.length) → decide (32 < (r : Int)) = decide (32 < (objT g k).length) := by
       intro h
       rw [decide_eq_decide]
       have := hc.more
       rcases h with h | h
       ·exact ⟨fun _ => by omega, fun _ => by omega⟩
       ·subst h
        rw [List.take_length, hobl] at hc
        have := hc.more; omega
      by_cases hltm : m < g.fields.length
      ·by_cases hrb : r ≤ 32
       ·have he := map_get (f := fdPV) hltm
        have cH := Has_call (up g k) g.fields[m].owner
        clear hend
        cases hp : objP g k g.fields[m]
        ·have hcn : Cnt 32 r (fcs g ((g.fields.take (m + 1)).filter (objP g k))).length := by rw [filter_take_no hltm hp]; exact hc
         have hpa : (decide (g.fields[m].owner ∈ up g k) && !g.fields[m].static) = false := hp
         generalize decide (g.fields[m].owner ∈ up g k) = bo at cH hpa
         repeat' (first | (refine shC ?_; first | refine qC cH ?_) | (refine shX ?_; first | refine qX he ?_) | refine sA ?_ | refine sC (fun _ => ?_) (fun _ => ?_) | fail)
         all_goals first
          | exact ⟨(m + 1, r), ⟨hltm, hr, hcn⟩, tD, tS, tH⟩
          | (exfalso; simp_all; done)
          | (exfalso; simp_all; omega)
        ·have c2 := CountR_call g hwl hu 32 (by omega) (by omega) _ g.fields[m].ty (dp_all hwl hu _)
         have hs := filter_take_yes (g := g) hltm hp
         have hcl : cntT g 32 g.fields[m].ty ≤ 33 := Nat.min_le_right _ _
         have hcn := hc.add (l := (cellsT g g.fields[m].ty).length) hrb
         rw [← List.length_append, ← hs] at hcn
         rw [show min (cellsT g g.fields[m].ty).length (32 + 1) = cntT g 32 g.fields[m].ty from rfl] at hcn
         generalize cntT g 32 g.fields[m].ty = c at c2 hcl hcn
         have hpa : (decide (g.fields[m].owner ∈ up g k) && !g.fields[m].static) = true := hp
         rw [Bool.and_eq_true] at hpa
         obtain ⟨hp1, hp2⟩ := hpa
         rw [hp1] at cH
         have hd1 : decide ((r : Int) ≤ 32) = true := by simp; omega
         repeat' (first | (refine shC ?_; first | refine qC cH ?_ | refine qC c2 ?_) | (refine shX ?_; first | refine qX he ?_) | refine sK ?_ | refine sC (fun _ => ?_) (fun _ => ?_) | fail)
         all_goals first
          | exact ⟨(m + 1, r + c), ⟨hltm, by simp only; omega, hcn⟩, tD, by repeat (first | exact sub_nil | refine sub_cons rfl ?_ | (refine sub_i rfl ?_ ?_; · (first | (rw [wrap_in (by omega) (by omega)] <;> omega) | (dsimp only; rw [wrap_in (by omega) (by omega)] <;> (push_cast; omega))))), tH⟩
          | (exfalso; simp_all; done)
       ·have hd1 : decide ((r : Int) ≤ 32) = false := by simp; omega
        have hee := hend (.inl (by omega))
        have hd2 : decide (32 < (r : Int)) = true := by simp; omega
        rw [← hee, hd2] at hsb
        clear hend
        repeat' (first | refine sK ?_ | refine sC (fun _ => ?_) (fun _ => ?_) | fail)
        all_goals first
         | exact retq rfl (by rw [hfin (by rw [hsb]; rfl)]; rfl)
         | (exfalso; simp_all; done)
         | (exfalso; simp_all; omega)
      ·have hee := hend (.inr (by omega))
       clear hend
       cases hl : decide (32 < (r : Int))
       ·rw [hl] at hee
        rw [← hee] at hsb
        repeat' (first | refine sA ?_ | refine sC (fun _ => ?_) (fun _ => ?_) | fail)
        all_goals first
         | exact ⟨k + 1, ⟨hlt, hnx (by rw [hsb]; rfl)⟩, tD, tS, tH⟩
         | (exfalso; simp_all; done)
         | (exfalso; simp_all; omega)
       ·rw [hl] at hee
        rw [← hee] at hsb
        repeat' (first | refine sA ?_ | refine sC (fun _ => ?_) (fun _ => ?_) | fail)
        all_goals first
         | exact retq rfl (by rw [hfin (by rw [hsb]; rfl)]; rfl)
         | (exfalso; simp_all; done)
         | (exfalso; simp_all; omega)
     ·have hb0 : (kindG g k == 0) = false := by simp [hk0]
      have hb2 : (kindG g k != 0) = true := by simp [hk0]
      rw [hb1, hb0] at hsb
      repeat' (first | (refine shC ?_; first | refine qC c1 ?_) | refine sK ?_ | refine sC (fun _ => ?_) (fun _ => ?_) | fail)
      exact ⟨k + 1, ⟨hlt, hnx (by rw [hsb]; rfl)⟩, tD, tS, tH⟩
   ·repeat' (first | refine sK ?_ | refine sC (fun _ => ?_) (fun _ => ?_) | fail)
    exact retq rfl (by rw [check12_no hwl hu (fun j hj => hno j (by omega))]; rfl)
set_option maxHeartbeats 1000000 in
theorem FineR_call (g : Img) : ACall Tryz.prog 16 [imgPV g] (pb (fineR g)) := by
 refine acall_intro tbOK Tryz.func16 rfl (by kernel_rfl) Tryz.ntmps16 (by simp) _ rfl (fun hw gB hgB => ?_)
 repeat' (first | (refine shC ?_; first | refine qC (CheckR12_call g) ?_) | refine sA ?_ | refine sC (fun _ => ?_) (fun _ => ?_) | fail)
 exact retq rfl rfl
set_option maxHeartbeats 1000000 in
theorem fineP_call (g : Img) (hx : OkA g) : ACall Tryz.prog 119 [imgPV g] (pb (fineR g)) := by
 refine acall_intro tbOK Tryz.func119 rfl (by kernel_rfl) Tryz.ntmps119 (by simp) _ rfl (fun hw gB hgB => ?_)
 repeat' (first | (refine shC ?_; first | refine qC (CheckL_call g hx) ?_) | refine sA ?_ | refine sC (fun _ => ?_) (fun _ => ?_) | fail)
 exact retq rfl rfl
def cellsA (g : Img) (t : Ty) : List Ty := if fineR g && usedR g t then cellsT g t else []
set_option maxHeartbeats 1000000 in
theorem CellsA_call (g : Img) (hx : OkA g) (t : Ty) : ACall Tryz.prog 121 [imgPV g, tyPV t] (tys (cellsA g t)) := by
 refine acall_intro tbOK Tryz.func121 rfl (by kernel_rfl) Tryz.ntmps121 (by simp) _ rfl (fun hw gB hgB => ?_)
 have c0 := fineP_call g hx
 cases hfi : fineR g
 ·rw [hfi] at c0
  repeat' (first | (refine shC ?_; first | refine qC c0 ?_) | refine sK ?_ | refine sC (fun _ => ?_) (fun _ => ?_) | fail)
  all_goals (rw [show cellsA g t = [] by simp [cellsA, hfi]]; exact retq_w (t := 4) (ps := [tys []]) rfl (tells_nil 4 false) rfl rfl)
 ·rw [hfi] at c0
  have hF := fine_of hfi
  have c1 := usedP_call g t hF.formed
  cases hus : usedR g t
  ·rw [hus] at c1
   repeat' (first | (refine shC ?_; first | refine qC c0 ?_ | refine qC c1 ?_) | refine sK ?_ | refine sC (fun _ => ?_) (fun _ => ?_) | fail)
   all_goals (rw [show cellsA g t = [] by simp [cellsA, hus]]; exact retq_w (t := 4) (ps := [tys []]) rfl (tells_nil 4 false) rfl rfl)
  ·rw [hus] at c1
   repeat' (first | (refine shC ?_; first | refine qC c0 ?_ | refine qC c1 ?_ | refine qC (cellsPT_call g hF t) ?_) | refine sK ?_ | refine sC (fun _ => ?_) (fun _ => ?_) | fail)
   all_goals exact retq rfl (by simp [retPV, cellsA, hfi, hus])
set_option maxHeartbeats 1000000 in
theorem Words_call (g : Img) (hx : OkA g) (t : Ty) : ACall Tryz.prog 64 [imgPV g, tyPV t] (pi (cellsA g t).length) := by
 refine acall_intro tbOK Tryz.func64 rfl (by kernel_rfl) Tryz.ntmps64 (by simp) _ rfl (fun hw gB hgB => ?_)
 repeat' (first | (refine shC ?_; first | refine qC (CellsA_call g hx t) ?_) | refine sA ?_ | refine sC (fun _ => ?_) (fun _ => ?_) | fail)
 exact retq rfl (by simp [retPV])
def objectA (g : Img) (t : Int) : List Ty := if fineR g && kindG g t == 0 then objT g t else []
set_option maxHeartbeats 1000000 in
theorem ObjectA_call (g : Img) (hx : OkA g) (t : Int) : ACall Tryz.prog 63 [imgPV g, pi t] (tys (objectA g t)) := by
 refine acall_intro tbOK Tryz.func63 rfl (by kernel_rfl) Tryz.ntmps63 (by simp) _ rfl (fun hw gB hgB => ?_)
 have c0 := fineP_call g hx
 cases hfi : fineR g
 ·rw [hfi] at c0
  repeat' (first | (refine shC ?_; first | refine qC c0 ?_) | refine sK ?_ | refine sC (fun _ => ?_) (fun _ => ?_) | fail)
  all_goals (rw [show objectA g t = [] by simp [objectA, hfi]]; exact retq_w (t := 4) (ps := [tys []]) rfl (tells_nil 4 false) rfl rfl)
 ·rw [hfi] at c0
  have hF := fine_of hfi
  have c1 := KindPG_call g hF.formed t
  by_cases hk : kindG g t = 0
  ·rw [hk] at c1
   repeat' (first | (refine shC ?_; first | refine qC c0 ?_ | refine qC c1 ?_ | refine qC (object_call g hF t) ?_) | refine sK ?_ | refine sC (fun _ => ?_) (fun _ => ?_) | fail)
   all_goals exact retq rfl (by simp [retPV, objectA, hfi, hk])
  ·have hkb : (kindG g t != 0) = true := by simp [hk]
   repeat' (first | (refine shC ?_; first | refine qC c0 ?_ | refine qC c1 ?_) | refine sK ?_ | refine sC (fun _ => ?_) (fun _ => ?_) | fail)
   all_goals (rw [show objectA g t = [] by simp [objectA, hk]]; exact retq_w (t := 4) (ps := [tys []]) rfl (tells_nil 4 false) rfl rfl)
def staticsA (g : Img) : List Ty := if fineR g then statT g g.fields.length else []
set_option maxHeartbeats 1000000 in
theorem StaticsA_call (g : Img) (hx : OkA g) : ACall Tryz.prog 65 [imgPV g] (tys (staticsA g)) := by
 refine acall_intro tbOK Tryz.func65 rfl (by kernel_rfl) Tryz.ntmps65 (by simp) _ rfl (fun hw gB hgB => ?_)
 have c0 := fineP_call g hx
 cases hfi : fineR g
 ·rw [hfi] at c0
  repeat' (first | (refine shC ?_; first | refine qC c0 ?_) | refine sK ?_ | refine sC (fun _ => ?_) (fun _ => ?_) | fail)
  all_goals (rw [show staticsA g = [] by simp [staticsA, hfi]]; exact retq_w (t := 2) (ps := [tys []]) rfl (tells_nil 4 false) rfl rfl)
 ·rw [hfi] at c0
  have hF := fine_of hfi
  have c1 := statics_call g hF g.fields.length (Nat.le_refl _)
  rw [show ((g.fields.length : Nat) : Int) = (((g.fields.map fdPV).length : Nat) : Int) by simp] at c1
  repeat' (first | (refine shC ?_; first | refine qC c0 ?_ | refine qC c1 ?_) | refine sK ?_ | refine sC (fun _ => ?_) (fun _ => ?_) | fail)
  all_goals exact retq rfl (by simp [retPV, staticsA, hfi])
end Go.Cg
namespace Go.Cg
open Go.Proofs
def headT (g : Img) (o : Int) : Nat := if kindG g o == 0 then 1 + (objT g (extAt g o)).length else 0
def placeT (g : Img) (f : Nat) : Nat :=
 if (g.fields.getD f default).static then (statT g f).length
 else headT g (g.fields.getD f default).owner + (fcs g ((g.fields.take f).filter (ownP (g.fields.getD f default).owner))).length
def placeA (g : Img) (f : Int) : Int := if fineR g && decide (0 ≤ f) && decide (f < g.fields.length) then placeT g f.toNat else -1
theorem objT_le {g : Img} (hF : Fine g) (t : Int) : (objT g t).length ≤ 512 := by
 have h := upCells_len hF _ (nodup_rev (up_inv g t).1)
 exact h
theorem extAt_some {g : Img} {t : Int} {td : TD} (h : typeAt g t = some td) : extAt g t = td.ext := by rw [extAt, h]
theorem objT_none {g : Img} {t : Int} (h : typeAt g t = none) : objT g t = [] := by rw [objT, up_nil h]; rfl
theorem statT_le {g : Img} (hF : Fine g) (n : Nat) : (statT g n).length ≤ 512 := fcs_filter_le hF _ n
end Go.Cg
namespace Go.Cg
open Go.RowKit
section
variable {P : Program} {n : Nat} {g : Base} {H : HEnv} {env : Env} {c : Code} {QQ : QC} {K : KK} {w : World} {ρ : Nat → Value}
def aggOf : AV → Option (List AV)
 | .agg cs => some cs
 | .pv (.agg ps) => some (ps.map .pv)
 | _ => none
theorem ARel.aggOf {v : AV} {cs : List AV} {u : Value} (h : ARel K w ρ H v u) (hc : Cg.aggOf v = some cs) : ARel K w ρ H (.agg cs) u := by
 cases h with
 | pv p v hp =>
  cases hp <;> simp [Cg.aggOf] at hc
  rename_i ps vs h1 h2 h3
  subst hc
  refine .agg _ vs (by simpa using h1) h2 fun k c v hc hv => ?_
  simp only [List.getElem?_map, Option.map_eq_some_iff] at hc
  obtain ⟨p, hp, rfl⟩ := hc
  exact .pv _ _ (h3 k p v hp hv)
 | agg ds vs h1 h2 h3 => simp only [Cg.aggOf, Option.some.injEq] at hc; subst hc; exact .agg _ vs h1 h2 h3
 | _ => simp [Cg.aggOf] at hc
theorem aw_own_nil_field (b i k : Nat) (e : TypeId) (sz : Nat) {v : AV} {cs : List AV} (hsz : 0 < sz) (hb : H.get b = some (.cell v)) (hv : aggOf v = some cs) (hk : cs[k]? = some (.pv (.base (.slice none 0 0)))) (hi : H.get i = none)
  (h : AW P n g c env ((b, .cell (.agg (cs.set k (.own i)))) :: (i, .row e sz []) :: H) QQ) : AW P n g c env H QQ := by
 refine ⟨fun a w hinv => h.go a w ?_⟩
 obtain ⟨h1, h2, K, ρ, hf, he⟩ := hinv
 have hev : Evo K K w w := .refl hf.lt
 have hne : b ≠ i := by rintro rfl; simp [hi] at hb
 have hf2 : FS g K (fun j => if j = i then .slice none 0 0 else ρ j) ((i, .row e sz []) :: H) w := hf.fresh hev hi ⟨[], World.ownsRow_nil w _ e sz, hsz, fun i e h => by simp at h, by simp [Value.ownBlock]⟩ (by simp [blockOf])
 have hkk : ∀ j, (HEnv.get ((i, HE.row e sz []) :: H) j).isSome = true → (HEnv.get ((b, .cell (.agg (cs.set k (.own i)))) :: (i, HE.row e sz []) :: H) j).isSome = true ∧ (fun j => if j = i then Value.slice none 0 0 else ρ j) j = (fun j => if j = i then Value.slice none 0 0 else ρ j) j := by
  intro j hj
  refine ⟨?_, rfl⟩
  simp only [HEnv.get_cons] at hj ⊢
  split
  ·rfl
  ·exact hj
 have hlat := hev.later hf.lt
 refine ⟨h1, h2, K, fun j => if j = i then .slice none 0 0 else ρ j, ⟨hf2.below, hf2.old, hf2.new, hf2.lt, hf2.others, hf2.pt, hf2.away.set (e0 := .cell v) (by rw [HEnv.get_cons, if_neg (Ne.symm hne)]; exact hb) rfl, ?_, ?_⟩, (he.keeps hlat (fresh_keeps hi _ _)).keeps hlat hkk⟩
 ·intro j hh hj
  simp only [HEnv.get_cons] at hj
  split at hj
  ·rename_i e'; subst e'
   simp only [Option.some.injEq] at hj; subst hj
   have hb2 := (hf2.heap.ok b (.cell v) (by rw [HEnv.get_cons, if_neg (Ne.symm hne)]; exact hb)).keeps hev hf.lt hkk
   obtain ⟨b', t', arr, u, hr, hB, hheap, hu, harr, hn⟩ := hb2
   refine ⟨b', t', arr, u, hr, hB, hheap, ?_, harr, hn⟩
   have hu' := hu.aggOf hv
   cases hu' with
   | agg _ vs a1 a2 a3 =>
    refine .agg _ vs (by simpa using a1) a2 fun m c x hc hx => ?_
    rw [List.getElem?_set] at hc
    split at hc
    ·rename_i e1; subst e1
     split at hc
     ·simp only [Option.some.injEq] at hc; subst hc
      have := a3 k _ x hk hx
      cases this with
      | pv _ _ hp =>
       cases hp
       have := ARel.own (K := K) (w := w) (ρ := fun j => if j = i then .slice none 0 0 else ρ j) (H := (b, .cell (.agg (cs.set k (.own i)))) :: (i, HE.row e sz []) :: H) i (by simp [HEnv.get_cons, hne])
       simpa using this
     ·cases hc
    ·exact a3 m c x hc hx
  ·exact (hf2.heap.ok j hh (by simpa only [HEnv.get_nil, HEnv.get_cons] using hj)).keeps hev hf.lt hkk
 ·intro j k' hh hh' bb hjk hj hk' hlj hlk hbj hbk
  have e1 : ∀ (j : Nat) (hh : HE), HEnv.get ((b, .cell (.agg (cs.set k (.own i)))) :: (i, HE.row e sz []) :: H) j = some hh → hh.live = true → ∃ h0, HEnv.get ((i, HE.row e sz []) :: H) j = some h0 ∧ h0.live = true := by
   intro j hh hj hl
   rw [HEnv.get_cons] at hj
   split at hj
   ·rename_i e'; subst e'
    refine ⟨.cell v, ?_, rfl⟩
    simp only [HEnv.get_cons]; rw [if_neg (Ne.symm hne)]; exact hb
   ·exact ⟨hh, hj, hl⟩
  obtain ⟨a1, a2, a3⟩ := e1 j hh hj hlj
  obtain ⟨b1, b2, b3⟩ := e1 k' hh' hk' hlk
  exact hf2.heap.apart j k' a1 b1 bb hjk a2 b2 a3 b3 hbj hbk
end
end Go.Cg
namespace Go.Cg
open Go.RowKit
def storeP (p : PV) (j n : Nat) (q : PV) : Option PV :=
 if q.cells.length = n ∧ j + n ≤ p.cells.length then
  (if j = 0 ∧ p.cells.length = n then some q else match p with | .agg cs => some (.agg (cs.take j ++ q.cells ++ cs.drop (j + n))) | _ => none)
 else none
theorem storeP_cells {p q r : PV} {j n : Nat} (h : storeP p j n q = some r) : q.cells.length = n ∧ j + n ≤ p.cells.length ∧ r.cells = p.cells.take j ++ q.cells ++ p.cells.drop (j + n) := by
 unfold storeP at h
 split at h
 ·rename_i hh
  refine ⟨hh.1, hh.2, ?_⟩
  split at h
  ·rename_i h2
   simp only [Option.some.injEq] at h; subst h
   obtain ⟨rfl, h3⟩ := h2
   rw [List.take_zero, List.nil_append, Nat.zero_add, List.drop_eq_nil_of_le (by omega), List.append_nil]
  ·split at h
   ·simp only [Option.some.injEq] at h; subst h; rfl
   ·cases h
 ·cases h
theorem splice_get {α : Type} {xs ys : List α} {off t : Nat} (h : off + ys.length ≤ xs.length) :
  (xs.take off ++ ys ++ xs.drop (off + ys.length))[t]? = if t < off then xs[t]? else if t < off + ys.length then ys[t - off]? else xs[t]? := by
 have e1 : (xs.take off).length = off := by rw [List.length_take]; omega
 rw [List.append_assoc, List.getElem?_append, e1]
 split
 ·rw [List.getElem?_take, if_pos (by assumption)]
 ·rename_i h1
  rw [List.getElem?_append]
  split
  ·rw [if_pos (by omega)]
  ·rw [if_neg (by omega), List.getElem?_drop]; congr 1; omega
theorem splice_take {α : Type} {xs ys : List α} {off m : Nat} (h : off + ys.length ≤ m) (hm : m ≤ xs.length) :
  (xs.take off ++ ys ++ xs.drop (off + ys.length)).take m = (xs.take m).take off ++ ys ++ (xs.take m).drop (off + ys.length) := by
 apply List.ext_getElem?
 intro t
 rw [List.getElem?_take, splice_get (by omega), splice_get (by rw [List.length_take]; omega)]
 simp only [List.getElem?_take]
 split
 ·rfl
 ·rw [if_neg (by omega), if_neg (by omega)]
section
variable {P : Program} {tb : Tab} {n : Nat} {g : Base} {H : HEnv} {env : Env} {ops : List Oper} {o : Oper} {rest : List Oper} {Q : Env → HEnv → Prop} {QQ : QC} {c : Code}
theorem ao_mindex (htb : TabOK P tb) {t e d : Nat} {x y : Operand} {i k sz : Nat} {es : List PV} {kk : IntKind} {m : Int} (hg : guardE ops env o = some true) (hop : o.op = .indexAddr t x y) (hx : env.val x = some (.own i)) (hi : H.get i = some (.mrow e sz es))
  (hk : tb.k t = .sl e) (hke : tb.known e = true) (hsz : tb.size e = sz) (hy : env.pv H y = some (.base (.int kk m))) (hm : m = (k : Nat)) (hlt : k < es.length) (hd : o.dst = some d) (ht : Nat.blt d n = true)
  (h : AO P n g ops.toArray rest ((d, .ad i (k * sz)) :: env) H Q) : AO P n g ops.toArray (o :: rest) env H Q := by
 refine ⟨fun a w hinv => ?_⟩
 have hw := wanted_of hinv hg
 obtain ⟨h1, h2, K, ρ, hf, he⟩ := hinv
 refine wpList_step fun KK hKK => ?_
 rw [if_pos hw]
 have hxr := val_rel he hx
 have hyr := opE_pv (a := a) hf (x := y) (fun av hh => val_rel he hh) hy
 generalize hxv : a.eval x = xv at hxr
 generalize hyv : a.eval y = yv at hyr
 obtain ⟨xs, hown, h0, hcr, hnK⟩ := hf.heap.ok i _ hi
 subst hm
 cases hyr
 cases hxr with
 | own _ hi' =>
  rcases hown.2 with ⟨hr, hz⟩ | ⟨b, cap, cur, hr, hB, hheap, hle, hcap, hsize, htake⟩
  ·omega
  ·have hko : tb.k e ≠ .oth := by intro h; simp [Tab.known, h] at hke
   have hs := run_sizeOf htb hko w
   have hrun : (execOp a.eval o).run P w = .ok (.value (.pointer (some ⟨b, k * sz, none⟩))) w := by
    simp [execOp, hop, hxv, hyv, hr, Instr.indexAt, asIntOf, run_underlying (tab_sl htb hk), hs, hsz, Addr.add_lit]
    intro hh; omega
   unfold Oper.wp
   rw [hrun]
   simp only [Oper.upon]
   refine hKK _ _ (h.go _ _ ⟨put_size h1, put_defers h2, K, ρ, hf, ?_⟩)
   rw [hd]
   exact env_put h1 ht he (.ad i (k * sz) b es.length cap hi' hr)
theorem ao_mlen (htb : TabOK P tb) {ty e d : Nat} {x : Operand} {i sz : Nat} {es : List PV} (hg : guardE ops env o = some true) (hop : o.op = .call { callee := .builtin .len, args := #[x], argTypes := #[ty] }) (hx : env.val x = some (.own i)) (hi : H.get i = some (.mrow e sz es))
  (hk : tb.k ty = .sl e) (hd : o.dst = some d) (ht : Nat.blt d n = true) (h : AO P n g ops.toArray rest ((d, .pv (.base (.int .i64 (es.length : Nat)))) :: env) H Q) : AO P n g ops.toArray (o :: rest) env H Q := by
 refine ⟨fun a w hinv => ?_⟩
 have hw := wanted_of hinv hg
 obtain ⟨h1, h2, K, ρ, hf, he⟩ := hinv
 refine wpList_step fun KK hKK => ?_
 rw [if_pos hw]
 have hxr := val_rel he hx
 generalize hxv : a.eval x = xv at hxr
 obtain ⟨xs, hown, h0, hcr, hnK⟩ := hf.heap.ok i _ hi
 cases hxr with
 | own _ hi' =>
  have hv : ∃ ad' cap, ρ i = .slice ad' es.length cap := by
   rcases hown.2 with ⟨hr, hz⟩ | ⟨b, cap, cur, hr, _⟩
   ·exact ⟨none, 0, by rw [hr, hz]⟩
   ·exact ⟨_, _, hr⟩
  obtain ⟨ad', cap, hr⟩ := hv
  have hrun : (execOp a.eval o).run P w = .ok (.value (.int .i64 (es.length : Nat))) w := by
   simp [execOp, hop, resolve, invoke, builtin, Builtin.len_, hxv, hr, run_underlying (tab_sl htb hk), goInt]
  unfold Oper.wp
  rw [hrun]
  simp only [Oper.upon]
  refine hKK _ _ (h.go _ _ ⟨put_size h1, put_defers h2, K, ρ, hf, ?_⟩)
  rw [hd]
  exact env_put h1 ht he (.pv _ _ (.base _ rfl))
theorem ao_mload (htb : TabOK P tb) {ty d : Nat} {x : Operand} {i k j sz off e : Nat} {es : List PV} {p q : PV} (hg : guardE ops env o = some true) (hop : o.op = .load ty x) (hx : env.val x = some (.ad i off)) (hi : H.get i = some (.mrow e sz es)) (hoff : off = k * sz + j)
  (hp : es[k]? = some p) (hq : partE tb ty p.cells j = some q) (hd : o.dst = some d) (ht : Nat.blt d n = true)
  (h : AO P n g ops.toArray rest ((d, .pv q) :: env) H Q) : AO P n g ops.toArray (o :: rest) env H Q := by
 refine ⟨fun a w hinv => ?_⟩
 have hw := wanted_of hinv hg
 obtain ⟨h1, h2, K, ρ, hf, he⟩ := hinv
 refine wpList_step fun KK hKK => ?_
 rw [if_pos hw]
 have hxr := val_rel he hx
 generalize hxv : a.eval x = xv at hxr
 obtain ⟨xs, hown, h0, hcr, hnK⟩ := hf.heap.ok i _ hi
 have hkl : k < es.length := (List.getElem?_eq_some_iff.1 hp).1
 cases hxr with
 | ad _ _ b m c hi' hρ =>
  have hown' := hown
  rw [hρ] at hown'
  have hm : m = es.length := by
   rcases hown'.2 with ⟨hr, _⟩ | ⟨_, _, _, hr, _⟩
   ·simp at hr
   ·simp at hr; exact hr.2.1
  subst hm
  obtain ⟨hl, hc⟩ := hcr k p hp
  have hle : k * sz + sz ≤ es.length * sz := by rw [← Nat.succ_mul]; exact Nat.mul_le_mul_right _ hkl
  have hlen : xs.length = es.length * sz := hown.1
  have hcell : ∀ (t : Nat) (v : Value), ((xs.drop (k * sz)).take sz)[t]? = some v → w.cell? ⟨b, k * sz + t, none⟩ = some v := by
   intro t v hv
   rw [List.getElem?_take] at hv
   split at hv
   ·rw [List.getElem?_drop] at hv
    rw [hown'.cellAt _ (by omega)]; exact hv
   ·cases hv
  have hrels : PRels K w p.cells ((xs.drop (k * sz)).take sz) := by
   refine ⟨by rw [List.length_take, List.length_drop]; omega, fun t c v hc' hv => ?_⟩
   rw [List.getElem?_take] at hv
   split at hv
   ·rw [List.getElem?_drop] at hv
    obtain ⟨u, hu, _, hr⟩ := hc t c hc'
    rw [hu, Option.some.injEq] at hv; subst hv; exact hr
   ·cases hv
  have hone : ∀ v ∈ (xs.drop (k * sz)).take sz, v.oneCell' = true := by
   intro v hv
   obtain ⟨t, hlt, rfl⟩ := List.getElem_of_mem hv
   have hlt' : t < sz := by rw [List.length_take] at hlt; omega
   have ht' : t < p.cells.length := by omega
   obtain ⟨u, hu, h1u, _⟩ := hc t p.cells[t] (List.getElem?_eq_getElem ht')
   rw [List.getElem_take, List.getElem_drop]
   have := (List.getElem?_eq_some_iff.1 hu).2
   rw [this]; exact h1u
  obtain ⟨v, hv, hvr⟩ := run_loadVar_rows htb (b := b) (o := k * sz) hcell hrels hone hq
  have hrun : (execOp a.eval o).run P w = .ok (.value v) w := by
   subst hoff
   simp [execOp, hop, hxv, Instr.loadAt, Instr.sureAddr, hv]
  unfold Oper.wp
  rw [hrun]
  simp only [Oper.upon]
  refine hKK _ _ (h.go _ _ ⟨put_size h1, put_defers h2, K, ρ, hf, ?_⟩)
  rw [hd]
  exact env_put h1 ht he (.pv _ _ hvr)
theorem ao_mstore (htb : TabOK P tb) {ty : Nat} {x y : Operand} {i k j sz off e : Nat} {es : List PV} {p q p' : PV} (hg : guardE ops env o = some true) (hop : o.op = .store ty x y) (hx : env.val x = some (.ad i off)) (hi : H.get i = some (.mrow e sz es)) (hoff : off = k * sz + j)
  (hp : es[k]? = some p) (hy : env.pv H y = some q) (hnt : q.notTup = true) (hs : storeP p j (tb.size ty) q = some p') (hk : tb.known ty = true) (hd : o.dst = none)
  (h : AO P n g ops.toArray rest env ((i, .mrow e sz (es.set k p')) :: H) Q) : AO P n g ops.toArray (o :: rest) env H Q := by
 refine ⟨fun a w hinv => ?_⟩
 have hw := wanted_of hinv hg
 obtain ⟨h1, h2, K, ρ, hf, he⟩ := hinv
 refine wpList_step fun KK hKK => ?_
 rw [if_pos hw]
 have hxr := val_rel he hx
 have hyr := opE_pv (a := a) hf (x := y) (fun av hh => val_rel he hh) hy
 generalize hxv : a.eval x = xv at hxr
 generalize hyv : a.eval y = yv at hyr
 obtain ⟨xs, hown, h0, hcr, hnK⟩ := hf.heap.ok i _ hi
 have hkl : k < es.length := (List.getElem?_eq_some_iff.1 hp).1
 obtain ⟨s1, s2, s3⟩ := storeP_cells hs
 have hyc := cells_rel hyr
 have hy1 := cells_one hyr hnt
 obtain ⟨hpl, _⟩ := hcr k p hp
 have hle : k * sz + sz ≤ es.length * sz := by rw [← Nat.succ_mul]; exact Nat.mul_le_mul_right _ hkl
 have hyl : yv.cells.toList.length = tb.size ty := by rw [hyc.1, s1]
 cases hxr with
 | ad _ _ b m c hi' hρ =>
  rcases hown.2 with ⟨hr, _⟩ | ⟨g', cap, cur, hr, hB, hheap, hec, hcap, hsize, htake⟩
  ·rw [hρ] at hr; simp at hr
  ·rw [hρ] at hr
   simp only [Value.slice.injEq, Option.some.injEq, Addr.mk.injEq, and_true] at hr
   obtain ⟨rfl, rfl, rfl⟩ := hr
   have hcs : es.length * sz ≤ cur.size := by rw [hsize]; exact Nat.mul_le_mul_right _ hec
   have hko : tb.k ty ≠ .oth := by intro e; simp [Tab.known, e] at hk
   have hsz := run_sizeOf htb hko w
   have hst := run_storeCells_at P b off e yv.cells.toList 0 cur w hheap (by rw [hyl]; omega) hy1
   obtain ⟨arr, harr⟩ : ∃ arr, arr = (cur.toList.take off ++ yv.cells.toList ++ cur.toList.drop (off + yv.cells.toList.length)).toArray := ⟨_, rfl⟩
   have hrun : (execOp a.eval o).run P w = .ok .skip (w.setRow b arr) := by
    simp only [Nat.add_zero] at hst
    rw [← harr] at hst
    have hyl' : yv.cells.size = tb.size ty := by simpa using hyl
    simp [execOp, hop, hxv, hyv, Instr.storeAt, Instr.sureAddr, storeVar, hsz, hyl', hst]
   unfold Oper.wp
   rw [hrun]
   simp only [Oper.upon]
   have hgrow : w.grownBy (w.setRow b arr) (some b) := ⟨rfl, rfl, rfl, by simp, fun k _ hk => setRow_other w b k _ (fun e => hk (by simp [e]))⟩
   have hnKb : ∀ o, ¬ K b o := hnK b (by rw [hρ]; rfl)
   have hlat : Later K K w (w.setRow b arr) := ⟨fun _ _ h => h, fun b' o hk => by
    have : b' ≠ b := by rintro rfl; exact hnKb o hk
    exact cell_setRow_other w b _ ⟨b', o, none⟩ this⟩
   have hkeep : ∀ j, (H.get j).isSome = true → (HEnv.get ((i, .mrow e sz (es.set k p')) :: H) j).isSome = true ∧ ρ j = ρ j := by
    intro j hj
    refine ⟨?_, rfl⟩
    rw [HEnv.get_cons]
    split
    ·rfl
    ·exact hj
   have hd' : a.put o.dst undef = a := by rw [hd]; rfl
   rw [hd']
   refine hKK _ _ (h.go _ _ ⟨h1, h2, K, ρ, ⟨hf.below.grown hgrow hf.below.size (fun k hk => by simp at hk; omega), hf.old, hf.new, fun b o hk => by have := hf.lt b o hk; simpa using this, hf.others.trans (others_row hheap hgrow), hf.pt.grown hf.old hgrow hlat (fun b2 hb2 => by cases hb2; exact hf.away i _ b hi rfl (by rw [hρ]; rfl)) (fun _ _ h => .inl h), hf.away.set hi rfl, ?_, ?_⟩, he.keeps hlat hkeep⟩)
   ·intro j' e' hj
    rw [HEnv.get_cons] at hj
    split at hj
    ·rename_i e1; subst e1
     simp only [Option.some.injEq] at hj; subst hj
     have hxl : xs.length = es.length * sz := hown.1
     have hoffl : off + yv.cells.toList.length ≤ es.length * sz := by rw [hyl]; omega
     refine ⟨xs.take off ++ yv.cells.toList ++ xs.drop (off + yv.cells.toList.length), ⟨?_, .inr ⟨b, c, arr, by rw [hρ, List.length_set], hB, setRow_heap w b cur _ e _ hheap, by rw [List.length_set]; exact hec, hcap, ?_, ?_⟩⟩, h0, ?_, fun b' hb' => hnK b' hb'⟩
     ·rw [List.length_set, List.length_append, List.length_append, List.length_take, List.length_drop]; omega
     ·rw [← hsize, harr, List.size_toArray, List.length_append, List.length_append, List.length_take, List.length_drop, Array.length_toList]; omega
     ·rw [List.length_set, harr, ← htake]
      exact splice_take hoffl (by simpa using hcs)
     ·intro i1 e1 he1
      have hi1 : i1 < es.length := by have := (List.getElem?_eq_some_iff.1 he1).1; simpa using this
      by_cases hik : i1 = k
      ·subst hik
       rw [List.getElem?_set_self hkl] at he1
       simp only [Option.some.injEq] at he1; subst he1
       have hpl' : p'.cells.length = sz := by rw [s3, List.length_append, List.length_append, List.length_take, List.length_drop]; omega
       refine ⟨hpl', fun t c' hc' => ?_⟩
       have htl : t < sz := by rw [← hpl']; exact (List.getElem?_eq_some_iff.1 hc').1
       rw [s3, ← s1, splice_get (by omega)] at hc'
       rw [splice_get (by omega)]
       split at hc'
       ·obtain ⟨v, v1, v2, v3⟩ := (hcr i1 p hp).2 t c' hc'
        exact ⟨v, by rw [if_pos (by omega)]; exact v1, v2, v3.later hlat⟩
       ·split at hc'
        ·rename_i t1 t2
         have hlt2 : t - j < yv.cells.toList.length := by omega
         refine ⟨yv.cells.toList[t - j], ?_, hy1 _ (List.getElem_mem hlt2), (hyc.2 (t - j) c' _ hc' (List.getElem?_eq_getElem hlt2)).later hlat⟩
         rw [if_neg (by omega), if_pos (by omega), show i1 * sz + t - off = t - j by omega]
         exact List.getElem?_eq_getElem hlt2
        ·obtain ⟨v, v1, v2, v3⟩ := (hcr i1 p hp).2 t c' hc'
         exact ⟨v, by rw [if_neg (by omega), if_neg (by omega)]; exact v1, v2, v3.later hlat⟩
      ·rw [List.getElem?_set_ne (Ne.symm hik)] at he1
       obtain ⟨g1, g2⟩ := hcr i1 e1 he1
       refine ⟨g1, fun t c' hc' => ?_⟩
       obtain ⟨v, v1, v2, v3⟩ := g2 t c' hc'
       have htl : t < sz := by rw [← g1]; exact (List.getElem?_eq_some_iff.1 hc').1
       refine ⟨v, ?_, v2, v3.later hlat⟩
       rw [splice_get (by omega)]
       rcases Nat.lt_or_gt_of_ne hik with hlt | hgt
       ·have : i1 * sz + sz ≤ k * sz := by rw [← Nat.succ_mul]; exact Nat.mul_le_mul_right _ hlt
        rw [if_pos (by omega)]; exact v1
       ·have : k * sz + sz ≤ i1 * sz := by rw [← Nat.succ_mul]; exact Nat.mul_le_mul_right _ hgt
        rw [if_neg (by omega), if_neg (by omega)]; exact v1
    ·rename_i hne
     by_cases hlive : e'.live = true
     ·have := (hf.heap.ok j' e' hj).grown (f := id) hgrow hlat (fun b o h => .inl h) (fun av v h => h.keeps hlat hkeep) hlive (fun b' hb' e' => by
       simp at e'; subst e'
       exact hf.heap.apart i j' _ _ b hne hi hj rfl hlive (by rw [hρ]; rfl) hb')
      cases e' <;> exact this
     ·cases e' <;> simp [HE.live] at hlive
      ·trivial
      ·exact ARel.keeps hlat hkeep (hf.heap.ok j' _ hj)
   ·intro j' k' e1 e2 bb hjk hj hk' hlj hlk hbj hbk
    have f1 : ∀ (j : Nat) (hh : HE), HEnv.get ((i, .mrow e sz (es.set k p')) :: H) j = some hh → hh.live = true → ∃ h0, H.get j = some h0 ∧ h0.live = true := by
     intro j hh hj hl
     rw [HEnv.get_cons] at hj
     split at hj
     ·rename_i e'; subst e'; exact ⟨_, hi, rfl⟩
     ·exact ⟨hh, hj, hl⟩
    obtain ⟨a1, a2, a3⟩ := f1 j' e1 hj hlj
    obtain ⟨b1, b2, b3⟩ := f1 k' e2 hk' hlk
    exact hf.heap.apart j' k' a1 b1 bb hjk a2 b2 a3 b3 hbj hbk
def zeroPV (v : Value) : Option PV := match zeroAV v with | some (.pv p) => some p | _ => none
theorem zeroPV_rel {K : KK} {w : World} {v : Value} {p : PV} (h : zeroPV v = some p) : PRel K w p v ∧ p.notTup = true := by
 unfold zeroPV at h
 split at h
 ·rename_i p' hz
  simp only [Option.some.injEq] at h; subst h
  unfold zeroAV at hz
  split at hz
  ·rename_i cs
   split at hz
   ·rename_i ps hps
    simp only [Option.some.injEq, AV.pv.injEq] at hz; subst hz
    have hr := zeroPVs_rel (K := K) (w := w) hps
    have := PRel.agg ps cs.toList hr.1 (zeroPVs_one hps) hr.2
    exact ⟨by simpa using this, rfl⟩
   ·cases hz
  ·split at hz
   ·rename_i ho
    simp only [Option.some.injEq, AV.pv.injEq] at hz; subst hz
    exact ⟨.base _ ho, rfl⟩
   ·cases hz
 ·cases h
theorem ao_make (htb : TabOK P tb) {ty e d m : Nat} {x y : Operand} {sz : Nat} {z : PV} {mi : Int} (i : Nat) (hg : guardE ops env o = some true) (hop : o.op = .makeSlice ty x y) (hk : tb.k ty = .sl e) (hx : env.pv H x = some (.base (.int .i64 mi))) (hy : env.pv H y = some (.base (.int .i64 mi))) (hmi : mi = ((m : Nat) : Int))
  (hz : (match tb.zero e with | some v => zeroPV v | none => none) = some z) (hzz : (match tb.get e with | some ti => (match ti.zero with | some zv => ti.size == sz && zv.cells.size == sz && Nat.blt 0 sz | none => false) | none => false) = true)
  (hb : (match tb.get e with | some ti => ti.bytes | none => 0) * m ≤ 281474976710656) (hm : m ≤ maxLen) (hi : H.get i = none) (hd : o.dst = some d) (ht : Nat.blt d n = true)
  (h : AO P n g ops.toArray rest ((d, .own i) :: env) ((i, .mrow e sz (List.replicate m z)) :: H) Q) : AO P n g ops.toArray (o :: rest) env H Q := by
 refine ⟨fun a w hinv => ?_⟩
 have hw := wanted_of hinv hg
 obtain ⟨h1, h2, K, ρ, hf, he⟩ := hinv
 refine wpList_step fun KK hKK => ?_
 rw [if_pos hw]
 subst hmi
 cases hti : tb.get e with
 | none => simp [hti] at hzz
 | some ti =>
  cases hzv : ti.zero with
  | none => simp [hti, hzv] at hzz
  | some zv =>
   simp only [hti, hzv, Bool.and_eq_true, beq_iff_eq] at hzz hb
   obtain ⟨⟨z1, z2⟩, z3⟩ := hzz
   have hsz : 0 < sz := Nat.le_of_ble_eq_true z3
   obtain ⟨tin, q1, q2, q3, q4, _⟩ := tab_info htb hti
   have hzp : zeroPV zv = some z := by
    have : tb.zero e = some zv := by unfold Tab.zero; rw [hti]; exact hzv
    rw [this] at hz; exact hz
   have hxr := opE_pv (a := a) hf (x := x) (fun av hh => val_rel he hh) hx
   have hyr := opE_pv (a := a) hf (x := y) (fun av hh => val_rel he hh) hy
   generalize hxv : a.eval x = xv at hxr
   generalize hyv : a.eval y = yv at hyr
   cases hxr; cases hyr
   obtain ⟨w', r1, r2, r3⟩ := run_make_full w g.w0.heap.size ty e tin zv sz (tab_sl htb hk) q1 (by rw [q4]; exact hzv) (by omega) .i64 .i64 m (by rw [q3]; exact hb) hm hf.below.size
   have hrun : (execOp a.eval o).run P w = .ok (.value (.slice (some ⟨w.heap.size, 0, none⟩) m m)) w' := by
    simp [execOp, hop, hxv, hyv, r1]
   unfold Oper.wp
   rw [hrun]
   simp only [Oper.upon]
   have hev : Evo K K w w' := ⟨⟨r3.os, r3.tape, r3.output, r3.size, fun k hk => r3.block k hk (by simp)⟩, fun _ _ h => h, fun _ _ h => .inl h, fun b o h => Nat.lt_of_lt_of_le (hf.lt b o h) r3.size⟩
   obtain ⟨hzr, hznt⟩ := zeroPV_rel (K := K) (w := w') hzp
   have hzc := cells_rel hzr
   have hzo := cells_one hzr hznt
   have hzl : zv.cells.toList.length = sz := by simpa using z2
   refine hKK _ _ (h.go _ _ ⟨put_size h1, put_defers h2, K, fun j => if j = i then .slice (some ⟨w.heap.size, 0, none⟩) m m else ρ j, hf.fresh hev hi ⟨(madeCells zv.cells (m * sz)).toList, by rw [List.length_replicate]; exact r2, hsz, ?_, ?_⟩ (by simp [blockOf]), ?_⟩)
   ·intro i1 e1 he1
    have hi1 : i1 < m := by have := (List.getElem?_eq_some_iff.1 he1).1; simpa using this
    have e2 : e1 = z := by rw [List.getElem?_replicate, if_pos hi1] at he1; simpa using he1.symm
    subst e2
    have hl : e1.cells.length = sz := by rw [← hzl, hzc.1]
    refine ⟨hl, fun k c' hc' => ?_⟩
    have hk : k < sz := by rw [← hl]; exact (List.getElem?_eq_some_iff.1 hc').1
    have hkz : k < zv.cells.size := by omega
    have hu : zv.cells.toList[k]? = some zv.cells[k] := by simp [hkz]
    refine ⟨zv.cells[k], ?_, hzo _ (List.mem_of_getElem? hu), hzc.2 k c' _ hc' hu⟩
    have hlt : i1 * sz + k < m * sz := by
     have : i1 * sz + sz ≤ m * sz := by rw [← Nat.succ_mul]; exact Nat.mul_le_mul_right _ hi1
     omega
    have hmod : (i1 * sz + k) % zv.cells.size = k := by rw [z2, Nat.add_comm, Nat.add_mul_mod_self_right]; exact Nat.mod_eq_of_lt hk
    simp [madeCells, hlt, hmod, hkz]
   ·intro b hb o ho
    simp [Value.ownBlock] at hb
    subst hb
    have := hf.lt _ _ ho
    omega
   ·rw [hd]
    refine env_put h1 ht (he.keeps (hev.later hf.lt) (fresh_keeps hi _ _)) ?_
    have := ARel.own (K := K) (w := w') (ρ := fun j => if j = i then .slice (some ⟨w.heap.size, 0, none⟩) m m else ρ j) (H := (i, HE.mrow e sz (List.replicate m z)) :: H) i (by simp [HEnv.get_cons])
    simpa using this
theorem inv_mfreeze {i e sz : Nat} {es : List PV} {a : Act} {w : World} (hi : H.get i = some (.mrow e sz es)) (hinv : Inv n g env H a w) : Inv n g env ((i, .row e sz es) :: H) a w := by
 obtain ⟨h1, h2, K, ρ, hf, he⟩ := hinv
 obtain ⟨xs, hown, h0, hcr, hnK⟩ := hf.heap.ok i _ hi
 obtain ⟨K', hK'⟩ : ∃ K' : KK, ∀ b o, K' b o ↔ (K b o ∨ ((ρ i).ownBlock = some b ∧ o < es.length * sz)) := ⟨fun b o => K b o ∨ ((ρ i).ownBlock = some b ∧ o < es.length * sz), fun _ _ => Iff.rfl⟩
 have hlat : Later K K' w w := ⟨fun b o h => (hK' b o).2 (.inl h), fun _ _ _ => rfl⟩
 have hk : ∀ j, (H.get j).isSome = true → (HEnv.get ((i, .row e sz es) :: H) j).isSome = true ∧ ρ j = ρ j := fun j hj => by
  refine ⟨?_, rfl⟩
  rw [HEnv.get_cons]
  split
  ·rfl
  ·exact hj
 have hbo : ∀ {v : Value} {nn : Nat} {zs : List Value} {ww : World} {BB t s : Nat}, ww.ownsRow BB t s v nn zs → ∀ b, blockOf v = some b ↔ v.ownBlock = some b := by
  intro v nn zs ww BB t s h b
  rcases h.2 with ⟨rfl, _⟩ | ⟨_, _, _, rfl, _⟩ <;> simp [blockOf, Value.ownBlock]
 have hne : ∀ {j : Nat} {h : HE} {b' : Nat}, i ≠ j → H.get j = some h → h.live = true → blockOf (ρ j) = some b' → (ρ i).ownBlock ≠ some b' := fun {j h b'} hij hg hl hb e =>
  hf.heap.apart i j _ h b' hij hi hg rfl hl ((hbo hown b').2 e) hb
 refine ⟨h1, h2, K', ρ, ⟨hf.below, fun b o h => (hK' b o).2 (.inl (hf.old b o h)), fun b' o h => ?_, fun b' o h => ?_, hf.others, hf.pt.grown hf.old (row := (ρ i).ownBlock) ⟨rfl, rfl, rfl, Nat.le_refl _, fun _ _ _ => rfl⟩ hlat (fun b hb => hf.away i _ b hi rfl ((hbo hown b).2 hb)) (fun b o h => (hK' b o).1 h |>.elim .inl (fun h => .inr (.inl h.1))), hf.away.set hi rfl, ?_, ?_⟩, he.keeps hlat hk⟩
 ·rcases (hK' b' o).1 h with h | ⟨h, _⟩
  ·exact hf.new b' o h
  ·exact .inr (hown.lt b' h).1
 ·rcases (hK' b' o).1 h with h | ⟨h, _⟩
  ·exact hf.lt b' o h
  ·exact (hown.lt b' h).2
 ·intro j h hg
  rw [HEnv.get_cons] at hg
  split at hg
  ·rename_i e1; subst e1
   simp only [Option.some.injEq] at hg; subst hg
   refine ⟨xs, hown, h0, fun k e he => ?_, fun b' hb o => ?_⟩
   ·obtain ⟨c1, c2⟩ := hcr k e he
    exact ⟨c1, fun k c hc => let ⟨v, h4, h5, h6⟩ := c2 k c hc; ⟨v, h4, h5, h6.later hlat⟩⟩
   ·rw [hK']
    exact ⟨fun h => (h.resolve_left (hnK b' hb o)).2, fun h => .inr ⟨hb, h⟩⟩
  ·rename_i hij
   have ho := hf.heap.ok j h hg
   by_cases hlive : h.live = true
   ·have := ho.grown (f := id) (w' := w) (K' := K') (ρ' := ρ) (H' := (i, .row e sz es) :: H) (row := (ρ i).ownBlock) ⟨rfl, rfl, rfl, Nat.le_refl _, fun _ _ _ => rfl⟩ hlat (fun b o h => (hK' b o).1 h |>.elim .inl (fun h => .inr (.inl h.1))) (fun av v h => h.keeps hlat hk) hlive (fun b' hb' => hne hij hg hlive hb')
    cases h <;> exact this
   ·cases h <;> simp [HE.live] at hlive
    ·trivial
    ·exact ARel.keeps hlat hk ho
 ·intro j k h h' b' hjk hg hg' hl hl'
  have f1 : ∀ (j : Nat) (hh : HE), HEnv.get ((i, .row e sz es) :: H) j = some hh → hh.live = true → ∃ h0, H.get j = some h0 ∧ h0.live = true := by
   intro j hh hj hl
   rw [HEnv.get_cons] at hj
   split at hj
   ·rename_i e'; subst e'; exact ⟨_, hi, rfl⟩
   ·exact ⟨hh, hj, hl⟩
  obtain ⟨a1, a2, a3⟩ := f1 j h hg hl
  obtain ⟨b1, b2, b3⟩ := f1 k h' hg' hl'
  exact hf.heap.apart j k a1 b1 b' hjk a2 b2 a3 b3
theorem aw_mfreeze (i : Nat) {e sz : Nat} {es : List PV} (hi : H.get i = some (.mrow e sz es)) (k : AW P n g c env ((i, .row e sz es) :: H) QQ) : AW P n g c env H QQ := ⟨fun a w hinv => k.go a w (inv_mfreeze hi hinv)⟩
theorem ao_mfreeze {l : List Oper} (i : Nat) {e sz : Nat} {es : List PV} (hi : H.get i = some (.mrow e sz es)) (k : AO P n g ops.toArray l env ((i, .row e sz es) :: H) Q) : AO P n g ops.toArray l env H Q := ⟨fun a w hinv => k.go a w (inv_mfreeze hi hinv)⟩
theorem hsub_m {H' : HEnv} {i : Nat} {t sz : Nat} {es es' : List PV} (h : H.get i = some (.mrow t sz es)) (e : es = es') (hs : HSub H H') : HSub H ((i, .mrow t sz es') :: H') := hsub_cons (by rw [h, e]) hs
theorem rng_get {α : Type} {f : Nat → α} {m k : Nat} (h : k < m) : ((List.range m).map f)[k]? = some (f k) := by simp [h]
theorem rng_set {α : Type} {f f' : Nat → α} {m k : Nat} {v : α} (h : ∀ p, p < m → f' p = if p = k then v else f p) : ((List.range m).map f).set k v = (List.range m).map f' := by
 apply List.ext_getElem?
 intro t
 by_cases ht : t < m
 ·rw [List.getElem?_set]
  split
  ·rename_i e; subst e; simp [ht, h k ht]
  ·rename_i e; simp [ht, h t ht, Ne.symm e]
 ·rw [List.getElem?_eq_none (by simp; omega), List.getElem?_eq_none (by simp; omega)]
theorem rng_rep {α : Type} {f : Nat → α} {m : Nat} {v : α} (h : ∀ p, p < m → f p = v) : List.replicate m v = (List.range m).map f := by
 apply List.ext_getElem?
 intro t
 by_cases ht : t < m
 ·simp [ht, h t ht]
 ·rw [List.getElem?_eq_none (by simp; omega), List.getElem?_eq_none (by simp; omega)]
theorem aw_mown_nil {t : Nat} (i : Nat) (e : TypeId) (sz : Nat) (hsz : 0 < sz) (ht : env.get t = some (.pv (.base (.slice none 0 0)))) (hi : H.get i = none) (h : AW P n g c ((t, .own i) :: env) ((i, .mrow e sz []) :: H) QQ) : AW P n g c env H QQ := by
 refine ⟨fun a w hinv => h.go a w ?_⟩
 obtain ⟨h1, h2, K, ρ, hf, he⟩ := hinv
 have hev : Evo K K w w := .refl hf.lt
 refine ⟨h1, h2, K, fun j => if j = i then .slice none 0 0 else ρ j, hf.fresh hev hi ⟨[], World.ownsRow_nil w _ e sz, hsz, fun i e h => by simp at h, by simp [Value.ownBlock]⟩ (by simp [blockOf]), ?_⟩
 have he' := he.keeps (hev.later hf.lt) (H' := (i, .mrow e sz []) :: H) (fresh_keeps hi _ (.slice none 0 0))
 intro t' av hg
 rw [Env.get_cons] at hg
 split at hg
 ·rename_i e'; subst e'
  simp only [Option.some.injEq] at hg; subst hg
  obtain ⟨v, hv, hr⟩ := he _ _ ht
  cases hr with
  | pv _ _ hp =>
   cases hp
   refine ⟨_, hv, ?_⟩
   have := ARel.own (K := K) (w := w) (ρ := fun j => if j = i then .slice none 0 0 else ρ j) (H := (i, HE.mrow e sz []) :: H) i (by simp [HEnv.get_cons])
   simpa using this
 ·exact he' _ _ hg
end
end Go.Cg
namespace Go.Cg
open Go.RowKit
section
variable {P : Program} {tb : Tab} {n : Nat} {g : Base} {H : HEnv} {env : Env} {ops : List Oper} {o : Oper} {rest : List Oper} {Q : Env → HEnv → Prop} {QQ : QC} {c : Code} {K : KK} {w : World} {ρ : Nat → Value} {a : Act}
theorem ao_mappend (htb : TabOK P tb) {ty e : Nat} {x y : Operand} {i : Nat} {sz : Nat} {es xs : List PV} {full : Bool} {t : Nat} (hg : guardE ops env o = some true)
  (hop : o.op = .call { callee := .builtin .append, args := #[x, y], argTypes := #[ty, ty] }) (hk : tb.k ty = .sl e) (hx : env.val x = some (.own i)) (hi : H.get i = some (.mrow e sz es)) (hy : env.pv H y = some (.slc sz xs full))
  (hzz : (match tb.get e with | some ti => (match ti.zero with | some z => ti.size == sz && z.cells.size == sz | none => false) | none => false) = true)
  (hbound : (es.length + xs.length) * (match tb.get e with | some ti => ti.bytes | none => 0) ≤ 140737488355328) (hb2 : es.length + xs.length ≤ 140737488355328) (hd : o.dst = some t) (ht : Nat.blt t n = true)
  (h : AO P n g ops.toArray rest ((t, .own i) :: killEnv i env) ((i, .mrow e sz (es ++ xs)) :: killH i H) Q) : AO P n g ops.toArray (o :: rest) env H Q := by
 refine ⟨fun a w hinv => ?_⟩
 have hw := wanted_of hinv hg
 obtain ⟨h1, h2, K, ρ, hf, he⟩ := hinv
 refine wpList_step fun Kc hKc => ?_
 rw [if_pos hw]
 cases hti : tb.get e with
 | none => simp [hti] at hzz
 | some ti =>
  cases hz : ti.zero with
  | none => simp [hti, hz] at hzz
  | some z =>
   simp only [hti, hz, Bool.and_eq_true, beq_iff_eq] at hzz hbound
   obtain ⟨tin, q1, q2, q3, q4, _⟩ := tab_info htb hti
   have hxr := val_rel he hx
   have hyr := opE_pv (a := a) hf (x := y) (fun av hh => val_rel he hh) hy
   obtain ⟨us, hown, hsz, hcr, hKK'⟩ := hf.heap.ok i _ hi
   generalize hxv : a.eval x = xv at hxr
   cases hxr with
   | own _ hi' =>
    obtain ⟨news, n1, n2, n3, n4, n5⟩ := slc_flat hyr
    obtain ⟨v', w', r1, r2, r3⟩ := run_append_own' (P := P) w g.w0.heap.size ty o.type e tin z sz ti.bytes (tab_sl htb hk) q1 (by rw [q4]; exact hz) (by omega) q3 hzz.2 (ρ i) es.length us hown (a.eval y) xs.length news n1
     (n2.imp (fun h => ⟨h.1, by simpa using h.2⟩) (fun ⟨ad, c, hh, hh2, _⟩ => ⟨ad, c, hh, hh2⟩)) n3 (by unfold maxLen; omega) hbound hf.below.size
    have hrun : (execOp a.eval o).run P w = .ok (.value v') w' := by
     simp [execOp, hop, resolve, invoke, builtin, hxv, r1]
    unfold Oper.wp
    rw [hrun]
    simp only [Oper.upon]
    obtain ⟨row, hgrow, hrow⟩ : ∃ row, w.grownBy w' row ∧ ((row = (ρ i).ownBlock ∧ v'.ownBlock = (ρ i).ownBlock) ∨ (row = none ∧ ∀ b, v'.ownBlock = some b → w.heap.size ≤ b)) := by
     rcases r3 with ⟨h1, h2⟩ | ⟨h1, h2⟩
     ·exact ⟨_, h1, .inl ⟨rfl, h2⟩⟩
     ·exact ⟨_, h1, .inr ⟨rfl, h2⟩⟩
    let K1 : KK := K
    have hcellsame : ∀ b o, K b o → w'.cell? ⟨b, o, none⟩ = w.cell? ⟨b, o, none⟩ := by
     intro b o hbo
     by_cases hbb : row = some b
     ·rcases hrow with ⟨e1, e2⟩ | ⟨e1, _⟩
      ·rw [hbb] at e1
       exact absurd hbo (hKK' b e1.symm o)
      ·rw [hbb] at e1; cases e1
     ·exact World.cell?_of_block (hgrow.block b (hf.lt b o hbo) (Ne.symm hbb))
    have hlat : Later K K1 w w' := ⟨fun b o h => h, hcellsame⟩
    have hvlt := r2.lt
    have hrowB : ∀ k, row = some k → g.w0.heap.size ≤ k := by
     intro k hk
     rcases hrow with ⟨e1, _⟩ | ⟨e1, _⟩
     ·rw [hk] at e1; exact (hown.lt k e1.symm).1
     ·rw [hk] at e1; cases e1
    have hnp : ∀ b, ρ i = .pointer (some ⟨b, 0, none⟩) → False := by
     intro b hb
     rcases hown.2 with ⟨e1, _⟩ | ⟨_, _, _, e1, _⟩ <;> rw [e1] at hb <;> cases hb
    have hkill_isSome : ∀ j, ((killH i H).get j).isSome = (H.get j).isSome := by intro j; rw [killH_get]; cases H.get j <;> rfl
    have hkeep : ∀ j, j ≠ i → (H.get j).isSome = true → (HEnv.get ((i, .mrow e sz (es ++ xs)) :: killH i H) j).isSome = true ∧ (fun j => if j = i then v' else ρ j) j = ρ j := by
     intro j hne hj
     refine ⟨?_, by simp [hne]⟩
     simp only [HEnv.get_cons]; rw [if_neg (Ne.symm hne), hkill_isSome]; exact hj
    have htr : ∀ av v, ARel K w ρ H av v → ARel K1 w' (fun j => if j = i then v' else ρ j) ((i, .mrow e sz (es ++ xs)) :: killH i H) (kill i av) v := fun av v h => h.kill hlat i hkeep hnp (row_one hf i (by simp [isVal, hi]))
    have hbo : ∀ {v : Value} {nn : Nat} {zs : List Value} {ww : World} {BB : Nat}, ww.ownsRow BB e sz v nn zs → ∀ b, blockOf v = some b ↔ v.ownBlock = some b := by
     intro v nn zs ww BB h b
     rcases h.2 with ⟨rfl, _⟩ | ⟨_, _, _, rfl, _⟩ <;> simp [blockOf, Value.ownBlock]
    have hK1 : ∀ b o, K1 b o → K b o ∨ row = some b ∨ w.heap.size ≤ b := by
     exact fun b o h => .inl h
    have hnl : (es ++ xs).length = es.length + xs.length := List.length_append
    have hcellsrow : ∀ (j : Nat) (o : Obj), row = some j → w.heap[j]? = some o → o.isCells = true := by
     intro j o hj ho
     rcases hrow with ⟨e1, _⟩ | ⟨e1, _⟩
     ·rw [hj] at e1
      rcases hown.2 with ⟨h, _⟩ | ⟨b2, cap, cur, h, _, hh, _⟩
      ·rw [h] at e1; simp [Value.ownBlock] at e1
      ·rw [h] at e1
       simp only [Value.ownBlock, Option.some.injEq] at e1
       subst e1
       rw [hh] at ho; cases ho; rfl
     ·rw [hj] at e1; cases e1
    refine hKc _ _ (h.go _ _ ⟨put_size h1, put_defers h2, K1, fun j => if j = i then v' else ρ j, ⟨hf.below.grown hgrow hf.below.size hrowB, fun b o h => hf.old b o h, fun b o h => hf.new b o h, fun b o h => Nat.lt_of_lt_of_le (hf.lt b o h) hgrow.size, hf.others.trans (KeepsOthers.of_grownBy hgrow hcellsrow), hf.pt.grown hf.old hgrow hlat (fun b hb => ?_) hK1, ?_, ?_, ?_⟩, ?_⟩)
    ·rcases hrow with ⟨e1, _⟩ | ⟨e1, _⟩
     ·rw [hb] at e1; exact hf.away i _ b hi rfl ((hbo hown b).2 e1.symm)
     ·rw [hb] at e1; cases e1
    ·intro j hh b hj hl hb
     rw [HEnv.get_cons] at hj
     split at hj
     ·rename_i e'; subst e'
      simp only [if_true] at hb
      have hv := (hbo r2 b).1 hb
      rcases hrow with ⟨_, e2⟩ | ⟨_, e2⟩
      ·exact hf.away i _ b hi rfl ((hbo hown b).2 (by rw [← e2]; exact hv))
      ·exact hf.pt.lt (e2 b hv)
     ·rename_i hne
      simp only [Ne.symm hne, if_false] at hb
      rw [killH_get] at hj
      cases hH : H.get j with
      | none => simp [hH] at hj
      | some e0 =>
       simp only [hH, Option.map_some, Option.some.injEq] at hj
       subst hj
       exact hf.away j e0 b hH (by cases e0 <;> first | rfl | exact hl) hb
    ·intro j hh hj
     simp only [HEnv.get_cons] at hj
     split at hj
     ·rename_i e'; subst e'
      simp only [Option.some.injEq] at hj; subst hj
      simp only [if_true]
      refine ⟨us ++ news, by rw [hnl]; exact r2, hsz, ?_, ?_⟩
      ·have := hcr.append hown.1 n4
       intro k c hc
       obtain ⟨t1, t2⟩ := this k c hc
       exact ⟨t1, fun k' c' hc' => let ⟨v, t3, t4, t5⟩ := t2 k' c' hc'; ⟨v, t3, t4, t5.later hlat⟩⟩
      ·intro b hb o h
       rcases hrow with ⟨e1, e2⟩ | ⟨_, e2⟩
       ·exact hKK' b (by rw [← e2]; exact hb) o h
       ·have := e2 b hb
        have := hf.lt b o h; omega
     ·rename_i hne
      rw [killH_get] at hj
      cases hH : H.get j with
      | none => simp [hH] at hj
      | some e0 =>
       simp only [hH, Option.map_some, Option.some.injEq] at hj
       subst hj
       simp only [Ne.symm hne, if_false]
       by_cases hlive : e0.live = true
       ·have := (hf.heap.ok j e0 hH).grown (f := kill i) hgrow hlat hK1 htr hlive (fun b hb hb' => by
         rcases hrow with ⟨e1, _⟩ | ⟨e1, _⟩
         ·rw [hb'] at e1
          exact hf.heap.apart i j _ e0 b hne hi hH rfl hlive ((hbo hown b).2 e1.symm) hb
         ·rw [hb'] at e1; cases e1)
        cases e0 <;> exact this
       ·cases e0 <;> simp [HE.live] at hlive
        ·trivial
        ·exact htr _ _ (hf.heap.ok j _ hH)
    ·have e1 : ∀ (j : Nat) (hh : HE), j ≠ i → HEnv.get ((i, .mrow e sz (es ++ xs)) :: killH i H) j = some hh → hh.live = true → ∃ h0, H.get j = some h0 ∧ h0.live = true := by
      intro j hh hne hj hl
      simp only [HEnv.get_cons] at hj
      rw [if_neg (Ne.symm hne), killH_get] at hj
      cases hH : H.get j with
      | none => simp [hH] at hj
      | some e0 =>
       simp only [hH, Option.map_some, Option.some.injEq] at hj
       subst hj
       refine ⟨e0, rfl, ?_⟩
       cases e0 <;> first | rfl | exact hl
     have e2 : ∀ (k : Nat) (hh : HE) (bb : Nat), k ≠ i → H.get k = some hh → hh.live = true → v'.ownBlock = some bb → blockOf (ρ k) = some bb → False := by
      intro k hh bb hne hk hl hv hb
      rcases hrow with ⟨_, e2⟩ | ⟨_, e2⟩
      ·exact hf.heap.apart i k _ hh bb (Ne.symm hne) hi hk rfl hl ((hbo hown bb).2 (by rw [← e2]; exact hv)) hb
      ·have := e2 bb hv
       have := ((hf.heap.ok k hh hk).block_lt hl hb).2
       omega
     intro j k hh hh' bb hjk hj hk' hlj hlk hbj hbk
     by_cases hji : j = i
     ·subst hji
      have hki : k ≠ j := Ne.symm hjk
      obtain ⟨h0, a1, a2⟩ := e1 k hh' hki hk' hlk
      simp only [if_true] at hbj
      simp only [hki, if_false] at hbk
      exact e2 k h0 bb hki a1 a2 ((hbo r2 bb).1 hbj) hbk
     ·obtain ⟨h0, a1, a2⟩ := e1 j hh hji hj hlj
      simp only [hji, if_false] at hbj
      by_cases hki : k = i
      ·subst hki
       simp only [if_true] at hbk
       exact e2 j h0 bb hji a1 a2 ((hbo r2 bb).1 hbk) hbj
      ·obtain ⟨h0', b1, b2⟩ := e1 k hh' hki hk' hlk
       simp only [hki, if_false] at hbk
       exact hf.heap.apart j k h0 h0' bb hjk a1 b1 a2 b2 hbj hbk
    ·rw [hd]
     refine env_put h1 ht ?_ ?_
     ·intro t' av hg'
      rw [killEnv_get] at hg'
      cases hE : env.get t' with
      | none => simp [hE] at hg'
      | some av0 =>
       simp only [hE, Option.map_some, Option.some.injEq] at hg'
       subst hg'
       obtain ⟨v, v1, v2⟩ := he t' av0 hE
       exact ⟨v, v1, htr _ _ v2⟩
     ·have := ARel.own (K := K1) (w := w') (ρ := fun j => if j = i then v' else ρ j) (H := (i, HE.mrow e sz (es ++ xs)) :: killH i H) i (by simp [HEnv.get_cons])
      simpa using this
def lpv (env : Env) (H : HEnv) (x : Operand) : Option PV := match env.val x with
 | some (.own i) => match H.get i with | some (.mrow _ sz es) => some (.slc sz es false) | _ => env.pv H x
 | _ => env.pv H x
def lpvs (env : Env) (H : HEnv) : List Operand → Option (List PV)
 | [] => some []
 | x :: xs => match lpv env H x, lpvs env H xs with | some p, some ps => some (p :: ps) | _, _ => none
def loanK (K : KK) (ρ : Nat → Value) (H : HEnv) : KK := fun b o => K b o ∨ ∃ i t sz es, H.get i = some (.mrow t sz es) ∧ (ρ i).ownBlock = some b ∧ o < es.length * sz
theorem loan_later : Later K (loanK K ρ H) w w := ⟨fun _ _ h => .inl h, fun _ _ _ => rfl⟩
theorem lpv_rel (hf : FS g K ρ H w) {x : Operand} (hv : ∀ av, env.val x = some av → ARel K w ρ H av (a.eval x)) {p : PV} (h : lpv env H x = some p) : PRel (loanK K ρ H) w p (a.eval x) := by
 have old : env.pv H x = some p → PRel (loanK K ρ H) w p (a.eval x) := fun h => (opE_pv hf hv h).later loan_later
 unfold lpv at h
 split at h
 ·rename_i i hx
  split at h
  ·rename_i t sz es hi
   simp only [Option.some.injEq] at h; subst h
   have hxr := hv _ hx
   generalize a.eval x = xv at hxr
   cases hxr with
   | own _ _ =>
    obtain ⟨xs, hown, h0, hcr, hnK⟩ := hf.heap.ok i _ hi
    rcases hown.2 with ⟨hr, hz⟩ | ⟨b, cap, cur, hr, hB, hheap, hle, hcap, hsize, htake⟩
    ·rw [hr]
     have : es = [] := List.eq_nil_of_length_eq_zero hz
     subst this; exact .nil sz false
    ·by_cases hes : es = []
     ·subst hes
      have hown' := hown
      rw [hr] at hown' ⊢
      exact .slc sz [] false b 0 cap (fun _ => []) h0 (Nat.zero_le _) (by simp) (by simp [maxLen]) hcap (fun i e he => by simp at he) (fun i e k c v he => by simp at he)
     ·have hown' := hown
      rw [hr] at hown' ⊢
      have hxl : xs.length = es.length * sz := hown.1
      refine .slc sz es false b 0 cap (fun i => (xs.drop (i * sz)).take sz) h0 hle (by simp) (by omega) hcap (fun k e he => ?_) (fun k e m c v he hc hvv => ?_)
      ·obtain ⟨c1, c2⟩ := hcr k e he
       have hk : k < es.length := (List.getElem?_eq_some_iff.1 he).1
       have hle2 : k * sz + sz ≤ es.length * sz := by rw [← Nat.succ_mul]; exact Nat.mul_le_mul_right _ hk
       refine ⟨c1, by rw [List.length_take, List.length_drop]; omega, fun m v hm => ?_⟩
       rw [List.getElem?_take] at hm
       split at hm
       ·rename_i hms
        rw [List.getElem?_drop] at hm
        obtain ⟨u, u1, u2, _⟩ := c2 m e.cells[m] (List.getElem?_eq_getElem (by omega))
        rw [u1, Option.some.injEq] at hm; subst hm
        exact ⟨.inr ⟨i, t, sz, es, hi, by rw [hr]; rfl, by omega⟩, by rw [Nat.zero_add, hown'.cellAt _ (by omega)]; exact u1, u2⟩
       ·cases hm
      ·obtain ⟨c1, c2⟩ := hcr k e he
       obtain ⟨u, u1, u2, u3⟩ := c2 m c hc
       rw [List.getElem?_take] at hvv
       split at hvv
       ·rw [List.getElem?_drop, u1, Option.some.injEq] at hvv
        subst hvv; exact u3.later loan_later
       ·cases hvv
  ·exact old h
 ·exact old h
theorem lpvs_rel (hf : FS g K ρ H w) : ∀ {xs : List Operand} {ps : List PV}, (∀ x ∈ xs, ∀ av, env.val x = some av → ARel K w ρ H av (a.eval x)) → lpvs env H xs = some ps → PRels (loanK K ρ H) w ps (xs.map a.eval)
 | [], ps, _, h => by simp [lpvs] at h; subst h; exact .nil
 | x :: xs, ps, hv, h => by
  simp only [lpvs] at h
  split at h
  ·rename_i v vs e1 e2
   simp only [Option.some.injEq] at h; subst h
   exact .cons (lpv_rel hf (hv x (by simp)) e1) (lpvs_rel hf (fun y hy => hv y (by simp [hy])) e2)
  ·cases h
theorem ao_callL {xs : Array Operand} {ts : Array TypeId} {f : FuncId} {args : List PV} {r : Value} {t : Nat} (hg : guardE ops env o = some true) (hop : o.op = .call { callee := .value (.func f), args := xs, argTypes := ts }) (hargs : lpvs env H xs.toList = some args)
  (hc : ACall P f args (.base r)) (hd : o.dst = some t) (ht : Nat.blt t n = true)
  (h : AO P n g ops.toArray rest ((t, .pv (.base r)) :: env) H Q) : AO P n g ops.toArray (o :: rest) env H Q := by
 refine ⟨fun a w hinv => ?_⟩
 have hw := wanted_of hinv hg
 obtain ⟨h1, h2, K, ρ, hf, he⟩ := hinv
 refine wpList_step fun KK hKK => ?_
 rw [if_pos hw]
 have hp := lpvs_rel hf (a := a) (xs := xs.toList) (fun x hx av hxx => val_rel he hxx) hargs
 have hrun : (execOp a.eval o).run P w = .ok (.enter f (xs.toList.map a.eval).toArray) w := by
  have e : (xs.toList.map a.eval).toArray = xs.map a.eval := by rw [← Array.toList_map, Array.toArray_toList]
  rw [e]
  simp [execOp, hop, resolve, Act.eval, Deferred.ofValue, invoke, call_run hc.stands]
 unfold Oper.wp
 rw [hrun]
 simp only [Oper.upon]
 have hlt : ∀ b o, loanK K ρ H b o → b < w.heap.size := by
  rintro b o (h | ⟨i, t, sz, es, hi, hb, _⟩)
  ·exact hf.lt b o h
  ·obtain ⟨us, hown, _⟩ := hf.heap.ok i _ hi
   exact (hown.lt b hb).2
 refine (hc.calls _ w _ hlt hp).mono ?_
 rintro ex w'' ⟨v, K', rfl, hev, hr⟩
 cases hr with
 | base _ hb =>
  have hev2 : Evo K K w w'' := ⟨hev.below, fun _ _ h => h, fun _ _ h => .inl h, fun b o h => Nat.lt_of_lt_of_le (hf.lt b o h) hev.below.size⟩
  refine hKK _ _ (h.go _ _ ⟨put_size h1, put_defers h2, K, ρ, hf.evo hev2, ?_⟩)
  rw [hd]
  exact env_put h1 ht (he.keeps (hev2.later hf.lt) (fun j hj => ⟨hj, rfl⟩)) (.pv _ _ (.base _ hb))
end
section
variable {P : Program} {tb : Tab} {g : Base} {H : HEnv} {env : Env} {o : Oper}
theorem q_mindex (htb : TabOK P tb) {t e : Nat} {x y : Operand} {i k sz : Nat} {es : List PV} {kk : IntKind} {m : Int} (hop : o.op = .indexAddr t x y) (hx : env.val x = some (.own i)) (hi : H.get i = some (.mrow e sz es))
  (hk : tb.k t = .sl e) (hke : tb.known e = true) (hsz : tb.size e = sz) (hy : env.pv H y = some (.base (.int kk m))) (hm : m = (k : Nat)) (hlt : k < es.length) : QStep P g H o env (.ad i (k * sz)) := by
 refine ⟨fun K ρ a w hf hv => ?_⟩
 have hxr := hv x (by rw [hop]; simp [Op.operands]) _ hx
 have hyr := opE_pv hf (hv y (by rw [hop]; simp [Op.operands])) hy
 generalize hxv : a.eval x = xv at hxr
 generalize hyv : a.eval y = yv at hyr
 obtain ⟨xs, hown, h0, hcr, hnK⟩ := hf.heap.ok i _ hi
 subst hm
 cases hyr
 cases hxr with
 | own _ hi' =>
  rcases hown.2 with ⟨hr, hz⟩ | ⟨b, cap, cur, hr, hB, hheap, hle, hcap, hsize, htake⟩
  ·omega
  ·have hko : tb.k e ≠ .oth := by intro h; simp [Tab.known, h] at hke
   have hs := run_sizeOf htb hko w
   have hrun : (execOp a.eval o).run P w = .ok (.value (.pointer (some ⟨b, k * sz, none⟩))) w := by
    simp [execOp, hop, hxv, hyv, hr, Instr.indexAt, asIntOf, run_underlying (tab_sl htb hk), hs, hsz, Addr.add_lit]
    intro hh; omega
   rw [hrun]
   exact qval hf (.ad i (k * sz) b es.length cap hi' hr)
theorem q_mload (htb : TabOK P tb) {ty : Nat} {x : Operand} {i k j sz off e : Nat} {es : List PV} {p q : PV} (hop : o.op = .load ty x) (hx : env.val x = some (.ad i off)) (hi : H.get i = some (.mrow e sz es)) (hoff : off = k * sz + j)
  (hp : es[k]? = some p) (hq : partE tb ty p.cells j = some q) : QStep P g H o env (.pv q) := by
 refine ⟨fun K ρ a w hf hv => ?_⟩
 have hxr := hv x (by rw [hop]; simp [Op.operands]) _ hx
 generalize hxv : a.eval x = xv at hxr
 obtain ⟨xs, hown, h0, hcr, hnK⟩ := hf.heap.ok i _ hi
 have hkl : k < es.length := (List.getElem?_eq_some_iff.1 hp).1
 cases hxr with
 | ad _ _ b m c hi' hρ =>
  have hown' := hown
  rw [hρ] at hown'
  have hm : m = es.length := by
   rcases hown'.2 with ⟨hr, _⟩ | ⟨_, _, _, hr, _⟩
   ·simp at hr
   ·simp at hr; exact hr.2.1
  subst hm
  obtain ⟨hl, hc⟩ := hcr k p hp
  have hle : k * sz + sz ≤ es.length * sz := by rw [← Nat.succ_mul]; exact Nat.mul_le_mul_right _ hkl
  have hlen : xs.length = es.length * sz := hown.1
  have hcell : ∀ (t : Nat) (v : Value), ((xs.drop (k * sz)).take sz)[t]? = some v → w.cell? ⟨b, k * sz + t, none⟩ = some v := by
   intro t v hv
   rw [List.getElem?_take] at hv
   split at hv
   ·rw [List.getElem?_drop] at hv
    rw [hown'.cellAt _ (by omega)]; exact hv
   ·cases hv
  have hrels : PRels K w p.cells ((xs.drop (k * sz)).take sz) := by
   refine ⟨by rw [List.length_take, List.length_drop]; omega, fun t c v hc' hv => ?_⟩
   rw [List.getElem?_take] at hv
   split at hv
   ·rw [List.getElem?_drop] at hv
    obtain ⟨u, hu, _, hr⟩ := hc t c hc'
    rw [hu, Option.some.injEq] at hv; subst hv; exact hr
   ·cases hv
  have hone : ∀ v ∈ (xs.drop (k * sz)).take sz, v.oneCell' = true := by
   intro v hv
   obtain ⟨t, hlt, rfl⟩ := List.getElem_of_mem hv
   have hlt' : t < sz := by rw [List.length_take] at hlt; omega
   have ht' : t < p.cells.length := by omega
   obtain ⟨u, hu, h1u, _⟩ := hc t p.cells[t] (List.getElem?_eq_getElem ht')
   rw [List.getElem_take, List.getElem_drop]
   have := (List.getElem?_eq_some_iff.1 hu).2
   rw [this]; exact h1u
  obtain ⟨v, hv, hvr⟩ := run_loadVar_rows htb (b := b) (o := k * sz) hcell hrels hone hq
  have hrun : (execOp a.eval o).run P w = .ok (.value v) w := by
   subst hoff
   simp [execOp, hop, hxv, Instr.loadAt, Instr.sureAddr, hv]
  rw [hrun]
  exact qval hf (.pv _ _ hvr)
end
end Go.Cg
