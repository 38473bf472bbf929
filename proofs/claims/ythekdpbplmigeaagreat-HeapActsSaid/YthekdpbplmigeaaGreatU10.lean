/- A part of the walks by abstract values: no statement of its own. -/
import Derived.Test.YthekdpbplmigeaaGreatU9
import Derived.Test.YthekdpbplmigeaaGreatU6
namespace Go.Cg
open Go.Proofs
set_option maxHeartbeats 1000000 in
theorem SameInts_call (a b : List Int) : ACall Tryz.prog 97 [ints a, ints b] (pb (decide (a = b))) := by
 refine acall_intro tbOK Tryz.func97 rfl (by kernel_rfl) Tryz.ntmps97 (by simp) _ rfl (fun hw gB hgB => ?_)
 have hl := ints_len hw.1
 by_cases hlen : a.length = b.length
 ·repeat' (first | refine sK ?_ | refine sC (fun _ => ?_) (fun _ => ?_) | fail)
  refine aw_loop (fun k : Nat => [(0, .pv (ints a)), (1, .pv (ints b)), (5, .pv (pi k))]) (fun _ => []) (fun k => k ≤ a.length ∧ a.take k = b.take k) (fun k => a.length - k) 0 ⟨by simp, by simp⟩ (tS) tH ?_
  rintro k ⟨hk, hno⟩
  by_cases hlt : k < a.length
  ·have he := ints_get hlt
   have hltb : k < b.length := by omega
   have he' := ints_get hltb
   repeat' (first | (refine shX ?_; first | refine qX he ?_ | refine qX he' ?_) | refine sK ?_ | refine sC (fun _ => ?_) (fun _ => ?_) | fail)
   ·rename_i h
    refine retq rfl ?_
    have : a ≠ b := by
     rintro rfl
     simp at h
    simp [retPV, this]
   ·rename_i h
    have e : a[k] = b[k] := by simpa using h
    exact ⟨k + 1, ⟨by omega, by rw [List.take_succ_eq_append_getElem hlt, List.take_succ_eq_append_getElem hltb, hno, e]⟩, tD, tS, tH⟩
  ·repeat' (first | refine sK ?_ | refine sC (fun _ => ?_) (fun _ => ?_) | fail)
   have e : a = b := by
    have h1 := hno
    rw [List.take_of_length_le (by omega), List.take_of_length_le (by omega)] at h1
    exact h1
   exact retq rfl (by simp [retPV, e])
 ·have hne : a ≠ b := by rintro rfl; exact hlen rfl
  have hb : ((((a.map pi).length : Nat) : Int) != (((b.map pi).length : Nat) : Int)) = true := by simp; omega
  repeat' (first | refine sK ?_ | refine sC (fun _ => ?_) (fun _ => ?_) | fail)
  exact retq rfl (by simp [retPV, hne])
def belowR (g : Img) (a b : Int) : Bool := decide (b ∈ up g a) || decide (b ∈ facesR g a)
set_option maxHeartbeats 1000000 in
theorem BelowR_call (g : Img) (a b : Int) (hF : Fm g) : ACall Tryz.prog 147 [imgPV g, pi a, pi b] (pb (belowR g a b)) := by
 refine acall_intro tbOK Tryz.func147 rfl (by kernel_rfl) Tryz.ntmps147 (by simp) _ rfl (fun hw gB hgB => ?_)
 have hn := hF.n
 repeat' (first | (refine shC ?_; first | refine ao_q rfl (q_call rfl rfl (UpR_call g a (by omega))) rfl rfl ?_ | refine AD.step _ _ _ _ _ rfl (q_call rfl rfl (UpR_call g a (by omega))) rfl rfl ?_ | refine qC (Has_call _ _) ?_ | refine ao_q rfl (q_call rfl rfl (FacesR_call g a (by omega) (fun td h => by have := (hF.faces td h).1; omega))) rfl rfl ?_ | refine AD.step _ _ _ _ _ rfl (q_call rfl rfl (FacesR_call g a (by omega) (fun td h => by have := (hF.faces td h).1; omega))) rfl rfl ?_) | refine sA ?_ | refine sC (fun _ => ?_) (fun _ => ?_) | fail)
 all_goals first | (refine retq rfl ?_; first | (simp only [retPV, belowR] at *; simp only [*, BL]; done) | (simp_all [retPV, belowR]; done) | (simp_all [retPV, belowR]; omega) | (simp_all [retPV, belowR]; intros; omega)) | (refine retn rfl ?_; first | (simp only [retPV, belowR, BL, List.length_map] at *; simp only [*, BL, List.length_map]; done) | (simp_all [retPV, belowR]; done) | (simp_all [retPV, belowR]; omega) | (simp_all [retPV, belowR]; intros; omega)) | skip
theorem belowR_eq {g : Img} (hF : Fm g) (a b : Int) : belowR g a b = belowP g a b := by
 rw [belowR, belowP]
 congr 1
 rw [Bool.eq_iff_iff, decide_eq_true_eq, decide_eq_true_eq, mem_facesR hF, mem_facesP hF]
theorem Wl.extk {g : Img} (hW : Wl g) {t : Int} {td : TD} (h : typeAt g t = some td) : td.ext = -1 ∨ kindG g td.ext = 0 := by
 have hh := hW.hang t td h
 simp only [hangsR, Bool.and_eq_true, extOk, Bool.or_eq_true, Bool.not_eq_true', decide_eq_false_iff_not, beq_iff_eq, decide_eq_true_eq] at hh
 obtain ⟨⟨h1, _⟩, _⟩ := hh
 have := hW.ext t td h
 rcases h1 with h1 | h1
 ·exact .inl (by omega)
 ·exact .inr h1.1.1
theorem Wl.up_kind {g : Img} (hW : Wl g) : ∀ (n : Nat) (t : Int), (up g t).length ≤ n → kindG g t = 0 → ∀ u ∈ up g t, kindG g u = 0
 | 0, t, hn, _, u, hu => by
  have : up g t = [] := List.eq_nil_of_length_eq_zero (by omega)
  rw [this] at hu; simp at hu
 | n + 1, t, hn, hk, u, hu => by
  obtain ⟨td, htd, _⟩ := kindG_some hk (by omega)
  rw [hW.up_cons htd] at hu hn
  rcases List.mem_cons.1 hu with rfl | hu
  ·exact hk
  ·rcases hW.extk htd with he | he
   ·rw [he, up_nil (by rw [typeAt, if_neg (by omega)])] at hu; simp at hu
   ·exact hW.up_kind n td.ext (by simp at hn; omega) he u hu
theorem Wl.tail_kind {g : Img} (hW : Wl g) {t : Int} {td : TD} (h : typeAt g t = some td) : ∀ u ∈ up g td.ext, kindG g u = 0 := fun u hu => by
 rcases hW.extk h with he | he
 ·rw [he, up_nil (by rw [typeAt, if_neg (by omega)])] at hu; simp at hu
 ·exact hW.up_kind _ _ (Nat.le_refl _) he u hu
theorem typeAt_none {g : Img} {x : Int} (h : typeAt g x = none) (h1 : -1 ≤ x) (h2 : x < g.types.length) : x = -1 := by
 rw [typeAt] at h
 split at h
 ·rw [List.getElem?_eq_none_iff] at h; omega
 ·omega
theorem Wl.top_ext {g : Img} (hW : Wl g) {t : Int} {td tl : TD} (ht : typeAt g t = some td) (hl : typeAt g ((up g t).getLastD 0) = some tl) : tl.ext = -1 := by
 have h1 := hW.top ht
 rw [extAt, hl] at h1
 have := hW.ext _ _ hl
 exact typeAt_none h1 this.1 this.2
theorem Wl.faces_ext {g : Img} (hW : Wl g) {t f : Int} {td : TD} (ht : typeAt g t = some td) (hf : f ∈ facesP g td.ext) : f ∈ facesP g t := by
 rw [mem_facesP hW.fm] at hf ⊢
 cases he : typeAt g td.ext with
 | none =>
  exfalso
  have hu := up_nil he
  have : ∀ x, ¬ RF g td.ext x := by
   intro x hx
   induction hx with
   | base x hx => rw [hu] at hx; simp at hx
   | step _ _ _ _ ih => exact ih
  exact this f hf
 | some te =>
  refine hf.up hW ?_
  rw [hW.up_cons ht, hW.up_cons he]; simp
theorem u8_rem {a : Int} (h0 : 0 ≤ a) (h1 : a ≤ 255) {n : Nat} (hn : n ≠ 0) : 0 ≤ (IntKind.i64.wrap a).tmod ((n : Nat) : Int) ∧ (IntKind.i64.wrap a).tmod ((n : Nat) : Int) < ((n : Nat) : Int) := by
 rw [wrap_in (by omega) (by omega)]
 have hp : (0 : Int) < ((n : Nat) : Int) := Int.natCast_pos.2 (by omega)
 exact ⟨Int.tmod_nonneg _ h0, Int.tmod_lt_of_pos _ hp⟩
end Go.Cg
namespace Go.Cg
open Go.Proofs
theorem PInv.fold {g : Img} {t : Int} : ∀ (l : List Int) {met : List Int}, PInv g t met → (∀ x ∈ l, 0 ≤ x ∧ x < g.types.length) → PInv g t (l.foldl addP met)
 | [], _, h, _ => h
 | f :: l, _, h, hl => PInv.fold l (h.add (hl f (by simp))) fun x hx => hl x (by simp [hx])
theorem metPGo_spec {g : Img} {t : Int} : ∀ (n i : Nat) (met : List Int), PInv g t met → i ≤ met.length → g.fields.length + g.types.length + 1 ≤ n + i →
  (∀ j (_h : j < i) (h2 : j < met.length), ∀ y ∈ partsOf g met[j], y ∈ met) →
  (∀ x ∈ met, x ∈ metPGo g n i met) ∧ (∀ u ∈ metPGo g n i met, ∀ y ∈ partsOf g u, y ∈ metPGo g n i met) ∧ (∀ x ∈ metPGo g n i met, Rch (partsOf g) met x)
 | 0, i, met, hm, hi, hn, hc => by
  have := hm.len; omega
 | n + 1, i, met, hm, hi, hn, hc => by
  rw [metPGo]
  by_cases hlt : i < met.length
  ·rw [List.getElem?_eq_getElem hlt]
   simp only [partStep]
   have hm2 := PInv.fold (partsOf g met[i]) hm (fun x hx => partsOf_there hx)
   obtain ⟨r, hr⟩ := fold_pre (partsOf g met[i]) met
   have hl : met.length ≤ ((partsOf g met[i]).foldl addP met).length := by rw [hr]; simp
   obtain ⟨q1, q2, q3⟩ := metPGo_spec n (i + 1) ((partsOf g met[i]).foldl addP met) hm2 (by omega) (by omega) (by
    intro j hj hj2 y hy
    rw [mem_fold]
    have hjm : j < met.length := by omega
    have e : ((partsOf g met[i]).foldl addP met)[j] = met[j] := by simp only [hr]; rw [List.getElem_append_left hjm]
    rw [e] at hy
    by_cases hji : j = i
    ·subst hji; exact .inr hy
    ·exact .inl (hc j (by omega) hjm y hy))
   refine ⟨fun x hx => q1 x (mem_fold.2 (.inl hx)), q2, fun x hx => ?_⟩
   have := q3 x hx
   clear q1 q2 q3 hx
   induction this with
   | base x hx =>
    rcases mem_fold.1 hx with h | h
    ·exact .base x h
    ·exact .step _ x (.base _ (List.getElem_mem hlt)) h
   | step x y _ hy ih => exact .step x y ih hy
  ·rw [List.getElem?_eq_none (by omega)]
   simp only
   refine ⟨fun x hx => hx, fun u hu y hy => ?_, fun x hx => .base x hx⟩
   obtain ⟨j, hj, rfl⟩ := List.getElem_of_mem hu
   exact hc j (by omega) hj y hy
theorem mem_metP {g : Img} {t x : Int} : x ∈ metP g t ↔ Rch (partsOf g) (partsOf g t) x := by
 obtain ⟨q1, q2, q3⟩ := metPGo_spec (g := g) (t := t) (g.fields.length + g.types.length + 1) 0 (partsOf g t) ⟨[], by simp⟩ (by omega) (by omega) (fun j h => by omega)
 refine ⟨fun hx => q3 x hx, fun hx => ?_⟩
 induction hx with
 | base x hx => exact q1 x hx
 | step x y _ hy ih => exact q2 x ih y hy
theorem mem_reachParts {g : Img} {t x : Int} : x ∈ sortL (reachL g.types.length (partsOf g) (partsOf g t)) ↔ x ∈ metP g t := by
 rw [sortL_mem, mem_metP]
 exact (reachL_spec (N := g.types.length) (fun x _ _ y hy => partsOf_there hy) (fun x hx => partsOf_there hx)).1 x
theorem andB_fin : ∀ n : Fin 32, andB (n.val : Int) 1 = bitF (n.val : Int) 1 ∧ andB (n.val : Int) 4 = bitF (n.val : Int) 4 ∧ andB (n.val : Int) 8 = bitF (n.val : Int) 8 ∧ andB (n.val : Int) 16 = bitF (n.val : Int) 16 := by decide +kernel
theorem andB_eq {f : Int} (h0 : 0 ≤ f) (h1 : f ≤ 31) : andB f 1 = bitF f 1 ∧ andB f 4 = bitF f 4 ∧ andB f 8 = bitF f 8 ∧ andB f 16 = bitF f 16 := by
 have := andB_fin ⟨f.toNat, by omega⟩
 simpa only [Int.toNat_of_nonneg h0] using this
theorem flagged_eq {td : TD} (h0 : 0 ≤ td.flags) (h1 : td.flags ≤ 31) : flaggedP td = flaggedR td := by
 obtain ⟨e1, e2, e3, e4⟩ := andB_eq h0 h1
 rw [flaggedP, flaggedR, kindT_eq h0 h1, e1, e2, e3, e4]
 generalize bitF td.flags 1 = b1
 generalize bitF td.flags 4 = b2
 generalize bitF td.flags 8 = b3
 generalize bitF td.flags 16 = b4
 generalize (td.ext == -1) = b5
 generalize ((td.faces.length : Int) == 0) = b6
 repeat' split
 all_goals (try rfl)
 all_goals (cases b1 <;> cases b2 <;> cases b3 <;> cases b4 <;> cases b5 <;> cases b6 <;> rfl)
theorem formed_at {g : Img} (hf : formedG g = true) {t : Int} {td : TD} (h : typeAt g t = some td) : 0 ≤ td.flags ∧ td.flags ≤ 31 ∧ -1 ≤ td.ext ∧ td.ext < g.types.length ∧ td.faces.length ≤ 4 ∧ ∀ f ∈ td.faces, 0 ≤ f ∧ f < g.types.length :=
 formedT_facts ((formedG_bounds hf).2.2.2 td (typeAt_mem h))
theorem flagsAt_in {g : Img} (hf : formedG g = true) (t : Int) : 0 ≤ flagsAt g t ∧ flagsAt g t ≤ 31 := by
 unfold flagsAt
 cases h : typeAt g t with
 | none => simp
 | some td => obtain ⟨h0, h1, _⟩ := formed_at hf h; exact ⟨h0, h1⟩
theorem topExt_in {g : Img} (hf : formedG g = true) (t : Int) : -1 ≤ topExt g t := by
 unfold topExt
 cases h : typeAt g ((up g t).getLastD 0) with
 | none => simp
 | some td => obtain ⟨_, _, h1, _⟩ := formed_at hf h; exact h1
theorem extP_eq {g : Img} (hf : formedG g = true) {t : Int} {td : TD} (h : typeAt g t = some td) : extP g t td = extOk g t td := by
 obtain ⟨_, _, h1, _⟩ := formed_at hf h
 obtain ⟨f0, f1⟩ := flagsAt_in hf td.ext
 have ht := topExt_in hf t
 rw [extP, extOk, kindP_eq hf, (andB_eq f0 f1).2.2.1]
 have e1 : (td.ext == -1) = !decide (0 ≤ td.ext) := by rw [Bool.eq_iff_iff]; simp; omega
 have e2 : (topExt g t == -1) = decide (topExt g t < 0) := by rw [Bool.eq_iff_iff]; simp; omega
 rw [e1, e2]
def facedP (g : Img) (t : Int) (td : TD) : Bool := (List.range td.faces.length).all (faceOkR g td.faces) && (kindG g t != 2 || !decide (t ∈ sortL (reachL g.types.length (facesAt g) td.faces)))
theorem up_one {g : Img} {t : Int} {td : TD} (h : typeAt g t = some td) (he : td.ext = -1) : up g t = [t] := by
 have hx : typeAt g (-1) = none := by rw [typeAt, if_neg (by omega)]
 rw [up, upGo, h]
 simp only [List.not_mem_nil, if_false, List.nil_append]
 cases hn : g.types.length with
 | zero => rfl
 | succ n => rw [upGo, he, hx]
theorem facesAt_some {g : Img} {t : Int} {td : TD} (h : typeAt g t = some td) : facesAt g t = td.faces := by rw [facesAt, h]
theorem kind2_ext {g : Img} {t : Int} {td : TD} (h : typeAt g t = some td) (hfl : flaggedR td = true) (hk : kindG g t = 2) : td.ext = -1 := by
 rw [kindG, h] at hk
 simp only at hk
 rw [flaggedR, hk] at hfl
 simp at hfl
 exact hfl.1.1.1.1
theorem tree7_eq {g : Img} (hf : formedG g = true) {t : Int} {td : TD} (h : typeAt g t = some td) : (flaggedP td && extP g t td && facedP g t td) = (flaggedR td && hangsR g t td) := by
 obtain ⟨h0, h1, _⟩ := formed_at hf h
 rw [flagged_eq h0 h1, extP_eq hf h, facedP, hangsR]
 cases hfl : flaggedR td
 ·rfl
 ·have e : (kindG g t != 2 || !decide (t ∈ sortL (reachL g.types.length (facesAt g) td.faces))) = (kindG g t != 2 || !decide (t ∈ facesR g t)) := by
   by_cases hk : kindG g t = 2
   ·have hx := kind2_ext h hfl hk
    have hF := fm_of hf
    have : t ∈ sortL (reachL g.types.length (facesAt g) td.faces) ↔ t ∈ facesR g t := by
     rw [sortL_mem, mem_facesR hF, RF, up_one h hx]
     simp only [List.flatMap_cons, List.flatMap_nil, List.append_nil]
     rw [facesAt_some h]
     exact (reachL_spec (N := g.types.length) (fun x _ _ y hy => (hF.at x).2 y hy) (fun x hx => by have := (hF.at t).2 x; rw [facesAt_some h] at this; exact this hx)).1 t
    rw [decide_eq_decide.2 this]
   ·have : (kindG g t != 2) = true := by simp [hk]
    rw [this]; rfl
  rw [e]; simp only [Bool.and_assoc, Bool.true_and]
def twiceL (l : List Int) (p : Int → Int → Bool) : Bool := (List.range l.length).any fun i => (l.take i).any (p (l.getD i 0))
theorem twice_eq {l : List Int} {p : Int → Int → Bool} : (!twiceL l p) = (List.range l.length).all fun i => (List.range i).all fun k => !p (l.getD i 0) (l.getD k 0) := by
 rw [Bool.eq_iff_iff]
 simp only [twiceL, Bool.not_eq_true', List.any_eq_false, List.all_eq_true, List.mem_range, Bool.not_eq_true]
 constructor
 ·intro h i hi k hk
  refine h i hi _ ?_
  rw [List.getD_eq_getElem?_getD, List.getElem?_eq_getElem (show k < l.length by omega)]
  exact List.mem_take_iff_getElem.2 ⟨k, by omega, rfl⟩
 ·intro h i hi x hx
  obtain ⟨k, hk, rfl⟩ := List.mem_take_iff_getElem.1 hx
  have := h i hi k (by omega)
  rwa [getD_get (show k < l.length by omega)] at this
def fAlike (g : Img) (a b : Int) : Bool := (fName g a).toList == (fName g b).toList
def mAt (g : Img) (a : Int) : Me := g.methods.getD a.toNat default
def mAlikeP (x y : Me) : Bool := x.name.toList == y.name.toList && decide (x.ret = y.ret) && IntKind.i64.wrap ((BitVec.ofInt IntKind.i64.bits (IntKind.i64.wrap ((BitVec.ofInt IntKind.i64.bits x.flags ^^^ BitVec.ofInt IntKind.i64.bits y.flags).toNat : Int)) &&& BitVec.ofInt IntKind.i64.bits 1).toNat : Int) == 0 && decide (x.params = y.params)
def namedP (g : Img) (t : Int) (td : TD) : Bool := (List.range g.types.length).all (nameOther g t td) && !twiceL (fieldsOf g t) (fAlike g) && !twiceL (methodsOf g t) (fun a b => mAlikeP (mAt g a) (mAt g b))
theorem xor_fin : ∀ a b : Fin 32, (IntKind.i64.wrap ((BitVec.ofInt IntKind.i64.bits (IntKind.i64.wrap ((BitVec.ofInt IntKind.i64.bits (a.val : Int) ^^^ BitVec.ofInt IntKind.i64.bits (b.val : Int)).toNat : Int)) &&& BitVec.ofInt IntKind.i64.bits 1).toNat : Int) == 0) = ((a.val : Int).tmod 2 == (b.val : Int).tmod 2) := by decide +kernel
theorem mAlike_eq {x y : Me} (hx0 : 0 ≤ x.flags) (hx1 : x.flags ≤ 31) (hy0 : 0 ≤ y.flags) (hy1 : y.flags ≤ 31) : mAlikeP x y = (x.name.toList == y.name.toList && sameSig x y) := by
 have := xor_fin ⟨x.flags.toNat, by omega⟩ ⟨y.flags.toNat, by omega⟩
 simp only [Int.toNat_of_nonneg hx0, Int.toNat_of_nonneg hy0] at this
 rw [mAlikeP, sameSig, this]
 simp only [Bool.and_assoc]
theorem formed_me {g : Img} (hf : formedG g = true) {a : Nat} (h : a < g.methods.length) : formedM g (g.methods.getD a default) = true := by
 simp only [formedG, Bool.and_eq_true, List.all_eq_true] at hf
 have := hf.2 a (by simpa using h)
 rw [mthOk] at this
 simp only [Bool.and_eq_true] at this
 exact this.2
theorem formedM_flags {g : Img} {m : Me} (h : formedM g m = true) : 0 ≤ m.flags ∧ m.flags ≤ 31 := by
 simp only [formedM, Bool.and_eq_true, decide_eq_true_eq] at h
 omega
theorem named_eq {g : Img} (hf : formedG g = true) (t : Int) (td : TD) : namedP g t td = namedR g t td := by
 rw [namedP, namedR, twice_eq, twice_eq]
 congr 1
 rw [Bool.eq_iff_iff]
 simp only [List.all_eq_true, List.mem_range, methodPair]
 have key : ∀ i, i < (methodsOf g t).length → ∀ k, k < i → mAlikeP (mAt g ((methodsOf g t).getD i 0)) (mAt g ((methodsOf g t).getD k 0)) = ((g.methods.getD ((methodsOf g t).getD i 0).toNat default).name.toList == (g.methods.getD ((methodsOf g t).getD k 0).toNat default).name.toList && sameSig (g.methods.getD ((methodsOf g t).getD i 0).toNat default) (g.methods.getD ((methodsOf g t).getD k 0).toNat default)) := by
  intro i hi k hk
  have hk' : k < (methodsOf g t).length := by omega
  rw [getD_get hi, getD_get hk']
  obtain ⟨_, a1⟩ := methodsOf_mem (List.getElem_mem hi)
  obtain ⟨_, a2⟩ := methodsOf_mem (List.getElem_mem hk')
  obtain ⟨b1, b2⟩ := formedM_flags (formed_me hf a1)
  obtain ⟨b3, b4⟩ := formedM_flags (formed_me hf a2)
  exact mAlike_eq b1 b2 b3 b4
 constructor
 ·intro h i hi k hk
  rw [← key i hi k hk]; exact h i hi k hk
 ·intro h i hi k hk
  rw [key i hi k hk]; exact h i hi k hk
def sizedP (g : Img) (t : Int) : Bool := (fieldsOf g t).all (sizeOk g (kindG g t)) && (kindG g t != 1 || !decide (t ∈ sortL (reachL g.types.length (partsOf g) (partsOf g t))))
theorem sized_eq (g : Img) (t : Int) : sizedP g t = sizedR g t := by
 rw [sizedP, sizedR, decide_eq_decide.2 mem_reachParts]
theorem well_at {g : Img} (h : wellR g = true) {k : Nat} (hk : k < g.types.length) : checkAt g k = 0 := by
 have hf := well_formed h
 cases hx : (List.range g.types.length).find? (fun t => checkAt g t != 0) with
 | none =>
  have := List.find?_eq_none.1 hx k (by simpa using hk)
  simpa using this
 | some t =>
  have h2 := List.find?_some hx
  rw [wellR, checkR, hf] at h
  simp [hx] at h
  simp [h] at h2
theorem checkAt_parts {g : Img} (hf : formedG g = true) {k : Nat} (hk : k < g.types.length) :
  checkAt g k = if !(flaggedP g.types[k] && extP g k g.types[k] && facedP g k g.types[k]) then 7 else if !namedP g k g.types[k] then 18 else if !sizedP g k then 20 else 0 := by
 rw [checkAt_eq hk, tree7_eq hf (typeAt_nat hk), named_eq hf, sized_eq]
 cases flaggedR g.types[k] <;> cases hangsR g k g.types[k] <;> rfl
end Go.Cg
namespace Go.Cg
open Go.Proofs
def whole (t : Ty) : Bool := t.kind != 6 || t.ref || decide (0 < t.dims)
def ownF (g : Img) (t : Int) : List Fd := g.fields.filter fun f => f.owner == t && !f.static
def intTy : Ty := ⟨2, 0, 0, false⟩
def cellsF (g : Img) : Nat → Ty → List Ty
 | 0, _ => []
 | n + 1, t => if t.kind == 1 then [] else if whole t then [t] else
   if ((ownF g t.index).flatMap fun f => cellsF g n f.ty).length = 0 then [intTy] else (ownF g t.index).flatMap fun f => cellsF g n f.ty
def Dp (g : Img) : Nat → Ty → Prop
 | 0, t => whole t = true
 | n + 1, t => whole t = true ∨ ∀ f ∈ ownF g t.index, Dp g n f.ty
theorem Dp.whole {g : Img} {t : Ty} (h : Cg.whole t = true) : ∀ n, Dp g n t
 | 0 => h
 | _ + 1 => .inl h
theorem flatMap_congr' {α β : Type} {l : List α} {f h : α → List β} (hh : ∀ x ∈ l, f x = h x) : l.flatMap f = l.flatMap h := by
 induction l with
 | nil => rfl
 | cons x l ih => rw [List.flatMap_cons, List.flatMap_cons, hh x (by simp), ih (fun y hy => hh y (by simp [hy]))]
theorem cellsF_mono {g : Img} : ∀ (n : Nat) (t : Ty), Dp g n t → ∀ m, n < m → cellsF g m t = cellsF g (n + 1) t
 | 0, t, h, m, hm => by
  obtain ⟨k, rfl⟩ : ∃ k, m = k + 1 := ⟨m - 1, by omega⟩
  have hwt : whole t = true := h
  rw [cellsF, cellsF, hwt]; rfl
 | n + 1, t, h, m, hm => by
  obtain ⟨k, rfl⟩ : ∃ k, m = k + 1 := ⟨m - 1, by omega⟩
  rw [cellsF, cellsF]
  rcases h with h | h
  ·rw [h]; rfl
  ·rw [flatMap_congr' (fun f hf => cellsF_mono n f.ty (h f hf) k (by omega))]
def cellsT (g : Img) (t : Ty) : List Ty := cellsF g (g.types.length + 2) t
def fcs (g : Img) (l : List Fd) : List Ty := l.flatMap fun f => cellsT g f.ty
theorem fcs_cons (g : Img) (f : Fd) (l : List Fd) : fcs g (f :: l) = cellsT g f.ty ++ fcs g l := rfl
theorem fcs_append (g : Img) (l m : List Fd) : fcs g (l ++ m) = fcs g l ++ fcs g m := by simp [fcs]
def usedR (g : Img) (t : Ty) : Bool :=
 plainT t && (if t.kind == 5 then kindG g t.index == 0 || kindG g t.index == 2 || kindG g t.index == 3 else t.kind != 6 || kindG g t.index == 1)
def allUsed (g : Img) : Bool := (List.range g.fields.length).all fun i => usedR g (g.fields.getD i default).ty
theorem used_value {g : Img} {t : Ty} (h : usedR g t = true) (hw : whole t = false) : t.kind = 6 ∧ t.ref = false ∧ t.dims = 0 ∧ kindG g t.index = 1 := by
 simp only [whole, Bool.or_eq_false_iff, bne_eq_false_iff_eq, decide_eq_false_iff_not] at hw
 obtain ⟨⟨h1, h2⟩, h3⟩ := hw
 rw [usedR, Bool.and_eq_true] at h
 obtain ⟨hp, hk⟩ := h
 have hd : 0 ≤ t.dims := by
  unfold plainT at hp
  split at hp
  ·cases hp
  ·rename_i hc; simp only [Bool.or_eq_true, decide_eq_true_eq, not_or] at hc; omega
 have hk' : kindG g t.index = 1 := by simpa [h1] using hk
 exact ⟨h1, h2, by omega, hk'⟩
theorem allUsed_at {g : Img} (h : allUsed g = true) {f : Fd} (hf : f ∈ g.fields) : usedR g f.ty = true := by
 obtain ⟨k, hk, rfl⟩ := List.getElem_of_mem hf
 have := List.all_eq_true.1 h k (by simpa using hk)
 rwa [getD_get hk] at this
theorem formed_fd {g : Img} (hf : formedG g = true) {f : Fd} (h : f ∈ g.fields) : 0 ≤ f.owner ∧ f.owner < g.types.length ∧ mayT f.ty 1 g.types.length = true := by
 obtain ⟨k, hk, rfl⟩ := List.getElem_of_mem h
 simp only [formedG, Bool.and_eq_true, List.all_eq_true] at hf
 have := hf.1.2 k (by simpa using hk)
 rw [fldOk_at hk] at this
 simp only [Bool.and_eq_true, decide_eq_true_eq] at this
 exact ⟨this.1.1.1.2, this.1.1.2, this.2⟩
theorem typeAt_there {g : Img} {t : Int} (h : 0 ≤ t ∧ t < g.types.length) : there g t = true := there_of h
theorem part_of {g : Img} (hf : formedG g = true) {u : Int} {f : Fd} (h : f ∈ ownF g u) (hu : usedR g f.ty = true) (hw : whole f.ty = false) : f.ty.index ∈ partsOf g u := by
 obtain ⟨h1, _, h3, h4⟩ := used_value hu hw
 obtain ⟨hm, hc⟩ := List.mem_filter.1 h
 simp only [Bool.and_eq_true, beq_iff_eq, Bool.not_eq_true'] at hc
 obtain ⟨ho, hs⟩ := hc
 obtain ⟨o0, o1, _⟩ := formed_fd hf hm
 obtain ⟨k, hk, rfl⟩ := List.getElem_of_mem hm
 have hgk : g.fields.getD ((k : Int)).toNat default = g.fields[k] := by rw [Int.toNat_natCast, getD_get hk]
 rw [partsOf, List.mem_map]
 refine ⟨(k : Int), List.mem_filter.2 ⟨List.mem_filter.2 ⟨mem_nums.2 ⟨by omega, by omega⟩, ?_⟩, ?_⟩, by rw [hgk]⟩
 ·rw [hgk, there_of (by omega), ho]; simp
 ·rw [partOk, hgk]; simp [h1, hs, h3, h4]
theorem rch_kind {g : Img} {p u : Int} (h : Rch (partsOf g) (partsOf g p) u) : kindG g u = 1 := by
 have key : ∀ q, u ∈ partsOf g q → kindG g u = 1 := by
  intro q hq
  simp only [partsOf, List.mem_map, List.mem_filter, partOk, Bool.and_eq_true, beq_iff_eq] at hq
  obtain ⟨i, ⟨_, _, hk⟩, rfl⟩ := hq
  exact hk
 cases h with
 | base _ hx => exact key _ hx
 | step x _ _ hy => exact key _ hy
theorem dp_path {g : Img} (hf : formedG g = true) (hu : allUsed g = true) (hz : ∀ u : Int, kindG g u = 1 → u ∉ metP g u) : ∀ (n : Nat) (path : List Int) (t : Ty), path.Nodup → (∀ p ∈ path, 0 ≤ p ∧ p < g.types.length) → g.types.length + 1 ≤ path.length + n →
  (∀ p ∈ path, Rch (partsOf g) (partsOf g p) t.index) → Dp g n t
 | 0, path, t, h1, h2, h3, h4 => by have := nodup_le _ _ h1 h2; omega
 | n + 1, path, t, h1, h2, h3, h4 => by
  cases hw : whole t
  ·refine .inr fun f hfo => ?_
   cases hwf : whole f.ty
   ·have hm := (List.mem_filter.1 hfo).1
    have hc := (List.mem_filter.1 hfo).2
    simp only [Bool.and_eq_true, beq_iff_eq] at hc
    obtain ⟨o0, o1, _⟩ := formed_fd hf hm
    have hp := part_of hf hfo (allUsed_at hu hm) hwf
    have hni : t.index ∉ path := fun hin => by
     have hr := h4 _ hin
     exact hz _ (rch_kind hr) (mem_metP.2 hr)
    refine dp_path hf hu hz n (t.index :: path) f.ty (List.nodup_cons.2 ⟨hni, h1⟩) ?_ (by simp; omega) ?_
    ·intro p hp'
     rcases List.mem_cons.1 hp' with rfl | hp'
     ·omega
     ·exact h2 p hp'
    ·intro p hp'
     rcases List.mem_cons.1 hp' with rfl | hp'
     ·exact .base _ hp
     ·exact .step _ _ (h4 p hp') hp
   ·exact Dp.whole hwf n
  ·exact .inl hw
theorem well_sized {g : Img} (h : wellR g = true) {u : Int} (hk : kindG g u = 1) : u ∉ metP g u := by
 have hf := well_formed h
 obtain ⟨td, htd, _⟩ := kindG_some hk (by omega)
 have hlt := typeAt_lt htd
 have hck := well_at h (k := u.toNat) (by omega)
 rw [checkAt_eq (by omega)] at hck
 have e : ((u.toNat : Nat) : Int) = u := Int.toNat_of_nonneg hlt.1
 rw [e] at hck
 have hs : sizedR g u = true := by
  cases hs : sizedR g u
  ·rw [hs] at hck
   split at hck
   ·cases hck
   ·split at hck
    ·cases hck
    ·simp at hck
  ·rfl
 rw [sizedR, hk, Bool.and_eq_true] at hs
 simpa using hs.2
theorem dp_all {g : Img} (h : wellR g = true) (hu : allUsed g = true) (t : Ty) : Dp g (g.types.length + 1) t :=
 dp_path (well_formed h) hu (fun _ hk => well_sized h hk) _ [] t (by simp) (by simp) (by simp) (by simp)
theorem cellsT_eq {g : Img} (h : wellR g = true) (hu : allUsed g = true) (t : Ty) : cellsT g t = if t.kind == 1 then [] else if whole t then [t] else if (fcs g (ownF g t.index)).length = 0 then [intTy] else fcs g (ownF g t.index) := by
 have hd := dp_all h hu t
 rcases hd with hd | hd
 ·rw [cellsT, cellsF, hd]; rfl
 ·have e : ((ownF g t.index).flatMap fun f => cellsF g (g.types.length + 1) f.ty) = fcs g (ownF g t.index) := flatMap_congr' (fun f hf => (cellsF_mono _ _ (hd f hf) _ (by omega)).symm)
  rw [cellsT, cellsF, e]
end Go.Cg
namespace Go.Cg
open Go.Proofs
def Cnt (b r s : Nat) : Prop := min r (b + 1) = min s (b + 1)
theorem Cnt.zero (b : Nat) : Cnt b 0 0 := rfl
theorem Cnt.add {b r s l : Nat} (h : Cnt b r s) (hr : r ≤ b) : Cnt b (r + min l (b + 1)) (s + l) := by unfold Cnt at h ⊢; omega
theorem Cnt.stay {b r s l : Nat} (h : Cnt b r s) (hr : b < r) : Cnt b r (s + l) := by unfold Cnt at h ⊢; omega
theorem Cnt.more {b r s : Nat} (h : Cnt b r s) : b < r ↔ b < s := by unfold Cnt at h; omega
def cntT (g : Img) (b : Nat) (t : Ty) : Nat := min (cellsT g t).length (b + 1)
theorem fcs_len_cons (g : Img) (f : Fd) (l : List Fd) : (fcs g (f :: l)).length = (cellsT g f.ty).length + (fcs g l).length := by rw [fcs_cons, List.length_append]
theorem fcs_len_append (g : Img) (l m : List Fd) : (fcs g (l ++ m)).length = (fcs g l).length + (fcs g m).length := by rw [fcs_append, List.length_append]
def objT (g : Img) (t : Int) : List Ty := (up g t).reverse.flatMap fun u => fcs g (ownF g u)
theorem sum_flat (g : Img) : ∀ l : List Int, (l.flatMap fun u => fcs g (ownF g u)).length = (l.map fun u => (fcs g (ownF g u)).length).sum
 | [] => rfl
 | x :: l => by rw [List.flatMap_cons, List.length_append, sum_flat g l]; rfl
theorem sum_rev (l : List Nat) : l.reverse.sum = l.sum := by
 induction l with
 | nil => rfl
 | cons x l ih => rw [List.reverse_cons, List.sum_append, ih]; simp; omega
theorem objT_len (g : Img) (t : Int) : (objT g t).length = ((up g t).map fun u => (fcs g (ownF g u)).length).sum := by
 rw [objT, sum_flat, List.map_reverse, sum_rev]
def objF (g : Img) (t : Int) : List Fd := g.fields.filter fun f => decide (f.owner ∈ up g t) && !f.static
theorem sum_filter (g : Img) : ∀ (fs : List Fd) (us : List Int), us.Nodup → (us.map fun u => (fcs g (fs.filter fun f => f.owner == u && !f.static)).length).sum = (fcs g (fs.filter fun f => decide (f.owner ∈ us) && !f.static)).length
 | [], us, _ => by
  simp only [List.filter_nil]
  induction us with
  | nil => rfl
  | cons u us ih => simp_all [fcs]
 | f :: fs, us, hn => by
  have ih := sum_filter g fs us hn
  have key : ∀ us : List Int, us.Nodup → (us.map fun u => (fcs g ((f :: fs).filter fun f => f.owner == u && !f.static)).length).sum
    = (us.map fun u => (fcs g (fs.filter fun f => f.owner == u && !f.static)).length).sum + (if decide (f.owner ∈ us) && !f.static then (cellsT g f.ty).length else 0) := by
   intro us hn
   induction us with
   | nil => simp
   | cons u us ih2 =>
    have hn' := List.nodup_cons.1 hn
    rw [List.map_cons, List.sum_cons, ih2 hn'.2, List.map_cons, List.sum_cons, List.filter_cons]
    cases hs : f.static
    ·by_cases hu : f.owner = u
     ·subst hu
      have : decide (f.owner ∈ us) = false := by simp [hn'.1]
      simp only [beq_self_eq_true, Bool.not_false, Bool.and_true, if_true, this, List.mem_cons_self, decide_true, Bool.false_eq_true, if_false]
      rw [fcs_len_cons]; omega
     ·have h1 : (f.owner == u) = false := by simp [hu]
      have h2 : decide (f.owner ∈ u :: us) = decide (f.owner ∈ us) := by simp [hu]
      simp only [h1, h2, Bool.false_and, Bool.false_eq_true, if_false]
      omega
    ·simp
  rw [key us hn, ih, List.filter_cons]
  cases hc : (decide (f.owner ∈ us) && !f.static)
  ·simp
  ·simp only [if_true]; rw [fcs_len_cons]; omega
theorem objF_len (g : Img) (t : Int) : (fcs g (objF g t)).length = (objT g t).length := by
 rw [objT_len, objF, ← sum_filter g g.fields (up g t) (up_inv g t).1]; rfl
def sizeBad (g : Img) (t : Nat) : Bool := (kindG g t == 1 && decide (8 < (cellsT g ⟨6, t, 0, false⟩).length)) || (kindG g t == 0 && decide (32 < (objT g t).length))
def check12 (g : Img) : Int × Int :=
 if !wellR g then (0, 17) else match (List.range g.fields.length).find? (fun i => !usedR g (g.fields.getD i default).ty) with
  | some i => (((i : Nat) : Int), 10)
  | none => match (List.range g.types.length).find? (sizeBad g) with
   | some t => (((t : Nat) : Int), 20)
   | none => (0, 0)
def fineR (g : Img) : Bool := (check12 g).2 == 0
theorem check12_used {g : Img} {k : Nat} (hw : wellR g = true) (hk : k < g.fields.length) (hno : ∀ j, j < k → usedR g (g.fields.getD j default).ty = true) (h : usedR g (g.fields.getD k default).ty = false) : check12 g = (((k : Nat) : Int), 10) := by
 have : (List.range g.fields.length).find? (fun i => !usedR g (g.fields.getD i default).ty) = some k := by
  rw [List.find?_range_eq_some]
  exact ⟨by simpa using h, by simpa using hk, fun j hj => by simp only [hno j hj, Bool.not_true, Bool.not_false]⟩
 rw [check12, hw]; simp only [Bool.not_true, Bool.false_eq_true, if_false]; rw [this]
theorem find_no {n : Nat} {p : Nat → Bool} (h : ∀ j, j < n → p j = false) : (List.range n).find? p = none := by
 rw [List.find?_eq_none]
 intro j hj
 simp [h j (List.mem_range.1 hj)]
theorem check12_size {g : Img} {k : Nat} (hw : wellR g = true) (hu : allUsed g = true) (hk : k < g.types.length) (hno : ∀ j, j < k → sizeBad g j = false) (h : sizeBad g k = true) : check12 g = (((k : Nat) : Int), 20) := by
 have h1 : (List.range g.fields.length).find? (fun i => !usedR g (g.fields.getD i default).ty) = none := find_no fun j hj => by
  have := List.all_eq_true.1 hu j (by simpa using hj); simp only [this]; rfl
 have h2 : (List.range g.types.length).find? (sizeBad g) = some k := by
  rw [List.find?_range_eq_some]
  exact ⟨h, by simpa using hk, fun j hj => by simp only [hno j hj, Bool.not_false]⟩
 rw [check12, hw]; simp only [Bool.not_true, Bool.false_eq_true, if_false]; rw [h1]; simp only; rw [h2]
theorem check12_no {g : Img} (hw : wellR g = true) (hu : allUsed g = true) (hno : ∀ j, j < g.types.length → sizeBad g j = false) : check12 g = (0, 0) := by
 have h1 : (List.range g.fields.length).find? (fun i => !usedR g (g.fields.getD i default).ty) = none := find_no fun j hj => by
  have := List.all_eq_true.1 hu j (by simpa using hj); simp only [this]; rfl
 rw [check12, hw]; simp only [Bool.not_true, Bool.false_eq_true, if_false]; rw [h1]; simp only; rw [find_no hno]
structure Fine (g : Img) : Prop where
 well : wellR g = true
 used : allUsed g = true
 size : ∀ j, j < g.types.length → sizeBad g j = false
theorem fine_of {g : Img} (h : fineR g = true) : Fine g := by
 rw [fineR, check12] at h
 cases hw : wellR g
 ·simp [hw] at h
 ·rw [hw] at h
  simp only [Bool.not_true, Bool.false_eq_true, if_false] at h
  cases h1 : (List.range g.fields.length).find? (fun i => !usedR g (g.fields.getD i default).ty) with
  | some i => rw [h1] at h; simp at h
  | none =>
   rw [h1] at h
   cases h2 : (List.range g.types.length).find? (sizeBad g) with
   | some t => rw [h2] at h; simp at h
   | none =>
    refine ⟨hw, ?_, fun j hj => ?_⟩
    ·rw [allUsed, List.all_eq_true]
     intro i hi
     have := List.find?_eq_none.1 h1 i hi
     simpa using this
    ·have := List.find?_eq_none.1 h2 j (by simpa using hj)
     simpa using this
theorem Fine.formed {g : Img} (h : Fine g) : formedG g = true := well_formed h.well
theorem Fine.cells_le {g : Img} (h : Fine g) {t : Ty} (hk : t.kind = 6 → whole t = false → kindG g t.index = 1) : (cellsT g t).length ≤ 8 := by
 rw [cellsT_eq h.well h.used]
 split
 ·simp
 ·split
  ·simp
  ·rename_i h1 h2
   have hw : whole t = false := by simpa using h2
   have h6 : t.kind = 6 := by
    simp only [whole, Bool.or_eq_false_iff, bne_eq_false_iff_eq] at hw; exact hw.1.1
   have hk1 := hk h6 hw
   obtain ⟨td, htd, _⟩ := kindG_some hk1 (by omega)
   have hlt := typeAt_lt htd
   have hs := h.size t.index.toNat (by omega)
   have e : ((t.index.toNat : Nat) : Int) = t.index := Int.toNat_of_nonneg hlt.1
   rw [sizeBad, e, hk1] at hs
   have hs2 : ¬ 8 < (cellsT g ⟨6, t.index, 0, false⟩).length := fun h8 => by simp [h8] at hs
   have hw6 : whole ⟨6, t.index, 0, false⟩ = false := by simp [whole]
   rw [cellsT_eq h.well h.used, hw6] at hs2
   have h61 : ((6 : Int) == 1) = false := rfl
   rw [h61] at hs2
   simp only [Bool.false_eq_true, if_false] at hs2
   omega
theorem Fine.used_le {g : Img} (h : Fine g) {t : Ty} (hu : usedR g t = true) : (cellsT g t).length ≤ 8 := h.cells_le fun _ hw => (used_value hu hw).2.2.2
theorem Fine.field_le {g : Img} (h : Fine g) {f : Fd} (hf : f ∈ g.fields) : (cellsT g f.ty).length ≤ 8 := h.used_le (allUsed_at h.used hf)
theorem fcs_le {g : Img} (h : Fine g) : ∀ (l : List Fd), (∀ f ∈ l, f ∈ g.fields) → (fcs g l).length ≤ 8 * l.length
 | [], _ => by simp [fcs]
 | f :: l, hl => by
  rw [fcs_len_cons]
  have h1 := h.field_le (hl f (by simp))
  have h2 := fcs_le h l (fun x hx => hl x (by simp [hx]))
  simp; omega
end Go.Cg
namespace Go.Cg
open Go.Proofs
theorem KindPG_call (g : Img) (hf : formedG g = true) (t : Int) : ACall Tryz.prog 62 [imgPV g, pi t] (pi (kindG g t)) := by
 have := KindP_call g t; rwa [kindP_eq hf] at this
set_option maxHeartbeats 1000000 in
theorem FieldsP_call (g : Img) (t : Int) (hg : g.fields.length ≤ 1000) : ACall Tryz.prog 228 [imgPV g, pi t] (ints (fieldsOf g t)) := by
 refine acall_intro tbOK Tryz.func228 rfl (by kernel_rfl) Tryz.ntmps228 (by simp) _ rfl (fun hw gB hgB => ?_)
 repeat' (first | refine sA ?_ | refine sC (fun _ => ?_) (fun _ => ?_) | fail)
 refine aw_own_nil (t := 5) 0 3 1 (by decide) rfl rfl ?_
 refine aw_loop (fun x : Nat × List Int => [(1, .pv (pi t)), (2, .pv (.ptr (imgPV g) 0)), (5, .own 0), (9, .pv (.slc 7 (g.fields.map fdPV) false)), (10, .pv (pi g.fields.length)), (11, .pv (pi x.1))]) (fun x => [(0, .row 3 1 (x.2.map pi))])
  (fun x => x.1 ≤ g.fields.length ∧ x.2.length ≤ x.1 ∧ x.2 ++ ((nums g.fields.length).drop x.1).filter (fun i => there g t && (g.fields.getD i.toNat default).owner == t) = fieldsOf g t) (fun x => g.fields.length - x.1) (0, []) ⟨by simp, by simp, rfl⟩ (tS) ⟨hsub_cons rfl hsub_nil, rfl⟩ ?_
 rintro ⟨k, out⟩ ⟨hk, hol, hr⟩
 simp only at hk hol hr
 by_cases hlt : k < g.fields.length
 ·have he := map_get (f := fdPV) hlt
  rw [drop_cons (by simpa [nums] using hlt), List.filter_cons, nums_get, Int.toNat_natCast, getD_get hlt] at hr
  have c1 := there_call g t
  cases hth : there g t
  ·rw [hth] at c1
   repeat' (first | (refine shC ?_; first | refine qC c1 ?_) | (refine shX ?_; first | refine qX he ?_) | refine sK ?_ | refine sC (fun _ => ?_) (fun _ => ?_) | fail)
   exact ⟨(k + 1, out), ⟨by simp; omega, by simp; omega, by simpa [hth] using hr⟩, tD, tS, ⟨hsub_r rfl rfl hsub_nil, rfl⟩⟩
  ·rw [hth] at c1
   repeat' (first | (refine shC ?_; first | refine qC c1 ?_) | (refine shX ?_; first | refine qX he ?_) | (refine ao_sh_bi ?_; first | refine ao_append tbOK rfl rfl rfl rfl rfl rfl rfl (by show _ * 8 ≤ _; simp; omega) (by simp; omega) rfl rfl ?_) | refine sK ?_ | refine sC (fun _ => ?_) (fun _ => ?_) | fail)
   ·rename_i hx
    rw [hth, hx] at hr
    exact ⟨(k + 1, out ++ [(k : Int)]), ⟨by simp; omega, by simp; omega, by simpa [hth] using hr⟩, tD, tS, ⟨hsub_r rfl (by simp) hsub_nil, rfl⟩⟩
   ·rename_i hx
    rw [hth, hx] at hr
    exact ⟨(k + 1, out), ⟨by simp; omega, by simp; omega, by simpa [hth] using hr⟩, tD, tS, ⟨hsub_r rfl rfl hsub_nil, rfl⟩⟩
 ·rw [drop_end (by simp [nums]; omega)] at hr
  repeat' (first | refine sK ?_ | refine sC (fun _ => ?_) (fun _ => ?_) | fail)
  exact retq rfl (by rw [← hr]; simp [retPV, ints])
set_option maxHeartbeats 1000000 in
theorem MethodsP_call (g : Img) (t : Int) (hg : g.methods.length ≤ 1000) : ACall Tryz.prog 137 [imgPV g, pi t] (ints (methodsOf g t)) := by
 refine acall_intro tbOK Tryz.func137 rfl (by kernel_rfl) Tryz.ntmps137 (by simp) _ rfl (fun hw gB hgB => ?_)
 repeat' (first | refine sA ?_ | refine sC (fun _ => ?_) (fun _ => ?_) | fail)
 refine aw_own_nil (t := 5) 0 3 1 (by decide) rfl rfl ?_
 refine aw_loop (fun x : Nat × List Int => [(1, .pv (pi t)), (2, .pv (.ptr (imgPV g) 0)), (5, .own 0), (9, .pv (.slc 12 (g.methods.map mePV) false)), (10, .pv (pi g.methods.length)), (11, .pv (pi x.1))]) (fun x => [(0, .row 3 1 (x.2.map pi))])
  (fun x => x.1 ≤ g.methods.length ∧ x.2.length ≤ x.1 ∧ x.2 ++ ((nums g.methods.length).drop x.1).filter (fun i => there g t && (g.methods.getD i.toNat default).owner == t) = methodsOf g t) (fun x => g.methods.length - x.1) (0, []) ⟨by simp, by simp, rfl⟩ (tS) ⟨hsub_cons rfl hsub_nil, rfl⟩ ?_
 rintro ⟨k, out⟩ ⟨hk, hol, hr⟩
 simp only at hk hol hr
 by_cases hlt : k < g.methods.length
 ·have he := map_get (f := mePV) hlt
  rw [drop_cons (by simpa [nums] using hlt), List.filter_cons, nums_get, Int.toNat_natCast, getD_get hlt] at hr
  have c1 := there_call g t
  cases hth : there g t
  ·rw [hth] at c1
   repeat' (first | (refine shC ?_; first | refine qC c1 ?_) | (refine shX ?_; first | refine qX he ?_) | refine sK ?_ | refine sC (fun _ => ?_) (fun _ => ?_) | fail)
   exact ⟨(k + 1, out), ⟨by simp; omega, by simp; omega, by simpa [hth] using hr⟩, tD, tS, ⟨hsub_r rfl rfl hsub_nil, rfl⟩⟩
  ·rw [hth] at c1
   repeat' (first | (refine shC ?_; first | refine qC c1 ?_) | (refine shX ?_; first | refine qX he ?_) | (refine ao_sh_bi ?_; first | refine ao_append tbOK rfl rfl rfl rfl rfl rfl rfl (by show _ * 8 ≤ _; simp; omega) (by simp; omega) rfl rfl ?_) | refine sK ?_ | refine sC (fun _ => ?_) (fun _ => ?_) | fail)
   ·rename_i hx
    rw [hth, hx] at hr
    exact ⟨(k + 1, out ++ [(k : Int)]), ⟨by simp; omega, by simp; omega, by simpa [hth] using hr⟩, tD, tS, ⟨hsub_r rfl (by simp) hsub_nil, rfl⟩⟩
   ·rename_i hx
    rw [hth, hx] at hr
    exact ⟨(k + 1, out), ⟨by simp; omega, by simp; omega, by simpa [hth] using hr⟩, tD, tS, ⟨hsub_r rfl rfl hsub_nil, rfl⟩⟩
 ·rw [drop_end (by simp [nums]; omega)] at hr
  repeat' (first | refine sK ?_ | refine sC (fun _ => ?_) (fun _ => ?_) | fail)
  exact retq rfl (by rw [← hr]; simp [retPV, ints])
set_option maxHeartbeats 1000000 in
theorem PartsP_call (g : Img) (t : Int) (hf : formedG g = true) : ACall Tryz.prog 266 [imgPV g, pi t] (ints (partsOf g t)) := by
 refine acall_intro tbOK Tryz.func266 rfl (by kernel_rfl) Tryz.ntmps266 (by simp) _ rfl (fun hw gB hgB => ?_)
 have hg : g.fields.length ≤ 1000 := by have := (formedG_bounds hf).2.1; omega
 have hfl := fieldsOf_len g t
 repeat' (first | (refine shC ?_; first | refine qC (FieldsP_call g t hg) ?_) | refine sA ?_ | refine sC (fun _ => ?_) (fun _ => ?_) | fail)
 refine aw_own_nil (t := 5) 0 3 1 (by decide) rfl rfl ?_
 refine aw_loop (fun x : Nat × List Int => [(2, .pv (.ptr (imgPV g) 0)), (5, .own 0), (11, .pv (ints (fieldsOf g t))), (12, .pv (pi (fieldsOf g t).length)), (13, .pv (pi x.1))]) (fun x => [(0, .row 3 1 (x.2.map pi))])
  (fun x => x.1 ≤ (fieldsOf g t).length ∧ x.2.length ≤ x.1 ∧ x.2 ++ (((fieldsOf g t).drop x.1).filter (partOk g)).map (fun i => (g.fields.getD i.toNat default).ty.index) = partsOf g t) (fun x => (fieldsOf g t).length - x.1) (0, []) ⟨by simp, by simp, rfl⟩ (tS) ⟨hsub_cons rfl hsub_nil, rfl⟩ ?_
 rintro ⟨k, out⟩ ⟨hk, hol, hr⟩
 simp only at hk hol hr
 by_cases hlt : k < (fieldsOf g t).length
 ·have he := ints_get hlt
  obtain ⟨h0, hi⟩ := fieldsOf_mem (List.getElem_mem hlt)
  have hef := map_get' (f := fdPV) hi
  rw [drop_cons hlt, List.filter_cons, partOk] at hr
  simp only [getD_get hi] at hr
  repeat' (first | (refine shC ?_; first | refine qC (KindPG_call _ hf _) ?_) | (refine shX ?_; first | refine qX he ?_ | refine ao_q rfl (q_index tbOK rfl rfl rfl rfl rfl rfl h0 hef) rfl rfl ?_ | refine AD.step _ _ _ _ _ rfl (q_index tbOK rfl rfl rfl rfl rfl rfl h0 hef) rfl rfl ?_) | (refine ao_sh_bi ?_; first | refine ao_append tbOK rfl rfl rfl rfl rfl rfl rfl (by show _ * 8 ≤ _; simp; omega) (by simp; omega) rfl rfl ?_) | refine sK ?_ | refine sC (fun _ => ?_) (fun _ => ?_) | fail)
  ·rw [if_pos (by simp_all)] at hr
   exact ⟨(k + 1, out ++ [g.fields[(fieldsOf g t)[k].toNat].ty.index]), ⟨by simp; omega, by simp; omega, by rw [List.map_cons, getD_get hi] at hr; simpa using hr⟩, tD, tS, ⟨hsub_r rfl (by simp) hsub_nil, rfl⟩⟩
  all_goals
   rw [if_neg (by simp_all)] at hr
   exact ⟨(k + 1, out), ⟨by simp; omega, by simp; omega, by simpa using hr⟩, tD, tS, ⟨hsub_r rfl rfl hsub_nil, rfl⟩⟩
 ·rw [drop_end (by omega)] at hr
  repeat' (first | refine sK ?_ | refine sC (fun _ => ?_) (fun _ => ?_) | fail)
  exact retq rfl (by rw [← hr]; simp [retPV, ints])
end Go.Cg
namespace Go.Cg
open Go.RowKit
structure Bx where
 i : Nat
 ja : Nat
 js : Nat
 t' : Nat
 ta : Nat
 tx : Nat
 jx : Nat
 ty : TypeId
 z : Value
 za : AV
def shadowL (bs : List Bx) (m : Nat) (o : Oper) (j : Nat) : Oper :=
 match bs.find? (fun x => Nat.beq j x.ja) with
 | some _ => { o with op := .move (.tmp m) }
 | none => match bs.find? (fun x => Nat.beq j x.js) with
  | some x => { o with op := .move (.tmp m), dst := some x.t' }
  | none => o
def shadowLs (bs : List Bx) (m : Nat) : List Oper → Nat → List Oper
 | [], _ => []
 | o :: ops, j => shadowL bs m o j :: shadowLs bs m ops (j + 1)
theorem shadowLs_get (bs : List Bx) (m : Nat) : ∀ (ops : List Oper) (k j : Nat), (shadowLs bs m ops k)[j]? = (ops[j]?).map fun o => shadowL bs m o (k + j)
 | [], k, j => by simp [shadowLs]
 | o :: ops, k, j => by
  cases j with
  | zero => simp [shadowLs]
  | succ j => simp [shadowLs, shadowLs_get bs m ops (k + 1) j, Nat.add_assoc, Nat.add_comm 1 j]
theorem shadowLs_length (bs : List Bx) (m : Nat) : ∀ (ops : List Oper) (k : Nat), (shadowLs bs m ops k).length = ops.length
 | [], _ => rfl
 | o :: ops, k => by simp [shadowLs, shadowLs_length bs m ops (k + 1)]
theorem shadowL_after {bs : List Bx} {m : Nat} {o : Oper} {j : Nat} : (shadowL bs m o j).after = o.after := by
 unfold shadowL; split
 ·rfl
 ·split <;> rfl
theorem shadowL_guard {bs : List Bx} {m : Nat} {o : Oper} {j : Nat} : (shadowL bs m o j).guard = o.guard := by
 unfold shadowL; split
 ·rfl
 ·split <;> rfl
structure BxOk (tb : Tab) (n : Nat) (H : HEnv) (ops : List Oper) (bs : List Bx) (x : Bx) : Prop where
 a : ∃ oa, ops[x.ja]? = some oa ∧ oa.op = .alloc x.ty ∧ oa.dst = some x.ta ∧ oa.guard = none
 s : ∃ os, ops[x.js]? = some os ∧ os.op = .store x.ty (.tmp x.ta) (.tmp x.tx) ∧ os.dst = none ∧ os.guard = none ∧ hasEdge os x.ja = true ∧ hasEdge os x.jx = true
 ox : ∃ ox, (shadowLs bs n ops 0)[x.jx]? = some ox ∧ ox.dst = some x.tx
 ta : Nat.blt x.ta n = true
 t' : Nat.blt x.t' n = true
 z : tb.zero x.ty = some x.z
 za : zeroAV x.z = some x.za
 k : tb.known x.ty = true
 n : cellOk H x.za = true
 i : H.get x.i = none
 fa : bs.find? (fun y => Nat.beq x.ja y.ja) = some x
 fs : bs.find? (fun y => Nat.beq x.js y.ja) = none ∧ bs.find? (fun y => Nat.beq x.js y.js) = some x
def BxAll (tb : Tab) (n : Nat) (H : HEnv) (ops : List Oper) (bs : List Bx) : List Bx → Prop
 | [] => True
 | x :: xs => BxOk tb n H ops bs x ∧ BxAll tb n H ops bs xs
theorem BxAll.mem {tb : Tab} {n : Nat} {H : HEnv} {ops : List Oper} {bs : List Bx} : ∀ {l : List Bx}, BxAll tb n H ops bs l → ∀ x ∈ l, BxOk tb n H ops bs x
 | [], _, x, h => by simp at h
 | y :: l, h, x, hx => by
  rcases List.mem_cons.1 hx with rfl | hx
  ·exact h.1
  ·exact BxAll.mem h.2 x hx
def idsApart : List Bx → Bool
 | [] => true
 | x :: xs => xs.all (fun y => !Nat.beq x.i y.i) && idsApart xs
def noGuardL (bs : List Bx) (ops : List Oper) : Bool := ops.all fun o => match o.guard with | some (jj, _) => bs.all fun x => !Nat.beq jj x.js | none => true
def bxVals (tb : Tab) (H : HEnv) : List Bx → Env → Option (List AV)
 | [], _ => some []
 | x :: xs, env => match env.get x.tx with
  | some v => match storeA tb H x.ty x.za 0 v, bxVals tb H xs env with
   | some r, some rs => some (r :: rs)
   | _, _ => none
  | none => none
def bxEnv : List Bx → Env → Env
 | [], e => e
 | x :: xs, e => (x.ta, .box x.i 0) :: bxEnv xs e
def bxH : List Bx → List AV → HEnv → HEnv
 | x :: xs, r :: rs, H => (x.i, .cell r) :: bxH xs rs H
 | _, _, H => H
def bxHf (rf : Nat → AV) : List Bx → HEnv → HEnv
 | x :: xs, H => (x.i, .cell (rf x.i)) :: bxHf rf xs H
 | [], H => H
theorem bxHf_congr {rf rf' : Nat → AV} {H : HEnv} : ∀ {bs : List Bx}, (∀ x ∈ bs, rf x.i = rf' x.i) → bxHf rf bs H = bxHf rf' bs H
 | [], _ => rfl
 | x :: xs, h => by rw [bxHf, bxHf, h x (by simp), bxHf_congr fun y hy => h y (by simp [hy])]
theorem rf_of {tb : Tab} {H : HEnv} {env : Env} : ∀ {bs : List Bx} {rs : List AV}, idsApart bs = true → bxVals tb H bs env = some rs →
  ∃ rf : Nat → AV, (∀ x ∈ bs, ∃ v, env.get x.tx = some v ∧ storeA tb H x.ty x.za 0 v = some (rf x.i)) ∧ bxH bs rs H = bxHf rf bs H
 | [], rs, _, h => by
  simp [bxVals] at h; subst h
  exact ⟨fun _ => .any, by simp, rfl⟩
 | x :: xs, rs, hi, h => by
  simp only [idsApart, Bool.and_eq_true] at hi
  simp only [bxVals] at h
  split at h
  ·rename_i v hv
   split at h
   ·rename_i r rs' hr hrs
    simp only [Option.some.injEq] at h; subst h
    obtain ⟨rf, h1, h2⟩ := rf_of hi.2 hrs
    have hne : ∀ y ∈ xs, y.i ≠ x.i := by
     intro y hy e
     have := List.all_eq_true.1 hi.1 y hy
     rw [e, Nat.beq_refl] at this; cases this
    refine ⟨fun i => if i = x.i then r else rf i, fun y hy => ?_, ?_⟩
    ·rcases List.mem_cons.1 hy with rfl | hy
     ·exact ⟨v, hv, by simpa using hr⟩
     ·obtain ⟨v', e1, e2⟩ := h1 y hy
      exact ⟨v', e1, by simpa [hne y hy] using e2⟩
    ·rw [bxH, bxHf, h2]
     simp only [if_true]
     rw [bxHf_congr (rf' := fun i => if i = x.i then r else rf i) fun y hy => by simp [hne y hy]]
   ·cases h
  ·cases h
section
variable {P : Program} {tb : Tab} {n : Nat} {g : Base} {K K' : KK} {w w' : World} {ρ : Nat → Value} {H : HEnv} {env : Env} {ops ops' : List Oper} {Q : Env → Prop} {bs : List Bx}
theorem Blk.other {b b' : Nat} {ty ty' : TypeId} {arr arr' : Array Value} (h : Blk g K ρ H w b ty arr) (hne : b ≠ b') : Blk g K ρ H (w.setRow b' arr') b ty arr :=
 ⟨h.base, by rw [setRow_other w b' b _ hne]; exact h.heap, h.noK, h.apart, h.far⟩
structure BIL (g : Base) (H : HEnv) (bs : List Bx) (rf : Nat → AV) (β : Nat → Nat) (listed : Array Bool) (a : Act) (w : World) (K : KK) (ρ : Nat → Value) : Prop where
 at_ : ∀ x ∈ bs, listed.getD x.ja true = true → a.tmps[x.ta]? = some (.pointer (some ⟨β x.i, 0, none⟩)) ∧
  ((listed.getD x.js true = false ∧ Blk g K ρ H w (β x.i) x.ty x.z.cells) ∨ (listed.getD x.js true = true ∧ ∃ ru, ARel K w ρ H (rf x.i) ru ∧ Blk g K ρ H w (β x.i) x.ty ru.cells))
 apart : ∀ x ∈ bs, ∀ y ∈ bs, x.i ≠ y.i → listed.getD x.ja true = true → listed.getD y.ja true = true → β x.i ≠ β y.i
theorem zero_rel {z : Value} {za : AV} (hza : zeroAV z = some za) (K : KK) (w : World) (ρ : Nat → Value) : ARel K w ρ H za z := by
 unfold zeroAV at hza
 split at hza
 ·rename_i cs
  split at hza
  ·rename_i ps hps
   simp only [Option.some.injEq] at hza; subst hza
   have hr := zeroPVs_rel (K := K) (w := w) hps
   have := PRel.agg ps cs.toList hr.1 (zeroPVs_one hps) hr.2
   exact .pv _ _ (by simpa using this)
  ·cases hza
 ·split at hza
  ·rename_i ho
   simp only [Option.some.injEq] at hza; subst hza
   exact .pv _ _ (.base _ ho)
  ·cases hza
theorem ids_ne (hid : idsApart bs = true) : ∀ x ∈ bs, ∀ y ∈ bs, x.i = y.i → x = y := by
 induction bs with
 | nil => intro x h; simp at h
 | cons z l ih =>
  simp only [idsApart, Bool.and_eq_true] at hid
  have hz : ∀ y ∈ l, z.i ≠ y.i := by
   intro y hy e
   have := List.all_eq_true.1 hid.1 y hy
   rw [e, Nat.beq_refl] at this; cases this
  intro x hx y hy e
  rcases List.mem_cons.1 hx with rfl | hx <;> rcases List.mem_cons.1 hy with rfl | hy
  ·rfl
  ·exact (hz y hy e).elim
  ·exact (hz x (by assumption) e.symm).elim
  ·exact ih hid.2 x (by assumption) y (by assumption) e
theorem wpAny_blks {rf : Nat → AV} {R : Exit → Act → World → Prop} (htb : TabOK P tb) (hsh : ops' = shadowLs bs n ops 0) (hB : drawOk ops' ops' = true) (s : Script P n g H ops' ops' env Q)
  (hall : BxAll tb n H ops bs bs) (hid : idsApart bs = true)
  (hng : ∀ (j : Nat) (o : Oper) (jj : Nat) (want : Bool), ops[j]? = some o → o.guard = some (jj, want) → ∀ x ∈ bs, jj ≠ x.js)
  (henv : env.get n = none) (hrf : ∀ x ∈ bs, ∃ v, s.last.get x.tx = some v ∧ storeA tb H x.ty x.za 0 v = some (rf x.i))
  (hR : ∀ (a : Act) (w : World) (K : KK) (ρ : Nat → Value) (β : Nat → Nat), a.tmps.size = n → a.defers = g.ds → FS g K ρ H w → EnvR K w ρ H s.last a.tmps →
   (∀ x ∈ bs, a.tmps[x.ta]? = some (.pointer (some ⟨β x.i, 0, none⟩)) ∧ ∃ ru, ARel K w ρ H (rf x.i) ru ∧ Blk g K ρ H w (β x.i) x.ty ru.cells) → (∀ x ∈ bs, ∀ y ∈ bs, x.i ≠ y.i → β x.i ≠ β y.i) → R .normal a w) :
  ∀ (fuel : Nat) (listed : Array Bool) (a : Act) (w : World) (K : KK) (ρ : Nat → Value) (β : Nat → Nat), (listed.toList.filter (! ·)).length = fuel → MidX P n g H ops' env Q s listed a w K ρ → BIL g H bs rf β listed a w K ρ →
  wpAny P .any ops.toArray R fuel listed a w := by
 have hlen : ops'.length = ops.length := by rw [hsh, shadowLs_length]
 have hget : ∀ j, ops'[j]? = (ops[j]?).map fun o => shadowL bs n o j := by
  intro j; rw [hsh, shadowLs_get]; simp
 have hedges : ∀ j o, ops[j]? = some o → ∀ i, hasEdge (shadowL bs n o j) i = hasEdge o i := fun j o _ i => hasEdge_after shadowL_after i
 have hpureD : ∀ (o : Oper) (j : Nat), (∀ x ∈ bs, j ≠ x.ja) → (∀ x ∈ bs, j ≠ x.js) → shadowL bs n o j = o := by
  intro o j h1 h2
  have e1 : bs.find? (fun x => Nat.beq j x.ja) = none := List.find?_eq_none.2 fun x hx h => h1 x hx (Nat.eq_of_beq_eq_true h)
  have e2 : bs.find? (fun x => Nat.beq j x.js) = none := List.find?_eq_none.2 fun x hx h => h2 x hx (Nat.eq_of_beq_eq_true h)
  unfold shadowL; rw [e1]; simp only; rw [e2]
 have hshA : ∀ (x : Bx), x ∈ bs → ∀ o : Oper, shadowL bs n o x.ja = { o with op := .move (.tmp n) } := by
  intro x hx o
  unfold shadowL; rw [(hall.mem x hx).fa]
 have hshS : ∀ (x : Bx), x ∈ bs → ∀ o : Oper, shadowL bs n o x.js = { o with op := .move (.tmp n), dst := some x.t' } := by
  intro x hx o
  unfold shadowL; rw [(hall.mem x hx).fs.1]; simp only; rw [(hall.mem x hx).fs.2]
 have hnas : ∀ x ∈ bs, ∀ y ∈ bs, x.js ≠ y.ja := by
  intro x hx y hy e
  have := (hall.mem x hx).fs.1
  have h2 := List.find?_eq_none.1 this y hy
  rw [e] at h2; exact h2 (Nat.beq_refl _)
 have haa : ∀ x ∈ bs, ∀ y ∈ bs, x.ja = y.ja → x = y := by
  intro x hx y hy e
  have h1 := (hall.mem x hx).fa
  have h2 := (hall.mem y hy).fa
  rw [e] at h1; rw [h1] at h2; exact Option.some.inj h2
 have hss : ∀ x ∈ bs, ∀ y ∈ bs, x.js = y.js → x = y := by
  intro x hx y hy e
  have h1 := (hall.mem x hx).fs.2
  have h2 := (hall.mem y hy).fs.2
  rw [e] at h1; rw [h1] at h2; exact Option.some.inj h2
 have hjsl : ∀ x ∈ bs, x.js < ops.length := fun x hx => by obtain ⟨os, h, _⟩ := (hall.mem x hx).s; exact (List.getElem?_eq_some_iff.1 h).1
 have hjal : ∀ x ∈ bs, x.ja < ops.length := fun x hx => by obtain ⟨os, h, _⟩ := (hall.mem x hx).a; exact (List.getElem?_eq_some_iff.1 h).1
 have fin : ∀ (listed : Array Bool) (a : Act) (w : World) (K : KK) (ρ : Nat → Value) (β : Nat → Nat), (∀ j, j < ops.length → listed.getD j true = true) → MidX P n g H ops' env Q s listed a w K ρ → BIL g H bs rf β listed a w K ρ → R .normal a w := by
  intro listed a w K ρ β hl hm hb
  refine hR a w K ρ β hm.size hm.defers hm.fs (hm.done (fun j hj => hl j (by omega))) (fun x hx => ?_) (fun x hx y hy hne => hb.apart x hx y hy hne (hl _ (hjal x hx)) (hl _ (hjal y hy)))
  obtain ⟨b1, b2⟩ := hb.at_ x hx (hl _ (hjal x hx))
  rcases b2 with ⟨b2, _⟩ | ⟨_, ru, b3, b4⟩
  ·rw [hl _ (hjsl x hx)] at b2; cases b2
  ·exact ⟨b1, ru, b3, b4⟩
 intro fuel
 induction fuel with
 | zero =>
  intro listed a w K ρ β hc hm hb
  have hl : ∀ j, j < ops.length → listed.getD j true = true := by
   intro j hj
   have hn := List.filter_eq_nil_iff.1 (List.eq_nil_of_length_eq_zero hc)
   have hlt : j < listed.size := by rw [hm.lsize, hlen]; exact hj
   have := hn listed[j] (by simp)
   simp only [Bool.not_eq_true', Bool.not_eq_false] at this
   rw [Array.getD_eq_getD_getElem?, Array.getElem?_eq_getElem hlt]
   simpa using this
  refine ⟨?_, fin listed a w K ρ β hl hm hb⟩
  rw [List.eq_nil_iff_forall_not_mem]
  intro j hj
  obtain ⟨o, ho, hun, _⟩ := mem_ready_iff.1 hj
  rw [hl j (List.getElem?_eq_some_iff.1 ho).1] at hun; cases hun
 | succ fuel ih =>
  intro listed a w K ρ β hc hm hb
  refine ⟨fun h0 => ?_, fun j hj => ?_⟩
  ·refine fin listed a w K ρ β (fun j hj => ?_) hm hb
   induction j using Nat.strongRecOn with
   | _ j ihj =>
    cases hun : listed.getD j true
    ·exfalso
     have ho := List.getElem?_eq_getElem hj
     have : j ∈ Region.ready .any ops.toArray listed := mem_ready_iff.2 ⟨_, ho, hun, fun i hi => by
      have ho' : ops'[j]? = some (shadowL bs n ops[j] j) := by rw [hget, ho]; rfl
      have hij := (drawOk_at hB ho').2.1 i (by rw [hedges j _ ho]; exact hi)
      have hi2 := ihj i hij (by omega)
      have hlt : i < listed.size := by rw [hm.lsize, hlen]; omega
      rw [Array.getD_eq_getD_getElem?, Array.getElem?_eq_getElem hlt] at hi2 ⊢
      exact hi2⟩
     rw [h0] at this; cases this
    ·rfl
  obtain ⟨o, ho, hun, hready⟩ := mem_ready_iff.1 hj
  have hjlt := (List.getElem?_eq_some_iff.1 ho).1
  have hjl : j < listed.size := by rw [hm.lsize, hlen]; exact hjlt
  have ho' : ops'[j]? = some (shadowL bs n o j) := by rw [hget, ho]; rfl
  have hready' : ∀ i, hasEdge (shadowL bs n o j) i = true → listed.getD i false = true := fun i hi => hready i (by rw [← hedges j o ho]; exact hi)
  have hcount := count_next hjl hun hc
  have hft : ∀ i, listed.getD i false = true → listed.getD i true = true := by
   intro i hi
   rw [Array.getD_eq_getD_getElem?] at hi ⊢
   cases h : listed[i]? with
   | none => rfl
   | some b => rw [h] at hi; exact hi
  have hrj : s.r[j]? = some (s.r[j]'(by rw [s.lenr, hlen]; exact hjlt)) := List.getElem?_eq_getElem _
  generalize s.r[j]'(by rw [s.lenr, hlen]; exact hjlt) = rj at hrj
  unfold wpOp
  simp only [List.getElem?_toArray, ho]
  have hsetT : ∀ k, k ≠ j → (listed.setIfInBounds j true).getD k true = listed.getD k true := fun k hk => getD_set_other hk
  by_cases hja : ∃ x ∈ bs, j = x.ja
  ·obtain ⟨x, hx, rfl⟩ := hja
   obtain ⟨oa, q1, hopa, hda, hga⟩ := (hall.mem x hx).a
   have eo : oa = o := Option.some.inj (q1.symm.trans ho)
   subst eo
   have hw : Region.wanted oa (yielded ops.toArray a.tmps) = true := by simp [Region.wanted, hga]
   rw [if_pos hw]
   refine .inl ?_
   have hzi : ∃ i, P.info? x.ty = some i ∧ i.zero = some x.z := by
    have hz := (hall.mem x hx).z
    unfold Tab.zero at hz
    split at hz
    ·rename_i ti hti
     obtain ⟨i, e1, _, _, e4, _⟩ := tab_info htb hti
     exact ⟨i, e1, by rw [e4]; exact hz⟩
    ·cases hz
   obtain ⟨ti, hti, htz⟩ := hzi
   have hrun : (execOp a.eval oa).run P w = .ok (.value (.pointer (some ⟨w.heap.size, 0, none⟩))) (w.alloc (.cells x.z.cells x.ty)) := by
    simp [execOp, hopa, Instr.alloc, zeroValue, typeInfo, hti, htz, newVar, newRow]
   unfold Oper.wp
   rw [hrun]
   simp only [Oper.upon]
   have hev : Evo K K w (w.alloc (.cells x.z.cells x.ty)) := ⟨(Below.refl _ _).alloc (Nat.le_refl _) _, fun _ _ h => h, fun _ _ h => .inl h, fun b o h => by have := hm.fs.lt b o h; simp; omega⟩
   have hfs := hm.fs.evo hev
   have hshx := hshA x hx oa
   rw [hshx] at ho' hready'
   have hta := Nat.le_of_ble_eq_true (hall.mem x hx).ta
   rw [hda]
   refine ih _ _ _ K ρ (fun k => if k = x.i then w.heap.size else β k) hcount (hm.next hB ho' hrj hda hta hun hready' hfs (hev.later hm.fs.lt) (shadow_any a ho' hrj rfl hga henv hfs _)) ⟨?_, ?_⟩
   ·intro y hy hly
    by_cases hxy : y = x
    ·subst hxy
     refine ⟨by simp only [Act.put]; rw [Array.getElem?_setIfInBounds_self_of_lt (by rw [hm.size]; exact hta)]; simp, .inl ⟨?_, ?_⟩⟩
     ·rw [hsetT _ (hnas y hy y hy)]
      cases hjs : listed.getD y.js true
      ·rfl
      ·obtain ⟨os, e1, _, _, _, e5, _⟩ := (hall.mem y hy).s
       have hos' : ops'[y.js]? = some (shadowL bs n os y.js) := by rw [hget, e1]; rfl
       have := hft _ (hm.closed y.js _ hos' hjs y.ja (by rw [hedges y.js os e1]; exact e5))
       rw [hun] at this; cases this
     ·simp only [if_true]
      refine ⟨hm.fs.below.size, heap_alloc_new w _, fun o ho => by have := hm.fs.lt _ o ho; omega, fun k h hk hl hbk => ?_, hm.fs.pt.lt (Nat.le_refl _)⟩
      have := ((hm.fs.heap.ok k h hk).block_lt hl hbk).2
      omega
    ·have hine : y.i ≠ x.i := fun e => hxy (ids_ne hid y hy x hx e)
     have hjne : y.ja ≠ x.ja := fun e => hxy (haa y hy x hx e)
     rw [hsetT _ hjne] at hly
     obtain ⟨b1, b2⟩ := hb.at_ y hy hly
     simp only [hine, if_false]
     have hta2 : x.ta ≠ y.ta := by
      intro e
      obtain ⟨oy, e1, _, e3, _⟩ := (hall.mem y hy).a
      have hoy : ops'[y.ja]? = some (shadowL bs n oy y.ja) := by rw [hget, e1]; rfl
      exact (drawOk_at hB ho').2.2.1 y.ja _ hoy hjne (by rw [hshA y hy]; show oy.dst = oa.dst; rw [e3, hda, e])
     refine ⟨by simp only [Act.put]; rw [Array.getElem?_setIfInBounds_ne hta2]; exact b1, ?_⟩
     rw [hsetT _ (hnas y hy x hx)]
     rcases b2 with ⟨e1, e2⟩ | ⟨e1, ru, e2, e3⟩
     ·exact .inl ⟨e1, e2.evo hev⟩
     ·exact .inr ⟨e1, ru, e2.later (hev.later hm.fs.lt), e3.evo hev⟩
   ·intro y hy y2 hy2 hne hl1 hl2
    have hlt : ∀ y ∈ bs, y ≠ x → (listed.setIfInBounds x.ja true).getD y.ja true = true → β y.i < w.heap.size := by
     intro y hy hxy hly
     have hjne : y.ja ≠ x.ja := fun e => hxy (haa y hy x hx e)
     rw [hsetT _ hjne] at hly
     obtain ⟨_, b2⟩ := hb.at_ y hy hly
     rcases b2 with ⟨_, e2⟩ | ⟨_, ru, _, e3⟩
     ·exact (Array.getElem?_eq_some_iff.1 e2.heap).1
     ·exact (Array.getElem?_eq_some_iff.1 e3.heap).1
    by_cases h1 : y = x
    ·subst h1
     have h2 : y2 ≠ y := fun e => hne (by rw [e])
     have := hlt y2 hy2 h2 hl2
     have hine : y2.i ≠ y.i := Ne.symm hne
     simp only [hine, if_true, if_false]; omega
    ·by_cases h2 : y2 = x
     ·subst h2
      have := hlt y hy h1 hl1
      simp only [hne, if_true, if_false]; omega
     ·have i1 : y.i ≠ x.i := fun e => h1 (ids_ne hid y hy x hx e)
      have i2 : y2.i ≠ x.i := fun e => h2 (ids_ne hid y2 hy2 x hx e)
      simp only [i1, i2, if_false]
      rw [hsetT _ fun e => h1 (haa y hy x hx e)] at hl1
      rw [hsetT _ fun e => h2 (haa y2 hy2 x hx e)] at hl2
      exact hb.apart y hy y2 hy2 hne hl1 hl2
  by_cases hjs : ∃ x ∈ bs, j = x.js
  ·obtain ⟨x, hx, rfl⟩ := hjs
   obtain ⟨os, q1, hops, hds, hgs, hea, hex⟩ := (hall.mem x hx).s
   have eo : os = o := Option.some.inj (q1.symm.trans ho)
   subst eo
   have hw : Region.wanted os (yielded ops.toArray a.tmps) = true := by simp [Region.wanted, hgs]
   rw [if_pos hw]
   refine .inl ?_
   have hlja := hft _ (hready x.ja hea)
   obtain ⟨b1, b2⟩ := hb.at_ x hx hlja
   have hblk : Blk g K ρ H w (β x.i) x.ty x.z.cells := by
    rcases b2 with ⟨_, h⟩ | ⟨h, _⟩
    ·exact h
    ·rw [hun] at h; cases h
   obtain ⟨ox, hox, hdx⟩ := (hall.mem x hx).ox
   rw [← hsh] at hox
   obtain ⟨v, hv, hr⟩ := hrf x hx
   obtain ⟨u, u1, u2⟩ := hm.early hB hox hdx (hft _ (hready x.jx hex)) hv
   have hzr := zero_rel (H := H) (hall.mem x hx).za K w ρ
   obtain ⟨s1, s2, s3, ru, hru, hcells⟩ := storeA_rel hr hzr u2 (row_one hm.fs) (cell_flat hm.fs hzr (hall.mem x hx).n)
   have hk := (hall.mem x hx).k
   have hko : tb.k x.ty ≠ .oth := by intro e; simp [Tab.known, e] at hk
   have hs := run_sizeOf htb hko w
   have hst := run_storeCells_at P (β x.i) 0 x.ty u.cells.toList 0 x.z.cells w hblk.heap (by simp; omega) s2
   have ha1 : a.eval (.tmp x.ta) = .pointer (some ⟨β x.i, 0, none⟩) := by simp [Act.eval, Array.getD_eq_getD_getElem?, b1]
   have ha2 : a.eval (.tmp x.tx) = u := by simp [Act.eval, Array.getD_eq_getD_getElem?, u1]
   have hrun : (execOp a.eval os).run P w = .ok .skip (w.setRow (β x.i) ru.cells) := by
    simp only [Nat.add_zero, Array.length_toList, s1] at hst
    rw [← hcells, Array.toArray_toList] at hst
    simp [execOp, hops, ha1, ha2, Instr.storeAt, Instr.sureAddr, storeVar, hs, s1, hst]
   unfold Oper.wp
   rw [hrun]
   simp only [Oper.upon]
   obtain ⟨f1, f2, f3⟩ := hblk.set (arr' := ru.cells) hm.fs
   have hshx := hshS x hx os
   rw [hshx] at ho' hready'
   have ht' := Nat.le_of_ble_eq_true (hall.mem x hx).t'
   have hd' : a.put os.dst undef = a := by rw [hds]; rfl
   rw [hd']
   refine ih _ _ _ K ρ β hcount (hm.nop ho' hrj (fun u => shadow_any a ho' hrj rfl hgs henv f1 u) rfl ht' hun hready' f1 f3) ⟨?_, ?_⟩
   ·intro y hy hly
    rw [hsetT _ (Ne.symm (hnas x hx y hy))] at hly
    by_cases hxy : y = x
    ·subst hxy
     exact ⟨b1, .inr ⟨getD_set_same hjl, ru, hru.later f3, f2⟩⟩
    ·have hine : y.i ≠ x.i := fun e => hxy (ids_ne hid y hy x hx e)
     have hjne : y.js ≠ x.js := fun e => hxy (hss y hy x hx e)
     rw [hsetT _ hjne]
     obtain ⟨c1, c2⟩ := hb.at_ y hy hly
     have hbne := hb.apart y hy x hx hine hly hlja
     refine ⟨c1, ?_⟩
     rcases c2 with ⟨e1, e2⟩ | ⟨e1, ru', e2, e3⟩
     ·exact .inl ⟨e1, e2.other (ty' := x.ty) hbne⟩
     ·exact .inr ⟨e1, ru', e2.later f3, e3.other (ty' := x.ty) hbne⟩
   ·intro y hy y2 hy2 hne hl1 hl2
    rw [hsetT _ (Ne.symm (hnas x hx y hy))] at hl1
    rw [hsetT _ (Ne.symm (hnas x hx y2 hy2))] at hl2
    exact hb.apart y hy y2 hy2 hne hl1 hl2
  ·have hja2 : ∀ x ∈ bs, j ≠ x.ja := fun x hx e => hja ⟨x, hx, e⟩
   have hjs2 : ∀ x ∈ bs, j ≠ x.js := fun x hx e => hjs ⟨x, hx, e⟩
   have hpure : shadowL bs n o j = o := hpureD o j hja2 hjs2
   rw [hpure] at ho' hready'
   have hej : s.e[j]? = some (s.e[j]'(by rw [s.lene, hlen]; exact hjlt)) := List.getElem?_eq_getElem _
   generalize s.e[j]'(by rw [s.lene, hlen]; exact hjlt) = ej at hej
   obtain ⟨t, hd, ht, hor⟩ := s.ok j o rj ej ho' hrj hej
   have hreads := hm.mid.reads hB ho' hej hun hready' hm.hl hm.he
   have htta : ∀ x ∈ bs, t ≠ x.ta := by
    intro x hx e
    obtain ⟨oy, e1, _, e3, _⟩ := (hall.mem x hx).a
    have hoy : ops'[x.ja]? = some (shadowL bs n oy x.ja) := by rw [hget, e1]; rfl
    exact (drawOk_at hB hoy).2.2.1 j o ho' (hja2 x hx) (by rw [hshA x hx]; show o.dst = oy.dst; rw [hd, e3, e])
   have hBI : ∀ (v : Value) (w' : World) (K' : KK), Evo K K' w w' → BIL g H bs rf β (listed.setIfInBounds j true) (a.put (some t) v) w' K' ρ := by
    intro v w' K' hev
    refine ⟨fun y hy hly => ?_, fun y hy y2 hy2 hne hl1 hl2 => ?_⟩
    ·rw [hsetT _ (Ne.symm (hja2 y hy))] at hly
     rw [hsetT _ (Ne.symm (hjs2 y hy))]
     obtain ⟨c1, c2⟩ := hb.at_ y hy hly
     refine ⟨by simp only [Act.put]; rw [Array.getElem?_setIfInBounds_ne (htta y hy)]; exact c1, ?_⟩
     rcases c2 with ⟨e1, e2⟩ | ⟨e1, ru', e2, e3⟩
     ·exact .inl ⟨e1, e2.evo hev⟩
     ·exact .inr ⟨e1, ru', e2.later (hev.later hm.fs.lt), e3.evo hev⟩
    ·rw [hsetT _ (Ne.symm (hja2 y hy))] at hl1
     rw [hsetT _ (Ne.symm (hja2 y2 hy2))] at hl2
     exact hb.apart y hy y2 hy2 hne hl1 hl2
   have hwanted : ∀ b, guardE ops' ej o = some b → Region.wanted o (yielded ops.toArray a.tmps) = b := by
    intro b hgb
    unfold guardE guardVar at hgb
    cases hg : o.guard with
    | none => simp [hg] at hgb; subst hgb; simp [Region.wanted, hg]
    | some x =>
     obtain ⟨jj, want⟩ := x
     have hjj' := hng j o jj want ho hg
     simp only [hg] at hgb
     cases hjj : ops[jj]? with
     | none => rw [hget, hjj] at hgb; simp at hgb
     | some o' =>
      have hS : ops'[jj]? = some (shadowL bs n o' jj) := by rw [hget, hjj]; rfl
      have hSd : (shadowL bs n o' jj).dst = o'.dst := by
       unfold shadowL
       split
       ·rfl
       ·rw [List.find?_eq_none.2 fun x hx h => hjj' x hx (Nat.eq_of_beq_eq_true h)]
      simp only [hS] at hgb
      cases hd' : o'.dst with
      | none => rw [hSd, hd'] at hgb; simp at hgb
      | some t2 =>
       rw [hSd, hd'] at hgb
       simp only at hgb
       have hmem : t2 ∈ readsOf ops' o := by simp [readsOf, guardVar, hg, hS, hSd, hd']
       split at hgb
       ·rename_i bb hbb
        simp only [Option.some.injEq] at hgb; subst hgb
        obtain ⟨v, v1, v2⟩ := hreads t2 hmem _ hbb
        cases v2 with
        | pv _ _ hp => cases hp; simp only [Region.wanted, hg, yielded, List.getElem?_toArray, hjj, Option.bind_some, hd', v1]; cases bb <;> cases want <;> rfl
       ·rename_i vs hbb
        simp only [Option.some.injEq] at hgb; subst hgb
        obtain ⟨v, v1, v2⟩ := hreads t2 hmem _ hbb
        cases v2 with
        | pv _ _ hp => cases hp; simp only [Region.wanted, hg, yielded, List.getElem?_toArray, hjj, Option.bind_some, hd', v1]; cases want <;> rfl
       ·cases hgb
   rcases hor with ⟨hgt, hqs⟩ | ⟨hgf, rfl⟩
   ·rw [hwanted true hgt, if_pos rfl]
    refine .inl ?_
    unfold Oper.wp
    have hqr := hqs.go K ρ a w hm.fs (fun x hx av hxv => by
     cases x with
     | tmp t' =>
      obtain ⟨v, v1, v2⟩ := hreads t' (by
       unfold readsOf
       exact List.mem_append_left _ (mem_opTmps (Array.mem_toList_iff.2 hx))) av hxv
      simpa [Act.eval, Array.getD_eq_getD_getElem?, v1] using v2
     | const v =>
      simp only [Env.val] at hxv
      split at hxv
      ·rename_i h1; simp only [Option.some.injEq] at hxv; subst hxv; exact .pv _ _ (.base v h1)
      ·cases hxv
     | func f =>
      simp only [Env.val, Option.some.injEq] at hxv; subst hxv
      exact .pv _ _ (.fn (.func f) [] [] [] [] rfl rfl (by simp) (by simp))
     | global gg =>
      simp only [Env.val, Option.some.injEq] at hxv; subst hxv
      exact .pv _ _ (.base _ rfl))
    generalize (execOp a.eval o).run P w = res at hqr
    cases res with
    | halt x w' => simp only [QRes] at hqr
    | ok nx w' =>
     cases nx <;> simp only [QRes] at hqr <;> simp only [Oper.upon]
     case value v =>
      obtain ⟨K', hev, hv'⟩ := hqr
      rw [hd]
      exact ih _ _ _ K' ρ β hcount (hm.next hB ho' hrj hd ht hun hready' (hm.fs.evo hev) (hev.later hm.fs.lt) hv') (hBI v _ _ hev)
     case enter f args =>
      obtain ⟨rfl, hc'⟩ := hqr
      refine hc'.mono fun e w'' ⟨v, K', he', hev, hv'⟩ => ?_
      subst he'
      rw [hd]
      exact ih _ _ _ K' ρ β hcount (hm.next hB ho' hrj hd ht hun hready' (hm.fs.evo hev) (hev.later hm.fs.lt) hv') (hBI v _ _ hev)
   ·rw [hwanted false hgf, if_neg (by simp)]
    rw [hd]
    exact ih _ _ _ K ρ β hcount (hm.next hB ho' hrj hd ht hun hready' hm.fs (Later.refl _ _) undef_rel) (hBI undef _ _ (.refl hm.fs.lt))
theorem own_all {rf : Nat → AV} {β : Nat → Nat} {tmps : Array Value} : ∀ {l : List Bx} {ρ : Nat → Value}, idsApart l = true → FS g K ρ H w → (∀ x ∈ l, H.get x.i = none) →
  (∀ x ∈ l, tmps[x.ta]? = some (.pointer (some ⟨β x.i, 0, none⟩)) ∧ ∃ ru, ARel K w ρ H (rf x.i) ru ∧ Blk g K ρ H w (β x.i) x.ty ru.cells) → (∀ x ∈ l, ∀ y ∈ l, x.i ≠ y.i → β x.i ≠ β y.i) → EnvR K w ρ H env tmps →
  ∃ ρ', FS g K ρ' (bxHf rf l H) w ∧ EnvR K w ρ' (bxHf rf l H) (bxEnv l env) tmps ∧ (∀ j, (H.get j).isSome = true → (HEnv.get (bxHf rf l H) j).isSome = true ∧ ρ' j = ρ j) ∧ (∀ x ∈ l, ρ' x.i = .pointer (some ⟨β x.i, 0, none⟩)) ∧
   (∀ j h, HEnv.get (bxHf rf l H) j = some h → H.get j = some h ∨ ∃ x ∈ l, j = x.i)
 | [], ρ, _, hf, _, _, _, he => ⟨ρ, hf, he, fun j hj => ⟨hj, rfl⟩, by simp, fun j h hj => .inl hj⟩
 | x :: l, ρ, hid, hf, hn, hb, hap, he => by
  have hid' := hid
  simp only [idsApart, Bool.and_eq_true] at hid
  obtain ⟨ρ1, f1, e1, k1, p1, o1⟩ := own_all hid.2 hf (fun y hy => hn y (by simp [hy])) (fun y hy => hb y (by simp [hy])) (fun y hy z hz => hap y (by simp [hy]) z (by simp [hz])) he
  have hxl : ∀ y ∈ l, x.i ≠ y.i := by
   intro y hy e
   have := List.all_eq_true.1 hid.1 y hy
   rw [e, Nat.beq_refl] at this; cases this
  obtain ⟨b1, ru, b2, b3⟩ := hb x (by simp)
  have hi : HEnv.get (bxHf rf l H) x.i = none := by
   cases hg : HEnv.get (bxHf rf l H) x.i with
   | none => rfl
   | some h =>
    rcases o1 x.i h hg with h1 | ⟨y, hy, e⟩
    ·rw [hn x (by simp)] at h1; cases h1
    ·exact (hxl y hy e).elim
  have hblk : Blk g K ρ1 (bxHf rf l H) w (β x.i) x.ty ru.cells := by
   refine ⟨b3.base, b3.heap, b3.noK, fun j h hj hl hbj => ?_, b3.far⟩
   rcases o1 j h hj with h1 | ⟨y, hy, rfl⟩
   ·have := (k1 j (by rw [h1]; rfl)).2
    rw [this] at hbj
    exact b3.apart j h h1 hl hbj
   ·rw [p1 y hy] at hbj
    simp only [blockOf, Option.some.injEq] at hbj
    exact hap x (by simp) y (by simp [hy]) (hxl y hy) hbj.symm
  have hown := hblk.own f1 hi (b2.keeps (Later.refl K w) k1) rfl
  refine ⟨_, hown, ?_, ?_, ?_, ?_⟩
  ·have he' := e1.keeps (Later.refl K w) (fresh_keeps (ρ := ρ1) hi (.cell (rf x.i)) (.pointer (some ⟨β x.i, 0, none⟩)))
   intro t av hg
   simp only [bxEnv, Env.get_cons] at hg
   split at hg
   ·rename_i e; subst e
    simp only [Option.some.injEq] at hg; subst hg
    exact ⟨_, b1, .box x.i 0 _ (by simp [bxHf, HEnv.get_cons]) (by simp)⟩
   ·exact he' t av hg
  ·intro j hj
   have hne : j ≠ x.i := by rintro rfl; rw [hn x (by simp)] at hj; simp at hj
   obtain ⟨q1, q2⟩ := k1 j hj
   refine ⟨?_, by simp [hne, q2]⟩
   simp only [bxHf, HEnv.get_cons]
   rw [if_neg (Ne.symm hne)]; exact q1
  ·intro y hy
   rcases List.mem_cons.1 hy with rfl | hy
   ·simp
   ·have := hxl y hy
    simp [Ne.symm this, p1 y hy]
  ·intro j h hj
   simp only [bxHf, HEnv.get_cons] at hj
   split at hj
   ·rename_i e; exact .inr ⟨x, by simp, e.symm⟩
   ·rcases o1 j h hj with h1 | ⟨y, hy, e⟩
    ·exact .inl h1
    ·exact .inr ⟨y, by simp [hy], e⟩
theorem aw_draw_boxes {QQ : QC} {id : Nat} (bs : List Bx) (htb : TabOK P tb) (hm : P.follows .mixedOrders = true) (hB : drawOk (shadowLs bs n ops 0) (shadowLs bs n ops 0) = true)
  (hall : BxAll tb n H ops bs bs) (hid : idsApart bs = true) (hng : noGuardL bs ops = true) (henv : env.get n = none)
  (h : AD P n g H (shadowLs bs n ops 0) (fun env' => ∃ rs, bxVals tb H bs env' = some rs ∧ QQ .normal (bxEnv bs env') (bxH bs rs H)) (shadowLs bs n ops 0) env) (hnd : noDefer ops = true := by kernel_rfl) : AW P n g (.region id ops.toArray true) env H QQ := by
 obtain ⟨s⟩ := script_of h
 obtain ⟨rs, hrs, hQ⟩ := s.fin
 obtain ⟨rf, hrf, hH⟩ := rf_of hid hrs
 rw [hH] at hQ
 have hlen : (shadowLs bs n ops 0).length = ops.length := shadowLs_length ..
 refine ⟨fun a w hinv rr dd => ?_⟩
 refine wpIn_mono (region_anyR (R := fun a' w' => ∃ env' H', Inv n g env' H' a' w' ∧ QQ .normal env' H') hnd hm ?_) (fun e a' w' h => by obtain ⟨rfl, h⟩ := h; exact h)
 obtain ⟨h1, h2, K, ρ, hf, he⟩ := hinv
 have hev : Evo K K w { w with drawn := w.drawn + 1 } := (Evo.refl hf.lt).drew
 refine wpAny_blks (rf := rf) htb rfl hB s hall hid ?_ henv hrf ?_ _ _ a _ K ρ (fun _ => 0) ?_ ⟨h1, h2, by simp [hlen], ?_, hf.evo hev, ?_, ?_⟩ ⟨?_, ?_⟩
 ·intro j o jj want ho hg x hx
  have := List.all_eq_true.1 hng o (List.mem_of_getElem? ho)
  simp only [hg] at this
  have := List.all_eq_true.1 this x hx
  simp only [Bool.not_eq_true'] at this
  exact Nat.ne_of_beq_eq_false this
 ·intro a' w' K' ρ' β q1 q2 q3 q4 q5 q6
  obtain ⟨ρ2, f1, e1, _⟩ := own_all (env := s.last) hid q3 (fun x hx => (hall.mem x hx).i) q5 q6 q4
  exact ⟨rfl, _, _, ⟨q1, q2, K', ρ2, f1, e1⟩, hQ⟩
 ·simp
 ·intro i o ho hli
  have hlt := (List.getElem?_eq_some_iff.1 ho).1
  have : i < ops.length := by omega
  simp [Array.getD_eq_getD_getElem?, this] at hli
 ·intro i o ri t ho hli
  have hlt := (List.getElem?_eq_some_iff.1 ho).1
  have : i < ops.length := by omega
  simp [Array.getD_eq_getD_getElem?, this] at hli
 ·intro t av hav _
  obtain ⟨v, v1, v2⟩ := he t av hav
  exact ⟨v, v1, v2.later (hev.later hf.lt)⟩
 ·intro x hx hl
  obtain ⟨oa, e1, _⟩ := (hall.mem x hx).a
  have hjal : x.ja < ops.length := (List.getElem?_eq_some_iff.1 e1).1
  simp [Array.getD_eq_getD_getElem?, hjal] at hl
 ·intro x hx y hy hne hl
  obtain ⟨oa, e1, _⟩ := (hall.mem x hx).a
  have hjal : x.ja < ops.length := (List.getElem?_eq_some_iff.1 e1).1
  simp [Array.getD_eq_getD_getElem?, hjal] at hl
end
end Go.Cg
namespace Go.Cg
open Go.Proofs
set_option maxHeartbeats 1000000 in
theorem twice1_call (p : Int → Int → Bool) (f : FuncId) (first cap : List PV) (a b : Int) (hp : ACall Tryz.prog f (first ++ [pi a, pi b] ++ cap) (pb (p a b))) : ACall Tryz.prog 287 [pi b, .ptr (.fn (.func f) first cap) 0, .ptr (pi a) 0] (pb (p a b)) := by
 refine acall_intro tbOK Tryz.func287 rfl (by kernel_rfl) Tryz.ntmps287 (by simp) _ rfl (fun hw gB hgB => ?_)
 repeat' (first | (refine shC ?_; first | refine qV (hp) ?_) | refine sA ?_ | refine sC (fun _ => ?_) (fun _ => ?_) | fail)
 exact retq rfl rfl
set_option maxHeartbeats 1000000 in
theorem Twice_call (l : List Int) (p : Int → Int → Bool) (f : FuncId) (first cap : List PV) (hp : ∀ a ∈ l, ∀ b ∈ l, ACall Tryz.prog f (first ++ [pi a, pi b] ++ cap) (pb (p a b))) : ACall Tryz.prog 262 [ints l, .fn (.func f) first cap] (pb (twiceL l p)) := by
 refine acall_intro tbOK Tryz.func262 rfl (by kernel_rfl) Tryz.ntmps262 (by simp) _ rfl (fun hw gB hgB => ?_)
 have hl := ints_len hw.1
 repeat' (first | refine sA ?_ | refine sC (fun _ => ?_) (fun _ => ?_) | fail)
 refine aw_loop (fun k : Nat => [(0, .pv (ints l)), (3, .pv (.ptr (.fn (.func f) first cap) 0)), (7, .pv (ints l)), (8, .pv (pi l.length)), (9, .pv (pi k))]) (fun _ => []) (fun k => k ≤ l.length ∧ twiceL l p = ((List.range l.length).drop k).any fun i => (l.take i).any (p (l.getD i 0))) (fun k => l.length - k) 0 ⟨by omega, rfl⟩ (tS) tH ?_
 rintro k ⟨hk, hr⟩
 by_cases hlt : k < l.length
 ·have he := ints_get hlt
  have c1 := ContainsFuncI_call (l.take k) (p l[k]) 287 [] [.ptr (.fn (.func f) first cap) 0, .ptr (pi l[k]) 0] (fun x hx => twice1_call p f first cap l[k] x (hp _ (List.getElem_mem hlt) x (List.mem_of_mem_take hx)))
  rw [drop_range_any hlt, getD_get hlt] at hr
  repeat' (first | refine aw_freeze (t := 6) rfl rfl rfl ?_ | refine ao_q rfl (q_slice_map (xs := l) (f := pi) 0 k tbOK rfl rfl rfl rfl rfl rfl rfl (by omega) (by omega)) rfl rfl ?_ | (refine shC ?_; first | refine qC c1 ?_) | (refine shX ?_; first | refine qX he ?_) | refine sK ?_ | refine sC (fun _ => ?_) (fun _ => ?_) | fail)
  all_goals first | (refine retq rfl ?_; first | (simp only [retPV] at *; simp only [*, BL]; done) | (simp_all [retPV]; done) | (simp_all [retPV]; omega) | (simp_all [retPV]; intros; omega)) | (refine ⟨k + 1, ⟨by omega, ?_⟩, tD, tS, tH⟩; first | (simp only [BL, List.length_map] at *; simp only [*, BL, List.length_map]; done) | (simp_all []; done) | (simp_all []; omega) | (simp_all []; intros; omega)) | (trace "LEND"; trace_state)
 ·rw [drop_end (by simp; omega)] at hr
  repeat' (first | refine sK ?_ | refine sC (fun _ => ?_) (fun _ => ?_) | fail)
  all_goals first | (refine retq rfl ?_; first | (simp only [retPV] at *; simp only [*]; done) | (simp_all [retPV]; done) | (simp_all [retPV]; omega) | (simp_all [retPV]; intros; omega)) | (refine retn rfl ?_; first | (simp only [retPV, BL, List.length_map] at *; simp only [*, BL, List.length_map]; done) | (simp_all [retPV]; done) | (simp_all [retPV]; omega) | (simp_all [retPV]; intros; omega)) | skip
set_option maxHeartbeats 1000000 in
theorem named1_call (g : Img) (a b : Int) (ha0 : 0 ≤ a) (ha : a.toNat < g.fields.length) (hb0 : 0 ≤ b) (hb : b.toNat < g.fields.length) : ACall Tryz.prog 263 [pi a, pi b, .ptr (imgPV g) 0] (pb (fAlike g a b)) := by
 refine acall_intro tbOK Tryz.func263 rfl (by kernel_rfl) Tryz.ntmps263 (by simp) _ rfl (fun hw gB hgB => ?_)
 have hea := map_get' (f := fdPV) ha
 have heb := map_get' (f := fdPV) hb
 repeat' (first | (refine shX ?_; first | refine ao_q rfl (q_index tbOK rfl rfl rfl rfl rfl rfl ha0 hea) rfl rfl ?_ | refine AD.step _ _ _ _ _ rfl (q_index tbOK rfl rfl rfl rfl rfl rfl ha0 hea) rfl rfl ?_ | refine ao_q rfl (q_index tbOK rfl rfl rfl rfl rfl rfl hb0 heb) rfl rfl ?_ | refine AD.step _ _ _ _ _ rfl (q_index tbOK rfl rfl rfl rfl rfl rfl hb0 heb) rfl rfl ?_) | refine sA ?_ | refine sC (fun _ => ?_) (fun _ => ?_) | fail)
 exact retq rfl (by simp only [retPV, fAlike, fName, getD_get ha, getD_get hb])
set_option maxHeartbeats 1000000 in
theorem EqualTy_call (a b : List Ty) : ACall Tryz.prog 265 [tys a, tys b] (pb (decide (a = b))) := by
 refine acall_intro tbOK Tryz.func265 rfl (by kernel_rfl) Tryz.ntmps265 (by simp) _ rfl (fun hw gB hgB => ?_)
 have hl := tys_len hw.1
 by_cases hlen : a.length = b.length
 ·repeat' (first | refine sK ?_ | refine sC (fun _ => ?_) (fun _ => ?_) | fail)
  refine aw_loop (fun k : Nat => [(0, .pv (tys a)), (1, .pv (tys b)), (11, .pv (tys a)), (12, .pv (pi a.length)), (13, .pv (pi k))]) (fun _ => []) (fun k => k ≤ a.length ∧ a.take k = b.take k) (fun k => a.length - k) 0 ⟨by simp, by simp⟩ (tS) tH ?_
  rintro k ⟨hk, hno⟩
  by_cases hlt : k < a.length
  ·have he := tys_get hlt
   have hltb : k < b.length := by omega
   have he' := tys_get hltb
   repeat' (first | (refine shX ?_; first | refine qX he ?_ | refine qX he' ?_) | refine sK ?_ | refine sC (fun _ => ?_) (fun _ => ?_) | fail)
   ·rename_i h
    refine retq rfl ?_
    have : a ≠ b := by
     rintro rfl
     simp at h
    simp [retPV, this]
   ·rename_i h
    have e : a[k] = b[k] := by
     simp only [Bool.not_eq_false'] at h
     rw [tyEq_iff] at h
     simpa using h
    exact ⟨k + 1, ⟨by omega, take_eq_succ hlt hltb hno e⟩, tD, tS, tH⟩
  ·repeat' (first | refine sK ?_ | refine sC (fun _ => ?_) (fun _ => ?_) | fail)
   refine retq rfl ?_
   rw [List.take_of_length_le (by omega), List.take_of_length_le (by omega)] at hno
   simp [retPV, hno]
 ·have hne : a ≠ b := by rintro rfl; exact hlen rfl
  have hb : ((((a.map tyPV).length : Nat) : Int) != (((b.map tyPV).length : Nat) : Int)) = true := by simp; omega
  repeat' (first | refine sK ?_ | refine sC (fun _ => ?_) (fun _ => ?_) | fail)
  exact retq rfl (by simp [retPV, hne])
set_option maxHeartbeats 1000000 in
theorem named2_call (g : Img) (a b : Int) (ha0 : 0 ≤ a) (ha : a.toNat < g.methods.length) (hb0 : 0 ≤ b) (hb : b.toNat < g.methods.length) : ACall Tryz.prog 264 [pi a, pi b, .ptr (imgPV g) 0] (pb (mAlikeP (mAt g a) (mAt g b))) := by
 refine acall_intro tbOK Tryz.func264 rfl (by kernel_rfl) Tryz.ntmps264 (by simp) _ rfl (fun hw gB hgB => ?_)
 have hea := map_get' (f := mePV) ha
 have heb := map_get' (f := mePV) hb
 rw [mAt, mAt, getD_get ha, getD_get hb]
 generalize g.methods[a.toNat] = x at hea ⊢
 generalize g.methods[b.toNat] = y at heb ⊢
 have hty := tyEq_iff x.ret y.ret
 have c1 := EqualTy_call x.params y.params
 repeat' (first | refine aw_draw_boxes [⟨0, 10, 12, 3, 6, 12, 4, 105, .agg #[.string ByteArray.empty, .int .i64 0, .int .i64 0, .slice none 0 0, .int .i64 0, .int .i64 0, .int .i64 0, .bool false, .slice none 0 0, .int .i64 0, .slice none 0 0, .slice none 0 0], .pv (.agg [.base (.string ByteArray.empty), .base (.int .i64 0), .base (.int .i64 0), .base (.slice none 0 0), .base (.int .i64 0), .base (.int .i64 0), .base (.int .i64 0), .base (.bool false), .base (.slice none 0 0), .base (.int .i64 0), .base (.slice none 0 0), .base (.slice none 0 0)])⟩, ⟨1, 11, 13, 4, 7, 17, 9, 105, .agg #[.string ByteArray.empty, .int .i64 0, .int .i64 0, .slice none 0 0, .int .i64 0, .int .i64 0, .int .i64 0, .bool false, .slice none 0 0, .int .i64 0, .slice none 0 0, .slice none 0 0], .pv (.agg [.base (.string ByteArray.empty), .base (.int .i64 0), .base (.int .i64 0), .base (.slice none 0 0), .base (.int .i64 0), .base (.int .i64 0), .base (.int .i64 0), .base (.bool false), .base (.slice none 0 0), .base (.int .i64 0), .base (.slice none 0 0), .base (.slice none 0 0)])⟩] tbOK (by kernel_rfl) (by kernel_rfl) ⟨⟨⟨_, rfl, rfl, rfl, rfl⟩, ⟨_, rfl, rfl, rfl, rfl, rfl, rfl⟩, ⟨_, rfl, rfl⟩, rfl, rfl, rfl, rfl, rfl, rfl, rfl, rfl, ⟨rfl, rfl⟩⟩, ⟨⟨_, rfl, rfl, rfl, rfl⟩, ⟨_, rfl, rfl, rfl, rfl, rfl, rfl⟩, ⟨_, rfl, rfl⟩, rfl, rfl, rfl, rfl, rfl, rfl, rfl, rfl, ⟨rfl, rfl⟩⟩, trivial⟩ rfl rfl rfl ?_ | refine ad_shadow rfl rfl ?_ | refine ⟨_, rfl, ?_⟩ | (refine shC ?_; first | refine qC c1 ?_) | (refine shX ?_; first | refine ao_q rfl (q_index tbOK rfl rfl rfl rfl rfl rfl ha0 hea) rfl rfl ?_ | refine AD.step _ _ _ _ _ rfl (q_index tbOK rfl rfl rfl rfl rfl rfl ha0 hea) rfl rfl ?_ | refine ao_q rfl (q_index tbOK rfl rfl rfl rfl rfl rfl hb0 heb) rfl rfl ?_ | refine AD.step _ _ _ _ _ rfl (q_index tbOK rfl rfl rfl rfl rfl rfl hb0 heb) rfl rfl ?_) | refine sK ?_ | refine sC (fun _ => ?_) (fun _ => ?_) | fail)
 all_goals refine retq rfl ?_
 all_goals (simp only [retPV, mAlikeP, ← hty]; clear hty; simp_all)
set_option maxHeartbeats 1000000 in
theorem namedP_call (g : Img) (t : Int) (td : TD) (htd : typeAt g t = some td) (hg : g.types.length ≤ 1000) (hgf : g.fields.length ≤ 1000) (hgm : g.methods.length ≤ 1000) : ACall Tryz.prog 224 [imgPV g, pi t] (pb (namedP g t td)) := by
 refine acall_intro tbOK Tryz.func224 rfl (by kernel_rfl) Tryz.ntmps224 (by simp) _ rfl (fun hw gB hgB => ?_)
 obtain ⟨h0, heT⟩ := typeAt_get htd
 have cf := Twice_call (fieldsOf g t) (fAlike g) 263 [] [.ptr (imgPV g) 0] (fun a ha b hb => named1_call g a b (fieldsOf_mem ha).1 (fieldsOf_mem ha).2 (fieldsOf_mem hb).1 (fieldsOf_mem hb).2)
 have cm := Twice_call (methodsOf g t) (fun a b => mAlikeP (mAt g a) (mAt g b)) 264 [] [.ptr (imgPV g) 0] (fun a ha b hb => named2_call g a b (methodsOf_mem ha).1 (methodsOf_mem ha).2 (methodsOf_mem hb).1 (methodsOf_mem hb).2)
 repeat' (first | refine sA ?_ | refine sC (fun _ => ?_) (fun _ => ?_) | fail)
 refine aw_loop (fun k : Nat => [(1, .pv (pi t)), (2, .pv (.ptr (imgPV g) 0)), (8, .pv (.slc 4 (g.types.map tdPV) false)), (9, .pv (pi g.types.length)), (10, .pv (pi k))]) (fun _ => []) (fun k => k ≤ g.types.length ∧ namedP g t td = (((List.range g.types.length).drop k).all (nameOther g t td) && !twiceL (fieldsOf g t) (fAlike g) && !twiceL (methodsOf g t) (fun a b => mAlikeP (mAt g a) (mAt g b)))) (fun k => g.types.length - k) 0 ⟨by omega, rfl⟩ (tS) tH ?_
 rintro k ⟨hk, hr⟩
 by_cases hlt : k < g.types.length
 ·have he := map_get (f := tdPV) hlt
  rw [drop_range_all hlt, nameOther, getD_get hlt] at hr
  repeat' (first | (refine shX ?_; first | refine qX he ?_ | refine ao_q rfl (q_index tbOK rfl rfl rfl rfl rfl rfl h0 heT) rfl rfl ?_ | refine AD.step _ _ _ _ _ rfl (q_index tbOK rfl rfl rfl rfl rfl rfl h0 heT) rfl rfl ?_) | refine sK ?_ | refine sC (fun _ => ?_) (fun _ => ?_) | fail)
  all_goals first | (refine retq rfl ?_; first | (simp only [retPV] at *; simp only [*, BL]; done) | (simp_all [retPV]; done) | (simp_all [retPV]; omega) | (simp_all [retPV]; intros; omega)) | (refine ⟨k + 1, ⟨by omega, ?_⟩, tD, tS, tH⟩; first | (simp only [BL, List.length_map] at *; simp only [*, BL, List.length_map]; done) | (simp_all []; done) | (simp_all []; omega) | (simp_all []; intros; omega)) | (trace "LEND"; trace_state)
 ·rw [drop_end (by simp; omega)] at hr
  repeat' (first | (refine shC ?_; first | refine qC (FieldsP_call g t hgf) ?_ | refine qC (MethodsP_call g t hgm) ?_ | refine qC cf ?_ | refine qC cm ?_) | refine sK ?_ | refine sC (fun _ => ?_) (fun _ => ?_) | fail)
  all_goals first | (refine retq rfl ?_; first | (simp only [retPV] at *; simp only [*, BL]; done) | (simp_all [retPV]; done) | (simp_all [retPV]; omega) | (simp_all [retPV]; intros; omega)) | (refine retn rfl ?_; first | (simp only [retPV, BL, List.length_map] at *; simp only [*, BL, List.length_map]; done) | (simp_all [retPV]; done) | (simp_all [retPV]; omega) | (simp_all [retPV]; intros; omega)) | skip
end Go.Cg
