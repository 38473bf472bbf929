/- A part of the walks by abstract values: no statement of its own. -/
import Derived.Test.YthekdpbplmigeaaGreatU6
import Derived.Test.YthekdpbplmigeaaGreatU4
import Derived.Maps.Own
import Derived.Maps.Views
import Derived.Shelf.Sort.Plain
import Derived.Shelf.Slices.In.SortNone
import Derived.Test.YthekdpbplmigeaaGreatProg
import Derived.Sort.OwnSortedInts
namespace Go.Cg
open Go.Proofs
theorem prel_full {K : KK} {w : World} {sz : Nat} {es : List PV} {v : Value} (h : PRel K w (.slc sz es true) v) : PRel K w (.slc sz es false) v := by
 have := tells_full sz es true K w (fun _ => undef) [] v (.pv _ _ h)
 cases this with
 | pv _ _ h => exact h
theorem acall_full2 {P : Program} {f : FuncId} {p : PV} {sz : Nat} {es : List PV} {r : PV} (h : ACall P f [p, .slc sz es false] r) : ACall P f [p, .slc sz es true] r := by
 refine ⟨h.stands, fun K w vs hl hv => h.calls K w vs hl ?_⟩
 obtain ⟨v0, vs0, rfl, r0, hv0⟩ := hv.cons_inv
 obtain ⟨v1, vs1, rfl, r1, hv1⟩ := hv0.cons_inv
 obtain rfl := hv1.nil_inv
 exact .cons r0 (.cons (prel_full r1) .nil)
theorem same1 : ACall Tryz.prog 56 [tys [tB], .slc 4 [tyPV tB] true] (pb true) := acall_full2 (SameTypes_call [tB] [tB])
end Go.Cg
namespace Go.Cg
open Go.Proofs
def thisS (k : Int) (st : Bool) (o : Int) : Ty × Bool := if k < 0 || st then (ty0, false) else if k == 1 then (⟨6, o, 0, true⟩, true) else (⟨5, o, 0, false⟩, true)
set_option maxHeartbeats 1000000 in
theorem This_call (g : Img) (m : Me) : ACall Tryz.prog 139 [imgPV g, mePV m] (.tup [tyPV (thisS (kindP g m.owner) (andB m.flags 1) m.owner).1, pb (thisS (kindP g m.owner) (andB m.flags 1) m.owner).2]) := by
 refine acall_intro tbOK Tryz.func139 rfl (by kernel_rfl) Tryz.ntmps139 (by simp) _ rfl (fun hw gB hgB => ?_)
 repeat' (first | (refine shC ?_; first | refine qC (KindP_call _ _) ?_) | refine sA ?_ | refine sC (fun _ => ?_) (fun _ => ?_) | fail)
 ·rename_i h1
  have hs : thisS (kindP g m.owner) (andB m.flags 1) m.owner = (ty0, false) := by simp_all [thisS]
  rw [hs]; exact retq rfl rfl
 ·rename_i h1 h2
  have h3 : (andB m.flags 1) = true := h2
  have hs : thisS (kindP g m.owner) (andB m.flags 1) m.owner = (ty0, false) := by simp [thisS, h3]
  rw [hs]; exact retq rfl rfl
 ·rename_i h1 h2 h4
  have h3 : (andB m.flags 1) = false := h2
  have hs : thisS (kindP g m.owner) (andB m.flags 1) m.owner = (⟨6, m.owner, 0, true⟩, true) := by rw [thisS, h3]; simp_all
  rw [hs]; exact retq rfl rfl
 ·rename_i h1 h2 h4
  have h3 : (andB m.flags 1) = false := h2
  have hs : thisS (kindP g m.owner) (andB m.flags 1) m.owner = (⟨5, m.owner, 0, false⟩, true) := by rw [thisS, h3]; simp_all
  rw [hs]; exact retq rfl rfl
set_option maxHeartbeats 1000000 in
theorem ThisR_call (g : Img) (m : Me) : ACall Tryz.prog 145 [imgPV g, mePV m] (.tup [tyPV (thisS (kindG g m.owner) (m.flags.tmod 2 != 0) m.owner).1, pb (thisS (kindG g m.owner) (m.flags.tmod 2 != 0) m.owner).2]) := by
 refine acall_intro tbOK Tryz.func145 rfl (by kernel_rfl) Tryz.ntmps145 (by simp) _ rfl (fun hw gB hgB => ?_)
 repeat' (first | (refine shC ?_; first | refine qC (KindR_call _ _) ?_) | refine sA ?_ | refine sC (fun _ => ?_) (fun _ => ?_) | fail)
 ·rename_i h1
  have hs : thisS (kindG g m.owner) (m.flags.tmod 2 != 0) m.owner = (ty0, false) := by simp_all [thisS]
  rw [hs]; exact retq rfl rfl
 ·rename_i h1 h2
  have h3 : (m.flags.tmod 2 != 0) = true := h2
  have hs : thisS (kindG g m.owner) (m.flags.tmod 2 != 0) m.owner = (ty0, false) := by simp [thisS, h3]
  rw [hs]; exact retq rfl rfl
 ·rename_i h1 h2 h4
  have h3 : (m.flags.tmod 2 != 0) = false := h2
  have hs : thisS (kindG g m.owner) (m.flags.tmod 2 != 0) m.owner = (⟨6, m.owner, 0, true⟩, true) := by rw [thisS, h3]; simp_all
  rw [hs]; exact retq rfl rfl
 ·rename_i h1 h2 h4
  have h3 : (m.flags.tmod 2 != 0) = false := h2
  have hs : thisS (kindG g m.owner) (m.flags.tmod 2 != 0) m.owner = (⟨5, m.owner, 0, false⟩, true) := by rw [thisS, h3]; simp_all
  rw [hs]; exact retq rfl rfl
def argsS (x : Ty × Bool) (l : List Ty) : List Ty := (if x.2 then [x.1] else []) ++ l
set_option maxHeartbeats 1000000 in
theorem Args_call (g : Img) (m : Me) (hp : m.params.length ≤ 1000) : ACall Tryz.prog 95 [imgPV g, mePV m] (tys (argsS (thisS (kindP g m.owner) (andB m.flags 1) m.owner) m.params)) := by
 refine acall_intro tbOK Tryz.func95 rfl (by kernel_rfl) Tryz.ntmps95 (by simp) _ rfl (fun hw gB hgB => ?_)
 have c1 := This_call g m
 generalize thisS (kindP g m.owner) (andB m.flags 1) m.owner = x at c1 ⊢
 obtain ⟨t, b⟩ := x
 cases b
 ·repeat' (first | refine aw_own_nil (t := 5) 0 36 4 (by decide) rfl rfl ?_ | (refine shC ?_; first | refine qC c1 ?_) | (refine ao_sh_bi ?_; first | refine ao_append tbOK rfl rfl rfl rfl rfl rfl rfl (by show _ * 32 ≤ _; simp; omega) (by simp; omega) rfl rfl ?_) | refine sA ?_ | refine sC (fun _ => ?_) (fun _ => ?_) | fail)
  exact retq rfl rfl
 ·repeat' (first | refine aw_own_nil (t := 5) 0 36 4 (by decide) rfl rfl ?_ | (refine shC ?_; first | refine qC c1 ?_) | (refine ao_sh_bi ?_; first | refine ao_append tbOK rfl rfl rfl rfl rfl rfl rfl (by show _ * 32 ≤ _; simp; try omega) (by simp; try omega) rfl rfl ?_) | refine sA ?_ | refine sC (fun _ => ?_) (fun _ => ?_) | fail)
  exact retq rfl rfl
set_option maxHeartbeats 1000000 in
theorem ArgsR_call (g : Img) (m : Me) (hp : m.params.length ≤ 1000) : ACall Tryz.prog 98 [imgPV g, mePV m] (tys (argsS (thisS (kindG g m.owner) (m.flags.tmod 2 != 0) m.owner) m.params)) := by
 refine acall_intro tbOK Tryz.func98 rfl (by kernel_rfl) Tryz.ntmps98 (by simp) _ rfl (fun hw gB hgB => ?_)
 have c1 := ThisR_call g m
 generalize thisS (kindG g m.owner) (m.flags.tmod 2 != 0) m.owner = x at c1 ⊢
 obtain ⟨t, b⟩ := x
 cases b
 ·repeat' (first | refine aw_own_nil (t := 5) 0 36 4 (by decide) rfl rfl ?_ | (refine shC ?_; first | refine qC c1 ?_) | (refine ao_sh_bi ?_; first | refine ao_append tbOK rfl rfl rfl rfl rfl rfl rfl (by show _ * 32 ≤ _; simp; omega) (by simp; omega) rfl rfl ?_) | refine sA ?_ | refine sC (fun _ => ?_) (fun _ => ?_) | fail)
  exact retq rfl rfl
 ·repeat' (first | refine aw_own_nil (t := 5) 0 36 4 (by decide) rfl rfl ?_ | (refine shC ?_; first | refine qC c1 ?_) | (refine ao_sh_bi ?_; first | refine ao_append tbOK rfl rfl rfl rfl rfl rfl rfl (by show _ * 32 ≤ _; simp; try omega) (by simp; try omega) rfl rfl ?_) | refine sA ?_ | refine sC (fun _ => ?_) (fun _ => ?_) | fail)
  exact retq rfl rfl
theorem andB_one {n : Int} : andB n 1 = (n.tmod 2 != 0) := by
 have h1 : (BitVec.ofInt 64 n &&& BitVec.ofInt 64 1).toNat = (n % 2).toNat := by
  rw [BitVec.toNat_and]
  have : (BitVec.ofInt 64 1).toNat = 1 := by decide
  rw [this, Nat.and_one_is_mod, BitVec.toNat_ofInt]
  omega
 have h2 : n.tmod 2 = 0 ↔ n % 2 = 0 := by
  constructor
  ·intro h; have := Int.dvd_of_tmod_eq_zero h; omega
  ·intro h; exact Int.tmod_eq_zero_of_dvd (by omega)
 have h3 : andB n 1 = (IntKind.i64.wrap (((n % 2).toNat : Nat) : Int) != 0) := by
  unfold andB
  have : (BitVec.ofInt IntKind.i64.bits n &&& BitVec.ofInt IntKind.i64.bits 1).toNat = (n % 2).toNat := h1
  rw [this]
 rw [h3, wrap_in (by omega) (by omega)]
 by_cases h : n % 2 = 0
 ·simp [h, h2.2 h]
 ·have : ¬ n.tmod 2 = 0 := fun e => h (h2.1 e)
  have h5 : ((n % 2).toNat : Int) ≠ 0 := by omega
  rw [show ((((n % 2).toNat : Nat) : Int) != 0) = true from bne_iff_ne.2 h5, show (n.tmod 2 != 0) = true from bne_iff_ne.2 this]
theorem kindT_fin : ∀ n : Fin 32, kindT (n.val : Int) = kindR (n.val : Int) := by decide +kernel
theorem kindT_eq {f : Int} (h0 : 0 ≤ f) (h1 : f ≤ 31) : kindT f = kindR f := by
 have := kindT_fin ⟨f.toNat, by omega⟩
 simpa [Int.toNat_of_nonneg h0] using this
theorem well_formed {g : Img} (h : wellR g = true) : formedG g = true := by
 cases hf : formedG g with
 | true => rfl
 | false => simp [wellR, checkR, hf] at h
theorem kindP_eq {g : Img} (h : formedG g = true) (t : Int) : kindP g t = kindG g t := by
 unfold kindP kindG
 cases ht : typeAt g t with
 | none => rfl
 | some td =>
  have hm : td ∈ g.types := by
   unfold typeAt at ht
   split at ht
   ·exact List.mem_of_getElem? ht
   ·cases ht
  obtain ⟨h1, h2, _⟩ := formedT_facts ((formedG_bounds h).2.2.2 td hm)
  exact kindT_eq h1 h2
end Go.Cg
namespace Go.Cg
open Go.Proofs
set_option maxHeartbeats 1000000 in
theorem UpP_call (g : Img) (t : Int) (hg : g.types.length ≤ 1000) : ACall Tryz.prog 172 [imgPV g, pi t] (ints (up g t)) := by
 refine acall_intro tbOK Tryz.func172 rfl (by kernel_rfl) Tryz.ntmps172 (by simp) _ rfl (fun hw gB hgB => ?_)
 repeat' (first | refine sA ?_ | refine sC (fun _ => ?_) (fun _ => ?_) | fail)
 refine aw_own_nil (t := 5) 0 3 1 (by decide) rfl rfl ?_
 refine aw_loop (fun x : Int × List Int => [(1, .pv (pi x.1)), (2, .pv (.ptr (imgPV g) 0)), (5, .own 0)]) (fun x => [(0, .row 3 1 (x.2.map pi))]) (UpInv g t) (fun x => g.types.length + 1 - x.2.length) (t, []) ⟨rfl, by simp, by simp⟩ (tS) ⟨hsub_cons rfl hsub_nil, rfl⟩ ?_
 rintro ⟨t', out⟩ hi
 have hlen := hi.len
 simp only at hlen
 cases ht : typeAt g t' with
 | none =>
  have hth : there g t' = false := by
   cases hh : there g t' with
   | false => rfl
   | true => obtain ⟨td, h⟩ := (there_iff g t').1 hh; rw [ht] at h; cases h
  have c1 : ACall Tryz.prog 117 [imgPV g, pi t'] (pb false) := by rw [← hth]; exact there_call g t'
  repeat' (first | (refine shC ?_; first | refine qC c1 ?_) | refine sK ?_ | refine sC (fun _ => ?_) (fun _ => ?_) | fail)
  exact retq rfl (by rw [← hi.stop (.inl ht)]; rfl)
 | some td =>
  have hth : there g t' = true := (there_iff g t').2 ⟨td, ht⟩
  have c1 : ACall Tryz.prog 117 [imgPV g, pi t'] (pb true) := by rw [← hth]; exact there_call g t'
  obtain ⟨h0, he⟩ := typeAt_get ht
  by_cases hm : t' ∈ out
  ·have c2 : ACall Tryz.prog 227 [ints out, pi t'] (pb true) := by have := Contains_call out t'; rwa [decide_eq_true hm] at this
   repeat' (first | (refine shC ?_; first | refine qC c1 ?_ | refine qC c2 ?_) | refine sK ?_ | refine sC (fun _ => ?_) (fun _ => ?_) | fail)
   exact retq rfl (by rw [← hi.stop (.inr hm)]; rfl)
  ·have c2 : ACall Tryz.prog 227 [ints out, pi t'] (pb false) := by have := Contains_call out t'; rwa [decide_eq_false hm] at this
   have hnx := hi.next ht hm
   repeat' (first | (refine shC ?_; first | refine qC c1 ?_ | refine qC c2 ?_) | (refine shX ?_; first | refine ao_q rfl (q_index tbOK rfl rfl rfl rfl rfl rfl h0 he) rfl rfl ?_ | refine AD.step _ _ _ _ _ rfl (q_index tbOK rfl rfl rfl rfl rfl rfl h0 he) rfl rfl ?_) | (refine ao_sh_bi ?_; first | refine ao_append tbOK rfl rfl rfl rfl rfl rfl rfl (by show _ * 8 ≤ _; simp; omega) (by simp; omega) rfl rfl ?_) | refine sK ?_ | refine sC (fun _ => ?_) (fun _ => ?_) | fail)
   refine ⟨(td.ext, out ++ [t']), hnx, by simp; omega, tS, ⟨hsub_r rfl (by simp) hsub_nil, rfl⟩⟩
set_option maxHeartbeats 1000000 in
theorem CloneI_call (l : List Int) (hb : l.length ≤ 100000) : ACall Tryz.prog 151 [ints l] (ints l) := by
 refine acall_intro tbOK Tryz.func151 rfl (by kernel_rfl) Tryz.ntmps151 (by simp) _ rfl (fun hw gB hgB => ?_)
 repeat' (first | refine ao_isnil tbOK rfl rfl rfl rfl rfl rfl rfl (fun bb hbb => ?_) | refine ao_q rfl (q_slice0 tbOK rfl rfl rfl rfl rfl) rfl rfl ?_ | (refine ao_sh_bi ?_; first | refine ao_q rfl (q_append tbOK rfl rfl (.inl rfl) rfl rfl (by show _ * 8 ≤ _; simp; omega) (by simp; omega)) rfl rfl ?_) | refine sA ?_ | refine sC (fun _ => ?_) (fun _ => ?_) | fail)
 ·rename_i h
  have : l = [] := by have := hbb h; simpa using this
  subst this
  exact retq_w (t := 2) (ps := [ints []]) rfl (tells_nil 1 false) rfl rfl
 ·exact retq rfl rfl
def idxF (l : List Int) (p : Int → Bool) : Int := if l.any p then ((l.findIdx p : Nat) : Int) else -1
set_option maxHeartbeats 1000000 in
theorem IndexFunc_call (l : List Int) (p : Int → Bool) (f : FuncId) (first cap : List PV) (hp : ∀ x ∈ l, ACall Tryz.prog f (first ++ [pi x] ++ cap) (pb (p x))) : ACall Tryz.prog 234 [ints l, .fn (.func f) first cap] (pi (idxF l p)) := by
 refine acall_intro tbOK Tryz.func234 rfl (by kernel_rfl) Tryz.ntmps234 (by simp) _ rfl (fun hw gB hgB => ?_)
 have hl := ints_len hw.1
 repeat' (first | refine sA ?_ | refine sC (fun _ => ?_) (fun _ => ?_) | fail)
 refine aw_loop (fun k : Nat => [(0, .pv (ints l)), (1, .pv (.fn (.func f) first cap)), (7, .pv (pi l.length)), (8, .pv (pi k))]) (fun _ => []) (fun k => k ≤ l.length ∧ ∀ j (h : j < k) (h2 : j < l.length), p l[j] = false) (fun k => l.length - k) 0 ⟨by omega, fun j h => by omega⟩ (tS) tH ?_
 rintro k ⟨hk, hno⟩
 by_cases hlt : k < l.length
 ·have he := ints_get hlt
  have c1 := hp _ (List.getElem_mem hlt)
  cases hpx : p l[k]
  ·rw [hpx] at c1
   repeat' (first | (refine shC ?_; first | refine qV (c1) ?_) | (refine shX ?_; first | refine qX he ?_) | refine sK ?_ | refine sC (fun _ => ?_) (fun _ => ?_) | fail)
   exact ⟨k + 1, ⟨hlt, fun j hj h2 => by
    by_cases e : j = k
    ·subst e; exact hpx
    ·exact hno j (by omega) h2⟩, tD, tS, tH⟩
  ·rw [hpx] at c1
   have hi : l.findIdx p = k := by
    rw [List.findIdx_eq hlt]
    exact ⟨hpx, fun j hj => hno j hj (by omega)⟩
   have ha : l.any p = true := List.any_eq_true.2 ⟨_, List.getElem_mem hlt, hpx⟩
   repeat' (first | (refine shC ?_; first | refine qV (c1) ?_) | (refine shX ?_; first | refine qX he ?_) | refine sK ?_ | refine sC (fun _ => ?_) (fun _ => ?_) | fail)
   exact retq rfl (by simp [retPV, idxF, ha, hi])
 ·have ha : l.any p = false := by
   rw [List.any_eq_false]
   intro x hx
   obtain ⟨j, hj, rfl⟩ := List.getElem_of_mem hx
   simp [hno j (by omega) hj]
  repeat' (first | refine sK ?_ | refine sC (fun _ => ?_) (fun _ => ?_) | fail)
  exact retq rfl (by simp [retPV, idxF, ha])
set_option maxHeartbeats 1000000 in
theorem DeleteFuncNo_call (l : List Int) (f : FuncId) (first cap : List PV) (hp : ∀ x ∈ l, ACall Tryz.prog f (first ++ [pi x] ++ cap) (pb false)) : ACall Tryz.prog 272 [ints l, .fn (.func f) first cap] (ints l) := by
 refine acall_intro tbOK Tryz.func272 rfl (by kernel_rfl) Tryz.ntmps272 (by simp) _ rfl (fun hw gB hgB => ?_)
 have c1 := IndexFunc_call l (fun _ => false) f first cap hp
 rw [show idxF l (fun _ => false) = -1 by simp [idxF]] at c1
 repeat' (first | (refine shC ?_; first | refine qC c1 ?_) | refine sA ?_ | refine sC (fun _ => ?_) (fun _ => ?_) | fail)
 exact retq rfl rfl
set_option maxHeartbeats 1000000 in
theorem faces1_call (g : Img) (x : Int) : ACall Tryz.prog 273 [pi x, .ptr (imgPV g) 0] (pb (!there g x)) := by
 refine acall_intro tbOK Tryz.func273 rfl (by kernel_rfl) Tryz.ntmps273 (by simp) _ rfl (fun hw gB hgB => ?_)
 repeat' (first | (refine shC ?_; first | refine qC (there_call g x) ?_) | refine sA ?_ | refine sC (fun _ => ?_) (fun _ => ?_) | fail)
 all_goals first | (refine retq rfl ?_; first | (simp only [retPV] at *; simp only [*, BL, List.length_map]; done) | (simp_all [retPV]; done) | (simp_all [retPV]; omega) | (simp_all [retPV]; intros; omega)) | (refine retn rfl ?_; first | (simp only [retPV, BL, List.length_map] at *; simp only [*, BL, List.length_map]; done) | (simp_all [retPV]; done) | (simp_all [retPV]; omega) | (simp_all [retPV]; intros; omega)) | skip
set_option maxHeartbeats 1000000 in
theorem facesP_call (g : Img) (t : Int) (hfc : (facesAt g t).length ≤ 1000) (hin : ∀ f ∈ facesAt g t, there g f = true) : ACall Tryz.prog 236 [imgPV g, pi t] (ints (facesAt g t)) := by
 refine acall_intro tbOK Tryz.func236 rfl (by kernel_rfl) Tryz.ntmps236 (by simp) _ rfl (fun hw gB hgB => ?_)
 cases ht : typeAt g t with
 | none =>
  have hth : there g t = false := by
   cases hh : there g t with
   | false => rfl
   | true => obtain ⟨td, h⟩ := (there_iff g t).1 hh; rw [ht] at h; cases h
  have c1 : ACall Tryz.prog 117 [imgPV g, pi t] (pb false) := by rw [← hth]; exact there_call g t
  repeat' (first | (refine shC ?_; first | refine qC c1 ?_) | refine sK ?_ | refine sC (fun _ => ?_) (fun _ => ?_) | fail)
  rw [facesAt, ht]
  exact retq_w (t := 4) (ps := [ints []]) rfl (tells_nil 1 false) rfl rfl
 | some td =>
  have hth : there g t = true := (there_iff g t).2 ⟨td, ht⟩
  have c1 : ACall Tryz.prog 117 [imgPV g, pi t] (pb true) := by rw [← hth]; exact there_call g t
  obtain ⟨h0, he⟩ := typeAt_get ht
  have hfa : facesAt g t = td.faces := by rw [facesAt, ht]
  rw [hfa] at hin hfc ⊢
  have c2 := DeleteFuncNo_call td.faces 273 [] [.ptr (imgPV g) 0] (fun x hx => by have := faces1_call g x; rw [hin x hx] at this; exact this)
  repeat' (first | (refine shC ?_; first | refine qC c1 ?_ | refine ao_q rfl (q_call rfl rfl (CloneI_call _ (by omega))) rfl rfl ?_ | refine AD.step _ _ _ _ _ rfl (q_call rfl rfl (CloneI_call _ (by omega))) rfl rfl ?_ | refine qC c2 ?_) | (refine shX ?_; first | refine ao_q rfl (q_index tbOK rfl rfl rfl rfl rfl rfl h0 he) rfl rfl ?_ | refine AD.step _ _ _ _ _ rfl (q_index tbOK rfl rfl rfl rfl rfl rfl h0 he) rfl rfl ?_) | refine sK ?_ | refine sC (fun _ => ?_) (fun _ => ?_) | fail)
  exact retq rfl rfl
set_option maxHeartbeats 1000000 in
theorem Faces1_call (g : Img) (t : Int) (hfc : (facesAt g t).length ≤ 1000) (hin : ∀ f ∈ facesAt g t, there g f = true) : ACall Tryz.prog 238 [pi t, .ptr (imgPV g) 0] (ints (facesAt g t)) := by
 refine acall_intro tbOK Tryz.func238 rfl (by kernel_rfl) Tryz.ntmps238 (by simp) _ rfl (fun hw gB hgB => ?_)
 repeat' (first | (refine shC ?_; first | refine qC (facesP_call g t hfc hin) ?_) | refine sA ?_ | refine sC (fun _ => ?_) (fun _ => ?_) | fail)
 exact retq rfl rfl
end Go.Cg
namespace Go.Cg
open Go.RowKit Go.Maps Go.WideElems
def pinsOf (us : Nat → Value) : Nat → Env → HEnv
 | _, [] => []
 | b, (t, av) :: e => (b, .pin av (us t)) :: pinsOf us (b + 1) e
def noDup : Env → Bool
 | [] => true
 | (t, _) :: e => (Env.get e t).isNone && noDup e
def idsLt (b : Nat) : HEnv → Bool
 | [] => true
 | (i, _) :: e => Nat.blt i b && idsLt b e
theorem get_append {H G : HEnv} {i : Nat} : HEnv.get (H ++ G) i = match HEnv.get H i with | some h => some h | none => HEnv.get G i := by
 induction H with
 | nil => rfl
 | cons x H ih =>
  obtain ⟨j, h⟩ := x
  rw [List.cons_append, HEnv.get_cons, HEnv.get_cons]
  split
  ·rfl
  ·exact ih
theorem idsLt_get {b : Nat} : ∀ {H : HEnv}, idsLt b H = true → ∀ i h, H.get i = some h → i < b
 | [], _, i, h, hg => by simp [HEnv.get_nil] at hg
 | (j, x) :: e, hi, i, h, hg => by
  simp only [idsLt, Bool.and_eq_true] at hi
  rw [HEnv.get_cons] at hg
  split at hg
  ·rename_i e'; subst e'; exact Nat.le_of_ble_eq_true hi.1
  ·exact idsLt_get hi.2 i h hg
theorem pins_get {us : Nat → Value} : ∀ {e : Env} {b i : Nat} {h : HE}, HEnv.get (pinsOf us b e) i = some h → b ≤ i ∧ ∃ t av, (t, av) ∈ e ∧ h = .pin av (us t)
 | [], b, i, h, hg => by simp [pinsOf, HEnv.get_nil] at hg
 | (t, av) :: e, b, i, h, hg => by
  rw [pinsOf, HEnv.get_cons] at hg
  split at hg
  ·rename_i e'; subst e'
   simp only [Option.some.injEq] at hg; subst hg
   exact ⟨Nat.le_refl _, t, av, by simp, rfl⟩
  ·obtain ⟨h1, t', av', h2, h3⟩ := pins_get hg
   exact ⟨by omega, t', av', by simp [h2], h3⟩
theorem pins_mem {us : Nat → Value} : ∀ {e : Env} {b : Nat} {t : Nat} {av : AV}, (t, av) ∈ e → ∃ i, b ≤ i ∧ HEnv.get (pinsOf us b e) i = some (.pin av (us t))
 | [], b, t, av, h => by simp at h
 | (t', av') :: e, b, t, av, h => by
  simp only [List.mem_cons, Prod.mk.injEq] at h
  rcases h with ⟨rfl, rfl⟩ | h
  ·exact ⟨b, Nat.le_refl _, by rw [pinsOf, HEnv.get_cons, if_pos rfl]⟩
  ·obtain ⟨i, h1, h2⟩ := pins_mem (b := b + 1) h
   exact ⟨i, by omega, by rw [pinsOf, HEnv.get_cons, if_neg (by omega)]; exact h2⟩
theorem env_mem : ∀ {e : Env} {t : Nat} {av : AV}, e.get t = some av → (t, av) ∈ e
 | [], t, av, h => by simp [Env.get_nil] at h
 | (t', av') :: e, t, av, h => by
  rw [Env.get_cons] at h
  split at h
  ·rename_i e'; subst e'; simp only [Option.some.injEq] at h; subst h; simp
  ·simp [env_mem h]
theorem env_get_of : ∀ {e : Env}, noDup e = true → ∀ {t : Nat} {av : AV}, (t, av) ∈ e → e.get t = some av
 | [], _, t, av, h => by simp at h
 | (t', av') :: e, hn, t, av, h => by
  simp only [noDup, Bool.and_eq_true, Option.isNone_iff_eq_none] at hn
  rw [Env.get_cons]
  simp only [List.mem_cons, Prod.mk.injEq] at h
  rcases h with ⟨rfl, rfl⟩ | h
  ·simp
  ·have := env_get_of hn.2 h
   split
   ·rename_i e'; subst e'; rw [hn.1] at this; cases this
   ·exact this
def ARels (K : KK) (w : World) (ρ : Nat → Value) (H : HEnv) (ars : List AV) (vs : List Value) : Prop :=
 vs.length = ars.length ∧ ∀ (k : Nat) (c : AV) (v : Value), ars[k]? = some c → vs[k]? = some v → ARel K w ρ H c v
structure ACallH (P : Program) (f : FuncId) (args : List AV) (H H' : HEnv) : Prop where
 stands : Stands P f
 calls : ∀ (g : Base) (K : KK) (ρ : Nat → Value) (w : World) (vs : List Value), Plain g → FS g K ρ H w → ARels K w ρ H args vs →
  Calls P f vs.toArray w fun e w' => ∃ K' ρ', e = .returned (.tuple #[]) ∧ FS g K' ρ' H' w'
def argsEA : Nat → List AV → Env
 | _, [] => []
 | k, p :: ps => (k, p) :: argsEA (k + 1) ps
def RetH (H' : HEnv) : QC := fun ex _ H => (ex = .normal ∨ ex = .ret) ∧ HFit H H' []
section
variable {P : Program} {tb : Tab} {n : Nat} {g : Base} {K : KK} {w : World} {ρ : Nat → Value} {H H' : HEnv} {env : Env} {a : Act} {ops : List Oper} {o : Oper} {rest : List Oper} {Q : Env → HEnv → Prop} {f : FuncId} {args : List AV}
theorem argsEA_get : ∀ (ps : List AV) (k t : Nat) (av : AV), (argsEA k ps).get t = some av → k ≤ t ∧ ps[t - k]? = some av
 | [], k, t, av, h => by simp [argsEA, Env.get_nil] at h
 | p :: ps, k, t, av, h => by
  simp only [argsEA, Env.get_cons] at h
  split at h
  ·rename_i e; subst e; simp only [Option.some.injEq] at h; exact ⟨Nat.le_refl _, by simp [h]⟩
  ·obtain ⟨h1, h2⟩ := argsEA_get ps (k + 1) t av h
   refine ⟨by omega, ?_⟩
   rw [show t - k = (t - (k + 1)) + 1 by omega]
   simpa using h2
theorem acallH_intro {fn : Func} {c : Code} (hf : P.funcs[f]? = some fn) (hb : fn.body = some c) (hn : (fn.name == "runtime.NumGoroutine") = false) (hnt : fn.ntmps = n) (hargs : args.length ≤ n) (hrs : fn.results = #[])
  (h : ∀ g : Base, Plain g → AW P n g c (argsEA 0 args) H (RetH H')) : ACallH P f args H H' := by
 refine ⟨⟨fn, hf, by simp [hb], hn⟩, fun g0 K ρ w vs hw1 hfs0 hv => ?_⟩
 obtain ⟨g, hg0⟩ : ∃ g : Base, g = ⟨g0.w0, g0.K0, g0.w1, [], g0.wp, g0.pr⟩ := ⟨_, rfl⟩
 have hfs : FS g K ρ H w := by subst hg0; exact ⟨hfs0.below, hfs0.old, hfs0.new, hfs0.lt, hfs0.others, ⟨hfs0.pt.same, hfs0.pt.kept⟩, hfs0.away, hfs0.heap⟩
 refine calls_of_wp hf hb ?_
 have hlen : vs.length = args.length := hv.1
 refine wp_mono (wpIn_wide.1 ((h g (by subst hg0; exact hw1)).go _ w ⟨by simp [hnt]; omega, by subst hg0; rfl, K, ρ, hfs, ?_⟩ none 0)) ?_
 ·intro t av hg
  obtain ⟨_, hp⟩ := argsEA_get args 0 t av hg
  have hlt : t < vs.length := by rw [hlen]; exact (List.getElem?_eq_some_iff.1 hp).1
  refine ⟨vs[t], ?_, hv.2 t av _ hp (List.getElem?_eq_getElem hlt)⟩
  rw [Array.getElem?_append_left (by simpa using hlt)]
  simp [hlt]
 ·rintro e a' w' ⟨env1, H1, hi, he, hfit⟩
  have hi2 : Inv n g [] H' a' w' := (hi.sub sub_nil).hsub hfit
  obtain ⟨_, h2, K', ρ', hf1, _⟩ := hi2
  subst hg0
  have hf' : FS g0 K' ρ' H' w' := ⟨hf1.below, hf1.old, hf1.new, hf1.lt, hf1.others, ⟨hf1.pt.same, hf1.pt.kept⟩, hf1.away, hf1.heap⟩
  have hres : (results fn a'.tmps).run P w' = .ok (.tuple #[]) w' := by
   unfold results
   rw [hrs, Array.mapM_eq_mapM_toList]
   rfl
  rcases he with rfl | rfl
  ·exact ⟨h2, _, hres, K', ρ', rfl, hf'⟩
  ·exact ⟨h2, _, hres, K', ρ', rfl, hf'⟩
def avs (env : Env) : List Operand → Option (List AV)
 | [] => some []
 | x :: xs => match env.val x, avs env xs with | some v, some vs => some (v :: vs) | _, _ => none
theorem avs_rel (he : EnvR K w ρ H env a.tmps) : ∀ {xs : List Operand} {ars : List AV}, avs env xs = some ars → ARels K w ρ H ars (xs.map a.eval)
 | [], ars, h => by simp [avs] at h; subst h; exact ⟨rfl, fun k c v h => by simp at h⟩
 | x :: xs, ars, h => by
  simp only [avs] at h
  split at h
  ·rename_i v vs h1 h2
   simp only [Option.some.injEq] at h; subst h
   obtain ⟨l1, l2⟩ := avs_rel he h2
   refine ⟨by simpa using l1, fun k c u hc hu => ?_⟩
   cases k with
   | zero => simp at hc hu; subst hc hu; exact val_rel he h1
   | succ k => simp at hc hu; exact l2 k c u hc (by simpa using hu)
  ·cases h
theorem isSome_append {G : HEnv} (j : Nat) (h : (H.get j).isSome = true) : (HEnv.get (H ++ G) j).isSome = true := by
 rw [get_append]
 cases hh : H.get j with
 | none => simp [hh] at h
 | some x => rfl
theorem ao_callH {t d : Tmp} {xs : Array Operand} {ts : Array TypeId} {first cap ars : List AV} (env2 : Env) (H' : HEnv) (b : Nat) (hw1 : Plain g) (hg : guardE ops env o = some true) (hop : o.op = .call { callee := .value (.tmp t), args := xs, argTypes := ts })
  (ht : env.get t = some (.fn (.func f) first cap)) (hargs : avs env xs.toList = some ars) (hs : Sub env env2) (hnd : noDup env2 = true) (_hb : idsLt b H = true) (hb' : idsLt b H' = true)
  (hfit : (envIn H' env2 && hIn H' H') = true) (hd : o.dst = some d) (hdt : Nat.blt d n = true)
  (hc : ∀ us, ACallH P f (first ++ ars ++ cap) (H ++ pinsOf us b env2) (H' ++ pinsOf us b env2))
  (h : AO P n g ops.toArray rest ((d, .pv (.tup [])) :: env2) H' Q) : AO P n g ops.toArray (o :: rest) env H Q := by
 refine ⟨fun a w hinv => ?_⟩
 have hw := wanted_of hinv hg
 have hinv2 := hinv.sub hs
 obtain ⟨h1, h2, K, ρ, hf, he⟩ := hinv
 have he2 : EnvR K w ρ H env2 a.tmps := fun t av ht => he t av (hs t av ht)
 refine wpList_step fun KK hKK => ?_
 rw [if_pos hw]
 let us : Nat → Value := fun t => a.tmps.getD t undef
 have hus : ∀ t av, (t, av) ∈ env2 → ARel K w ρ H av (us t) := by
  intro t av hm
  obtain ⟨v, v1, v2⟩ := he2 t av (env_get_of hnd hm)
  have : us t = v := by simp [us, Array.getD_eq_getD_getElem?, v1]
  rw [this]; exact v2
 have hlat : Later K K w w := .refl K w
 have hk : ∀ j, (H.get j).isSome = true → (HEnv.get (H ++ pinsOf us b env2) j).isSome = true ∧ ρ j = ρ j := fun j hj => ⟨isSome_append j hj, rfl⟩
 have hfs : FS g K ρ (H ++ pinsOf us b env2) w := by
  have e1 : ∀ i x, HEnv.get (H ++ pinsOf us b env2) i = some x → x.live = true → H.get i = some x := by
   intro i x hi hl
   rw [get_append] at hi
   cases hh : H.get i with
   | some z => rw [hh] at hi; exact hi
   | none =>
    rw [hh] at hi
    obtain ⟨_, t, av, hm, rfl⟩ := pins_get hi
    simp [HE.live] at hl
  refine ⟨hf.below, hf.old, hf.new, hf.lt, hf.others, hf.pt, fun i h bb hi hl => hf.away i h bb (e1 i h hi hl) hl, ?_, ?_⟩
  ·intro i e hi
   rw [get_append] at hi
   cases hh : H.get i with
   | some x => rw [hh] at hi; simp only [Option.some.injEq] at hi; subst hi; exact (hf.heap.ok i _ hh).keeps (.refl hf.lt) hf.lt hk
   | none =>
    rw [hh] at hi
    obtain ⟨_, t, av, hm, rfl⟩ := pins_get hi
    exact (hus t av hm).keeps hlat hk
  ·intro i j x y bb hij hi hj lx ly bx bby
   have e1 : ∀ i x, HEnv.get (H ++ pinsOf us b env2) i = some x → x.live = true → H.get i = some x := by
    intro i x hi hl
    rw [get_append] at hi
    cases hh : H.get i with
    | some z => rw [hh] at hi; exact hi
    | none =>
     rw [hh] at hi
     obtain ⟨_, t, av, hm, rfl⟩ := pins_get hi
     simp [HE.live] at hl
   exact hf.heap.apart i j x y bb hij (e1 i x hi lx) (e1 j y hj ly) lx ly bx bby
 have hfn := val_rel he (x := .tmp t) ht
 generalize hfv : a.eval (.tmp t) = fv at hfn
 cases hfn with
 | fn _ _ _ vf vc f1 f2 f3 f4 =>
  have hpa := avs_rel (a := a) he hargs
  have hall : ARels K w ρ (H ++ pinsOf us b env2) (first ++ ars ++ cap) (vf ++ xs.toList.map a.eval ++ vc) := by
   refine ⟨by have := hpa.1; simp at this; simp [f1, f2, this], fun k c v hc hv => ?_⟩
   have : ARel K w ρ H c v := by
    rw [List.append_assoc, List.getElem?_append] at hc hv
    split at hc
    ·rename_i hl
     rw [if_pos (by omega)] at hv
     exact f3 k c v hc hv
    ·rename_i hl
     rw [if_neg (by omega)] at hv
     rw [f1] at hv
     rw [List.getElem?_append] at hc hv
     have e : (xs.toList.map a.eval).length = ars.length := hpa.1
     split at hc
     ·rename_i hl2
      rw [if_pos (by omega)] at hv
      exact hpa.2 _ c v hc hv
     ·rename_i hl2
      rw [if_neg (by omega), e] at hv
      exact f4 _ c v hc hv
   exact this.keeps hlat hk
  have hrun : (execOp a.eval o).run P w = .ok (.enter f (vf ++ xs.toList.map a.eval ++ vc).toArray) w := by
   have e : (vf ++ xs.toList.map a.eval ++ vc).toArray = vf.toArray ++ xs.map a.eval ++ vc.toArray := by
    rw [show xs.map a.eval = (xs.toList.map a.eval).toArray by rw [← Array.toList_map, Array.toArray_toList]]
    simp
   rw [e]
   simp [execOp, hop, resolve, hfv, Deferred.ofValue, invoke, call_run (hc us).stands]
  unfold Oper.wp
  rw [hrun]
  simp only [Oper.upon]
  refine ((hc us).calls g K ρ w _ hw1 hfs hall).mono fun e w'' ⟨K', ρ', e1, hfs'⟩ => ?_
  subst e1
  have hinv' : Inv n g env2 (H' ++ pinsOf us b env2) a w'' := by
   refine ⟨h1, h2, K', ρ', hfs', fun t av ht => ?_⟩
   obtain ⟨i, hi1, hi2⟩ := pins_mem (us := us) (b := b) (env_mem ht)
   have hno : H'.get i = none := by
    cases hh : H'.get i with
    | none => rfl
    | some x => have := idsLt_get hb' i x hh; omega
   have hget : HEnv.get (H' ++ pinsOf us b env2) i = some (.pin av (us t)) := by rw [get_append, hno]; exact hi2
   have hrel := hfs'.heap.ok i _ hget
   obtain ⟨v, v1, _⟩ := he2 t av ht
   have : us t = v := by simp [us, Array.getD_eq_getD_getElem?, v1]
   exact ⟨v, v1, by rw [← this]; exact hrel⟩
  have hinv3 : Inv n g env2 H' a w'' := hinv'.hsub ⟨fun i x hi => by rw [get_append, hi], hfit⟩
  obtain ⟨q1, q2, K3, ρ3, q3, q4⟩ := hinv3
  refine hKK _ _ (h.go _ _ ⟨put_size q1, put_defers q2, K3, ρ3, q3, ?_⟩)
  rw [hd]
  exact env_put q1 hdt q4 (.pv _ _ (.tup [] [] rfl (by simp)))
end
end Go.Cg
namespace Go.Cg
open Go.RowKit Go.Maps Go.WideElems Go.ChangeMaps Go.MapKept
def MapSet (P : Program) (kt et : TypeId) (met : List Int) (o : Obj) : Prop :=
 ∃ es clock, o = .map es clock ∧ Fit (H := Unit) P kt (plainElem P et) es clock ∧ es.size ≤ met.length ∧
  ∀ x, (Lit.int .i64 x).wf = true → (DataW.map ((es.toList.map (rg P kt (plainElem (H := Unit) P et))).foldr DataW.insert [])).atKey (.int .i64 x) (.lit (.int .i64 0)) = .lit (.int .i64 (if x ∈ met then 1 else 0))
section
variable {P : Program} {tb : Tab} {n : Nat} {g : Base} {K : KK} {w : World} {ρ : Nat → Value} {H : HEnv} {env : Env} {a : Act} {ops : List Oper} {o : Oper} {rest : List Oper} {Q : Env → HEnv → Prop}
theorem mapSet_nil (kt et : TypeId) : MapSet P kt et [] (.map #[] 0) :=
 ⟨#[], 0, rfl, ⟨by simp, stamped_empty 0, by simp⟩, Nat.le_refl _, fun x _ => by simp; rfl⟩
theorem ao_makeMap {t kt et d : Nat} (i : Nat) (hg : guardE ops env o = some true) (hop : o.op = .makeMap t none) (hi : H.get i = none) (hd : o.dst = some d) (ht : Nat.blt d n = true)
  (h : AO P n g ops.toArray rest ((d, .own i) :: env) ((i, .obj (MapSet P kt et [])) :: H) Q) : AO P n g ops.toArray (o :: rest) env H Q := by
 refine ⟨fun a w hinv => ?_⟩
 have hw := wanted_of hinv hg
 obtain ⟨h1, h2, K, ρ, hf, he⟩ := hinv
 refine wpList_step fun KK hKK => ?_
 rw [if_pos hw]
 have hrun : (execOp a.eval o).run P w = .ok (.value (.map (some w.heap.size))) (w.alloc (.map #[] 0)) := by
  simp [execOp, hop, run_makeMap]
 unfold Oper.wp
 rw [hrun]
 simp only [Oper.upon]
 have hev : Evo K K w (w.alloc (.map #[] 0)) := ⟨(Below.refl _ _).alloc (Nat.le_refl _) _, fun _ _ h => h, fun _ _ h => .inl h, fun b o h => by have := hf.lt b o h; simp; omega⟩
 refine hKK _ _ (h.go _ _ ⟨put_size h1, put_defers h2, K, fun j => if j = i then .map (some w.heap.size) else ρ j, hf.fresh hev hi ⟨w.heap.size, .map #[] 0, rfl, hf.below.size, heap_alloc_new w _, mapSet_nil kt et, fun o ho => by have := hf.lt _ o ho; omega⟩ (by simp [blockOf]), ?_⟩)
 rw [hd]
 have := ARel.own (K := K) (w := w.alloc (.map #[] 0)) (ρ := fun j => if j = i then .map (some w.heap.size) else ρ j) (H := (i, HE.obj (MapSet P kt et [])) :: H) i (by simp [HEnv.get_cons])
 exact env_put h1 ht (he.keeps (hev.later hf.lt) (fresh_keeps hi _ _)) (by simpa using this)
theorem owns_of {kt et : TypeId} {met : List Int} {b : Nat} {ob : Obj} (hb : w.heap[b]? = some ob) (h : MapSet P kt et met ob) :
  ∃ D : DataW Unit, w.ownsMap P kt (plainElem P et) b met.length D ∧ ∀ x, (Lit.int .i64 x).wf = true → D.atKey (.int .i64 x) (.lit (.int .i64 0)) = .lit (.int .i64 (if x ∈ met then 1 else 0)) := by
 obtain ⟨es, clock, rfl, F, hs, hat⟩ := h
 exact ⟨_, ⟨es, clock, hb, F, hs, rfl⟩, hat⟩
theorem tab_map {t kt et : Nat} (htb : TabOK P tb) (h : tb.k t = .map kt et) : P.underlying t = some (.map kt et) := by
 obtain ⟨d, i, h1, _, _, h2⟩ := tab_und htb h (by simp)
 cases d <;> simp [tkOf] at h2
 obtain ⟨rfl, rfl⟩ := h2; exact h1
theorem q_lookup {t kt et : Nat} {m x : Operand} {i : Nat} {met : List Int} {k : Int} (htb : TabOK P tb) (hop : o.op = .lookup t m x false) (hk : tb.k t = .map kt et) (hkt : tb.k kt = .int .i64) (het : tb.k et = .int .i64) (hz : tb.zero et = some (.int .i64 0))
  (hm : env.val m = some (.own i)) (hi : H.get i = some (.obj (MapSet P kt et met))) (hx : env.pv H x = some (.base (.int .i64 k))) (hwf : (Lit.int .i64 k).wf = true) :
  QStep P g H o env (.pv (.base (.int .i64 (if k ∈ met then 1 else 0)))) := by
 refine ⟨fun K ρ a w hf hv => ?_⟩
 have hmr := hv m (by rw [hop]; simp [Op.operands]) _ hm
 have hxr := opE_pv hf (hv x (by rw [hop]; simp [Op.operands])) hx
 generalize hmv : a.eval m = mv at hmr
 generalize hxv : a.eval x = xv at hxr
 cases hxr
 obtain ⟨b, ob, hr, hB, hheap, hX, hn⟩ := hf.heap.ok i _ hi
 cases hmr with
 | own _ _ =>
  obtain ⟨D, hown, hat⟩ := owns_of hheap hX
  have hzi : (zeroValue et).run P w = .ok (.int .i64 0) w := by
   unfold Tab.zero at hz
   split at hz
   ·rename_i ti hti
    obtain ⟨i, e1, _, _, e4, _⟩ := tab_info htb hti
    simp [zeroValue, typeInfo, e1, e4, hz]
   ·cases hz
  obtain ⟨c, hrun, hc, hwc⟩ := hown.lookup_int (t := t) (int_keyed (tab_int htb hkt)) (tab_map htb hk) (tab_int htb het) hzi (keyOf_int_mk (tab_int htb hkt) hwf)
  rw [hat k hwf] at hc
  simp only [DataW.lit.injEq, Lit.int.injEq, true_and] at hc
  subst hc
  have : (execOp a.eval o).run P w = .ok (.value (.int .i64 (if k ∈ met then 1 else 0))) w := by
   rw [← hr] at hrun
   simp [execOp, hop, hmv, hxv, hrun, Result.andThen]
  rw [this]
  exact qval hf (.pv _ _ (.base _ rfl))
theorem q_lookupC {t kt et : Nat} {m x : Operand} {i : Nat} {met : List Int} {k c : Int} (hc : (if k ∈ met then (1 : Int) else 0) = c) (htb : TabOK P tb) (hop : o.op = .lookup t m x false) (hk : tb.k t = .map kt et) (hkt : tb.k kt = .int .i64) (het : tb.k et = .int .i64) (hz : tb.zero et = some (.int .i64 0))
  (hm : env.val m = some (.own i)) (hi : H.get i = some (.obj (MapSet P kt et met))) (hx : env.pv H x = some (.base (.int .i64 k))) (hwf : (Lit.int .i64 k).wf = true) :
  QStep P g H o env (.pv (.base (.int .i64 c))) := by
 subst hc; exact q_lookup htb hop hk hkt het hz hm hi hx hwf
theorem AW.weak {c : Code} {QQ : QC} (env2 : Env) (H2 : HEnv) (hs : Sub env env2) (hf : HFit H H2 env2) (h : AW P n g c env2 H2 QQ) : AW P n g c env H QQ := ⟨fun a w hi => h.go a w ((hi.sub hs).hsub hf)⟩
theorem ao_weak {l : List Oper} (env2 : Env) (H2 : HEnv) (hs : Sub env env2) (hf : HFit H H2 env2) (h : AO P n g ops.toArray l env2 H2 Q) : AO P n g ops.toArray l env H Q := ⟨fun a w hi => h.go a w ((hi.sub hs).hsub hf)⟩
theorem ao_mapUpdate {t kt et : Nat} {m x v : Operand} {i : Nat} {met : List Int} {k : Int} (hw1 : g.w1.heap.size = 0) (htb : TabOK P tb) (hg : guardE ops env o = some true) (hop : o.op = .mapUpdate t m x v) (hk : tb.k t = .map kt et) (hkt : tb.k kt = .int .i64) (het : tb.k et = .int .i64)
  (hm : env.val m = some (.own i)) (hi : H.get i = some (.obj (MapSet P kt et met))) (hx : env.pv H x = some (.base (.int .i64 k))) (hv : env.pv H v = some (.base (.int .i64 1))) (hwf : (Lit.int .i64 k).wf = true) (hlen : met.length < maxLen) (hd : o.dst = none)
  (h : AO P n g ops.toArray rest env ((i, .obj (MapSet P kt et (met ++ [k]))) :: H) Q) : AO P n g ops.toArray (o :: rest) env H Q := by
 refine ⟨fun a w hinv => ?_⟩
 have hw := wanted_of hinv hg
 obtain ⟨h1, h2, K, ρ, hf, he⟩ := hinv
 refine wpList_step fun KK hKK => ?_
 rw [if_pos hw]
 have hmr := val_rel he hm
 have hxr := opE_pv (a := a) hf (x := x) (fun av hh => val_rel he hh) hx
 have hvr := opE_pv (a := a) hf (x := v) (fun av hh => val_rel he hh) hv
 generalize hmv : a.eval m = mv at hmr
 generalize hxv : a.eval x = xv at hxr
 generalize hvv : a.eval v = vv at hvr
 cases hxr; cases hvr
 obtain ⟨b, ob, hr, hB, hheap, hX, hnK⟩ := hf.heap.ok i _ hi
 cases hmr with
 | own _ _ =>
  obtain ⟨D, hown, hat⟩ := owns_of hheap hX
  have h1wf : (Lit.int .i64 1).wf = true := by decide
  obtain ⟨w', hrun, hown', hgrow⟩ := hown.update (t := t) (int_keyed (tab_int htb hkt)) (tab_map htb hk) hlen (val := .int .i64 1) (keyOf_int_mk (tab_int htb hkt) hwf) (plainElem_int (tab_int htb het) h1wf)
  have hrun' : (execOp a.eval o).run P w = .ok .skip w' := by
   rw [← hr] at hrun
   simp [execOp, hop, hmv, hxv, hvv, hrun, Result.andThen]
  have hX' : ∃ ob', w'.heap[b]? = some ob' ∧ MapSet P kt et (met ++ [k]) ob' := by
   obtain ⟨es, clock, hb, F, hs, hD⟩ := hown'
   refine ⟨_, hb, es, clock, rfl, F, by simpa using hs, fun y hy => ?_⟩
   rw [← hD]
   by_cases e : y = k
   ·subst e
    rw [atKey_put_same hown.isMap (by simp [WideAt.IsKeyLit])]
    simp
   ·rw [atKey_put_other (by simpa using e), hat y hy]
    simp [e]
  obtain ⟨ob', hb', hX2⟩ := hX'
  unfold Oper.wp
  rw [hrun']
  simp only [Oper.upon]
  have hlat : Later K K w w' := ⟨fun _ _ h => h, fun b' o hk => by
   have hne : b' ≠ b := by rintro rfl; exact hnK o hk
   exact World.cell?_of_block (hgrow.block b' (hf.lt b' o hk) (by simp [hne]))⟩
  have hkeep : ∀ j, (H.get j).isSome = true → (HEnv.get ((i, .obj (MapSet P kt et (met ++ [k]))) :: H) j).isSome = true ∧ ρ j = ρ j := by
   intro j hj
   refine ⟨?_, rfl⟩
   simp only [HEnv.get_cons]
   split
   ·rfl
   ·exact hj
  have hd' : a.put o.dst undef = a := by rw [hd]; rfl
  rw [hd']
  refine hKK _ _ (h.go _ _ ⟨h1, h2, K, ρ, ⟨hf.below.grown hgrow hf.below.size (fun k hk => by simp at hk; omega), hf.old, hf.new, fun b o hk => Nat.lt_of_lt_of_le (hf.lt b o hk) hgrow.size, ⟨by rw [hw1]; omega, fun k o hk => by have := (Array.getElem?_eq_some_iff.1 hk).1; omega⟩, hf.pt.grown hf.old hgrow hlat (fun b2 hb2 => by cases hb2; exact hf.away i _ b hi rfl (by rw [hr]; rfl)) (fun _ _ h => .inl h), hf.away.set hi rfl, ?_, ?_⟩, he.keeps hlat hkeep⟩)
  ·intro j e hj
   simp only [HEnv.get_cons] at hj
   split at hj
   ·rename_i e'; subst e'
    simp only [Option.some.injEq] at hj; subst hj
    exact ⟨b, ob', hr, hB, hb', hX2, hnK⟩
   ·rename_i hne
    by_cases hlive : e.live = true
    ·have := (hf.heap.ok j e hj).grown (f := id) hgrow hlat (fun b o h => .inl h) (fun av v h => h.keeps hlat hkeep) hlive (fun b' hb' e' => by
      simp at e'; subst e'
      exact hf.heap.apart i j _ e b hne hi hj rfl hlive (by rw [hr]; rfl) hb')
     cases e <;> exact this
    ·cases e <;> simp [HE.live] at hlive
     ·trivial
     ·exact ARel.keeps hlat hkeep (hf.heap.ok j _ hj)
  ·intro j k2 e e' bb hjk hj hk' hlj hlk hbj hbk
   have e1 : ∀ (j : Nat) (hh : HE), HEnv.get ((i, .obj (MapSet P kt et (met ++ [k]))) :: H) j = some hh → hh.live = true → ∃ h0, H.get j = some h0 ∧ h0.live = true := by
    intro j hh hj hl
    rw [HEnv.get_cons] at hj
    split at hj
    ·rename_i e'; subst e'; exact ⟨_, hi, rfl⟩
    ·exact ⟨hh, hj, hl⟩
   obtain ⟨a1, a2, a3⟩ := e1 j e hj hlj
   obtain ⟨b1, b2, b3⟩ := e1 k2 e' hk' hlk
   exact hf.heap.apart j k2 a1 b1 bb hjk a2 b2 a3 b3 hbj hbk
end
end Go.Cg
namespace Go.Proofs
open Go.Shelf
def Tryz.lays189_ren : Go.Shelf.Ren := ⟨fun | 189 => 275 | 125 => 291 | 257 => 290 | 128 => 317 | 129 => 318 | 294 => 308 | 295 => 309 | 296 => 310 | 297 => 311 | 298 => 312 | 299 => 313 | 216 => 314 | 300 => 315 | 301 => 316 | 328 => 329 | 329 => 330 | 330 => 331 | 331 => 332 | 332 => 333 | 215 => 334 | 343 => 352 | n => n, fun | 28 => 81 | 3 => 3 | 46 => 173 | 0 => 0 | 51 => 274 | 53 => 33 | 4 => 4 | 183 => 267 | 182 => 266 | 131 => 271 | 5 => 5 | 9 => 9 | 218 => 285 | 222 => 288 | 228 => 309 | 229 => 114 | n => n, fun | n => n⟩
theorem Tryz.lays189 : Go.Proofs.Lays.n189 Tryz.prog Tryz.lays189_ren := {
 mixed := by kernel_rfl
 f125 := Tryz.func291.trans (congrArg some (by kernel_rfl))
 f128 := Tryz.func317.trans (congrArg some (by kernel_rfl))
 f129 := Tryz.func318.trans (congrArg some (by kernel_rfl))
 f189 := Tryz.func275.trans (congrArg some (by kernel_rfl))
 f215 := Tryz.func334.trans (congrArg some (by kernel_rfl))
 f216 := Tryz.func314.trans (congrArg some (by kernel_rfl))
 f257 := Tryz.func290.trans (congrArg some (by kernel_rfl))
 f294 := Tryz.func308.trans (congrArg some (by kernel_rfl))
 f295 := Tryz.func309.trans (congrArg some (by kernel_rfl))
 f296 := Tryz.func310.trans (congrArg some (by kernel_rfl))
 f297 := Tryz.func311.trans (congrArg some (by kernel_rfl))
 f298 := Tryz.func312.trans (congrArg some (by kernel_rfl))
 f299 := Tryz.func313.trans (congrArg some (by kernel_rfl))
 f300 := Tryz.func315.trans (congrArg some (by kernel_rfl))
 f301 := Tryz.func316.trans (congrArg some (by kernel_rfl))
 f328 := Tryz.func329.trans (congrArg some (by kernel_rfl))
 f329 := Tryz.func330.trans (congrArg some (by kernel_rfl))
 f330 := Tryz.func331.trans (congrArg some (by kernel_rfl))
 f331 := Tryz.func332.trans (congrArg some (by kernel_rfl))
 f332 := Tryz.func333.trans (congrArg some (by kernel_rfl))
 f343 := Tryz.func352.trans (congrArg some (by kernel_rfl))
 t0 := Tryz.underlying0
 a0 := Tryz.isAgg0
 z0 := Tryz.sizeOf0
 v0 := Tryz.zeroValue0
 t3 := Tryz.underlying3
 a3 := Tryz.isAgg3
 z3 := Tryz.sizeOf3
 v3 := Tryz.zeroValue3
 t4 := Tryz.underlying4
 a4 := Tryz.isAgg4
 z4 := Tryz.sizeOf4
 v4 := Tryz.zeroValue4
 t5 := Tryz.underlying5
 a5 := Tryz.isAgg5
 z5 := Tryz.sizeOf5
 v5 := Tryz.zeroValue5
 t9 := Tryz.underlying9
 a9 := Tryz.isAgg9
 z9 := Tryz.sizeOf9
 v9 := Tryz.zeroValue9
 t28 := Tryz.underlying81
 a28 := Tryz.isAgg81
 z28 := Tryz.sizeOf81
 v28 := Tryz.zeroValue81
 t46 := Tryz.underlying173
 a46 := Tryz.isAgg173
 z46 := Tryz.sizeOf173
 v46 := Tryz.zeroValue173
 t51 := Tryz.underlying274
 a51 := Tryz.isAgg274
 z51 := Tryz.sizeOf274
 v51 := Tryz.zeroValue274
 t53 := Tryz.underlying33
 a53 := Tryz.isAgg33
 z53 := Tryz.sizeOf33
 v53 := Tryz.zeroValue33
 t131 := Tryz.underlying271
 a131 := Tryz.isAgg271
 z131 := Tryz.sizeOf271
 v131 := Tryz.zeroValue271
 t182 := Tryz.underlying266
 a182 := Tryz.isAgg266
 z182 := Tryz.sizeOf266
 v182 := Tryz.zeroValue266
 t183 := Tryz.underlying267
 a183 := Tryz.isAgg267
 z183 := Tryz.sizeOf267
 v183 := Tryz.zeroValue267
 t218 := Tryz.underlying285
 a218 := Tryz.isAgg285
 z218 := Tryz.sizeOf285
 v218 := Tryz.zeroValue285
 t222 := Tryz.underlying288
 a222 := Tryz.isAgg288
 z222 := Tryz.sizeOf288
 v222 := Tryz.zeroValue288
 t228 := Tryz.underlying309
 a228 := Tryz.isAgg309
 z228 := Tryz.sizeOf309
 v228 := Tryz.zeroValue309
 t229 := Tryz.underlying114
 a229 := Tryz.isAgg114
 z229 := Tryz.sizeOf114
 v229 := Tryz.zeroValue114 }
open Go.Sort Go.RowKit in
theorem Tryz.slices_Sort_int (blk off cap : Nat) (zs : List Int) (w : World) (hH : Holds (Value.int .i64) w blk off zs.toArray) (hblk : blk < w.heap.size) (hsz : zs.length < 4611686018427387904) :
  Calls Tryz.prog 275 #[.slice (some ⟨blk, off, none⟩) zs.length cap] w fun e w' =>
   e = .returned (.tuple #[]) ∧ ∃ n os, w' = grow (putRow (Value.int .i64) (Sort.ahead w n) blk off (zs.mergeSort fun x y => decide (x ≤ y)).toArray) os := Any.slices_Sort_int Tryz.lays189 blk off cap zs w hH hblk hsz
open Go.RowKit Go.Sort in
theorem Tryz.slices_Sort_int_none (p : Option Addr) (cap : Nat) (w : World) :
  Calls Tryz.prog 275 #[.slice p 0 cap] w fun e w' => e = .returned (.tuple #[]) ∧ w' = w := Any.slices_Sort_int_none Tryz.lays189 p cap w
end Go.Proofs
/- slices.Sort, of a row of the call's own. -/
namespace Go.Cg
open Go.RowKit Go.Proofs

mutual
/-- Values that bear no address. -/
def PV.free : PV → Bool
  | .base _ => true
  | .agg cs => frees cs
  | .slc _ es _ => es.isEmpty
  | .ptr _ _ => false
  | .fn _ a b => frees a && frees b
  | .tup cs => frees cs
def frees : List PV → Bool
  | [] => true
  | c :: cs => c.free && frees cs
end
theorem frees_get : ∀ {cs : List PV}, frees cs = true → ∀ (k : Nat) (c : PV), cs[k]? = some c → c.free = true
  | [], _, k, c, h => by simp at h
  | c :: cs, h, k, c', hk => by
    simp only [frees, Bool.and_eq_true] at h
    cases k with
    | zero => simp at hk; subst hk; exact h.1
    | succ k => simp at hk; exact frees_get h.2 k c' hk
mutual
def AV.freeA : AV → Bool
  | .pv p => p.free
  | .agg cs => freesA cs
  | .fn _ a b => freesA a && freesA b
  | _ => true
def freesA : List AV → Bool
  | [] => true
  | c :: cs => c.freeA && freesA cs
end
theorem freesA_get : ∀ {cs : List AV}, freesA cs = true → ∀ (k : Nat) (c : AV), cs[k]? = some c → c.freeA = true
  | [], _, k, c, h => by simp at h
  | c :: cs, h, k, c', hk => by
    simp only [freesA, Bool.and_eq_true] at h
    cases k with
    | zero => simp at hk; subst hk; exact h.1
    | succ k => simp at hk; exact freesA_get h.2 k c' hk
def HE.freeH : HE → Bool
  | .cell v => v.freeA
  | .pin v _ => v.freeA
  | .row _ _ es => frees es
  | .mrow _ _ es => frees es
  | _ => true
def envFree : Env → Bool
  | [] => true
  | (_, v) :: e => v.freeA && envFree e
def hFree (i : Nat) : HEnv → Bool
  | [] => true
  | (j, h) :: e => (Nat.beq i j || h.freeH) && hFree i e
theorem envFree_get : ∀ {e : Env}, envFree e = true → ∀ t v, e.get t = some v → v.freeA = true
  | [], _, t, v, h => by simp [Env.get_nil] at h
  | (t', v') :: e, h, t, v, hv => by
    simp only [envFree, Bool.and_eq_true] at h
    rw [Env.get_cons] at hv
    split at hv
    · simp only [Option.some.injEq] at hv; subst hv; exact h.1
    · exact envFree_get h.2 t v hv
theorem hFree_get {i : Nat} : ∀ {e : HEnv}, hFree i e = true → ∀ j h, e.get j = some h → j ≠ i → h.freeH = true
  | [], _, j, h, hg, _ => by simp [HEnv.get_nil] at hg
  | (k, x) :: e, hf, j, h, hg, hne => by
    simp only [hFree, Bool.and_eq_true, Bool.or_eq_true] at hf
    rw [HEnv.get_cons] at hg
    split at hg
    · rename_i e'; subst e'
      simp only [Option.some.injEq] at hg; subst hg
      rcases hf.1 with h1 | h1
      · exact (hne (Nat.eq_of_beq_eq_true h1).symm).elim
      · exact h1
    · exact hFree_get hf.2 j h hg hne

section
variable {K K' : KK} {w w' : World} {ρ : Nat → Value} {H H' : HEnv}
theorem PRel.free {p : PV} {v : Value} (h : PRel K w p v) : p.free = true → PRel K' w' p v := by
  induction h with
  | base v h1 => exact fun _ => .base v h1
  | agg cs vs hl h1 _ ih => exact fun hf => .agg cs vs hl h1 fun k c v hc hv => ih k c v hc hv (frees_get hf k c hc)
  | nil sz full => exact fun _ => .nil sz full
  | emp sz full a => exact fun _ => .emp sz full a
  | slc sz es full b o cap vss h0 h1 h2 h3 h4 h5 h6 ih =>
    intro hf
    have hes : es = [] := by simpa [PV.free] using hf
    subst hes
    refine .slc sz [] full b o cap vss h0 h1 h2 h3 h4 (fun i e he => by simp at he) (fun i e k c v he => by simp at he)
  | ptr p off b o vs hl hr _ ih => intro hf; simp [PV.free] at hf
  | fn f a b vf vc h1 h2 _ _ ih1 ih2 =>
    intro hf
    simp only [PV.free, Bool.and_eq_true] at hf
    exact .fn f a b vf vc h1 h2 (fun k c v hc hv => ih1 k c v hc hv (frees_get hf.1 k c hc)) (fun k c v hc hv => ih2 k c v hc hv (frees_get hf.2 k c hc))
  | tup cs vs hl _ ih => exact fun hf => .tup cs vs hl fun k c v hc hv => ih k c v hc hv (frees_get hf k c hc)
theorem ARel.free (hk : ∀ j, (H.get j).isSome = true → (H'.get j).isSome = true) {av : AV} {v : Value} (h : ARel K w ρ H av v) : av.freeA = true → ARel K' w' ρ H' av v := by
  induction h with
  | pv p v hp => exact fun hf => .pv p v (hp.free hf)
  | own j hj => exact fun _ => .own j (hk j hj)
  | box j off b hj hr => exact fun _ => .box j off b (hk j hj) hr
  | ad j off b m c hj hr => exact fun _ => .ad j off b m c (hk j hj) hr
  | agg cs vs h1 h2 _ ih => exact fun hf => .agg cs vs h1 h2 fun k c v hc hv => ih k c v hc hv (freesA_get hf k c hc)
  | fn f a b vf vc h1 h2 _ _ ih1 ih2 =>
    intro hf
    simp only [AV.freeA, Bool.and_eq_true] at hf
    exact .fn f a b vf vc h1 h2 (fun k c v hc hv => ih1 k c v hc hv (freesA_get hf.1 k c hc)) (fun k c v hc hv => ih2 k c v hc hv (freesA_get hf.2 k c hc))
  | any v => exact fun _ => .any v
  | any1 v h1 h2 => exact fun _ => .any1 v h1 h2
end

def sortL (l : List Int) : List Int := l.mergeSort fun x y => decide (x ≤ y)
theorem sortL_len (l : List Int) : (sortL l).length = l.length := List.length_mergeSort _
theorem sortL_mem {l : List Int} {x : Int} : x ∈ sortL l ↔ x ∈ l := List.mem_mergeSort

section
variable {n : Nat} {g : Base} {H : HEnv} {env : Env} {ops : List Oper} {o : Oper} {rest : List Oper} {Q : Env → HEnv → Prop}
theorem sort_row {w : World} {B : Nat} {v : Value} {l : List Int} (h : w.ownsRow B 3 1 v l.length (l.map (Value.int .i64))) (hl : l.length < 4611686018427387904) :
    Calls Tryz.prog 275 #[v] w fun e w' => e = .returned (.tuple #[]) ∧ w'.ownsRow B 3 1 v l.length ((sortL l).map (Value.int .i64)) ∧ w.grownBy w' v.ownBlock := by
  rcases h.2 with ⟨rfl, h0⟩ | ⟨b, cap, cur, rfl, hb, hheap, h1, h2, h3, h4⟩
  · have : l = [] := List.eq_nil_of_length_eq_zero h0
    subst this
    refine (Tryz.slices_Sort_int_none none 0 w).mono fun e w' ⟨e1, e2⟩ => ?_
    subst e2
    exact ⟨e1, by simpa [sortL] using h, ⟨rfl, rfl, rfl, Nat.le_refl _, fun _ _ _ => rfl⟩⟩
  · have hlt : b < w.heap.size := (Array.getElem?_eq_some_iff.1 hheap).1
    refine (Tryz.slices_Sort_int b 0 cap l w (holds_of_blockI hheap (by simpa using h4)) hlt hl).mono fun e w' ⟨e1, m, os, e2⟩ => ?_
    subst e2
    refine ⟨e1, ?_, grownBy_sortedI _⟩
    exact ownsRow_sortedI (sortL_len l) hb hheap h1 h2 h3

/-- slices.Sort, of a row of the call's own: the frame is told anew. -/
theorem ao_sort {d : Tmp} {x : Operand} {ts : Array TypeId} {i : Nat} {l : List Int} (env2 : Env) (hpl : Plain g) (hg : guardE ops env o = some true) (hop : o.op = .call { callee := .value (.func 275), args := #[x], argTypes := ts }) (hst : Stands Tryz.prog 275)
    (hx : env.val x = some (.own i)) (hi : H.get i = some (.row 3 1 (l.map pi))) (hl : l.length ≤ 100000) (hs : Sub env env2) (hfe : envFree env2 = true) (hfh : hFree i H = true) (hd : o.dst = some d) (hdt : Nat.blt d n = true)
    (h : AO Tryz.prog n g ops.toArray rest ((d, .pv (.tup [])) :: env2) ((i, .row 3 1 ((sortL l).map pi)) :: H) Q) : AO Tryz.prog n g ops.toArray (o :: rest) env H Q := by
  refine ⟨fun a w hinv => ?_⟩
  have hw := wanted_of hinv hg
  obtain ⟨h1, h2, K, ρ, hf, he⟩ := hinv
  refine wpList_step fun KK hKK => ?_
  rw [if_pos hw]
  have hxr := val_rel he hx
  generalize hxv : a.eval x = xv at hxr
  obtain ⟨us, hown, hsz, hcr, hKK'⟩ := hf.heap.ok i _ hi
  have hus : us = l.map (Value.int .i64) := by
    apply List.ext_getElem?
    intro j
    have hlen := hown.1
    simp at hlen
    by_cases hj : j < l.length
    · obtain ⟨_, h3⟩ := hcr j (pi l[j]) (by simp [hj])
      obtain ⟨v, h4, _, h5⟩ := h3 0 (pi l[j]) rfl
      cases h5
      simp only [Nat.mul_one, Nat.add_zero] at h4
      rw [h4]; simp [hj]
    · rw [List.getElem?_eq_none (by omega), List.getElem?_eq_none (by simp; omega)]
  subst hus
  rw [List.length_map] at hown
  cases hxr with
  | own _ _ =>
    have hrun : (execOp a.eval o).run Tryz.prog w = .ok (.enter 275 #[ρ i]) w := by
      simp [execOp, hop, resolve, Act.eval, Deferred.ofValue, invoke, call_run hst]
      simpa [Act.eval] using hxv
    unfold Oper.wp
    rw [hrun]
    simp only [Oper.upon]
    refine (sort_row hown (by omega)).mono fun e w' ⟨e1, hown', hgrow⟩ => ?_
    subst e1
    have hlow : ∀ b, (ρ i).ownBlock = some b → g.w0.heap.size ≤ b := fun b hb => (hown.lt b hb).1
    have hcr2 : ∀ (j : Nat) (o : Obj), (ρ i).ownBlock = some j → w.heap[j]? = some o → o.isCells = true := by
      intro j o hj ho
      rcases hown.2 with ⟨h, _⟩ | ⟨b2, cap, cur, h, _, hh, _⟩
      · rw [h] at hj; simp [Value.ownBlock] at hj
      · rw [h] at hj
        simp only [Value.ownBlock, Option.some.injEq] at hj
        subst hj
        rw [hh] at ho; cases ho; rfl
    have hsome : ∀ j, (H.get j).isSome = true → (HEnv.get ((i, .row 3 1 ((sortL l).map pi)) :: H) j).isSome = true := by
      intro j hj
      simp only [HEnv.get_cons]
      split
      · rfl
      · exact hj
    have hbo : ∀ b, blockOf (ρ i) = some b ↔ (ρ i).ownBlock = some b := by
      intro b
      rcases hown.2 with ⟨e, _⟩ | ⟨_, _, _, e, _⟩ <;> rw [e] <;> simp [blockOf, Value.ownBlock]
    have hpt : Prot g K w' := ⟨fun b hb => let ⟨p1, p2, p3⟩ := hf.pt.same b hb; ⟨Nat.lt_of_lt_of_le p1 hgrow.size, (hgrow.block b p1 (fun e => hf.away i _ b hi rfl ((hbo b).2 e.symm) hb)).trans p2, p3⟩, fun b o h0 => by
      rw [← hf.pt.kept b o h0]
      exact World.cell?_of_block (hgrow.block b (hf.lt b o (hf.old b o h0)) (fun e => by have := hlow b e.symm; have := hpl.2 b o h0; omega))⟩
    refine hKK _ _ (h.go _ _ ⟨put_size h1, put_defers h2, K, ρ, ⟨hf.below.grown hgrow hf.below.size hlow, hf.old, hf.new, fun b o hk => Nat.lt_of_lt_of_le (hf.lt b o hk) hgrow.size, hf.others.trans (KeepsOthers.of_grownBy hgrow hcr2), hpt, hf.away.set hi rfl, ?_, ?_⟩, ?_⟩)
    · intro j e hj
      rw [HEnv.get_cons] at hj
      split at hj
      · rename_i e'; subst e'
        simp only [Option.some.injEq] at hj; subst hj
        refine ⟨(sortL l).map (Value.int .i64), by rw [List.length_map, sortL_len]; exact hown', hsz, ?_, ?_⟩
        · intro k c hc
          rw [List.getElem?_map] at hc
          cases hk : (sortL l)[k]? with
          | none => simp [hk] at hc
          | some y =>
            simp [hk] at hc; subst hc
            refine ⟨rfl, fun m c hm => ?_⟩
            cases m with
            | zero => simp [PV.cells] at hm; subst hm; exact ⟨.int .i64 y, by simp [hk], rfl, .base _ rfl⟩
            | succ m => simp [PV.cells] at hm
        · intro b hb o'
          rw [List.length_map, sortL_len]
          have := hKK' b hb o'
          simpa using this
      · rename_i hne
        have hfree := hFree_get hfh j e hj (Ne.symm hne)
        have hok := hf.heap.ok j e hj
        have hblk : e.live = true → ∀ b, blockOf (ρ j) = some b → (ρ i).ownBlock ≠ some b := fun hlive b hb e' =>
          hf.heap.apart i j _ e b hne hi hj rfl hlive ((hbo b).2 e') hb
        cases e with
        | cell v =>
          obtain ⟨b, t, arr, u, r1, r2, r3, r4, r5, r6⟩ := hok
          have hlt : b < w.heap.size := (Array.getElem?_eq_some_iff.1 r3).1
          have := hblk rfl b (by rw [r1]; rfl)
          exact ⟨b, t, arr, u, r1, r2, by rw [hgrow.block b hlt (Ne.symm this)]; exact r3, r4.free hsome hfree, r5, r6⟩
        | row t sz es =>
          obtain ⟨xs, r1, r2, r3, r4⟩ := hok
          refine ⟨xs, r1.kept hgrow ?_, r2, fun k c hc => ⟨(r3 k c hc).1, fun m q hq => ?_⟩, r4⟩
          · cases hb : (ρ j).ownBlock with
            | none => exact .inl rfl
            | some b =>
              refine .inr fun e' => ?_
              have hb2 : blockOf (ρ j) = some b := by
                rcases r1.2 with ⟨e, _⟩ | ⟨_, _, _, e, _⟩
                · rw [e] at hb; simp [Value.ownBlock] at hb
                · rw [e] at hb ⊢; simpa [blockOf, Value.ownBlock] using hb
              exact hblk rfl b hb2 e'.symm
          · obtain ⟨v, v1, v2, v3⟩ := (r3 k c hc).2 m q hq
            refine ⟨v, v1, v2, v3.free ?_⟩
            have hcf := frees_get hfree k c hc
            cases c <;> simp only [PV.cells] at hq <;> first
              | exact frees_get hcf m q hq
              | (cases m with
                 | zero => simp at hq; subst hq; exact hcf
                 | succ m => simp at hq)
        | mrow t sz es =>
          obtain ⟨xs, r1, r2, r3, r4⟩ := hok
          refine ⟨xs, r1.kept hgrow ?_, r2, fun k c hc => ⟨(r3 k c hc).1, fun m q hq => ?_⟩, r4⟩
          · cases hb : (ρ j).ownBlock with
            | none => exact .inl rfl
            | some b =>
              refine .inr fun e' => ?_
              have hb2 : blockOf (ρ j) = some b := by
                rcases r1.2 with ⟨e, _⟩ | ⟨_, _, _, e, _⟩
                · rw [e] at hb; simp [Value.ownBlock] at hb
                · rw [e] at hb ⊢; simpa [blockOf, Value.ownBlock] using hb
              exact hblk rfl b hb2 e'.symm
          · obtain ⟨v, v1, v2, v3⟩ := (r3 k c hc).2 m q hq
            refine ⟨v, v1, v2, v3.free ?_⟩
            have hcf := frees_get hfree k c hc
            cases c <;> simp only [PV.cells] at hq <;> first
              | exact frees_get hcf m q hq
              | (cases m with
                 | zero => simp at hq; subst hq; exact hcf
                 | succ m => simp at hq)
        | dead => trivial
        | pin v u => exact ARel.free hsome hok hfree
        | obj X =>
          obtain ⟨b, ob, r1, r2, r3, r4, r5⟩ := hok
          have hlt : b < w.heap.size := (Array.getElem?_eq_some_iff.1 r3).1
          have := hblk rfl b (by rw [r1]; rfl)
          exact ⟨b, ob, r1, r2, by rw [hgrow.block b hlt (Ne.symm this)]; exact r3, r4, r5⟩
    · intro j k e e' bb hjk hj hk' hlj hlk hbj hbk
      have e1 : ∀ (j : Nat) (hh : HE), HEnv.get ((i, .row 3 1 ((sortL l).map pi)) :: H) j = some hh → hh.live = true → ∃ h0, H.get j = some h0 ∧ h0.live = true := by
        intro j hh hj hl
        rw [HEnv.get_cons] at hj
        split at hj
        · rename_i e'; subst e'; exact ⟨_, hi, rfl⟩
        · exact ⟨hh, hj, hl⟩
      obtain ⟨a1, a2, a3⟩ := e1 j e hj hlj
      obtain ⟨b1, b2, b3⟩ := e1 k e' hk' hlk
      exact hf.heap.apart j k a1 b1 bb hjk a2 b2 a3 b3 hbj hbk
    · rw [hd]
      refine env_put h1 hdt (fun t av ht => ?_) (.pv _ _ (.tup [] [] rfl (by simp)))
      obtain ⟨v, v1, v2⟩ := he t av (hs t av ht)
      exact ⟨v, v1, v2.free hsome (envFree_get hfe t av ht)⟩
end
end Go.Cg
namespace Go.Cg
open Go.Proofs
abbrev hR (met : List Int) : HEnv := [(0, .cell (.own 2)), (1, .cell (.own 3)), (2, .obj (MapSet Tryz.prog 3 3 met)), (3, .row 3 1 (met.map pi))]
structure GOk (G : HEnv) : Prop where
 kill : killH 3 G = G
 ids : ∀ i h, HEnv.get G i = some h → 4 ≤ i
 inn : ∀ met, hIn (hR met ++ G) G = true
theorem hR_hi {met : List Int} {G : HEnv} {i : Nat} (h : 4 ≤ i) : HEnv.get (hR met ++ G) i = HEnv.get G i := by
 rw [get_append]
 have : HEnv.get (hR met) i = none := by
  simp only [hR, HEnv.get_cons, HEnv.get_nil]
  rw [if_neg (by omega), if_neg (by omega), if_neg (by omega), if_neg (by omega)]
 rw [this]
theorem GOk.killHE {G : HEnv} (hG : GOk G) {i : Nat} {h : HE} (hg : HEnv.get G i = some h) : Cg.killHE 3 h = h := by
 have := killH_get 3 G i
 rw [hG.kill, hg] at this
 simpa using this.symm
theorem hfitR {H : HEnv} {met : List Int} {G : HEnv} {env' : Env} (hG : GOk G) (h0 : H.get 0 = some (.cell (.own 2))) (h1 : H.get 1 = some (.cell (.own 3))) (h2 : H.get 2 = some (.obj (MapSet Tryz.prog 3 3 met))) (h3 : H.get 3 = some (.row 3 1 (met.map pi)))
  (hr : ∀ i h, 4 ≤ i → HEnv.get G i = some h → H.get i = some h) (he : envIn (hR met ++ G) env' = true) : HFit H (hR met ++ G) env' := by
 refine ⟨fun i h hi => ?_, ?_⟩
 ·by_cases h4 : 4 ≤ i
  ·rw [hR_hi h4] at hi; exact hr i h h4 hi
  ·have : i = 0 ∨ i = 1 ∨ i = 2 ∨ i = 3 := by omega
   rw [get_append] at hi
   rcases this with rfl | rfl | rfl | rfl
   ·rw [h0]; exact hi
   ·rw [h1]; exact hi
   ·rw [h2]; exact hi
   ·rw [h3]; exact hi
 ·rw [he, Bool.true_and]
  show (true && (true && hIn (hR met ++ G) G)) = true
  rw [hG.inn]; rfl
theorem hi_same {i : Nat} (h : HE) (met : List Int) (G : HEnv) (h4 : 4 ≤ i) (hg : HEnv.get G i = some h) : HEnv.get (hR met ++ G) i = some h := by rw [hR_hi h4]; exact hg
theorem wf_small {x : Int} (h : 0 ≤ x ∧ x < 100000) : (Lit.int .i64 x).wf = true := by
 simp [Lit.wf, IntKind.min, IntKind.max, IntKind.bits, IntKind.signed]; omega
set_option maxHeartbeats 1000000 in
theorem put_call (l met : List Int) (G : HEnv) (hG : GOk G) (hx : ∀ x ∈ l, 0 ≤ x ∧ x < 100000) (hlen : met.length + l.length ≤ 100000) :
  ACallH Tryz.prog 274 [.pv (ints l), .box 0 0, .box 1 0] (hR met ++ G) (hR (l.foldl addP met) ++ G) := by
 refine acallH_intro Tryz.func274 rfl (by kernel_rfl) Tryz.ntmps274 (by simp) rfl (fun gB hgB => ?_)
 repeat' (first | refine sA ?_ | refine sC (fun _ => ?_) (fun _ => ?_) | fail)
 refine aw_loop (fun x : Nat × List Int => [(1, .box 0 0), (2, .box 1 0), (6, .pv (ints l)), (7, .pv (pi l.length)), (8, .pv (pi x.1))]) (fun x => hR x.2 ++ G)
  (fun x => x.1 ≤ l.length ∧ x.2.length ≤ met.length + x.1 ∧ (l.drop x.1).foldl addP x.2 = l.foldl addP met) (fun x => l.length - x.1) (0, met) ⟨by simp, by simp, rfl⟩ (tS) (hfitR hG rfl rfl rfl rfl (fun i h h4 hg => hi_same h met G h4 hg) rfl) ?_
 rintro ⟨k, m⟩ ⟨hk, hml, hr⟩
 simp only at hk hml hr
 by_cases hlt : k < l.length
 ·have he := ints_get hlt
  rw [drop_foldl hlt] at hr
  have hwf := wf_small (hx _ (List.getElem_mem hlt))
  by_cases hm : l[k] ∈ m
  ·rw [show addP m l[k] = m by simp [addP, hm]] at hr
   repeat' (first | refine ao_q rfl (q_lookupC (c := 1) (if_pos hm) tbOK rfl rfl rfl rfl rfl rfl rfl rfl hwf) rfl rfl ?_ | (refine shX ?_; first | refine qX he ?_) | refine sK ?_ | refine sC (fun _ => ?_) (fun _ => ?_) | fail)
   refine ⟨(k + 1, m), ⟨hlt, by simp; omega, hr⟩, tD, tS, hfitR hG rfl rfl rfl rfl (fun i h h4 hg => hi_same h m G h4 hg) rfl⟩
  ·rw [show addP m l[k] = m ++ [l[k]] by simp [addP, hm]] at hr
   repeat' (first | refine ao_q rfl (q_lookupC (c := 0) (if_neg hm) tbOK rfl rfl rfl rfl rfl rfl rfl rfl hwf) rfl rfl ?_ | refine ao_mapUpdate hgB.1 tbOK rfl rfl rfl rfl rfl rfl rfl rfl rfl hwf (by simp [maxLen]; omega) rfl ?_ | (refine shX ?_; first | refine qX he ?_) | (refine ao_sh_bi ?_; first | refine ao_append tbOK rfl rfl rfl rfl rfl rfl rfl (by show _ * 8 ≤ _; simp; omega) (by simp; omega) rfl rfl ?_) | refine sK ?_ | refine sC (fun _ => ?_) (fun _ => ?_) | fail)
   refine ⟨(k + 1, m ++ [l[k]]), ⟨hlt, by simp; omega, hr⟩, tD, tS, hfitR hG rfl rfl rfl (by show some (HE.row 3 1 _) = _; simp) (fun i h h4 hg => ?_) rfl⟩
   rw [HEnv.get_cons, if_neg (by omega), HEnv.get_cons, if_neg (by omega), killH_get, HEnv.get_cons, if_neg (by omega), hR_hi h4, hg]
   simp [hG.killHE hg]
 ·rw [drop_end (by omega)] at hr
  simp only [List.foldl_nil] at hr
  subst hr
  repeat' (first | refine sK ?_ | refine sC (fun _ => ?_) (fun _ => ?_) | fail)
  exact ⟨.inl rfl, hfitR hG rfl rfl rfl rfl (fun i h h4 hg => hi_same h _ G h4 hg) rfl⟩
def reachGo (step : Int → List Int) : Nat → Nat → List Int → List Int
 | 0, _, met => met
 | n + 1, i, met => match met[i]? with | some u => reachGo step n (i + 1) ((step u).foldl addP met) | none => met
def reachL (N : Nat) (step : Int → List Int) (l : List Int) : List Int := reachGo step (N + 1) 0 (l.foldl addP [])
def NInv (N : Nat) (met : List Int) : Prop := met.Nodup ∧ ∀ y ∈ met, 0 ≤ y ∧ y < N
theorem NInv.len {N : Nat} {met : List Int} (h : NInv N met) : met.length ≤ N := nodup_le _ _ h.1 h.2
theorem NInv.add {N : Nat} {met : List Int} (h : NInv N met) {x : Int} (hx : 0 ≤ x ∧ x < N) : NInv N (addP met x) := by
 unfold addP
 split
 ·exact h
 ·rename_i hn
  refine ⟨?_, ?_⟩
  ·rw [List.nodup_append]; simp [h.1]; intro b hb e; subst e; exact hn hb
  ·intro y hy
   simp only [List.mem_append, List.mem_singleton] at hy
   rcases hy with hy | rfl
   ·exact h.2 y hy
   ·exact hx
theorem NInv.fold {N : Nat} : ∀ (l : List Int) {met : List Int}, NInv N met → (∀ x ∈ l, 0 ≤ x ∧ x < N) → NInv N (l.foldl addP met)
 | [], _, h, _ => h
 | f :: l, _, h, hl => NInv.fold l (h.add (hl f (by simp))) fun x hx => hl x (by simp [hx])
theorem fold_addP_len : ∀ (l met : List Int), met.length ≤ (l.foldl addP met).length
 | [], met => Nat.le_refl _
 | x :: l, met => by
  refine Nat.le_trans ?_ (fold_addP_len l (addP met x))
  unfold addP; split <;> simp
theorem gOk_pins {us : Nat → Value} {env2 : Env} (h1 : killH 3 (pinsOf us 100 env2) = pinsOf us 100 env2) (h2 : ∀ met, hIn (hR met ++ pinsOf us 100 env2) (pinsOf us 100 env2) = true) : GOk (pinsOf us 100 env2) :=
 ⟨h1, fun i h hg => by have := (pins_get hg).1; omega, h2⟩
set_option maxHeartbeats 1000000 in
theorem reach_call (N : Nat) (hN : N ≤ 1000) (l : List Int) (step : Int → List Int) (f : FuncId) (first cap : List PV) (hl : ∀ x ∈ l, 0 ≤ x ∧ x < N) (hll : l.length ≤ 10000)
  (hs : ∀ x : Int, 0 ≤ x → x < (N : Int) → ACall Tryz.prog f (first ++ [pi x] ++ cap) (ints (step x))) (hst : ∀ x : Int, 0 ≤ x → x < (N : Int) → (step x).length ≤ 10000 ∧ ∀ y ∈ step x, 0 ≤ y ∧ y < N) :
  ACall Tryz.prog 237 [ints l, .fn (.func f) first cap] (ints (sortL (reachL N step l))) := by
 refine acall_intro tbOK Tryz.func237 rfl (by kernel_rfl) Tryz.ntmps237 (by simp) _ rfl (fun hw gB hgB => ?_)
 have hm0 : NInv N (l.foldl addP []) := NInv.fold l ⟨by simp, by simp⟩ hl
 repeat' (first | refine ao_makeMap (kt := 3) (et := 3) 2 rfl rfl rfl rfl rfl ?_ | refine aw_own_nil_cell 1 3 3 1 (by decide) rfl rfl ?_ | refine sA ?_ | refine sC (fun _ => ?_) (fun _ => ?_) | fail)
 refine ao_weak [(0, .pv (ints l)), (1, .pv (.fn (.func f) first cap)), (5, .box 0 0), (6, .box 1 0), (7, .fn (.func 274) [] [.box 0 0, .box 1 0]), (11, .fn (.func 274) [] [.box 0 0, .box 1 0]), (12, .pv (ints l))] (hR []) (tS)
  ⟨by repeat (first | exact hsub_nil | refine hsub_cons rfl ?_), rfl⟩ ?_
 refine ao_callH [(1, .pv (.fn (.func f) first cap)), (5, .box 0 0), (6, .box 1 0), (7, .fn (.func 274) [] [.box 0 0, .box 1 0])] (hR (l.foldl addP [])) 100 hgB rfl rfl rfl rfl (tS) rfl rfl rfl rfl rfl rfl
  (fun us => put_call l [] _ (gOk_pins rfl (fun _ => rfl)) (fun x hx => by have := hl x hx; omega) (by simp; omega)) ?_
 repeat' (first | refine sA ?_ | refine sC (fun _ => ?_) (fun _ => ?_) | fail)
 refine aw_loop (fun x : Nat × List Int => [(1, .pv (.fn (.func f) first cap)), (5, .box 0 0), (6, .box 1 0), (7, .fn (.func 274) [] [.box 0 0, .box 1 0]), (8, .pv (pi x.1))]) (fun x => hR x.2)
  (fun x => x.1 ≤ x.2.length ∧ NInv N x.2 ∧ reachGo step (N + 1 - x.1) x.1 x.2 = reachL N step l) (fun x => N + 1 - x.1) (0, l.foldl addP []) ⟨by simp, hm0, rfl⟩ (tS) ⟨by repeat (first | exact hsub_nil | refine hsub_cons rfl ?_), rfl⟩ ?_
 rintro ⟨i, met⟩ ⟨hi, hmi, hr⟩
 simp only at hi hmi hr
 have hml := hmi.len
 rw [show N + 1 - i = (N - i) + 1 by omega, reachGo] at hr
 by_cases hlt : i < met.length
 ·have heU := ints_get hlt
  rw [List.getElem?_eq_getElem hlt] at hr
  simp only at hr
  obtain ⟨hu0, hu1⟩ := hmi.2 _ (List.getElem_mem hlt)
  obtain ⟨hs1, hs2⟩ := hst _ hu0 hu1
  have c1 := hs _ hu0 hu1
  repeat' (first | (refine shC ?_; first | refine qV (c1) ?_) | (refine shX ?_; first | refine qX heU ?_) | refine sK ?_ | refine sC (fun _ => ?_) (fun _ => ?_) | fail)
  refine ao_callH [(1, .pv (.fn (.func f) first cap)), (5, .box 0 0), (6, .box 1 0), (7, .fn (.func 274) [] [.box 0 0, .box 1 0]), (8, .pv (pi i))] (hR ((step met[i]).foldl addP met)) 100 hgB rfl rfl rfl rfl (tS) rfl rfl rfl rfl rfl rfl
   (fun us => put_call _ met _ (gOk_pins rfl (fun _ => rfl)) (fun x hx => by have := hs2 x hx; omega) (by omega)) ?_
  repeat' (first | refine sK ?_ | refine sC (fun _ => ?_) (fun _ => ?_) | fail)
  have hmi2 := NInv.fold _ hmi hs2
  refine ⟨(i + 1, (step met[i]).foldl addP met), ⟨?_, hmi2, ?_⟩, by simp only; omega, tS, ⟨by repeat (first | exact hsub_nil | refine hsub_cons rfl ?_), rfl⟩⟩
  ·have := fold_addP_len (step met[i]) met
   simp only; omega
  ·simp only
   rw [show N + 1 - (i + 1) = N - i by omega]; exact hr
 ·rw [List.getElem?_eq_none (by omega)] at hr
  simp only at hr
  subst hr
  repeat' (first | refine ao_sort [(6, .box 1 0)] hgB rfl rfl ⟨Tryz.f275, Tryz.func275, rfl, by kernel_rfl⟩ rfl rfl (by simp only; omega) (tS) rfl rfl rfl rfl ?_ | refine sK ?_ | refine sC (fun _ => ?_) (fun _ => ?_) | fail)
  exact retq rfl rfl
end Go.Cg
namespace Go.Cg
open Go.Proofs
abbrev tdA : PV := .agg [.base (.string ⟨#[65]⟩), pi 0, pi (-1), .base (.slice none 0 0)]
abbrev imgA : PV := .agg [.slc 4 [tdA] true, .base (.slice none 0 0), .base (.slice none 0 0), pi (-1)]
abbrev tInt : Ty := ⟨2, 0, 0, false⟩
abbrev tLong : Ty := ⟨3, 0, 0, false⟩
abbrev tNull : Ty := ⟨8, 0, 0, false⟩
abbrev tClass : Ty := ⟨5, 0, 0, false⟩
set_option maxHeartbeats 1000000 in
theorem FitsW1_call : ACall Tryz.prog 214 [imgA, tyPV tLong, tyPV tInt] (pb false) := by
 refine acall_intro tbOK Tryz.func214 rfl (by kernel_rfl) Tryz.ntmps214 (by simp) _ rfl (fun hw gB hgB => ?_)
 repeat' (first | (refine shC ?_; first | refine qC (Object_call tInt) ?_ | refine qC (Object_call tLong) ?_) | refine sA ?_ | refine sC (fun _ => ?_) (fun _ => ?_) | fail)
 all_goals exact retq rfl rfl
set_option maxHeartbeats 1000000 in
theorem FitsW2_call : ACall Tryz.prog 214 [imgA, tyPV tInt, tyPV tLong] (pb false) := by
 refine acall_intro tbOK Tryz.func214 rfl (by kernel_rfl) Tryz.ntmps214 (by simp) _ rfl (fun hw gB hgB => ?_)
 repeat' (first | (refine shC ?_; first | refine qC (Object_call tInt) ?_ | refine qC (Object_call tLong) ?_) | refine sA ?_ | refine sC (fun _ => ?_) (fun _ => ?_) | fail)
 all_goals exact retq rfl rfl
set_option maxHeartbeats 1000000 in
theorem FitsW3_call : ACall Tryz.prog 214 [imgA, tyPV tNull, tyPV tClass] (pb true) := by
 refine acall_intro tbOK Tryz.func214 rfl (by kernel_rfl) Tryz.ntmps214 (by simp) _ rfl (fun hw gB hgB => ?_)
 repeat' (first | (refine shC ?_; first | refine qC (Object_call tNull) ?_ | refine qC (Object_call tClass) ?_ | refine qC (plain_call tNull 8) ?_) | refine sA ?_ | refine sC (fun _ => ?_) (fun _ => ?_) | fail)
 all_goals exact retq rfl rfl
def tyB (a b : Ty) : Bool := a.kind == b.kind && (a.index == b.index && (a.dims == b.dims && (a.ref == b.ref && true)))
theorem tyB_comm (a b : Ty) : tyB a b = tyB b a := by
 have h1 : tyB a b = decide (a = b) := tyEq_iff a b
 have h2 : tyB b a = decide (b = a) := tyEq_iff b a
 rw [h1, h2]
 by_cases h : a = b
 ·simp [h]
 ·rw [decide_eq_false h, decide_eq_false (fun e => h e.symm)]
set_option maxHeartbeats 1000000 in
theorem FitsNo_call (g : Img) (a b : Ty) (h : object a = false ∨ object b = false) : ACall Tryz.prog 214 [imgPV g, tyPV a, tyPV b] (pb (tyB a b)) := by
 refine acall_intro tbOK Tryz.func214 rfl (by kernel_rfl) Tryz.ntmps214 (by simp) _ rfl (fun hw gB hgB => ?_)
 have c1 := Object_call a
 have c2 := Object_call b
 rcases h with h | h
 ·rw [h] at c1
  repeat' (first | (refine shC ?_; first | refine qC c1 ?_ | refine qC c2 ?_) | refine sA ?_ | refine sC (fun _ => ?_) (fun _ => ?_) | fail)
  all_goals (rename_i hx; exact retq rfl (by rw [tyB, hx]; rfl))
 ·rw [h] at c2
  cases ho : object a
  ·rw [ho] at c1
   repeat' (first | (refine shC ?_; first | refine qC c1 ?_ | refine qC c2 ?_) | refine sA ?_ | refine sC (fun _ => ?_) (fun _ => ?_) | fail)
   all_goals (rename_i hx; exact retq rfl (by rw [tyB, hx]; rfl))
  ·rw [ho] at c1
   repeat' (first | (refine shC ?_; first | refine qC c1 ?_ | refine qC c2 ?_) | refine sA ?_ | refine sC (fun _ => ?_) (fun _ => ?_) | fail)
   all_goals (rename_i hx; exact retq rfl (by rw [tyB, hx]; rfl))
set_option maxHeartbeats 1000000 in
theorem FitsObj_call (g : Img) (a : Ty) (h : object a = true) : ACall Tryz.prog 214 [imgPV g, tyPV a, tyPV tB] (pb true) := by
 refine acall_intro tbOK Tryz.func214 rfl (by kernel_rfl) Tryz.ntmps214 (by simp) _ rfl (fun hw gB hgB => ?_)
 have c1 := Object_call a
 rw [h] at c1
 repeat' (first | (refine shC ?_; first | refine qC c1 ?_ | refine qC (Object_call tB) ?_ | refine qC (plain_call a 8) ?_ | refine qC (plain_call tB 4) ?_) | refine sA ?_ | refine sC (fun _ => ?_) (fun _ => ?_) | fail)
 all_goals exact retq rfl rfl
set_option maxHeartbeats 1000000 in
theorem FitsNull_call (g : Img) (a : Ty) (h : object a = true) : ACall Tryz.prog 214 [imgPV g, tyPV tA, tyPV a] (pb true) := by
 refine acall_intro tbOK Tryz.func214 rfl (by kernel_rfl) Tryz.ntmps214 (by simp) _ rfl (fun hw gB hgB => ?_)
 have c1 := Object_call a
 rw [h] at c1
 repeat' (first | (refine shC ?_; first | refine qC c1 ?_ | refine qC (Object_call tA) ?_ | refine qC (plain_call tA 8) ?_) | refine sA ?_ | refine sC (fun _ => ?_) (fun _ => ?_) | fail)
 all_goals exact retq rfl rfl
theorem FitsNo_call' (g : Img) (a b : Ty) (h : object a = false ∨ object b = false) : ACall Tryz.prog 214 [imgPV g, tyPV a, tyPV b] (pb (tyB b a)) := by
 rw [tyB_comm b a]; exact FitsNo_call g a b h
end Go.Cg
namespace Go.Cg
open Go.Proofs
structure Fm (g : Img) : Prop where
 n : g.types.length ≤ 32
 faces : ∀ td ∈ g.types, td.faces.length ≤ 4 ∧ ∀ f ∈ td.faces, 0 ≤ f ∧ f < g.types.length
theorem fm_of {g : Img} (h : formedG g = true) : Fm g :=
 ⟨(formedG_bounds h).1, fun td hm => let ⟨_, _, _, _, h5, h6⟩ := formedT_facts ((formedG_bounds h).2.2.2 td hm); ⟨h5, h6⟩⟩
theorem typeAt_mem {g : Img} {t : Int} {td : TD} (h : typeAt g t = some td) : td ∈ g.types := by
 unfold typeAt at h
 split at h
 ·exact List.mem_of_getElem? h
 ·cases h
theorem Fm.at {g : Img} (h : Fm g) (t : Int) : (facesAt g t).length ≤ 4 ∧ ∀ f ∈ facesAt g t, 0 ≤ f ∧ f < g.types.length := by
 unfold facesAt
 cases ht : typeAt g t with
 | none => simp
 | some td => exact h.faces td (typeAt_mem ht)
theorem there_of {g : Img} {t : Int} (h : 0 ≤ t ∧ t < g.types.length) : there g t = true := by
 obtain ⟨td, htd⟩ := typeAt_of_lt h; exact (there_iff g t).2 ⟨td, htd⟩
def facesP (g : Img) (t : Int) : List Int := sortL (reachL g.types.length (facesAt g) ((up g t).flatMap (facesAt g)))
set_option maxHeartbeats 1000000 in
theorem FacesP_call (g : Img) (t : Int) (hF : Fm g) : ACall Tryz.prog 187 [imgPV g, pi t] (ints (facesP g t)) := by
 refine acall_intro tbOK Tryz.func187 rfl (by kernel_rfl) Tryz.ntmps187 (by simp) _ rfl (fun hw gB hgB => ?_)
 have hn := hF.n
 have hui := up_inv g t
 have hul := nodup_le _ _ hui.1 hui.2
 repeat' (first | (refine shC ?_; first | refine ao_q rfl (q_call rfl rfl (UpP_call g t (by omega))) rfl rfl ?_ | refine AD.step _ _ _ _ _ rfl (q_call rfl rfl (UpP_call g t (by omega))) rfl rfl ?_) | refine sA ?_ | refine sC (fun _ => ?_) (fun _ => ?_) | fail)
 refine aw_own_nil (t := 5) 0 3 1 (by decide) rfl rfl ?_
 refine aw_loop (fun x : Nat × List Int => [(2, .pv (.ptr (imgPV g) 0)), (5, .own 0), (10, .pv (ints (up g t))), (11, .pv (pi (up g t).length)), (12, .pv (pi x.1))]) (fun x => [(0, .row 3 1 (x.2.map pi))])
  (fun x => x.1 ≤ (up g t).length ∧ x.2.length ≤ 4 * x.1 ∧ (∀ y ∈ x.2, 0 ≤ y ∧ y < g.types.length) ∧ x.2 ++ ((up g t).drop x.1).flatMap (facesAt g) = (up g t).flatMap (facesAt g)) (fun x => (up g t).length - x.1) (0, []) ⟨by simp, by simp, by simp, rfl⟩ (tS) ⟨hsub_cons rfl hsub_nil, rfl⟩ ?_
 rintro ⟨k, out⟩ ⟨hk, hol, hrg, hr⟩
 simp only at hk hol hrg hr
 by_cases hlt : k < (up g t).length
 ·have he := ints_get hlt
  obtain ⟨hf1, hf2⟩ := hF.at (up g t)[k]
  rw [drop_cons hlt, List.flatMap_cons] at hr
  repeat' (first | (refine shC ?_; first | refine ao_q rfl (q_call rfl rfl (facesP_call g _ (by omega) (fun f hf => there_of (hf2 f hf)))) rfl rfl ?_ | refine AD.step _ _ _ _ _ rfl (q_call rfl rfl (facesP_call g _ (by omega) (fun f hf => there_of (hf2 f hf)))) rfl rfl ?_) | (refine shX ?_; first | refine qX he ?_) | (refine ao_sh_bi ?_; first | refine ao_append tbOK rfl rfl rfl rfl rfl rfl rfl (by show _ * 8 ≤ _; simp; omega) (by simp; omega) rfl rfl ?_) | refine sK ?_ | refine sC (fun _ => ?_) (fun _ => ?_) | fail)
  refine ⟨(k + 1, out ++ facesAt g (up g t)[k]), ⟨hlt, by simp; omega, ?_, by simpa using hr⟩, tD, tS, ⟨hsub_r rfl (by simp) hsub_nil, rfl⟩⟩
  intro y hy
  simp only [List.mem_append] at hy
  rcases hy with hy | hy
  ·exact hrg y hy
  ·exact hf2 y hy
 ·rw [drop_end (by omega)] at hr
  simp only [List.flatMap_nil, List.append_nil] at hr
  subst hr
  have c1 := reach_call g.types.length (by omega) ((up g t).flatMap (facesAt g)) (facesAt g) 238 [] [.ptr (imgPV g) 0] hrg (by omega)
   (fun x h0 h1 => Faces1_call g x (by have := (hF.at x).1; omega) (fun f hf => there_of ((hF.at x).2 f hf))) (fun x h0 h1 => ⟨by have := (hF.at x).1; omega, (hF.at x).2⟩)
  repeat' (first | (refine shC ?_; first | refine qC c1 ?_) | refine sK ?_ | refine sC (fun _ => ?_) (fun _ => ?_) | fail)
  exact retq rfl rfl
def belowP (g : Img) (a b : Int) : Bool := decide (b ∈ up g a) || decide (b ∈ facesP g a)
set_option maxHeartbeats 1000000 in
theorem BelowP_call (g : Img) (a b : Int) (hF : Fm g) : ACall Tryz.prog 248 [imgPV g, pi a, pi b] (pb (belowP g a b)) := by
 refine acall_intro tbOK Tryz.func248 rfl (by kernel_rfl) Tryz.ntmps248 (by simp) _ rfl (fun hw gB hgB => ?_)
 have hn := hF.n
 repeat' (first | (refine shC ?_; first | refine ao_q rfl (q_call rfl rfl (UpP_call g a (by omega))) rfl rfl ?_ | refine AD.step _ _ _ _ _ rfl (q_call rfl rfl (UpP_call g a (by omega))) rfl rfl ?_ | refine qC (Contains_call _ _) ?_ | refine qC (FacesP_call g a hF) ?_) | refine sA ?_ | refine sC (fun _ => ?_) (fun _ => ?_) | fail)
 all_goals first | (refine retq rfl ?_; first | (simp only [retPV, belowP] at *; simp only [*, BL]; done) | (simp_all [retPV, belowP]; done) | (simp_all [retPV, belowP]; omega) | (simp_all [retPV, belowP]; intros; omega)) | (refine retn rfl ?_; first | (simp only [retPV, belowP, BL, List.length_map] at *; simp only [*, BL, List.length_map]; done) | (simp_all [retPV, belowP]; done) | (simp_all [retPV, belowP]; omega) | (simp_all [retPV, belowP]; intros; omega)) | skip
def fitsP (g : Img) (a b : Ty) : Bool :=
 if tyB a b then true
 else if !object a || !object b then false
 else if plain a 8 || plain b 4 then true
 else if plain a 5 && plain b 5 then belowP g a.index b.index
 else plain a 7 && tyB b ⟨7, 0, 0, false⟩
set_option maxHeartbeats 1000000 in
theorem FitsP_call (g : Img) (a b : Ty) (hF : Fm g) : ACall Tryz.prog 214 [imgPV g, tyPV a, tyPV b] (pb (fitsP g a b)) := by
 refine acall_intro tbOK Tryz.func214 rfl (by kernel_rfl) Tryz.ntmps214 (by simp) _ rfl (fun hw gB hgB => ?_)
 repeat' (first | (refine shC ?_; first | refine qC (Object_call a) ?_ | refine qC (Object_call b) ?_ | refine qC (plain_call a 8) ?_ | refine qC (plain_call b 4) ?_ | refine qC (plain_call a 5) ?_ | refine qC (plain_call b 5) ?_ | refine qC (BelowP_call g _ _ hF) ?_ | refine qC (plain_call a 7) ?_ | refine qC fault_call ?_) | refine sA ?_ | refine sC (fun _ => ?_) (fun _ => ?_) | fail)
 all_goals refine retq rfl ?_
 all_goals first | (simp only [retPV, fitsP, tyB, *]; done) | (simp only [retPV, fitsP, tyB, *]; rfl)
def mergeTop (g : Img) (a b : Ty) : Ty :=
 match (up g a.index).find? (fun t => decide (t ∈ up g b.index)) with | some t => ⟨5, t, 0, false⟩ | none => ⟨4, 0, 0, false⟩
def mergeP (g : Img) (a b : Ty) : Ty × Int :=
 if fitsP g b a then (a, 0) else if fitsP g a b then (b, 0)
 else if !object a || !object b then (ty0, 14)
 else if plain a 7 && plain b 7 then (⟨7, 0, 0, false⟩, 0)
 else if classB g a && classB g b then (mergeTop g a b, 0)
 else (⟨4, 0, 0, false⟩, 0)
theorem mp_eq {g : Img} {a b : Ty} {x : Ty × Int} (h : mergeP g a b = x) : PV.tup [tyPV x.1, pi x.2] = .tup [tyPV (mergeP g a b).1, pi (mergeP g a b).2] := by rw [h]
end Go.Cg
