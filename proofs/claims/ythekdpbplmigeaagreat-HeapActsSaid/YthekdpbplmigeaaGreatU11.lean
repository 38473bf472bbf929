/- A part of the walks by abstract values: no statement of its own. -/
import Derived.Test.YthekdpbplmigeaaGreatU10
import Derived.Test.YthekdpbplmigeaaGreatU8
import Derived.Test.YthekdpbplmigeaaGreatU6
import Derived.KernelRfl
import Derived.Test.YthekdpbplmigeaaGreatU7
import Derived.Test.YthekdpbplmigeaaGreatU4
import Derived.RangeFuncFrom
import Derived.RangeFuncLeaves
import Derived.RangeFuncWrites
namespace Go.Cg
open Go.Proofs
set_option maxHeartbeats 1000000 in
theorem faced1_call (g : Img) (t : Int) (hF : Fm g) : ACall Tryz.prog 261 [pi t, .ptr (imgPV g) 0] (ints (facesAt g t)) := by
 refine acall_intro tbOK Tryz.func261 rfl (by kernel_rfl) Tryz.ntmps261 (by simp) _ rfl (fun hw gB hgB => ?_)
 repeat' (first | (refine shC ?_; first | refine ao_q rfl (q_call rfl rfl (facesP_call g t (by have := (hF.at t).1; omega) (fun f hf => there_of ((hF.at t).2 f hf)))) rfl rfl ?_ | refine AD.step _ _ _ _ _ rfl (q_call rfl rfl (facesP_call g t (by have := (hF.at t).1; omega) (fun f hf => there_of ((hF.at t).2 f hf)))) rfl rfl ?_) | refine sA ?_ | refine sC (fun _ => ?_) (fun _ => ?_) | fail)
 exact retq rfl rfl
set_option maxHeartbeats 1000000 in
theorem sized1_call (g : Img) (t : Int) (hf : formedG g = true) : ACall Tryz.prog 267 [pi t, .ptr (imgPV g) 0] (ints (partsOf g t)) := by
 refine acall_intro tbOK Tryz.func267 rfl (by kernel_rfl) Tryz.ntmps267 (by simp) _ rfl (fun hw gB hgB => ?_)
 repeat' (first | (refine shC ?_; first | refine qC (PartsP_call g t hf) ?_) | refine sA ?_ | refine sC (fun _ => ?_) (fun _ => ?_) | fail)
 exact retq rfl rfl
theorem kind_callG (g : Img) (hf : formedG g = true) (t : Int) (td : TD) (htd : typeAt g t = some td) : ACall Tryz.prog 118 [tdPV td] (pi (kindG g t)) := by
 have := kind_call td
 obtain ⟨h0, h1, _⟩ := formed_at hf htd
 rw [kindT_eq h0 h1] at this
 rw [kindG, htd]; exact this
set_option maxHeartbeats 1000000 in
theorem facedP_call (g : Img) (t : Int) (td : TD) (htd : typeAt g t = some td) (hf : formedG g = true) : ACall Tryz.prog 223 [imgPV g, pi t] (pb (facedP g t td)) := by
 refine acall_intro tbOK Tryz.func223 rfl (by kernel_rfl) Tryz.ntmps223 (by simp) _ rfl (fun hw gB hgB => ?_)
 obtain ⟨h0, he⟩ := typeAt_get htd
 have hF := fm_of hf
 have hn := hF.n
 obtain ⟨hf1, hf2⟩ := hF.faces td (typeAt_mem htd)
 have c0 := kind_callG g hf t td htd
 have c1 := reach_call g.types.length (by omega) td.faces (facesAt g) 261 [] [.ptr (imgPV g) 0] hf2 (by omega)
  (fun x h0 h1 => faced1_call g x hF) (fun x h0 h1 => ⟨by have := (hF.at x).1; omega, (hF.at x).2⟩)
 repeat' (first | (refine shX ?_; first | refine ao_q rfl (q_index tbOK rfl rfl rfl rfl rfl rfl h0 he) rfl rfl ?_ | refine AD.step _ _ _ _ _ rfl (q_index tbOK rfl rfl rfl rfl rfl rfl h0 he) rfl rfl ?_) | refine sA ?_ | refine sC (fun _ => ?_) (fun _ => ?_) | fail)
 refine aw_loop (fun k : Nat => [(1, .pv (pi t)), (2, .pv (.ptr (imgPV g) 0)), (5, .pv (ints td.faces)), (15, .pv (ints td.faces)), (16, .pv (pi td.faces.length)), (17, .pv (pi k))]) (fun _ => []) (fun k => k ≤ td.faces.length ∧ facedP g t td = (((List.range td.faces.length).drop k).all (faceOkR g td.faces) && (kindG g t != 2 || !decide (t ∈ sortL (reachL g.types.length (facesAt g) td.faces))))) (fun k => td.faces.length - k) 0 ⟨by simp, rfl⟩ (tS) tH ?_
 rintro k ⟨hk, hr⟩
 by_cases hlt : k < td.faces.length
 ·have hef := ints_get hlt
  rw [drop_range_all hlt, faceOkR, getD_get hlt] at hr
  repeat' (first | refine ao_q rfl (q_slice_map (xs := td.faces) (f := pi) 0 k tbOK rfl rfl rfl rfl rfl rfl rfl (by omega) (by omega)) rfl rfl ?_ | (refine shC ?_; first | refine qC (KindPG_call g hf _) ?_ | refine qC (Contains_call (td.faces.take k) _) ?_) | (refine shX ?_; first | refine qX hef ?_) | refine sK ?_ | refine sC (fun _ => ?_) (fun _ => ?_) | fail)
  all_goals first | (refine retq rfl ?_; first | (simp only [retPV] at *; simp only [*, BL]; done) | (simp_all [retPV]; done) | (simp_all [retPV]; omega) | (simp_all [retPV]; intros; omega)) | (refine ⟨k + 1, ⟨by omega, ?_⟩, tD, tS, tH⟩; first | (simp only [BL, List.length_map] at *; simp only [*, BL, List.length_map]; done) | (simp_all []; done) | (simp_all []; omega) | (simp_all []; intros; omega)) | (trace "LEND"; trace_state)
 ·rw [drop_end (by simp; omega)] at hr
  repeat' (first | (refine shC ?_; first | refine qC c0 ?_ | refine qC c1 ?_ | refine qC (Contains_call _ _) ?_) | (refine shX ?_; first | refine ao_q rfl (q_index tbOK rfl rfl rfl rfl rfl rfl h0 he) rfl rfl ?_ | refine AD.step _ _ _ _ _ rfl (q_index tbOK rfl rfl rfl rfl rfl rfl h0 he) rfl rfl ?_) | refine sK ?_ | refine sC (fun _ => ?_) (fun _ => ?_) | fail)
  all_goals first | (refine retq rfl ?_; first | (simp only [retPV] at *; simp only [*, BL]; done) | (simp_all [retPV]; done) | (simp_all [retPV]; omega) | (simp_all [retPV]; intros; omega)) | (refine retn rfl ?_; first | (simp only [retPV, BL, List.length_map] at *; simp only [*, BL, List.length_map]; done) | (simp_all [retPV]; done) | (simp_all [retPV]; omega) | (simp_all [retPV]; intros; omega)) | skip
set_option maxHeartbeats 1000000 in
theorem sizedP_call (g : Img) (t : Int) (td : TD) (htd : typeAt g t = some td) (hf : formedG g = true) : ACall Tryz.prog 225 [imgPV g, pi t] (pb (sizedP g t)) := by
 refine acall_intro tbOK Tryz.func225 rfl (by kernel_rfl) Tryz.ntmps225 (by simp) _ rfl (fun hw gB hgB => ?_)
 obtain ⟨h0, heT⟩ := typeAt_get htd
 have hF := fm_of hf
 have hn := hF.n
 have hg : g.fields.length ≤ 64 := by have := (formedG_bounds hf).2.1; omega
 have c0 := kind_callG g hf t td htd
 have hpl := partsOf_len g
 have c1 := reach_call g.types.length (by omega) (partsOf g t) (partsOf g) 267 [] [.ptr (imgPV g) 0] (fun x hx => partsOf_there hx) (by have := hpl t; omega)
  (fun x h0 h1 => sized1_call g x hf) (fun x h0 h1 => ⟨by have := hpl x; omega, fun y hy => partsOf_there hy⟩)
 repeat' (first | (refine shC ?_; first | refine qC c0 ?_ | refine ao_q rfl (q_call rfl rfl (FieldsP_call g t (by omega))) rfl rfl ?_ | refine AD.step _ _ _ _ _ rfl (q_call rfl rfl (FieldsP_call g t (by omega))) rfl rfl ?_) | (refine shX ?_; first | refine ao_q rfl (q_index tbOK rfl rfl rfl rfl rfl rfl h0 heT) rfl rfl ?_ | refine AD.step _ _ _ _ _ rfl (q_index tbOK rfl rfl rfl rfl rfl rfl h0 heT) rfl rfl ?_) | refine sA ?_ | refine sC (fun _ => ?_) (fun _ => ?_) | fail)
 refine aw_loop (fun k : Nat => [(1, .pv (pi t)), (2, .pv (.ptr (imgPV g) 0)), (5, .pv (pi (kindG g t))), (16, .pv (ints (fieldsOf g t))), (17, .pv (pi (fieldsOf g t).length)), (18, .pv (pi k))]) (fun _ => []) (fun k => k ≤ (fieldsOf g t).length ∧ sizedP g t = (((fieldsOf g t).drop k).all (sizeOk g (kindG g t)) && (kindG g t != 1 || !decide (t ∈ sortL (reachL g.types.length (partsOf g) (partsOf g t)))))) (fun k => (fieldsOf g t).length - k) 0 ⟨by simp, rfl⟩ (tS) tH ?_
 have hfl := fieldsOf_len g t
 rintro k ⟨hk, hr⟩
 by_cases hlt : k < (fieldsOf g t).length
 ·have he := ints_get hlt
  obtain ⟨hi0, hi⟩ := fieldsOf_mem (List.getElem_mem hlt)
  have hef := map_get' (f := fdPV) hi
  rw [drop_all hlt, sizeOk, getD_get hi] at hr
  repeat' (first | (refine shX ?_; first | refine qX he ?_ | refine ao_q rfl (q_index tbOK rfl rfl rfl rfl rfl rfl hi0 hef) rfl rfl ?_ | refine AD.step _ _ _ _ _ rfl (q_index tbOK rfl rfl rfl rfl rfl rfl hi0 hef) rfl rfl ?_) | refine sK ?_ | refine sC (fun _ => ?_) (fun _ => ?_) | fail)
  all_goals first | (refine retq rfl ?_; first | (simp only [retPV] at *; simp only [*, BL]; done) | (simp_all [retPV]; done) | (simp_all [retPV]; omega) | (simp_all [retPV]; intros; omega)) | (refine ⟨k + 1, ⟨by omega, ?_⟩, tD, tS, tH⟩; first | (simp only [BL, List.length_map] at *; simp only [*, BL, List.length_map]; done) | (simp_all []; done) | (simp_all []; omega) | (simp_all []; intros; omega)) | (trace "LEND"; trace_state)
 ·rw [drop_end (by omega)] at hr
  repeat' (first | (refine shC ?_; first | refine qC (PartsP_call g t hf) ?_ | refine qC c1 ?_ | refine qC (Contains_call _ _) ?_) | refine sK ?_ | refine sC (fun _ => ?_) (fun _ => ?_) | fail)
  all_goals first | (refine retq rfl ?_; first | (simp only [retPV] at *; simp only [*, BL]; done) | (simp_all [retPV]; done) | (simp_all [retPV]; omega) | (simp_all [retPV]; intros; omega)) | (refine retn rfl ?_; first | (simp only [retPV, BL, List.length_map] at *; simp only [*, BL, List.length_map]; done) | (simp_all [retPV]; done) | (simp_all [retPV]; omega) | (simp_all [retPV]; intros; omega)) | skip
end Go.Cg
namespace Go.Cg
open Go.Proofs
def checkAtP (g : Img) (k : Nat) (td : TD) : Int := if !(flaggedP td && extP g k td && facedP g k td) then 7 else if !namedP g k td then 18 else if !sizedP g k then 20 else 0
set_option maxHeartbeats 1000000 in
theorem CheckT_call (g : Img) (hx : ∀ m ∈ g.methods, ∀ x ∈ m.code, okArg x) : ACall Tryz.prog 169 [imgPV g] (.tup [pi (checkR g).1, pi (checkR g).2]) := by
 refine acall_intro tbOK Tryz.func169 rfl (by kernel_rfl) Tryz.ntmps169 (by simp) _ rfl (fun hw gB hgB => ?_)
 have c0 := FormedP_call g hx
 cases hf : formedG g
 ·rw [hf] at c0
  repeat' (first | (refine shC ?_; first | refine qC c0 ?_) | refine sK ?_ | refine sC (fun _ => ?_) (fun _ => ?_) | fail)
  exact retq rfl (by simp [retPV, checkR, hf])
 ·rw [hf] at c0
  obtain ⟨b1, b2, b3, b4⟩ := formedG_bounds hf
  have hg : g.types.length ≤ 1000 := by omega
  have hgf : g.fields.length ≤ 1000 := by omega
  have hgm : g.methods.length ≤ 1000 := by omega
  repeat' (first | (refine shC ?_; first | refine qC c0 ?_) | refine sK ?_ | refine sC (fun _ => ?_) (fun _ => ?_) | fail)
  refine aw_loop (fun k : Nat => [(1, .pv (.ptr (imgPV g) 0)), (10, .pv (pi g.types.length)), (11, .pv (pi k))]) (fun _ => []) (fun k => k ≤ g.types.length ∧ ∀ j, j < k → checkAt g j = 0) (fun k => g.types.length - k) 0 ⟨by omega, fun j h => by omega⟩ (tS) tH ?_
  rintro k ⟨hk, hno⟩
  by_cases hlt : k < g.types.length
  ·have he := map_get (f := tdPV) hlt
   have htd := typeAt_nat hlt
   have hat := checkAt_parts hf hlt
   have hfin := fun h => check_at hf hlt hno h
   have hnx : checkAt g k = 0 → ∀ j, j < k + 1 → checkAt g j = 0 := fun h j hj => by
    by_cases e : j = k
    ·subst e; exact h
    ·exact hno j (by omega)
   clear hno
   have d1 := flaggedP_call g.types[k]
   have d2 := extendsP_call g k _ htd hg
   have d3 := facedP_call g k _ htd hf
   have d4 := namedP_call g k _ htd hg hgf hgm
   have d5 := sizedP_call g k _ htd hf
   generalize flaggedP g.types[k] = e1 at d1 hat
   generalize extP g k g.types[k] = e2 at d2 hat
   generalize facedP g k g.types[k] = e3 at d3 hat
   generalize namedP g k g.types[k] = e4 at d4 hat
   generalize sizedP g k = e5 at d5 hat
   have fin : ∀ c : Int, c ≠ 0 → checkAt g k = c → PV.tup [pi (k : Int), pi c] = .tup [pi (checkR g).1, pi (checkR g).2] := fun c hc h => by rw [hfin (by rw [h]; exact hc), h]
   repeat' (first | (refine shC ?_; first | refine qC d1 ?_ | refine qC d2 ?_ | refine qC d3 ?_ | refine qC d4 ?_ | refine qC d5 ?_) | (refine shX ?_; first | refine qX he ?_) | refine sK ?_ | refine sC (fun _ => ?_) (fun _ => ?_) | fail)
   all_goals first
    | exact retq rfl (fin 7 (by decide) (by rw [hat]; simp_all; done))
    | exact retq rfl (fin 18 (by decide) (by rw [hat]; simp_all; done))
    | exact retq rfl (fin 20 (by decide) (by rw [hat]; simp_all; done))
    | exact ⟨k + 1, ⟨hlt, hnx (by rw [hat]; simp_all; done)⟩, tD, tS, tH⟩
  ·repeat' (first | refine sK ?_ | refine sC (fun _ => ?_) (fun _ => ?_) | fail)
   obtain rfl : k = g.types.length := by omega
   exact retq rfl (by simp [retPV, check_no hf hno])
end Go.Cg
namespace Go.Cg
open Go.RowKit
section
variable {P : Program} {g : Base} {H : HEnv} {env : Env} {tb : Tab} {o : Oper}
theorem q_max {x y : Operand} {ts : Array TypeId} {k : IntKind} {m c : Int} (hop : o.op = .call { callee := .builtin .max, args := #[x, y], argTypes := ts }) (hx : env.pv H x = some (.base (.int k m))) (hy : env.pv H y = some (.base (.int k c))) : QStep P g H o env (.pv (.base (.int k (max m c)))) := by
 refine ⟨fun K ρ a w hf hv => ?_⟩
 have hxr := opE_pv hf (hv x (by rw [hop]; simp [Op.operands, Call.operands])) hx
 have hyr := opE_pv hf (hv y (by rw [hop]; simp [Op.operands, Call.operands])) hy
 generalize hxv : a.eval x = xv at hxr
 generalize hyv : a.eval y = yv at hyr
 cases hxr; cases hyr
 have hrun : (execOp a.eval o).run P w = .ok (.value (.int k (max m c))) w := by
  simp [execOp, hop, resolve, invoke, builtin, Builtin.max_, Builtin.max2, hxv, hyv]
  first | done | omega | (split <;> simp <;> omega)
 rw [hrun]
 exact qval hf (.pv _ _ (.base _ rfl))
theorem q_min {x y : Operand} {ts : Array TypeId} {k : IntKind} {m c : Int} (hop : o.op = .call { callee := .builtin .min, args := #[x, y], argTypes := ts }) (hx : env.pv H x = some (.base (.int k m))) (hy : env.pv H y = some (.base (.int k c))) : QStep P g H o env (.pv (.base (.int k (min m c)))) := by
 refine ⟨fun K ρ a w hf hv => ?_⟩
 have hxr := opE_pv hf (hv x (by rw [hop]; simp [Op.operands, Call.operands])) hx
 have hyr := opE_pv hf (hv y (by rw [hop]; simp [Op.operands, Call.operands])) hy
 generalize hxv : a.eval x = xv at hxr
 generalize hyv : a.eval y = yv at hyr
 cases hxr; cases hyr
 have hrun : (execOp a.eval o).run P w = .ok (.value (.int k (min m c))) w := by
  simp [execOp, hop, resolve, invoke, builtin, Builtin.min_, Builtin.min2, hxv, hyv]
  first | done | omega | (split <;> simp <;> omega)
 rw [hrun]
 exact qval hf (.pv _ _ (.base _ rfl))
end
end Go.Cg
namespace Go.Cg
open Go.Proofs
def OkA (g : Img) : Prop := ∀ m ∈ g.methods, ∀ x ∈ m.code, okArg x
set_option maxHeartbeats 1000000 in
theorem wellP_call (g : Img) (hx : OkA g) : ACall Tryz.prog 113 [imgPV g] (pb (wellR g)) := by
 refine acall_intro tbOK Tryz.func113 rfl (by kernel_rfl) Tryz.ntmps113 (by simp) _ rfl (fun hw gB hgB => ?_)
 repeat' (first | (refine shC ?_; first | refine qC (CheckT_call g hx) ?_) | refine sA ?_ | refine sC (fun _ => ?_) (fun _ => ?_) | fail)
 exact retq rfl rfl
theorem kindG_range (g : Img) (t : Int) : kindG g t = -1 ∨ kindG g t = 0 ∨ kindG g t = 1 ∨ kindG g t = 2 ∨ kindG g t = 3 := by
 unfold kindG
 cases typeAt g t with
 | none => exact .inl rfl
 | some td =>
  simp only
  unfold kindR
  cases bitF td.flags 2 <;> cases bitF td.flags 1 <;> cases bitF td.flags 16 <;> simp
set_option maxHeartbeats 1000000 in
theorem usedP_call (g : Img) (t : Ty) (hf : formedG g = true) : ACall Tryz.prog 114 [imgPV g, tyPV t] (pb (usedR g t)) := by
 refine acall_intro tbOK Tryz.func114 rfl (by kernel_rfl) Tryz.ntmps114 (by simp) _ rfl (fun hw gB hgB => ?_)
 have hk := kindG_range g t.index
 have c1 := KindPG_call g hf t.index
 have hu : usedR g t = (plainT t && (if t.kind == 5 then kindG g t.index == 0 || kindG g t.index == 2 || kindG g t.index == 3 else t.kind != 6 || kindG g t.index == 1)) := rfl
 rw [hu]
 generalize kindG g t.index = k at c1 hk hu
 clear hu
 repeat' (first | (refine shC ?_; first | refine qC (PlainP_call t) ?_ | refine qC c1 ?_) | refine sA ?_ | refine sC (fun _ => ?_) (fun _ => ?_) | fail)
 all_goals (refine retq rfl ?_; rcases hk with rfl | rfl | rfl | rfl | rfl <;> simp_all [retPV])
theorem nums_map {α : Type} (d : α) (fs : List α) : (nums fs.length).map (fun i => fs.getD i.toNat d) = fs := by
 rw [nums, List.map_map]
 apply List.ext_getElem
 ·simp
 ·intro i h1 h2
  simp only [List.getElem_map, List.getElem_range, Function.comp]
  rw [Int.toNat_natCast, getD_get h2]
theorem own_eq {g : Img} (hf : formedG g = true) (t : Int) : ((fieldsOf g t).filter fun i => !(g.fields.getD i.toNat default).static).map (fun i => g.fields.getD i.toNat default) = ownF g t := by
 have h1 : ownF g t = ((nums g.fields.length).filter ((fun f : Fd => f.owner == t && !f.static) ∘ fun i => g.fields.getD i.toNat default)).map (fun i => g.fields.getD i.toNat default) := by
  rw [ownF, ← List.filter_map, nums_map]
 rw [h1, fieldsOf, List.filter_filter]
 congr 1
 apply List.filter_congr
 intro i hi
 obtain ⟨i0, i1⟩ := mem_nums.1 hi
 have hlt : i.toNat < g.fields.length := by omega
 obtain ⟨o0, o1, _⟩ := formed_fd hf (List.getElem_mem hlt)
 simp only [Function.comp, getD_get hlt]
 by_cases ho : g.fields[i.toNat].owner = t
 ·have := there_of (g := g) (t := t) (by omega)
  rw [this, Bool.true_and, Bool.and_comm]
 ·have : (g.fields[i.toNat].owner == t) = false := by simp [ho]
  rw [this]; simp
theorem ownF_len (g : Img) (t : Int) : (ownF g t).length ≤ g.fields.length := List.length_filter_le _ _
theorem ownF_sub {g : Img} {t : Int} {f : Fd} (h : f ∈ ownF g t) : f ∈ g.fields := (List.mem_filter.1 h).1
set_option maxHeartbeats 1000000 in
theorem own_call (g : Img) (t : Int) (hf : formedG g = true) : ACall Tryz.prog 173 [imgPV g, pi t] (.slc 7 ((ownF g t).map fdPV) false) := by
 refine acall_intro tbOK Tryz.func173 rfl (by kernel_rfl) Tryz.ntmps173 (by simp) _ rfl (fun hw gB hgB => ?_)
 have hg : g.fields.length ≤ 1000 := by have := (formedG_bounds hf).2.1; omega
 have hfl := fieldsOf_len g t
 repeat' (first | (refine shC ?_; first | refine qC (FieldsP_call g t hg) ?_) | refine sA ?_ | refine sC (fun _ => ?_) (fun _ => ?_) | fail)
 refine aw_own_nil (t := 5) 0 167 7 (by decide) rfl rfl ?_
 refine aw_loop (fun x : Nat × List Fd => [(2, .pv (.ptr (imgPV g) 0)), (5, .own 0), (10, .pv (ints (fieldsOf g t))), (11, .pv (pi (fieldsOf g t).length)), (12, .pv (pi x.1))]) (fun x => [(0, .row 167 7 (x.2.map fdPV))])
  (fun x => x.1 ≤ (fieldsOf g t).length ∧ x.2.length ≤ x.1 ∧ x.2 ++ (((fieldsOf g t).drop x.1).filter fun i => !(g.fields.getD i.toNat default).static).map (fun i => g.fields.getD i.toNat default) = ownF g t) (fun x => (fieldsOf g t).length - x.1) (0, []) ⟨by simp, by simp, own_eq hf t⟩ (tS) ⟨hsub_cons rfl hsub_nil, rfl⟩ ?_
 rintro ⟨k, out⟩ ⟨hk, hol, hr⟩
 simp only at hk hol hr
 by_cases hlt : k < (fieldsOf g t).length
 ·have he := ints_get hlt
  obtain ⟨h0, hi⟩ := fieldsOf_mem (List.getElem_mem hlt)
  have hef := map_get' (f := fdPV) hi
  rw [drop_cons hlt, List.filter_cons, getD_get hi] at hr
  generalize hfd : g.fields[(fieldsOf g t)[k].toNat] = f at hr hef
  repeat' (first | (refine shX ?_; first | refine qX he ?_ | refine ao_q rfl (q_index tbOK rfl rfl rfl rfl rfl rfl h0 hef) rfl rfl ?_ | refine AD.step _ _ _ _ _ rfl (q_index tbOK rfl rfl rfl rfl rfl rfl h0 hef) rfl rfl ?_) | (refine ao_sh_bi ?_; first | refine ao_append tbOK rfl rfl rfl rfl rfl rfl rfl (by show _ * 64 ≤ _; simp; omega) (by simp; omega) rfl rfl ?_) | refine sK ?_ | refine sC (fun _ => ?_) (fun _ => ?_) | fail)
  ·rename_i hx
   rw [if_pos hx, List.map_cons, getD_get hi, hfd] at hr
   exact ⟨(k + 1, out ++ [f]), ⟨by simp; omega, by simp; omega, by simpa using hr⟩, tD, tS, ⟨hsub_r rfl (by simp) hsub_nil, rfl⟩⟩
  ·rename_i hx
   rw [if_neg (by simp [hx])] at hr
   exact ⟨(k + 1, out), ⟨by simp; omega, by simp; omega, hr⟩, tD, tS, ⟨hsub_r rfl rfl hsub_nil, rfl⟩⟩
 ·rw [drop_end (by omega)] at hr
  repeat' (first | refine sK ?_ | refine sC (fun _ => ?_) (fun _ => ?_) | fail)
  exact retq rfl (by rw [← hr]; simp [retPV])
set_option maxHeartbeats 1000000 in
theorem wholeR_call (t : Ty) : ACall Tryz.prog 146 [tyPV t] (pb (whole t)) := by
 refine acall_intro tbOK Tryz.func146 rfl (by kernel_rfl) Tryz.ntmps146 (by simp) _ rfl (fun hw gB hgB => ?_)
 repeat' (first | refine sA ?_ | refine sC (fun _ => ?_) (fun _ => ?_) | fail)
 all_goals first | (refine retq rfl ?_; first | (simp only [retPV, whole] at *; simp only [*, BL]; done) | (simp_all [retPV, whole]; done) | (simp_all [retPV, whole]; omega) | (simp_all [retPV, whole]; intros; omega)) | (refine retn rfl ?_; first | (simp only [retPV, whole, BL, List.length_map] at *; simp only [*, BL, List.length_map]; done) | (simp_all [retPV, whole]; done) | (simp_all [retPV, whole]; omega) | (simp_all [retPV, whole]; intros; omega)) | skip
set_option maxHeartbeats 1000000 in
theorem UsedR_call (g : Img) (t : Ty) : ACall Tryz.prog 108 [imgPV g, tyPV t] (pb (usedR g t)) := by
 refine acall_intro tbOK Tryz.func108 rfl (by kernel_rfl) Tryz.ntmps108 (by simp) _ rfl (fun hw gB hgB => ?_)
 repeat' (first | (refine shC ?_; first | refine qC (Plain_call t) ?_ | refine qC (KindR_call g t.index) ?_) | refine sA ?_ | refine sC (fun _ => ?_) (fun _ => ?_) | fail)
 all_goals first | (refine retq rfl ?_; first | (simp only [retPV, usedR] at *; simp only [*, BL]; done) | (simp_all [retPV, usedR]; done) | (simp_all [retPV, usedR]; omega) | (simp_all [retPV, usedR]; intros; omega)) | (refine retn rfl ?_; first | (simp only [retPV, usedR, BL, List.length_map] at *; simp only [*, BL, List.length_map]; done) | (simp_all [retPV, usedR]; done) | (simp_all [retPV, usedR]; omega) | (simp_all [retPV, usedR]; intros; omega)) | skip
end Go.Cg
namespace Go.Cg
open Go.Proofs
theorem own_right {g : Img} {n : Nat} {t : Ty} (hd : Dp g (n + 1) t) (hw : whole t = false) : ∀ f ∈ ownF g t.index, Dp g n f.ty := by
 rcases hd with h | h
 ·rw [h] at hw; cases hw
 ·exact h
theorem cells_void {g : Img} (h : wellR g = true) (hu : allUsed g = true) {t : Ty} (hk : t.kind = 1) : cellsT g t = [] := by rw [cellsT_eq h hu]; simp [hk]
theorem cells_whole {g : Img} (h : wellR g = true) (hu : allUsed g = true) {t : Ty} (hk : t.kind ≠ 1) (hw : whole t = true) : cellsT g t = [t] := by rw [cellsT_eq h hu]; simp [hk, hw]
theorem whole_kind {t : Ty} (hw : whole t = false) : t.kind = 6 ∧ t.ref = false ∧ ¬ 0 < t.dims := by
 simp only [whole, Bool.or_eq_false_iff, bne_eq_false_iff_eq, decide_eq_false_iff_not] at hw
 exact ⟨hw.1.1, hw.1.2, hw.2⟩
theorem cells_open {g : Img} (h : wellR g = true) (hu : allUsed g = true) {t : Ty} (hw : whole t = false) : cellsT g t = if (fcs g (ownF g t.index)).length = 0 then [intTy] else fcs g (ownF g t.index) := by
 rw [cellsT_eq h hu, hw]
 simp [(whole_kind hw).1]
theorem cells_open_len {g : Img} (h : wellR g = true) (hu : allUsed g = true) {t : Ty} (hw : whole t = false) : (cellsT g t).length = max (fcs g (ownF g t.index)).length 1 := by
 rw [cells_open h hu hw]
 split
 ·rename_i h0; rw [h0]; rfl
 ·omega
theorem fcs_take_succ {g : Img} {l : List Fd} {k : Nat} (h : k < l.length) : (fcs g (l.take (k + 1))).length = (fcs g (l.take k)).length + (cellsT g l[k].ty).length := by
 rw [List.take_succ_eq_append_getElem h, fcs_len_append, fcs_len_cons]; simp [fcs]
theorem fcs_take_succ' {g : Img} {l : List Fd} {k : Nat} (h : k < l.length) : fcs g (l.take (k + 1)) = fcs g (l.take k) ++ cellsT g l[k].ty := by
 rw [List.take_succ_eq_append_getElem h, fcs_append, fcs_cons]; simp [fcs]
set_option maxHeartbeats 1000000 in
theorem count_call (g : Img) (hwl : wellR g = true) (hu : allUsed g = true) (b : Nat) (hb : b ≤ 100) (hb1 : 1 ≤ b) : ∀ (n : Nat) (t : Ty), Dp g n t → ACall Tryz.prog 171 [imgPV g, tyPV t, pi b] (pi (cntT g b t : Nat)) := by
 have hf := well_formed hwl
 intro n
 induction n with
 | zero =>
  intro t hd
  have hwh : whole t = true := hd
  refine acall_intro tbOK Tryz.func171 rfl (by kernel_rfl) Tryz.ntmps171 (by simp) _ rfl (fun hw gB hgB => ?_)
  have hw' : (t.kind != 6 || t.ref || decide (0 < t.dims)) = true := hwh
  by_cases hk : t.kind = 1
  ·have e : cntT g b t = 0 := by rw [cntT, cells_void hwl hu hk]; rfl
   have hkb : (t.kind == 1) = true := by simp [hk]
   repeat' (first | refine sK ?_ | refine sC (fun _ => ?_) (fun _ => ?_) | fail)
   all_goals exact retq rfl (by rw [e]; rfl)
  ·have e : cntT g b t = 1 := by rw [cntT, cells_whole hwl hu hk hwh]; simp <;> omega
   have hkb : (t.kind == 1) = false := by simp [hk]
   repeat' (first | refine sA ?_ | refine sC (fun _ => ?_) (fun _ => ?_) | fail)
   all_goals first
    | (refine retq rfl ?_; rw [e]; rfl)
    | (exfalso; simp_all; done)
 | succ n ih =>
  intro t hd
  refine acall_intro tbOK Tryz.func171 rfl (by kernel_rfl) Tryz.ntmps171 (by simp) _ rfl (fun hw gB hgB => ?_)
  cases hwh : whole t
  ·obtain ⟨k1, k2, k3⟩ := whole_kind hwh
   have hn := own_right hd hwh
   have hol := ownF_len g t.index
   have hgl : g.fields.length ≤ 64 := by have := (formedG_bounds hf).2.1; omega
   have hkb1 : (t.kind == 1) = false := by simp [k1]
   have hkb2 : (t.kind != 6) = false := by simp [k1]
   have hkb3 : decide (0 < t.dims) = false := by simp [k3]
   repeat' (first | (refine shC ?_; first | refine qC (own_call g t.index hf) ?_) | refine sK ?_ | refine sC (fun _ => ?_) (fun _ => ?_) | fail)
   refine aw_loop (fun x : Nat × Nat => [(2, .pv (pi b)), (3, .pv (.ptr (imgPV g) 0)), (7, .pv (pi x.2)), (28, .pv (.slc 7 ((ownF g t.index).map fdPV) false)), (29, .pv (pi (ownF g t.index).length)), (30, .pv (pi x.1))]) (fun _ => [])
    (fun x => x.1 ≤ (ownF g t.index).length ∧ x.2 ≤ 2 * b + 1 ∧ Cnt b x.2 (fcs g ((ownF g t.index).take x.1)).length) (fun x => (ownF g t.index).length - x.1) (0, 0) ⟨by simp, by simp, rfl⟩ (tS) tH ?_
   rintro ⟨k, r⟩ ⟨hk, hr, hc⟩
   simp only at hk hr hc
   by_cases hlt : k < (ownF g t.index).length
   ·have he := map_get (f := fdPV) hlt
    have c1 := ih (ownF g t.index)[k].ty (hn _ (List.getElem_mem hlt))
    have hs := fcs_take_succ (g := g) hlt
    have hcl : cntT g b (ownF g t.index)[k].ty ≤ b + 1 := Nat.min_le_right _ _
    have hce : cntT g b (ownF g t.index)[k].ty = min (cellsT g (ownF g t.index)[k].ty).length (b + 1) := rfl
    generalize cntT g b (ownF g t.index)[k].ty = c at c1 hcl hce
    by_cases hrb : r ≤ b
    ·have hcn := hc.add (l := (cellsT g (ownF g t.index)[k].ty).length) hrb
     rw [← hs, ← hce] at hcn
     repeat' (first | (refine shC ?_; first | refine qC c1 ?_) | (refine shX ?_; first | refine qX he ?_) | refine sK ?_ | refine sC (fun _ => ?_) (fun _ => ?_) | fail)
     exact ⟨(k + 1, r + c), ⟨hlt, by simp only; omega, hcn⟩, tD, by repeat (first | exact sub_nil | refine sub_cons rfl ?_ | (refine sub_i rfl ?_ ?_; · (first | (rw [wrap_in (by omega) (by omega)] <;> omega) | (dsimp only; rw [wrap_in (by omega) (by omega)] <;> (push_cast; omega))))), tH⟩
    ·have hcn := hc.stay (l := (cellsT g (ownF g t.index)[k].ty).length) (by omega)
     rw [← hs] at hcn
     repeat' (first | (refine shX ?_; first | refine qX he ?_) | refine sK ?_ | refine sC (fun _ => ?_) (fun _ => ?_) | fail)
     exact ⟨(k + 1, r), ⟨hlt, hr, hcn⟩, tD, tS, tH⟩
   ·have e : cntT g b t = min (max r 1) (b + 1) := by
     rw [cntT, cells_open_len hwl hu hwh]
     rw [List.take_of_length_le (by omega)] at hc
     unfold Cnt at hc; omega
    have hwb : IntKind.i64.wrap ((b : Int) + 1) = ((b + 1 : Nat) : Int) := by rw [wrap_in (by omega) (by omega)]; omega
    repeat' (first | refine ao_q rfl (q_max rfl rfl rfl) rfl rfl ?_ | refine ao_q rfl (q_min rfl rfl rfl) rfl rfl ?_ | refine sK ?_ | refine sC (fun _ => ?_) (fun _ => ?_) | fail)
    exact retq rfl (by rw [e]; simp only [retPV, hwb] <;> (congr 3 <;> omega))
  ·have hw' : (t.kind != 6 || t.ref || decide (0 < t.dims)) = true := hwh
   by_cases hk : t.kind = 1
   ·have e : cntT g b t = 0 := by rw [cntT, cells_void hwl hu hk]; rfl
    have hkb : (t.kind == 1) = true := by simp [hk]
    repeat' (first | refine sK ?_ | refine sC (fun _ => ?_) (fun _ => ?_) | fail)
    all_goals exact retq rfl (by rw [e]; rfl)
   ·have e : cntT g b t = 1 := by rw [cntT, cells_whole hwl hu hk hwh]; simp <;> omega
    have hkb : (t.kind == 1) = false := by simp [hk]
    repeat' (first | refine sA ?_ | refine sC (fun _ => ?_) (fun _ => ?_) | fail)
    all_goals first
     | (refine retq rfl ?_; rw [e]; rfl)
     | (exfalso; simp_all; done)
set_option maxHeartbeats 1000000 in
theorem long_call (g : Img) (hwl : wellR g = true) (hu : allUsed g = true) (b : Nat) (hb : b ≤ 100) (hb1 : 1 ≤ b) (t : Ty) : ACall Tryz.prog 115 [imgPV g, tyPV t, pi b] (pb (decide (b < (cellsT g t).length))) := by
 refine acall_intro tbOK Tryz.func115 rfl (by kernel_rfl) Tryz.ntmps115 (by simp) _ rfl (fun hw gB hgB => ?_)
 have c1 := count_call g hwl hu b hb hb1 _ t (dp_all hwl hu t)
 have e : decide ((b : Int) < (cntT g b t : Nat)) = decide (b < (cellsT g t).length) := by
  rw [decide_eq_decide]; unfold cntT; omega
 repeat' (first | (refine shC ?_; first | refine qC c1 ?_) | refine sA ?_ | refine sC (fun _ => ?_) (fun _ => ?_) | fail)
 exact retq rfl (by simp only [retPV, e])
end Go.Cg
namespace Go.Cg
open Go.Proofs

/-! how many cells: the document's side -/
def ownP (t : Int) (f : Fd) : Bool := f.owner == t && !f.static
theorem filter_take_succ {α : Type} {p : α → Bool} {l : List α} {k : Nat} (h : k < l.length) : (l.take (k + 1)).filter p = (l.take k).filter p ++ if p l[k] then [l[k]] else [] := by
  rw [List.take_succ_eq_append_getElem h, List.filter_append]
  cases hp : p l[k] <;> simp [hp]
theorem filter_take_yes {g : Img} {p : Fd → Bool} {l : List Fd} {k : Nat} (h : k < l.length) (hp : p l[k] = true) : fcs g ((l.take (k + 1)).filter p) = fcs g ((l.take k).filter p) ++ cellsT g l[k].ty := by
  rw [filter_take_succ h, if_pos hp, fcs_append, fcs_cons]; simp [fcs]
theorem filter_take_no {g : Img} {p : Fd → Bool} {l : List Fd} {k : Nat} (h : k < l.length) (hp : p l[k] = false) : fcs g ((l.take (k + 1)).filter p) = fcs g ((l.take k).filter p) := by
  rw [filter_take_succ h, hp]; simp
theorem fcs_sub_le (g : Img) (p : Fd → Bool) (l : List Fd) (k : Nat) : (fcs g ((l.take k).filter p)).length ≤ (fcs g (l.filter p)).length := by
  have : l.filter p = (l.take k).filter p ++ (l.drop k).filter p := by rw [← List.filter_append, List.take_append_drop]
  rw [this, fcs_len_append]; omega
theorem dp_own {g : Img} {n : Nat} {t : Ty} (h : ∀ f ∈ ownF g t.index, Dp g n f.ty) {k : Nat} (hk : k < g.fields.length) (hp : ownP t.index g.fields[k] = true) : Dp g n g.fields[k].ty :=
  h _ (List.mem_filter.2 ⟨List.getElem_mem hk, hp⟩)
set_option maxHeartbeats 1000000 in
theorem CountR_call (g : Img) (hwl : wellR g = true) (hu : allUsed g = true) (b : Nat) (hb : b ≤ 100) (hb1 : 1 ≤ b) : ∀ (n : Nat) (t : Ty), Dp g n t → ACall Tryz.prog 110 [imgPV g, tyPV t, pi b] (pi (cntT g b t : Nat)) := by
  have hf := well_formed hwl
  have hgl : g.fields.length ≤ 64 := by have := (formedG_bounds hf).2.1; omega
  intro n
  induction n with
  | zero =>
    intro t hd
    have hwh : whole t = true := hd
    have cw := wholeR_call t
    rw [hwh] at cw
    refine acall_intro tbOK Tryz.func110 rfl (by kernel_rfl) Tryz.ntmps110 (by simp) _ rfl (fun hw gB hgB => ?_)
    by_cases hk : t.kind = 1
    · have e : cntT g b t = 0 := by rw [cntT, cells_void hwl hu hk]; rfl
      have hkb : (t.kind == 1) = true := by simp [hk]
      repeat' (first | refine sK ?_ | refine sC (fun _ => ?_) (fun _ => ?_) | fail)
      all_goals exact retq rfl (by rw [e]; rfl)
    · have e : cntT g b t = 1 := by rw [cntT, cells_whole hwl hu hk hwh]; simp <;> omega
      have hkb : (t.kind == 1) = false := by simp [hk]
      repeat' (first | (refine shC ?_; first | refine qC cw ?_) | refine sK ?_ | refine sC (fun _ => ?_) (fun _ => ?_) | fail)
      all_goals exact retq rfl (by rw [e]; rfl)
  | succ n ih =>
    intro t hd
    have cw := wholeR_call t
    refine acall_intro tbOK Tryz.func110 rfl (by kernel_rfl) Tryz.ntmps110 (by simp) _ rfl (fun hw gB hgB => ?_)
    cases hwh : whole t
    · rw [hwh] at cw
      obtain ⟨k1, k2, k3⟩ := whole_kind hwh
      have hn := own_right hd hwh
      have hkb1 : (t.kind == 1) = false := by simp [k1]
      repeat' (first | (refine shC ?_; first | refine qC cw ?_) | refine sK ?_ | refine sC (fun _ => ?_) (fun _ => ?_) | fail)
      refine aw_loop (fun x : Nat × Nat => [(2, .pv (pi b)), (3, .pv (.ptr (imgPV g) 0)), (4, .pv (.ptr (tyPV t) 0)), (7, .pv (pi x.2)), (8, .pv (pi x.1))]) (fun _ => [])
        (fun x => x.1 ≤ g.fields.length ∧ x.2 ≤ 2 * b + 1 ∧ Cnt b x.2 (fcs g ((g.fields.take x.1).filter (ownP t.index))).length) (fun x => g.fields.length - x.1) (0, 0) ⟨by simp, by simp, rfl⟩ (tS) tH ?_
      rintro ⟨k, r⟩ ⟨hk, hr, hc⟩
      simp only at hk hr hc
      have hfin : ∀ s : Nat, Cnt b r s → s ≤ (fcs g (ownF g t.index)).length → (b < r ∨ s = (fcs g (ownF g t.index)).length) → cntT g b t = min (max r 1) (b + 1) := by
        intro s h1 h2 h3
        rw [cntT, cells_open_len hwl hu hwh]
        unfold Cnt at h1; omega
      have hle := fcs_sub_le g (ownP t.index) g.fields k
      have hwb : IntKind.i64.wrap ((b : Int) + 1) = ((b + 1 : Nat) : Int) := by rw [wrap_in (by omega) (by omega)]; omega
      by_cases hlt : k < g.fields.length
      · have he := map_get (f := fdPV) hlt
        by_cases hrb : r ≤ b
        · cases hp : ownP t.index g.fields[k]
          · have hcn : Cnt b r (fcs g ((g.fields.take (k + 1)).filter (ownP t.index))).length := by rw [filter_take_no hlt hp]; exact hc
            have hpa : (g.fields[k].owner == t.index && !g.fields[k].static) = false := hp
            clear hfin
            repeat' (first | (refine shX ?_; first | refine qX he ?_) | refine sA ?_ | refine sC (fun _ => ?_) (fun _ => ?_) | fail)
            all_goals first
              | exact ⟨(k + 1, r), ⟨hlt, hr, hcn⟩, tD, tS, tH⟩
              | (exfalso; simp_all; done)
              | (exfalso; simp_all; omega)
          · have c1 := ih g.fields[k].ty (dp_own hn hlt hp)
            have hs := filter_take_yes (g := g) hlt hp
            have hcl : cntT g b g.fields[k].ty ≤ b + 1 := Nat.min_le_right _ _
            have hcn := hc.add (l := (cellsT g g.fields[k].ty).length) hrb
            rw [← List.length_append, ← hs] at hcn
            rw [show min (cellsT g g.fields[k].ty).length (b + 1) = cntT g b g.fields[k].ty from rfl] at hcn
            generalize cntT g b g.fields[k].ty = c at c1 hcl hcn
            have hpa : (g.fields[k].owner == t.index && !g.fields[k].static) = true := hp
            rw [Bool.and_eq_true] at hpa
            obtain ⟨hp1, hp2⟩ := hpa
            clear hfin
            repeat' (first | (refine shC ?_; first | refine qC c1 ?_) | (refine shX ?_; first | refine qX he ?_) | refine sK ?_ | refine sC (fun _ => ?_) (fun _ => ?_) | fail)
            all_goals first
              | exact ⟨(k + 1, r + c), ⟨hlt, by simp only; omega, hcn⟩, tD, by repeat (first | exact sub_nil | refine sub_cons rfl ?_ | (refine sub_i rfl ?_ ?_; · (first | (rw [wrap_in (by omega) (by omega)] <;> omega) | (dsimp only; rw [wrap_in (by omega) (by omega)] <;> (push_cast; omega))))), tH⟩
              | (exfalso; simp_all; done)
        · have e := hfin _ hc hle (.inl (by omega))
          repeat' (first | refine sK ?_ | refine sC (fun _ => ?_) (fun _ => ?_) | fail)
          all_goals first
            | (refine retq rfl ?_; rw [e]; simp only [retPV, hwb] <;> (congr 3 <;> omega))
            | (exfalso; omega)
            | (trace "LEFT1"; trace_state)
      · have e := hfin _ hc hle (.inr (by rw [List.take_of_length_le (by omega)]; rfl))
        clear hfin
        repeat' (first | refine sA ?_ | refine sC (fun _ => ?_) (fun _ => ?_) | fail)
        all_goals first
          | (refine retq rfl ?_; rw [e]; simp only [retPV, hwb] <;> (congr 3 <;> (simp_all; omega)))
          | (refine retq rfl ?_; rw [e]; simp only [retPV] <;> (congr 3 <;> (simp_all <;> omega)))
          | (exfalso; simp_all <;> omega)
          | (rename_i h1 _
             have h0 : r = 0 := by
               have := eq_of_beq h1
               simp only at this; omega
             refine retq rfl ?_
             rw [e, h0]
             have : min (max 0 1) (b + 1) = 1 := by omega
             rw [this]; rfl)
    · rw [hwh] at cw
      by_cases hk : t.kind = 1
      · have e : cntT g b t = 0 := by rw [cntT, cells_void hwl hu hk]; rfl
        have hkb : (t.kind == 1) = true := by simp [hk]
        repeat' (first | refine sK ?_ | refine sC (fun _ => ?_) (fun _ => ?_) | fail)
        all_goals exact retq rfl (by rw [e]; rfl)
      · have e : cntT g b t = 1 := by rw [cntT, cells_whole hwl hu hk hwh]; simp <;> omega
        have hkb : (t.kind == 1) = false := by simp [hk]
        repeat' (first | (refine shC ?_; first | refine qC cw ?_) | refine sK ?_ | refine sC (fun _ => ?_) (fun _ => ?_) | fail)
        all_goals exact retq rfl (by rw [e]; rfl)
end Go.Cg
namespace Go.Cg
open Go.Proofs
set_option maxHeartbeats 1000000 in
theorem cellsP_call (g : Img) (hF : Fine g) : ∀ (n : Nat) (t : Ty), Dp g n t → ACall Tryz.prog 175 [imgPV g, tyPV t] (tys (cellsT g t)) := by
 have hwl := hF.well
 have hu := hF.used
 have hf := well_formed hwl
 intro n
 induction n with
 | zero =>
  intro t hd
  have hwh : whole t = true := hd
  have hw' : (t.kind != 6 || t.ref || decide (0 < t.dims)) = true := hwh
  refine acall_intro tbOK Tryz.func175 rfl (by kernel_rfl) Tryz.ntmps175 (by simp) _ rfl (fun hw gB hgB => ?_)
  by_cases hk : t.kind = 1
  ·have e : cellsT g t = [] := cells_void hwl hu hk
   have hkb : (t.kind == 1) = true := by simp [hk]
   repeat' (first | refine sK ?_ | refine sC (fun _ => ?_) (fun _ => ?_) | fail)
   all_goals (rw [e]; exact retq_w (t := 4) (ps := [tys []]) rfl (tells_nil 4 false) rfl rfl)
  ·have e : cellsT g t = [t] := cells_whole hwl hu hk hwh
   have hkb : (t.kind == 1) = false := by simp [hk]
   repeat' (first | refine sA ?_ | refine sC (fun _ => ?_) (fun _ => ?_) | fail)
   all_goals first
    | (rw [e]; exact retq_w (t := 4) (ps := [tys [t]]) rfl (tells_full 4 [tyPV t] true) rfl rfl)
    | (exfalso; simp_all; done)
 | succ n ih =>
  intro t hd
  refine acall_intro tbOK Tryz.func175 rfl (by kernel_rfl) Tryz.ntmps175 (by simp) _ rfl (fun hw gB hgB => ?_)
  cases hwh : whole t
  ·obtain ⟨k1, k2, k3⟩ := whole_kind hwh
   have hn := own_right hd hwh
   have hol := ownF_len g t.index
   have hgl : g.fields.length ≤ 64 := by have := (formedG_bounds hf).2.1; omega
   have hkb1 : (t.kind == 1) = false := by simp [k1]
   have hkb2 : (t.kind != 6) = false := by simp [k1]
   have hkb3 : decide (0 < t.dims) = false := by simp [k3]
   repeat' (first | refine aw_own_nil (t := 5) 0 36 4 (by decide) rfl rfl ?_ | (refine shC ?_; first | refine qC (own_call g t.index hf) ?_) | refine sK ?_ | refine sC (fun _ => ?_) (fun _ => ?_) | fail)
   refine aw_loop (fun k : Nat => [(2, .pv (.ptr (imgPV g) 0)), (5, .own 0), (30, .pv (.slc 7 ((ownF g t.index).map fdPV) false)), (31, .pv (pi (ownF g t.index).length)), (32, .pv (pi k))]) (fun k => [(0, .row 36 4 ((fcs g ((ownF g t.index).take k)).map tyPV))])
    (fun k => k ≤ (ownF g t.index).length) (fun k => (ownF g t.index).length - k) 0 (by omega) (tS) ⟨hsub_cons rfl hsub_nil, rfl⟩ ?_
   rintro k hk
   have hle := fcs_le hF ((ownF g t.index).take k) (fun f h => ownF_sub (List.mem_of_mem_take h))
   have hlk : ((ownF g t.index).take k).length ≤ k := by simp; omega
   by_cases hlt : k < (ownF g t.index).length
   ·have he := map_get (f := fdPV) hlt
    have c1 := ih (ownF g t.index)[k].ty (hn _ (List.getElem_mem hlt))
    have hs := fcs_take_succ' (g := g) hlt
    have hcl := hF.field_le (ownF_sub (List.getElem_mem hlt))
    repeat' (first | (refine shC ?_; first | refine qC c1 ?_) | (refine shX ?_; first | refine qX he ?_) | (refine ao_sh_bi ?_; first | refine ao_append tbOK rfl rfl rfl rfl rfl rfl rfl (by show _ * 32 ≤ _; simp; omega) (by simp; omega) rfl rfl ?_) | refine sK ?_ | refine sC (fun _ => ?_) (fun _ => ?_) | fail)
    exact ⟨k + 1, hlt, tD, tS, ⟨hsub_r rfl (by rw [hs]; simp) hsub_nil, rfl⟩⟩
   ·rw [List.take_of_length_le (by omega)] at hle ⊢
    by_cases h0 : (fcs g (ownF g t.index)).length = 0
    ·have e : cellsT g t = [intTy] := by rw [cells_open hwl hu hwh, if_pos h0]
     have hb0 : (((((fcs g (ownF g t.index)).map tyPV).length : Nat) : Int) == 0) = true := by rw [List.length_map, h0]; rfl
     repeat' (first | refine sK ?_ | refine sC (fun _ => ?_) (fun _ => ?_) | fail)
     all_goals (rw [e]; exact retq_w (t := 4) (ps := [tys [intTy]]) rfl (tells_full 4 [tyPV intTy] true) rfl rfl)
    ·have e : cellsT g t = fcs g (ownF g t.index) := by rw [cells_open hwl hu hwh, if_neg h0]
     have hb0 : (((((fcs g (ownF g t.index)).map tyPV).length : Nat) : Int) == 0) = false := by rw [List.length_map, beq_eq_false_iff_ne]; omega
     repeat' (first | refine sK ?_ | refine sC (fun _ => ?_) (fun _ => ?_) | fail)
     all_goals exact retq rfl (by rw [e]; rfl)
  ·have hw' : (t.kind != 6 || t.ref || decide (0 < t.dims)) = true := hwh
   by_cases hk : t.kind = 1
   ·have e : cellsT g t = [] := cells_void hwl hu hk
    have hkb : (t.kind == 1) = true := by simp [hk]
    repeat' (first | refine sK ?_ | refine sC (fun _ => ?_) (fun _ => ?_) | fail)
    all_goals (rw [e]; exact retq_w (t := 4) (ps := [tys []]) rfl (tells_nil 4 false) rfl rfl)
   ·have e : cellsT g t = [t] := cells_whole hwl hu hk hwh
    have hkb : (t.kind == 1) = false := by simp [hk]
    repeat' (first | refine sA ?_ | refine sC (fun _ => ?_) (fun _ => ?_) | fail)
    all_goals first
     | (rw [e]; exact retq_w (t := 4) (ps := [tys [t]]) rfl (tells_full 4 [tyPV t] true) rfl rfl)
     | (exfalso; simp_all; done)
theorem cellsPT_call (g : Img) (hF : Fine g) (t : Ty) : ACall Tryz.prog 175 [imgPV g, tyPV t] (tys (cellsT g t)) := cellsP_call g hF _ t (dp_all hF.well hF.used t)
end Go.Cg
namespace Go.Cg
open Go.RowKit
def moreE (k j : Nat) (o : Oper) : Oper := if k ≤ j then { o with after := o.after ++ ((List.range j).map fun i => (⟨i, .phase⟩ : Edge)).toArray } else o
def moreEs (k : Nat) : List Oper → Nat → List Oper
 | [], _ => []
 | o :: r, j => moreE k j o :: moreEs k r (j + 1)
theorem moreEs_get (k : Nat) : ∀ (ops : List Oper) (m j : Nat), (moreEs k ops m)[j]? = (ops[j]?).map (moreE k (m + j))
 | [], m, j => by simp [moreEs]
 | o :: ops, m, j => by
  cases j with
  | zero => simp [moreEs]
  | succ j => simp [moreEs, moreEs_get k ops (m + 1) j, Nat.add_assoc, Nat.add_comm 1 j]
theorem moreEs_length (k : Nat) : ∀ (ops : List Oper) (m : Nat), (moreEs k ops m).length = ops.length
 | [], _ => rfl
 | o :: ops, m => by simp [moreEs, moreEs_length k ops (m + 1)]
theorem moreE_edge {k j : Nat} {o : Oper} {i : Nat} : hasEdge (moreE k j o) i = (hasEdge o i || (decide (k ≤ j) && decide (i < j))) := by
 unfold moreE
 by_cases h : k ≤ j
 ·rw [if_pos h, Bool.eq_iff_iff]
  simp only [hasEdge, Array.toList_append, List.any_append, Bool.or_eq_true, h, decide_true, Bool.true_and, decide_eq_true_eq]
  refine or_congr_right ?_
  simp only [List.any_eq_true, List.mem_map, List.mem_range, Bool.and_eq_true, beq_iff_eq]
  constructor
  ·rintro ⟨_, ⟨m, hm, rfl⟩, _, h2⟩; simp only at h2; omega
  ·intro hi; exact ⟨_, ⟨i, hi, rfl⟩, rfl, rfl⟩
 ·rw [if_neg h]; simp [h]
def implied (ops : List Oper) : Nat → Nat → Nat → Bool
 | 0, _, _ => false
 | n + 1, j, i => match ops[j]? with
  | none => false
  | some o => hasEdge o i || o.after.toList.any fun e => Region.binds .any e && implied ops n e.on i
def closeOk (ops : List Oper) (k : Nat) : Bool := (List.range ops.length).all fun j => Nat.blt j k || (List.range j).all fun i => implied ops ops.length j i
def Clsd (ops : List Oper) (listed : Array Bool) : Prop := ∀ j o, ops[j]? = some o → listed.getD j false = true → ∀ i, hasEdge o i = true → listed.getD i false = true
theorem implied_listed {ops : List Oper} {listed : Array Bool} (hc : Clsd ops listed) : ∀ (n j i : Nat) (o : Oper), ops[j]? = some o → (∀ m, hasEdge o m = true → listed.getD m false = true) → implied ops n j i = true → listed.getD i false = true
 | 0, _, _, _, _, _, h => by simp [implied] at h
 | n + 1, j, i, o, ho, hall, h => by
  simp only [implied, ho, Bool.or_eq_true] at h
  rcases h with h | h
  ·exact hall i h
  ·obtain ⟨e, he, hb⟩ := List.any_eq_true.1 h
   rw [Bool.and_eq_true] at hb
   have hm : listed.getD e.on false = true := hall e.on (List.any_eq_true.2 ⟨e, he, by simp [hb.1]⟩)
   cases hoe : ops[e.on]? with
   | none =>
    cases n with
    | zero => simp [implied] at hb
    | succ n => simp [implied, hoe] at hb
   | some o2 => exact implied_listed hc n e.on i o2 hoe (hc e.on o2 hoe hm) hb.2
section
variable {P : Program} {R : Exit → Act → World → Prop} {ops : List Oper} {k : Nat}
theorem ready_more (hok : closeOk ops k = true) {listed : Array Bool} (hc : Clsd ops listed) (j : Nat) : j ∈ Region.ready .any (moreEs k ops 0).toArray listed ↔ j ∈ Region.ready .any ops.toArray listed := by
 rw [mem_ready_iff, mem_ready_iff]
 constructor
 ·rintro ⟨o', ho', h1, h2⟩
  rw [moreEs_get] at ho'
  cases ho : ops[j]? with
  | none => simp [ho] at ho'
  | some o =>
   simp [ho] at ho'; subst ho'
   exact ⟨o, rfl, h1, fun i hi => h2 i (by rw [moreE_edge, hi]; rfl)⟩
 ·rintro ⟨o, ho, h1, h2⟩
  refine ⟨moreE k j o, by rw [moreEs_get, ho]; simp, h1, fun i hi => ?_⟩
  rw [moreE_edge, Bool.or_eq_true, Bool.and_eq_true, decide_eq_true_eq, decide_eq_true_eq] at hi
  rcases hi with hi | ⟨hk, hij⟩
  ·exact h2 i hi
  ·have hlt := (List.getElem?_eq_some_iff.1 ho).1
   have := List.all_eq_true.1 hok j (by simpa using hlt)
   rw [Bool.or_eq_true] at this
   rcases this with h | h
   ·have := Nat.le_of_ble_eq_true h; omega
   ·exact implied_listed hc _ j i o ho h2 (List.all_eq_true.1 h i (by simpa using hij))
theorem yielded_more (tmps : Array Value) : yielded (moreEs k ops 0).toArray tmps = yielded ops.toArray tmps := by
 funext j
 unfold yielded
 simp only [List.getElem?_toArray, moreEs_get, Nat.zero_add]
 cases ops[j]? with
 | none => rfl
 | some o =>
  by_cases hkj : k ≤ j
  ·simp [moreE, hkj]
  ·simp [moreE, hkj]
theorem wpOp_more {j : Nat} {K : Act → World → Prop} {a : Act} {w : World} (h : wpOp P (moreEs k ops 0).toArray R j K a w) : wpOp P ops.toArray R j K a w := by
 unfold wpOp at h ⊢
 rw [yielded_more] at h
 simp only [List.getElem?_toArray, moreEs_get, Nat.zero_add] at h ⊢
 cases ho : ops[j]? with
 | none => simpa [ho] using h
 | some o =>
  simp only [ho, Option.map_some] at h ⊢
  unfold moreE at h
  split at h <;> exact h
theorem clsd_next {listed : Array Bool} (hs : listed.size = ops.length) (hc : Clsd ops listed) {j : Nat} (hj : j ∈ Region.ready .any ops.toArray listed) : Clsd ops (listed.setIfInBounds j true) := by
 obtain ⟨o, ho, h1, h2⟩ := mem_ready_iff.1 hj
 have hlt := (List.getElem?_eq_some_iff.1 ho).1
 have up : ∀ i, listed.getD i false = true → (listed.setIfInBounds j true).getD i false = true := by
  intro i hi
  by_cases e : i = j
  ·subst e; simp [Array.getD_eq_getD_getElem?, hs, hlt]
  ·rw [getD_set_other e]; exact hi
 intro m om hom hlm i hi
 by_cases e : m = j
 ·subst e
  rw [ho] at hom; cases hom
  exact up i (h2 i hi)
 ·rw [getD_set_other e] at hlm
  exact up i (hc m om hom hlm i hi)
theorem wpAny_more (hok : closeOk ops k = true) : ∀ (fuel : Nat) (listed : Array Bool) (a : Act) (w : World), listed.size = ops.length → Clsd ops listed → wpAny P .any (moreEs k ops 0).toArray R fuel listed a w → wpAny P .any ops.toArray R fuel listed a w
 | 0, listed, a, w, hs, hc, h => by
  refine ⟨?_, h.2⟩
  rw [List.eq_nil_iff_forall_not_mem]
  intro j hj
  have := (ready_more hok hc j).2 hj
  rw [h.1] at this; cases this
 | fuel + 1, listed, a, w, hs, hc, h => by
  refine ⟨fun hn => h.1 ?_, fun j hj => ?_⟩
  ·rw [List.eq_nil_iff_forall_not_mem]
   intro j hj
   have := (ready_more hok hc j).1 hj
   rw [hn] at this; cases this
  ·have h1 := h.2 j ((ready_more hok hc j).2 hj)
   exact wpOp_more (wpOp_mono (fun a w hh => wpAny_more hok fuel _ a w (by simp [hs]) (clsd_next hs hc hj) hh) h1)
end
section
variable {P : Program} {n : Nat} {g : Base} {H : HEnv} {env : Env} {ops : List Oper}
theorem aw_draw_tailM {QQ : QC} {id : Nat} (k : Nat) (hok : closeOk ops k = true) (hm : P.follows .mixedOrders = true) (hB : drawOk (moreEs k ops 0) ((moreEs k ops 0).take k) = true) (hT : tailOk (moreEs k ops 0) k = true) (hk : k ≤ (moreEs k ops 0).length)
  (h : AD P n g H (moreEs k ops 0) (fun env' => AO P n g (moreEs k ops 0).toArray ((moreEs k ops 0).drop k) env' H (fun env' H' => QQ .normal env' H')) ((moreEs k ops 0).take k) env) (hnd : noDefer ops = true := by kernel_rfl) : AW P n g (.region id ops.toArray true) env H QQ := by
 obtain ⟨s⟩ := script_of h
 refine ⟨fun a w hi rr dd => ?_⟩
 refine wpIn_mono (region_anyR (R := fun a' w' => ∃ env' H', Inv n g env' H' a' w' ∧ QQ .normal env' H') hnd hm ?_) (fun e a' w' h => by obtain ⟨rfl, h⟩ := h; exact h)
 have hlen := moreEs_length k ops 0
 refine wpAny_more hok _ _ _ _ (by simp) ?_ ?_
 ·intro j o ho hl
  have hlt := (List.getElem?_eq_some_iff.1 ho).1
  simp [Array.getD_eq_getD_getElem?, hlt] at hl
 obtain ⟨h1, h2, K, ρ, hf, he⟩ := hi
 have hev : Evo K K w { w with drawn := w.drawn + 1 } := (Evo.refl hf.lt).drew
 have hlk : ((moreEs k ops 0).take k).length = k := by simp; omega
 have hsz : ops.toArray.size = (moreEs k ops 0).length := by simp [hlen]
 rw [hsz]
 generalize moreEs k ops 0 = ops' at *
 refine wpAny_of_script (l := ops'.take k) (by rw [hlk]) s hB (by rw [hlk]; exact hT) (fun env' a' w' h hi' => ?_) _ _ _ _ (by simp) ⟨h1, h2, by simp, by rw [hlk]; exact hk, ?_, ?_, K, ρ, hf.evo hev, ?_, ?_⟩
 ·rw [hlk]
  exact wpList_mono (fun e a' w' ⟨env', H', h1, h2, h3⟩ => ⟨h2, env', H', h1, h3⟩) (h.go a' w' hi')
 ·intro j _ hj
  simp [Array.getD_eq_getD_getElem?, hj]
 ·intro i o ho hli
  have hlt := (List.getElem?_eq_some_iff.1 ho).1
  have : i < ops'.length := by simp at hlt; omega
  simp [Array.getD_eq_getD_getElem?, this] at hli
 ·intro i o ri t ho hli
  have hlt := (List.getElem?_eq_some_iff.1 ho).1
  have : i < ops'.length := by simp at hlt; omega
  simp [Array.getD_eq_getD_getElem?, this] at hli
 ·intro t av hav _
  obtain ⟨v, v1, v2⟩ := he t av hav
  exact ⟨v, v1, v2.later (hev.later hf.lt)⟩
theorem aw_draw_tailL {QQ : QC} {id : Nat} (L k : Nat) (_ : ops.length = L) (hok : closeOk ops k = true) (hm : P.follows .mixedOrders = true) (hB : drawOk (moreEs k ops 0) ((moreEs k ops 0).take k) = true) (hT : tailOk (moreEs k ops 0) k = true) (hk : Nat.ble k (moreEs k ops 0).length = true)
  (h : AD P n g H (moreEs k ops 0) (fun env' => AO P n g (moreEs k ops 0).toArray ((moreEs k ops 0).drop k) env' H (fun env' H' => QQ .normal env' H')) ((moreEs k ops 0).take k) env) (hnd : noDefer ops = true := by kernel_rfl) : AW P n g (.region id ops.toArray true) env H QQ :=
 aw_draw_tailM k hok hm hB hT (Nat.le_of_ble_eq_true hk) h hnd
end
end Go.Cg
namespace Go.Cg
open Go.Proofs
theorem fcs_filter_le {g : Img} (hF : Fine g) (p : Fd → Bool) (k : Nat) : (fcs g ((g.fields.take k).filter p)).length ≤ 8 * 64 := by
 have h1 := fcs_le hF ((g.fields.take k).filter p) (fun f h => List.mem_of_mem_take (List.mem_filter.1 h).1)
 have h2 : ((g.fields.take k).filter p).length ≤ g.fields.length := Nat.le_trans (List.length_filter_le _ _) (by simp; omega)
 have h3 := (formedG_bounds hF.formed).2.1
 omega
set_option maxHeartbeats 1000000 in
theorem CellsR_call (g : Img) (hF : Fine g) : ∀ (n : Nat) (t : Ty), Dp g n t → ACall Tryz.prog 99 [imgPV g, tyPV t] (tys (cellsT g t)) := by
 have hwl := hF.well
 have hu := hF.used
 have hf := well_formed hwl
 have hgl : g.fields.length ≤ 64 := by have := (formedG_bounds hf).2.1; omega
 intro n
 induction n with
 | zero =>
  intro t hd
  have hwh : whole t = true := hd
  have cw := wholeR_call t
  rw [hwh] at cw
  refine acall_intro tbOK Tryz.func99 rfl (by kernel_rfl) Tryz.ntmps99 (by simp) _ rfl (fun hw gB hgB => ?_)
  by_cases hk : t.kind = 1
  ·have e : cellsT g t = [] := cells_void hwl hu hk
   have hkb : (t.kind == 1) = true := by simp [hk]
   repeat' (first | refine sK ?_ | refine sC (fun _ => ?_) (fun _ => ?_) | fail)
   all_goals (rw [e]; exact retq_w (t := 4) (ps := [tys []]) rfl (tells_nil 4 false) rfl rfl)
  ·have e : cellsT g t = [t] := cells_whole hwl hu hk hwh
   have hkb : (t.kind == 1) = false := by simp [hk]
   repeat' (first | (refine shC ?_; first | refine qC cw ?_) | (refine ao_sh_bi ?_; first | refine ao_append_new 0 tbOK rfl rfl rfl (.inr ⟨rfl, rfl⟩) rfl (by simp) rfl (by show _ * 32 ≤ _; simp) (by simp) rfl rfl rfl ?_) | refine sK ?_ | refine sC (fun _ => ?_) (fun _ => ?_) | fail)
   all_goals exact retq rfl (by rw [e]; rfl)
 | succ n ih =>
  intro t hd
  have cw := wholeR_call t
  refine acall_intro tbOK Tryz.func99 rfl (by kernel_rfl) Tryz.ntmps99 (by simp) _ rfl (fun hw gB hgB => ?_)
  cases hwh : whole t
  ·rw [hwh] at cw
   obtain ⟨k1, k2, k3⟩ := whole_kind hwh
   have hn := own_right hd hwh
   have hkb1 : (t.kind == 1) = false := by simp [k1]
   repeat' (first | (refine shC ?_; first | refine qC cw ?_) | refine sK ?_ | refine sC (fun _ => ?_) (fun _ => ?_) | fail)
   refine aw_own_nil (t := 5) 0 36 4 (by decide) rfl rfl ?_
   refine aw_loop (fun k : Nat => [(2, .pv (.ptr (imgPV g) 0)), (3, .pv (.ptr (tyPV t) 0)), (5, .own 0), (6, .pv (pi k))]) (fun k => [(0, .row 36 4 ((fcs g ((g.fields.take k).filter (ownP t.index))).map tyPV))])
    (fun k => k ≤ g.fields.length) (fun k => g.fields.length - k) 0 (by omega) (tS) ⟨hsub_cons rfl hsub_nil, rfl⟩ ?_
   rintro k hk
   have hle := fcs_filter_le hF (ownP t.index) k
   by_cases hlt : k < g.fields.length
   ·have he := map_get (f := fdPV) hlt
    cases hp : ownP t.index g.fields[k]
    ·have hs := filter_take_no (g := g) hlt hp
     have hpa : (g.fields[k].owner == t.index && !g.fields[k].static) = false := hp
     repeat' (first | (refine shX ?_; first | refine qX he ?_) | refine sA ?_ | refine sC (fun _ => ?_) (fun _ => ?_) | fail)
     all_goals first
      | exact ⟨k + 1, hlt, tD, tS, ⟨hsub_r rfl (by rw [hs]) hsub_nil, rfl⟩⟩
      | (exfalso; simp_all; done)
    ·have c1 := ih g.fields[k].ty (dp_own hn hlt hp)
     have hs := filter_take_yes (g := g) hlt hp
     have hcl := hF.field_le (List.getElem_mem hlt)
     have hpa : (g.fields[k].owner == t.index && !g.fields[k].static) = true := hp
     rw [Bool.and_eq_true] at hpa
     obtain ⟨hp1, hp2⟩ := hpa
     repeat' (first | refine aw_draw_tailL 11 9 rfl (by kernel_rfl) (by kernel_rfl) (by kernel_rfl) (by kernel_rfl) (by kernel_rfl) ?_ | (refine shC ?_; first | refine qC c1 ?_) | (refine shX ?_; first | refine qX he ?_) | (refine ao_sh_bi ?_; first | refine ao_append tbOK rfl rfl rfl rfl rfl rfl rfl (by show _ * 32 ≤ _; simp; omega) (by simp; omega) rfl rfl ?_) | refine sK ?_ | refine sC (fun _ => ?_) (fun _ => ?_) | fail)
     all_goals first
      | exact ⟨k + 1, hlt, tD, tS, ⟨hsub_r rfl (by rw [hs]; simp) hsub_nil, rfl⟩⟩
      | (exfalso; simp_all; done)
   ·rw [List.take_of_length_le (by omega)] at hle ⊢
    have hown : g.fields.filter (ownP t.index) = ownF g t.index := rfl
    rw [hown] at hle ⊢
    by_cases h0 : (fcs g (ownF g t.index)).length = 0
    ·have e : cellsT g t = [intTy] := by rw [cells_open hwl hu hwh, if_pos h0]
     have e0 : fcs g (ownF g t.index) = [] := List.eq_nil_of_length_eq_zero h0
     rw [e0]
     repeat' (first | (refine ao_sh_bi ?_; first | refine ao_append tbOK rfl rfl rfl rfl rfl rfl rfl (by show _ * 32 ≤ _; simp) (by simp) rfl rfl ?_) | refine sK ?_ | refine sC (fun _ => ?_) (fun _ => ?_) | fail)
     all_goals exact retq rfl (by rw [e]; rfl)
    ·have e : cellsT g t = fcs g (ownF g t.index) := by rw [cells_open hwl hu hwh, if_neg h0]
     have hb0 : (((((fcs g (ownF g t.index)).map tyPV).length : Nat) : Int) == 0) = false := by rw [List.length_map, beq_eq_false_iff_ne]; omega
     repeat' (first | refine sK ?_ | refine sC (fun _ => ?_) (fun _ => ?_) | fail)
     all_goals exact retq rfl (by rw [e]; rfl)
  ·rw [hwh] at cw
   by_cases hk : t.kind = 1
   ·have e : cellsT g t = [] := cells_void hwl hu hk
    have hkb : (t.kind == 1) = true := by simp [hk]
    repeat' (first | refine sK ?_ | refine sC (fun _ => ?_) (fun _ => ?_) | fail)
    all_goals (rw [e]; exact retq_w (t := 4) (ps := [tys []]) rfl (tells_nil 4 false) rfl rfl)
   ·have e : cellsT g t = [t] := cells_whole hwl hu hk hwh
    have hkb : (t.kind == 1) = false := by simp [hk]
    repeat' (first | (refine shC ?_; first | refine qC cw ?_) | (refine ao_sh_bi ?_; first | refine ao_append_new 0 tbOK rfl rfl rfl (.inr ⟨rfl, rfl⟩) rfl (by simp) rfl (by show _ * 32 ≤ _; simp) (by simp) rfl rfl rfl ?_) | refine sK ?_ | refine sC (fun _ => ?_) (fun _ => ?_) | fail)
    all_goals exact retq rfl (by rw [e]; rfl)
theorem CellsRT_call (g : Img) (hF : Fine g) (t : Ty) : ACall Tryz.prog 99 [imgPV g, tyPV t] (tys (cellsT g t)) := CellsR_call g hF _ t (dp_all hF.well hF.used t)
end Go.Cg
namespace Go.Cg
open Go.Proofs
def statT (g : Img) (n : Nat) : List Ty := fcs g ((g.fields.take n).filter (·.static))
set_option maxHeartbeats 1000000 in
theorem statics_call (g : Img) (hF : Fine g) (n : Nat) (hn : n ≤ g.fields.length) : ACall Tryz.prog 122 [imgPV g, pi n] (tys (statT g n)) := by
 refine acall_intro tbOK Tryz.func122 rfl (by kernel_rfl) Tryz.ntmps122 (by simp) _ rfl (fun hw gB hgB => ?_)
 have hgl : g.fields.length ≤ 64 := by have := (formedG_bounds hF.formed).2.1; omega
 repeat' (first | refine ao_q rfl (q_slice_map (xs := g.fields) (f := fdPV) 0 n tbOK rfl rfl rfl rfl rfl rfl rfl (by omega) (by omega)) rfl rfl ?_ | refine sA ?_ | refine sC (fun _ => ?_) (fun _ => ?_) | fail)
 rw [List.drop_zero]
 have htl : (g.fields.take n).length = n := by simp; omega
 refine aw_own_nil (t := 5) 0 36 4 (by decide) rfl rfl ?_
 refine aw_loop (fun k : Nat => [(2, .pv (.ptr (imgPV g) 0)), (5, .own 0), (11, .pv (.slc 7 ((g.fields.take n).map fdPV) false)), (12, .pv (pi n)), (13, .pv (pi k))]) (fun k => [(0, .row 36 4 ((fcs g ((g.fields.take k).filter (·.static))).map tyPV))])
  (fun k => k ≤ n) (fun k => n - k) 0 (by omega) (by repeat (first | exact sub_nil | refine sub_cons rfl ?_ | (refine sub_i rfl ?_ ?_; · (first | (rw [List.length_map, htl]) | omega)))) ⟨hsub_cons rfl hsub_nil, rfl⟩ ?_
 rintro k hk
 have hle := fcs_filter_le hF (·.static) k
 by_cases hlt : k < n
 ·have hlf : k < g.fields.length := by omega
  have he := map_get (f := fdPV) (l := g.fields.take n) (k := k) (by omega)
  rw [List.getElem_take] at he
  have c1 := cellsPT_call g hF g.fields[k].ty
  have hcl := hF.field_le (List.getElem_mem hlf)
  cases hp : g.fields[k].static
  ·have hs := filter_take_no (g := g) (p := (·.static)) hlf hp
   repeat' (first | (refine shX ?_; first | refine qX he ?_) | refine sK ?_ | refine sC (fun _ => ?_) (fun _ => ?_) | fail)
   exact ⟨k + 1, hlt, tD, tS, ⟨hsub_r rfl (by rw [hs]) hsub_nil, rfl⟩⟩
  ·have hs := filter_take_yes (g := g) (p := (·.static)) hlf hp
   repeat' (first | (refine shC ?_; first | refine qC c1 ?_) | (refine shX ?_; first | refine qX he ?_) | (refine ao_sh_bi ?_; first | refine ao_append tbOK rfl rfl rfl rfl rfl rfl rfl (by show _ * 32 ≤ _; simp; omega) (by simp; omega) rfl rfl ?_) | refine sK ?_ | refine sC (fun _ => ?_) (fun _ => ?_) | fail)
   exact ⟨k + 1, hlt, tD, tS, ⟨hsub_r rfl (by rw [hs]; simp) hsub_nil, rfl⟩⟩
 ·obtain rfl : k = n := by omega
  repeat' (first | refine sK ?_ | refine sC (fun _ => ?_) (fun _ => ?_) | fail)
  exact retq rfl rfl
set_option maxHeartbeats 1000000 in
theorem StaticsR_call (g : Img) (hF : Fine g) (n : Nat) (hn : n ≤ g.fields.length) : ACall Tryz.prog 74 [imgPV g, pi n] (tys (statT g n)) := by
 refine acall_intro tbOK Tryz.func74 rfl (by kernel_rfl) Tryz.ntmps74 (by simp) _ rfl (fun hw gB hgB => ?_)
 have hgl : g.fields.length ≤ 64 := by have := (formedG_bounds hF.formed).2.1; omega
 repeat' (first | refine sA ?_ | refine sC (fun _ => ?_) (fun _ => ?_) | fail)
 refine aw_own_nil (t := 5) 0 36 4 (by decide) rfl rfl ?_
 refine aw_loop (fun k : Nat => [(1, .pv (pi n)), (2, .pv (.ptr (imgPV g) 0)), (5, .own 0), (6, .pv (pi k))]) (fun k => [(0, .row 36 4 ((fcs g ((g.fields.take k).filter (·.static))).map tyPV))])
  (fun k => k ≤ n) (fun k => n - k) 0 (by omega) (tS) ⟨hsub_cons rfl hsub_nil, rfl⟩ ?_
 rintro k hk
 have hle := fcs_filter_le hF (·.static) k
 by_cases hlt : k < n
 ·have hlf : k < g.fields.length := by omega
  have he := map_get (f := fdPV) hlf
  have c1 := CellsRT_call g hF g.fields[k].ty
  have hcl := hF.field_le (List.getElem_mem hlf)
  cases hp : g.fields[k].static
  ·have hs := filter_take_no (g := g) (p := (·.static)) hlf hp
   repeat' (first | (refine shX ?_; first | refine qX he ?_) | refine sK ?_ | refine sC (fun _ => ?_) (fun _ => ?_) | fail)
   exact ⟨k + 1, hlt, tD, tS, ⟨hsub_r rfl (by rw [hs]) hsub_nil, rfl⟩⟩
  ·have hs := filter_take_yes (g := g) (p := (·.static)) hlf hp
   repeat' (first | refine aw_draw_tailL 11 9 rfl (by kernel_rfl) (by kernel_rfl) (by kernel_rfl) (by kernel_rfl) (by kernel_rfl) ?_ | (refine shC ?_; first | refine qC c1 ?_) | (refine shX ?_; first | refine qX he ?_) | (refine ao_sh_bi ?_; first | refine ao_append tbOK rfl rfl rfl rfl rfl rfl rfl (by show _ * 32 ≤ _; simp; omega) (by simp; omega) rfl rfl ?_) | refine sK ?_ | refine sC (fun _ => ?_) (fun _ => ?_) | fail)
   exact ⟨k + 1, hlt, tD, tS, ⟨hsub_r rfl (by rw [hs]; simp) hsub_nil, rfl⟩⟩
 ·obtain rfl : k = n := by omega
  repeat' (first | refine sK ?_ | refine sC (fun _ => ?_) (fun _ => ?_) | fail)
  exact retq rfl rfl
theorem nodup_rev {l : List Int} (h : l.Nodup) : l.reverse.Nodup := List.pairwise_reverse.2 (h.imp fun h => Ne.symm h)
def upCells (g : Img) (l : List Int) : List Ty := l.flatMap fun u => fcs g (ownF g u)
theorem upCells_len {g : Img} (hF : Fine g) : ∀ (us : List Int), us.Nodup → (upCells g us).length ≤ 8 * 64 := by
 intro us hn
 rw [upCells, sum_flat]
 have h1 := sum_filter g g.fields us hn
 have h2 : (us.map fun u => (fcs g (ownF g u)).length).sum = (fcs g (g.fields.filter fun f => decide (f.owner ∈ us) && !f.static)).length := h1
 have h3 := fcs_filter_le hF (fun f => decide (f.owner ∈ us) && !f.static) g.fields.length
 rw [List.take_length] at h3
 omega
set_option maxHeartbeats 1000000 in
theorem ObjectR_call (g : Img) (hF : Fine g) (t : Int) : ACall Tryz.prog 128 [imgPV g, pi t] (tys (objT g t)) := by
 refine acall_intro tbOK Tryz.func128 rfl (by kernel_rfl) Tryz.ntmps128 (by simp) _ rfl (fun hw gB hgB => ?_)
 have hgl : g.fields.length ≤ 64 := by have := (formedG_bounds hF.formed).2.1; omega
 have hgt : g.types.length ≤ 32 := (formedG_bounds hF.formed).1
 have hui := up_inv g t
 have hul := nodup_le _ _ hui.1 hui.2
 repeat' (first | (refine shC ?_; first | refine ao_q rfl (q_call rfl rfl (UpR_call g t (by omega))) rfl rfl ?_ | refine AD.step _ _ _ _ _ rfl (q_call rfl rfl (UpR_call g t (by omega))) rfl rfl ?_) | refine sA ?_ | refine sC (fun _ => ?_) (fun _ => ?_) | fail)
 refine aw_own_nil (t := 5) 0 36 4 (by decide) rfl rfl ?_
 refine aw_loop (fun k : Nat => [(2, .pv (.ptr (imgPV g) 0)), (5, .own 0), (6, .pv (ints (up g t))), (7, .pv (pi ((k : Int) - 1)))]) (fun k => [(0, .row 36 4 ((upCells g ((up g t).drop k).reverse).map tyPV))])
  (fun k => k ≤ (up g t).length) (fun k => k) (up g t).length (by omega) (by repeat (first | exact sub_nil | refine sub_cons rfl ?_ | (refine sub_i rfl ?_ ?_; · (rw [List.length_map, wrap_in (by omega) (by omega)])))) ⟨hsub_r rfl (by simp [upCells]) hsub_nil, rfl⟩ ?_
 rintro k hk
 have hnd : ((up g t).drop k).reverse.Nodup := nodup_rev (hui.1.sublist (List.drop_sublist _ _))
 have hle := upCells_len hF _ hnd
 by_cases h0 : k = 0
 ·subst h0
  have hb : decide ((0 : Int) ≤ (((0 : Nat) : Int) - 1)) = false := by simp
  repeat' (first | refine sK ?_ | refine sC (fun _ => ?_) (fun _ => ?_) | fail)
  all_goals first
   | (exact retq rfl (by simp only [List.drop_zero]; rfl))
   | (exfalso; omega)
 ·have hlt : k - 1 < (up g t).length := by omega
  have heU : ((up g t).map pi)[((k : Int) - 1).toNat]? = some (pi (up g t)[k - 1]) := by rw [show ((k : Int) - 1).toNat = k - 1 by omega]; simp [hlt]
  have hk1 : ((k : Int) - 1) = ((k - 1 : Nat) : Int) := by omega
  have hge : decide ((0 : Int) ≤ ((k : Int) - 1)) = true := by simp; omega
  have hnx : upCells g ((up g t).drop (k - 1)).reverse = upCells g ((up g t).drop k).reverse ++ fcs g (ownF g (up g t)[k - 1]) := by
   rw [drop_cons hlt, show k - 1 + 1 = k by omega, List.reverse_cons, upCells, List.flatMap_append]; simp [upCells]
  have hnd2 : ((up g t).drop (k - 1)).reverse.Nodup := nodup_rev (hui.1.sublist (List.drop_sublist _ _))
  have hle2 := upCells_len hF _ hnd2
  rw [hnx, List.length_append] at hle2
  repeat' (first | refine sK ?_ | refine sC (fun _ => ?_) (fun _ => ?_) | fail)
  refine aw_loop (fun m : Nat => [(2, .pv (.ptr (imgPV g) 0)), (5, .own 0), (6, .pv (ints (up g t))), (7, .pv (pi ((k : Int) - 1))), (8, .pv (pi m))]) (fun m => [(0, .row 36 4 ((upCells g ((up g t).drop k).reverse ++ fcs g ((g.fields.take m).filter (ownP (up g t)[k - 1]))).map tyPV))])
   (fun m => m ≤ g.fields.length) (fun m => g.fields.length - m) 0 (by omega) (tS) ⟨hsub_r rfl (by simp [fcs]) hsub_nil, rfl⟩ ?_
  rintro m hm
  have hlm := fcs_sub_le g (ownP (up g t)[k - 1]) g.fields m
  have hown : g.fields.filter (ownP (up g t)[k - 1]) = ownF g (up g t)[k - 1] := rfl
  rw [hown] at hlm
  by_cases hltm : m < g.fields.length
  ·have he := map_get (f := fdPV) hltm
   have hcl := hF.field_le (List.getElem_mem hltm)
   cases hp : ownP (up g t)[k - 1] g.fields[m]
   ·have hs := filter_take_no (g := g) hltm hp
    have hpa : (g.fields[m].owner == (up g t)[k - 1] && !g.fields[m].static) = false := hp
    repeat' (first | (refine shX ?_; first | refine qX he ?_ | refine qX heU ?_) | refine sA ?_ | refine sC (fun _ => ?_) (fun _ => ?_) | fail)
    all_goals first
     | exact ⟨m + 1, hltm, tD, tS, ⟨hsub_r rfl (by rw [hs]) hsub_nil, rfl⟩⟩
     | (exfalso; simp_all; done)
   ·have c1 := CellsRT_call g hF g.fields[m].ty
    have hs := filter_take_yes (g := g) hltm hp
    have hpa : (g.fields[m].owner == (up g t)[k - 1] && !g.fields[m].static) = true := hp
    rw [Bool.and_eq_true] at hpa
    obtain ⟨hp1, hp2⟩ := hpa
    repeat' (first | refine aw_draw_tailL 11 9 rfl (by kernel_rfl) (by kernel_rfl) (by kernel_rfl) (by kernel_rfl) (by kernel_rfl) ?_ | (refine shC ?_; first | refine qC c1 ?_) | (refine shX ?_; first | refine qX he ?_ | refine qX heU ?_) | (refine ao_sh_bi ?_; first | refine ao_append tbOK rfl rfl rfl rfl rfl rfl rfl (by show _ * 32 ≤ _; simp; omega) (by simp; omega) rfl rfl ?_) | refine sK ?_ | refine sC (fun _ => ?_) (fun _ => ?_) | fail)
    all_goals first
     | exact ⟨m + 1, hltm, tD, tS, ⟨hsub_r rfl (by rw [hs]; simp) hsub_nil, rfl⟩⟩
     | (exfalso; simp_all; done)
  ·rw [List.take_of_length_le (by omega), hown]
   repeat' (first | refine sK ?_ | refine sC (fun _ => ?_) (fun _ => ?_) | fail)
   exact ⟨k - 1, by omega, by dsimp only; omega, by repeat (first | exact sub_nil | refine sub_cons rfl ?_ | (refine sub_i rfl ?_ ?_; · (rw [wrap_in (by omega) (by omega)]; omega))), ⟨hsub_r rfl (by rw [hnx]) hsub_nil, rfl⟩⟩
end Go.Cg
namespace Go.Cg
open Go.RowKit
def noObj : HEnv → Bool
 | [] => true
 | (_, .obj _) :: _ => false
 | _ :: e => noObj e
theorem noObj_get : ∀ {e : HEnv}, noObj e = true → ∀ i h, e.get i = some h → ∀ X, h ≠ .obj X
 | [], _, i, h, hg, _ => by simp [HEnv.get_nil] at hg
 | (j, x) :: e, hn, i, h, hg, X => by
  have hn' : noObj e = true ∧ ∀ X, x ≠ .obj X := by
   cases x <;> simp_all [noObj]
  rw [HEnv.get_cons] at hg
  split at hg
  ·simp only [Option.some.injEq] at hg; subst hg; exact hn'.2 X
  ·exact noObj_get hn'.1 i h hg X
section
variable {P : Program} {tb : Tab} {n : Nat} {g : Base} {K : KK} {w w' : World} {ρ : Nat → Value} {H H' : HEnv} {env : Env} {a : Act}
structure NC (B : Nat) (w w' : World) : Prop where
 row : ∃ row, w.grownBy w' row ∧ ∀ r, row = some r → B ≤ r ∧ ∃ o : Obj, w.heap[r]? = some o ∧ o.isCells = false
theorem NC.cell {B : Nat} (h : NC B w w') {x : Addr} {v : Value} (hc : w.cell? x = some v) : w'.cell? x = some v := by
 obtain ⟨row, hg, hr⟩ := h.row
 exact cell_kept hc hg fun r e => (hr r e).2
theorem Rows.nc {B : Nat} (h : NC B w w') {b o : Nat} {vs : List Value} (hr : Rows K w b o vs) : Rows K w' b o vs :=
 fun k v hv => ⟨(hr k v hv).1, h.cell (hr k v hv).2.1, (hr k v hv).2.2⟩
theorem PRel.keepc (h : ∀ (x : Addr) (v : Value), w.cell? x = some v → w'.cell? x = some v) {p : PV} {v : Value} (hp : PRel K w p v) : PRel K w' p v := by
 have hrow : ∀ {b o : Nat} {vs : List Value}, Rows K w b o vs → Rows K w' b o vs := fun hr k v hv => ⟨(hr k v hv).1, h _ _ (hr k v hv).2.1, (hr k v hv).2.2⟩
 induction hp with
 | base v h1 => exact .base v h1
 | agg cs vs hl h1 _ ih => exact .agg cs vs hl h1 ih
 | nil sz full => exact .nil sz full
 | emp sz full a => exact .emp sz full a
 | slc sz es full b o cap vss h0 hc hf hm hm' hr _ ih => exact .slc sz es full b o cap vss h0 hc hf hm hm' (fun i e he => ⟨(hr i e he).1, (hr i e he).2.1, hrow (hr i e he).2.2⟩) ih
 | ptr p off b o vs hl hr _ ih => exact .ptr p off b o vs hl (hrow hr) ih
 | fn f first cap vf vc h1 h2 _ _ ih1 ih2 => exact .fn f first cap vf vc h1 h2 ih1 ih2
 | tup cs vs hl _ ih => exact .tup cs vs hl ih
theorem PRels.keepc (h : ∀ (x : Addr) (v : Value), w.cell? x = some v → w'.cell? x = some v) {ps : List PV} {vs : List Value} (hp : PRels K w ps vs) : PRels K w' ps vs :=
 ⟨hp.1, fun k c v hc hv => (hp.2 k c v hc hv).keepc h⟩
theorem PRel.nc {B : Nat} (h : NC B w w') {p : PV} {v : Value} (hp : PRel K w p v) : PRel K w' p v := hp.keepc fun _ _ hc => h.cell hc
theorem PRels.nc {B : Nat} (h : NC B w w') {ps : List PV} {vs : List Value} (hp : PRels K w ps vs) : PRels K w' ps vs := hp.keepc fun _ _ hc => h.cell hc
theorem ARel.nc {B : Nat} (h : NC B w w') {av : AV} {v : Value} (ha : ARel K w ρ H av v) : ARel K w' ρ H av v := by
 induction ha with
 | pv p v hp => exact .pv p v (hp.nc h)
 | own i hv => exact .own i hv
 | box i off b hi hb => exact .box i off b hi hb
 | ad i off b m c hi hb => exact .ad i off b m c hi hb
 | agg cs vs hl h1 _ ih => exact .agg cs vs hl h1 ih
 | fn f first cap vf vc h1 h2 _ _ ih1 ih2 => exact .fn f first cap vf vc h1 h2 ih1 ih2
 | any v => exact .any v
 | any1 v h1 h2 => exact .any1 v h1 h2
theorem NC.block {B : Nat} (h : NC B w w') {b : Nat} {arr : Array Value} {t : TypeId} {x : Nat × Nat} (hb : w.heap[b]? = some (.cells arr t x)) : w'.heap[b]? = some (.cells arr t x) := by
 obtain ⟨row, hg, hr⟩ := h.row
 have hlt := (Array.getElem?_eq_some_iff.1 hb).1
 rw [hg.block b hlt (fun e => by
  obtain ⟨_, o, ho, hc⟩ := hr b e.symm
  rw [hb] at ho; cases ho; simp [Obj.isCells] at hc)]
 exact hb
theorem HOk.nc {B B0 : Nat} (h : NC B0 w w') {e : HE} {r : Value} (hX : ∀ X, e ≠ .obj X) (ho : HOk K w B ρ H e r) : HOk K w' B ρ H e r := by
 cases e with
 | cell v =>
  obtain ⟨b, t, arr, u, rfl, hB, hb, hu, ha, hn⟩ := ho
  exact ⟨b, t, arr, u, rfl, hB, h.block hb, hu.nc h, ha, hn⟩
 | row t sz es =>
  obtain ⟨xs, hown, h0, hc, hk⟩ := ho
  obtain ⟨row, hg, hr⟩ := h.row
  refine ⟨xs, hown.kept hg ?_, h0, fun i e he => ⟨(hc i e he).1, fun k c hkc => ?_⟩, hk⟩
  ·rcases hown.2 with ⟨e, _⟩ | ⟨b, cap, cur, e, _, hb, _⟩
   ·left; rw [e]; rfl
   ·right; rw [e]; intro e2
    obtain ⟨_, o, ho, hcc⟩ := hr b e2.symm
    rw [hb] at ho; cases ho; simp [Obj.isCells] at hcc
  ·obtain ⟨v, v1, v2, v3⟩ := (hc i e he).2 k c hkc
   exact ⟨v, v1, v2, v3.nc h⟩
 | mrow t sz es =>
  obtain ⟨xs, hown, h0, hc, hk⟩ := ho
  obtain ⟨row, hg, hr⟩ := h.row
  refine ⟨xs, hown.kept hg ?_, h0, fun i e he => ⟨(hc i e he).1, fun k c hkc => ?_⟩, hk⟩
  ·rcases hown.2 with ⟨e, _⟩ | ⟨b, cap, cur, e, _, hb, _⟩
   ·left; rw [e]; rfl
   ·right; rw [e]; intro e2
    obtain ⟨_, o, ho, hcc⟩ := hr b e2.symm
    rw [hb] at ho; cases ho; simp [Obj.isCells] at hcc
  ·obtain ⟨v, v1, v2, v3⟩ := (hc i e he).2 k c hkc
   exact ⟨v, v1, v2, v3.nc h⟩
 | dead => trivial
 | pin v u => exact ARel.nc h ho
 | obj X => exact (hX X rfl).elim
structure Bare (g : Base) : Prop where
 ds : g.ds = []
 pr : ∀ b, ¬ g.pr b
 k0 : ∀ b o, g.K0 b o → b < g.w0.heap.size
theorem FS.nc (hf : FS g K ρ H w) (hpr : ∀ b, ¬ g.pr b) (hk0 : ∀ b o, g.K0 b o → b < g.w0.heap.size) (hw1 : g.w1.heap.size = 0) (hno : noObj H = true) (h : NC g.w0.heap.size w w') : FS g K ρ H w' := by
 obtain ⟨row, hg, hr⟩ := h.row
 have hpt : Prot g K w' := ⟨fun b hb => (hpr b hb).elim, fun b o h0 => by
  rw [← hf.pt.kept b o h0]
  refine World.cell?_of_block (hg.block b (hf.lt b o (hf.old b o h0)) fun e => ?_)
  have h1 := (hr b e.symm).1
  have h2 := hk0 b o h0
  omega⟩
 refine ⟨hf.below.grown hg hf.below.size (fun k e => (hr k e).1), hf.old, hf.new, fun b o hk => Nat.lt_of_lt_of_le (hf.lt b o hk) hg.size, ⟨by rw [hw1]; omega, fun k o hk => by have := (Array.getElem?_eq_some_iff.1 hk).1; omega⟩, hpt, hf.away, ?_, hf.heap.apart⟩
 intro i e hi
 exact (hf.heap.ok i e hi).nc h (noObj_get hno i e hi)
theorem EnvR.nc {B : Nat} (h : NC B w w') {tmps : Array Value} (he : EnvR K w ρ H env tmps) : EnvR K w' ρ H env tmps :=
 fun t av ht => let ⟨v, h1, h2⟩ := he t av ht; ⟨v, h1, h2.nc h⟩
structure AIter (P : Program) (f : FuncId) (cap : List PV) {α : Type} (encs : α → Array Value) (all : List α) : Prop where
 stands : Stands P f
 stops : ∀ (K : KK) (w : World) (vc : List Value) (n : Nat), PRels K w cap vc → SeqStopsK Fence.wide n P f vc.toArray encs (fun A B => (∃ K, PRels K A cap vc) → ∃ K, PRels K B cap vc) (fun xs => xs = all) (fun _ => True) all.length w
def mark (D : Nat) : Deferred := { target := .collected D, args := #[] }
structure AW2 (P : Program) (n : Nat) (g : Base) (c : Code) (env : Env) (H : HEnv) (Q : QC) : Prop where
 go : ∀ a w, Inv n g env H a w → ∀ d, 2 ≤ d → c.wpIn Fence.wide d P (fun e a' w' => ∃ (g2 : Base) (D : Nat), g2.w0 = g.w0 ∧ g2.K0 = g.K0 ∧ g2.ds = [mark D] ∧ g.w0.heap.size ≤ D ∧ g2.w1.heap[D]? = some (.deferred (some [])) ∧
  ∃ env' H', Inv n g2 env' H' a' w' ∧ Q e env' H') a w
variable {x y c : Code} {QQ : QC} {ops : List Oper}
def thenQ2 (next : Env → HEnv → Prop) : QC
 | .normal, env, H => next env H
 | _, _, _ => False
theorem aw2_seqL (h : AW P n g x env H (thenQ2 fun env' H' => AW2 P n g y env' H' QQ)) : AW2 P n g (.seq x y) env H QQ :=
 ⟨fun a w hi d hd => wpIn_seq (wpIn_mono (h.go a w hi none d) fun e a' w' ⟨env', H', h1, h2⟩ => by
  cases e <;> first
   | exact h2.go a' w' h1 d hd
   | exact h2.elim)⟩
theorem aw2_seqR (h : AW2 P n g x env H (thenQ2 fun env' H' => ∀ g2 : Base, AW P n g2 y env' H' QQ)) : AW2 P n g (.seq x y) env H QQ :=
 ⟨fun a w hi d hd => wpIn_seq (wpIn_mono (h.go a w hi d hd) fun e a' w' ⟨g2, D, q1, q2, q3, q4, q5, env', H', h1, h2⟩ => by
  cases e <;> first
   | exact wpIn_mono ((h2 g2).go a' w' h1 none d) (fun e a2 w2 ⟨env2, H2, k1, k2⟩ => ⟨g2, D, q1, q2, q3, q4, q5, env2, H2, k1, k2⟩)
   | exact h2.elim)⟩
theorem aw2_block {id : Nat} (h : AW2 P n g c env H (thenQ2 fun env' H' => QQ .normal env' H')) : AW2 P n g (.block id c) env H QQ :=
 ⟨fun a w hi d hd => wpIn_block (wpIn_mono (h.go a w hi d hd) fun e a' w' ⟨g2, D, q1, q2, q3, q4, q5, env', H', h1, h2⟩ => by
  cases e <;> first
   | exact ⟨g2, D, q1, q2, q3, q4, q5, env', H', h1, h2⟩
   | exact h2.elim)⟩
theorem acall2_intro (htb : TabOK P tb) {f : FuncId} {args : List PV} {r : PV} {fn : Func} (hf : P.funcs[f]? = some fn) (hb : fn.body = some c) (hn : (fn.name == "runtime.NumGoroutine") = false) (hnt : fn.ntmps = n) (hargs : args.length ≤ n)
  (rs : List ResultVar) (hrs : fn.results.toList = rs) (h : lensOk args → ∀ g : Base, g.w1.heap.size = 0 → Bare g → AW2 P n g c (argsE 0 args) [] (fun e env H => noObj H = true ∧ RetQ tb rs r e env H)) : ACall P f args r := by
 refine ⟨⟨fn, hf, by simp [hb], hn⟩, fun K w vs hl hv => ?_⟩
 refine callsIn_wide.1 (callsIn_of_wp_marks (F := Fence.wide) (n := 2) hf hb trivial ?_)
 have hlen : vs.length = args.length := hv.1
 refine wpIn_mono ((h hv.lensOk (Base.of w K (bare w) []) rfl ⟨rfl, fun _ h => h, hl⟩).go _ w ⟨by simp [hnt]; omega, rfl, K, fun _ => undef, ⟨.refl _ _, fun _ _ h => h, fun _ _ h => .inl h, hl, bare_others _ _, .base, .none _ _, ⟨by simp [HEnv.get_nil], by simp [HEnv.get_nil]⟩⟩, ?_⟩ 2 (Nat.le_refl _)) ?_
 ·intro t av hg
  obtain ⟨_, p, hp, rfl⟩ := argsE_get args 0 t av hg
  have hlt : t < vs.length := by rw [hlen]; exact (List.getElem?_eq_some_iff.1 hp).1
  refine ⟨vs[t], ?_, .pv _ _ (hv.2 t p _ hp (List.getElem?_eq_getElem hlt))⟩
  rw [Array.getElem?_append_left (by simpa using hlt)]
  simp [hlt]
 ·rintro e a' w' ⟨g2, D, q1, q2, q3, q4, q5, env1, H', hi, hno, he, env', hent, ps, hps, rfl⟩
  obtain ⟨_, h2, K', ρ', hf2, he0⟩ := hi
  have hD : w'.heap[D]? = some (.deferred (some [])) := hf2.others.same D _ q5 rfl
  have hf' : FS (Base.of w K (bare w) []) K' ρ' H' w' := by
   have b1 := hf2.below; rw [q1] at b1
   have b2 := hf2.old; rw [q2] at b2
   have b3 := hf2.new; rw [q1, q2] at b3
   have b5 := hf2.heap; rw [q1] at b5
   exact ⟨b1, b2, b3, hf2.lt, bare_others _ _, ⟨fun _ h => h.elim, fun b o h0 => World.cell?_of_block (b1.block b (hl b o h0))⟩, .none _ _, b5⟩
  obtain ⟨w3, hw3⟩ : ∃ w3, w3 = w'.putObj D (.deferred none) := ⟨_, rfl⟩
  have hnc : NC w.heap.size w' w3 := ⟨some D, by rw [hw3]; exact grownBy_putObj' _ _ _, fun r e => by cases e; exact ⟨q4, _, hD, rfl⟩⟩
  have hf3 := hf'.nc (fun _ h => h) hl rfl hno hnc
  have he' : EnvR K' w3 ρ' H' env' a'.tmps := fun t av ht => by
   obtain ⟨av0, q1, q2⟩ := hent t av ht
   obtain ⟨v, v1, v2⟩ := he0 t av0 q1
   exact ⟨v, v1, q2 _ _ _ _ _ (v2.nc hnc)⟩
  obtain ⟨us, hrun, hru⟩ := resEs_rel htb hf3 he' hps
  have hev : Evo K K' w w3 := ⟨hf3.below, hf3.old, hf3.new, hf3.lt⟩
  have hres : (results fn a'.tmps).run P w3 = .ok (if hh : us.toArray.size = 1 then us.toArray[0] else .tuple us.toArray) w3 := by
   unfold results
   rw [Array.mapM_eq_mapM_toList, hrs]
   simp only [Sem.run_bind, Sem.run_map]
   erw [hrun]
   rfl
  have hval : PRel K' w3 (retPV ps) (if hh : us.toArray.size = 1 then us.toArray[0] else .tuple us.toArray) := by
   split
   ·rename_i hh
    have hl1 := hru.1
    have hu : us.length = 1 := by simpa using hh
    obtain ⟨u, rfl⟩ := List.length_eq_one_iff.1 hu
    obtain ⟨p, rfl⟩ := List.length_eq_one_iff.1 (show ps.length = 1 by omega)
    exact hru.2 0 p u (by simp) (by simp)
   ·rename_i hh
    simp at hh
    have : retPV ps = .tup ps := by
     unfold retPV
     split
     ·rename_i p; exact absurd (by have := hru.1; simpa using this) hh
     ·rfl
    rw [this]
    exact .tup ps us hru.1 hru.2
  have hds : a'.defers = [mark D] := h2.trans q3
  have hleave : LeavesInM Fence.wide 2 P fn a'.tmps (fun e w' => ∃ v K', e = .returned v ∧ Evo K K' w w' ∧ PRel K' w' (retPV ps) v) a'.defers .returning w' := by
   rw [hds]
   refine ⟨by simp, .inl ⟨D, w3, rfl, by rw [hw3]; exact run_takeDeferred hD, ?_⟩⟩
   exact ⟨_, hres, _, K', rfl, hev, hval⟩
  rcases he with rfl | rfl
  ·exact hleave
  ·exact hleave
def envFresh (ts : List Nat) (env : Env) : Bool := ts.all fun t => (env.get t).isNone
theorem aw2_range {α : Type} {tf p0 p1 tv : Nat} {id : Nat} {ty : TypeId} {po : String} {af : Array Edge} {body : Code} {fB : FuncId} {cap : List PV} {encs : α → Array Value} {all : List α} (v0 v1 : α → Value) (hit : AIter P fB cap encs all)
  (env2 : Env) (HH : List α → HEnv) (b : Nat) (hw1 : g.w1.heap.size = 0) (hbg : Bare g)
  (henc : ∀ x, encs x = #[v0 x, v1 x]) (hv1 : ∀ x, baseOk (v1 x) = true)
  (_ht : env.get tf = some (.pv (.fn (.func fB) [] cap))) (hs : Sub env env2) (hft : env2.get tf = some (.pv (.fn (.func fB) [] cap))) (hnd : noDup env2 = true) (hfr : envFresh [p0, p1, tv] env2 = true) (hpp : p0 < n ∧ p1 < n ∧ tv < n ∧ p0 ≠ p1)
  (hfit : HFit H (HH []) env2) (hids : ∀ pre, idsLt b (HH pre) = true) (hno : ∀ pre, noObj (HH pre) = true)
  (hend : (envIn (HH all) env2 && hIn (HH all) (HH all)) = true)
  (hbody : ∀ (g2 : Base) (us : Nat → Value) (pre : List α) (x : α), pre.length < all.length → AW P n g2 body ((tv, .pv (.base (v1 x))) :: env2) (HH pre ++ pinsOf us b env2) (thenQ2 fun _env' H' => HFit H' (HH (pre ++ [x]) ++ pinsOf us b env2) []))
  (h : QQ .normal env2 (HH all)) : AW2 P n g (.rangeFunc (.tmp tf) #[p0, p1] (.region id #[{ dst := some tv, op := .assign (.tmp p1), type := ty, pos := po, after := af, guard := none }] false) body) env H QQ := by
 refine ⟨fun a w hinv d hd => ?_⟩
 have hinv2 := (hinv.sub hs).hsub hfit
 obtain ⟨h1, h2, K, ρ, hf, he⟩ := hinv2
 let us : Nat → Value := fun t => a.tmps.getD t undef
 have hus : ∀ t av, (t, av) ∈ env2 → ARel K w ρ (HH []) av (us t) := by
  intro t av hm
  obtain ⟨v, v1, v2⟩ := he t av (env_get_of hnd hm)
  have : us t = v := by simp [us, Array.getD_eq_getD_getElem?, v1]
  rw [this]; exact v2
 have hpins : ∀ (pre : List α), noObj (HH pre ++ pinsOf us b env2) = true := by
  intro pre
  have h3 : ∀ (e : Env) (k : Nat), noObj (pinsOf us k e) = true := by
   intro e
   induction e with
   | nil => intro k; rfl
   | cons x e ih => intro k; exact ih (k + 1)
  have h4 : ∀ (A B : HEnv), noObj A = true → noObj B = true → noObj (A ++ B) = true := by
   intro A
   induction A with
   | nil => intro B _ hB; exact hB
   | cons x A ih =>
    intro B hA hB
    obtain ⟨j, x⟩ := x
    cases x <;> simp only [noObj, List.cons_append] at hA ⊢ <;> first | exact ih B hA hB | cases hA
  exact h4 _ _ (hno pre) (h3 _ _)
 have hfs0 : FS g K ρ (HH [] ++ pinsOf us b env2) w := by
  have hlat : Later K K w w := .refl K w
  have hk : ∀ j, (HEnv.get (HH []) j).isSome = true → (HEnv.get (HH [] ++ pinsOf us b env2) j).isSome = true ∧ ρ j = ρ j := fun j hj => ⟨isSome_append j hj, rfl⟩
  refine ⟨hf.below, hf.old, hf.new, hf.lt, hf.others, hf.pt, fun i h bb _ _ _ => hbg.pr bb, ?_, ?_⟩
  ·intro i e hi
   rw [get_append] at hi
   cases hh : HEnv.get (HH []) i with
   | some x => rw [hh] at hi; simp only [Option.some.injEq] at hi; subst hi; exact (hf.heap.ok i _ hh).keeps (.refl hf.lt) hf.lt hk
   | none =>
    rw [hh] at hi
    obtain ⟨_, t, av, hm, rfl⟩ := pins_get hi
    exact (hus t av hm).keeps hlat hk
  ·intro i j x y bb hij hi hj lx ly bx bby
   have e1 : ∀ i x, HEnv.get (HH [] ++ pinsOf us b env2) i = some x → x.live = true → HEnv.get (HH []) i = some x := by
    intro i x hi hl
    rw [get_append] at hi
    cases hh : HEnv.get (HH []) i with
    | some z => rw [hh] at hi; exact hi
    | none =>
     rw [hh] at hi
     obtain ⟨_, t, av, hm, rfl⟩ := pins_get hi
     simp [HE.live] at hl
   exact hf.heap.apart i j x y bb hij (e1 i x hi lx) (e1 j y hj ly) lx ly bx bby
 have hread : ∀ {K' : KK} {ρ' : Nat → Value} {pre : List α} {W : World} {g' : Base}, FS g' K' ρ' (HH pre ++ pinsOf us b env2) W → ∀ t av, env2.get t = some av → a.tmps[t]? = some (us t) ∧ ARel K' W ρ' (HH pre ++ pinsOf us b env2) av (us t) := by
  intro K' ρ' pre W g' hf' t av hg
  obtain ⟨v, v1, v2⟩ := he t av hg
  have hu : us t = v := by simp [us, Array.getD_eq_getD_getElem?, v1]
  obtain ⟨i, hbi, hgi⟩ := pins_mem (us := us) (b := b) (env_mem hg)
  have hn : HEnv.get (HH pre) i = none := by
   cases hh : HEnv.get (HH pre) i with
   | none => rfl
   | some z => have := idsLt_get (hids pre) i z hh; omega
  have hget : HEnv.get (HH pre ++ pinsOf us b env2) i = some (.pin av (us t)) := by rw [get_append, hn]; exact hgi
  exact ⟨by rw [hu]; exact v1, hf'.heap.ok i _ hget⟩
 have hfn : ∃ vc, us tf = .func (.func fB) #[] vc.toArray ∧ PRels K w cap vc := by
  have := (hus tf _ (env_mem hft))
  cases this with
  | pv _ _ hp =>
   generalize us tf = u at hp
   cases hp with
   | fn _ _ _ vf vc f1 f2 f3 f4 =>
    have : vf = [] := List.eq_nil_of_length_eq_zero (by simpa using f1)
    subst this
    exact ⟨vc, rfl, f2, f4⟩
 obtain ⟨vc, hvc, hpc⟩ := hfn
 have hev : a.eval (.tmp tf) = .func (.func fB) #[] vc.toArray := by rw [← hvc]; rfl
 have hcapW : ∀ {K' : KK} {ρ' : Nat → Value} {pre : List α} {W : World} {g' : Base}, FS g' K' ρ' (HH pre ++ pinsOf us b env2) W → PRels K' W cap vc := by
  intro K' ρ' pre W g' hf'
  have := (hread hf' tf _ hft).2
  rw [hvc] at this
  cases this with
  | pv _ _ hp =>
   cases hp with
   | fn _ _ _ vf vc' f1 f2 f3 f4 => exact ⟨f2, f4⟩
 have hseq := hit.stops K w vc (d - 1) hpc
 let a₁ : α → Act := fun x => { tmps := ((a.tmps.setIfInBounds p0 (v0 x)).setIfInBounds p1 (v1 x)).setIfInBounds tv (v1 x), defers := [] }
 let I : List α → World → Prop := fun pre W => ∃ K ρ, FS g K ρ (HH pre ++ pinsOf us b env2) W
 refine wpIn_rangeFunc_ownF (α := α) (F := Fence.wide) (n := d) (w0 := w) (N := all.length) rfl (by omega) hev trivial (fun args w => call_run hit.stands args w) hseq
  (fun h1 h2 h => h2 (h1 h)) (fun W l o o' hl hlo ho _ => fun ⟨K', hK'⟩ => ⟨K', hK'.nc (B := 0) ⟨some l, grownBy_putObj' _ _ _, fun r e => by cases e; exact ⟨Nat.zero_le _, o, hlo, ho⟩⟩⟩) (.refl _ _)
  (fun x => by rw [henc]; rfl) I (fun _ _ _ => False) ?_ (fun _ _ _ _ _ h => h.elim) ⟨K, ρ, hfs0⟩ a₁ ?_ ?_ ?_ (fun _ _ _ _ _ _ h _ => h.elim)
 ·rintro pre W W' row ⟨K', ρ', hf'⟩ hg hr
  exact ⟨K', ρ', hf'.nc hbg.pr hbg.k0 hw1 (hpins pre) ⟨row, hg, fun r e => ⟨Nat.le_trans hf.below.size (hr r e).1, (hr r e).2⟩⟩⟩
 ·intro l x W KK hKK
  refine wpIn_region_list ?_
  have hK : KK (a₁ x) W := hKK
  show wpListIn _ _ _ _ _ [_] _ _
  refine wpListIn_plain rfl fun K2 hK2 => ?_
  refine ⟨fun _ _ => trivial, ?_⟩
  rw [Oper.semAt_eq _ _ _ (fun c hc => by cases hc)]
  have hrun : ∀ ρ : Operand → Value, (execOp ρ { dst := some tv, op := .assign (.tmp p1), type := ty, pos := po, after := af, guard := none : Oper }).run P W = .ok (.value (ρ (.tmp p1))) W := fun ρ => by simp [execOp]
  rw [hrun]
  simp only [Oper.uponIn]
  refine hK2 _ _ ?_
  show Exit.then KK _ .normal _ W
  have e1 : (({ tmps := ((#[p0, p1] : Array Tmp).zip (encs x)).foldl (fun t (p, v) => t.setIfInBounds p v) a.tmps, defers := [] } : Act).put (some tv) (({ tmps := ((#[p0, p1] : Array Tmp).zip (encs x)).foldl (fun t (p, v) => t.setIfInBounds p v) a.tmps, defers := [] } : Act).eval (.tmp p1))) = a₁ x := by
   rw [henc x]
   have hsz : p1 < (a.tmps.setIfInBounds p0 (v0 x)).size := by simp; omega
   have hz : ((#[p0, p1] : Array Tmp).zip #[v0 x, v1 x]).foldl (fun t (p, v) => t.setIfInBounds p v) a.tmps = (a.tmps.setIfInBounds p0 (v0 x)).setIfInBounds p1 (v1 x) := by
    have hz0 : (#[p0, p1] : Array Tmp).zip #[v0 x, v1 x] = #[(p0, v0 x), (p1, v1 x)] := Array.ext' (by rw [Array.toList_zip]; rfl)
    rw [hz0]; rfl
   rw [hz]
   simp only [Act.put, Act.eval, a₁]
   congr 2
   simp [Array.getD_eq_getD_getElem?]
   intro h; omega
  rw [e1]
  exact hK
 ·rintro l pre x W ⟨K', ρ', hf'⟩ hlen
  have hf2 : FS ⟨g.w0, g.K0, W, [], g.wp, g.pr⟩ K' ρ' (HH pre ++ pinsOf us b env2) W := ⟨hf'.below, hf'.old, hf'.new, hf'.lt, KeepsOthers.refl W, ⟨hf'.pt.same, hf'.pt.kept⟩, hf'.away, hf'.heap⟩
  have hinvB : Inv n ⟨g.w0, g.K0, W, [], g.wp, g.pr⟩ ((tv, .pv (.base (v1 x))) :: env2) (HH pre ++ pinsOf us b env2) (a₁ x) W := by
   refine ⟨by simp [a₁, h1], rfl, K', ρ', hf2, fun t av hg => ?_⟩
   rw [Env.get_cons] at hg
   split at hg
   ·rename_i e; subst e
    simp only [Option.some.injEq] at hg; subst hg
    refine ⟨v1 x, ?_, .pv _ _ (.base _ (hv1 x))⟩
    show (((a.tmps.setIfInBounds p0 (v0 x)).setIfInBounds p1 (v1 x)).setIfInBounds tv (v1 x))[tv]? = some (v1 x)
    exact Array.getElem?_setIfInBounds_self_of_lt (by simp; omega)
   ·rename_i hne
    obtain ⟨q1, q2⟩ := hread hf' t av hg
    have hfresh : ∀ p, p ∈ [p0, p1, tv] → p ≠ t := by
     intro p hp e; subst e
     have := List.all_eq_true.1 hfr p hp
     rw [hg] at this; cases this
    refine ⟨us t, ?_, q2⟩
    show (((a.tmps.setIfInBounds p0 (v0 x)).setIfInBounds p1 (v1 x)).setIfInBounds tv (v1 x))[t]? = _
    rw [Array.getElem?_setIfInBounds_ne (hfresh tv (by simp)), Array.getElem?_setIfInBounds_ne (hfresh p1 (by simp)), Array.getElem?_setIfInBounds_ne (hfresh p0 (by simp))]
    exact q1
  refine wpIn_mono ((hbody ⟨g.w0, g.K0, W, [], g.wp, g.pr⟩ us pre x hlen).go (a₁ x) W hinvB (some l) (d - 1 - 1)) ?_
  rintro e a' W' ⟨env', H', hi', hq⟩
  cases e with
  | normal =>
   obtain ⟨_, _, K2, ρ2, hfe, _⟩ := (hi'.sub sub_nil).hsub (H' := HH (pre ++ [x]) ++ pinsOf us b env2) hq
   refine ⟨hfe.others, fun _ => ⟨K2, hcapW hfe⟩, K2, ρ2, ⟨hfe.below, hfe.old, hfe.new, hfe.lt, ⟨by rw [hw1]; omega, fun k o hk => by have := (Array.getElem?_eq_some_iff.1 hk).1; omega⟩, ⟨hfe.pt.same, hfe.pt.kept⟩, hfe.away, hfe.heap⟩⟩
  | _ => exact hq.elim
 ·rintro D xs W hD rfl ⟨K', ρ', hf'⟩ hWD
  have hend' := hend
  simp only [Bool.and_eq_true] at hend'
  have hfe : FS ⟨g.w0, g.K0, W, [mark D], g.wp, g.pr⟩ K' ρ' (HH xs ++ pinsOf us b env2) W := ⟨hf'.below, hf'.old, hf'.new, hf'.lt, KeepsOthers.refl W, ⟨hf'.pt.same, hf'.pt.kept⟩, hf'.away, hf'.heap⟩
  have hinvE : Inv n ⟨g.w0, g.K0, W, [mark D], g.wp, g.pr⟩ env2 (HH xs ++ pinsOf us b env2) { a with defers := mark D :: a.defers } W := by
   refine ⟨h1, ?_, K', ρ', hfe, fun t av hg => ?_⟩
   ·show mark D :: a.defers = [mark D]
    rw [h2, hbg.ds]
   ·obtain ⟨q1, q2⟩ := hread hf' t av hg
    exact ⟨us t, q1, q2⟩
  have hsub : HSub (HH xs ++ pinsOf us b env2) (HH xs) := fun i h hi => by rw [get_append, hi]
  exact ⟨⟨g.w0, g.K0, W, [mark D], g.wp, g.pr⟩, D, rfl, rfl, rfl, Nat.le_trans hf.below.size hD, hWD, env2, HH xs, hinvE.hsub ⟨hsub, hend⟩, h⟩
end
end Go.Cg
