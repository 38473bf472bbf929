/- A part of the walks by abstract values: no statement of its own. -/
import Derived.Test.YtglfbaimlajjgaaGreatU21
import Derived.Test.YtglfbaimlajjgaaGreatU13
namespace Go.Cg
open Go.Proofs

/-! arrays; the law's example -/
theorem noLoneH {P : Prop} : false = true → P := fun h => nomatch h
def arrT (k : Int) : Ty := ⟨k, 0, IntKind.i64.wrap (0 + 1), false⟩
def arrW (ws : List Int) (u : Nat) (k n : Int) : List Int := makeW ws u (headP (arrT k)) [IntKind.u64.wrap n] n.toNat
theorem mul1 {n : Int} (h0 : 0 ≤ n) (h1 : n ≤ 4096) : IntKind.i64.wrap (n * 1) = ((n.toNat : Nat) : Int) := by rw [wrap_in (by omega) (by omega)]; omega
set_option maxHeartbeats 2000000 in
theorem ArrayNo_call (ws : List Int) (w u : Nat) (k n : Int) (hk : k = 2 ∨ k = 3) (hw : w ≤ 4096) (hu : u ≤ w) (hno : n < 0 ∨ 4096 < n ∨ w < u + 2 + n.toNat) (us : Nat → Value) :
    ACallM Tryz.prog 51 [.box 0 0, .pv (tyPV ⟨k, 0, 0, false⟩), .pv (pi n)] (memH ws (8 + (w : Int)) u ++ pinB us [0]) (.pv (u64 0)) (memH ws (8 + (w : Int)) u ++ pinB us [0]) := by
  by_cases h0 : n < 0
  · refine acallM_intro tbOK Tryz.func51 rfl (by kernel_rfl) Tryz.ntmps51 (by simp) _ rfl (fun gB hw1 => ?_)
    repeat' (first | refine ao_q rfl (q_isnil (b := false) rfl Tryz.underlying70 rfl rfl) rfl rfl ?_ | (refine ao_sh_box ?_; first | refine ao_boxm 1 rfl rfl rfl rfl rfl rfl ?_) | refine sK ?_ | refine sC (fun _ => ?_) (fun _ => ?_) | fail)
    exact ⟨.inr rfl, .inl ⟨_, rfl, rfl, ⟨by repeat (first | exact hsub_nil | refine hsub_cons rfl ?_), rfl⟩⟩⟩
  · have hd0 : decide (n < 0) = false := decide_eq_false h0
    by_cases h1 : 4096 < n
    · refine acallM_intro tbOK Tryz.func51 rfl (by kernel_rfl) Tryz.ntmps51 (by simp) _ rfl (fun gB hw1 => ?_)
      repeat' (first | refine ao_q rfl (q_isnil (b := false) rfl Tryz.underlying70 rfl rfl) rfl rfl ?_ | refine ao_q rfl (q_callO (args := fun ρ => [.ptr (memPV ws (ρ 8) (8 + (w : Int)) u) 0, tyPV ⟨k, 0, 0, false⟩]) rfl (fun _ => rfl) (fun ρ => size_call ws (ρ 8) (8 + (w : Int)) u k hk)) rfl rfl ?_ | (refine ao_sh_box ?_; first | refine ao_boxm 1 rfl rfl rfl rfl rfl rfl ?_) | refine sK ?_ | refine sC (fun _ => ?_) (fun _ => ?_) | fail)
      exact ⟨.inr rfl, .inl ⟨_, rfl, rfl, ⟨by repeat (first | exact hsub_nil | refine hsub_cons rfl ?_), rfl⟩⟩⟩
    · have hd1 : decide (4096 < n) = false := decide_eq_false h1
      have cM := fun us' => makeNo_call ws w u n.toNat (arrT k) [IntKind.u64.wrap n] hw hu (by simp) (by omega) (by simp only [List.length_cons, List.length_nil]; omega) us'
      rw [← mul1 (by omega) (by omega)] at cM
      refine acallM_intro tbOK Tryz.func51 rfl (by kernel_rfl) Tryz.ntmps51 (by simp) _ rfl (fun gB hw1 => ?_)
      repeat' (first | refine ao_q rfl (q_isnil (b := false) rfl Tryz.underlying70 rfl rfl) rfl rfl ?_ | refine ao_q rfl (q_callO (args := fun ρ => [.ptr (memPV ws (ρ 8) (8 + (w : Int)) u) 0, tyPV ⟨k, 0, 0, false⟩]) rfl (fun _ => rfl) (fun ρ => size_call ws (ρ 8) (8 + (w : Int)) u k hk)) rfl rfl ?_ | refine ao_aggpv 33 [pi k, pi 0, pi (IntKind.i64.wrap (0 + 1)), pb false] rfl rfl ?_ | (refine ao_sh_box ?_; first | refine ao_boxm 1 rfl rfl rfl rfl rfl rfl ?_) | (refine ao_sh_call ?_; first | refine ao_callM (memH ws (8 + (w : Int)) u) (memH ws (8 + (w : Int)) u) [(1000, .pin (.own 0) (us 0))] [] [0] noLoneH rfl rfl rfl (by repeat (first | exact hsub_nil | refine hsub_cons rfl ?_)) tS rfl rfl rfl cM ?_) | refine sK ?_ | refine sC (fun _ => ?_) (fun _ => ?_) | fail)
      exact ⟨.inr rfl, .inl ⟨_, rfl, rfl, ⟨by repeat (first | exact hsub_nil | refine hsub_cons rfl ?_), rfl⟩⟩⟩
set_option maxHeartbeats 2000000 in
theorem Array_call (ws : List Int) (w u : Nat) (k n : Int) (hk : k = 2 ∨ k = 3) (hw : w ≤ 4096) (h0 : 0 ≤ n) (h1 : n ≤ 4096) (hyes : u + 2 + n.toNat ≤ w) (hws : ws.length = 16392 + w) (us : Nat → Value) :
    ACallM Tryz.prog 51 [.box 0 0, .pv (tyPV ⟨k, 0, 0, false⟩), .pv (pi n)] (memH ws (8 + (w : Int)) u ++ pinB us [0]) (.pv (u64 ((8 + u : Nat) : Int))) (memH (arrW ws u k n) (8 + (w : Int)) ((u + 1 + 1 + n.toNat : Nat) : Int) ++ pinB us [0]) := by
  have hd0 : decide (n < 0) = false := decide_eq_false (by omega)
  have hd1 : decide (4096 < n) = false := decide_eq_false (by omega)
  have cM := fun us' => make_call ws w u n.toNat (arrT k) [IntKind.u64.wrap n] hw (by simp) (by omega) (by simp only [List.length_cons, List.length_nil]; omega) hws us'
  rw [← mul1 h0 h1] at cM
  refine acallM_intro tbOK Tryz.func51 rfl (by kernel_rfl) Tryz.ntmps51 (by simp) _ rfl (fun gB hw1 => ?_)
  repeat' (first | refine ao_q rfl (q_isnil (b := false) rfl Tryz.underlying70 rfl rfl) rfl rfl ?_ | refine ao_q rfl (q_callO (args := fun ρ => [.ptr (memPV ws (ρ 8) (8 + (w : Int)) u) 0, tyPV ⟨k, 0, 0, false⟩]) rfl (fun _ => rfl) (fun ρ => size_call ws (ρ 8) (8 + (w : Int)) u k hk)) rfl rfl ?_ | refine ao_aggpv 33 [pi k, pi 0, pi (IntKind.i64.wrap (0 + 1)), pb false] rfl rfl ?_ | (refine ao_sh_box ?_; first | refine ao_boxm 1 rfl rfl rfl rfl rfl rfl ?_) | (refine ao_sh_call ?_; first | refine ao_callM (memH ws (8 + (w : Int)) u) (memH (arrW ws u k n) (8 + (w : Int)) ((u + 1 + 1 + n.toNat : Nat) : Int)) [(1000, .pin (.own 0) (us 0))] [] [0] noLoneH rfl rfl rfl (by repeat (first | exact hsub_nil | refine hsub_cons rfl ?_)) tS rfl rfl rfl cM ?_) | refine sK ?_ | refine sC (fun _ => ?_) (fun _ => ?_) | fail)
  exact ⟨.inr rfl, .inl ⟨_, rfl, rfl, ⟨by repeat (first | exact hsub_nil | refine hsub_cons rfl ?_), rfl⟩⟩⟩
theorem makeW_get {ws : List Int} {u z : Nat} {hd x : Int} (h : 10 + u + z ≤ ws.length) : (makeW ws u hd [x] z)[9 + u]? = some x := by
  have e1 : ((ws.set (8 + u) hd).take (9 + u)).length = 9 + u := by rw [List.length_take, List.length_set]; omega
  simp only [makeW, List.length_cons, List.length_nil]
  rw [List.append_assoc, List.getElem?_append_left (by simp only [List.length_take, List.length_append, List.length_set, List.length_drop, List.length_cons, List.length_nil]; omega), List.getElem?_take, if_pos (by omega), List.append_assoc, List.getElem?_append, if_neg (by rw [e1]; omega), e1]
  simp
end Go.Cg
namespace Go.Cg
open Go.Proofs
theorem img0_tells : PTells (.agg [nilS, nilS, nilS, pi (-1)]) (imgPV g0) := pt_agg (ptl_cons (pt_nil 4 false) (ptl_cons (pt_nil 7 false) (ptl_cons (pt_nil 12 false) (ptl_cons (.refl _) ptl_nil))))
theorem arr10_len {W : List Int} (h : W.length = 16402) : (arrW W 0 2 3).length = 16402 := by
  have h2 := makeW_len (ws := W) (u := 0) (z := (3 : Int).toNat) (hd := headP (arrT 2)) (l := [IntKind.u64.wrap 3]) (by rw [h]; decide)
  exact h2.trans h
theorem arr10_get {W : List Int} (h : W.length = 16402) : (arrW W 0 2 3)[9]'(by rw [arr10_len h]; omega) = 3 := by
  have h2 : (arrW W 0 2 3)[9]? = some (IntKind.u64.wrap 3) := makeW_get (ws := W) (u := 0) (z := (3 : Int).toNat) (hd := headP (arrT 2)) (x := IntKind.u64.wrap 3) (by rw [h]; decide)
  rw [List.getElem?_eq_getElem (by rw [arr10_len h]; omega)] at h2
  exact Option.some.inj h2
set_option maxHeartbeats 400000 in
theorem wakes20_call : ACall Tryz.prog 47 [] (pb true) := by
  have cN0 := New_call 10 (by decide) (by decide)
  have hl0 := ws0_len 10 7
  generalize ws0 10 7 = W at cN0 hl0
  have hl : W.length = 16402 := hl0
  rw [show (8 + (10 : Int)) = 18 from rfl] at cN0
  have cN := fun (_ : Nat → Value) => cN0
  have cA := fun us => Array_call W 10 0 2 3 (.inl rfl) (by decide) (by decide) (by decide) (by decide) hl us
  obtain ⟨V, hV, hl1, hg1⟩ : ∃ V, arrW W 0 2 3 = V ∧ ∃ h : V.length = 16402, V[9]'(by omega) = 3 := ⟨_, rfl, arr10_len hl, arr10_get hl⟩
  rw [hV, show (8 + ((10 : Nat) : Int)) = 18 from rfl, show ((0 + 1 + 1 + (3 : Int).toNat : Nat) : Int) = 5 from rfl, show ((8 + 0 : Nat) : Int) = 8 from rfl, show ((0 : Nat) : Int) = 0 from rfl] at cA
  have cG := fun mv => Get_call V mv 18 5 9 (by rw [hl1]; omega) (by rw [hl1]; omega)
  rw [hg1, show ((9 : Nat) : Int) = 9 from rfl] at cG
  refine acall_intro tbOK Tryz.func47 rfl (by kernel_rfl) Tryz.ntmps47 (by simp) _ rfl (fun hw gB hgB => ?_)
  repeat' (first | refine ao_tells 2 img0_tells rfl ?_ | refine ao_q (r := .pv (u64 1)) rfl (q_callO (args := fun ρ => [.ptr (memPV W (ρ 8) 18 0) 0, pi 1]) rfl (fun _ => rfl) (fun ρ => Fault_call W (ρ 8) 18 0 1 (by decide) (by decide))) rfl rfl ?_ | refine ao_q (r := .pv (u64 18)) rfl (q_callO (args := fun ρ => [.ptr (memPV W (ρ 8) 18 0) 0]) rfl (fun _ => rfl) (fun ρ => Frames_call W (ρ 8) 18 0)) rfl rfl ?_ | refine ao_q (r := .pv (pi 5)) rfl (q_callO (args := fun ρ => [.ptr (memPV V (ρ 8) 18 5) 0]) rfl (fun _ => rfl) (fun ρ => Used_call V (ρ 8) 18 5)) rfl rfl ?_ | refine ao_q (r := .pv (u64 3)) rfl (q_callO (args := fun ρ => [.ptr (memPV V (ρ 8) 18 5) 0, u64 9]) rfl (fun _ => rfl) (fun ρ => cG (ρ 8))) rfl rfl ?_ | (refine ao_sh_call ?_; first | refine ao_callM [] (memH W 18 0) [] [] [] noLoneH rfl rfl rfl (by repeat (first | exact hsub_nil | refine hsub_cons rfl ?_)) tS rfl rfl rfl cN ?_ | refine ao_callM (memH W 18 0) (memH V 18 5) [] [(1, .box 0 0), (12, .pv (pb true))] [0] noLoneH rfl rfl rfl (by repeat (first | exact hsub_nil | refine hsub_cons rfl ?_)) tS rfl rfl rfl cA ?_) | refine sK ?_ | refine sC (fun _ => ?_) (fun _ => ?_) | fail)
  exact retq rfl rfl
end Go.Cg
namespace Go.Cg
open Go.Proofs

/-! a memory that is not there -/
structure Ac where
  kind : Int
  n : Int
  t : Ty
  a : Int
  x : Int
  l : List Int
  deriving Inhabited
def acPV (c : Ac) : PV := .agg [pi c.kind, pi c.n, pi c.t.kind, pi c.t.index, pi c.t.dims, pb c.t.ref, u64 c.a, u64 c.x, .slc 1 (c.l.map u64) false]
def acts (l : List Ac) : PV := .slc 9 (l.map acPV) false
theorem type0 : typeP 0 = ⟨0, 0, 0, false⟩ := by decide +kernel
set_option maxHeartbeats 1000000 in
theorem KindN_call (a : Int) : ACall Tryz.prog 58 [nilP, u64 a] (tyPV ⟨0, 0, 0, false⟩) := by
  have c1 := Type_call 0
  rw [type0] at c1
  refine acall_intro tbOK Tryz.func58 rfl (by kernel_rfl) Tryz.ntmps58 (by simp) _ rfl (fun hw gB hgB => ?_)
  repeat' (first | (refine shC ?_; first | refine qC (GetN_call a) ?_ | refine qC c1 ?_) | refine sA ?_ | refine sC (fun _ => ?_) (fun _ => ?_) | fail)
  all_goals exact retq rfl rfl
theorem q_notnil {P : Program} {g : Base} {H : HEnv} {env : Env} {o : Oper} {t rt pe : TypeId} {x : Operand} (hop : o.op = .binOp .neq t x (.const (.pointer none)) rt) (hu0 : P.underlying t = some (.pointer pe)) (hx : env.val x = some (.pv (.base (.pointer none)))) : QStep P g H o env (.pv (.base (.bool false))) := by
  have hu : P.underlying t = some (.pointer (P.pointee t)) := by rw [hu0, Program.pointee, hu0]
  refine ⟨fun K ρ a w hf hv => ?_⟩
  have hxr := hv x (by rw [hop]; simp [Op.operands]) _ hx
  generalize hxv : a.eval x = xv at hxr
  cases hxr with
  | pv p v hp =>
    cases hp
    have h1 := run_neq_pointer_nil (P := P) w t none hu
    have h2 : a.eval (.const (.pointer none)) = .pointer none := rfl
    have hrun : (execOp a.eval o).run P w = .ok (.value (.bool false)) w := by
      simp [execOp, hop, hxv, h2, eqGuard, h1]
    rw [hrun]
    exact qval hf (.pv _ _ (.base _ rfl))
set_option maxHeartbeats 1000000 in
theorem PutN_call (a x : Int) : ACall Tryz.prog 102 [nilP, u64 a, u64 x] (.tup []) := by
  refine acall_intro tbOK Tryz.func102 rfl (by kernel_rfl) Tryz.ntmps102 (by simp) _ rfl (fun hw gB hgB => ?_)
  repeat' (first | refine ao_q rfl (q_notnil rfl Tryz.underlying70 rfl) rfl rfl ?_ | refine sA ?_ | refine sC (fun _ => ?_) (fun _ => ?_) | fail)
  exact retn rfl rfl
set_option maxHeartbeats 2000000 in
theorem doN_call (c : Ac) : ACall Tryz.prog 56 [nilP, acPV c] (u64 0) := by
  refine acall_intro tbOK Tryz.func56 rfl (by kernel_rfl) Tryz.ntmps56 (by simp) _ rfl (fun hw gB hgB => ?_)
  repeat' (first | (refine shC ?_; first | refine qC (ObjectN_call c.t.index) ?_ | refine qC (ArrayN_call c.t c.n) ?_ | refine qC (BoxN_call c.t (c.l.map u64)) ?_ | refine qC (DelegateN_call c.t.index c.a c.n) ?_ | refine qC (PutN_call c.a c.x) ?_ | refine qC (GetN_call c.a) ?_) | refine sA ?_ | refine sC (fun _ => ?_) (fun _ => ?_) | fail)
  all_goals exact retq rfl rfl
set_option maxHeartbeats 2000000 in
theorem HeapNil_call (c : Ac) : ACall Tryz.prog 14 [acPV c] (pb true) := by
  refine acall_intro tbOK Tryz.func14 rfl (by kernel_rfl) Tryz.ntmps14 (by simp) _ rfl (fun hw gB hgB => ?_)
  repeat' (first | (refine shC ?_; first | refine qC wakes20_call ?_ | refine qC (doN_call c) ?_ | refine qC (FaultN_call c.n) ?_ | refine qC (KindN_call c.a) ?_ | refine qC FramesN_call ?_ | refine qC UsedN_call ?_ | refine qC AllN_call ?_) | refine sK ?_ | refine sC (fun _ => ?_) (fun _ => ?_) | fail)
  all_goals exact retq rfl rfl
end Go.Cg
namespace Go.Cg
open Go.Proofs

/-! heads: the bits -/
theorem and_mask4 (a : Int) : (BitVec.ofInt 64 a &&& BitVec.ofInt 64 ((2 ^ 4 - 1 : Nat) : Int)).toNat = (a % 16).toNat := by
  rw [BitVec.toNat_and, BitVec.toNat_ofInt, BitVec.toNat_ofInt, show ((((2 ^ 4 - 1 : Nat) : Int) % ((2 ^ 64 : Nat) : Int)).toNat) = 2 ^ 4 - 1 from rfl, Nat.and_two_pow_sub_one_eq_mod]
  omega
theorem and_mask10 (a : Int) : (BitVec.ofInt 64 a &&& BitVec.ofInt 64 ((2 ^ 10 - 1 : Nat) : Int)).toNat = (a % 1024).toNat := by
  rw [BitVec.toNat_and, BitVec.toNat_ofInt, BitVec.toNat_ofInt, show ((((2 ^ 10 - 1 : Nat) : Int) % ((2 ^ 64 : Nat) : Int)).toNat) = 2 ^ 10 - 1 from rfl, Nat.and_two_pow_sub_one_eq_mod]
  omega
theorem and15 (k : IntKind) (hk : k = .i64 ∨ k = .u64) (a : Int) : andU k a 15 = a % 16 := by
  have h := and_mask4 a
  rcases hk with rfl | rfl
  · rw [andU]; show IntKind.i64.wrap (((BitVec.ofInt 64 a &&& BitVec.ofInt 64 15).toNat : Nat) : Int) = _
    rw [show (15 : Int) = ((2 ^ 4 - 1 : Nat) : Int) from rfl, h, wrap_in (by omega) (by omega)]; omega
  · rw [andU]; show IntKind.u64.wrap (((BitVec.ofInt 64 a &&& BitVec.ofInt 64 15).toNat : Nat) : Int) = _
    rw [show (15 : Int) = ((2 ^ 4 - 1 : Nat) : Int) from rfl, h, wrapU_in (by omega) (by omega)]; omega
theorem and1023 (k : IntKind) (hk : k = .i64 ∨ k = .u64) (a : Int) : andU k a 1023 = a % 1024 := by
  have h := and_mask10 a
  rcases hk with rfl | rfl
  · rw [andU]; show IntKind.i64.wrap (((BitVec.ofInt 64 a &&& BitVec.ofInt 64 1023).toNat : Nat) : Int) = _
    rw [show (1023 : Int) = ((2 ^ 10 - 1 : Nat) : Int) from rfl, h, wrap_in (by omega) (by omega)]; omega
  · rw [andU]; show IntKind.u64.wrap (((BitVec.ofInt 64 a &&& BitVec.ofInt 64 1023).toNat : Nat) : Int) = _
    rw [show (1023 : Int) = ((2 ^ 10 - 1 : Nat) : Int) from rfl, h, wrapU_in (by omega) (by omega)]; omega
theorem or_add (a b : Nat) (i : Nat) (ha : a < 2 ^ i) (hs : 2 ^ i * b + a < 2 ^ 64) : orU (a : Int) ((2 ^ i * b : Nat) : Int) = ((2 ^ i * b + a : Nat) : Int) := by
  rw [orU]
  show IntKind.u64.wrap (((BitVec.ofInt 64 (a : Int) ||| BitVec.ofInt 64 ((2 ^ i * b : Nat) : Int)).toNat : Nat) : Int) = _
  rw [BitVec.toNat_or, BitVec.toNat_ofInt, BitVec.toNat_ofInt, ← Int.natCast_emod, ← Int.natCast_emod, Int.toNat_natCast, Int.toNat_natCast, Nat.mod_eq_of_lt (by omega), Nat.mod_eq_of_lt (by omega), Nat.or_comm, ← Nat.two_pow_add_eq_or_of_lt ha]
  have : (2 : Nat) ^ 64 = 18446744073709551616 := by decide
  rw [wrapU_in (by omega) (by omega)]
theorem headP_eq (t : Ty) : headP t = t.kind % 16 + 16 * (t.index % 1024) + 16384 * (t.dims % 16) := by
  rw [headP, and15 .i64 (.inl rfl), and1023 .i64 (.inl rfl), and15 .i64 (.inl rfl)]
  have p4 : (2 : Int) ^ (min (4 : Int).toNat IntKind.u64.bits) = 16 := by decide
  have p14 : (2 : Int) ^ (min (14 : Int).toNat IntKind.u64.bits) = 16384 := by decide
  rw [p4, p14, wrapU_in (a := t.kind % 16) (by omega) (by omega), wrapU_in (a := t.index % 1024) (by omega) (by omega), wrapU_in (a := t.dims % 16) (by omega) (by omega), wrapU_in (a := t.index % 1024 * 16) (by omega) (by omega), wrapU_in (a := t.dims % 16 * 16384) (by omega) (by omega)]
  obtain ⟨K, hK, hK1⟩ : ∃ K : Nat, t.kind % 16 = (K : Int) ∧ K < 16 := ⟨(t.kind % 16).toNat, by omega, by omega⟩
  obtain ⟨I, hI, hI1⟩ : ∃ K : Nat, t.index % 1024 = (K : Int) ∧ K < 1024 := ⟨(t.index % 1024).toNat, by omega, by omega⟩
  obtain ⟨D, hD, hD1⟩ : ∃ K : Nat, t.dims % 16 = (K : Int) ∧ K < 16 := ⟨(t.dims % 16).toNat, by omega, by omega⟩
  rw [hK, hI, hD, show (I : Int) * 16 = ((2 ^ 4 * I : Nat) : Int) by omega, show (D : Int) * 16384 = ((2 ^ 14 * D : Nat) : Int) by omega, or_add K I 4 (by omega) (by omega), or_add (2 ^ 4 * I + K) D 14 (by omega) (by omega)]
  omega
theorem fdiv_shift {h : Int} (c : Nat) (_h0 : 0 ≤ h) : h.fdiv (c : Int) = h / (c : Int) := by rw [Int.fdiv_eq_ediv_of_nonneg _ (by omega)]
theorem typeP_eq {h : Int} (h0 : 0 ≤ h) : typeP h = ⟨h % 16, h / 16 % 1024, h / 16384 % 16, false⟩ := by
  have p4 : (2 : Int) ^ (min (4 : Int).toNat IntKind.u64.bits) = ((16 : Nat) : Int) := by decide
  have p14 : (2 : Int) ^ (min (14 : Int).toNat IntKind.u64.bits) = ((16384 : Nat) : Int) := by decide
  rw [typeP, p4, p14, fdiv_shift 16 h0, fdiv_shift 16384 h0, and15 .u64 (.inr rfl), and1023 .u64 (.inr rfl), and15 .u64 (.inr rfl), wrap_in (by omega) (by omega), wrap_in (by omega) (by omega), wrap_in (by omega) (by omega)]
  rfl
theorem type_head {x : Ty} (h : ∃ h, 0 ≤ h ∧ x = typeP h) : typeP (headP x) = x := by
  obtain ⟨h, h0, rfl⟩ := h
  have e := typeP_eq h0
  have e1 : (typeP h).kind = h % 16 := by rw [e]
  have e2 : (typeP h).index = h / 16 % 1024 := by rw [e]
  have e3 : (typeP h).dims = h / 16384 % 16 := by rw [e]
  have h1 := headP_eq (typeP h)
  rw [e1, e2, e3] at h1
  rw [typeP_eq (h := headP (typeP h)) (by omega), h1]
  rw [e]
  congr 1 <;> omega

/-! heads: the document's side -/
set_option maxHeartbeats 1000000 in
theorem cut_call (n b : Int) (hb : b = 16 ∨ b = 1024) (h0 : -9223372036854775808 ≤ n) (h1 : n ≤ 9223372036854775807) : ACall Tryz.prog 98 [pi n, pi b] (u64 (n % b)) := by
  have hb0 : b ≠ 0 := by omega
  have key : (0 ≤ n ∧ n.tmod b = n % b) ∨ (n < 0 ∧ n.tmod b = -((-n) % b)) := by
    by_cases hn : 0 ≤ n
    · exact .inl ⟨hn, Int.tmod_eq_emod_of_nonneg hn⟩
    · exact .inr ⟨by omega, by rw [← Int.tmod_eq_emod_of_nonneg (show 0 ≤ -n by omega), Int.neg_tmod, Int.neg_neg]⟩
  have hlo : 0 ≤ n % b := Int.emod_nonneg _ hb0
  have hhi : n % b < b := Int.emod_lt_of_pos _ (by omega)
  obtain ⟨x, hx⟩ : ∃ x, n.tmod b = x := ⟨_, rfl⟩
  by_cases hneg : x < 0
  · refine acall_intro tbOK Tryz.func98 rfl (by kernel_rfl) Tryz.ntmps98 (by simp) _ rfl (fun hw gB hgB => ?_)
    repeat' (first | refine ao_q rfl (q_rem x tbOK rfl rfl rfl hb0 hx) rfl rfl ?_ | refine sK ?_ | refine sC (fun _ => ?_) (fun _ => ?_) | fail)
    refine retq rfl ?_
    simp only [retPV]
    have : x = n % b - b := by rw [hx] at key; rcases hb with rfl | rfl <;> omega
    rw [wrap_in (by omega) (by omega), wrapU_in (by omega) (by omega), this]
    congr 2; omega
  · refine acall_intro tbOK Tryz.func98 rfl (by kernel_rfl) Tryz.ntmps98 (by simp) _ rfl (fun hw gB hgB => ?_)
    repeat' (first | refine ao_q rfl (q_rem x tbOK rfl rfl rfl hb0 hx) rfl rfl ?_ | refine sK ?_ | refine sC (fun _ => ?_) (fun _ => ?_) | fail)
    refine retq rfl ?_
    simp only [retPV]
    have : x = n % b := by rw [hx] at key; rcases hb with rfl | rfl <;> omega
    rw [wrapU_in (by omega) (by omega), this]
def okT (t : Ty) : Prop := (-9223372036854775808 ≤ t.kind ∧ t.kind ≤ 9223372036854775807) ∧ (-9223372036854775808 ≤ t.index ∧ t.index ≤ 9223372036854775807) ∧ (-9223372036854775808 ≤ t.dims ∧ t.dims ≤ 9223372036854775807)
set_option maxHeartbeats 1000000 in
theorem HeadR_call (t : Ty) (h : okT t) : ACall Tryz.prog 54 [tyPV t] (u64 (headP t)) := by
  have c1 := cut_call t.kind 16 (.inl rfl) h.1.1 h.1.2
  have c2 := cut_call t.index 1024 (.inr rfl) h.2.1.1 h.2.1.2
  have c3 := cut_call t.dims 16 (.inl rfl) h.2.2.1 h.2.2.2
  refine acall_intro tbOK Tryz.func54 rfl (by kernel_rfl) Tryz.ntmps54 (by simp) _ rfl (fun hw gB hgB => ?_)
  repeat' (first | (refine shC ?_; first | refine qC c1 ?_ | refine qC c2 ?_ | refine qC c3 ?_) | refine sA ?_ | refine sC (fun _ => ?_) (fun _ => ?_) | fail)
  refine retq rfl ?_
  simp only [retPV]
  rw [headP_eq, wrapU_in (a := 16 * (t.index % 1024)) (by omega) (by omega), wrapU_in (a := t.kind % 16 + 16 * (t.index % 1024)) (by omega) (by omega), wrapU_in (a := 16384 * (t.dims % 16)) (by omega) (by omega), wrapU_in (by omega) (by omega)]
set_option maxHeartbeats 1000000 in
theorem TypeR_call (h : Int) (h0 : 0 ≤ h) (h1 : h ≤ 18446744073709551615) : ACall Tryz.prog 55 [u64 h] (tyPV (typeP h)) := by
  rw [typeP_eq h0]
  refine acall_intro tbOK Tryz.func55 rfl (by kernel_rfl) Tryz.ntmps55 (by simp) _ rfl (fun hw gB hgB => ?_)
  repeat' (first | refine sA ?_ | refine sC (fun _ => ?_) (fun _ => ?_) | fail)
  refine retq rfl ?_
  have e1 : h.tmod 16 = h % 16 := by rw [Int.tmod_eq_emod_of_nonneg h0]
  have e2 : h.tdiv 16 = h / 16 := by rw [Int.tdiv_eq_ediv_of_nonneg h0]
  have e3 : h.tdiv 16384 = h / 16384 := by rw [Int.tdiv_eq_ediv_of_nonneg h0]
  have e4 : IntKind.i64.wrap (h.tmod 16) = h % 16 := by rw [e1, wrap_in (by omega) (by omega)]
  have e5 : IntKind.i64.wrap ((IntKind.u64.wrap (h.tdiv 16)).tmod 1024) = h / 16 % 1024 := by
    rw [e2, wrapU_in (by omega) (by omega), Int.tmod_eq_emod_of_nonneg (by omega), wrap_in (by omega) (by omega)]
  have e6 : IntKind.i64.wrap ((IntKind.u64.wrap (h.tdiv 16384)).tmod 16) = h / 16384 % 16 := by
    rw [e3, wrapU_in (by omega) (by omega), Int.tmod_eq_emod_of_nonneg (by omega), wrap_in (by omega) (by omega)]
  show PV.agg [pi (IntKind.i64.wrap (h.tmod 16)), pi (IntKind.i64.wrap ((IntKind.u64.wrap (h.tdiv 16)).tmod 1024)), pi (IntKind.i64.wrap ((IntKind.u64.wrap (h.tdiv 16384)).tmod 16)), pb false] = tyPV _
  rw [e4, e5, e6]; rfl
set_option maxHeartbeats 1000000 in
theorem HeapHeads_call (t : Ty) (h : Int) (ht : okT t) (h0 : 0 ≤ h) (h1 : h ≤ 18446744073709551615) : ACall Tryz.prog 13 [tyPV t, u64 h] (pb true) := by
  have c3 := Type_call (headP (typeP h))
  rw [type_head ⟨h, h0, rfl⟩] at c3
  refine acall_intro tbOK Tryz.func13 rfl (by kernel_rfl) Tryz.ntmps13 (by simp) _ rfl (fun hw gB hgB => ?_)
  repeat' (first | (refine shC ?_; first | refine qC wakes20_call ?_ | refine qC (Type_call h) ?_ | refine qC (Head_call t) ?_ | refine qC (HeadR_call t ht) ?_ | refine qC (TypeR_call h h0 h1) ?_ | refine qC (Head_call (typeP h)) ?_ | refine qC c3 ?_) | refine sK ?_ | refine sC (fun _ => ?_) (fun _ => ?_) | fail)
  all_goals exact retq rfl (by simp [retPV])
end Go.Cg
namespace Go.Cg
open Go.Proofs

/-! what finds no room is not made -/
def longA (l : List Ac) : Bool := decide ((40 : Int) < l.length) || l.any fun c => decide ((20 : Int) < c.l.length)
theorem ac_len {l : List Ac} (h : (acts l).lenOk) : l.length ≤ 9223372036854775807 := by
  simp [acts, PV.lenOk, maxLen] at h; exact h.1
set_option maxHeartbeats 1000000 in
theorem long20_call (l : List Ac) : ACall Tryz.prog 48 [acts l] (pb (longA l)) := by
  refine acall_intro tbOK Tryz.func48 rfl (by kernel_rfl) Tryz.ntmps48 (by simp) _ rfl (fun hw gB hgB => ?_)
  have hl := ac_len hw.1
  by_cases h40 : (40 : Int) < l.length
  · have hd : decide ((40 : Int) < (((l.map acPV).length : Nat) : Int)) = true := decide_eq_true (by rw [List.length_map]; exact h40)
    repeat' (first | refine sK ?_ | refine sC (fun _ => ?_) (fun _ => ?_) | fail)
    exact retq rfl (by rw [longA, decide_eq_true h40]; rfl)
  · have hd : decide ((40 : Int) < (((l.map acPV).length : Nat) : Int)) = false := decide_eq_false (by rw [List.length_map]; exact h40)
    have hr0 : longA l = (l.drop 0).any fun c => decide ((20 : Int) < c.l.length) := by rw [longA, decide_eq_false h40]; rfl
    repeat' (first | refine sK ?_ | refine sC (fun _ => ?_) (fun _ => ?_) | fail)
    refine aw_loop (fun k : Nat => [(0, .pv (acts l)), (8, .pv (pi l.length)), (9, .pv (pi k))]) (fun _ => []) (fun k => k ≤ l.length ∧ longA l = (l.drop k).any fun c => decide ((20 : Int) < c.l.length)) (fun k => l.length - k) 0 ⟨by omega, hr0⟩ (by repeat (first | exact sub_nil | refine sub_cons rfl ?_ | (refine sub_i rfl ?_ ?_; · simp))) tH ?_
    rintro k ⟨hk, hr⟩
    by_cases hlt : k < l.length
    · have he := map_get (f := acPV) hlt
      rw [drop_any hlt] at hr
      cases hb : decide ((20 : Int) < l[k].l.length)
      · have hb' : decide ((20 : Int) < (((l[k].l.map u64).length : Nat) : Int)) = false := by rw [List.length_map]; exact hb
        rw [hb] at hr
        repeat' (first | (refine shX ?_; first | refine qX he ?_) | refine sK ?_ | refine sC (fun _ => ?_) (fun _ => ?_) | fail)
        exact ⟨k + 1, ⟨hlt, hr⟩, tD, tS, tH⟩
      · have hb' : decide ((20 : Int) < (((l[k].l.map u64).length : Nat) : Int)) = true := by rw [List.length_map]; exact hb
        rw [hb] at hr
        repeat' (first | (refine shX ?_; first | refine qX he ?_) | refine sK ?_ | refine sC (fun _ => ?_) (fun _ => ?_) | fail)
        exact retq rfl (by rw [hr]; rfl)
    · rw [drop_end (by omega)] at hr
      repeat' (first | refine sK ?_ | refine sC (fun _ => ?_) (fun _ => ?_) | fail)
      exact retq rfl (by rw [hr]; rfl)

theorem rem_in {n m : Int} (hm : 0 < m) (h0 : 0 ≤ n) : 0 ≤ n.tmod m ∧ n.tmod m < m := by
  rw [Int.tmod_eq_emod_of_nonneg h0]; exact ⟨Int.emod_nonneg _ (by omega), Int.emod_lt_of_pos _ hm⟩
theorem rem5000 (n : Int) : -5000 < n.tmod 5000 ∧ n.tmod 5000 < 5000 := by
  by_cases hn : 0 ≤ n
  · have := rem_in (m := 5000) (by decide) hn; omega
  · have h : n.tmod 5000 = -((-n) % 5000) := by rw [← Int.tmod_eq_emod_of_nonneg (show 0 ≤ -n by omega), Int.neg_tmod, Int.neg_neg]
    omega
set_option maxHeartbeats 4000000 in
theorem HeapFull_call (a : Int) (ha0 : 0 ≤ a) (ha1 : a ≤ 65535) (l : List Ac) : ACall Tryz.prog 12 [.base (.int .u16 a), acts l] (pb true) := by
  have c1 := long20_call l
  refine acall_intro tbOK Tryz.func12 rfl (by kernel_rfl) Tryz.ntmps12 (by simp) _ rfl (fun hw gB hgB => ?_)
  cases hlg : longA l
  · rw [hlg] at c1
    have hl40 : l.length ≤ 40 := by
      rw [longA, Bool.or_eq_false_iff] at hlg
      have := hlg.1; simp at this; omega
    obtain ⟨w', hw'⟩ : ∃ x, (IntKind.i64.wrap a).tmod 4097 = x := ⟨_, rfl⟩
    obtain ⟨hw0, hw1⟩ := rem_in (n := a) (m := 4097) (by decide) ha0
    rw [wrap_in (by omega) (by omega)] at hw'
    rw [hw'] at hw0 hw1
    have hwx : (IntKind.i64.wrap a).tmod 4097 = w' := by rw [wrap_in (by omega) (by omega)]; exact hw'
    obtain ⟨w, rfl⟩ : ∃ w : Nat, w' = (w : Int) := ⟨w'.toNat, by omega⟩
    have cN := fun (_ : Nat → Value) => New_call (w : Int) hw0 (by omega)
    have hl0 := ws0_len (w : Int) 7
    have hl0' : (ws0 (w : Int) 7).length = 16392 + w := by rw [hl0]; omega
    generalize ws0 (w : Int) 7 = W at cN hl0'
    repeat' (first | refine ao_q rfl (q_rem (w : Int) tbOK rfl rfl rfl (by decide) hwx) rfl rfl ?_ | refine ao_tells 20 img0_tells rfl ?_ | (refine shC ?_; first | refine qC wakes20_call ?_ | refine qC c1 ?_) | (refine ao_sh_call ?_; first | refine ao_callM [] (memH W (8 + (w : Int)) 0) [] [(1, .pv (acts l)), (5, .pv (pi w))] [] noLoneH rfl rfl rfl (by repeat (first | exact hsub_nil | refine hsub_cons rfl ?_)) tS rfl rfl rfl cN ?_) | refine sK ?_ | refine sC (fun _ => ?_) (fun _ => ?_) | fail)
    refine aw_loop (fun s : Nat × List Int × Nat => [(5, .pv (pi w)), (6, .box 0 0), (23, .pv (acts l)), (24, .pv (pi l.length)), (25, .pv (pi s.1))]) (fun s => memH s.2.1 (8 + (w : Int)) s.2.2)
      (fun s => s.1 ≤ l.length ∧ s.2.1.length = 16392 + w ∧ s.2.2 ≤ w) (fun s => l.length - s.1) (0, W, 0) ⟨by simp, hl0', by simp⟩ (by repeat (first | exact sub_nil | refine sub_cons rfl ?_ | (refine sub_i rfl ?_ ?_; · simp))) ⟨by repeat (first | exact hsub_nil | refine hsub_cons rfl ?_), rfl⟩ ?_
    rintro ⟨k, ws, u⟩ ⟨hk, hws, hu⟩
    simp only at hk hws hu
    by_cases hlt : k < l.length
    · have he := map_get (f := acPV) hlt
      obtain ⟨n, hn⟩ : ∃ n, l[k].n.tmod 5000 = n := ⟨_, rfl⟩
      have hn5 := rem5000 l[k].n
      rw [hn] at hn5
      have hsum : IntKind.i64.wrap (n + 2) = n + 2 := wrap_in (by omega) (by omega)
      have hdif : IntKind.i64.wrap ((w : Int) - (u : Int)) = (w : Int) - u := wrap_in (by omega) (by omega)
      by_cases hroom : 0 ≤ n ∧ n ≤ 4096 ∧ u + 2 + n.toNat ≤ w
      · obtain ⟨r0, r1, r2⟩ := hroom
        have cA := fun us => Array_call ws w u 3 n (.inr rfl) (by omega) r0 r1 r2 hws us
        have hV : (arrW ws u 3 n).length = 16392 + w := by rw [arrW, makeW_len (by simp; omega), hws]
        have d0 : decide (0 ≤ n) = true := decide_eq_true r0
        have d1 : decide (n ≤ 4096) = true := decide_eq_true r1
        have d2 : decide (IntKind.i64.wrap (n + 2) ≤ IntKind.i64.wrap ((w : Int) - (u : Int))) = true := decide_eq_true (by rw [hsum, hdif]; omega)
        have d3 : ((((8 + u : Nat) : Int)) != 0) = true := by rw [bne_iff_ne]; omega
        have d6 : (!((((8 + u : Nat) : Int) != 0) == decide (IntKind.i64.wrap (n + 2) ≤ IntKind.i64.wrap ((w : Int) - (u : Int))))) = false := by rw [d3, d2]; rfl
        have d4 : ((((u + 1 + 1 + n.toNat : Nat) : Int)) != IntKind.i64.wrap (IntKind.i64.wrap ((u : Int) + n) + 2)) = false := by
          rw [wrap_in (a := (u : Int) + n) (by omega) (by omega), wrap_in (by omega) (by omega), bne_eq_false_iff_eq]; omega
        repeat' (first | refine ao_q rfl (q_rem n tbOK rfl rfl rfl (by decide) hn) rfl rfl ?_ | refine ao_q (r := .pv (pi u)) rfl (q_callO (args := fun ρ => [.ptr (memPV ws (ρ 8) (8 + (w : Int)) u) 0]) rfl (fun _ => rfl) (fun ρ => Used_call ws (ρ 8) (8 + (w : Int)) u)) rfl rfl ?_ | refine ao_q (r := .pv (pi ((u + 1 + 1 + n.toNat : Nat) : Int))) rfl (q_callO (args := fun ρ => [.ptr (memPV (arrW ws u 3 n) (ρ 8) (8 + (w : Int)) ((u + 1 + 1 + n.toNat : Nat) : Int)) 0]) rfl (fun _ => rfl) (fun ρ => Used_call (arrW ws u 3 n) (ρ 8) (8 + (w : Int)) ((u + 1 + 1 + n.toNat : Nat) : Int))) rfl rfl ?_ | (refine shX ?_; first | refine qX he ?_) | (refine ao_sh_call ?_; first | refine ao_callM (memH ws (8 + (w : Int)) u) (memH (arrW ws u 3 n) (8 + (w : Int)) ((u + 1 + 1 + n.toNat : Nat) : Int)) [] [(5, .pv (pi w)), (6, .box 0 0), (9, .pv (pi n)), (10, .pv (pi u)), (23, .pv (acts l)), (24, .pv (pi l.length)), (25, .pv (pi k))] [0] noLoneH rfl rfl rfl (by repeat (first | exact hsub_nil | refine hsub_cons rfl ?_)) tS rfl rfl rfl cA ?_) | refine sK ?_ | refine sC (fun _ => ?_) (fun _ => ?_) | fail)
        exact ⟨(k + 1, arrW ws u 3 n, u + 1 + 1 + n.toNat), ⟨hlt, hV, by simp only; omega⟩, tD, tS, ⟨by repeat (first | exact hsub_nil | refine hsub_cons rfl ?_), rfl⟩⟩
      · have cA := fun us => ArrayNo_call ws w u 3 n (.inr rfl) (by omega) hu (by omega) us
        have d5 : ((u : Int) != (u : Int)) = false := by simp
        by_cases h0 : 0 ≤ n
        · have d0 : decide (0 ≤ n) = true := decide_eq_true h0
          by_cases h1 : n ≤ 4096
          · have d1 : decide (n ≤ 4096) = true := decide_eq_true h1
            have d2 : decide (IntKind.i64.wrap (n + 2) ≤ IntKind.i64.wrap ((w : Int) - (u : Int))) = false := decide_eq_false (by rw [hsum, hdif]; omega)
            have d6 : (!(((0 : Int) != 0) == decide (IntKind.i64.wrap (n + 2) ≤ IntKind.i64.wrap ((w : Int) - (u : Int))))) = false := by rw [d2]; rfl
            repeat' (first | refine ao_q rfl (q_rem n tbOK rfl rfl rfl (by decide) hn) rfl rfl ?_ | refine ao_q (r := .pv (pi u)) rfl (q_callO (args := fun ρ => [.ptr (memPV ws (ρ 8) (8 + (w : Int)) u) 0]) rfl (fun _ => rfl) (fun ρ => Used_call ws (ρ 8) (8 + (w : Int)) u)) rfl rfl ?_ | (refine shX ?_; first | refine qX he ?_) | (refine ao_sh_call ?_; first | refine ao_callM (memH ws (8 + (w : Int)) u) (memH ws (8 + (w : Int)) u) [] [(5, .pv (pi w)), (6, .box 0 0), (9, .pv (pi n)), (10, .pv (pi u)), (23, .pv (acts l)), (24, .pv (pi l.length)), (25, .pv (pi k))] [0] noLoneH rfl rfl rfl (by repeat (first | exact hsub_nil | refine hsub_cons rfl ?_)) tS rfl rfl rfl cA ?_) | refine sK ?_ | refine sC (fun _ => ?_) (fun _ => ?_) | fail)
            exact ⟨(k + 1, ws, u), ⟨hlt, hws, hu⟩, tD, tS, ⟨by repeat (first | exact hsub_nil | refine hsub_cons rfl ?_), rfl⟩⟩
          · have d1 : decide (n ≤ 4096) = false := decide_eq_false h1
            repeat' (first | refine ao_q rfl (q_rem n tbOK rfl rfl rfl (by decide) hn) rfl rfl ?_ | refine ao_q (r := .pv (pi u)) rfl (q_callO (args := fun ρ => [.ptr (memPV ws (ρ 8) (8 + (w : Int)) u) 0]) rfl (fun _ => rfl) (fun ρ => Used_call ws (ρ 8) (8 + (w : Int)) u)) rfl rfl ?_ | (refine shX ?_; first | refine qX he ?_) | (refine ao_sh_call ?_; first | refine ao_callM (memH ws (8 + (w : Int)) u) (memH ws (8 + (w : Int)) u) [] [(5, .pv (pi w)), (6, .box 0 0), (9, .pv (pi n)), (10, .pv (pi u)), (23, .pv (acts l)), (24, .pv (pi l.length)), (25, .pv (pi k))] [0] noLoneH rfl rfl rfl (by repeat (first | exact hsub_nil | refine hsub_cons rfl ?_)) tS rfl rfl rfl cA ?_) | refine sK ?_ | refine sC (fun _ => ?_) (fun _ => ?_) | fail)
            exact ⟨(k + 1, ws, u), ⟨hlt, hws, hu⟩, tD, tS, ⟨by repeat (first | exact hsub_nil | refine hsub_cons rfl ?_), rfl⟩⟩
        · have d0 : decide (0 ≤ n) = false := decide_eq_false h0
          repeat' (first | refine ao_q rfl (q_rem n tbOK rfl rfl rfl (by decide) hn) rfl rfl ?_ | refine ao_q (r := .pv (pi u)) rfl (q_callO (args := fun ρ => [.ptr (memPV ws (ρ 8) (8 + (w : Int)) u) 0]) rfl (fun _ => rfl) (fun ρ => Used_call ws (ρ 8) (8 + (w : Int)) u)) rfl rfl ?_ | (refine shX ?_; first | refine qX he ?_) | (refine ao_sh_call ?_; first | refine ao_callM (memH ws (8 + (w : Int)) u) (memH ws (8 + (w : Int)) u) [] [(5, .pv (pi w)), (6, .box 0 0), (9, .pv (pi n)), (10, .pv (pi u)), (23, .pv (acts l)), (24, .pv (pi l.length)), (25, .pv (pi k))] [0] noLoneH rfl rfl rfl (by repeat (first | exact hsub_nil | refine hsub_cons rfl ?_)) tS rfl rfl rfl cA ?_) | refine sK ?_ | refine sC (fun _ => ?_) (fun _ => ?_) | fail)
          exact ⟨(k + 1, ws, u), ⟨hlt, hws, hu⟩, tD, tS, ⟨by repeat (first | exact hsub_nil | refine hsub_cons rfl ?_), rfl⟩⟩
    · have d0 : decide ((u : Int) ≤ (w : Int)) = true := decide_eq_true (by omega)
      repeat' (first | refine ao_q (r := .pv (pi u)) rfl (q_callO (args := fun ρ => [.ptr (memPV ws (ρ 8) (8 + (w : Int)) u) 0]) rfl (fun _ => rfl) (fun ρ => Used_call ws (ρ 8) (8 + (w : Int)) u)) rfl rfl ?_ | refine sK ?_ | refine sC (fun _ => ?_) (fun _ => ?_) | fail)
      exact retq rfl (by show pb _ = pb true; rw [d0])
  · rw [hlg] at c1
    repeat' (first | (refine shC ?_; first | refine qC wakes20_call ?_ | refine qC c1 ?_) | refine sK ?_ | refine sC (fun _ => ?_) (fun _ => ?_) | fail)
    exact retq rfl rfl
end Go.Cg
namespace Go.Cg
open Go.RowKit Go.Proofs
def okU64 (n : Int) : Prop := (Lit.int .u64 n).wf = true
def okU16 (n : Int) : Prop := (Lit.int .u16 n).wf = true
def okAc (c : Ac) : Prop := okI64 c.kind ∧ okI64 c.n ∧ okTy c.t ∧ okU64 c.a ∧ okU64 c.x ∧ ∀ n ∈ c.l, okU64 n
def okAcs (l : List Ac) : Prop := ∀ c ∈ l, okAc c
theorem okU64_in {n : Int} (h : okU64 n) : 0 ≤ n ∧ n ≤ 18446744073709551615 := by
  simp [okU64, Lit.wf, IntKind.min, IntKind.max, IntKind.bits, IntKind.signed] at h; omega
theorem okU16_in {n : Int} (h : okU16 n) : 0 ≤ n ∧ n ≤ 65535 := by
  simp [okU16, Lit.wf, IntKind.min, IntKind.max, IntKind.bits, IntKind.signed] at h; omega
section
variable {H : Type} {enc : TypeId × Value → H} {w : World}
theorem rdU64 : Rd enc Tryz.prog w 72 1 (fun ps => ∃ n, okU64 n ∧ ps = [.base (.int .u64 n)]) := rd_int Tryz.underlying72 (by kernel_rfl)
theorem rdU16 : Rd enc Tryz.prog w 67 1 (fun ps => ∃ n, okU16 n ∧ ps = [.base (.int .u16 n)]) := rd_int Tryz.underlying67 (by kernel_rfl)
theorem rdU64s : Rd enc Tryz.prog w 73 1 (fun ps => ∃ l : List Int, (∀ n ∈ l, okU64 n) ∧ ps = [.slc 1 (l.map u64) false]) :=
  rd_slice (f := u64) Tryz.underlying73 (by kernel_rfl) (by decide) rdU64
theorem rdAct : Rd enc Tryz.prog w 75 9 (fun ps => ∃ c : Ac, okAc c ∧ ps = (acPV c).cells) := by
  refine (rd_struct Tryz.underlying75 (by kernel_rfl) (fits_cons rfl rdI64 (fits_cons rfl rdI64 (fits_cons rfl rdTy (fits_cons rfl rdU64 (fits_cons rfl rdU64 (fits_cons rfl rdU64s fits_nil))))))).mono ?_
  rintro _ ⟨_, _, ⟨a, ha, rfl⟩, ⟨_, _, ⟨b, hb, rfl⟩, ⟨_, _, ⟨c, hc, rfl⟩, ⟨_, _, ⟨d, hd, rfl⟩, ⟨_, _, ⟨e, he, rfl⟩, ⟨_, _, ⟨f, hf, rfl⟩, rfl, rfl⟩, rfl⟩, rfl⟩, rfl⟩, rfl⟩, rfl⟩
  exact ⟨⟨a, b, c, d, e, f⟩, ⟨ha, hb, hc, hd, he, hf⟩, rfl⟩
theorem rdActs : Rd enc Tryz.prog w 68 1 (fun ps => ∃ l : List Ac, okAcs l ∧ ps = [acts l]) := rd_slice (f := acPV) Tryz.underlying68 (by kernel_rfl) (by decide) rdAct
end
theorem okTy_in {t : Ty} (h : okTy t) : (-9223372036854775808 ≤ t.kind ∧ t.kind ≤ 9223372036854775807) ∧ (-9223372036854775808 ≤ t.index ∧ t.index ≤ 9223372036854775807) ∧ (-9223372036854775808 ≤ t.dims ∧ t.dims ≤ 9223372036854775807) := by
  simp [okTy, Lit.wf, IntKind.min, IntKind.max, IntKind.bits, IntKind.signed] at h; omega
end Go.Cg
