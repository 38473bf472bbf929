/- Elements of arrays. -/
import Derived.Test.YtkbdoobcgifaaaaG4
namespace Go.Cg
open Go.RowKit
section
variable {P : Program} {tb : Tab} {g : Base} {H : HEnv} {env : Env} {o : Oper}

/-- 'a[i]' of an array's value. -/
theorem q_aindex {t e len : Nat} {x i : Operand} {cs : List PV} {k : IntKind} {m : Int} {p : PV} (j : Nat) (htb : TabOK P tb) (hop : o.op = .index t x i) (hk : tb.k t = .arr len e) (hke : tb.known e = true)
    (hx : env.pv H x = some (.agg cs)) (hi : env.pv H i = some (.base (.int k m))) (hm : m = (j : Int)) (hj : Nat.blt j len = true) (hp : partE tb e cs (j * tb.size e) = some p) : QStep P g H o env (.pv p) := by
  subst hm
  refine ⟨fun K ρ a w hf hv => ?_⟩
  have hxr := opE_pv hf (hv x (by rw [hop]; simp [Op.operands])) hx
  have hir := opE_pv hf (hv i (by rw [hop]; simp [Op.operands])) hi
  generalize hxv : a.eval x = xv at hxr
  generalize hiv : a.eval i = iv at hir
  cases hir
  have hlt : j < len := Nat.le_of_ble_eq_true hj
  have hko : tb.k e ≠ .oth := by intro h; simp [Tab.known, h] at hke
  cases hxr with
  | agg _ vs h1 ho h2 =>
    obtain ⟨v, h3, h4⟩ := run_part htb (P := P) ⟨h1, h2⟩ ho hp w
    have hs := run_sizeOf htb hko w
    have : (execOp a.eval o).run P w = .ok (.value v) w := by
      simp [execOp, hop, hxv, hiv, Instr.index, asIntOf, run_underlying (tab_arr htb hk), hs, h3, hlt]
    rw [this]
    exact qval hf (.pv _ _ h4)

/-- '&a[i]' of an array that is pointed to. -/
theorem q_aindexAddr {t e len off : Nat} {x i : Operand} {p : PV} {k : IntKind} {m : Int} (j : Nat) (htb : TabOK P tb) (hop : o.op = .indexAddr t x i) (hk : tb.k t = .arr len e) (hke : tb.known e = true)
    (hx : env.val x = some (.pv (.ptr p off))) (hi : env.pv H i = some (.base (.int k m))) (hm : m = (j : Int)) (hj : Nat.blt j len = true) : QStep P g H o env (.pv (.ptr p (off + j * tb.size e))) := by
  subst hm
  refine ⟨fun K ρ a w hf hv => ?_⟩
  have hxr := hv x (by rw [hop]; simp [Op.operands]) _ hx
  have hir := opE_pv hf (hv i (by rw [hop]; simp [Op.operands])) hi
  generalize hxv : a.eval x = xv at hxr
  generalize hiv : a.eval i = iv at hir
  cases hir
  have hlt : j < len := Nat.le_of_ble_eq_true hj
  have hko : tb.k e ≠ .oth := by intro h; simp [Tab.known, h] at hke
  have hs := run_sizeOf htb hko w
  cases hxr with
  | pv _ _ hp =>
    cases hp with
    | ptr _ _ b o' vs h1 h2 h3 =>
      have : (execOp a.eval o).run P w = .ok (.value (.pointer (some ⟨b, o' + (off + j * tb.size e), none⟩))) w := by
        simp [execOp, hop, hxv, hiv, Instr.indexAt, asIntOf, run_underlying (tab_arr htb hk), hs, hlt, Instr.sureAddr, Addr.add_lit, Nat.add_assoc]
      rw [this]
      exact qval hf (.pv _ _ (.ptr p _ b o' vs h1 h2 h3))
end
end Go.Cg
