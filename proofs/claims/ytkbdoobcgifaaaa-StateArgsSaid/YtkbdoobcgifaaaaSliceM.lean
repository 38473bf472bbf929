/- A part of the walks by abstract values: no statement of its own. -/
import Derived.Test.YtkbdoobcgifaaaaData
namespace Go.Cg
theorem q_slice_map {α : Type} {P : Program} {tb : Tab} {g : Base} {H : HEnv} {env : Env} {o : Oper} {f : α → PV} {xs : List α} {t e : TypeId} {x : Operand} {lo hi : Option Operand} {sz : Nat} {full : Bool} (l h : Nat) (htb : TabOK P tb) (hop : o.op = .slice t x lo hi none) (hk : tb.k t = .sl e) (hke : tb.known e = true) (hsz : tb.size e = sz) (hx : env.pv H x = some (.slc sz (xs.map f) full))
    (hlo : boundE env H 0 lo = some (l : Int)) (hhi : boundE env H (xs.map f).length hi = some (h : Int)) (h1 : l ≤ h) (h2 : h ≤ xs.length) : QStep P g H o env (.pv (.slc sz (((xs.take h).drop l).map f) false)) := by
  have := q_slice (g := g) htb hop hk hke hsz hx hlo hhi (by omega) (by omega) (by simp; omega)
  simpa [List.map_take, List.map_drop] using this

theorem q_int {P : Program} {tb : Tab} {g : Base} {H : HEnv} {env : Env} {o : Oper} {x : Int} (htb : TabOK P tb) (h : opE tb H env o = some (.pv (.base (.int .i64 (IntKind.i64.wrap x))))) (h1 : -9223372036854775808 ≤ x) (h2 : x ≤ 9223372036854775807) : QStep P g H o env (.pv (.base (.int .i64 x))) := by
  rw [wrap_in h1 h2] at h
  exact opE_sound htb h
end Go.Cg
