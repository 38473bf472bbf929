/- A part of the walks by abstract values: no statement of its own. -/
import Derived.Test.YtemhfmmhkimhmaaGreatI25
import Derived.Test.YtemhfmmhkimhmaaGreatI26
set_option linter.unusedVariables false
set_option linter.unusedSimpArgs false
namespace Go.Cg
open Go.Proofs
theorem Wl.extk {g:Img} (hW:Wl g) {t:Int} {td:TD} (h:typeAt g t=some td):td.ext = -1\/zW g td.ext=0:=by
 have hh:=hW.hang t td h;simp only [QI,Bool.and_eq_true,WH,Bool.or_eq_true,Bool.not_eq_true',decide_eq_false_iff_not,beq_iff_eq,decide_eq_true_eq] at hh;obtain ⟨⟨h1,_⟩,_⟩:=hh;have:=hW.ext t td h;rcases h1 with h1|h1
 ·exact .inl zwy62
 ·exact .inr h1.1.1
end Go.Cg
