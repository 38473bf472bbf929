/- A part of the walks by abstract values: no statement of its own. -/
import Derived.Test.YtkbdoobcgifaaaaGreatTab
import Derived.Test.YtkbdoobcgifaaaaGreatG4
import Derived.Shelf.RegionOpenPlain
import Derived.WalkKit
import Derived.Lib.Walk
import Derived.Lib.SliceRun
import Derived.Lib.AppendZerosOnto
set_option linter.unusedVariables false
set_option linter.unusedSimpArgs false
namespace Go.Cg
open Go.Proofs Go.Shelf Go.RowKit Go.Lib

theorem info28 : ∃ i, Tryz.prog.info? 44 = some i ∧ i.zero = some (.agg #[.int .i64 0, .int .i64 0, .int .i64 0, .bool false]) ∧ i.size = 4 ∧ i.bytes = 32 := by
  obtain ⟨i, h1, h2, h3, h4, _⟩ := tab_info (t := 44) tbOK rfl
  exact ⟨i, h1, h4, h2, h3⟩
def zTy : Value := .agg #[.int .i64 0, .int .i64 0, .int .i64 0, .bool false]
-- left out here: function slices.Grow[[]cattlegrid/api.Type,cattlegrid/api.Type]
-- left out here: function slices.Grow[[]cattlegrid/api.Type,cattlegrid/api.Type]
-- left out here: function slices.Grow[[]cattlegrid/api.Type,cattlegrid/api.Type]
end Go.Cg
