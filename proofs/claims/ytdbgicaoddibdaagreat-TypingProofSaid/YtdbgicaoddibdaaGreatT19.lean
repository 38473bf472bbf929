/- A part of the walks by abstract values: no statement of its own. -/
import Derived.Test.YtdbgicaoddibdaaGreatT16
import Derived.Test.YtdbgicaoddibdaaGreatT6
import Derived.Test.YtdbgicaoddibdaaGreatT15
set_option linter.unusedVariables false
set_option linter.unusedSimpArgs false
namespace Go.Cg
theorem sM {Q P:Prop} (k:Q) (h:Q→P:=by
  intro k;first
  | exact zy rfl (ztp zf rfl rfl rfl rfl) rfl rfl k
  | exact zy rfl (zqH rfl rfl) rfl rfl k
  | exact zy rfl (zqQ zf rfl rfl ⟨_,rfl⟩ rfl rfl) rfl rfl k
  | exact zq rfl (ztp zf rfl rfl rfl rfl) rfl rfl k
  | exact zq rfl (zqH rfl rfl) rfl rfl k
  | exact zq rfl (zqQ zf rfl rfl ⟨_,rfl⟩ rfl rfl) rfl rfl k
  | fail):P:=h k
end Go.Cg
