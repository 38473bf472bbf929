/-
  No cell of these rows narrows 'for every input' (looked for: loops, veiled, ifaces, maps, wideKeys, modest, calm, conditions, laid).
  DERIVED. THE GIVEN ROWS OF THIS SEAT. 10 by the template 'for every input the law returns true; each argument reads behind the call as it read before'; 0 by the template 'total and deterministic' (their statements: YthekdpbplmigeaaGreatTotals.lean).
  GIVEN WITH THE SEED: the statements are not yours to turn. If you find one false, say at which input.
  Laid BY PROGRAM, IN A SANDBOX (cutbox-rows.mjs): the forced cells as the released guide's own fill.sh prints them over the translation 4a9f9803a92c66d2… (all of the seat's roots in one cut). By AI agents, Wed Nov 11 2026. No macro, syntax, notation, axiom, sorry.
-/
import Derived.Test.YthekdpbplmigeaaGreatChecked
import GoSem.Claim
import GoSem.ClaimJoined
import GoSem.ClaimMapViews
import Derived.JoinedTies
import Derived.KernelRfl
namespace Go.Proofs.YthekdpbplmigeaaGreat
/- THE CELL 'sum', in the pinned program and in every row, IS THE sha256 OF THE DUMP (.gsa) THAT YthekdpbplmigeaaGreatProg.lean LOADS. Nothing in Lean hashes anything: it is a label: what it is worth is what the hold of that sum in a sandbox is worth. -/
noncomputable def Tryz.pinned : Pinned := { name := "ythekdpbplmigeaagreat", sum := "4a9f9803a92c66d2118561bdb60a2e335c62ab8c8e62b255d52f7200993fdf57", checked := Tryz.checked }
namespace Rows
def none {H : Type} : Left H := { results := [], args := [] }

/-- 'cattlegridlaw20.HeapApart': WHATEVER THE INPUT: true; the input reads as it did. -/
def heapApartSpec : ChangeSpec := { name := "heapApart", fn := fun _ => fun
  | [d1, d2] => { results := [.lit (.bool true)], args := [d1, d2] }
  | _ => none }
def heapApartRow : OpenClaim := { program := "ythekdpbplmigeaagreat", sum := "4a9f9803a92c66d2118561bdb60a2e335c62ab8c8e62b255d52f7200993fdf57", func := "cattlegrid/cattlegridlaw20.HeapApart", spec := "heapApart", unfollowed := true, recurses := true, plainKeys := false, apart := false }
def HeapApartSaid : Prop := heapApartRow.holds Tryz.pinned (OpenSpec.ofChange heapApartSpec)

/-- ITS FALSE NEIGHBOUR: 'it returns false'. Refute it at one input. -/
def heapApartWrong : ChangeSpec := { name := "heapApart", fn := fun _ => fun
  | [d1, d2] => { results := [.lit (.bool false)], args := [d1, d2] }
  | _ => none }
def HeapApartWrongFalsely : Prop := heapApartRow.holds Tryz.pinned (OpenSpec.ofChange heapApartWrong)

/-- 'cattlegridlaw21.FramesFull': WHATEVER THE INPUT: true; the input reads as it did. -/
def framesFullSpec : ChangeSpec := { name := "framesFull", fn := fun _ => fun
  | [d1, d2] => { results := [.lit (.bool true)], args := [d1, d2] }
  | _ => none }
def framesFullRow : OpenClaim := { program := "ythekdpbplmigeaagreat", sum := "4a9f9803a92c66d2118561bdb60a2e335c62ab8c8e62b255d52f7200993fdf57", func := "cattlegrid/cattlegridlaw21.FramesFull", spec := "framesFull", unfollowed := true, recurses := true, plainKeys := false, apart := false }
def FramesFullSaid : Prop := framesFullRow.holds Tryz.pinned (OpenSpec.ofChange framesFullSpec)

/-- ITS FALSE NEIGHBOUR: 'it returns false'. Refute it at one input. -/
def framesFullWrong : ChangeSpec := { name := "framesFull", fn := fun _ => fun
  | [d1, d2] => { results := [.lit (.bool false)], args := [d1, d2] }
  | _ => none }
def FramesFullWrongFalsely : Prop := framesFullRow.holds Tryz.pinned (OpenSpec.ofChange framesFullWrong)

/-- 'cattlegridlaw20.HeapActs': WHATEVER THE INPUT: true; the input reads as it did. -/
def heapActsSpec : ChangeSpec := { name := "heapActs", fn := fun _ => fun
  | [d1, d2, d3] => { results := [.lit (.bool true)], args := [d1, d2, d3] }
  | _ => none }
def heapActsRow : OpenClaim := { program := "ythekdpbplmigeaagreat", sum := "4a9f9803a92c66d2118561bdb60a2e335c62ab8c8e62b255d52f7200993fdf57", func := "cattlegrid/cattlegridlaw20.HeapActs", spec := "heapActs", unfollowed := true, recurses := true, plainKeys := false, apart := false }
def HeapActsSaid : Prop := heapActsRow.holds Tryz.pinned (OpenSpec.ofChange heapActsSpec)

/-- ITS FALSE NEIGHBOUR: 'it returns false'. Refute it at one input. -/
def heapActsWrong : ChangeSpec := { name := "heapActs", fn := fun _ => fun
  | [d1, d2, d3] => { results := [.lit (.bool false)], args := [d1, d2, d3] }
  | _ => none }
def HeapActsWrongFalsely : Prop := heapActsRow.holds Tryz.pinned (OpenSpec.ofChange heapActsWrong)

/-- 'cattlegridlaw21.FramesActs': WHATEVER THE INPUT: true; the input reads as it did. -/
def framesActsSpec : ChangeSpec := { name := "framesActs", fn := fun _ => fun
  | [d1, d2] => { results := [.lit (.bool true)], args := [d1, d2] }
  | _ => none }
def framesActsRow : OpenClaim := { program := "ythekdpbplmigeaagreat", sum := "4a9f9803a92c66d2118561bdb60a2e335c62ab8c8e62b255d52f7200993fdf57", func := "cattlegrid/cattlegridlaw21.FramesActs", spec := "framesActs", unfollowed := true, recurses := true, plainKeys := false, apart := false }
def FramesActsSaid : Prop := framesActsRow.holds Tryz.pinned (OpenSpec.ofChange framesActsSpec)

/-- ITS FALSE NEIGHBOUR: 'it returns false'. Refute it at one input. -/
def framesActsWrong : ChangeSpec := { name := "framesActs", fn := fun _ => fun
  | [d1, d2] => { results := [.lit (.bool false)], args := [d1, d2] }
  | _ => none }
def FramesActsWrongFalsely : Prop := framesActsRow.holds Tryz.pinned (OpenSpec.ofChange framesActsWrong)

/-- 'cattlegridlaw21.FramesBack': WHATEVER THE INPUT: true; the input reads as it did. -/
def framesBackSpec : ChangeSpec := { name := "framesBack", fn := fun _ => fun
  | [d1, d2] => { results := [.lit (.bool true)], args := [d1, d2] }
  | _ => none }
def framesBackRow : OpenClaim := { program := "ythekdpbplmigeaagreat", sum := "4a9f9803a92c66d2118561bdb60a2e335c62ab8c8e62b255d52f7200993fdf57", func := "cattlegrid/cattlegridlaw21.FramesBack", spec := "framesBack", unfollowed := true, recurses := true, plainKeys := false, apart := false }
def FramesBackSaid : Prop := framesBackRow.holds Tryz.pinned (OpenSpec.ofChange framesBackSpec)

/-- ITS FALSE NEIGHBOUR: 'it returns false'. Refute it at one input. -/
def framesBackWrong : ChangeSpec := { name := "framesBack", fn := fun _ => fun
  | [d1, d2] => { results := [.lit (.bool false)], args := [d1, d2] }
  | _ => none }
def FramesBackWrongFalsely : Prop := framesBackRow.holds Tryz.pinned (OpenSpec.ofChange framesBackWrong)

/-- 'cattlegridlaw21.FramesNil': WHATEVER THE INPUT: true; the input reads as it did. -/
def framesNilSpec : ChangeSpec := { name := "framesNil", fn := fun _ => fun
  | [d1, d2] => { results := [.lit (.bool true)], args := [d1, d2] }
  | _ => none }
def framesNilRow : OpenClaim := { program := "ythekdpbplmigeaagreat", sum := "4a9f9803a92c66d2118561bdb60a2e335c62ab8c8e62b255d52f7200993fdf57", func := "cattlegrid/cattlegridlaw21.FramesNil", spec := "framesNil", unfollowed := true, recurses := true, plainKeys := false, apart := false }
def FramesNilSaid : Prop := framesNilRow.holds Tryz.pinned (OpenSpec.ofChange framesNilSpec)

/-- ITS FALSE NEIGHBOUR: 'it returns false'. Refute it at one input. -/
def framesNilWrong : ChangeSpec := { name := "framesNil", fn := fun _ => fun
  | [d1, d2] => { results := [.lit (.bool false)], args := [d1, d2] }
  | _ => none }
def FramesNilWrongFalsely : Prop := framesNilRow.holds Tryz.pinned (OpenSpec.ofChange framesNilWrong)

/-- 'cattlegridlaw21.FramesShape': WHATEVER THE INPUT: true; the input reads as it did. -/
def framesShapeSpec : ChangeSpec := { name := "framesShape", fn := fun _ => fun
  | [d1, d2] => { results := [.lit (.bool true)], args := [d1, d2] }
  | _ => none }
def framesShapeRow : OpenClaim := { program := "ythekdpbplmigeaagreat", sum := "4a9f9803a92c66d2118561bdb60a2e335c62ab8c8e62b255d52f7200993fdf57", func := "cattlegrid/cattlegridlaw21.FramesShape", spec := "framesShape", unfollowed := true, recurses := true, plainKeys := false, apart := false }
def FramesShapeSaid : Prop := framesShapeRow.holds Tryz.pinned (OpenSpec.ofChange framesShapeSpec)

/-- ITS FALSE NEIGHBOUR: 'it returns false'. Refute it at one input. -/
def framesShapeWrong : ChangeSpec := { name := "framesShape", fn := fun _ => fun
  | [d1, d2] => { results := [.lit (.bool false)], args := [d1, d2] }
  | _ => none }
def FramesShapeWrongFalsely : Prop := framesShapeRow.holds Tryz.pinned (OpenSpec.ofChange framesShapeWrong)

/-- 'cattlegridlaw16.StepUp': WHATEVER THE INPUT: true; the input reads as it did. -/
def stepUpSpec : ChangeSpec := { name := "stepUp", fn := fun _ => fun
  | [d1, d2, d3] => { results := [.lit (.bool true)], args := [d1, d2, d3] }
  | _ => none }
def stepUpRow : OpenClaim := { program := "ythekdpbplmigeaagreat", sum := "4a9f9803a92c66d2118561bdb60a2e335c62ab8c8e62b255d52f7200993fdf57", func := "cattlegrid/cattlegridlaw16.StepUp", spec := "stepUp", unfollowed := true, recurses := true, plainKeys := false, apart := false }
def StepUpSaid : Prop := stepUpRow.holds Tryz.pinned (OpenSpec.ofChange stepUpSpec)

/-- ITS FALSE NEIGHBOUR: 'it returns false'. Refute it at one input. -/
def stepUpWrong : ChangeSpec := { name := "stepUp", fn := fun _ => fun
  | [d1, d2, d3] => { results := [.lit (.bool false)], args := [d1, d2, d3] }
  | _ => none }
def StepUpWrongFalsely : Prop := stepUpRow.holds Tryz.pinned (OpenSpec.ofChange stepUpWrong)

/-- 'cattlegridlaw16.StepBounds': WHATEVER THE INPUT: true; the input reads as it did. -/
def stepBoundsSpec : ChangeSpec := { name := "stepBounds", fn := fun _ => fun
  | [d1, d2, d3] => { results := [.lit (.bool true)], args := [d1, d2, d3] }
  | _ => none }
def stepBoundsRow : OpenClaim := { program := "ythekdpbplmigeaagreat", sum := "4a9f9803a92c66d2118561bdb60a2e335c62ab8c8e62b255d52f7200993fdf57", func := "cattlegrid/cattlegridlaw16.StepBounds", spec := "stepBounds", unfollowed := true, recurses := true, plainKeys := false, apart := false }
def StepBoundsSaid : Prop := stepBoundsRow.holds Tryz.pinned (OpenSpec.ofChange stepBoundsSpec)

/-- ITS FALSE NEIGHBOUR: 'it returns false'. Refute it at one input. -/
def stepBoundsWrong : ChangeSpec := { name := "stepBounds", fn := fun _ => fun
  | [d1, d2, d3] => { results := [.lit (.bool false)], args := [d1, d2, d3] }
  | _ => none }
def StepBoundsWrongFalsely : Prop := stepBoundsRow.holds Tryz.pinned (OpenSpec.ofChange stepBoundsWrong)

/-- 'cattlegridlaw16.StepRest': WHATEVER THE INPUT: true; the input reads as it did. -/
def stepRestSpec : ChangeSpec := { name := "stepRest", fn := fun _ => fun
  | [d1, d2, d3] => { results := [.lit (.bool true)], args := [d1, d2, d3] }
  | _ => none }
def stepRestRow : OpenClaim := { program := "ythekdpbplmigeaagreat", sum := "4a9f9803a92c66d2118561bdb60a2e335c62ab8c8e62b255d52f7200993fdf57", func := "cattlegrid/cattlegridlaw16.StepRest", spec := "stepRest", unfollowed := true, recurses := true, plainKeys := false, apart := false }
def StepRestSaid : Prop := stepRestRow.holds Tryz.pinned (OpenSpec.ofChange stepRestSpec)

/-- ITS FALSE NEIGHBOUR: 'it returns false'. Refute it at one input. -/
def stepRestWrong : ChangeSpec := { name := "stepRest", fn := fun _ => fun
  | [d1, d2, d3] => { results := [.lit (.bool false)], args := [d1, d2, d3] }
  | _ => none }
def StepRestWrongFalsely : Prop := stepRestRow.holds Tryz.pinned (OpenSpec.ofChange stepRestWrong)

/- THE SECOND FORM. 'bulk': how many values and letters a reading holds, each counted each time it is reached (what is shared counts as often as it is met; a slice's spare places count too). A statement '..UptoSaid' is the law's where the arguments, and the package variables that the reading takes, are together of bulk at most 1048576: NARROWER than '..Said'. Prove '..Said' where nothing that the law and all that it calls make is longer than what came in: it says more and counts as full. Else prove '..UptoSaid'. A law counts once. -/
mutual
def uptoBulk {H : Type} : DataW H → Nat
  | .lit (.string bytes) => bytes.length + 1
  | .lit _ => 1
  | .nil => 1
  | .ptr d => uptoBulk d + 1
  | .slice elems spare => uptoBulkAll elems + uptoBulkAll spare + 1
  | .agg parts => uptoBulkAll parts + 1
  | .iface _ d => uptoBulk d + 1
  | .map entries => uptoBulkEntries entries + 1
  | .held _ => 1
def uptoBulkAll {H : Type} : List (DataW H) → Nat
  | [] => 0
  | d :: r => uptoBulk d + uptoBulkAll r
def uptoBulkEntries {H : Type} : List (Lit × DataW H) → Nat
  | [] => 0
  | x :: r => uptoBulkEntry x + uptoBulkEntries r
def uptoBulkEntry {H : Type} : Lit × DataW H → Nat
  | (.string bytes, d) => bytes.length + uptoBulk d + 1
  | (_, d) => uptoBulk d + 1
 end
def uptoSmall : (H : Type) → List (DataW H) → Bool := fun _ ds => decide (uptoBulkAll ds ≤ 1048576)
def OpenSpec.upto (s : _root_.Go.ChangeSpec) : _root_.Go.OpenSpec := { _root_.Go.OpenSpec.ofChange s with cond := some uptoSmall }

/-- 'cattlegridlaw20.HeapApart', WHERE WHAT IT READS IS OF BULK AT MOST 1048576: true; the input reads as it did. -/
def heapApartUptoRow : OpenClaim := { program := "ythekdpbplmigeaagreat", sum := "4a9f9803a92c66d2118561bdb60a2e335c62ab8c8e62b255d52f7200993fdf57", func := "cattlegrid/cattlegridlaw20.HeapApart", spec := "heapApart", unfollowed := true, recurses := true, plainKeys := false, apart := false, narrowed := true }
def HeapApartUptoSaid : Prop := heapApartUptoRow.holds Tryz.pinned (OpenSpec.upto heapApartSpec)

/-- 'cattlegridlaw21.FramesFull', WHERE WHAT IT READS IS OF BULK AT MOST 1048576: true; the input reads as it did. -/
def framesFullUptoRow : OpenClaim := { program := "ythekdpbplmigeaagreat", sum := "4a9f9803a92c66d2118561bdb60a2e335c62ab8c8e62b255d52f7200993fdf57", func := "cattlegrid/cattlegridlaw21.FramesFull", spec := "framesFull", unfollowed := true, recurses := true, plainKeys := false, apart := false, narrowed := true }
def FramesFullUptoSaid : Prop := framesFullUptoRow.holds Tryz.pinned (OpenSpec.upto framesFullSpec)

/-- 'cattlegridlaw20.HeapActs', WHERE WHAT IT READS IS OF BULK AT MOST 1048576: true; the input reads as it did. -/
def heapActsUptoRow : OpenClaim := { program := "ythekdpbplmigeaagreat", sum := "4a9f9803a92c66d2118561bdb60a2e335c62ab8c8e62b255d52f7200993fdf57", func := "cattlegrid/cattlegridlaw20.HeapActs", spec := "heapActs", unfollowed := true, recurses := true, plainKeys := false, apart := false, narrowed := true }
def HeapActsUptoSaid : Prop := heapActsUptoRow.holds Tryz.pinned (OpenSpec.upto heapActsSpec)

/-- 'cattlegridlaw21.FramesActs', WHERE WHAT IT READS IS OF BULK AT MOST 1048576: true; the input reads as it did. -/
def framesActsUptoRow : OpenClaim := { program := "ythekdpbplmigeaagreat", sum := "4a9f9803a92c66d2118561bdb60a2e335c62ab8c8e62b255d52f7200993fdf57", func := "cattlegrid/cattlegridlaw21.FramesActs", spec := "framesActs", unfollowed := true, recurses := true, plainKeys := false, apart := false, narrowed := true }
def FramesActsUptoSaid : Prop := framesActsUptoRow.holds Tryz.pinned (OpenSpec.upto framesActsSpec)

/-- 'cattlegridlaw21.FramesBack', WHERE WHAT IT READS IS OF BULK AT MOST 1048576: true; the input reads as it did. -/
def framesBackUptoRow : OpenClaim := { program := "ythekdpbplmigeaagreat", sum := "4a9f9803a92c66d2118561bdb60a2e335c62ab8c8e62b255d52f7200993fdf57", func := "cattlegrid/cattlegridlaw21.FramesBack", spec := "framesBack", unfollowed := true, recurses := true, plainKeys := false, apart := false, narrowed := true }
def FramesBackUptoSaid : Prop := framesBackUptoRow.holds Tryz.pinned (OpenSpec.upto framesBackSpec)

/-- 'cattlegridlaw21.FramesNil', WHERE WHAT IT READS IS OF BULK AT MOST 1048576: true; the input reads as it did. -/
def framesNilUptoRow : OpenClaim := { program := "ythekdpbplmigeaagreat", sum := "4a9f9803a92c66d2118561bdb60a2e335c62ab8c8e62b255d52f7200993fdf57", func := "cattlegrid/cattlegridlaw21.FramesNil", spec := "framesNil", unfollowed := true, recurses := true, plainKeys := false, apart := false, narrowed := true }
def FramesNilUptoSaid : Prop := framesNilUptoRow.holds Tryz.pinned (OpenSpec.upto framesNilSpec)

/-- 'cattlegridlaw21.FramesShape', WHERE WHAT IT READS IS OF BULK AT MOST 1048576: true; the input reads as it did. -/
def framesShapeUptoRow : OpenClaim := { program := "ythekdpbplmigeaagreat", sum := "4a9f9803a92c66d2118561bdb60a2e335c62ab8c8e62b255d52f7200993fdf57", func := "cattlegrid/cattlegridlaw21.FramesShape", spec := "framesShape", unfollowed := true, recurses := true, plainKeys := false, apart := false, narrowed := true }
def FramesShapeUptoSaid : Prop := framesShapeUptoRow.holds Tryz.pinned (OpenSpec.upto framesShapeSpec)

/-- 'cattlegridlaw16.StepUp', WHERE WHAT IT READS IS OF BULK AT MOST 1048576: true; the input reads as it did. -/
def stepUpUptoRow : OpenClaim := { program := "ythekdpbplmigeaagreat", sum := "4a9f9803a92c66d2118561bdb60a2e335c62ab8c8e62b255d52f7200993fdf57", func := "cattlegrid/cattlegridlaw16.StepUp", spec := "stepUp", unfollowed := true, recurses := true, plainKeys := false, apart := false, narrowed := true }
def StepUpUptoSaid : Prop := stepUpUptoRow.holds Tryz.pinned (OpenSpec.upto stepUpSpec)

/-- 'cattlegridlaw16.StepBounds', WHERE WHAT IT READS IS OF BULK AT MOST 1048576: true; the input reads as it did. -/
def stepBoundsUptoRow : OpenClaim := { program := "ythekdpbplmigeaagreat", sum := "4a9f9803a92c66d2118561bdb60a2e335c62ab8c8e62b255d52f7200993fdf57", func := "cattlegrid/cattlegridlaw16.StepBounds", spec := "stepBounds", unfollowed := true, recurses := true, plainKeys := false, apart := false, narrowed := true }
def StepBoundsUptoSaid : Prop := stepBoundsUptoRow.holds Tryz.pinned (OpenSpec.upto stepBoundsSpec)

/-- 'cattlegridlaw16.StepRest', WHERE WHAT IT READS IS OF BULK AT MOST 1048576: true; the input reads as it did. -/
def stepRestUptoRow : OpenClaim := { program := "ythekdpbplmigeaagreat", sum := "4a9f9803a92c66d2118561bdb60a2e335c62ab8c8e62b255d52f7200993fdf57", func := "cattlegrid/cattlegridlaw16.StepRest", spec := "stepRest", unfollowed := true, recurses := true, plainKeys := false, apart := false, narrowed := true }
def StepRestUptoSaid : Prop := stepRestUptoRow.holds Tryz.pinned (OpenSpec.upto stepRestSpec)

end Rows
end Go.Proofs.YthekdpbplmigeaaGreat
