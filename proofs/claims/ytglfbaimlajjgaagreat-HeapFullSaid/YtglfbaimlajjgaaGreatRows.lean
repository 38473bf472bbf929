/-
  No cell of these rows narrows 'for every input' (looked for: loops, veiled, ifaces, maps, wideKeys, modest, calm, conditions, laid).
  DERIVED. THE GIVEN ROWS OF THIS SEAT. 12 by the template 'for every input the law returns true; each argument reads behind the call as it read before'; 0 by the template 'total and deterministic' (their statements: YtglfbaimlajjgaaGreatTotals.lean).
  GIVEN WITH THE SEED: the statements are not yours to turn. If you find one false, say at which input.
  Laid BY PROGRAM, IN A SANDBOX (cutbox-rows.mjs): the forced cells as the released guide's own fill.sh prints them over the translation f183bc75751379f0… (all of the seat's roots in one cut). By AI agents, Wed Nov 11 2026. No macro, syntax, notation, axiom, sorry.
-/
import Derived.Test.YtglfbaimlajjgaaGreatChecked
import GoSem.Claim
import GoSem.ClaimJoined
import GoSem.ClaimMapViews
import Derived.JoinedTies
import Derived.KernelRfl
namespace Go.Proofs.YtglfbaimlajjgaaGreat
/- THE CELL 'sum', in the pinned program and in every row, IS THE sha256 OF THE DUMP (.gsa) THAT YtglfbaimlajjgaaGreatProg.lean LOADS. Nothing in Lean hashes anything: it is a label: what it is worth is what the hold of that sum in a sandbox is worth. -/
noncomputable def Tryz.pinned : Pinned := { name := "ytglfbaimlajjgaagreat", sum := "f183bc75751379f0120e0ac694eea9b572b37ed547c878f95043523e92ff80cb", checked := Tryz.checked }
namespace Rows
def none {H : Type} : Left H := { results := [], args := [] }

/-- 'cattlegridlaw12.LayoutCheck': WHATEVER THE INPUT: true; the input reads as it did. -/
def layoutCheckSpec : ChangeSpec := { name := "layoutCheck", fn := fun _ => fun
  | [d] => { results := [.lit (.bool true)], args := [d] }
  | _ => none }
def layoutCheckRow : OpenClaim := { program := "ytglfbaimlajjgaagreat", sum := "f183bc75751379f0120e0ac694eea9b572b37ed547c878f95043523e92ff80cb", func := "cattlegrid/cattlegridlaw12.LayoutCheck", spec := "layoutCheck", unfollowed := true, recurses := true, plainKeys := false, apart := false }
def LayoutCheckSaid : Prop := layoutCheckRow.holds Tryz.pinned (OpenSpec.ofChange layoutCheckSpec)

/-- ITS FALSE NEIGHBOUR: 'it returns false'. Refute it at one input. -/
def layoutCheckWrong : ChangeSpec := { name := "layoutCheck", fn := fun _ => fun
  | [d] => { results := [.lit (.bool false)], args := [d] }
  | _ => none }
def LayoutCheckWrongFalsely : Prop := layoutCheckRow.holds Tryz.pinned (OpenSpec.ofChange layoutCheckWrong)

/-- 'cattlegridlaw12.LayoutBelow': WHATEVER THE INPUT: true; the input reads as it did. -/
def layoutBelowSpec : ChangeSpec := { name := "layoutBelow", fn := fun _ => fun
  | [d1, d2] => { results := [.lit (.bool true)], args := [d1, d2] }
  | _ => none }
def layoutBelowRow : OpenClaim := { program := "ytglfbaimlajjgaagreat", sum := "f183bc75751379f0120e0ac694eea9b572b37ed547c878f95043523e92ff80cb", func := "cattlegrid/cattlegridlaw12.LayoutBelow", spec := "layoutBelow", unfollowed := true, recurses := true, plainKeys := false, apart := false }
def LayoutBelowSaid : Prop := layoutBelowRow.holds Tryz.pinned (OpenSpec.ofChange layoutBelowSpec)

/-- ITS FALSE NEIGHBOUR: 'it returns false'. Refute it at one input. -/
def layoutBelowWrong : ChangeSpec := { name := "layoutBelow", fn := fun _ => fun
  | [d1, d2] => { results := [.lit (.bool false)], args := [d1, d2] }
  | _ => none }
def LayoutBelowWrongFalsely : Prop := layoutBelowRow.holds Tryz.pinned (OpenSpec.ofChange layoutBelowWrong)

/-- 'cattlegridlaw12.LayoutObjects': WHATEVER THE INPUT: true; the input reads as it did. -/
def layoutObjectsSpec : ChangeSpec := { name := "layoutObjects", fn := fun _ => fun
  | [d1, d2, d3] => { results := [.lit (.bool true)], args := [d1, d2, d3] }
  | _ => none }
def layoutObjectsRow : OpenClaim := { program := "ytglfbaimlajjgaagreat", sum := "f183bc75751379f0120e0ac694eea9b572b37ed547c878f95043523e92ff80cb", func := "cattlegrid/cattlegridlaw12.LayoutObjects", spec := "layoutObjects", unfollowed := true, recurses := true, plainKeys := false, apart := false }
def LayoutObjectsSaid : Prop := layoutObjectsRow.holds Tryz.pinned (OpenSpec.ofChange layoutObjectsSpec)

/-- ITS FALSE NEIGHBOUR: 'it returns false'. Refute it at one input. -/
def layoutObjectsWrong : ChangeSpec := { name := "layoutObjects", fn := fun _ => fun
  | [d1, d2, d3] => { results := [.lit (.bool false)], args := [d1, d2, d3] }
  | _ => none }
def LayoutObjectsWrongFalsely : Prop := layoutObjectsRow.holds Tryz.pinned (OpenSpec.ofChange layoutObjectsWrong)

/-- 'cattlegridlaw12.LayoutSum': WHATEVER THE INPUT: true; the input reads as it did. -/
def layoutSumSpec : ChangeSpec := { name := "layoutSum", fn := fun _ => fun
  | [d1, d2] => { results := [.lit (.bool true)], args := [d1, d2] }
  | _ => none }
def layoutSumRow : OpenClaim := { program := "ytglfbaimlajjgaagreat", sum := "f183bc75751379f0120e0ac694eea9b572b37ed547c878f95043523e92ff80cb", func := "cattlegrid/cattlegridlaw12.LayoutSum", spec := "layoutSum", unfollowed := true, recurses := true, plainKeys := false, apart := false }
def LayoutSumSaid : Prop := layoutSumRow.holds Tryz.pinned (OpenSpec.ofChange layoutSumSpec)

/-- ITS FALSE NEIGHBOUR: 'it returns false'. Refute it at one input. -/
def layoutSumWrong : ChangeSpec := { name := "layoutSum", fn := fun _ => fun
  | [d1, d2] => { results := [.lit (.bool false)], args := [d1, d2] }
  | _ => none }
def LayoutSumWrongFalsely : Prop := layoutSumRow.holds Tryz.pinned (OpenSpec.ofChange layoutSumWrong)

/-- 'cattlegridlaw12.LayoutCells': WHATEVER THE INPUT: true; the input reads as it did. -/
def layoutCellsSpec : ChangeSpec := { name := "layoutCells", fn := fun _ => fun
  | [d1, d2] => { results := [.lit (.bool true)], args := [d1, d2] }
  | _ => none }
def layoutCellsRow : OpenClaim := { program := "ytglfbaimlajjgaagreat", sum := "f183bc75751379f0120e0ac694eea9b572b37ed547c878f95043523e92ff80cb", func := "cattlegrid/cattlegridlaw12.LayoutCells", spec := "layoutCells", unfollowed := true, recurses := true, plainKeys := false, apart := false }
def LayoutCellsSaid : Prop := layoutCellsRow.holds Tryz.pinned (OpenSpec.ofChange layoutCellsSpec)

/-- ITS FALSE NEIGHBOUR: 'it returns false'. Refute it at one input. -/
def layoutCellsWrong : ChangeSpec := { name := "layoutCells", fn := fun _ => fun
  | [d1, d2] => { results := [.lit (.bool false)], args := [d1, d2] }
  | _ => none }
def LayoutCellsWrongFalsely : Prop := layoutCellsRow.holds Tryz.pinned (OpenSpec.ofChange layoutCellsWrong)

/-- 'cattlegridlaw12.LayoutFull': WHATEVER THE INPUT: true; the input reads as it did. -/
def layoutFullSpec : ChangeSpec := { name := "layoutFull", fn := fun _ => fun
  | [d1, d2] => { results := [.lit (.bool true)], args := [d1, d2] }
  | _ => none }
def layoutFullRow : OpenClaim := { program := "ytglfbaimlajjgaagreat", sum := "f183bc75751379f0120e0ac694eea9b572b37ed547c878f95043523e92ff80cb", func := "cattlegrid/cattlegridlaw12.LayoutFull", spec := "layoutFull", unfollowed := true, recurses := true, plainKeys := false, apart := false }
def LayoutFullSaid : Prop := layoutFullRow.holds Tryz.pinned (OpenSpec.ofChange layoutFullSpec)

/-- ITS FALSE NEIGHBOUR: 'it returns false'. Refute it at one input. -/
def layoutFullWrong : ChangeSpec := { name := "layoutFull", fn := fun _ => fun
  | [d1, d2] => { results := [.lit (.bool false)], args := [d1, d2] }
  | _ => none }
def LayoutFullWrongFalsely : Prop := layoutFullRow.holds Tryz.pinned (OpenSpec.ofChange layoutFullWrong)

/-- 'cattlegridlaw13.SlotsCheck': WHATEVER THE INPUT: true; the input reads as it did. -/
def slotsCheckSpec : ChangeSpec := { name := "slotsCheck", fn := fun _ => fun
  | [d] => { results := [.lit (.bool true)], args := [d] }
  | _ => none }
def slotsCheckRow : OpenClaim := { program := "ytglfbaimlajjgaagreat", sum := "f183bc75751379f0120e0ac694eea9b572b37ed547c878f95043523e92ff80cb", func := "cattlegrid/cattlegridlaw13.SlotsCheck", spec := "slotsCheck", unfollowed := true, recurses := true, plainKeys := false, apart := false }
def SlotsCheckSaid : Prop := slotsCheckRow.holds Tryz.pinned (OpenSpec.ofChange slotsCheckSpec)

/-- ITS FALSE NEIGHBOUR: 'it returns false'. Refute it at one input. -/
def slotsCheckWrong : ChangeSpec := { name := "slotsCheck", fn := fun _ => fun
  | [d] => { results := [.lit (.bool false)], args := [d] }
  | _ => none }
def SlotsCheckWrongFalsely : Prop := slotsCheckRow.holds Tryz.pinned (OpenSpec.ofChange slotsCheckWrong)

/-- 'cattlegridlaw13.SlotsBelow': WHATEVER THE INPUT: true; the input reads as it did. -/
def slotsBelowSpec : ChangeSpec := { name := "slotsBelow", fn := fun _ => fun
  | [d1, d2] => { results := [.lit (.bool true)], args := [d1, d2] }
  | _ => none }
def slotsBelowRow : OpenClaim := { program := "ytglfbaimlajjgaagreat", sum := "f183bc75751379f0120e0ac694eea9b572b37ed547c878f95043523e92ff80cb", func := "cattlegrid/cattlegridlaw13.SlotsBelow", spec := "slotsBelow", unfollowed := true, recurses := true, plainKeys := false, apart := false }
def SlotsBelowSaid : Prop := slotsBelowRow.holds Tryz.pinned (OpenSpec.ofChange slotsBelowSpec)

/-- ITS FALSE NEIGHBOUR: 'it returns false'. Refute it at one input. -/
def slotsBelowWrong : ChangeSpec := { name := "slotsBelow", fn := fun _ => fun
  | [d1, d2] => { results := [.lit (.bool false)], args := [d1, d2] }
  | _ => none }
def SlotsBelowWrongFalsely : Prop := slotsBelowRow.holds Tryz.pinned (OpenSpec.ofChange slotsBelowWrong)

/-- 'cattlegridlaw13.SlotsTable': WHATEVER THE INPUT: true; the input reads as it did. -/
def slotsTableSpec : ChangeSpec := { name := "slotsTable", fn := fun _ => fun
  | [d1, d2, d3] => { results := [.lit (.bool true)], args := [d1, d2, d3] }
  | _ => none }
def slotsTableRow : OpenClaim := { program := "ytglfbaimlajjgaagreat", sum := "f183bc75751379f0120e0ac694eea9b572b37ed547c878f95043523e92ff80cb", func := "cattlegrid/cattlegridlaw13.SlotsTable", spec := "slotsTable", unfollowed := true, recurses := true, plainKeys := false, apart := false }
def SlotsTableSaid : Prop := slotsTableRow.holds Tryz.pinned (OpenSpec.ofChange slotsTableSpec)

/-- ITS FALSE NEIGHBOUR: 'it returns false'. Refute it at one input. -/
def slotsTableWrong : ChangeSpec := { name := "slotsTable", fn := fun _ => fun
  | [d1, d2, d3] => { results := [.lit (.bool false)], args := [d1, d2, d3] }
  | _ => none }
def SlotsTableWrongFalsely : Prop := slotsTableRow.holds Tryz.pinned (OpenSpec.ofChange slotsTableWrong)

/-- 'cattlegridlaw20.HeapFull': WHATEVER THE INPUT: true; the input reads as it did. -/
def heapFullSpec : ChangeSpec := { name := "heapFull", fn := fun _ => fun
  | [d1, d2] => { results := [.lit (.bool true)], args := [d1, d2] }
  | _ => none }
def heapFullRow : OpenClaim := { program := "ytglfbaimlajjgaagreat", sum := "f183bc75751379f0120e0ac694eea9b572b37ed547c878f95043523e92ff80cb", func := "cattlegrid/cattlegridlaw20.HeapFull", spec := "heapFull", unfollowed := true, recurses := true, plainKeys := false, apart := false }
def HeapFullSaid : Prop := heapFullRow.holds Tryz.pinned (OpenSpec.ofChange heapFullSpec)

/-- ITS FALSE NEIGHBOUR: 'it returns false'. Refute it at one input. -/
def heapFullWrong : ChangeSpec := { name := "heapFull", fn := fun _ => fun
  | [d1, d2] => { results := [.lit (.bool false)], args := [d1, d2] }
  | _ => none }
def HeapFullWrongFalsely : Prop := heapFullRow.holds Tryz.pinned (OpenSpec.ofChange heapFullWrong)

/-- 'cattlegridlaw20.HeapHeads': WHATEVER THE INPUT: true; the input reads as it did. -/
def heapHeadsSpec : ChangeSpec := { name := "heapHeads", fn := fun _ => fun
  | [d1, d2] => { results := [.lit (.bool true)], args := [d1, d2] }
  | _ => none }
def heapHeadsRow : OpenClaim := { program := "ytglfbaimlajjgaagreat", sum := "f183bc75751379f0120e0ac694eea9b572b37ed547c878f95043523e92ff80cb", func := "cattlegrid/cattlegridlaw20.HeapHeads", spec := "heapHeads", unfollowed := true, recurses := true, plainKeys := false, apart := false }
def HeapHeadsSaid : Prop := heapHeadsRow.holds Tryz.pinned (OpenSpec.ofChange heapHeadsSpec)

/-- ITS FALSE NEIGHBOUR: 'it returns false'. Refute it at one input. -/
def heapHeadsWrong : ChangeSpec := { name := "heapHeads", fn := fun _ => fun
  | [d1, d2] => { results := [.lit (.bool false)], args := [d1, d2] }
  | _ => none }
def HeapHeadsWrongFalsely : Prop := heapHeadsRow.holds Tryz.pinned (OpenSpec.ofChange heapHeadsWrong)

/-- 'cattlegridlaw20.HeapNil': WHATEVER THE INPUT: true; the input reads as it did. -/
def heapNilSpec : ChangeSpec := { name := "heapNil", fn := fun _ => fun
  | [d] => { results := [.lit (.bool true)], args := [d] }
  | _ => none }
def heapNilRow : OpenClaim := { program := "ytglfbaimlajjgaagreat", sum := "f183bc75751379f0120e0ac694eea9b572b37ed547c878f95043523e92ff80cb", func := "cattlegrid/cattlegridlaw20.HeapNil", spec := "heapNil", unfollowed := true, recurses := true, plainKeys := false, apart := false }
def HeapNilSaid : Prop := heapNilRow.holds Tryz.pinned (OpenSpec.ofChange heapNilSpec)

/-- ITS FALSE NEIGHBOUR: 'it returns false'. Refute it at one input. -/
def heapNilWrong : ChangeSpec := { name := "heapNil", fn := fun _ => fun
  | [d] => { results := [.lit (.bool false)], args := [d] }
  | _ => none }
def HeapNilWrongFalsely : Prop := heapNilRow.holds Tryz.pinned (OpenSpec.ofChange heapNilWrong)

/- THE SECOND FORM. 'bulk': how many values and letters a reading holds, each counted each time it is reached (what is shared counts as often as it is met; a slice's spare places count too). A statement '..UptoSaid' is the law's where the arguments, and the package variables that the reading takes, are together of bulk at most 1048576: NARROWER than '..Said'. Prove '..Said' where nothing that the law and all that it calls make is longer than what came in: it says more and counts as full. Else prove '..UptoSaid'. A law counts once. -/
mutual
def uptoBulk {H : Type} : DataW H → Nat
  | .lit (.string bytes) => bytes.length + 1
  | .lit _ => 1
  | .nil => 1
  | .ptr d => uptoBulk d + 1
  | .slice elems spare => uptoBulkAll elems + uptoBulkAll spare + 1
  | .agg parts => uptoBulkAll parts + 1
  | .iface _ d => uptoBulk d + 1
  | .map entries => uptoBulkEntries entries + 1
  | .held _ => 1
def uptoBulkAll {H : Type} : List (DataW H) → Nat
  | [] => 0
  | d :: r => uptoBulk d + uptoBulkAll r
def uptoBulkEntries {H : Type} : List (Lit × DataW H) → Nat
  | [] => 0
  | x :: r => uptoBulkEntry x + uptoBulkEntries r
def uptoBulkEntry {H : Type} : Lit × DataW H → Nat
  | (.string bytes, d) => bytes.length + uptoBulk d + 1
  | (_, d) => uptoBulk d + 1
 end
def uptoSmall : (H : Type) → List (DataW H) → Bool := fun _ ds => decide (uptoBulkAll ds ≤ 1048576)
def OpenSpec.upto (s : _root_.Go.ChangeSpec) : _root_.Go.OpenSpec := { _root_.Go.OpenSpec.ofChange s with cond := some uptoSmall }

/-- 'cattlegridlaw12.LayoutCheck', WHERE WHAT IT READS IS OF BULK AT MOST 1048576: true; the input reads as it did. -/
def layoutCheckUptoRow : OpenClaim := { program := "ytglfbaimlajjgaagreat", sum := "f183bc75751379f0120e0ac694eea9b572b37ed547c878f95043523e92ff80cb", func := "cattlegrid/cattlegridlaw12.LayoutCheck", spec := "layoutCheck", unfollowed := true, recurses := true, plainKeys := false, apart := false, narrowed := true }
def LayoutCheckUptoSaid : Prop := layoutCheckUptoRow.holds Tryz.pinned (OpenSpec.upto layoutCheckSpec)

/-- 'cattlegridlaw12.LayoutBelow', WHERE WHAT IT READS IS OF BULK AT MOST 1048576: true; the input reads as it did. -/
def layoutBelowUptoRow : OpenClaim := { program := "ytglfbaimlajjgaagreat", sum := "f183bc75751379f0120e0ac694eea9b572b37ed547c878f95043523e92ff80cb", func := "cattlegrid/cattlegridlaw12.LayoutBelow", spec := "layoutBelow", unfollowed := true, recurses := true, plainKeys := false, apart := false, narrowed := true }
def LayoutBelowUptoSaid : Prop := layoutBelowUptoRow.holds Tryz.pinned (OpenSpec.upto layoutBelowSpec)

/-- 'cattlegridlaw12.LayoutObjects', WHERE WHAT IT READS IS OF BULK AT MOST 1048576: true; the input reads as it did. -/
def layoutObjectsUptoRow : OpenClaim := { program := "ytglfbaimlajjgaagreat", sum := "f183bc75751379f0120e0ac694eea9b572b37ed547c878f95043523e92ff80cb", func := "cattlegrid/cattlegridlaw12.LayoutObjects", spec := "layoutObjects", unfollowed := true, recurses := true, plainKeys := false, apart := false, narrowed := true }
def LayoutObjectsUptoSaid : Prop := layoutObjectsUptoRow.holds Tryz.pinned (OpenSpec.upto layoutObjectsSpec)

/-- 'cattlegridlaw12.LayoutSum', WHERE WHAT IT READS IS OF BULK AT MOST 1048576: true; the input reads as it did. -/
def layoutSumUptoRow : OpenClaim := { program := "ytglfbaimlajjgaagreat", sum := "f183bc75751379f0120e0ac694eea9b572b37ed547c878f95043523e92ff80cb", func := "cattlegrid/cattlegridlaw12.LayoutSum", spec := "layoutSum", unfollowed := true, recurses := true, plainKeys := false, apart := false, narrowed := true }
def LayoutSumUptoSaid : Prop := layoutSumUptoRow.holds Tryz.pinned (OpenSpec.upto layoutSumSpec)

/-- 'cattlegridlaw12.LayoutCells', WHERE WHAT IT READS IS OF BULK AT MOST 1048576: true; the input reads as it did. -/
def layoutCellsUptoRow : OpenClaim := { program := "ytglfbaimlajjgaagreat", sum := "f183bc75751379f0120e0ac694eea9b572b37ed547c878f95043523e92ff80cb", func := "cattlegrid/cattlegridlaw12.LayoutCells", spec := "layoutCells", unfollowed := true, recurses := true, plainKeys := false, apart := false, narrowed := true }
def LayoutCellsUptoSaid : Prop := layoutCellsUptoRow.holds Tryz.pinned (OpenSpec.upto layoutCellsSpec)

/-- 'cattlegridlaw12.LayoutFull', WHERE WHAT IT READS IS OF BULK AT MOST 1048576: true; the input reads as it did. -/
def layoutFullUptoRow : OpenClaim := { program := "ytglfbaimlajjgaagreat", sum := "f183bc75751379f0120e0ac694eea9b572b37ed547c878f95043523e92ff80cb", func := "cattlegrid/cattlegridlaw12.LayoutFull", spec := "layoutFull", unfollowed := true, recurses := true, plainKeys := false, apart := false, narrowed := true }
def LayoutFullUptoSaid : Prop := layoutFullUptoRow.holds Tryz.pinned (OpenSpec.upto layoutFullSpec)

/-- 'cattlegridlaw13.SlotsCheck', WHERE WHAT IT READS IS OF BULK AT MOST 1048576: true; the input reads as it did. -/
def slotsCheckUptoRow : OpenClaim := { program := "ytglfbaimlajjgaagreat", sum := "f183bc75751379f0120e0ac694eea9b572b37ed547c878f95043523e92ff80cb", func := "cattlegrid/cattlegridlaw13.SlotsCheck", spec := "slotsCheck", unfollowed := true, recurses := true, plainKeys := false, apart := false, narrowed := true }
def SlotsCheckUptoSaid : Prop := slotsCheckUptoRow.holds Tryz.pinned (OpenSpec.upto slotsCheckSpec)

/-- 'cattlegridlaw13.SlotsBelow', WHERE WHAT IT READS IS OF BULK AT MOST 1048576: true; the input reads as it did. -/
def slotsBelowUptoRow : OpenClaim := { program := "ytglfbaimlajjgaagreat", sum := "f183bc75751379f0120e0ac694eea9b572b37ed547c878f95043523e92ff80cb", func := "cattlegrid/cattlegridlaw13.SlotsBelow", spec := "slotsBelow", unfollowed := true, recurses := true, plainKeys := false, apart := false, narrowed := true }
def SlotsBelowUptoSaid : Prop := slotsBelowUptoRow.holds Tryz.pinned (OpenSpec.upto slotsBelowSpec)

/-- 'cattlegridlaw13.SlotsTable', WHERE WHAT IT READS IS OF BULK AT MOST 1048576: true; the input reads as it did. -/
def slotsTableUptoRow : OpenClaim := { program := "ytglfbaimlajjgaagreat", sum := "f183bc75751379f0120e0ac694eea9b572b37ed547c878f95043523e92ff80cb", func := "cattlegrid/cattlegridlaw13.SlotsTable", spec := "slotsTable", unfollowed := true, recurses := true, plainKeys := false, apart := false, narrowed := true }
def SlotsTableUptoSaid : Prop := slotsTableUptoRow.holds Tryz.pinned (OpenSpec.upto slotsTableSpec)

/-- 'cattlegridlaw20.HeapFull', WHERE WHAT IT READS IS OF BULK AT MOST 1048576: true; the input reads as it did. -/
def heapFullUptoRow : OpenClaim := { program := "ytglfbaimlajjgaagreat", sum := "f183bc75751379f0120e0ac694eea9b572b37ed547c878f95043523e92ff80cb", func := "cattlegrid/cattlegridlaw20.HeapFull", spec := "heapFull", unfollowed := true, recurses := true, plainKeys := false, apart := false, narrowed := true }
def HeapFullUptoSaid : Prop := heapFullUptoRow.holds Tryz.pinned (OpenSpec.upto heapFullSpec)

/-- 'cattlegridlaw20.HeapHeads', WHERE WHAT IT READS IS OF BULK AT MOST 1048576: true; the input reads as it did. -/
def heapHeadsUptoRow : OpenClaim := { program := "ytglfbaimlajjgaagreat", sum := "f183bc75751379f0120e0ac694eea9b572b37ed547c878f95043523e92ff80cb", func := "cattlegrid/cattlegridlaw20.HeapHeads", spec := "heapHeads", unfollowed := true, recurses := true, plainKeys := false, apart := false, narrowed := true }
def HeapHeadsUptoSaid : Prop := heapHeadsUptoRow.holds Tryz.pinned (OpenSpec.upto heapHeadsSpec)

/-- 'cattlegridlaw20.HeapNil', WHERE WHAT IT READS IS OF BULK AT MOST 1048576: true; the input reads as it did. -/
def heapNilUptoRow : OpenClaim := { program := "ytglfbaimlajjgaagreat", sum := "f183bc75751379f0120e0ac694eea9b572b37ed547c878f95043523e92ff80cb", func := "cattlegrid/cattlegridlaw20.HeapNil", spec := "heapNil", unfollowed := true, recurses := true, plainKeys := false, apart := false, narrowed := true }
def HeapNilUptoSaid : Prop := heapNilUptoRow.holds Tryz.pinned (OpenSpec.upto heapNilSpec)

end Rows
end Go.Proofs.YtglfbaimlajjgaaGreat
