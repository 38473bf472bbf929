/-
  No cell of these rows narrows 'for every input' (looked for: loops, veiled, ifaces, maps, wideKeys, modest, calm, conditions, laid).
  DERIVED. THE GIVEN ROWS OF THIS SEAT. 6 by the template 'for every input the law returns true; each argument reads behind the call as it read before'; 0 by the template 'total and deterministic' (their statements: YtkbdoobcgifaaaaTotals.lean).
  GIVEN WITH THE SEED: the statements are not yours to turn. If you find one false, say at which input.
  Laid BY PROGRAM, IN A SANDBOX (cutbox-rows.mjs): the forced cells as the released guide's own fill.sh prints them over the translation dad6ff9efd14030a… (all of the seat's roots in one cut). By AI agents, Wed Nov 11 2026. No macro, syntax, notation, axiom, sorry.
-/
import Derived.Test.YtkbdoobcgifaaaaChecked
import GoSem.Claim
import GoSem.ClaimJoined
import GoSem.ClaimMapViews
import Derived.JoinedTies
import Derived.KernelRfl
namespace Go.Proofs.Ytkbdoobcgifaaaa
/- THE CELL 'sum', in the pinned program and in every row, IS THE sha256 OF THE DUMP (.gsa) THAT YtkbdoobcgifaaaaProg.lean LOADS. Nothing in Lean hashes anything: it is a label: what it is worth is what the hold of that sum in a sandbox is worth. -/
noncomputable def Try.pinned : Pinned := { name := "ytkbdoobcgifaaaa", sum := "dad6ff9efd14030a08b44c05d87d519d41b76068e64e43e26a676e3e253f63da", checked := Try.checked }
namespace Rows
def none {H : Type} : Left H := { results := [], args := [] }

/-- 'cattlegridlaw14.FitOrder': WHATEVER THE INPUT: true; the input reads as it did. -/
def fitOrderSpec : ChangeSpec := { name := "fitOrder", fn := fun _ => fun
  | [d1, d2] => { results := [.lit (.bool true)], args := [d1, d2] }
  | _ => none }
def fitOrderRow : OpenClaim := { program := "ytkbdoobcgifaaaa", sum := "dad6ff9efd14030a08b44c05d87d519d41b76068e64e43e26a676e3e253f63da", func := "cattlegrid/cattlegridlaw14.FitOrder", spec := "fitOrder", unfollowed := true, recurses := true, apart := false }
def FitOrderSaid : Prop := fitOrderRow.holds Try.pinned (OpenSpec.ofChange fitOrderSpec)

/-- ITS FALSE NEIGHBOUR: 'it returns false'. Refute it at one input. -/
def fitOrderWrong : ChangeSpec := { name := "fitOrder", fn := fun _ => fun
  | [d1, d2] => { results := [.lit (.bool false)], args := [d1, d2] }
  | _ => none }
def FitOrderWrongFalsely : Prop := fitOrderRow.holds Try.pinned (OpenSpec.ofChange fitOrderWrong)

/-- 'cattlegridlaw14.FitMerges': WHATEVER THE INPUT: true; the input reads as it did. -/
def fitMergesSpec : ChangeSpec := { name := "fitMerges", fn := fun _ => fun
  | [d1, d2] => { results := [.lit (.bool true)], args := [d1, d2] }
  | _ => none }
def fitMergesRow : OpenClaim := { program := "ytkbdoobcgifaaaa", sum := "dad6ff9efd14030a08b44c05d87d519d41b76068e64e43e26a676e3e253f63da", func := "cattlegrid/cattlegridlaw14.FitMerges", spec := "fitMerges", unfollowed := true, recurses := true, apart := false }
def FitMergesSaid : Prop := fitMergesRow.holds Try.pinned (OpenSpec.ofChange fitMergesSpec)

/-- ITS FALSE NEIGHBOUR: 'it returns false'. Refute it at one input. -/
def fitMergesWrong : ChangeSpec := { name := "fitMerges", fn := fun _ => fun
  | [d1, d2] => { results := [.lit (.bool false)], args := [d1, d2] }
  | _ => none }
def FitMergesWrongFalsely : Prop := fitMergesRow.holds Try.pinned (OpenSpec.ofChange fitMergesWrong)

/-- 'cattlegridlaw14.FitTop': WHATEVER THE INPUT: true; the input reads as it did. -/
def fitTopSpec : ChangeSpec := { name := "fitTop", fn := fun _ => fun
  | [d1, d2, d3] => { results := [.lit (.bool true)], args := [d1, d2, d3] }
  | _ => none }
def fitTopRow : OpenClaim := { program := "ytkbdoobcgifaaaa", sum := "dad6ff9efd14030a08b44c05d87d519d41b76068e64e43e26a676e3e253f63da", func := "cattlegrid/cattlegridlaw14.FitTop", spec := "fitTop", unfollowed := true, recurses := true, apart := false }
def FitTopSaid : Prop := fitTopRow.holds Try.pinned (OpenSpec.ofChange fitTopSpec)

/-- ITS FALSE NEIGHBOUR: 'it returns false'. Refute it at one input. -/
def fitTopWrong : ChangeSpec := { name := "fitTop", fn := fun _ => fun
  | [d1, d2, d3] => { results := [.lit (.bool false)], args := [d1, d2, d3] }
  | _ => none }
def FitTopWrongFalsely : Prop := fitTopRow.holds Try.pinned (OpenSpec.ofChange fitTopWrong)

/-- 'cattlegridlaw15.StateUp': WHATEVER THE INPUT: true; the input reads as it did. -/
def stateUpSpec : ChangeSpec := { name := "stateUp", fn := fun _ => fun
  | [d1, d2, d3] => { results := [.lit (.bool true)], args := [d1, d2, d3] }
  | _ => none }
def stateUpRow : OpenClaim := { program := "ytkbdoobcgifaaaa", sum := "dad6ff9efd14030a08b44c05d87d519d41b76068e64e43e26a676e3e253f63da", func := "cattlegrid/cattlegridlaw15.StateUp", spec := "stateUp", unfollowed := true, recurses := true, apart := false }
def StateUpSaid : Prop := stateUpRow.holds Try.pinned (OpenSpec.ofChange stateUpSpec)

/-- ITS FALSE NEIGHBOUR: 'it returns false'. Refute it at one input. -/
def stateUpWrong : ChangeSpec := { name := "stateUp", fn := fun _ => fun
  | [d1, d2, d3] => { results := [.lit (.bool false)], args := [d1, d2, d3] }
  | _ => none }
def StateUpWrongFalsely : Prop := stateUpRow.holds Try.pinned (OpenSpec.ofChange stateUpWrong)

/-- 'cattlegridlaw15.StateArgs': WHATEVER THE INPUT: true; the input reads as it did. -/
def stateArgsSpec : ChangeSpec := { name := "stateArgs", fn := fun _ => fun
  | [d1, d2] => { results := [.lit (.bool true)], args := [d1, d2] }
  | _ => none }
def stateArgsRow : OpenClaim := { program := "ytkbdoobcgifaaaa", sum := "dad6ff9efd14030a08b44c05d87d519d41b76068e64e43e26a676e3e253f63da", func := "cattlegrid/cattlegridlaw15.StateArgs", spec := "stateArgs", unfollowed := true, recurses := true, apart := false }
def StateArgsSaid : Prop := stateArgsRow.holds Try.pinned (OpenSpec.ofChange stateArgsSpec)

/-- ITS FALSE NEIGHBOUR: 'it returns false'. Refute it at one input. -/
def stateArgsWrong : ChangeSpec := { name := "stateArgs", fn := fun _ => fun
  | [d1, d2] => { results := [.lit (.bool false)], args := [d1, d2] }
  | _ => none }
def StateArgsWrongFalsely : Prop := stateArgsRow.holds Try.pinned (OpenSpec.ofChange stateArgsWrong)

/-- 'cattlegridlaw15.StatePops': WHATEVER THE INPUT: true; the input reads as it did. -/
def statePopsSpec : ChangeSpec := { name := "statePops", fn := fun _ => fun
  | [d1, d2, d3] => { results := [.lit (.bool true)], args := [d1, d2, d3] }
  | _ => none }
def statePopsRow : OpenClaim := { program := "ytkbdoobcgifaaaa", sum := "dad6ff9efd14030a08b44c05d87d519d41b76068e64e43e26a676e3e253f63da", func := "cattlegrid/cattlegridlaw15.StatePops", spec := "statePops", unfollowed := true, recurses := true, apart := false }
def StatePopsSaid : Prop := statePopsRow.holds Try.pinned (OpenSpec.ofChange statePopsSpec)

/-- ITS FALSE NEIGHBOUR: 'it returns false'. Refute it at one input. -/
def statePopsWrong : ChangeSpec := { name := "statePops", fn := fun _ => fun
  | [d1, d2, d3] => { results := [.lit (.bool false)], args := [d1, d2, d3] }
  | _ => none }
def StatePopsWrongFalsely : Prop := statePopsRow.holds Try.pinned (OpenSpec.ofChange statePopsWrong)

/- THE SECOND FORM. 'bulk': how many values and letters a reading holds, each counted each time it is reached (what is shared counts as often as it is met; a slice's spare places count too). A statement '..UptoSaid' is the law's where the arguments, and the package variables that the reading takes, are together of bulk at most 1048576: NARROWER than '..Said'. Prove '..Said' where nothing that the law and all that it calls make is longer than what came in: it says more and counts as full. Else prove '..UptoSaid'. A law counts once. -/
mutual
def uptoBulk {H : Type} : DataW H → Nat
  | .lit (.string bytes) => bytes.length + 1
  | .lit _ => 1
  | .nil => 1
  | .ptr d => uptoBulk d + 1
  | .slice elems spare => uptoBulkAll elems + uptoBulkAll spare + 1
  | .agg parts => uptoBulkAll parts + 1
  | .iface _ d => uptoBulk d + 1
  | .map entries => uptoBulkEntries entries + 1
  | .held _ => 1
def uptoBulkAll {H : Type} : List (DataW H) → Nat
  | [] => 0
  | d :: r => uptoBulk d + uptoBulkAll r
def uptoBulkEntries {H : Type} : List (Lit × DataW H) → Nat
  | [] => 0
  | x :: r => uptoBulkEntry x + uptoBulkEntries r
def uptoBulkEntry {H : Type} : Lit × DataW H → Nat
  | (.string bytes, d) => bytes.length + uptoBulk d + 1
  | (_, d) => uptoBulk d + 1
 end
def uptoSmall : (H : Type) → List (DataW H) → Bool := fun _ ds => decide (uptoBulkAll ds ≤ 1048576)
def OpenSpec.upto (s : _root_.Go.ChangeSpec) : _root_.Go.OpenSpec := { _root_.Go.OpenSpec.ofChange s with cond := some uptoSmall }

/-- 'cattlegridlaw14.FitOrder', WHERE WHAT IT READS IS OF BULK AT MOST 1048576: true; the input reads as it did. -/
def fitOrderUptoRow : OpenClaim := { program := "ytkbdoobcgifaaaa", sum := "dad6ff9efd14030a08b44c05d87d519d41b76068e64e43e26a676e3e253f63da", func := "cattlegrid/cattlegridlaw14.FitOrder", spec := "fitOrder", unfollowed := true, recurses := true, apart := false, narrowed := true }
def FitOrderUptoSaid : Prop := fitOrderUptoRow.holds Try.pinned (OpenSpec.upto fitOrderSpec)

/-- 'cattlegridlaw14.FitMerges', WHERE WHAT IT READS IS OF BULK AT MOST 1048576: true; the input reads as it did. -/
def fitMergesUptoRow : OpenClaim := { program := "ytkbdoobcgifaaaa", sum := "dad6ff9efd14030a08b44c05d87d519d41b76068e64e43e26a676e3e253f63da", func := "cattlegrid/cattlegridlaw14.FitMerges", spec := "fitMerges", unfollowed := true, recurses := true, apart := false, narrowed := true }
def FitMergesUptoSaid : Prop := fitMergesUptoRow.holds Try.pinned (OpenSpec.upto fitMergesSpec)

/-- 'cattlegridlaw14.FitTop', WHERE WHAT IT READS IS OF BULK AT MOST 1048576: true; the input reads as it did. -/
def fitTopUptoRow : OpenClaim := { program := "ytkbdoobcgifaaaa", sum := "dad6ff9efd14030a08b44c05d87d519d41b76068e64e43e26a676e3e253f63da", func := "cattlegrid/cattlegridlaw14.FitTop", spec := "fitTop", unfollowed := true, recurses := true, apart := false, narrowed := true }
def FitTopUptoSaid : Prop := fitTopUptoRow.holds Try.pinned (OpenSpec.upto fitTopSpec)

/-- 'cattlegridlaw15.StateUp', WHERE WHAT IT READS IS OF BULK AT MOST 1048576: true; the input reads as it did. -/
def stateUpUptoRow : OpenClaim := { program := "ytkbdoobcgifaaaa", sum := "dad6ff9efd14030a08b44c05d87d519d41b76068e64e43e26a676e3e253f63da", func := "cattlegrid/cattlegridlaw15.StateUp", spec := "stateUp", unfollowed := true, recurses := true, apart := false, narrowed := true }
def StateUpUptoSaid : Prop := stateUpUptoRow.holds Try.pinned (OpenSpec.upto stateUpSpec)

/-- 'cattlegridlaw15.StateArgs', WHERE WHAT IT READS IS OF BULK AT MOST 1048576: true; the input reads as it did. -/
def stateArgsUptoRow : OpenClaim := { program := "ytkbdoobcgifaaaa", sum := "dad6ff9efd14030a08b44c05d87d519d41b76068e64e43e26a676e3e253f63da", func := "cattlegrid/cattlegridlaw15.StateArgs", spec := "stateArgs", unfollowed := true, recurses := true, apart := false, narrowed := true }
def StateArgsUptoSaid : Prop := stateArgsUptoRow.holds Try.pinned (OpenSpec.upto stateArgsSpec)

/-- 'cattlegridlaw15.StatePops', WHERE WHAT IT READS IS OF BULK AT MOST 1048576: true; the input reads as it did. -/
def statePopsUptoRow : OpenClaim := { program := "ytkbdoobcgifaaaa", sum := "dad6ff9efd14030a08b44c05d87d519d41b76068e64e43e26a676e3e253f63da", func := "cattlegrid/cattlegridlaw15.StatePops", spec := "statePops", unfollowed := true, recurses := true, apart := false, narrowed := true }
def StatePopsUptoSaid : Prop := statePopsUptoRow.holds Try.pinned (OpenSpec.upto statePopsSpec)

end Rows
end Go.Proofs.Ytkbdoobcgifaaaa
