/-
  No cell of these rows narrows 'for every input' (looked for: loops, veiled, ifaces, maps, wideKeys, modest, calm, conditions, laid).
  DERIVED. THE GIVEN ROWS OF THIS SEAT. 2 by the template 'for every input the law returns true; each argument reads behind the call as it read before'; 0 by the template 'total and deterministic' (their statements: YtmgdpkcmbnlklaaGreatTotals.lean).
  GIVEN WITH THE SEED: the statements are not yours to turn. If you find one false, say at which input.
  Laid BY PROGRAM, IN A SANDBOX (cutbox-rows.mjs): the forced cells as the released guide's own fill.sh prints them over the translation 9bac6d0382112cfd… (all of the seat's roots in one cut). By AI agents, Wed Nov 11 2026. No macro, syntax, notation, axiom, sorry.
-/
import Derived.Test.YtmgdpkcmbnlklaaGreatChecked
import GoSem.Claim
import GoSem.ClaimJoined
import GoSem.ClaimMapViews
import Derived.JoinedTies
import Derived.KernelRfl
namespace Go.Proofs.YtmgdpkcmbnlklaaGreat
/- THE CELL 'sum', in the pinned program and in every row, IS THE sha256 OF THE DUMP (.gsa) THAT YtmgdpkcmbnlklaaGreatProg.lean LOADS. Nothing in Lean hashes anything: it is a label: what it is worth is what the hold of that sum in a sandbox is worth. -/
noncomputable def Tryz.pinned : Pinned := { name := "ytmgdpkcmbnlklaagreat", sum := "9bac6d0382112cfdfb40390480654ba77d869285c10c2cd9a879e25bf65c573e", checked := Tryz.checked }
namespace Rows
def none {H : Type} : Left H := { results := [], args := [] }

/-- 'cattlegridlaw21.FramesActs': WHATEVER THE INPUT: true; the input reads as it did. -/
def framesActsSpec : ChangeSpec := { name := "framesActs", fn := fun _ => fun
  | [d1, d2] => { results := [.lit (.bool true)], args := [d1, d2] }
  | _ => none }
def framesActsRow : OpenClaim := { program := "ytmgdpkcmbnlklaagreat", sum := "9bac6d0382112cfdfb40390480654ba77d869285c10c2cd9a879e25bf65c573e", func := "cattlegrid/cattlegridlaw21.FramesActs", spec := "framesActs", unfollowed := true, recurses := true, plainKeys := false, apart := false }
def FramesActsSaid : Prop := framesActsRow.holds Tryz.pinned (OpenSpec.ofChange framesActsSpec)

/-- ITS FALSE NEIGHBOUR: 'it returns false'. Refute it at one input. -/
def framesActsWrong : ChangeSpec := { name := "framesActs", fn := fun _ => fun
  | [d1, d2] => { results := [.lit (.bool false)], args := [d1, d2] }
  | _ => none }
def FramesActsWrongFalsely : Prop := framesActsRow.holds Tryz.pinned (OpenSpec.ofChange framesActsWrong)

/-- 'cattlegridlaw21.FramesBack': WHATEVER THE INPUT: true; the input reads as it did. -/
def framesBackSpec : ChangeSpec := { name := "framesBack", fn := fun _ => fun
  | [d1, d2] => { results := [.lit (.bool true)], args := [d1, d2] }
  | _ => none }
def framesBackRow : OpenClaim := { program := "ytmgdpkcmbnlklaagreat", sum := "9bac6d0382112cfdfb40390480654ba77d869285c10c2cd9a879e25bf65c573e", func := "cattlegrid/cattlegridlaw21.FramesBack", spec := "framesBack", unfollowed := true, recurses := true, plainKeys := false, apart := false }
def FramesBackSaid : Prop := framesBackRow.holds Tryz.pinned (OpenSpec.ofChange framesBackSpec)

/-- ITS FALSE NEIGHBOUR: 'it returns false'. Refute it at one input. -/
def framesBackWrong : ChangeSpec := { name := "framesBack", fn := fun _ => fun
  | [d1, d2] => { results := [.lit (.bool false)], args := [d1, d2] }
  | _ => none }
def FramesBackWrongFalsely : Prop := framesBackRow.holds Tryz.pinned (OpenSpec.ofChange framesBackWrong)

/- THE SECOND FORM. 'bulk': how many values and letters a reading holds, each counted each time it is reached (what is shared counts as often as it is met; a slice's spare places count too). A statement '..UptoSaid' is the law's where the arguments, and the package variables that the reading takes, are together of bulk at most 1048576: NARROWER than '..Said'. Prove '..Said' where nothing that the law and all that it calls make is longer than what came in: it says more and counts as full. Else prove '..UptoSaid'. A law counts once. -/
mutual
def uptoBulk {H : Type} : DataW H → Nat
  | .lit (.string bytes) => bytes.length + 1
  | .lit _ => 1
  | .nil => 1
  | .ptr d => uptoBulk d + 1
  | .slice elems spare => uptoBulkAll elems + uptoBulkAll spare + 1
  | .agg parts => uptoBulkAll parts + 1
  | .iface _ d => uptoBulk d + 1
  | .map entries => uptoBulkEntries entries + 1
  | .held _ => 1
def uptoBulkAll {H : Type} : List (DataW H) → Nat
  | [] => 0
  | d :: r => uptoBulk d + uptoBulkAll r
def uptoBulkEntries {H : Type} : List (Lit × DataW H) → Nat
  | [] => 0
  | x :: r => uptoBulkEntry x + uptoBulkEntries r
def uptoBulkEntry {H : Type} : Lit × DataW H → Nat
  | (.string bytes, d) => bytes.length + uptoBulk d + 1
  | (_, d) => uptoBulk d + 1
 end
def uptoSmall : (H : Type) → List (DataW H) → Bool := fun _ ds => decide (uptoBulkAll ds ≤ 1048576)
def OpenSpec.upto (s : _root_.Go.ChangeSpec) : _root_.Go.OpenSpec := { _root_.Go.OpenSpec.ofChange s with cond := some uptoSmall }

/-- 'cattlegridlaw21.FramesActs', WHERE WHAT IT READS IS OF BULK AT MOST 1048576: true; the input reads as it did. -/
def framesActsUptoRow : OpenClaim := { program := "ytmgdpkcmbnlklaagreat", sum := "9bac6d0382112cfdfb40390480654ba77d869285c10c2cd9a879e25bf65c573e", func := "cattlegrid/cattlegridlaw21.FramesActs", spec := "framesActs", unfollowed := true, recurses := true, plainKeys := false, apart := false, narrowed := true }
def FramesActsUptoSaid : Prop := framesActsUptoRow.holds Tryz.pinned (OpenSpec.upto framesActsSpec)

/-- 'cattlegridlaw21.FramesBack', WHERE WHAT IT READS IS OF BULK AT MOST 1048576: true; the input reads as it did. -/
def framesBackUptoRow : OpenClaim := { program := "ytmgdpkcmbnlklaagreat", sum := "9bac6d0382112cfdfb40390480654ba77d869285c10c2cd9a879e25bf65c573e", func := "cattlegrid/cattlegridlaw21.FramesBack", spec := "framesBack", unfollowed := true, recurses := true, plainKeys := false, apart := false, narrowed := true }
def FramesBackUptoSaid : Prop := framesBackUptoRow.holds Tryz.pinned (OpenSpec.upto framesBackSpec)

end Rows
end Go.Proofs.YtmgdpkcmbnlklaaGreat
