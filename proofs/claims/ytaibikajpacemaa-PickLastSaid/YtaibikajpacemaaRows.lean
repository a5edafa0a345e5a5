/-
  No cell of these rows narrows 'for every input' (looked for: loops, veiled, ifaces, maps, wideKeys, modest, calm, conditions, laid).
  DERIVED. THE GIVEN ROWS OF THIS SEAT. 9 by the template 'for every input the law returns true; each argument reads behind the call as it read before'; 0 by the template 'total and deterministic' (their statements: YtaibikajpacemaaTotals.lean).
  GIVEN WITH THE SEED: the statements are not yours to turn. If you find one false, say at which input.
  Laid BY PROGRAM, IN A SANDBOX (cutbox-rows.mjs): the forced cells as the released guide's own fill.sh prints them over the translation 41d49779e9bfe862… (all of the seat's roots in one cut). By AI agents, Wed Nov 11 2026. No macro, syntax, notation, axiom, sorry.
-/
import Derived.Test.YtaibikajpacemaaChecked
import GoSem.Claim
import GoSem.ClaimJoined
import GoSem.ClaimMapViews
import Derived.JoinedTies
import Derived.KernelRfl
namespace Go.Proofs.Ytaibikajpacemaa
/- THE CELL 'sum', in the pinned program and in every row, IS THE sha256 OF THE DUMP (.gsa) THAT YtaibikajpacemaaProg.lean LOADS. Nothing in Lean hashes anything: it is a label: what it is worth is what the hold of that sum in a sandbox is worth. -/
noncomputable def Try.pinned : Pinned := { name := "ytaibikajpacemaa", sum := "41d49779e9bfe862c3282baee1a839f1db07c6eeca9bcce0212f2ad4d62e0007", checked := Try.checked }
namespace Rows
def none {H : Type} : Left H := { results := [], args := [] }

/-- 'bobbinetkeep.WalkEach': WHATEVER THE INPUT: true; the input reads as it did. -/
def walkEachSpec : ChangeSpec := { name := "walkEach", fn := fun _ => fun
  | [d] => { results := [.lit (.bool true)], args := [d] }
  | _ => none }
def walkEachRow : OpenClaim := { program := "ytaibikajpacemaa", sum := "41d49779e9bfe862c3282baee1a839f1db07c6eeca9bcce0212f2ad4d62e0007", func := "bobbinet/bobbinetkeep.WalkEach", spec := "walkEach", recurses := true, apart := false }
def WalkEachSaid : Prop := walkEachRow.holds Try.pinned (OpenSpec.ofChange walkEachSpec)

/-- ITS FALSE NEIGHBOUR: 'it returns false'. Refute it at one input. -/
def walkEachWrong : ChangeSpec := { name := "walkEach", fn := fun _ => fun
  | [d] => { results := [.lit (.bool false)], args := [d] }
  | _ => none }
def WalkEachWrongFalsely : Prop := walkEachRow.holds Try.pinned (OpenSpec.ofChange walkEachWrong)

/-- 'bobbinettop.TopWalk': WHATEVER THE INPUT: true; the input reads as it did. -/
def topWalkSpec : ChangeSpec := { name := "topWalk", fn := fun _ => fun
  | [d] => { results := [.lit (.bool true)], args := [d] }
  | _ => none }
def topWalkRow : OpenClaim := { program := "ytaibikajpacemaa", sum := "41d49779e9bfe862c3282baee1a839f1db07c6eeca9bcce0212f2ad4d62e0007", func := "bobbinet/bobbinettop.TopWalk", spec := "topWalk", inPlace := ["slices.overlaps[bobbinet/api.Node]"], recurses := true, apart := false }
def TopWalkSaid : Prop := topWalkRow.holds Try.pinned (OpenSpec.ofChange topWalkSpec)

/-- ITS FALSE NEIGHBOUR: 'it returns false'. Refute it at one input. -/
def topWalkWrong : ChangeSpec := { name := "topWalk", fn := fun _ => fun
  | [d] => { results := [.lit (.bool false)], args := [d] }
  | _ => none }
def TopWalkWrongFalsely : Prop := topWalkRow.holds Try.pinned (OpenSpec.ofChange topWalkWrong)

/-- 'bobbinetkeep.WalkElsewhere': WHATEVER THE INPUT: true; the input reads as it did. -/
def walkElsewhereSpec : ChangeSpec := { name := "walkElsewhere", fn := fun _ => fun
  | [d1, d2, d3] => { results := [.lit (.bool true)], args := [d1, d2, d3] }
  | _ => none }
def walkElsewhereRow : OpenClaim := { program := "ytaibikajpacemaa", sum := "41d49779e9bfe862c3282baee1a839f1db07c6eeca9bcce0212f2ad4d62e0007", func := "bobbinet/bobbinetkeep.WalkElsewhere", spec := "walkElsewhere", inPlace := ["slices.overlaps[bobbinet/api.Node]"], recurses := true, apart := false }
def WalkElsewhereSaid : Prop := walkElsewhereRow.holds Try.pinned (OpenSpec.ofChange walkElsewhereSpec)

/-- ITS FALSE NEIGHBOUR: 'it returns false'. Refute it at one input. -/
def walkElsewhereWrong : ChangeSpec := { name := "walkElsewhere", fn := fun _ => fun
  | [d1, d2, d3] => { results := [.lit (.bool false)], args := [d1, d2, d3] }
  | _ => none }
def WalkElsewhereWrongFalsely : Prop := walkElsewhereRow.holds Try.pinned (OpenSpec.ofChange walkElsewhereWrong)

/-- 'bobbinetkeep.WalkParts': WHATEVER THE INPUT: true; the input reads as it did. -/
def walkPartsSpec : ChangeSpec := { name := "walkParts", fn := fun _ => fun
  | [d1, d2, d3] => { results := [.lit (.bool true)], args := [d1, d2, d3] }
  | _ => none }
def walkPartsRow : OpenClaim := { program := "ytaibikajpacemaa", sum := "41d49779e9bfe862c3282baee1a839f1db07c6eeca9bcce0212f2ad4d62e0007", func := "bobbinet/bobbinetkeep.WalkParts", spec := "walkParts", inPlace := ["slices.overlaps[bobbinet/api.Node]"], recurses := true, apart := false }
def WalkPartsSaid : Prop := walkPartsRow.holds Try.pinned (OpenSpec.ofChange walkPartsSpec)

/-- ITS FALSE NEIGHBOUR: 'it returns false'. Refute it at one input. -/
def walkPartsWrong : ChangeSpec := { name := "walkParts", fn := fun _ => fun
  | [d1, d2, d3] => { results := [.lit (.bool false)], args := [d1, d2, d3] }
  | _ => none }
def WalkPartsWrongFalsely : Prop := walkPartsRow.holds Try.pinned (OpenSpec.ofChange walkPartsWrong)

/-- 'bobbinetkeep.WalkUndone': WHATEVER THE INPUT: true; the input reads as it did. -/
def walkUndoneSpec : ChangeSpec := { name := "walkUndone", fn := fun _ => fun
  | [d1, d2] => { results := [.lit (.bool true)], args := [d1, d2] }
  | _ => none }
def walkUndoneRow : OpenClaim := { program := "ytaibikajpacemaa", sum := "41d49779e9bfe862c3282baee1a839f1db07c6eeca9bcce0212f2ad4d62e0007", func := "bobbinet/bobbinetkeep.WalkUndone", spec := "walkUndone", inPlace := ["slices.overlaps[bobbinet/api.Node]"], recurses := true, apart := false }
def WalkUndoneSaid : Prop := walkUndoneRow.holds Try.pinned (OpenSpec.ofChange walkUndoneSpec)

/-- ITS FALSE NEIGHBOUR: 'it returns false'. Refute it at one input. -/
def walkUndoneWrong : ChangeSpec := { name := "walkUndone", fn := fun _ => fun
  | [d1, d2] => { results := [.lit (.bool false)], args := [d1, d2] }
  | _ => none }
def WalkUndoneWrongFalsely : Prop := walkUndoneRow.holds Try.pinned (OpenSpec.ofChange walkUndoneWrong)

/-- 'bobbinetkeep.PickLast': WHATEVER THE INPUT: true; the input reads as it did. -/
def pickLastSpec : ChangeSpec := { name := "pickLast", fn := fun _ => fun
  | [d1, d2] => { results := [.lit (.bool true)], args := [d1, d2] }
  | _ => none }
def pickLastRow : OpenClaim := { program := "ytaibikajpacemaa", sum := "41d49779e9bfe862c3282baee1a839f1db07c6eeca9bcce0212f2ad4d62e0007", func := "bobbinet/bobbinetkeep.PickLast", spec := "pickLast", unfollowed := true, recurses := true, apart := false }
def PickLastSaid : Prop := pickLastRow.holds Try.pinned (OpenSpec.ofChange pickLastSpec)

/-- ITS FALSE NEIGHBOUR: 'it returns false'. Refute it at one input. -/
def pickLastWrong : ChangeSpec := { name := "pickLast", fn := fun _ => fun
  | [d1, d2] => { results := [.lit (.bool false)], args := [d1, d2] }
  | _ => none }
def PickLastWrongFalsely : Prop := pickLastRow.holds Try.pinned (OpenSpec.ofChange pickLastWrong)

/-- 'bobbinetkeep.PickDeep': WHATEVER THE INPUT: true; the input reads as it did. -/
def pickDeepSpec : ChangeSpec := { name := "pickDeep", fn := fun _ => fun
  | [d1, d2] => { results := [.lit (.bool true)], args := [d1, d2] }
  | _ => none }
def pickDeepRow : OpenClaim := { program := "ytaibikajpacemaa", sum := "41d49779e9bfe862c3282baee1a839f1db07c6eeca9bcce0212f2ad4d62e0007", func := "bobbinet/bobbinetkeep.PickDeep", spec := "pickDeep", unfollowed := true, recurses := true, apart := false }
def PickDeepSaid : Prop := pickDeepRow.holds Try.pinned (OpenSpec.ofChange pickDeepSpec)

/-- ITS FALSE NEIGHBOUR: 'it returns false'. Refute it at one input. -/
def pickDeepWrong : ChangeSpec := { name := "pickDeep", fn := fun _ => fun
  | [d1, d2] => { results := [.lit (.bool false)], args := [d1, d2] }
  | _ => none }
def PickDeepWrongFalsely : Prop := pickDeepRow.holds Try.pinned (OpenSpec.ofChange pickDeepWrong)

/-- 'bobbinetkeep.PickCount': WHATEVER THE INPUT: true; the input reads as it did. -/
def pickCountSpec : ChangeSpec := { name := "pickCount", fn := fun _ => fun
  | [d1, d2] => { results := [.lit (.bool true)], args := [d1, d2] }
  | _ => none }
def pickCountRow : OpenClaim := { program := "ytaibikajpacemaa", sum := "41d49779e9bfe862c3282baee1a839f1db07c6eeca9bcce0212f2ad4d62e0007", func := "bobbinet/bobbinetkeep.PickCount", spec := "pickCount", unfollowed := true, recurses := true, apart := false }
def PickCountSaid : Prop := pickCountRow.holds Try.pinned (OpenSpec.ofChange pickCountSpec)

/-- ITS FALSE NEIGHBOUR: 'it returns false'. Refute it at one input. -/
def pickCountWrong : ChangeSpec := { name := "pickCount", fn := fun _ => fun
  | [d1, d2] => { results := [.lit (.bool false)], args := [d1, d2] }
  | _ => none }
def PickCountWrongFalsely : Prop := pickCountRow.holds Try.pinned (OpenSpec.ofChange pickCountWrong)

/-- 'bobbinetkeep.PickWithin': WHATEVER THE INPUT: true; the input reads as it did. -/
def pickWithinSpec : ChangeSpec := { name := "pickWithin", fn := fun _ => fun
  | [d1, d2, d3] => { results := [.lit (.bool true)], args := [d1, d2, d3] }
  | _ => none }
def pickWithinRow : OpenClaim := { program := "ytaibikajpacemaa", sum := "41d49779e9bfe862c3282baee1a839f1db07c6eeca9bcce0212f2ad4d62e0007", func := "bobbinet/bobbinetkeep.PickWithin", spec := "pickWithin", unfollowed := true, recurses := true, apart := false }
def PickWithinSaid : Prop := pickWithinRow.holds Try.pinned (OpenSpec.ofChange pickWithinSpec)

/-- ITS FALSE NEIGHBOUR: 'it returns false'. Refute it at one input. -/
def pickWithinWrong : ChangeSpec := { name := "pickWithin", fn := fun _ => fun
  | [d1, d2, d3] => { results := [.lit (.bool false)], args := [d1, d2, d3] }
  | _ => none }
def PickWithinWrongFalsely : Prop := pickWithinRow.holds Try.pinned (OpenSpec.ofChange pickWithinWrong)

/- THE SECOND FORM. 'bulk': how many values and letters a reading holds, each counted each time it is reached (what is shared counts as often as it is met; a slice's spare places count too). A statement '..UptoSaid' is the law's where the arguments, and the package variables that the reading takes, are together of bulk at most 1048576: NARROWER than '..Said'. Prove '..Said' where nothing that the law and all that it calls make is longer than what came in: it says more and counts as full. Else prove '..UptoSaid'. A law counts once. -/
mutual
def uptoBulk {H : Type} : DataW H → Nat
  | .lit (.string bytes) => bytes.length + 1
  | .lit _ => 1
  | .nil => 1
  | .ptr d => uptoBulk d + 1
  | .slice elems spare => uptoBulkAll elems + uptoBulkAll spare + 1
  | .agg parts => uptoBulkAll parts + 1
  | .iface _ d => uptoBulk d + 1
  | .map entries => uptoBulkEntries entries + 1
  | .held _ => 1
def uptoBulkAll {H : Type} : List (DataW H) → Nat
  | [] => 0
  | d :: r => uptoBulk d + uptoBulkAll r
def uptoBulkEntries {H : Type} : List (Lit × DataW H) → Nat
  | [] => 0
  | x :: r => uptoBulkEntry x + uptoBulkEntries r
def uptoBulkEntry {H : Type} : Lit × DataW H → Nat
  | (.string bytes, d) => bytes.length + uptoBulk d + 1
  | (_, d) => uptoBulk d + 1
 end
def uptoSmall : (H : Type) → List (DataW H) → Bool := fun _ ds => decide (uptoBulkAll ds ≤ 1048576)
def OpenSpec.upto (s : _root_.Go.ChangeSpec) : _root_.Go.OpenSpec := { _root_.Go.OpenSpec.ofChange s with cond := some uptoSmall }

/-- 'bobbinetkeep.WalkEach', WHERE WHAT IT READS IS OF BULK AT MOST 1048576: true; the input reads as it did. -/
def walkEachUptoRow : OpenClaim := { program := "ytaibikajpacemaa", sum := "41d49779e9bfe862c3282baee1a839f1db07c6eeca9bcce0212f2ad4d62e0007", func := "bobbinet/bobbinetkeep.WalkEach", spec := "walkEach", recurses := true, apart := false, narrowed := true }
def WalkEachUptoSaid : Prop := walkEachUptoRow.holds Try.pinned (OpenSpec.upto walkEachSpec)

/-- 'bobbinettop.TopWalk', WHERE WHAT IT READS IS OF BULK AT MOST 1048576: true; the input reads as it did. -/
def topWalkUptoRow : OpenClaim := { program := "ytaibikajpacemaa", sum := "41d49779e9bfe862c3282baee1a839f1db07c6eeca9bcce0212f2ad4d62e0007", func := "bobbinet/bobbinettop.TopWalk", spec := "topWalk", inPlace := ["slices.overlaps[bobbinet/api.Node]"], recurses := true, apart := false, narrowed := true }
def TopWalkUptoSaid : Prop := topWalkUptoRow.holds Try.pinned (OpenSpec.upto topWalkSpec)

/-- 'bobbinetkeep.WalkElsewhere', WHERE WHAT IT READS IS OF BULK AT MOST 1048576: true; the input reads as it did. -/
def walkElsewhereUptoRow : OpenClaim := { program := "ytaibikajpacemaa", sum := "41d49779e9bfe862c3282baee1a839f1db07c6eeca9bcce0212f2ad4d62e0007", func := "bobbinet/bobbinetkeep.WalkElsewhere", spec := "walkElsewhere", inPlace := ["slices.overlaps[bobbinet/api.Node]"], recurses := true, apart := false, narrowed := true }
def WalkElsewhereUptoSaid : Prop := walkElsewhereUptoRow.holds Try.pinned (OpenSpec.upto walkElsewhereSpec)

/-- 'bobbinetkeep.WalkParts', WHERE WHAT IT READS IS OF BULK AT MOST 1048576: true; the input reads as it did. -/
def walkPartsUptoRow : OpenClaim := { program := "ytaibikajpacemaa", sum := "41d49779e9bfe862c3282baee1a839f1db07c6eeca9bcce0212f2ad4d62e0007", func := "bobbinet/bobbinetkeep.WalkParts", spec := "walkParts", inPlace := ["slices.overlaps[bobbinet/api.Node]"], recurses := true, apart := false, narrowed := true }
def WalkPartsUptoSaid : Prop := walkPartsUptoRow.holds Try.pinned (OpenSpec.upto walkPartsSpec)

/-- 'bobbinetkeep.WalkUndone', WHERE WHAT IT READS IS OF BULK AT MOST 1048576: true; the input reads as it did. -/
def walkUndoneUptoRow : OpenClaim := { program := "ytaibikajpacemaa", sum := "41d49779e9bfe862c3282baee1a839f1db07c6eeca9bcce0212f2ad4d62e0007", func := "bobbinet/bobbinetkeep.WalkUndone", spec := "walkUndone", inPlace := ["slices.overlaps[bobbinet/api.Node]"], recurses := true, apart := false, narrowed := true }
def WalkUndoneUptoSaid : Prop := walkUndoneUptoRow.holds Try.pinned (OpenSpec.upto walkUndoneSpec)

/-- 'bobbinetkeep.PickLast', WHERE WHAT IT READS IS OF BULK AT MOST 1048576: true; the input reads as it did. -/
def pickLastUptoRow : OpenClaim := { program := "ytaibikajpacemaa", sum := "41d49779e9bfe862c3282baee1a839f1db07c6eeca9bcce0212f2ad4d62e0007", func := "bobbinet/bobbinetkeep.PickLast", spec := "pickLast", unfollowed := true, recurses := true, apart := false, narrowed := true }
def PickLastUptoSaid : Prop := pickLastUptoRow.holds Try.pinned (OpenSpec.upto pickLastSpec)

/-- 'bobbinetkeep.PickDeep', WHERE WHAT IT READS IS OF BULK AT MOST 1048576: true; the input reads as it did. -/
def pickDeepUptoRow : OpenClaim := { program := "ytaibikajpacemaa", sum := "41d49779e9bfe862c3282baee1a839f1db07c6eeca9bcce0212f2ad4d62e0007", func := "bobbinet/bobbinetkeep.PickDeep", spec := "pickDeep", unfollowed := true, recurses := true, apart := false, narrowed := true }
def PickDeepUptoSaid : Prop := pickDeepUptoRow.holds Try.pinned (OpenSpec.upto pickDeepSpec)

/-- 'bobbinetkeep.PickCount', WHERE WHAT IT READS IS OF BULK AT MOST 1048576: true; the input reads as it did. -/
def pickCountUptoRow : OpenClaim := { program := "ytaibikajpacemaa", sum := "41d49779e9bfe862c3282baee1a839f1db07c6eeca9bcce0212f2ad4d62e0007", func := "bobbinet/bobbinetkeep.PickCount", spec := "pickCount", unfollowed := true, recurses := true, apart := false, narrowed := true }
def PickCountUptoSaid : Prop := pickCountUptoRow.holds Try.pinned (OpenSpec.upto pickCountSpec)

/-- 'bobbinetkeep.PickWithin', WHERE WHAT IT READS IS OF BULK AT MOST 1048576: true; the input reads as it did. -/
def pickWithinUptoRow : OpenClaim := { program := "ytaibikajpacemaa", sum := "41d49779e9bfe862c3282baee1a839f1db07c6eeca9bcce0212f2ad4d62e0007", func := "bobbinet/bobbinetkeep.PickWithin", spec := "pickWithin", unfollowed := true, recurses := true, apart := false, narrowed := true }
def PickWithinUptoSaid : Prop := pickWithinUptoRow.holds Try.pinned (OpenSpec.upto pickWithinSpec)

end Rows
end Go.Proofs.Ytaibikajpacemaa
