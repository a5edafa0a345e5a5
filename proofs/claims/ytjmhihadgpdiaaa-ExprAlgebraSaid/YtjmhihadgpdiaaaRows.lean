/-
  No cell of these rows narrows 'for every input' (looked for: loops, veiled, ifaces, maps, wideKeys, modest, calm, conditions, laid).
  DERIVED. THE GIVEN ROWS OF THIS SEAT. 6 by the template 'for every input the law returns true; each argument reads behind the call as it read before'; 0 by the template 'total and deterministic' (their statements: YtjmhihadgpdiaaaTotals.lean).
  GIVEN WITH THE SEED: the statements are not yours to turn. If you find one false, say at which input.
  Laid BY PROGRAM, IN A SANDBOX (cutbox-rows.mjs): the forced cells as the released guide's own fill.sh prints them over the translation 1b4e3680eed49ca7… (all of the seat's roots in one cut). By AI agents, Wed Nov 11 2026. No macro, syntax, notation, axiom, sorry.
-/
import Derived.Test.YtjmhihadgpdiaaaChecked
import GoSem.Claim
import GoSem.ClaimJoined
import GoSem.ClaimMapViews
import Derived.JoinedTies
import Derived.KernelRfl
namespace Go.Proofs.Ytjmhihadgpdiaaa
/- THE CELL 'sum', in the pinned program and in every row, IS THE sha256 OF THE DUMP (.gsa) THAT YtjmhihadgpdiaaaProg.lean LOADS. Nothing in Lean hashes anything: it is a label: what it is worth is what the hold of that sum in a sandbox is worth. -/
noncomputable def Try.pinned : Pinned := { name := "ytjmhihadgpdiaaa", sum := "1b4e3680eed49ca765495a449711a2dc80a90cdbf492e54182c35bac0b7572c4", checked := Try.checked }
namespace Rows
def none {H : Type} : Left H := { results := [], args := [] }

/-- 'bobbinetkeep.ExprBack': WHATEVER THE INPUT: true; the input reads as it did. -/
def exprBackSpec : ChangeSpec := { name := "exprBack", fn := fun _ => fun
  | [d1, d2] => { results := [.lit (.bool true)], args := [d1, d2] }
  | _ => none }
def exprBackRow : OpenClaim := { program := "ytjmhihadgpdiaaa", sum := "1b4e3680eed49ca765495a449711a2dc80a90cdbf492e54182c35bac0b7572c4", func := "bobbinet/bobbinetkeep.ExprBack", spec := "exprBack", inPlace := ["internal/bytealg.IndexByteString", "internal/abi.NoEscape", "internal/bytealg.MakeNoZero"], unfollowed := true, recurses := true, apart := false }
def ExprBackSaid : Prop := exprBackRow.holds Try.pinned (OpenSpec.ofChange exprBackSpec)

/-- ITS FALSE NEIGHBOUR: 'it returns false'. Refute it at one input. -/
def exprBackWrong : ChangeSpec := { name := "exprBack", fn := fun _ => fun
  | [d1, d2] => { results := [.lit (.bool false)], args := [d1, d2] }
  | _ => none }
def ExprBackWrongFalsely : Prop := exprBackRow.holds Try.pinned (OpenSpec.ofChange exprBackWrong)

/-- 'bobbinetkeep.ExprAlgebra': WHATEVER THE INPUT: true; the input reads as it did. -/
def exprAlgebraSpec : ChangeSpec := { name := "exprAlgebra", fn := fun _ => fun
  | [d1, d2, d3, d4] => { results := [.lit (.bool true)], args := [d1, d2, d3, d4] }
  | _ => none }
def exprAlgebraRow : OpenClaim := { program := "ytjmhihadgpdiaaa", sum := "1b4e3680eed49ca765495a449711a2dc80a90cdbf492e54182c35bac0b7572c4", func := "bobbinet/bobbinetkeep.ExprAlgebra", spec := "exprAlgebra", inPlace := ["internal/bytealg.IndexByteString", "internal/abi.NoEscape", "internal/bytealg.MakeNoZero"], unfollowed := true, recurses := true, apart := false }
def ExprAlgebraSaid : Prop := exprAlgebraRow.holds Try.pinned (OpenSpec.ofChange exprAlgebraSpec)

/-- ITS FALSE NEIGHBOUR: 'it returns false'. Refute it at one input. -/
def exprAlgebraWrong : ChangeSpec := { name := "exprAlgebra", fn := fun _ => fun
  | [d1, d2, d3, d4] => { results := [.lit (.bool false)], args := [d1, d2, d3, d4] }
  | _ => none }
def ExprAlgebraWrongFalsely : Prop := exprAlgebraRow.holds Try.pinned (OpenSpec.ofChange exprAlgebraWrong)

/-- 'bobbinetkeep.ExprParts': WHATEVER THE INPUT: true; the input reads as it did. -/
def exprPartsSpec : ChangeSpec := { name := "exprParts", fn := fun _ => fun
  | [d1, d2, d3] => { results := [.lit (.bool true)], args := [d1, d2, d3] }
  | _ => none }
def exprPartsRow : OpenClaim := { program := "ytjmhihadgpdiaaa", sum := "1b4e3680eed49ca765495a449711a2dc80a90cdbf492e54182c35bac0b7572c4", func := "bobbinet/bobbinetkeep.ExprParts", spec := "exprParts", inPlace := ["internal/bytealg.IndexByteString", "internal/abi.NoEscape", "internal/bytealg.MakeNoZero"], unfollowed := true, recurses := true, apart := false }
def ExprPartsSaid : Prop := exprPartsRow.holds Try.pinned (OpenSpec.ofChange exprPartsSpec)

/-- ITS FALSE NEIGHBOUR: 'it returns false'. Refute it at one input. -/
def exprPartsWrong : ChangeSpec := { name := "exprParts", fn := fun _ => fun
  | [d1, d2, d3] => { results := [.lit (.bool false)], args := [d1, d2, d3] }
  | _ => none }
def ExprPartsWrongFalsely : Prop := exprPartsRow.holds Try.pinned (OpenSpec.ofChange exprPartsWrong)

/-- 'bobbinetkeep.ExprRenamed': WHATEVER THE INPUT: true; the input reads as it did. -/
def exprRenamedSpec : ChangeSpec := { name := "exprRenamed", fn := fun _ => fun
  | [d1, d2, d3] => { results := [.lit (.bool true)], args := [d1, d2, d3] }
  | _ => none }
def exprRenamedRow : OpenClaim := { program := "ytjmhihadgpdiaaa", sum := "1b4e3680eed49ca765495a449711a2dc80a90cdbf492e54182c35bac0b7572c4", func := "bobbinet/bobbinetkeep.ExprRenamed", spec := "exprRenamed", inPlace := ["internal/bytealg.IndexByteString", "internal/abi.NoEscape", "internal/bytealg.MakeNoZero"], unfollowed := true, recurses := true, apart := false }
def ExprRenamedSaid : Prop := exprRenamedRow.holds Try.pinned (OpenSpec.ofChange exprRenamedSpec)

/-- ITS FALSE NEIGHBOUR: 'it returns false'. Refute it at one input. -/
def exprRenamedWrong : ChangeSpec := { name := "exprRenamed", fn := fun _ => fun
  | [d1, d2, d3] => { results := [.lit (.bool false)], args := [d1, d2, d3] }
  | _ => none }
def ExprRenamedWrongFalsely : Prop := exprRenamedRow.holds Try.pinned (OpenSpec.ofChange exprRenamedWrong)

/-- 'bobbinetkeep.EmitParts': WHATEVER THE INPUT: true; the input reads as it did. -/
def emitPartsSpec : ChangeSpec := { name := "emitParts", fn := fun _ => fun
  | [d1, d2] => { results := [.lit (.bool true)], args := [d1, d2] }
  | _ => none }
def emitPartsRow : OpenClaim := { program := "ytjmhihadgpdiaaa", sum := "1b4e3680eed49ca765495a449711a2dc80a90cdbf492e54182c35bac0b7572c4", func := "bobbinet/bobbinetkeep.EmitParts", spec := "emitParts", inPlace := ["internal/abi.NoEscape"], unfollowed := true, recurses := true, apart := false }
def EmitPartsSaid : Prop := emitPartsRow.holds Try.pinned (OpenSpec.ofChange emitPartsSpec)

/-- ITS FALSE NEIGHBOUR: 'it returns false'. Refute it at one input. -/
def emitPartsWrong : ChangeSpec := { name := "emitParts", fn := fun _ => fun
  | [d1, d2] => { results := [.lit (.bool false)], args := [d1, d2] }
  | _ => none }
def EmitPartsWrongFalsely : Prop := emitPartsRow.holds Try.pinned (OpenSpec.ofChange emitPartsWrong)

/-- 'bobbinetkeep.ShowParts': WHATEVER THE INPUT: true; the input reads as it did. -/
def showPartsSpec : ChangeSpec := { name := "showParts", fn := fun _ => fun
  | [d1, d2] => { results := [.lit (.bool true)], args := [d1, d2] }
  | _ => none }
def showPartsRow : OpenClaim := { program := "ytjmhihadgpdiaaa", sum := "1b4e3680eed49ca765495a449711a2dc80a90cdbf492e54182c35bac0b7572c4", func := "bobbinet/bobbinetkeep.ShowParts", spec := "showParts", inPlace := ["internal/abi.NoEscape"], unfollowed := true, recurses := true, apart := false }
def ShowPartsSaid : Prop := showPartsRow.holds Try.pinned (OpenSpec.ofChange showPartsSpec)

/-- ITS FALSE NEIGHBOUR: 'it returns false'. Refute it at one input. -/
def showPartsWrong : ChangeSpec := { name := "showParts", fn := fun _ => fun
  | [d1, d2] => { results := [.lit (.bool false)], args := [d1, d2] }
  | _ => none }
def ShowPartsWrongFalsely : Prop := showPartsRow.holds Try.pinned (OpenSpec.ofChange showPartsWrong)

/- THE SECOND FORM. 'bulk': how many values and letters a reading holds, each counted each time it is reached (what is shared counts as often as it is met; a slice's spare places count too). A statement '..UptoSaid' is the law's where the arguments, and the package variables that the reading takes, are together of bulk at most 1048576: NARROWER than '..Said'. Prove '..Said' where nothing that the law and all that it calls make is longer than what came in: it says more and counts as full. Else prove '..UptoSaid'. A law counts once. -/
mutual
def uptoBulk {H : Type} : DataW H → Nat
  | .lit (.string bytes) => bytes.length + 1
  | .lit _ => 1
  | .nil => 1
  | .ptr d => uptoBulk d + 1
  | .slice elems spare => uptoBulkAll elems + uptoBulkAll spare + 1
  | .agg parts => uptoBulkAll parts + 1
  | .iface _ d => uptoBulk d + 1
  | .map entries => uptoBulkEntries entries + 1
  | .held _ => 1
def uptoBulkAll {H : Type} : List (DataW H) → Nat
  | [] => 0
  | d :: r => uptoBulk d + uptoBulkAll r
def uptoBulkEntries {H : Type} : List (Lit × DataW H) → Nat
  | [] => 0
  | x :: r => uptoBulkEntry x + uptoBulkEntries r
def uptoBulkEntry {H : Type} : Lit × DataW H → Nat
  | (.string bytes, d) => bytes.length + uptoBulk d + 1
  | (_, d) => uptoBulk d + 1
 end
def uptoSmall : (H : Type) → List (DataW H) → Bool := fun _ ds => decide (uptoBulkAll ds ≤ 1048576)
def OpenSpec.upto (s : _root_.Go.ChangeSpec) : _root_.Go.OpenSpec := { _root_.Go.OpenSpec.ofChange s with cond := some uptoSmall }

/-- 'bobbinetkeep.ExprBack', WHERE WHAT IT READS IS OF BULK AT MOST 1048576: true; the input reads as it did. -/
def exprBackUptoRow : OpenClaim := { program := "ytjmhihadgpdiaaa", sum := "1b4e3680eed49ca765495a449711a2dc80a90cdbf492e54182c35bac0b7572c4", func := "bobbinet/bobbinetkeep.ExprBack", spec := "exprBack", inPlace := ["internal/bytealg.IndexByteString", "internal/abi.NoEscape", "internal/bytealg.MakeNoZero"], unfollowed := true, recurses := true, apart := false, narrowed := true }
def ExprBackUptoSaid : Prop := exprBackUptoRow.holds Try.pinned (OpenSpec.upto exprBackSpec)

/-- 'bobbinetkeep.ExprAlgebra', WHERE WHAT IT READS IS OF BULK AT MOST 1048576: true; the input reads as it did. -/
def exprAlgebraUptoRow : OpenClaim := { program := "ytjmhihadgpdiaaa", sum := "1b4e3680eed49ca765495a449711a2dc80a90cdbf492e54182c35bac0b7572c4", func := "bobbinet/bobbinetkeep.ExprAlgebra", spec := "exprAlgebra", inPlace := ["internal/bytealg.IndexByteString", "internal/abi.NoEscape", "internal/bytealg.MakeNoZero"], unfollowed := true, recurses := true, apart := false, narrowed := true }
def ExprAlgebraUptoSaid : Prop := exprAlgebraUptoRow.holds Try.pinned (OpenSpec.upto exprAlgebraSpec)

/-- 'bobbinetkeep.ExprParts', WHERE WHAT IT READS IS OF BULK AT MOST 1048576: true; the input reads as it did. -/
def exprPartsUptoRow : OpenClaim := { program := "ytjmhihadgpdiaaa", sum := "1b4e3680eed49ca765495a449711a2dc80a90cdbf492e54182c35bac0b7572c4", func := "bobbinet/bobbinetkeep.ExprParts", spec := "exprParts", inPlace := ["internal/bytealg.IndexByteString", "internal/abi.NoEscape", "internal/bytealg.MakeNoZero"], unfollowed := true, recurses := true, apart := false, narrowed := true }
def ExprPartsUptoSaid : Prop := exprPartsUptoRow.holds Try.pinned (OpenSpec.upto exprPartsSpec)

/-- 'bobbinetkeep.ExprRenamed', WHERE WHAT IT READS IS OF BULK AT MOST 1048576: true; the input reads as it did. -/
def exprRenamedUptoRow : OpenClaim := { program := "ytjmhihadgpdiaaa", sum := "1b4e3680eed49ca765495a449711a2dc80a90cdbf492e54182c35bac0b7572c4", func := "bobbinet/bobbinetkeep.ExprRenamed", spec := "exprRenamed", inPlace := ["internal/bytealg.IndexByteString", "internal/abi.NoEscape", "internal/bytealg.MakeNoZero"], unfollowed := true, recurses := true, apart := false, narrowed := true }
def ExprRenamedUptoSaid : Prop := exprRenamedUptoRow.holds Try.pinned (OpenSpec.upto exprRenamedSpec)

/-- 'bobbinetkeep.EmitParts', WHERE WHAT IT READS IS OF BULK AT MOST 1048576: true; the input reads as it did. -/
def emitPartsUptoRow : OpenClaim := { program := "ytjmhihadgpdiaaa", sum := "1b4e3680eed49ca765495a449711a2dc80a90cdbf492e54182c35bac0b7572c4", func := "bobbinet/bobbinetkeep.EmitParts", spec := "emitParts", inPlace := ["internal/abi.NoEscape"], unfollowed := true, recurses := true, apart := false, narrowed := true }
def EmitPartsUptoSaid : Prop := emitPartsUptoRow.holds Try.pinned (OpenSpec.upto emitPartsSpec)

/-- 'bobbinetkeep.ShowParts', WHERE WHAT IT READS IS OF BULK AT MOST 1048576: true; the input reads as it did. -/
def showPartsUptoRow : OpenClaim := { program := "ytjmhihadgpdiaaa", sum := "1b4e3680eed49ca765495a449711a2dc80a90cdbf492e54182c35bac0b7572c4", func := "bobbinet/bobbinetkeep.ShowParts", spec := "showParts", inPlace := ["internal/abi.NoEscape"], unfollowed := true, recurses := true, apart := false, narrowed := true }
def ShowPartsUptoSaid : Prop := showPartsUptoRow.holds Try.pinned (OpenSpec.upto showPartsSpec)

end Rows
end Go.Proofs.Ytjmhihadgpdiaaa
