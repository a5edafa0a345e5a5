/-
  No cell of these rows narrows 'for every input' (looked for: loops, veiled, ifaces, maps, wideKeys, modest, calm, conditions, laid).
  DERIVED. THE GIVEN ROWS OF THIS SEAT. 11 by the template 'for every input the law returns true; each argument reads behind the call as it read before'; 0 by the template 'total and deterministic' (their statements: YthimfdojpgbmbaaTotals.lean).
  GIVEN WITH THE SEED: the statements are not yours to turn. If you find one false, say at which input.
  Laid BY PROGRAM, IN A SANDBOX (cutbox-rows.mjs): the forced cells as the released guide's own fill.sh prints them over the translation 448195757d4fedb7… (all of the seat's roots in one cut). By AI agents, Wed Nov 11 2026. No macro, syntax, notation, axiom, sorry.
-/
import Derived.Test.YthimfdojpgbmbaaChecked
import GoSem.Claim
import GoSem.ClaimJoined
import GoSem.ClaimMapViews
import Derived.JoinedTies
import Derived.KernelRfl
namespace Go.Proofs.Ythimfdojpgbmbaa
/- THE CELL 'sum', in the pinned program and in every row, IS THE sha256 OF THE DUMP (.gsa) THAT YthimfdojpgbmbaaProg.lean LOADS. Nothing in Lean hashes anything: it is a label: what it is worth is what the hold of that sum in a sandbox is worth. -/
noncomputable def Try.pinned : Pinned := { name := "ythimfdojpgbmbaa", sum := "448195757d4fedb74dde08d33619645bfe00338b09216197eb5357ee069d8c93", checked := Try.checked }
namespace Rows
def none {H : Type} : Left H := { results := [], args := [] }

/-- 'bobbinetkeep.UtfCount': WHATEVER THE INPUT: true; the input reads as it did. -/
def utfCountSpec : ChangeSpec := { name := "utfCount", fn := fun _ => fun
  | [d1, d2] => { results := [.lit (.bool true)], args := [d1, d2] }
  | _ => none }
def utfCountRow : OpenClaim := { program := "ythimfdojpgbmbaa", sum := "448195757d4fedb74dde08d33619645bfe00338b09216197eb5357ee069d8c93", func := "bobbinet/bobbinetkeep.UtfCount", spec := "utfCount", apart := false }
def UtfCountSaid : Prop := utfCountRow.holds Try.pinned (OpenSpec.ofChange utfCountSpec)

/-- ITS FALSE NEIGHBOUR: 'it returns false'. Refute it at one input. -/
def utfCountWrong : ChangeSpec := { name := "utfCount", fn := fun _ => fun
  | [d1, d2] => { results := [.lit (.bool false)], args := [d1, d2] }
  | _ => none }
def UtfCountWrongFalsely : Prop := utfCountRow.holds Try.pinned (OpenSpec.ofChange utfCountWrong)

/-- 'bobbinetkeep.CleanLines': WHATEVER THE INPUT: true; the input reads as it did. -/
def cleanLinesSpec : ChangeSpec := { name := "cleanLines", fn := fun _ => fun
  | [d1, d2] => { results := [.lit (.bool true)], args := [d1, d2] }
  | _ => none }
def cleanLinesRow : OpenClaim := { program := "ythimfdojpgbmbaa", sum := "448195757d4fedb74dde08d33619645bfe00338b09216197eb5357ee069d8c93", func := "bobbinet/bobbinetkeep.CleanLines", spec := "cleanLines", apart := false }
def CleanLinesSaid : Prop := cleanLinesRow.holds Try.pinned (OpenSpec.ofChange cleanLinesSpec)

/-- ITS FALSE NEIGHBOUR: 'it returns false'. Refute it at one input. -/
def cleanLinesWrong : ChangeSpec := { name := "cleanLines", fn := fun _ => fun
  | [d1, d2] => { results := [.lit (.bool false)], args := [d1, d2] }
  | _ => none }
def CleanLinesWrongFalsely : Prop := cleanLinesRow.holds Try.pinned (OpenSpec.ofChange cleanLinesWrong)

/-- 'bobbinetkeep.CleanParts': WHATEVER THE INPUT: true; the input reads as it did. -/
def cleanPartsSpec : ChangeSpec := { name := "cleanParts", fn := fun _ => fun
  | [d1, d2] => { results := [.lit (.bool true)], args := [d1, d2] }
  | _ => none }
def cleanPartsRow : OpenClaim := { program := "ythimfdojpgbmbaa", sum := "448195757d4fedb74dde08d33619645bfe00338b09216197eb5357ee069d8c93", func := "bobbinet/bobbinetkeep.CleanParts", spec := "cleanParts", apart := false }
def CleanPartsSaid : Prop := cleanPartsRow.holds Try.pinned (OpenSpec.ofChange cleanPartsSpec)

/-- ITS FALSE NEIGHBOUR: 'it returns false'. Refute it at one input. -/
def cleanPartsWrong : ChangeSpec := { name := "cleanParts", fn := fun _ => fun
  | [d1, d2] => { results := [.lit (.bool false)], args := [d1, d2] }
  | _ => none }
def CleanPartsWrongFalsely : Prop := cleanPartsRow.holds Try.pinned (OpenSpec.ofChange cleanPartsWrong)

/-- 'bobbinetkeep.CleanOnce': WHATEVER THE INPUT: true; the input reads as it did. -/
def cleanOnceSpec : ChangeSpec := { name := "cleanOnce", fn := fun _ => fun
  | [d] => { results := [.lit (.bool true)], args := [d] }
  | _ => none }
def cleanOnceRow : OpenClaim := { program := "ythimfdojpgbmbaa", sum := "448195757d4fedb74dde08d33619645bfe00338b09216197eb5357ee069d8c93", func := "bobbinet/bobbinetkeep.CleanOnce", spec := "cleanOnce", apart := false }
def CleanOnceSaid : Prop := cleanOnceRow.holds Try.pinned (OpenSpec.ofChange cleanOnceSpec)

/-- ITS FALSE NEIGHBOUR: 'it returns false'. Refute it at one input. -/
def cleanOnceWrong : ChangeSpec := { name := "cleanOnce", fn := fun _ => fun
  | [d] => { results := [.lit (.bool false)], args := [d] }
  | _ => none }
def CleanOnceWrongFalsely : Prop := cleanOnceRow.holds Try.pinned (OpenSpec.ofChange cleanOnceWrong)

/-- 'bobbinetkeep.UtfBack': WHATEVER THE INPUT: true; the input reads as it did. -/
def utfBackSpec : ChangeSpec := { name := "utfBack", fn := fun _ => fun
  | [d1, d2] => { results := [.lit (.bool true)], args := [d1, d2] }
  | _ => none }
def utfBackRow : OpenClaim := { program := "ythimfdojpgbmbaa", sum := "448195757d4fedb74dde08d33619645bfe00338b09216197eb5357ee069d8c93", func := "bobbinet/bobbinetkeep.UtfBack", spec := "utfBack", apart := false }
def UtfBackSaid : Prop := utfBackRow.holds Try.pinned (OpenSpec.ofChange utfBackSpec)

/-- ITS FALSE NEIGHBOUR: 'it returns false'. Refute it at one input. -/
def utfBackWrong : ChangeSpec := { name := "utfBack", fn := fun _ => fun
  | [d1, d2] => { results := [.lit (.bool false)], args := [d1, d2] }
  | _ => none }
def UtfBackWrongFalsely : Prop := utfBackRow.holds Try.pinned (OpenSpec.ofChange utfBackWrong)

/-- 'bobbinetkeep.UtfOrder': WHATEVER THE INPUT: true; the input reads as it did. -/
def utfOrderSpec : ChangeSpec := { name := "utfOrder", fn := fun _ => fun
  | [d1, d2] => { results := [.lit (.bool true)], args := [d1, d2] }
  | _ => none }
def utfOrderRow : OpenClaim := { program := "ythimfdojpgbmbaa", sum := "448195757d4fedb74dde08d33619645bfe00338b09216197eb5357ee069d8c93", func := "bobbinet/bobbinetkeep.UtfOrder", spec := "utfOrder", apart := false }
def UtfOrderSaid : Prop := utfOrderRow.holds Try.pinned (OpenSpec.ofChange utfOrderSpec)

/-- ITS FALSE NEIGHBOUR: 'it returns false'. Refute it at one input. -/
def utfOrderWrong : ChangeSpec := { name := "utfOrder", fn := fun _ => fun
  | [d1, d2] => { results := [.lit (.bool false)], args := [d1, d2] }
  | _ => none }
def UtfOrderWrongFalsely : Prop := utfOrderRow.holds Try.pinned (OpenSpec.ofChange utfOrderWrong)

/-- 'bobbinetkeep.SpaceOnce': WHATEVER THE INPUT: true; the input reads as it did. -/
def spaceOnceSpec : ChangeSpec := { name := "spaceOnce", fn := fun _ => fun
  | [d1, d2, d3] => { results := [.lit (.bool true)], args := [d1, d2, d3] }
  | _ => none }
def spaceOnceRow : OpenClaim := { program := "ythimfdojpgbmbaa", sum := "448195757d4fedb74dde08d33619645bfe00338b09216197eb5357ee069d8c93", func := "bobbinet/bobbinetkeep.SpaceOnce", spec := "spaceOnce", inPlace := ["internal/abi.NoEscape"], unfollowed := true, recurses := true, apart := false }
def SpaceOnceSaid : Prop := spaceOnceRow.holds Try.pinned (OpenSpec.ofChange spaceOnceSpec)

/-- ITS FALSE NEIGHBOUR: 'it returns false'. Refute it at one input. -/
def spaceOnceWrong : ChangeSpec := { name := "spaceOnce", fn := fun _ => fun
  | [d1, d2, d3] => { results := [.lit (.bool false)], args := [d1, d2, d3] }
  | _ => none }
def SpaceOnceWrongFalsely : Prop := spaceOnceRow.holds Try.pinned (OpenSpec.ofChange spaceOnceWrong)

/-- 'bobbinetkeep.StyleOnce': WHATEVER THE INPUT: true; the input reads as it did. -/
def styleOnceSpec : ChangeSpec := { name := "styleOnce", fn := fun _ => fun
  | [d] => { results := [.lit (.bool true)], args := [d] }
  | _ => none }
def styleOnceRow : OpenClaim := { program := "ythimfdojpgbmbaa", sum := "448195757d4fedb74dde08d33619645bfe00338b09216197eb5357ee069d8c93", func := "bobbinet/bobbinetkeep.StyleOnce", spec := "styleOnce", unfollowed := true, recurses := true, apart := false }
def StyleOnceSaid : Prop := styleOnceRow.holds Try.pinned (OpenSpec.ofChange styleOnceSpec)

/-- ITS FALSE NEIGHBOUR: 'it returns false'. Refute it at one input. -/
def styleOnceWrong : ChangeSpec := { name := "styleOnce", fn := fun _ => fun
  | [d] => { results := [.lit (.bool false)], args := [d] }
  | _ => none }
def StyleOnceWrongFalsely : Prop := styleOnceRow.holds Try.pinned (OpenSpec.ofChange styleOnceWrong)

/-- 'bobbinetkeep.RulesOnly': WHATEVER THE INPUT: true; the input reads as it did. -/
def rulesOnlySpec : ChangeSpec := { name := "rulesOnly", fn := fun _ => fun
  | [d1, d2] => { results := [.lit (.bool true)], args := [d1, d2] }
  | _ => none }
def rulesOnlyRow : OpenClaim := { program := "ythimfdojpgbmbaa", sum := "448195757d4fedb74dde08d33619645bfe00338b09216197eb5357ee069d8c93", func := "bobbinet/bobbinetkeep.RulesOnly", spec := "rulesOnly", unfollowed := true, recurses := true, apart := false }
def RulesOnlySaid : Prop := rulesOnlyRow.holds Try.pinned (OpenSpec.ofChange rulesOnlySpec)

/-- ITS FALSE NEIGHBOUR: 'it returns false'. Refute it at one input. -/
def rulesOnlyWrong : ChangeSpec := { name := "rulesOnly", fn := fun _ => fun
  | [d1, d2] => { results := [.lit (.bool false)], args := [d1, d2] }
  | _ => none }
def RulesOnlyWrongFalsely : Prop := rulesOnlyRow.holds Try.pinned (OpenSpec.ofChange rulesOnlyWrong)

/-- 'bobbinetkeep.RulesTwice': WHATEVER THE INPUT: true; the input reads as it did. -/
def rulesTwiceSpec : ChangeSpec := { name := "rulesTwice", fn := fun _ => fun
  | [d1, d2] => { results := [.lit (.bool true)], args := [d1, d2] }
  | _ => none }
def rulesTwiceRow : OpenClaim := { program := "ythimfdojpgbmbaa", sum := "448195757d4fedb74dde08d33619645bfe00338b09216197eb5357ee069d8c93", func := "bobbinet/bobbinetkeep.RulesTwice", spec := "rulesTwice", unfollowed := true, recurses := true, apart := false }
def RulesTwiceSaid : Prop := rulesTwiceRow.holds Try.pinned (OpenSpec.ofChange rulesTwiceSpec)

/-- ITS FALSE NEIGHBOUR: 'it returns false'. Refute it at one input. -/
def rulesTwiceWrong : ChangeSpec := { name := "rulesTwice", fn := fun _ => fun
  | [d1, d2] => { results := [.lit (.bool false)], args := [d1, d2] }
  | _ => none }
def RulesTwiceWrongFalsely : Prop := rulesTwiceRow.holds Try.pinned (OpenSpec.ofChange rulesTwiceWrong)

/-- 'bobbinetkeep.RulesPlain': WHATEVER THE INPUT: true; the input reads as it did. -/
def rulesPlainSpec : ChangeSpec := { name := "rulesPlain", fn := fun _ => fun
  | [d] => { results := [.lit (.bool true)], args := [d] }
  | _ => none }
def rulesPlainRow : OpenClaim := { program := "ythimfdojpgbmbaa", sum := "448195757d4fedb74dde08d33619645bfe00338b09216197eb5357ee069d8c93", func := "bobbinet/bobbinetkeep.RulesPlain", spec := "rulesPlain", unfollowed := true, recurses := true, apart := false }
def RulesPlainSaid : Prop := rulesPlainRow.holds Try.pinned (OpenSpec.ofChange rulesPlainSpec)

/-- ITS FALSE NEIGHBOUR: 'it returns false'. Refute it at one input. -/
def rulesPlainWrong : ChangeSpec := { name := "rulesPlain", fn := fun _ => fun
  | [d] => { results := [.lit (.bool false)], args := [d] }
  | _ => none }
def RulesPlainWrongFalsely : Prop := rulesPlainRow.holds Try.pinned (OpenSpec.ofChange rulesPlainWrong)

/- THE SECOND FORM. 'bulk': how many values and letters a reading holds, each counted each time it is reached (what is shared counts as often as it is met; a slice's spare places count too). A statement '..UptoSaid' is the law's where the arguments, and the package variables that the reading takes, are together of bulk at most 1048576: NARROWER than '..Said'. Prove '..Said' where nothing that the law and all that it calls make is longer than what came in: it says more and counts as full. Else prove '..UptoSaid'. A law counts once. -/
mutual
def uptoBulk {H : Type} : DataW H → Nat
  | .lit (.string bytes) => bytes.length + 1
  | .lit _ => 1
  | .nil => 1
  | .ptr d => uptoBulk d + 1
  | .slice elems spare => uptoBulkAll elems + uptoBulkAll spare + 1
  | .agg parts => uptoBulkAll parts + 1
  | .iface _ d => uptoBulk d + 1
  | .map entries => uptoBulkEntries entries + 1
  | .held _ => 1
def uptoBulkAll {H : Type} : List (DataW H) → Nat
  | [] => 0
  | d :: r => uptoBulk d + uptoBulkAll r
def uptoBulkEntries {H : Type} : List (Lit × DataW H) → Nat
  | [] => 0
  | x :: r => uptoBulkEntry x + uptoBulkEntries r
def uptoBulkEntry {H : Type} : Lit × DataW H → Nat
  | (.string bytes, d) => bytes.length + uptoBulk d + 1
  | (_, d) => uptoBulk d + 1
 end
def uptoSmall : (H : Type) → List (DataW H) → Bool := fun _ ds => decide (uptoBulkAll ds ≤ 1048576)
def OpenSpec.upto (s : _root_.Go.ChangeSpec) : _root_.Go.OpenSpec := { _root_.Go.OpenSpec.ofChange s with cond := some uptoSmall }

/-- 'bobbinetkeep.UtfCount', WHERE WHAT IT READS IS OF BULK AT MOST 1048576: true; the input reads as it did. -/
def utfCountUptoRow : OpenClaim := { program := "ythimfdojpgbmbaa", sum := "448195757d4fedb74dde08d33619645bfe00338b09216197eb5357ee069d8c93", func := "bobbinet/bobbinetkeep.UtfCount", spec := "utfCount", apart := false, narrowed := true }
def UtfCountUptoSaid : Prop := utfCountUptoRow.holds Try.pinned (OpenSpec.upto utfCountSpec)

/-- 'bobbinetkeep.CleanLines', WHERE WHAT IT READS IS OF BULK AT MOST 1048576: true; the input reads as it did. -/
def cleanLinesUptoRow : OpenClaim := { program := "ythimfdojpgbmbaa", sum := "448195757d4fedb74dde08d33619645bfe00338b09216197eb5357ee069d8c93", func := "bobbinet/bobbinetkeep.CleanLines", spec := "cleanLines", apart := false, narrowed := true }
def CleanLinesUptoSaid : Prop := cleanLinesUptoRow.holds Try.pinned (OpenSpec.upto cleanLinesSpec)

/-- 'bobbinetkeep.CleanParts', WHERE WHAT IT READS IS OF BULK AT MOST 1048576: true; the input reads as it did. -/
def cleanPartsUptoRow : OpenClaim := { program := "ythimfdojpgbmbaa", sum := "448195757d4fedb74dde08d33619645bfe00338b09216197eb5357ee069d8c93", func := "bobbinet/bobbinetkeep.CleanParts", spec := "cleanParts", apart := false, narrowed := true }
def CleanPartsUptoSaid : Prop := cleanPartsUptoRow.holds Try.pinned (OpenSpec.upto cleanPartsSpec)

/-- 'bobbinetkeep.CleanOnce', WHERE WHAT IT READS IS OF BULK AT MOST 1048576: true; the input reads as it did. -/
def cleanOnceUptoRow : OpenClaim := { program := "ythimfdojpgbmbaa", sum := "448195757d4fedb74dde08d33619645bfe00338b09216197eb5357ee069d8c93", func := "bobbinet/bobbinetkeep.CleanOnce", spec := "cleanOnce", apart := false, narrowed := true }
def CleanOnceUptoSaid : Prop := cleanOnceUptoRow.holds Try.pinned (OpenSpec.upto cleanOnceSpec)

/-- 'bobbinetkeep.UtfBack', WHERE WHAT IT READS IS OF BULK AT MOST 1048576: true; the input reads as it did. -/
def utfBackUptoRow : OpenClaim := { program := "ythimfdojpgbmbaa", sum := "448195757d4fedb74dde08d33619645bfe00338b09216197eb5357ee069d8c93", func := "bobbinet/bobbinetkeep.UtfBack", spec := "utfBack", apart := false, narrowed := true }
def UtfBackUptoSaid : Prop := utfBackUptoRow.holds Try.pinned (OpenSpec.upto utfBackSpec)

/-- 'bobbinetkeep.UtfOrder', WHERE WHAT IT READS IS OF BULK AT MOST 1048576: true; the input reads as it did. -/
def utfOrderUptoRow : OpenClaim := { program := "ythimfdojpgbmbaa", sum := "448195757d4fedb74dde08d33619645bfe00338b09216197eb5357ee069d8c93", func := "bobbinet/bobbinetkeep.UtfOrder", spec := "utfOrder", apart := false, narrowed := true }
def UtfOrderUptoSaid : Prop := utfOrderUptoRow.holds Try.pinned (OpenSpec.upto utfOrderSpec)

/-- 'bobbinetkeep.SpaceOnce', WHERE WHAT IT READS IS OF BULK AT MOST 1048576: true; the input reads as it did. -/
def spaceOnceUptoRow : OpenClaim := { program := "ythimfdojpgbmbaa", sum := "448195757d4fedb74dde08d33619645bfe00338b09216197eb5357ee069d8c93", func := "bobbinet/bobbinetkeep.SpaceOnce", spec := "spaceOnce", inPlace := ["internal/abi.NoEscape"], unfollowed := true, recurses := true, apart := false, narrowed := true }
def SpaceOnceUptoSaid : Prop := spaceOnceUptoRow.holds Try.pinned (OpenSpec.upto spaceOnceSpec)

/-- 'bobbinetkeep.StyleOnce', WHERE WHAT IT READS IS OF BULK AT MOST 1048576: true; the input reads as it did. -/
def styleOnceUptoRow : OpenClaim := { program := "ythimfdojpgbmbaa", sum := "448195757d4fedb74dde08d33619645bfe00338b09216197eb5357ee069d8c93", func := "bobbinet/bobbinetkeep.StyleOnce", spec := "styleOnce", unfollowed := true, recurses := true, apart := false, narrowed := true }
def StyleOnceUptoSaid : Prop := styleOnceUptoRow.holds Try.pinned (OpenSpec.upto styleOnceSpec)

/-- 'bobbinetkeep.RulesOnly', WHERE WHAT IT READS IS OF BULK AT MOST 1048576: true; the input reads as it did. -/
def rulesOnlyUptoRow : OpenClaim := { program := "ythimfdojpgbmbaa", sum := "448195757d4fedb74dde08d33619645bfe00338b09216197eb5357ee069d8c93", func := "bobbinet/bobbinetkeep.RulesOnly", spec := "rulesOnly", unfollowed := true, recurses := true, apart := false, narrowed := true }
def RulesOnlyUptoSaid : Prop := rulesOnlyUptoRow.holds Try.pinned (OpenSpec.upto rulesOnlySpec)

/-- 'bobbinetkeep.RulesTwice', WHERE WHAT IT READS IS OF BULK AT MOST 1048576: true; the input reads as it did. -/
def rulesTwiceUptoRow : OpenClaim := { program := "ythimfdojpgbmbaa", sum := "448195757d4fedb74dde08d33619645bfe00338b09216197eb5357ee069d8c93", func := "bobbinet/bobbinetkeep.RulesTwice", spec := "rulesTwice", unfollowed := true, recurses := true, apart := false, narrowed := true }
def RulesTwiceUptoSaid : Prop := rulesTwiceUptoRow.holds Try.pinned (OpenSpec.upto rulesTwiceSpec)

/-- 'bobbinetkeep.RulesPlain', WHERE WHAT IT READS IS OF BULK AT MOST 1048576: true; the input reads as it did. -/
def rulesPlainUptoRow : OpenClaim := { program := "ythimfdojpgbmbaa", sum := "448195757d4fedb74dde08d33619645bfe00338b09216197eb5357ee069d8c93", func := "bobbinet/bobbinetkeep.RulesPlain", spec := "rulesPlain", unfollowed := true, recurses := true, apart := false, narrowed := true }
def RulesPlainUptoSaid : Prop := rulesPlainUptoRow.holds Try.pinned (OpenSpec.upto rulesPlainSpec)

end Rows
end Go.Proofs.Ythimfdojpgbmbaa
