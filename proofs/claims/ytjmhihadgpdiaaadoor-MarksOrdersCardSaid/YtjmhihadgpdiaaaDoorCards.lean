/-
  DERIVED. GIVEN WITH THE SEED: THE CARDS: each row of YtjmhihadgpdiaaaDoorRows.lean that lists a variable, with what it lists TIED to the program's text (the seventh form; the later family's looks); each row that meets fmt, with fmt's text TOLD by the authors' own Lean function (tested against real Go, not proved from fmt's source: count such statements apart). THE CARD IS WHAT COUNTS. Prove the row's statement (the work); the ties are given (YtjmhihadgpdiaaaDoorTie.lean); close each card by the builder's one call (the guide's Derived/Test/ToyasCard.lean, 'card_holds'). Laid BY PROGRAM, IN A SANDBOX (cutbox-door.mjs). By AI agents, Wed Nov 11 2026. No macro, syntax, notation, axiom, sorry.
-/
import Derived.Test.YtjmhihadgpdiaaaDoorRows
import GoSem.ClaimSeven
namespace Go.Proofs.YtjmhihadgpdiaaaDoor
namespace Rows

/-- THE TIED CARD OF 'bobbinetkeep.MarksNested'. -/
def marksNestedCard : Claim7 := { stood := { row := marksNestedRow, standIns := [], harness := (true, "fb52be97aa27597d09758191330333f95b9139d9e2e7f5c1acb1e5f5e32cce18"), looks := false }, kinds := [], alts := [], laidByText := true, laidKinds := [.listed, .data], laidTests := true, laidLooks := .later }
def MarksNestedCardSaid : Prop := Claim7.holds Tryd.pinned (.plain (OpenSpec.ofChange marksNestedSpec)) marksNestedCard

/-- THE TIED CARD OF 'bobbinetkeep.MarksBack'. -/
def marksBackCard : Claim7 := { stood := { row := marksBackRow, standIns := [], harness := (true, "fb52be97aa27597d09758191330333f95b9139d9e2e7f5c1acb1e5f5e32cce18"), looks := false }, kinds := [], alts := [], laidByText := true, laidKinds := [.listed, .data], laidTests := true, laidLooks := .later }
def MarksBackCardSaid : Prop := Claim7.holds Tryd.pinned (.plain (OpenSpec.ofChange marksBackSpec)) marksBackCard

/-- THE TIED CARD OF 'bobbinetkeep.MarksOrders'. -/
def marksOrdersCard : Claim7 := { stood := { row := marksOrdersRow, standIns := [], harness := (true, "fb52be97aa27597d09758191330333f95b9139d9e2e7f5c1acb1e5f5e32cce18"), looks := false }, kinds := [], alts := [], laidByText := true, laidKinds := [.listed, .data], laidTests := true, laidLooks := .later }
def MarksOrdersCardSaid : Prop := Claim7.holds Tryd.pinned (.plain (OpenSpec.ofChange marksOrdersSpec)) marksOrdersCard

/-- THE SECOND FORM's CARD OF 'bobbinetkeep.MarksNested'. -/
def marksNestedUptoCard : Claim7 := { stood := { row := marksNestedUptoRow, standIns := [], harness := (true, "fb52be97aa27597d09758191330333f95b9139d9e2e7f5c1acb1e5f5e32cce18"), looks := false }, kinds := [], alts := [], laidByText := true, laidKinds := [.listed, .data], laidTests := true, laidLooks := .later }
def MarksNestedUptoCardSaid : Prop := Claim7.holds Tryd.pinned (.plain (OpenSpec.upto marksNestedSpec)) marksNestedUptoCard

/-- THE SECOND FORM's CARD OF 'bobbinetkeep.MarksBack'. -/
def marksBackUptoCard : Claim7 := { stood := { row := marksBackUptoRow, standIns := [], harness := (true, "fb52be97aa27597d09758191330333f95b9139d9e2e7f5c1acb1e5f5e32cce18"), looks := false }, kinds := [], alts := [], laidByText := true, laidKinds := [.listed, .data], laidTests := true, laidLooks := .later }
def MarksBackUptoCardSaid : Prop := Claim7.holds Tryd.pinned (.plain (OpenSpec.upto marksBackSpec)) marksBackUptoCard

/-- THE SECOND FORM's CARD OF 'bobbinetkeep.MarksOrders'. -/
def marksOrdersUptoCard : Claim7 := { stood := { row := marksOrdersUptoRow, standIns := [], harness := (true, "fb52be97aa27597d09758191330333f95b9139d9e2e7f5c1acb1e5f5e32cce18"), looks := false }, kinds := [], alts := [], laidByText := true, laidKinds := [.listed, .data], laidTests := true, laidLooks := .later }
def MarksOrdersUptoCardSaid : Prop := Claim7.holds Tryd.pinned (.plain (OpenSpec.upto marksOrdersSpec)) marksOrdersUptoCard
end Rows
end Go.Proofs.YtjmhihadgpdiaaaDoor
