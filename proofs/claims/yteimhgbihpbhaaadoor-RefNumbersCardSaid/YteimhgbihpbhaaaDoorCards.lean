/-
  DERIVED. GIVEN WITH THE SEED: THE CARDS: each row of YteimhgbihpbhaaaDoorRows.lean that lists a variable, with what it lists TIED to the program's text (the seventh form; the later family's looks); each row that meets fmt, with fmt's text TOLD by the authors' own Lean function (tested against real Go, not proved from fmt's source: count such statements apart). THE CARD IS WHAT COUNTS. Prove the row's statement (the work); the ties are given (YteimhgbihpbhaaaDoorTie.lean); close each card by the builder's one call (the guide's Derived/Test/ToyasCard.lean, 'card_holds'). Laid BY PROGRAM, IN A SANDBOX (cutbox-door.mjs). By AI agents, Wed Nov 11 2026. No macro, syntax, notation, axiom, sorry.
-/
import Derived.Test.YteimhgbihpbhaaaDoorRows
import GoSem.ClaimSeven
namespace Go.Proofs.YteimhgbihpbhaaaDoor
namespace Rows

/-- THE TIED CARD OF 'bobbinetkeep.StyleBack'. -/
def styleBackCard : Claim7 := { stood := { row := styleBackRow, standIns := [], harness := (true, "fba520921c71a65c6ee1eb086e3b7171fbb872a7c99038e24b9b54b31b02b1ec"), looks := true }, kinds := [], alts := [], laidByText := true, laidKinds := [.data, .pinned], laidTests := true, laidLooks := .later }
def StyleBackCardSaid : Prop := Claim7.holds Tryd.pinned (.plain (OpenSpec.ofChange styleBackSpec)) styleBackCard

/-- THE TIED CARD OF 'bobbinetkeep.StyleJoin'. -/
def styleJoinCard : Claim7 := { stood := { row := styleJoinRow, standIns := [], harness := (true, "fba520921c71a65c6ee1eb086e3b7171fbb872a7c99038e24b9b54b31b02b1ec"), looks := true }, kinds := [], alts := [], laidByText := true, laidKinds := [.data, .pinned], laidTests := true, laidLooks := .later }
def StyleJoinCardSaid : Prop := Claim7.holds Tryd.pinned (.plain (OpenSpec.ofChange styleJoinSpec)) styleJoinCard

/-- THE TIED CARD OF 'bobbinetkeep.StyleClean'. -/
def styleCleanCard : Claim7 := { stood := { row := styleCleanRow, standIns := [], harness := (true, "fba520921c71a65c6ee1eb086e3b7171fbb872a7c99038e24b9b54b31b02b1ec"), looks := true }, kinds := [], alts := [], laidByText := true, laidKinds := [.data, .pinned], laidTests := true, laidLooks := .later }
def StyleCleanCardSaid : Prop := Claim7.holds Tryd.pinned (.plain (OpenSpec.ofChange styleCleanSpec)) styleCleanCard

/-- THE TIED CARD OF 'bobbinetkeep.StripOnce'. -/
def stripOnceCard : Claim7 := { stood := { row := stripOnceRow, standIns := [], harness := (true, "fba520921c71a65c6ee1eb086e3b7171fbb872a7c99038e24b9b54b31b02b1ec"), looks := true }, kinds := [], alts := [], laidByText := true, laidKinds := [.data, .pinned], laidTests := true, laidLooks := .later }
def StripOnceCardSaid : Prop := Claim7.holds Tryd.pinned (.plain (OpenSpec.ofChange stripOnceSpec)) stripOnceCard

/-- THE TIED CARD OF 'bobbinetkeep.UrlHidden'. -/
def urlHiddenCard : Claim7 := { stood := { row := urlHiddenRow, standIns := [], harness := (true, "fba520921c71a65c6ee1eb086e3b7171fbb872a7c99038e24b9b54b31b02b1ec"), looks := true }, kinds := [], alts := [], laidByText := true, laidKinds := [.data, .pinned], laidTests := true, laidLooks := .later }
def UrlHiddenCardSaid : Prop := Claim7.holds Tryd.pinned (.plain (OpenSpec.ofChange urlHiddenSpec)) urlHiddenCard

/-- THE TIED CARD OF 'bobbinetkeep.UrlRelative'. -/
def urlRelativeCard : Claim7 := { stood := { row := urlRelativeRow, standIns := [], harness := (true, "fba520921c71a65c6ee1eb086e3b7171fbb872a7c99038e24b9b54b31b02b1ec"), looks := true }, kinds := [], alts := [], laidByText := true, laidKinds := [.data, .pinned], laidTests := true, laidLooks := .later }
def UrlRelativeCardSaid : Prop := Claim7.holds Tryd.pinned (.plain (OpenSpec.ofChange urlRelativeSpec)) urlRelativeCard

/-- THE TIED CARD OF 'bobbinetkeep.RefParts'. -/
def refPartsCard : Claim7 := { stood := { row := refPartsRow, standIns := [], harness := (true, "fba520921c71a65c6ee1eb086e3b7171fbb872a7c99038e24b9b54b31b02b1ec"), looks := true }, kinds := [], alts := [], laidByText := true, laidKinds := [.data, .data, .data, .sentinel, .sentinel], laidTests := true, laidLooks := .later }
def RefPartsCardSaid : Prop := Claim7.holds Tryd.pinned (.plain (OpenSpec.ofChange refPartsSpec)) refPartsCard

/-- THE TIED CARD OF 'bobbinetkeep.RefNumbers'. -/
def refNumbersCard : Claim7 := { stood := { row := refNumbersRow, standIns := [], harness := (true, "fba520921c71a65c6ee1eb086e3b7171fbb872a7c99038e24b9b54b31b02b1ec"), looks := true }, kinds := [], alts := [], laidByText := true, laidKinds := [.data, .data, .data, .sentinel, .sentinel], laidTests := true, laidLooks := .later }
def RefNumbersCardSaid : Prop := Claim7.holds Tryd.pinned (.plain (OpenSpec.ofChange refNumbersSpec)) refNumbersCard

/-- THE SECOND FORM's CARD OF 'bobbinetkeep.StyleBack'. -/
def styleBackUptoCard : Claim7 := { stood := { row := styleBackUptoRow, standIns := [], harness := (true, "fba520921c71a65c6ee1eb086e3b7171fbb872a7c99038e24b9b54b31b02b1ec"), looks := true }, kinds := [], alts := [], laidByText := true, laidKinds := [.data, .pinned], laidTests := true, laidLooks := .later }
def StyleBackUptoCardSaid : Prop := Claim7.holds Tryd.pinned (.plain (OpenSpec.upto styleBackSpec)) styleBackUptoCard

/-- THE SECOND FORM's CARD OF 'bobbinetkeep.StyleJoin'. -/
def styleJoinUptoCard : Claim7 := { stood := { row := styleJoinUptoRow, standIns := [], harness := (true, "fba520921c71a65c6ee1eb086e3b7171fbb872a7c99038e24b9b54b31b02b1ec"), looks := true }, kinds := [], alts := [], laidByText := true, laidKinds := [.data, .pinned], laidTests := true, laidLooks := .later }
def StyleJoinUptoCardSaid : Prop := Claim7.holds Tryd.pinned (.plain (OpenSpec.upto styleJoinSpec)) styleJoinUptoCard

/-- THE SECOND FORM's CARD OF 'bobbinetkeep.StyleClean'. -/
def styleCleanUptoCard : Claim7 := { stood := { row := styleCleanUptoRow, standIns := [], harness := (true, "fba520921c71a65c6ee1eb086e3b7171fbb872a7c99038e24b9b54b31b02b1ec"), looks := true }, kinds := [], alts := [], laidByText := true, laidKinds := [.data, .pinned], laidTests := true, laidLooks := .later }
def StyleCleanUptoCardSaid : Prop := Claim7.holds Tryd.pinned (.plain (OpenSpec.upto styleCleanSpec)) styleCleanUptoCard

/-- THE SECOND FORM's CARD OF 'bobbinetkeep.StripOnce'. -/
def stripOnceUptoCard : Claim7 := { stood := { row := stripOnceUptoRow, standIns := [], harness := (true, "fba520921c71a65c6ee1eb086e3b7171fbb872a7c99038e24b9b54b31b02b1ec"), looks := true }, kinds := [], alts := [], laidByText := true, laidKinds := [.data, .pinned], laidTests := true, laidLooks := .later }
def StripOnceUptoCardSaid : Prop := Claim7.holds Tryd.pinned (.plain (OpenSpec.upto stripOnceSpec)) stripOnceUptoCard

/-- THE SECOND FORM's CARD OF 'bobbinetkeep.UrlHidden'. -/
def urlHiddenUptoCard : Claim7 := { stood := { row := urlHiddenUptoRow, standIns := [], harness := (true, "fba520921c71a65c6ee1eb086e3b7171fbb872a7c99038e24b9b54b31b02b1ec"), looks := true }, kinds := [], alts := [], laidByText := true, laidKinds := [.data, .pinned], laidTests := true, laidLooks := .later }
def UrlHiddenUptoCardSaid : Prop := Claim7.holds Tryd.pinned (.plain (OpenSpec.upto urlHiddenSpec)) urlHiddenUptoCard

/-- THE SECOND FORM's CARD OF 'bobbinetkeep.UrlRelative'. -/
def urlRelativeUptoCard : Claim7 := { stood := { row := urlRelativeUptoRow, standIns := [], harness := (true, "fba520921c71a65c6ee1eb086e3b7171fbb872a7c99038e24b9b54b31b02b1ec"), looks := true }, kinds := [], alts := [], laidByText := true, laidKinds := [.data, .pinned], laidTests := true, laidLooks := .later }
def UrlRelativeUptoCardSaid : Prop := Claim7.holds Tryd.pinned (.plain (OpenSpec.upto urlRelativeSpec)) urlRelativeUptoCard

/-- THE SECOND FORM's CARD OF 'bobbinetkeep.RefParts'. -/
def refPartsUptoCard : Claim7 := { stood := { row := refPartsUptoRow, standIns := [], harness := (true, "fba520921c71a65c6ee1eb086e3b7171fbb872a7c99038e24b9b54b31b02b1ec"), looks := true }, kinds := [], alts := [], laidByText := true, laidKinds := [.data, .data, .data, .sentinel, .sentinel], laidTests := true, laidLooks := .later }
def RefPartsUptoCardSaid : Prop := Claim7.holds Tryd.pinned (.plain (OpenSpec.upto refPartsSpec)) refPartsUptoCard

/-- THE SECOND FORM's CARD OF 'bobbinetkeep.RefNumbers'. -/
def refNumbersUptoCard : Claim7 := { stood := { row := refNumbersUptoRow, standIns := [], harness := (true, "fba520921c71a65c6ee1eb086e3b7171fbb872a7c99038e24b9b54b31b02b1ec"), looks := true }, kinds := [], alts := [], laidByText := true, laidKinds := [.data, .data, .data, .sentinel, .sentinel], laidTests := true, laidLooks := .later }
def RefNumbersUptoCardSaid : Prop := Claim7.holds Tryd.pinned (.plain (OpenSpec.upto refNumbersSpec)) refNumbersUptoCard
end Rows
end Go.Proofs.YteimhgbihpbhaaaDoor
