/-
  DERIVED. GIVEN WITH THE SEED: THE CARDS: each row of YtpimpjcknammfaaGreatDoorRows.lean that lists a variable, with what it lists TIED to the program's text (the seventh form; the later family's looks); each row that meets fmt, with fmt's text TOLD by the authors' own Lean function (tested against real Go, not proved from fmt's source: count such statements apart). THE CARD IS WHAT COUNTS. Prove the row's statement (the work); the ties are given (YtpimpjcknammfaaGreatDoorTie.lean); close each card by the builder's one call (the guide's Derived/Test/ToyasCard.lean, 'card_holds'). Laid BY PROGRAM, IN A SANDBOX (cutbox-door.mjs). By AI agents, Wed Nov 11 2026. No macro, syntax, notation, axiom, sorry.
-/
import Derived.Test.YtpimpjcknammfaaGreatDoorRows
import GoSem.ClaimSeven
namespace Go.Proofs.YtpimpjcknammfaaGreatDoor
namespace Rows

/-- THE TIED CARD OF 'carracklaw07.WalFills'. -/
def walFillsCard : Claim7 := { stood := { row := walFillsRow, standIns := [], harness := (true, "faa8d85e6d8c85a2a6eeca8426f7480f90862f846842dc248e40cb2a9d1ade0c"), looks := false }, kinds := [], alts := [], laidByText := true, laidKinds := [.data, .pinned], laidTests := true, laidLooks := .later }
def WalFillsCardSaid : Prop := Claim7.holds Tryz.pinned (.plain (OpenSpec.ofChange walFillsSpec)) walFillsCard

/-- THE TIED CARD OF 'carracklaw07.WalOld'. -/
def walOldCard : Claim7 := { stood := { row := walOldRow, standIns := [], harness := (true, "faa8d85e6d8c85a2a6eeca8426f7480f90862f846842dc248e40cb2a9d1ade0c"), looks := false }, kinds := [], alts := [], laidByText := true, laidKinds := [.data, .pinned], laidTests := true, laidLooks := .later }
def WalOldCardSaid : Prop := Claim7.holds Tryz.pinned (.plain (OpenSpec.ofChange walOldSpec)) walOldCard

/-- THE TIED CARD OF 'carracklaw07.WalTwice'. -/
def walTwiceCard : Claim7 := { stood := { row := walTwiceRow, standIns := [], harness := (true, "faa8d85e6d8c85a2a6eeca8426f7480f90862f846842dc248e40cb2a9d1ade0c"), looks := false }, kinds := [], alts := [], laidByText := true, laidKinds := [.data, .pinned], laidTests := true, laidLooks := .later }
def WalTwiceCardSaid : Prop := Claim7.holds Tryz.pinned (.plain (OpenSpec.ofChange walTwiceSpec)) walTwiceCard

/-- THE TIED CARD OF 'carracklaw07.WalPlays'. -/
def walPlaysCard : Claim7 := { stood := { row := walPlaysRow, standIns := [], harness := (true, "faa8d85e6d8c85a2a6eeca8426f7480f90862f846842dc248e40cb2a9d1ade0c"), looks := false }, kinds := [], alts := [], laidByText := true, laidKinds := [.data, .pinned], laidTests := true, laidLooks := .later }
def WalPlaysCardSaid : Prop := Claim7.holds Tryz.pinned (.plain (OpenSpec.ofChange walPlaysSpec)) walPlaysCard

/-- THE SECOND FORM's CARD OF 'carracklaw07.WalFills'. -/
def walFillsUptoCard : Claim7 := { stood := { row := walFillsUptoRow, standIns := [], harness := (true, "faa8d85e6d8c85a2a6eeca8426f7480f90862f846842dc248e40cb2a9d1ade0c"), looks := false }, kinds := [], alts := [], laidByText := true, laidKinds := [.data, .pinned], laidTests := true, laidLooks := .later }
def WalFillsUptoCardSaid : Prop := Claim7.holds Tryz.pinned (.plain (OpenSpec.upto walFillsSpec)) walFillsUptoCard

/-- THE SECOND FORM's CARD OF 'carracklaw07.WalOld'. -/
def walOldUptoCard : Claim7 := { stood := { row := walOldUptoRow, standIns := [], harness := (true, "faa8d85e6d8c85a2a6eeca8426f7480f90862f846842dc248e40cb2a9d1ade0c"), looks := false }, kinds := [], alts := [], laidByText := true, laidKinds := [.data, .pinned], laidTests := true, laidLooks := .later }
def WalOldUptoCardSaid : Prop := Claim7.holds Tryz.pinned (.plain (OpenSpec.upto walOldSpec)) walOldUptoCard

/-- THE SECOND FORM's CARD OF 'carracklaw07.WalTwice'. -/
def walTwiceUptoCard : Claim7 := { stood := { row := walTwiceUptoRow, standIns := [], harness := (true, "faa8d85e6d8c85a2a6eeca8426f7480f90862f846842dc248e40cb2a9d1ade0c"), looks := false }, kinds := [], alts := [], laidByText := true, laidKinds := [.data, .pinned], laidTests := true, laidLooks := .later }
def WalTwiceUptoCardSaid : Prop := Claim7.holds Tryz.pinned (.plain (OpenSpec.upto walTwiceSpec)) walTwiceUptoCard

/-- THE SECOND FORM's CARD OF 'carracklaw07.WalPlays'. -/
def walPlaysUptoCard : Claim7 := { stood := { row := walPlaysUptoRow, standIns := [], harness := (true, "faa8d85e6d8c85a2a6eeca8426f7480f90862f846842dc248e40cb2a9d1ade0c"), looks := false }, kinds := [], alts := [], laidByText := true, laidKinds := [.data, .pinned], laidTests := true, laidLooks := .later }
def WalPlaysUptoCardSaid : Prop := Claim7.holds Tryz.pinned (.plain (OpenSpec.upto walPlaysSpec)) walPlaysUptoCard
end Rows
end Go.Proofs.YtpimpjcknammfaaGreatDoor
