/-
  DERIVED. GIVEN WITH THE SEED: THE CARDS: each row of YtiokggkoidiicaaDoorRows.lean that lists a variable, with what it lists TIED to the program's text (the seventh form; the later family's looks); each row that meets fmt, with fmt's text TOLD by the authors' own Lean function (tested against real Go, not proved from fmt's source: count such statements apart). THE CARD IS WHAT COUNTS. Prove the row's statement (the work); the ties are given (YtiokggkoidiicaaDoorTie.lean); close each card by the builder's one call (the guide's Derived/Test/ToyasCard.lean, 'card_holds'). Laid BY PROGRAM, IN A SANDBOX (cutbox-door.mjs). By AI agents, Wed Nov 11 2026. No macro, syntax, notation, axiom, sorry.
-/
import Derived.Test.YtiokggkoidiicaaDoorRows
import GoSem.ClaimSeven
namespace Go.Proofs.YtiokggkoidiicaaDoor
namespace Rows

/-- THE TIED CARD OF 'carracklaw05.FrameScans'. -/
def frameScansCard : Claim7 := { stood := { row := frameScansRow, standIns := [], harness := (true, "35dc5f1c8bcd6e7ec55088d8d9535a8a512a4fa062433f73a771aed13336cb53"), looks := false }, kinds := [], alts := [], laidByText := true, laidKinds := [.data, .pinned], laidTests := true, laidLooks := .later }
def FrameScansCardSaid : Prop := Claim7.holds Tryd.pinned (.plain (OpenSpec.ofChange frameScansSpec)) frameScansCard

/-- THE TIED CARD OF 'carracklaw05.FrameApart'. -/
def frameApartCard : Claim7 := { stood := { row := frameApartRow, standIns := [], harness := (true, "35dc5f1c8bcd6e7ec55088d8d9535a8a512a4fa062433f73a771aed13336cb53"), looks := false }, kinds := [], alts := [], laidByText := true, laidKinds := [.data, .pinned], laidTests := true, laidLooks := .later }
def FrameApartCardSaid : Prop := Claim7.holds Tryd.pinned (.plain (OpenSpec.ofChange frameApartSpec)) frameApartCard

/-- THE TIED CARD OF 'carracklaw05.FrameBack'. -/
def frameBackCard : Claim7 := { stood := { row := frameBackRow, standIns := [], harness := (true, "35dc5f1c8bcd6e7ec55088d8d9535a8a512a4fa062433f73a771aed13336cb53"), looks := false }, kinds := [], alts := [], laidByText := true, laidKinds := [.data, .pinned], laidTests := true, laidLooks := .later }
def FrameBackCardSaid : Prop := Claim7.holds Tryd.pinned (.plain (OpenSpec.ofChange frameBackSpec)) frameBackCard

/-- THE TIED CARD OF 'carracklaw05.FrameOther'. -/
def frameOtherCard : Claim7 := { stood := { row := frameOtherRow, standIns := [], harness := (true, "35dc5f1c8bcd6e7ec55088d8d9535a8a512a4fa062433f73a771aed13336cb53"), looks := false }, kinds := [], alts := [], laidByText := true, laidKinds := [.data, .pinned], laidTests := true, laidLooks := .later }
def FrameOtherCardSaid : Prop := Claim7.holds Tryd.pinned (.plain (OpenSpec.ofChange frameOtherSpec)) frameOtherCard

/-- THE SECOND FORM's CARD OF 'carracklaw05.FrameScans'. -/
def frameScansUptoCard : Claim7 := { stood := { row := frameScansUptoRow, standIns := [], harness := (true, "35dc5f1c8bcd6e7ec55088d8d9535a8a512a4fa062433f73a771aed13336cb53"), looks := false }, kinds := [], alts := [], laidByText := true, laidKinds := [.data, .pinned], laidTests := true, laidLooks := .later }
def FrameScansUptoCardSaid : Prop := Claim7.holds Tryd.pinned (.plain (OpenSpec.upto frameScansSpec)) frameScansUptoCard

/-- THE SECOND FORM's CARD OF 'carracklaw05.FrameApart'. -/
def frameApartUptoCard : Claim7 := { stood := { row := frameApartUptoRow, standIns := [], harness := (true, "35dc5f1c8bcd6e7ec55088d8d9535a8a512a4fa062433f73a771aed13336cb53"), looks := false }, kinds := [], alts := [], laidByText := true, laidKinds := [.data, .pinned], laidTests := true, laidLooks := .later }
def FrameApartUptoCardSaid : Prop := Claim7.holds Tryd.pinned (.plain (OpenSpec.upto frameApartSpec)) frameApartUptoCard

/-- THE SECOND FORM's CARD OF 'carracklaw05.FrameBack'. -/
def frameBackUptoCard : Claim7 := { stood := { row := frameBackUptoRow, standIns := [], harness := (true, "35dc5f1c8bcd6e7ec55088d8d9535a8a512a4fa062433f73a771aed13336cb53"), looks := false }, kinds := [], alts := [], laidByText := true, laidKinds := [.data, .pinned], laidTests := true, laidLooks := .later }
def FrameBackUptoCardSaid : Prop := Claim7.holds Tryd.pinned (.plain (OpenSpec.upto frameBackSpec)) frameBackUptoCard

/-- THE SECOND FORM's CARD OF 'carracklaw05.FrameOther'. -/
def frameOtherUptoCard : Claim7 := { stood := { row := frameOtherUptoRow, standIns := [], harness := (true, "35dc5f1c8bcd6e7ec55088d8d9535a8a512a4fa062433f73a771aed13336cb53"), looks := false }, kinds := [], alts := [], laidByText := true, laidKinds := [.data, .pinned], laidTests := true, laidLooks := .later }
def FrameOtherUptoCardSaid : Prop := Claim7.holds Tryd.pinned (.plain (OpenSpec.upto frameOtherSpec)) frameOtherUptoCard
end Rows
end Go.Proofs.YtiokggkoidiicaaDoor
