/-
  DERIVED. GIVEN WITH THE SEED: THE CARDS: each row of YtbpjbpffkpokpaaDoorRows.lean that lists a variable, with what it lists TIED to the program's text (the seventh form; the later family's looks); each row that meets fmt, with fmt's text TOLD by the authors' own Lean function (tested against real Go, not proved from fmt's source: count such statements apart). THE CARD IS WHAT COUNTS. Prove the row's statement (the work); the ties are given (YtbpjbpffkpokpaaDoorTie.lean); close each card by the builder's one call (the guide's Derived/Test/ToyasCard.lean, 'card_holds'). Laid BY PROGRAM, IN A SANDBOX (cutbox-door.mjs). By AI agents, Wed Nov 11 2026. No macro, syntax, notation, axiom, sorry.
-/
import Derived.Test.YtbpjbpffkpokpaaDoorRows
import GoSem.ClaimSeven
namespace Go.Proofs.YtbpjbpffkpokpaaDoor
namespace Rows

/-- THE TIED CARD OF 'carracklaw10.PacketBack'. -/
def packetBackCard : Claim7 := { stood := { row := packetBackRow, standIns := [], harness := (true, "6dbf05453bd25ffe5cf7e295b2cee96fef0a747bd158369a771c0c246d90ce29"), looks := false }, kinds := [], alts := [], laidByText := true, laidKinds := [.data], laidTests := true, laidLooks := .later }
def PacketBackCardSaid : Prop := Claim7.holds Tryd.pinned (.plain (OpenSpec.ofChange packetBackSpec)) packetBackCard

/-- THE SECOND FORM's CARD OF 'carracklaw10.PacketBack'. -/
def packetBackUptoCard : Claim7 := { stood := { row := packetBackUptoRow, standIns := [], harness := (true, "6dbf05453bd25ffe5cf7e295b2cee96fef0a747bd158369a771c0c246d90ce29"), looks := false }, kinds := [], alts := [], laidByText := true, laidKinds := [.data], laidTests := true, laidLooks := .later }
def PacketBackUptoCardSaid : Prop := Claim7.holds Tryd.pinned (.plain (OpenSpec.upto packetBackSpec)) packetBackUptoCard
end Rows
end Go.Proofs.YtbpjbpffkpokpaaDoor
