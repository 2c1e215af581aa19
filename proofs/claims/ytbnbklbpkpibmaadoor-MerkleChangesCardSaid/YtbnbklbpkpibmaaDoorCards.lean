/-
  DERIVED. GIVEN WITH THE SEED: THE CARDS: each row of YtbnbklbpkpibmaaDoorRows.lean that lists a variable, with what it lists TIED to the program's text (the seventh form; the later family's looks); each row that meets fmt, with fmt's text TOLD by the authors' own Lean function (tested against real Go, not proved from fmt's source: count such statements apart). THE CARD IS WHAT COUNTS. Prove the row's statement (the work); the ties are given (YtbnbklbpkpibmaaDoorTie.lean); close each card by the builder's one call (the guide's Derived/Test/ToyasCard.lean, 'card_holds'). Laid BY PROGRAM, IN A SANDBOX (cutbox-door.mjs). By AI agents, Wed Nov 11 2026. No macro, syntax, notation, axiom, sorry.
-/
import Derived.Test.YtbnbklbpkpibmaaDoorRows
import GoSem.ClaimSeven
namespace Go.Proofs.YtbnbklbpkpibmaaDoor
namespace Rows

/-- THE TIED CARD OF 'carracklaw08.MerkleApart'. -/
def merkleApartCard : Claim7 := { stood := { row := merkleApartRow, standIns := [], harness := (true, "3be4cfd300413784e73ac91b7e67da70e07de7cd588f833e6ddec1ef6a345228"), looks := false }, kinds := [], alts := [], laidByText := true, laidKinds := [.data], laidTests := true, laidLooks := .later }
def MerkleApartCardSaid : Prop := Claim7.holds Tryd.pinned (.plain (OpenSpec.ofChange merkleApartSpec)) merkleApartCard

/-- THE TIED CARD OF 'carracklaw08.MerkleChanges'. -/
def merkleChangesCard : Claim7 := { stood := { row := merkleChangesRow, standIns := [], harness := (true, "3be4cfd300413784e73ac91b7e67da70e07de7cd588f833e6ddec1ef6a345228"), looks := false }, kinds := [], alts := [], laidByText := true, laidKinds := [.data], laidTests := true, laidLooks := .later }
def MerkleChangesCardSaid : Prop := Claim7.holds Tryd.pinned (.plain (OpenSpec.ofChange merkleChangesSpec)) merkleChangesCard

/-- THE TIED CARD OF 'carracklaw08.MerkleTells'. -/
def merkleTellsCard : Claim7 := { stood := { row := merkleTellsRow, standIns := [], harness := (true, "3be4cfd300413784e73ac91b7e67da70e07de7cd588f833e6ddec1ef6a345228"), looks := false }, kinds := [], alts := [], laidByText := true, laidKinds := [.data], laidTests := true, laidLooks := .later }
def MerkleTellsCardSaid : Prop := Claim7.holds Tryd.pinned (.plain (OpenSpec.ofChange merkleTellsSpec)) merkleTellsCard

/-- THE TIED CARD OF 'carracklaw08.MerkleClimbs'. -/
def merkleClimbsCard : Claim7 := { stood := { row := merkleClimbsRow, standIns := [], harness := (true, "3be4cfd300413784e73ac91b7e67da70e07de7cd588f833e6ddec1ef6a345228"), looks := false }, kinds := [], alts := [], laidByText := true, laidKinds := [.data], laidTests := true, laidLooks := .later }
def MerkleClimbsCardSaid : Prop := Claim7.holds Tryd.pinned (.plain (OpenSpec.ofChange merkleClimbsSpec)) merkleClimbsCard

/-- THE TIED CARD OF 'carracklaw08.MerkleSound'. -/
def merkleSoundCard : Claim7 := { stood := { row := merkleSoundRow, standIns := [], harness := (true, "3be4cfd300413784e73ac91b7e67da70e07de7cd588f833e6ddec1ef6a345228"), looks := false }, kinds := [], alts := [], laidByText := true, laidKinds := [.data], laidTests := true, laidLooks := .later }
def MerkleSoundCardSaid : Prop := Claim7.holds Tryd.pinned (.plain (OpenSpec.ofChange merkleSoundSpec)) merkleSoundCard

/-- THE TIED CARD OF 'carracklaw08.MerkleBack'. -/
def merkleBackCard : Claim7 := { stood := { row := merkleBackRow, standIns := [], harness := (true, "3be4cfd300413784e73ac91b7e67da70e07de7cd588f833e6ddec1ef6a345228"), looks := false }, kinds := [], alts := [], laidByText := true, laidKinds := [.data], laidTests := true, laidLooks := .later }
def MerkleBackCardSaid : Prop := Claim7.holds Tryd.pinned (.plain (OpenSpec.ofChange merkleBackSpec)) merkleBackCard

/-- THE SECOND FORM's CARD OF 'carracklaw08.MerkleApart'. -/
def merkleApartUptoCard : Claim7 := { stood := { row := merkleApartUptoRow, standIns := [], harness := (true, "3be4cfd300413784e73ac91b7e67da70e07de7cd588f833e6ddec1ef6a345228"), looks := false }, kinds := [], alts := [], laidByText := true, laidKinds := [.data], laidTests := true, laidLooks := .later }
def MerkleApartUptoCardSaid : Prop := Claim7.holds Tryd.pinned (.plain (OpenSpec.upto merkleApartSpec)) merkleApartUptoCard

/-- THE SECOND FORM's CARD OF 'carracklaw08.MerkleChanges'. -/
def merkleChangesUptoCard : Claim7 := { stood := { row := merkleChangesUptoRow, standIns := [], harness := (true, "3be4cfd300413784e73ac91b7e67da70e07de7cd588f833e6ddec1ef6a345228"), looks := false }, kinds := [], alts := [], laidByText := true, laidKinds := [.data], laidTests := true, laidLooks := .later }
def MerkleChangesUptoCardSaid : Prop := Claim7.holds Tryd.pinned (.plain (OpenSpec.upto merkleChangesSpec)) merkleChangesUptoCard

/-- THE SECOND FORM's CARD OF 'carracklaw08.MerkleTells'. -/
def merkleTellsUptoCard : Claim7 := { stood := { row := merkleTellsUptoRow, standIns := [], harness := (true, "3be4cfd300413784e73ac91b7e67da70e07de7cd588f833e6ddec1ef6a345228"), looks := false }, kinds := [], alts := [], laidByText := true, laidKinds := [.data], laidTests := true, laidLooks := .later }
def MerkleTellsUptoCardSaid : Prop := Claim7.holds Tryd.pinned (.plain (OpenSpec.upto merkleTellsSpec)) merkleTellsUptoCard

/-- THE SECOND FORM's CARD OF 'carracklaw08.MerkleClimbs'. -/
def merkleClimbsUptoCard : Claim7 := { stood := { row := merkleClimbsUptoRow, standIns := [], harness := (true, "3be4cfd300413784e73ac91b7e67da70e07de7cd588f833e6ddec1ef6a345228"), looks := false }, kinds := [], alts := [], laidByText := true, laidKinds := [.data], laidTests := true, laidLooks := .later }
def MerkleClimbsUptoCardSaid : Prop := Claim7.holds Tryd.pinned (.plain (OpenSpec.upto merkleClimbsSpec)) merkleClimbsUptoCard

/-- THE SECOND FORM's CARD OF 'carracklaw08.MerkleSound'. -/
def merkleSoundUptoCard : Claim7 := { stood := { row := merkleSoundUptoRow, standIns := [], harness := (true, "3be4cfd300413784e73ac91b7e67da70e07de7cd588f833e6ddec1ef6a345228"), looks := false }, kinds := [], alts := [], laidByText := true, laidKinds := [.data], laidTests := true, laidLooks := .later }
def MerkleSoundUptoCardSaid : Prop := Claim7.holds Tryd.pinned (.plain (OpenSpec.upto merkleSoundSpec)) merkleSoundUptoCard

/-- THE SECOND FORM's CARD OF 'carracklaw08.MerkleBack'. -/
def merkleBackUptoCard : Claim7 := { stood := { row := merkleBackUptoRow, standIns := [], harness := (true, "3be4cfd300413784e73ac91b7e67da70e07de7cd588f833e6ddec1ef6a345228"), looks := false }, kinds := [], alts := [], laidByText := true, laidKinds := [.data], laidTests := true, laidLooks := .later }
def MerkleBackUptoCardSaid : Prop := Claim7.holds Tryd.pinned (.plain (OpenSpec.upto merkleBackSpec)) merkleBackUptoCard
end Rows
end Go.Proofs.YtbnbklbpkpibmaaDoor
