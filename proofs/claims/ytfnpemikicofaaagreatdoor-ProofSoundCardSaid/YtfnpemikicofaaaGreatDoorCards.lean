/-
  DERIVED. GIVEN WITH THE SEED: THE CARDS: each row of YtfnpemikicofaaaGreatDoorRows.lean that lists a variable, with what it lists TIED to the program's text (the seventh form; the later family's looks); each row that meets fmt, with fmt's text TOLD by the authors' own Lean function (tested against real Go, not proved from fmt's source: count such statements apart). THE CARD IS WHAT COUNTS. Prove the row's statement (the work); the ties are given (YtfnpemikicofaaaGreatDoorTie.lean); close each card by the builder's one call (the guide's Derived/Test/ToyasCard.lean, 'card_holds'). Laid BY PROGRAM, IN A SANDBOX (cutbox-door.mjs). By AI agents, Wed Nov 11 2026. No macro, syntax, notation, axiom, sorry.
-/
import Derived.Test.YtfnpemikicofaaaGreatDoorRows
import GoSem.ClaimSeven
namespace Go.Proofs.YtfnpemikicofaaaGreatDoor
namespace Rows

/-- THE TIED CARD OF 'carracklaw09.ProofJudges'. -/
def proofJudgesCard : Claim7 := { stood := { row := proofJudgesRow, standIns := [], harness := (true, "c3abb85ae609db7027d7267e29a314227fca0660bee0abc51def42e899c26ce1"), looks := false }, kinds := [], alts := [], laidByText := true, laidKinds := [.data], laidTests := true, laidLooks := .later }
def ProofJudgesCardSaid : Prop := Claim7.holds Tryz.pinned (.plain (OpenSpec.ofChange proofJudgesSpec)) proofJudgesCard

/-- THE TIED CARD OF 'carracklaw09.ProofSound'. -/
def proofSoundCard : Claim7 := { stood := { row := proofSoundRow, standIns := [], harness := (true, "c3abb85ae609db7027d7267e29a314227fca0660bee0abc51def42e899c26ce1"), looks := false }, kinds := [], alts := [], laidByText := true, laidKinds := [.data], laidTests := true, laidLooks := .later }
def ProofSoundCardSaid : Prop := Claim7.holds Tryz.pinned (.plain (OpenSpec.ofChange proofSoundSpec)) proofSoundCard

/-- THE TIED CARD OF 'carracklaw09.ProofOne'. -/
def proofOneCard : Claim7 := { stood := { row := proofOneRow, standIns := [], harness := (true, "c3abb85ae609db7027d7267e29a314227fca0660bee0abc51def42e899c26ce1"), looks := false }, kinds := [], alts := [], laidByText := true, laidKinds := [.data], laidTests := true, laidLooks := .later }
def ProofOneCardSaid : Prop := Claim7.holds Tryz.pinned (.plain (OpenSpec.ofChange proofOneSpec)) proofOneCard

/-- THE SECOND FORM's CARD OF 'carracklaw09.ProofJudges'. -/
def proofJudgesUptoCard : Claim7 := { stood := { row := proofJudgesUptoRow, standIns := [], harness := (true, "c3abb85ae609db7027d7267e29a314227fca0660bee0abc51def42e899c26ce1"), looks := false }, kinds := [], alts := [], laidByText := true, laidKinds := [.data], laidTests := true, laidLooks := .later }
def ProofJudgesUptoCardSaid : Prop := Claim7.holds Tryz.pinned (.plain (OpenSpec.upto proofJudgesSpec)) proofJudgesUptoCard

/-- THE SECOND FORM's CARD OF 'carracklaw09.ProofSound'. -/
def proofSoundUptoCard : Claim7 := { stood := { row := proofSoundUptoRow, standIns := [], harness := (true, "c3abb85ae609db7027d7267e29a314227fca0660bee0abc51def42e899c26ce1"), looks := false }, kinds := [], alts := [], laidByText := true, laidKinds := [.data], laidTests := true, laidLooks := .later }
def ProofSoundUptoCardSaid : Prop := Claim7.holds Tryz.pinned (.plain (OpenSpec.upto proofSoundSpec)) proofSoundUptoCard

/-- THE SECOND FORM's CARD OF 'carracklaw09.ProofOne'. -/
def proofOneUptoCard : Claim7 := { stood := { row := proofOneUptoRow, standIns := [], harness := (true, "c3abb85ae609db7027d7267e29a314227fca0660bee0abc51def42e899c26ce1"), looks := false }, kinds := [], alts := [], laidByText := true, laidKinds := [.data], laidTests := true, laidLooks := .later }
def ProofOneUptoCardSaid : Prop := Claim7.holds Tryz.pinned (.plain (OpenSpec.upto proofOneSpec)) proofOneUptoCard
end Rows
end Go.Proofs.YtfnpemikicofaaaGreatDoor
