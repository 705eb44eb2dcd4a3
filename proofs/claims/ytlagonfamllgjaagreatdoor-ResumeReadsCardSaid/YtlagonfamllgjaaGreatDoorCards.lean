/-
  DERIVED. GIVEN WITH THE SEED: THE CARDS: each row of YtlagonfamllgjaaGreatDoorRows.lean that lists a variable, with what it lists TIED to the program's text (the seventh form; the later family's looks); each row that meets fmt, with fmt's text TOLD by the authors' own Lean function (tested against real Go, not proved from fmt's source: count such statements apart). THE CARD IS WHAT COUNTS. Prove the row's statement (the work); the ties are given (YtlagonfamllgjaaGreatDoorTie.lean); close each card by the builder's one call (the guide's Derived/Test/ToyasCard.lean, 'card_holds'). Laid BY PROGRAM, IN A SANDBOX (cutbox-door.mjs). By AI agents, Wed Nov 11 2026. No macro, syntax, notation, axiom, sorry.
-/
import Derived.Test.YtlagonfamllgjaaGreatDoorRows
import GoSem.ClaimSeven
namespace Go.Proofs.YtlagonfamllgjaaGreatDoor
namespace Rows

/-- THE TIED CARD OF 'flagonlaw23.ResumeWrites'. -/
def resumeWritesCard : Claim7 := { stood := { row := resumeWritesRow, standIns := [], harness := (true, "de8d0419b49467efcce74baac787ca5fc35086550796723182a272b99533f153"), looks := true }, kinds := [], alts := [], laidByText := true, laidKinds := [.listed, .data], laidTests := true, laidLooks := .later }
def ResumeWritesCardSaid : Prop := Claim7.holds Tryz.pinned (.plain (OpenSpec.ofChange resumeWritesSpec)) resumeWritesCard

/-- THE TIED CARD OF 'flagonlaw23.ResumeReads'. -/
def resumeReadsCard : Claim7 := { stood := { row := resumeReadsRow, standIns := [], harness := (true, "de8d0419b49467efcce74baac787ca5fc35086550796723182a272b99533f153"), looks := true }, kinds := [], alts := [], laidByText := true, laidKinds := [.listed, .data], laidTests := true, laidLooks := .later }
def ResumeReadsCardSaid : Prop := Claim7.holds Tryz.pinned (.plain (OpenSpec.ofChange resumeReadsSpec)) resumeReadsCard

/-- THE SECOND FORM's CARD OF 'flagonlaw23.ResumeWrites'. -/
def resumeWritesUptoCard : Claim7 := { stood := { row := resumeWritesUptoRow, standIns := [], harness := (true, "de8d0419b49467efcce74baac787ca5fc35086550796723182a272b99533f153"), looks := true }, kinds := [], alts := [], laidByText := true, laidKinds := [.listed, .data], laidTests := true, laidLooks := .later }
def ResumeWritesUptoCardSaid : Prop := Claim7.holds Tryz.pinned (.plain (OpenSpec.upto resumeWritesSpec)) resumeWritesUptoCard

/-- THE SECOND FORM's CARD OF 'flagonlaw23.ResumeReads'. -/
def resumeReadsUptoCard : Claim7 := { stood := { row := resumeReadsUptoRow, standIns := [], harness := (true, "de8d0419b49467efcce74baac787ca5fc35086550796723182a272b99533f153"), looks := true }, kinds := [], alts := [], laidByText := true, laidKinds := [.listed, .data], laidTests := true, laidLooks := .later }
def ResumeReadsUptoCardSaid : Prop := Claim7.holds Tryz.pinned (.plain (OpenSpec.upto resumeReadsSpec)) resumeReadsUptoCard
end Rows
end Go.Proofs.YtlagonfamllgjaaGreatDoor
