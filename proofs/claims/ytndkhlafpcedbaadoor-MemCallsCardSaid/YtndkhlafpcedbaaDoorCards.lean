/-
  DERIVED. GIVEN WITH THE SEED: THE CARDS: each row of YtndkhlafpcedbaaDoorRows.lean that lists a variable, with what it lists TIED to the program's text (the seventh form; the later family's looks); each row that meets fmt, with fmt's text TOLD by the authors' own Lean function (tested against real Go, not proved from fmt's source: count such statements apart). THE CARD IS WHAT COUNTS. Prove the row's statement (the work); the ties are given (YtndkhlafpcedbaaDoorTie.lean); close each card by the builder's one call (the guide's Derived/Test/ToyasCard.lean, 'card_holds'). Laid BY PROGRAM, IN A SANDBOX (cutbox-door.mjs). By AI agents, Wed Nov 11 2026. No macro, syntax, notation, axiom, sorry.
-/
import Derived.Test.YtndkhlafpcedbaaDoorRows
import GoSem.ClaimSeven
namespace Go.Proofs.YtndkhlafpcedbaaDoor
namespace Rows

/-- THE TIED CARD OF 'flagonlaw01.WireWrites'. -/
def wireWritesCard : Claim7 := { stood := { row := wireWritesRow, standIns := [], harness := (true, "059b6a9667dee789e1eb7b8511e424d2ab7d9b8a31e9b3eeabeee488d5697d25"), looks := false }, kinds := [], alts := [], laidByText := true, laidKinds := [.data, .data, .data], laidTests := true, laidLooks := .later }
def WireWritesCardSaid : Prop := Claim7.holds Tryd.pinned (.plain (OpenSpec.ofChange wireWritesSpec)) wireWritesCard

/-- THE TIED CARD OF 'flagonlaw13.MemMade'. -/
def memMadeCard : Claim7 := { stood := { row := memMadeRow, standIns := [], harness := (true, "059b6a9667dee789e1eb7b8511e424d2ab7d9b8a31e9b3eeabeee488d5697d25"), looks := false }, kinds := [], alts := [], laidByText := true, laidKinds := [.data, .data, .data], laidTests := true, laidLooks := .later }
def MemMadeCardSaid : Prop := Claim7.holds Tryd.pinned (.plain (OpenSpec.ofChange memMadeSpec)) memMadeCard

/-- THE TIED CARD OF 'flagonlaw13.MemCalls'. -/
def memCallsCard : Claim7 := { stood := { row := memCallsRow, standIns := [], harness := (true, "059b6a9667dee789e1eb7b8511e424d2ab7d9b8a31e9b3eeabeee488d5697d25"), looks := false }, kinds := [], alts := [], laidByText := true, laidKinds := [.data, .data, .data], laidTests := true, laidLooks := .later }
def MemCallsCardSaid : Prop := Claim7.holds Tryd.pinned (.plain (OpenSpec.ofChange memCallsSpec)) memCallsCard

/-- THE TIED CARD OF 'flagonlaw02.TypesAsk'. -/
def typesAskCard : Claim7 := { stood := { row := typesAskRow, standIns := [], harness := (true, "059b6a9667dee789e1eb7b8511e424d2ab7d9b8a31e9b3eeabeee488d5697d25"), looks := false }, kinds := [], alts := [], laidByText := true, laidKinds := [.data, .data, .data], laidTests := true, laidLooks := .later }
def TypesAskCardSaid : Prop := Claim7.holds Tryd.pinned (.plain (OpenSpec.ofChange typesAskSpec)) typesAskCard

/-- THE SECOND FORM's CARD OF 'flagonlaw01.WireWrites'. -/
def wireWritesUptoCard : Claim7 := { stood := { row := wireWritesUptoRow, standIns := [], harness := (true, "059b6a9667dee789e1eb7b8511e424d2ab7d9b8a31e9b3eeabeee488d5697d25"), looks := false }, kinds := [], alts := [], laidByText := true, laidKinds := [.data, .data, .data], laidTests := true, laidLooks := .later }
def WireWritesUptoCardSaid : Prop := Claim7.holds Tryd.pinned (.plain (OpenSpec.upto wireWritesSpec)) wireWritesUptoCard

/-- THE SECOND FORM's CARD OF 'flagonlaw13.MemMade'. -/
def memMadeUptoCard : Claim7 := { stood := { row := memMadeUptoRow, standIns := [], harness := (true, "059b6a9667dee789e1eb7b8511e424d2ab7d9b8a31e9b3eeabeee488d5697d25"), looks := false }, kinds := [], alts := [], laidByText := true, laidKinds := [.data, .data, .data], laidTests := true, laidLooks := .later }
def MemMadeUptoCardSaid : Prop := Claim7.holds Tryd.pinned (.plain (OpenSpec.upto memMadeSpec)) memMadeUptoCard

/-- THE SECOND FORM's CARD OF 'flagonlaw13.MemCalls'. -/
def memCallsUptoCard : Claim7 := { stood := { row := memCallsUptoRow, standIns := [], harness := (true, "059b6a9667dee789e1eb7b8511e424d2ab7d9b8a31e9b3eeabeee488d5697d25"), looks := false }, kinds := [], alts := [], laidByText := true, laidKinds := [.data, .data, .data], laidTests := true, laidLooks := .later }
def MemCallsUptoCardSaid : Prop := Claim7.holds Tryd.pinned (.plain (OpenSpec.upto memCallsSpec)) memCallsUptoCard

/-- THE SECOND FORM's CARD OF 'flagonlaw02.TypesAsk'. -/
def typesAskUptoCard : Claim7 := { stood := { row := typesAskUptoRow, standIns := [], harness := (true, "059b6a9667dee789e1eb7b8511e424d2ab7d9b8a31e9b3eeabeee488d5697d25"), looks := false }, kinds := [], alts := [], laidByText := true, laidKinds := [.data, .data, .data], laidTests := true, laidLooks := .later }
def TypesAskUptoCardSaid : Prop := Claim7.holds Tryd.pinned (.plain (OpenSpec.upto typesAskSpec)) typesAskUptoCard
end Rows
end Go.Proofs.YtndkhlafpcedbaaDoor
