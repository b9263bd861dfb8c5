/-
  DERIVED. GIVEN WITH THE SEED: THE CARDS: each row of YthaoaaboempajabDoorRows.lean that lists a variable, with what it lists TIED to the program's text (the seventh form; the later family's looks); each row that meets fmt, with fmt's text TOLD by the authors' own Lean function (tested against real Go, not proved from fmt's source: count such statements apart). THE CARD IS WHAT COUNTS. Prove the row's statement (the work); the ties are given (YthaoaaboempajabDoorTie.lean); close each card by the builder's one call (the guide's Derived/Test/ToyasCard.lean, 'card_holds'). Laid BY PROGRAM, IN A SANDBOX (cutbox-door.mjs). By AI agents, Wed Nov 11 2026. No macro, syntax, notation, axiom, sorry.
-/
import Derived.Test.YthaoaaboempajabDoorRows
import GoSem.ClaimSeven
namespace Go.Proofs.YthaoaaboempajabDoor
namespace Rows

/-- THE TIED CARD OF 'relstorelaw.ValueKeys'. -/
def valueKeysCard : Claim7 := { stood := { row := valueKeysRow, standIns := [], harness := (true, "9205a0b7c70ce658cb0f743c8ef45cb93a91049249f31a9c8c27b87b0349fac9"), looks := true }, kinds := [], alts := [], laidByText := true, laidKinds := [.data, .pinned], laidTests := true, laidLooks := .later }
def ValueKeysCardSaid : Prop := Claim7.holds Tryd.pinned (.plain (OpenSpec.ofChange valueKeysSpec)) valueKeysCard

/-- THE TIED CARD OF 'relstorekeep.ValueSorted'. -/
def valueSortedCard : Claim7 := { stood := { row := valueSortedRow, standIns := [], harness := (true, "9205a0b7c70ce658cb0f743c8ef45cb93a91049249f31a9c8c27b87b0349fac9"), looks := true }, kinds := [], alts := [], laidByText := true, laidKinds := [.data, .pinned], laidTests := true, laidLooks := .later }
def ValueSortedCardSaid : Prop := Claim7.holds Tryd.pinned (.plain (OpenSpec.ofChange valueSortedSpec)) valueSortedCard

/-- THE TIED CARD OF 'relstorelaw.ValueTexts'. -/
def valueTextsCard : Claim7 := { stood := { row := valueTextsRow, standIns := [], harness := (true, "9205a0b7c70ce658cb0f743c8ef45cb93a91049249f31a9c8c27b87b0349fac9"), looks := true }, kinds := [], alts := [], laidByText := true, laidKinds := [.data, .data, .data, .sentinel, .sentinel], laidTests := true, laidLooks := .later }
def ValueTextsCardSaid : Prop := Claim7.holds Tryd.pinned (.plain (OpenSpec.ofChange valueTextsSpec)) valueTextsCard

/-- THE SECOND FORM's CARD OF 'relstorelaw.ValueKeys'. -/
def valueKeysUptoCard : Claim7 := { stood := { row := valueKeysUptoRow, standIns := [], harness := (true, "9205a0b7c70ce658cb0f743c8ef45cb93a91049249f31a9c8c27b87b0349fac9"), looks := true }, kinds := [], alts := [], laidByText := true, laidKinds := [.data, .pinned], laidTests := true, laidLooks := .later }
def ValueKeysUptoCardSaid : Prop := Claim7.holds Tryd.pinned (.plain (OpenSpec.upto valueKeysSpec)) valueKeysUptoCard

/-- THE SECOND FORM's CARD OF 'relstorekeep.ValueSorted'. -/
def valueSortedUptoCard : Claim7 := { stood := { row := valueSortedUptoRow, standIns := [], harness := (true, "9205a0b7c70ce658cb0f743c8ef45cb93a91049249f31a9c8c27b87b0349fac9"), looks := true }, kinds := [], alts := [], laidByText := true, laidKinds := [.data, .pinned], laidTests := true, laidLooks := .later }
def ValueSortedUptoCardSaid : Prop := Claim7.holds Tryd.pinned (.plain (OpenSpec.upto valueSortedSpec)) valueSortedUptoCard

/-- THE SECOND FORM's CARD OF 'relstorelaw.ValueTexts'. -/
def valueTextsUptoCard : Claim7 := { stood := { row := valueTextsUptoRow, standIns := [], harness := (true, "9205a0b7c70ce658cb0f743c8ef45cb93a91049249f31a9c8c27b87b0349fac9"), looks := true }, kinds := [], alts := [], laidByText := true, laidKinds := [.data, .data, .data, .sentinel, .sentinel], laidTests := true, laidLooks := .later }
def ValueTextsUptoCardSaid : Prop := Claim7.holds Tryd.pinned (.plain (OpenSpec.upto valueTextsSpec)) valueTextsUptoCard
end Rows
end Go.Proofs.YthaoaaboempajabDoor
