/-
  DERIVED. GIVEN WITH THE SEED: THE CARDS: each row of YtnnkenbcdepafaaGreatDoorRows.lean that lists a variable, with what it lists TIED to the program's text (the seventh form; the later family's looks); each row that meets fmt, with fmt's text TOLD by the authors' own Lean function (tested against real Go, not proved from fmt's source: count such statements apart). THE CARD IS WHAT COUNTS. Prove the row's statement (the work); the ties are given (YtnnkenbcdepafaaGreatDoorTie.lean); close each card by the builder's one call (the guide's Derived/Test/ToyasCard.lean, 'card_holds'). Laid BY PROGRAM, IN A SANDBOX (cutbox-door.mjs). By AI agents, Wed Nov 11 2026. No macro, syntax, notation, axiom, sorry.
-/
import Derived.Test.YtnnkenbcdepafaaGreatDoorRows
import GoSem.ClaimSeven
namespace Go.Proofs.YtnnkenbcdepafaaGreatDoor
namespace Rows

/-- THE TIED CARD OF 'hamperlaw26.SlicePlaces'. -/
def slicePlacesCard : Claim7 := { stood := { row := slicePlacesRow, standIns := [], harness := (true, "3432e94b16ecc80f263bc68b3f2c46a139a52e9933a6b8c11f5b0de4b6bb2534"), looks := true }, kinds := [], alts := [], laidByText := true, laidKinds := [.data, .data, .data, .data, .sentinel, .sentinel, .pinned], laidTests := true, laidLooks := .later }
def SlicePlacesCardSaid : Prop := Claim7.holds Tryz.pinned (.plain (OpenSpec.ofChange slicePlacesSpec)) slicePlacesCard

/-- THE TIED CARD OF 'hamperlaw26.SliceApart'. -/
def sliceApartCard : Claim7 := { stood := { row := sliceApartRow, standIns := [], harness := (true, "3432e94b16ecc80f263bc68b3f2c46a139a52e9933a6b8c11f5b0de4b6bb2534"), looks := true }, kinds := [], alts := [], laidByText := true, laidKinds := [.data, .data, .data, .data, .sentinel, .sentinel, .pinned], laidTests := true, laidLooks := .later }
def SliceApartCardSaid : Prop := Claim7.holds Tryz.pinned (.plain (OpenSpec.ofChange sliceApartSpec)) sliceApartCard

/-- THE SECOND FORM's CARD OF 'hamperlaw26.SlicePlaces'. -/
def slicePlacesUptoCard : Claim7 := { stood := { row := slicePlacesUptoRow, standIns := [], harness := (true, "3432e94b16ecc80f263bc68b3f2c46a139a52e9933a6b8c11f5b0de4b6bb2534"), looks := true }, kinds := [], alts := [], laidByText := true, laidKinds := [.data, .data, .data, .data, .sentinel, .sentinel, .pinned], laidTests := true, laidLooks := .later }
def SlicePlacesUptoCardSaid : Prop := Claim7.holds Tryz.pinned (.plain (OpenSpec.upto slicePlacesSpec)) slicePlacesUptoCard

/-- THE SECOND FORM's CARD OF 'hamperlaw26.SliceApart'. -/
def sliceApartUptoCard : Claim7 := { stood := { row := sliceApartUptoRow, standIns := [], harness := (true, "3432e94b16ecc80f263bc68b3f2c46a139a52e9933a6b8c11f5b0de4b6bb2534"), looks := true }, kinds := [], alts := [], laidByText := true, laidKinds := [.data, .data, .data, .data, .sentinel, .sentinel, .pinned], laidTests := true, laidLooks := .later }
def SliceApartUptoCardSaid : Prop := Claim7.holds Tryz.pinned (.plain (OpenSpec.upto sliceApartSpec)) sliceApartUptoCard
end Rows
end Go.Proofs.YtnnkenbcdepafaaGreatDoor
