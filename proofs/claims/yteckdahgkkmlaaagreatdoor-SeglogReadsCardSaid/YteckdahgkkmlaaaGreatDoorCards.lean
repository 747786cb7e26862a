/-
  DERIVED. GIVEN WITH THE SEED: THE CARDS: each row of YteckdahgkkmlaaaGreatDoorRows.lean that lists a variable, with what it lists TIED to the program's text (the seventh form; the later family's looks); each row that meets fmt, with fmt's text TOLD by the authors' own Lean function (tested against real Go, not proved from fmt's source: count such statements apart). THE CARD IS WHAT COUNTS. Prove the row's statement (the work); the ties are given (YteckdahgkkmlaaaGreatDoorTie.lean); close each card by the builder's one call (the guide's Derived/Test/ToyasCard.lean, 'card_holds'). Laid BY PROGRAM, IN A SANDBOX (cutbox-door.mjs). By AI agents, Wed Nov 11 2026. No macro, syntax, notation, axiom, sorry.
-/
import Derived.Test.YteckdahgkkmlaaaGreatDoorRows
import GoSem.ClaimSeven
namespace Go.Proofs.YteckdahgkkmlaaaGreatDoor
namespace Rows

/-- THE TIED CARD OF 'oblivionlaw13.SeglogErases'. -/
def seglogErasesCard : Claim7 := { stood := { row := seglogErasesRow, standIns := [], harness := (true, "97988d9798bedce53483fdd390534d8d7c508fdf7dc81161beb8f9a19a966e2b"), looks := false }, kinds := [], alts := [], laidByText := true, laidKinds := [.data, .data, .pinned], laidTests := true, laidLooks := .later }
def SeglogErasesCardSaid : Prop := Claim7.holds Tryz.pinned (.plain (OpenSpec.ofChange seglogErasesSpec)) seglogErasesCard

/-- THE TIED CARD OF 'oblivionlaw13.SeglogReads'. -/
def seglogReadsCard : Claim7 := { stood := { row := seglogReadsRow, standIns := [], harness := (true, "97988d9798bedce53483fdd390534d8d7c508fdf7dc81161beb8f9a19a966e2b"), looks := false }, kinds := [], alts := [], laidByText := true, laidKinds := [.data, .data, .pinned], laidTests := true, laidLooks := .later }
def SeglogReadsCardSaid : Prop := Claim7.holds Tryz.pinned (.plain (OpenSpec.ofChange seglogReadsSpec)) seglogReadsCard

/-- THE TIED CARD OF 'oblivionlaw13.SeglogReserve'. -/
def seglogReserveCard : Claim7 := { stood := { row := seglogReserveRow, standIns := [], harness := (true, "97988d9798bedce53483fdd390534d8d7c508fdf7dc81161beb8f9a19a966e2b"), looks := false }, kinds := [], alts := [], laidByText := true, laidKinds := [.data, .data, .pinned], laidTests := true, laidLooks := .later }
def SeglogReserveCardSaid : Prop := Claim7.holds Tryz.pinned (.plain (OpenSpec.ofChange seglogReserveSpec)) seglogReserveCard

/-- THE SECOND FORM's CARD OF 'oblivionlaw13.SeglogErases'. -/
def seglogErasesUptoCard : Claim7 := { stood := { row := seglogErasesUptoRow, standIns := [], harness := (true, "97988d9798bedce53483fdd390534d8d7c508fdf7dc81161beb8f9a19a966e2b"), looks := false }, kinds := [], alts := [], laidByText := true, laidKinds := [.data, .data, .pinned], laidTests := true, laidLooks := .later }
def SeglogErasesUptoCardSaid : Prop := Claim7.holds Tryz.pinned (.plain (OpenSpec.upto seglogErasesSpec)) seglogErasesUptoCard

/-- THE SECOND FORM's CARD OF 'oblivionlaw13.SeglogReads'. -/
def seglogReadsUptoCard : Claim7 := { stood := { row := seglogReadsUptoRow, standIns := [], harness := (true, "97988d9798bedce53483fdd390534d8d7c508fdf7dc81161beb8f9a19a966e2b"), looks := false }, kinds := [], alts := [], laidByText := true, laidKinds := [.data, .data, .pinned], laidTests := true, laidLooks := .later }
def SeglogReadsUptoCardSaid : Prop := Claim7.holds Tryz.pinned (.plain (OpenSpec.upto seglogReadsSpec)) seglogReadsUptoCard

/-- THE SECOND FORM's CARD OF 'oblivionlaw13.SeglogReserve'. -/
def seglogReserveUptoCard : Claim7 := { stood := { row := seglogReserveUptoRow, standIns := [], harness := (true, "97988d9798bedce53483fdd390534d8d7c508fdf7dc81161beb8f9a19a966e2b"), looks := false }, kinds := [], alts := [], laidByText := true, laidKinds := [.data, .data, .pinned], laidTests := true, laidLooks := .later }
def SeglogReserveUptoCardSaid : Prop := Claim7.holds Tryz.pinned (.plain (OpenSpec.upto seglogReserveSpec)) seglogReserveUptoCard
end Rows
end Go.Proofs.YteckdahgkkmlaaaGreatDoor
