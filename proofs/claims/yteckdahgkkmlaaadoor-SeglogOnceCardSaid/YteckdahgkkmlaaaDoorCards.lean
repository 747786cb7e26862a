/-
  DERIVED. GIVEN WITH THE SEED: THE CARDS: each row of YteckdahgkkmlaaaDoorRows.lean that lists a variable, with what it lists TIED to the program's text (the seventh form; the later family's looks); each row that meets fmt, with fmt's text TOLD by the authors' own Lean function (tested against real Go, not proved from fmt's source: count such statements apart). THE CARD IS WHAT COUNTS. Prove the row's statement (the work); the ties are given (YteckdahgkkmlaaaDoorTie.lean); close each card by the builder's one call (the guide's Derived/Test/ToyasCard.lean, 'card_holds'). Laid BY PROGRAM, IN A SANDBOX (cutbox-door.mjs). By AI agents, Wed Nov 11 2026. No macro, syntax, notation, axiom, sorry.
-/
import Derived.Test.YteckdahgkkmlaaaDoorRows
import GoSem.ClaimSeven
namespace Go.Proofs.YteckdahgkkmlaaaDoor
namespace Rows

/-- THE TIED CARD OF 'oblivionlaw13.SeglogOnce'. -/
def seglogOnceCard : Claim7 := { stood := { row := seglogOnceRow, standIns := [], harness := (true, "f135cff30ea9116071d03eb5846b5c45066006a68a04c6b314eba4ca37c80d0b"), looks := false }, kinds := [], alts := [], laidByText := true, laidKinds := [.data, .data, .pinned], laidTests := true, laidLooks := .later }
def SeglogOnceCardSaid : Prop := Claim7.holds Tryd.pinned (.plain (OpenSpec.ofChange seglogOnceSpec)) seglogOnceCard

/-- THE SECOND FORM's CARD OF 'oblivionlaw13.SeglogOnce'. -/
def seglogOnceUptoCard : Claim7 := { stood := { row := seglogOnceUptoRow, standIns := [], harness := (true, "f135cff30ea9116071d03eb5846b5c45066006a68a04c6b314eba4ca37c80d0b"), looks := false }, kinds := [], alts := [], laidByText := true, laidKinds := [.data, .data, .pinned], laidTests := true, laidLooks := .later }
def SeglogOnceUptoCardSaid : Prop := Claim7.holds Tryd.pinned (.plain (OpenSpec.upto seglogOnceSpec)) seglogOnceUptoCard
end Rows
end Go.Proofs.YteckdahgkkmlaaaDoor
