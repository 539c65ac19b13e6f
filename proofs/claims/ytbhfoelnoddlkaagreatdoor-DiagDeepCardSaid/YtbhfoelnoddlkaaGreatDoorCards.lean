/-
  DERIVED. GIVEN WITH THE SEED: THE CARDS: each row of YtbhfoelnoddlkaaGreatDoorRows.lean that lists a variable, with what it lists TIED to the program's text (the seventh form; the later family's looks); each row that meets fmt, with fmt's text TOLD by the authors' own Lean function (tested against real Go, not proved from fmt's source: count such statements apart). THE CARD IS WHAT COUNTS. Prove the row's statement (the work); the ties are given (YtbhfoelnoddlkaaGreatDoorTie.lean); close each card by the builder's one call (the guide's Derived/Test/ToyasCard.lean, 'card_holds'). Laid BY PROGRAM, IN A SANDBOX (cutbox-door.mjs). By AI agents, Wed Nov 11 2026. No macro, syntax, notation, axiom, sorry.
-/
import Derived.Test.YtbhfoelnoddlkaaGreatDoorRows
import GoSem.ClaimSeven
namespace Go.Proofs.YtbhfoelnoddlkaaGreatDoor
namespace Rows

/-- THE TIED CARD OF 'cruciblelaw22.DiagDeep'. -/
def diagDeepCard : Claim7 := { stood := { row := diagDeepRow, standIns := [], harness := (true, "ac2030d474e7bc0f51108dc8a941f851bb849fd04e4223f8c3cccc0814ec5500"), looks := true }, kinds := [], alts := [], laidByText := true, laidKinds := [.data, .data, .data, .data, .handle, .sentinel, .sentinel, .sentinel, .sentinel, .sentinel, .sentinel, .sentinel, .sentinel, .sentinel, .sentinel, .sentinel, .data, .widerDeep, .pinned, .pinned], laidTests := true, laidLooks := .later }
def DiagDeepCardSaid : Prop := Claim7.holds Tryz.pinned (.plain (OpenSpec.ofChange diagDeepSpec)) diagDeepCard

/-- THE SECOND FORM's CARD OF 'cruciblelaw22.DiagDeep'. -/
def diagDeepUptoCard : Claim7 := { stood := { row := diagDeepUptoRow, standIns := [], harness := (true, "ac2030d474e7bc0f51108dc8a941f851bb849fd04e4223f8c3cccc0814ec5500"), looks := true }, kinds := [], alts := [], laidByText := true, laidKinds := [.data, .data, .data, .data, .handle, .sentinel, .sentinel, .sentinel, .sentinel, .sentinel, .sentinel, .sentinel, .sentinel, .sentinel, .sentinel, .sentinel, .data, .widerDeep, .pinned, .pinned], laidTests := true, laidLooks := .later }
def DiagDeepUptoCardSaid : Prop := Claim7.holds Tryz.pinned (.plain (OpenSpec.upto diagDeepSpec)) diagDeepUptoCard
end Rows
end Go.Proofs.YtbhfoelnoddlkaaGreatDoor
