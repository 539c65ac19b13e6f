/-
  DERIVED. GIVEN WITH THE SEED: THE CARDS: each row of YtcanfakaigpkgaaGreatDoorRows.lean that lists a variable, with what it lists TIED to the program's text (the seventh form; the later family's looks); each row that meets fmt, with fmt's text TOLD by the authors' own Lean function (tested against real Go, not proved from fmt's source: count such statements apart). THE CARD IS WHAT COUNTS. Prove the row's statement (the work); the ties are given (YtcanfakaigpkgaaGreatDoorTie.lean); close each card by the builder's one call (the guide's Derived/Test/ToyasCard.lean, 'card_holds'). Laid BY PROGRAM, IN A SANDBOX (cutbox-door.mjs). By AI agents, Wed Nov 11 2026. No macro, syntax, notation, axiom, sorry.
-/
import Derived.Test.YtcanfakaigpkgaaGreatDoorRows
import GoSem.ClaimSeven
namespace Go.Proofs.YtcanfakaigpkgaaGreatDoor
namespace Rows

/-- THE TIED CARD OF 'cruciblelaw22.DiagUnlike'. -/
def diagUnlikeCard : Claim7 := { stood := { row := diagUnlikeRow, standIns := [], harness := (true, "69294e2ce12ca7efc0d1463df490253f2796581c9d3b8f767a568ed14e5e2def"), looks := true }, kinds := [], alts := [], laidByText := true, laidKinds := [.data, .data, .data, .data, .handle, .sentinel, .sentinel, .sentinel, .sentinel, .sentinel, .sentinel, .sentinel, .sentinel, .sentinel, .sentinel, .sentinel, .data, .widerDeep, .pinned, .pinned], laidTests := true, laidLooks := .later }
def DiagUnlikeCardSaid : Prop := Claim7.holds Tryz.pinned (.plain (OpenSpec.ofChange diagUnlikeSpec)) diagUnlikeCard

/-- THE SECOND FORM's CARD OF 'cruciblelaw22.DiagUnlike'. -/
def diagUnlikeUptoCard : Claim7 := { stood := { row := diagUnlikeUptoRow, standIns := [], harness := (true, "69294e2ce12ca7efc0d1463df490253f2796581c9d3b8f767a568ed14e5e2def"), looks := true }, kinds := [], alts := [], laidByText := true, laidKinds := [.data, .data, .data, .data, .handle, .sentinel, .sentinel, .sentinel, .sentinel, .sentinel, .sentinel, .sentinel, .sentinel, .sentinel, .sentinel, .sentinel, .data, .widerDeep, .pinned, .pinned], laidTests := true, laidLooks := .later }
def DiagUnlikeUptoCardSaid : Prop := Claim7.holds Tryz.pinned (.plain (OpenSpec.upto diagUnlikeSpec)) diagUnlikeUptoCard
end Rows
end Go.Proofs.YtcanfakaigpkgaaGreatDoor
