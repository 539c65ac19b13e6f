/-
  DERIVED. GIVEN WITH THE SEED: THE CARDS: each row of YtdchgojnmfoffaaDoorRows.lean that lists a variable, with what it lists TIED to the program's text (the seventh form; the later family's looks); each row that meets fmt, with fmt's text TOLD by the authors' own Lean function (tested against real Go, not proved from fmt's source: count such statements apart). THE CARD IS WHAT COUNTS. Prove the row's statement (the work); the ties are given (YtdchgojnmfoffaaDoorTie.lean); close each card by the builder's one call (the guide's Derived/Test/ToyasCard.lean, 'card_holds'). Laid BY PROGRAM, IN A SANDBOX (cutbox-door.mjs). By AI agents, Wed Nov 11 2026. No macro, syntax, notation, axiom, sorry.
-/
import Derived.Test.YtdchgojnmfoffaaDoorRows
import GoSem.ClaimSeven
namespace Go.Proofs.YtdchgojnmfoffaaDoor
namespace Rows

/-- THE TIED CARD OF 'cruciblelaw28.ShaSums'. -/
def shaSumsCard : Claim7 := { stood := { row := shaSumsRow, standIns := [], harness := (true, "7f2ceebb071c050b3e77fd094a57a304c2512a8f2cc0c94c02502ce525794712"), looks := false }, kinds := [], alts := [], laidByText := true, laidKinds := [.data, .data], laidTests := true, laidLooks := .later }
def ShaSumsCardSaid : Prop := Claim7.holds Tryd.pinned (.plain (OpenSpec.ofChange shaSumsSpec)) shaSumsCard

/-- THE TIED CARD OF 'cruciblelaw28.ShaPlays'. -/
def shaPlaysCard : Claim7 := { stood := { row := shaPlaysRow, standIns := [], harness := (true, "7f2ceebb071c050b3e77fd094a57a304c2512a8f2cc0c94c02502ce525794712"), looks := false }, kinds := [], alts := [], laidByText := true, laidKinds := [.data, .data], laidTests := true, laidLooks := .later }
def ShaPlaysCardSaid : Prop := Claim7.holds Tryd.pinned (.plain (OpenSpec.ofChange shaPlaysSpec)) shaPlaysCard

/-- THE TIED CARD OF 'cruciblelaw28.ShaCuts'. -/
def shaCutsCard : Claim7 := { stood := { row := shaCutsRow, standIns := [], harness := (true, "7f2ceebb071c050b3e77fd094a57a304c2512a8f2cc0c94c02502ce525794712"), looks := false }, kinds := [], alts := [], laidByText := true, laidKinds := [.data, .data], laidTests := true, laidLooks := .later }
def ShaCutsCardSaid : Prop := Claim7.holds Tryd.pinned (.plain (OpenSpec.ofChange shaCutsSpec)) shaCutsCard

/-- THE TIED CARD OF 'cruciblelaw28.ShaSames'. -/
def shaSamesCard : Claim7 := { stood := { row := shaSamesRow, standIns := [], harness := (true, "7f2ceebb071c050b3e77fd094a57a304c2512a8f2cc0c94c02502ce525794712"), looks := false }, kinds := [], alts := [], laidByText := true, laidKinds := [.data, .data], laidTests := true, laidLooks := .later }
def ShaSamesCardSaid : Prop := Claim7.holds Tryd.pinned (.plain (OpenSpec.ofChange shaSamesSpec)) shaSamesCard

/-- THE TIED CARD OF 'cruciblelaw28.ShaMacs'. -/
def shaMacsCard : Claim7 := { stood := { row := shaMacsRow, standIns := [], harness := (true, "7f2ceebb071c050b3e77fd094a57a304c2512a8f2cc0c94c02502ce525794712"), looks := false }, kinds := [], alts := [], laidByText := true, laidKinds := [.data, .data], laidTests := true, laidLooks := .later }
def ShaMacsCardSaid : Prop := Claim7.holds Tryd.pinned (.plain (OpenSpec.ofChange shaMacsSpec)) shaMacsCard

/-- THE TIED CARD OF 'cruciblelaw28.ShaKnown'. -/
def shaKnownCard : Claim7 := { stood := { row := shaKnownRow, standIns := [], harness := (true, "7f2ceebb071c050b3e77fd094a57a304c2512a8f2cc0c94c02502ce525794712"), looks := false }, kinds := [], alts := [], laidByText := true, laidKinds := [.data, .data], laidTests := true, laidLooks := .later }
def ShaKnownCardSaid : Prop := Claim7.holds Tryd.pinned (.plain (OpenSpec.ofChange shaKnownSpec)) shaKnownCard

/-- THE TIED CARD OF 'cruciblelaw28.ShaKeys'. -/
def shaKeysCard : Claim7 := { stood := { row := shaKeysRow, standIns := [], harness := (true, "7f2ceebb071c050b3e77fd094a57a304c2512a8f2cc0c94c02502ce525794712"), looks := false }, kinds := [], alts := [], laidByText := true, laidKinds := [.data, .data], laidTests := true, laidLooks := .later }
def ShaKeysCardSaid : Prop := Claim7.holds Tryd.pinned (.plain (OpenSpec.ofChange shaKeysSpec)) shaKeysCard

/-- THE SECOND FORM's CARD OF 'cruciblelaw28.ShaSums'. -/
def shaSumsUptoCard : Claim7 := { stood := { row := shaSumsUptoRow, standIns := [], harness := (true, "7f2ceebb071c050b3e77fd094a57a304c2512a8f2cc0c94c02502ce525794712"), looks := false }, kinds := [], alts := [], laidByText := true, laidKinds := [.data, .data], laidTests := true, laidLooks := .later }
def ShaSumsUptoCardSaid : Prop := Claim7.holds Tryd.pinned (.plain (OpenSpec.upto shaSumsSpec)) shaSumsUptoCard

/-- THE SECOND FORM's CARD OF 'cruciblelaw28.ShaPlays'. -/
def shaPlaysUptoCard : Claim7 := { stood := { row := shaPlaysUptoRow, standIns := [], harness := (true, "7f2ceebb071c050b3e77fd094a57a304c2512a8f2cc0c94c02502ce525794712"), looks := false }, kinds := [], alts := [], laidByText := true, laidKinds := [.data, .data], laidTests := true, laidLooks := .later }
def ShaPlaysUptoCardSaid : Prop := Claim7.holds Tryd.pinned (.plain (OpenSpec.upto shaPlaysSpec)) shaPlaysUptoCard

/-- THE SECOND FORM's CARD OF 'cruciblelaw28.ShaCuts'. -/
def shaCutsUptoCard : Claim7 := { stood := { row := shaCutsUptoRow, standIns := [], harness := (true, "7f2ceebb071c050b3e77fd094a57a304c2512a8f2cc0c94c02502ce525794712"), looks := false }, kinds := [], alts := [], laidByText := true, laidKinds := [.data, .data], laidTests := true, laidLooks := .later }
def ShaCutsUptoCardSaid : Prop := Claim7.holds Tryd.pinned (.plain (OpenSpec.upto shaCutsSpec)) shaCutsUptoCard

/-- THE SECOND FORM's CARD OF 'cruciblelaw28.ShaSames'. -/
def shaSamesUptoCard : Claim7 := { stood := { row := shaSamesUptoRow, standIns := [], harness := (true, "7f2ceebb071c050b3e77fd094a57a304c2512a8f2cc0c94c02502ce525794712"), looks := false }, kinds := [], alts := [], laidByText := true, laidKinds := [.data, .data], laidTests := true, laidLooks := .later }
def ShaSamesUptoCardSaid : Prop := Claim7.holds Tryd.pinned (.plain (OpenSpec.upto shaSamesSpec)) shaSamesUptoCard

/-- THE SECOND FORM's CARD OF 'cruciblelaw28.ShaMacs'. -/
def shaMacsUptoCard : Claim7 := { stood := { row := shaMacsUptoRow, standIns := [], harness := (true, "7f2ceebb071c050b3e77fd094a57a304c2512a8f2cc0c94c02502ce525794712"), looks := false }, kinds := [], alts := [], laidByText := true, laidKinds := [.data, .data], laidTests := true, laidLooks := .later }
def ShaMacsUptoCardSaid : Prop := Claim7.holds Tryd.pinned (.plain (OpenSpec.upto shaMacsSpec)) shaMacsUptoCard

/-- THE SECOND FORM's CARD OF 'cruciblelaw28.ShaKnown'. -/
def shaKnownUptoCard : Claim7 := { stood := { row := shaKnownUptoRow, standIns := [], harness := (true, "7f2ceebb071c050b3e77fd094a57a304c2512a8f2cc0c94c02502ce525794712"), looks := false }, kinds := [], alts := [], laidByText := true, laidKinds := [.data, .data], laidTests := true, laidLooks := .later }
def ShaKnownUptoCardSaid : Prop := Claim7.holds Tryd.pinned (.plain (OpenSpec.upto shaKnownSpec)) shaKnownUptoCard

/-- THE SECOND FORM's CARD OF 'cruciblelaw28.ShaKeys'. -/
def shaKeysUptoCard : Claim7 := { stood := { row := shaKeysUptoRow, standIns := [], harness := (true, "7f2ceebb071c050b3e77fd094a57a304c2512a8f2cc0c94c02502ce525794712"), looks := false }, kinds := [], alts := [], laidByText := true, laidKinds := [.data, .data], laidTests := true, laidLooks := .later }
def ShaKeysUptoCardSaid : Prop := Claim7.holds Tryd.pinned (.plain (OpenSpec.upto shaKeysSpec)) shaKeysUptoCard
end Rows
end Go.Proofs.YtdchgojnmfoffaaDoor
