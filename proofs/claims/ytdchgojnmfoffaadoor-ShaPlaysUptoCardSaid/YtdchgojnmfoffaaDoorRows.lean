/-
  NARROWER THAN 'FOR EVERY INPUT', by the rows' own cells (each row's printed sentence says how): ShaSums: laid · ShaPlays: laid · ShaCuts: laid · ShaSames: laid · ShaMacs: laid · ShaKnown: laid · ShaKeys: laid.
  DERIVED. THE GIVEN ROWS OF THIS SEAT. 7 by the template 'for every input the law returns true; each argument reads behind the call as it read before'; 0 by the template 'total and deterministic' (their statements: YtdchgojnmfoffaaDoorTotals.lean).
  GIVEN WITH THE SEED: the statements are not yours to turn. If you find one false, say at which input.
  Laid BY PROGRAM, IN A SANDBOX (cutbox-rows.mjs): the forced cells as the released guide's own fill.sh prints them over the translation 9f5a91612a8b21b9… (all of the seat's roots in one cut). By AI agents, Wed Nov 11 2026. No macro, syntax, notation, axiom, sorry.
-/
import Derived.Test.YtdchgojnmfoffaaDoorChecked
import GoSem.Claim
import GoSem.ClaimJoined
import GoSem.ClaimMapViews
import Derived.JoinedTies
import Derived.KernelRfl
namespace Go.Proofs.YtdchgojnmfoffaaDoor
/- THE CELL 'sum', in the pinned program and in every row, IS THE sha256 OF THE DUMP (.gsa) THAT YtdchgojnmfoffaaDoorProg.lean LOADS. Nothing in Lean hashes anything: it is a label: what it is worth is what the hold of that sum in a sandbox is worth. -/
noncomputable def Tryd.pinned : Pinned := { name := "ytdchgojnmfoffaadoor", sum := "9f5a91612a8b21b9819763135a3683a7e22cba6ac4ade2667adad7a72a836a66", checked := Tryd.checked }
namespace Rows
def none {H : Type} : Left H := { results := [], args := [] }

/- WHAT THE LISTED PACKAGE-LEVEL VARIABLES READ AS WHEN THE CALL BEGINS. Each datum BY PROGRAM (the guide's laid-datum.mjs) off the statement by which the dump's own 'gosem.cut.vars' lays the variable. In a bare row this is a premise. The card (YtdchgojnmfoffaaDoorCards.lean) ties it to the program's text. -/
def laid_crucible_sha_first {H : Type} : DataW H := .agg [.lit (.int .u32 1779033703), .lit (.int .u32 3144134277), .lit (.int .u32 1013904242), .lit (.int .u32 2773480762), .lit (.int .u32 1359893119), .lit (.int .u32 2600822924), .lit (.int .u32 528734635), .lit (.int .u32 1541459225)]
def laid_crucible_sha_k {H : Type} : DataW H := .agg [.lit (.int .u32 1116352408), .lit (.int .u32 1899447441), .lit (.int .u32 3049323471), .lit (.int .u32 3921009573), .lit (.int .u32 961987163), .lit (.int .u32 1508970993), .lit (.int .u32 2453635748), .lit (.int .u32 2870763221), .lit (.int .u32 3624381080), .lit (.int .u32 310598401), .lit (.int .u32 607225278), .lit (.int .u32 1426881987), .lit (.int .u32 1925078388), .lit (.int .u32 2162078206), .lit (.int .u32 2614888103), .lit (.int .u32 3248222580), .lit (.int .u32 3835390401), .lit (.int .u32 4022224774), .lit (.int .u32 264347078), .lit (.int .u32 604807628), .lit (.int .u32 770255983), .lit (.int .u32 1249150122), .lit (.int .u32 1555081692), .lit (.int .u32 1996064986), .lit (.int .u32 2554220882), .lit (.int .u32 2821834349), .lit (.int .u32 2952996808), .lit (.int .u32 3210313671), .lit (.int .u32 3336571891), .lit (.int .u32 3584528711), .lit (.int .u32 113926993), .lit (.int .u32 338241895), .lit (.int .u32 666307205), .lit (.int .u32 773529912), .lit (.int .u32 1294757372), .lit (.int .u32 1396182291), .lit (.int .u32 1695183700), .lit (.int .u32 1986661051), .lit (.int .u32 2177026350), .lit (.int .u32 2456956037), .lit (.int .u32 2730485921), .lit (.int .u32 2820302411), .lit (.int .u32 3259730800), .lit (.int .u32 3345764771), .lit (.int .u32 3516065817), .lit (.int .u32 3600352804), .lit (.int .u32 4094571909), .lit (.int .u32 275423344), .lit (.int .u32 430227734), .lit (.int .u32 506948616), .lit (.int .u32 659060556), .lit (.int .u32 883997877), .lit (.int .u32 958139571), .lit (.int .u32 1322822218), .lit (.int .u32 1537002063), .lit (.int .u32 1747873779), .lit (.int .u32 1955562222), .lit (.int .u32 2024104815), .lit (.int .u32 2227730452), .lit (.int .u32 2361852424), .lit (.int .u32 2428436474), .lit (.int .u32 2756734187), .lit (.int .u32 3204031479), .lit (.int .u32 3329325298)]

/-- 'cruciblelaw28.ShaSums': WHATEVER THE INPUT: true; the input reads as it did. -/
def shaSumsSpec : ChangeSpec := { name := "shaSums", fn := fun _ => fun
  | [d] => { results := [.lit (.bool true)], args := [d] }
  | _ => none }
def shaSumsRow : OpenClaim := { program := "ytdchgojnmfoffaadoor", sum := "9f5a91612a8b21b9819763135a3683a7e22cba6ac4ade2667adad7a72a836a66", func := "crucible/cruciblelaw28.ShaSums", spec := "shaSums", named := ["crucible/sha.first", "crucible/sha.k"], apart := false, laid := [("crucible/sha.first", laid_crucible_sha_first), ("crucible/sha.k", laid_crucible_sha_k)] }
def ShaSumsSaid : Prop := shaSumsRow.holds Tryd.pinned (OpenSpec.ofChange shaSumsSpec)

/-- ITS FALSE NEIGHBOUR: 'it returns false'. Refute it at one input. -/
def shaSumsWrong : ChangeSpec := { name := "shaSums", fn := fun _ => fun
  | [d] => { results := [.lit (.bool false)], args := [d] }
  | _ => none }
def ShaSumsWrongFalsely : Prop := shaSumsRow.holds Tryd.pinned (OpenSpec.ofChange shaSumsWrong)

/-- 'cruciblelaw28.ShaPlays': WHATEVER THE INPUT: true; the input reads as it did. -/
def shaPlaysSpec : ChangeSpec := { name := "shaPlays", fn := fun _ => fun
  | [d] => { results := [.lit (.bool true)], args := [d] }
  | _ => none }
def shaPlaysRow : OpenClaim := { program := "ytdchgojnmfoffaadoor", sum := "9f5a91612a8b21b9819763135a3683a7e22cba6ac4ade2667adad7a72a836a66", func := "crucible/cruciblelaw28.ShaPlays", spec := "shaPlays", named := ["crucible/sha.first", "crucible/sha.k"], apart := false, laid := [("crucible/sha.first", laid_crucible_sha_first), ("crucible/sha.k", laid_crucible_sha_k)] }
def ShaPlaysSaid : Prop := shaPlaysRow.holds Tryd.pinned (OpenSpec.ofChange shaPlaysSpec)

/-- ITS FALSE NEIGHBOUR: 'it returns false'. Refute it at one input. -/
def shaPlaysWrong : ChangeSpec := { name := "shaPlays", fn := fun _ => fun
  | [d] => { results := [.lit (.bool false)], args := [d] }
  | _ => none }
def ShaPlaysWrongFalsely : Prop := shaPlaysRow.holds Tryd.pinned (OpenSpec.ofChange shaPlaysWrong)

/-- 'cruciblelaw28.ShaCuts': WHATEVER THE INPUT: true; the input reads as it did. -/
def shaCutsSpec : ChangeSpec := { name := "shaCuts", fn := fun _ => fun
  | [d1, d2] => { results := [.lit (.bool true)], args := [d1, d2] }
  | _ => none }
def shaCutsRow : OpenClaim := { program := "ytdchgojnmfoffaadoor", sum := "9f5a91612a8b21b9819763135a3683a7e22cba6ac4ade2667adad7a72a836a66", func := "crucible/cruciblelaw28.ShaCuts", spec := "shaCuts", named := ["crucible/sha.first", "crucible/sha.k"], apart := false, laid := [("crucible/sha.first", laid_crucible_sha_first), ("crucible/sha.k", laid_crucible_sha_k)] }
def ShaCutsSaid : Prop := shaCutsRow.holds Tryd.pinned (OpenSpec.ofChange shaCutsSpec)

/-- ITS FALSE NEIGHBOUR: 'it returns false'. Refute it at one input. -/
def shaCutsWrong : ChangeSpec := { name := "shaCuts", fn := fun _ => fun
  | [d1, d2] => { results := [.lit (.bool false)], args := [d1, d2] }
  | _ => none }
def ShaCutsWrongFalsely : Prop := shaCutsRow.holds Tryd.pinned (OpenSpec.ofChange shaCutsWrong)

/-- 'cruciblelaw28.ShaSames': WHATEVER THE INPUT: true; the input reads as it did. -/
def shaSamesSpec : ChangeSpec := { name := "shaSames", fn := fun _ => fun
  | [d1, d2, d3] => { results := [.lit (.bool true)], args := [d1, d2, d3] }
  | _ => none }
def shaSamesRow : OpenClaim := { program := "ytdchgojnmfoffaadoor", sum := "9f5a91612a8b21b9819763135a3683a7e22cba6ac4ade2667adad7a72a836a66", func := "crucible/cruciblelaw28.ShaSames", spec := "shaSames", named := ["crucible/sha.first", "crucible/sha.k"], apart := false, laid := [("crucible/sha.first", laid_crucible_sha_first), ("crucible/sha.k", laid_crucible_sha_k)] }
def ShaSamesSaid : Prop := shaSamesRow.holds Tryd.pinned (OpenSpec.ofChange shaSamesSpec)

/-- ITS FALSE NEIGHBOUR: 'it returns false'. Refute it at one input. -/
def shaSamesWrong : ChangeSpec := { name := "shaSames", fn := fun _ => fun
  | [d1, d2, d3] => { results := [.lit (.bool false)], args := [d1, d2, d3] }
  | _ => none }
def ShaSamesWrongFalsely : Prop := shaSamesRow.holds Tryd.pinned (OpenSpec.ofChange shaSamesWrong)

/-- 'cruciblelaw28.ShaMacs': WHATEVER THE INPUT: true; the input reads as it did. -/
def shaMacsSpec : ChangeSpec := { name := "shaMacs", fn := fun _ => fun
  | [d1, d2] => { results := [.lit (.bool true)], args := [d1, d2] }
  | _ => none }
def shaMacsRow : OpenClaim := { program := "ytdchgojnmfoffaadoor", sum := "9f5a91612a8b21b9819763135a3683a7e22cba6ac4ade2667adad7a72a836a66", func := "crucible/cruciblelaw28.ShaMacs", spec := "shaMacs", named := ["crucible/sha.first", "crucible/sha.k"], apart := false, laid := [("crucible/sha.first", laid_crucible_sha_first), ("crucible/sha.k", laid_crucible_sha_k)] }
def ShaMacsSaid : Prop := shaMacsRow.holds Tryd.pinned (OpenSpec.ofChange shaMacsSpec)

/-- ITS FALSE NEIGHBOUR: 'it returns false'. Refute it at one input. -/
def shaMacsWrong : ChangeSpec := { name := "shaMacs", fn := fun _ => fun
  | [d1, d2] => { results := [.lit (.bool false)], args := [d1, d2] }
  | _ => none }
def ShaMacsWrongFalsely : Prop := shaMacsRow.holds Tryd.pinned (OpenSpec.ofChange shaMacsWrong)

/-- 'cruciblelaw28.ShaKnown': WHATEVER THE INPUT: true; the input reads as it did. -/
def shaKnownSpec : ChangeSpec := { name := "shaKnown", fn := fun _ => fun
  | [] => { results := [.lit (.bool true)], args := [] }
  | _ => none }
def shaKnownRow : OpenClaim := { program := "ytdchgojnmfoffaadoor", sum := "9f5a91612a8b21b9819763135a3683a7e22cba6ac4ade2667adad7a72a836a66", func := "crucible/cruciblelaw28.ShaKnown", spec := "shaKnown", named := ["crucible/sha.first", "crucible/sha.k"], apart := false, laid := [("crucible/sha.first", laid_crucible_sha_first), ("crucible/sha.k", laid_crucible_sha_k)] }
def ShaKnownSaid : Prop := shaKnownRow.holds Tryd.pinned (OpenSpec.ofChange shaKnownSpec)

/-- ITS FALSE NEIGHBOUR: 'it returns false'. Refute it at one input. -/
def shaKnownWrong : ChangeSpec := { name := "shaKnown", fn := fun _ => fun
  | [] => { results := [.lit (.bool false)], args := [] }
  | _ => none }
def ShaKnownWrongFalsely : Prop := shaKnownRow.holds Tryd.pinned (OpenSpec.ofChange shaKnownWrong)

/-- 'cruciblelaw28.ShaKeys': WHATEVER THE INPUT: true; the input reads as it did. -/
def shaKeysSpec : ChangeSpec := { name := "shaKeys", fn := fun _ => fun
  | [d1, d2, d3] => { results := [.lit (.bool true)], args := [d1, d2, d3] }
  | _ => none }
def shaKeysRow : OpenClaim := { program := "ytdchgojnmfoffaadoor", sum := "9f5a91612a8b21b9819763135a3683a7e22cba6ac4ade2667adad7a72a836a66", func := "crucible/cruciblelaw28.ShaKeys", spec := "shaKeys", named := ["crucible/sha.first", "crucible/sha.k"], apart := false, laid := [("crucible/sha.first", laid_crucible_sha_first), ("crucible/sha.k", laid_crucible_sha_k)] }
def ShaKeysSaid : Prop := shaKeysRow.holds Tryd.pinned (OpenSpec.ofChange shaKeysSpec)

/-- ITS FALSE NEIGHBOUR: 'it returns false'. Refute it at one input. -/
def shaKeysWrong : ChangeSpec := { name := "shaKeys", fn := fun _ => fun
  | [d1, d2, d3] => { results := [.lit (.bool false)], args := [d1, d2, d3] }
  | _ => none }
def ShaKeysWrongFalsely : Prop := shaKeysRow.holds Tryd.pinned (OpenSpec.ofChange shaKeysWrong)

/- THE SECOND FORM. 'bulk': how many values and letters a reading holds, each counted each time it is reached (what is shared counts as often as it is met; a slice's spare places count too). A statement '..UptoSaid' is the law's where the arguments, and the package variables that the reading takes, are together of bulk at most 1048576: NARROWER than '..Said'. Prove '..Said' where nothing that the law and all that it calls make is longer than what came in: it says more and counts as full. Else prove '..UptoSaid'. A law counts once. -/
mutual
def uptoBulk {H : Type} : DataW H → Nat
  | .lit (.string bytes) => bytes.length + 1
  | .lit _ => 1
  | .nil => 1
  | .ptr d => uptoBulk d + 1
  | .slice elems spare => uptoBulkAll elems + uptoBulkAll spare + 1
  | .agg parts => uptoBulkAll parts + 1
  | .iface _ d => uptoBulk d + 1
  | .map entries => uptoBulkEntries entries + 1
  | .held _ => 1
def uptoBulkAll {H : Type} : List (DataW H) → Nat
  | [] => 0
  | d :: r => uptoBulk d + uptoBulkAll r
def uptoBulkEntries {H : Type} : List (Lit × DataW H) → Nat
  | [] => 0
  | x :: r => uptoBulkEntry x + uptoBulkEntries r
def uptoBulkEntry {H : Type} : Lit × DataW H → Nat
  | (.string bytes, d) => bytes.length + uptoBulk d + 1
  | (_, d) => uptoBulk d + 1
 end
def uptoSmall : (H : Type) → List (DataW H) → Bool := fun _ ds => decide (uptoBulkAll ds ≤ 1048576)
def OpenSpec.upto (s : _root_.Go.ChangeSpec) : _root_.Go.OpenSpec := { _root_.Go.OpenSpec.ofChange s with cond := some uptoSmall }

/-- 'cruciblelaw28.ShaSums', WHERE WHAT IT READS IS OF BULK AT MOST 1048576: true; the input reads as it did. -/
def shaSumsUptoRow : OpenClaim := { program := "ytdchgojnmfoffaadoor", sum := "9f5a91612a8b21b9819763135a3683a7e22cba6ac4ade2667adad7a72a836a66", func := "crucible/cruciblelaw28.ShaSums", spec := "shaSums", named := ["crucible/sha.first", "crucible/sha.k"], apart := false, laid := [("crucible/sha.first", laid_crucible_sha_first), ("crucible/sha.k", laid_crucible_sha_k)], narrowed := true }
def ShaSumsUptoSaid : Prop := shaSumsUptoRow.holds Tryd.pinned (OpenSpec.upto shaSumsSpec)

/-- 'cruciblelaw28.ShaPlays', WHERE WHAT IT READS IS OF BULK AT MOST 1048576: true; the input reads as it did. -/
def shaPlaysUptoRow : OpenClaim := { program := "ytdchgojnmfoffaadoor", sum := "9f5a91612a8b21b9819763135a3683a7e22cba6ac4ade2667adad7a72a836a66", func := "crucible/cruciblelaw28.ShaPlays", spec := "shaPlays", named := ["crucible/sha.first", "crucible/sha.k"], apart := false, laid := [("crucible/sha.first", laid_crucible_sha_first), ("crucible/sha.k", laid_crucible_sha_k)], narrowed := true }
def ShaPlaysUptoSaid : Prop := shaPlaysUptoRow.holds Tryd.pinned (OpenSpec.upto shaPlaysSpec)

/-- 'cruciblelaw28.ShaCuts', WHERE WHAT IT READS IS OF BULK AT MOST 1048576: true; the input reads as it did. -/
def shaCutsUptoRow : OpenClaim := { program := "ytdchgojnmfoffaadoor", sum := "9f5a91612a8b21b9819763135a3683a7e22cba6ac4ade2667adad7a72a836a66", func := "crucible/cruciblelaw28.ShaCuts", spec := "shaCuts", named := ["crucible/sha.first", "crucible/sha.k"], apart := false, laid := [("crucible/sha.first", laid_crucible_sha_first), ("crucible/sha.k", laid_crucible_sha_k)], narrowed := true }
def ShaCutsUptoSaid : Prop := shaCutsUptoRow.holds Tryd.pinned (OpenSpec.upto shaCutsSpec)

/-- 'cruciblelaw28.ShaSames', WHERE WHAT IT READS IS OF BULK AT MOST 1048576: true; the input reads as it did. -/
def shaSamesUptoRow : OpenClaim := { program := "ytdchgojnmfoffaadoor", sum := "9f5a91612a8b21b9819763135a3683a7e22cba6ac4ade2667adad7a72a836a66", func := "crucible/cruciblelaw28.ShaSames", spec := "shaSames", named := ["crucible/sha.first", "crucible/sha.k"], apart := false, laid := [("crucible/sha.first", laid_crucible_sha_first), ("crucible/sha.k", laid_crucible_sha_k)], narrowed := true }
def ShaSamesUptoSaid : Prop := shaSamesUptoRow.holds Tryd.pinned (OpenSpec.upto shaSamesSpec)

/-- 'cruciblelaw28.ShaMacs', WHERE WHAT IT READS IS OF BULK AT MOST 1048576: true; the input reads as it did. -/
def shaMacsUptoRow : OpenClaim := { program := "ytdchgojnmfoffaadoor", sum := "9f5a91612a8b21b9819763135a3683a7e22cba6ac4ade2667adad7a72a836a66", func := "crucible/cruciblelaw28.ShaMacs", spec := "shaMacs", named := ["crucible/sha.first", "crucible/sha.k"], apart := false, laid := [("crucible/sha.first", laid_crucible_sha_first), ("crucible/sha.k", laid_crucible_sha_k)], narrowed := true }
def ShaMacsUptoSaid : Prop := shaMacsUptoRow.holds Tryd.pinned (OpenSpec.upto shaMacsSpec)

/-- 'cruciblelaw28.ShaKnown', WHERE WHAT IT READS IS OF BULK AT MOST 1048576: true; the input reads as it did. -/
def shaKnownUptoRow : OpenClaim := { program := "ytdchgojnmfoffaadoor", sum := "9f5a91612a8b21b9819763135a3683a7e22cba6ac4ade2667adad7a72a836a66", func := "crucible/cruciblelaw28.ShaKnown", spec := "shaKnown", named := ["crucible/sha.first", "crucible/sha.k"], apart := false, laid := [("crucible/sha.first", laid_crucible_sha_first), ("crucible/sha.k", laid_crucible_sha_k)], narrowed := true }
def ShaKnownUptoSaid : Prop := shaKnownUptoRow.holds Tryd.pinned (OpenSpec.upto shaKnownSpec)

/-- 'cruciblelaw28.ShaKeys', WHERE WHAT IT READS IS OF BULK AT MOST 1048576: true; the input reads as it did. -/
def shaKeysUptoRow : OpenClaim := { program := "ytdchgojnmfoffaadoor", sum := "9f5a91612a8b21b9819763135a3683a7e22cba6ac4ade2667adad7a72a836a66", func := "crucible/cruciblelaw28.ShaKeys", spec := "shaKeys", named := ["crucible/sha.first", "crucible/sha.k"], apart := false, laid := [("crucible/sha.first", laid_crucible_sha_first), ("crucible/sha.k", laid_crucible_sha_k)], narrowed := true }
def ShaKeysUptoSaid : Prop := shaKeysUptoRow.holds Tryd.pinned (OpenSpec.upto shaKeysSpec)

end Rows
end Go.Proofs.YtdchgojnmfoffaaDoor
