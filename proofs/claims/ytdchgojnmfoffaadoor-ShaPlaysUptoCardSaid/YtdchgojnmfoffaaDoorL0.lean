/-
  What the rows' list gives: the two tables of package sha, cell for cell; and a world for the witnesses.
-/
import Derived.Test.YtdchgojnmfoffaaDoorCards
import Derived.Test.YtdchgojnmfoffaaDoorTie
import Derived.Test.YtdchgojnmfoffaaDoorT3
import Derived.WalkKit
import Derived.ProofKit
import Derived.OpenShut
import Derived.Deep.DeepHandedRow
import Derived.Lib.LaidTab
namespace Go.Proofs.YtdchgojnmfoffaaDoor.Sha
open Go Go.RowKit Go.ChangeShapes Go.WideShapes Go.ChangeAt

theorem own : ownKnob Tryd.prog.godebug = none := by kernel_rfl
theorem gFirst : Tryd.prog.globalNamed "crucible/sha.first" = some 0 := by kernel_rfl
theorem gK : Tryd.prog.globalNamed "crucible/sha.k" = some 1 := by kernel_rfl
theorem tFirst : (Tryd.prog.globals[0]?).map (·.type) = some 37 := by kernel_rfl
theorem tK : (Tryd.prog.globals[1]?).map (·.type) = some 71 := by kernel_rfl
theorem cells37 : Tryd.prog.cellsOf 37 = 8 := by kernel_rfl
theorem cells71 : Tryd.prog.cellsOf 71 = 64 := by kernel_rfl
theorem cells36 : Tryd.prog.cellsOf 36 = 1 := by kernel_rfl
def hInts : List Int := hTab.map Int.ofNat
def kInts : List Int := kTab.map Int.ofNat
abbrev laidList : List (String × DataW Unit) := [("crucible/sha.first", Rows.laid_crucible_sha_first), ("crucible/sha.k", Rows.laid_crucible_sha_k)]
theorem laid_first : (Rows.laid_crucible_sha_first : DataW Unit) = Lib.tabData .u32 hInts := by kernel_rfl
theorem laid_k : (Rows.laid_crucible_sha_k : DataW Unit) = Lib.tabData .u32 kInts := by kernel_rfl
theorem tabs {W : World} (h : laidMetH Tryd.prog laidList W) : Lib.TabIs Tryd.prog W "crucible/sha.first" .u32 hInts ∧ Lib.TabIs Tryd.prog W "crucible/sha.k" .u32 kInts := by
  obtain ⟨ps, ⟨g, t, cs, fuel, p, q, hg, ht, hvar, hd, ⟨g', t', cs', fuel', p', q', hg', ht', hvar', hd', _, _⟩, _⟩, _⟩ := h
  constructor
  · obtain rfl := Option.some.inj (gFirst.symm.trans hg)
    obtain rfl := Option.some.inj (tFirst.symm.trans ht)
    rw [laid_first] at hd
    unfold Lib.TabIs
    rw [hvar, ← Lib.cells_of_tab Tryd.underlying37 Tryd.underlying36 cells36 cells37 hd]
  · obtain rfl := Option.some.inj (gK.symm.trans hg')
    obtain rfl := Option.some.inj (tK.symm.trans ht')
    rw [laid_k] at hd'
    unfold Lib.TabIs
    rw [hvar', ← Lib.cells_of_tab Tryd.underlying71 Tryd.underlying36 cells36 cells71 hd']
theorem hAt : ∀ i, i < 8 → hInts.getD i 0 = tn (H0.words.getD i 0) := by decide +kernel
theorem kAt : ∀ i, i < 64 → kInts.getD i 0 = tn (kw i) := by decide +kernel
theorem glob {W : World} (h : laidMetH Tryd.prog laidList W) : Glob W := by
  obtain ⟨h1, h2⟩ := tabs h
  have c1 : ∀ i, i < 8 → W.cell? ⟨0, i, none⟩ = some (.int .u32 (tn (H0.words.getD i 0))) := fun i hi => by
    rw [h1.cell gFirst i (by simpa [hInts, hTab] using hi), hAt i hi]
  have c2 : ∀ i, i < 64 → W.cell? ⟨1, i, none⟩ = some (.int .u32 (tn (kw i))) := fun i hi => by
    rw [h2.cell gK i (by simpa [kInts, kTab] using hi), kAt i hi]
  refine ⟨?_, c1, c2⟩
  have := c2 0 (by decide)
  rcases Nat.lt_or_ge 1 W.heap.size with h | h
  · exact h
  · simp [World.cell?, Array.getElem?_eq_none h] at this

def setTo (c : Array Value) : Obj → Obj
  | .cells _ t frozen => .cells c t frozen
  | o => o
/-- A world for the witnesses: the settled one, the tables holding what their initialisers lay. -/
noncomputable def laidWorld (os : Os) : World :=
  { World.holding Tryd.prog os ⟨#[], #[], []⟩ with
    heap := ((World.holding Tryd.prog os ⟨#[], #[], []⟩).heap.modify 0 (setTo (hInts.map (Value.int .u32)).toArray)).modify 1 (setTo (kInts.map (Value.int .u32)).toArray) }
theorem laid_met (os : Os) (args : Array Value) : laidMet Tryd.prog laidList ((laidWorld os).forCall (fun _ _ => 0) ⟨#[], args, []⟩).memory :=
  laidMet_of_run' 8 (by kernel_rfl) (by kernel_rfl)
end Go.Proofs.YtdchgojnmfoffaaDoor.Sha
