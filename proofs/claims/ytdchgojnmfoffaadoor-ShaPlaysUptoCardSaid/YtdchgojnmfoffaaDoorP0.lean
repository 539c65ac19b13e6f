/-
  A hash that is not there, and one of noughts: Write does nothing, Sum answers 32 noughts.
-/
import Derived.Test.YtdchgojnmfoffaaDoorC1
namespace Go.Proofs.YtdchgojnmfoffaaDoor.Sha
open Go Go.RowKit

theorem write_nil (w : World) (v : Value) : Calls Tryd.prog 17 #[.pointer none, v] w fun e w' => e = .returned (.tuple #[]) ∧ w' = w := by
  go_enter Tryd.func17, Tryd.ntmps17
  go_wp2
  (try simp only [Exit.inBlock, Exit.then])
  refine bodyPost_ret (results_none rfl _ _ _) rfl ?_
  exact ⟨rfl, rfl⟩
theorem write_zero (w : World) (p : Nat) (h : w.cell? ⟨p, 0, none⟩ = some (.bool false)) (v : Value) : Calls Tryd.prog 17 #[.pointer (some ⟨p, 0, none⟩), v] w fun e w' => e = .returned (.tuple #[]) ∧ w' = w := by
  go_enter Tryd.func17, Tryd.ntmps17
  go_wp2
  (try simp only [Exit.inBlock, Exit.then])
  refine bodyPost_ret (results_none rfl _ _ _) rfl ?_
  exact ⟨rfl, rfl⟩

set_option maxRecDepth 100000 in
theorem hsum_none (w : World) (v : Value) (hc : ∀ w', Below w.heap.size w w' → Calls Tryd.prog 15 #[v] w' fun e w'' => e = .returned (.pointer none) ∧ w'' = w') :
    Calls Tryd.prog 19 #[v] w fun e w' => e = .returned (.agg (bCells z32)) ∧ Below w.heap.size w w' := by
  have HC := Lib.hid hc
  clear hc
  have hb : Below w.heap.size w ((w.alloc (.cells (bCells z32) 22)).alloc (.cells (bCells z32) 22)) := ((Below.refl _ _).alloc (Nat.le_refl _) _).alloc (by simp) _
  have hr : Blk ((w.alloc (.cells (bCells z32) 22)).alloc (.cells (bCells z32) 22)) w.heap.size (bCells z32) 22 := (Blk.new w _ 22).alloc _
  have ho : Blk ((w.alloc (.cells (bCells z32) 22)).alloc (.cells (bCells z32) 22)) (w.heap.size + 1) (bCells z32) 22 := by
    have := Blk.new (w.alloc (.cells (bCells z32) 22)) (bCells z32) 22
    simpa using this
  go_enter Tryd.func19, Tryd.ntmps19
  go_wp2_with fail
  change Calls Tryd.prog 15 _ ((w.alloc (.cells (bCells z32) 22)).alloc (.cells (bCells z32) 22)) _
  generalize (w.alloc (.cells (bCells z32) 22)).alloc (.cells (bCells z32) 22) = w1 at hb hr ho ⊢
  refine (HC.out w1 hb).mono ?_
  rintro e w2 ⟨rfl, rfl⟩
  go_upto_region 4 with fail
  refine wp_region_lit ?_
  refine wpList_load_row rfl 22 _ rfl (w.heap.size + 1) rfl 22 _ (0, 0) _ ho Tryd.underlying22 rfl (by kernel_rfl) ?_
  refine wpList_store_row rfl 22 _ _ rfl w.heap.size (bCells z32) rfl rfl 22 _ hr (by kernel_rfl) rfl (bCells_one _) ?_
  go_wp2
  refine bodyPost_ret (v := .agg (bCells z32)) (results_cell_row rfl _ _ w.heap.size 22 _ (0, 0) _ rfl (setRow_heap _ _ _ _ _ _ hr) Tryd.underlying22 rfl (by kernel_rfl)) rfl ⟨rfl, ?_⟩
  exact below_setRow hb (Nat.le_refl _) _
theorem hsum_nil (w : World) : Calls Tryd.prog 19 #[.pointer none] w fun e w' => e = .returned (.agg (bCells z32)) ∧ Below w.heap.size w w' :=
  hsum_none w _ (fun w' _ => clone_nil w')
theorem hsum_zero (w : World) (p : Nat) (h : w.cell? ⟨p, 0, none⟩ = some (.bool false)) : Calls Tryd.prog 19 #[.pointer (some ⟨p, 0, none⟩)] w fun e w' => e = .returned (.agg (bCells z32)) ∧ Below w.heap.size w w' :=
  hsum_none w _ (fun w' hb => clone_zero w' p (by rw [hb.cell (p := ⟨p, 0, none⟩) (World.block_lt_of_cell? w _ h)]; exact h))
end Go.Proofs.YtdchgojnmfoffaaDoor.Sha
