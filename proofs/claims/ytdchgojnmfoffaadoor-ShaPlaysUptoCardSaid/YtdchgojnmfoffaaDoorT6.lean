import Derived.Test.YtdchgojnmfoffaaDoorT5
import Derived.Lib.ConvBytes
namespace Go.Proofs.YtdchgojnmfoffaaDoor.Sha
open Go Go.RowKit

theorem below_bytes {B : Nat} {a w : World} (h : Below B a w) (hB : B ≤ w.heap.size) (e : TypeId) (s : ByteArray) : Below B a (Lib.bytesWorld w e s) := by
  refine h.trans ⟨rfl, rfl, rfl, ?_, fun k hk => ?_⟩
  · rw [Lib.bytesWorld_size]; omega
  · exact Lib.bytesWorld_at_old w e s k (by omega)
theorem src_bytes {w : World} {p : Nat} (s : ByteArray) (hp : p < w.heap.size) : Src (Lib.bytesWorld w 5 s) p (.slice (some ⟨w.heap.size, 0, none⟩) s.size (grownCap w s.size 0 5)) s.data.toList := by
  have hl : s.data.toList.length = s.size := Array.length_toList
  refine ⟨_, _, by rw [hl], ?_, fun _ => ⟨w.heap.size, 0, rfl, by omega, by rw [Lib.bytesWorld_size]; omega, fun i hi => ?_⟩⟩
  · rw [hl]; exact Nat.le_add_right _ _
  · rw [Nat.zero_add, Lib.bytesWorld_cell w 5 s i (by omega)]; rfl

set_option maxRecDepth 100000 in
theorem sum_any (w : World) (hG : Glob w) (s : ByteArray) (hs : s.size ≤ 1125899906842624) :
    Calls Tryd.prog 10 #[.string s] w fun e w' => e = .returned (.agg (bCells (sum s.data.toList))) ∧ Below w.heap.size w w' := by
  have hconv := fun w => Lib.run_convert_string_bytes (P := Tryd.prog) w 9 31 5 s Tryd.underlying9 Tryd.underlying31 Tryd.underlying5
  go_enter Tryd.func10, Tryd.ntmps10
  go_wp2_with fail
  refine (new_any _ (hG.below ((Below.refl _ _).alloc (Nat.le_refl _) _) hG.size)).mono ?_
  rintro e w1 ⟨rfl, rfl⟩
  go_wp2_with fail
  have ho : Blk ((w.alloc (.cells (bCells z32) 22)).alloc (.cells hs0.cells 40)) w.heap.size (bCells z32) 22 := (Blk.new w _ 22).alloc _
  have hh : Blk ((w.alloc (.cells (bCells z32) 22)).alloc (.cells hs0.cells 40)) (w.heap.size + 1) hs0.cells 40 := by
    have := Blk.new (w.alloc (.cells (bCells z32) 22)) hs0.cells 40
    simpa using this
  have hb : Below w.heap.size w ((w.alloc (.cells (bCells z32) 22)).alloc (.cells hs0.cells 40)) := ((Below.refl _ _).alloc (Nat.le_refl _) _).alloc (by simp) _
  have hz : ((w.alloc (.cells (bCells z32) 22)).alloc (.cells hs0.cells 40)).heap.size = w.heap.size + 1 + 1 := by simp
  change Calls Tryd.prog 17 #[_, .slice _ _ (grownCap ((w.alloc (.cells (bCells z32) 22)).alloc (.cells hs0.cells 40)) s.size 0 5)] (Lib.bytesWorld ((w.alloc (.cells (bCells z32) 22)).alloc (.cells hs0.cells 40)) 5 s) _
  generalize (w.alloc (.cells (bCells z32) 22)).alloc (.cells hs0.cells 40) = W1 at ho hh hb hz ⊢
  have hsrc := src_bytes (w := W1) (p := w.heap.size + 1) s (by omega)
  rw [hz] at hsrc
  have hb2 := below_bytes hb (by omega) 5 s
  have hb3 : Below W1.heap.size W1 (Lib.bytesWorld W1 5 s) := below_bytes (Below.refl _ _) (Nat.le_refl _) 5 s
  have hz2 := Lib.bytesWorld_size W1 5 s
  have ho2 := ho.below hb3 ho.lt
  have hh2 := hh.below hb3 hh.lt
  generalize Lib.bytesWorld W1 5 s = W2 at hsrc hb2 hb3 hz2 ho2 hh2 ⊢
  refine (write_any W2 (hG.below hb2 hG.size) (w.heap.size + 1) (by have := hG.size; omega) hs0 [] s.data.toList took0 hh2 _ hsrc (by rw [Array.length_toList]; have : s.data.size = s.size := rfl; simp; omega)).mono ?_
  rintro e w3 ⟨rfl, x, hx, hB, hO⟩
  have ho3 := hO.blk ho2 (by omega) (by omega)
  have hb4 := hb2.trans (hO.below (B' := w.heap.size) (by omega) (by omega))
  have HSRC := Lib.hid hsrc
  clear hsrc hO hh2 ho2 hb3 hb2 ho hh hb hconv hz hz2
  go_wp2_with fail
  refine (hsum_any w3 (hG.below hb4 hG.size) (w.heap.size + 1) x s.data.toList hx hB (by rw [Array.length_toList]; exact hs)).mono ?_
  rintro e w4 ⟨rfl, hb5⟩
  have ho4 := ho3.below hb5 ho3.lt
  have hb6 := hb4.trans (hb5.mono hb4.size)
  dsimp only
  go_step
  refine wpList_store_row rfl 22 _ _ rfl w.heap.size _ rfl rfl 22 _ ho4 (by rw [bCells_size, len_sum]; kernel_rfl) (by rw [bCells_size, bCells_size, len_sum]; rfl) (bCells_one _) ?_
  go_wp2
  refine bodyPost_ret (v := .agg (bCells (sum s.data.toList))) (results_cell_row rfl _ _ w.heap.size 22 _ (0, 0) _ rfl (setRow_heap _ _ _ _ _ _ ho4) Tryd.underlying22 rfl (by rw [bCells_size, len_sum]; kernel_rfl)) rfl ⟨rfl, ?_⟩
  exact below_setRow hb6 (Nat.le_refl _) _
end Go.Proofs.YtdchgojnmfoffaaDoor.Sha
