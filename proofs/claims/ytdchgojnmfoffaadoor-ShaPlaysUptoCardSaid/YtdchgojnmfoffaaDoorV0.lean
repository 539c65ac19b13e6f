/-
  The law's own check that the digest of "abc" is the published one: it answers true.
-/
import Derived.Test.YtdchgojnmfoffaaDoorM0
import Derived.Test.YtdchgojnmfoffaaDoorEq
import Derived.Deep.RegionHeld3
namespace Go.Proofs.YtdchgojnmfoffaaDoor.Sha
open Go Go.RowKit

def abc : List UInt8 := sum [97, 98, 99]
set_option maxRecDepth 100000 in
theorem abc_at : abc.getD 0 0 = 186 ∧ abc.getD 1 0 = 120 ∧ abc.getD 31 0 = 173 := by decide +kernel
theorem len_abc : abc.length = 32 := len_sum _
theorem bytes_all (l : List UInt8) : ∀ v ∈ l.map by8, v.oneCell' = true := by
  intro v hv
  obtain ⟨c, _, rfl⟩ := List.mem_map.1 hv
  rfl

set_option maxRecDepth 100000 in
set_option maxHeartbeats 400000 in
theorem lives_any (w : World) (hG : Glob w) : Calls Tryd.prog 16 #[] w fun e w' => e = .returned (.bool true) ∧ Below w.heap.size w w' := by
  go_enter Tryd.func16, Tryd.ntmps16
  go_wp2_with fail
  refine (new_any w hG).mono ?_
  rintro e w1 ⟨rfl, rfl⟩
  go_upto_region 4 with fail
  have hp := hG.size
  have hB := Blk.new w hs0.cells 40
  have hb : Below w.heap.size w (w.alloc (.cells hs0.cells 40)) := (Below.refl _ _).alloc (Nat.le_refl _) _
  have hz : (w.alloc (.cells hs0.cells 40)).heap.size = w.heap.size + 1 := by simp
  have hA := Blk.new (w.alloc (.cells hs0.cells 40)) (bCells [97, 98]) 5
  have hB1 := hB.alloc (.cells (bCells [97, 98]) 5)
  have hb1 := hb.alloc (by simp) (.cells (bCells [97, 98]) 5)
  rw [hz] at hA
  go_wp2_with fail
  change Calls Tryd.prog 17 _ ((w.alloc (.cells hs0.cells 40)).alloc (.cells (bCells [97, 98]) 5)) _
  have hz1 : ((w.alloc (.cells hs0.cells 40)).alloc (.cells (bCells [97, 98]) 5)).heap.size = w.heap.size + 2 := by simp
  generalize (w.alloc (.cells hs0.cells 40)).alloc (.cells (bCells [97, 98]) 5) = w1 at hA hB1 hb1 hz1 ⊢
  refine (write_any w1 (hG.below hb1 hp) w.heap.size hp hs0 [] [97, 98] took0 hB1 _ (src_blk hA (by omega) (by rfl) (by omega)) (by decide)).mono ?_
  rintro e w2 ⟨rfl, x1, hx1, hB2, hO⟩
  have hb2 := hb1.trans (hO.below (B' := w.heap.size) (by omega) (Nat.le_refl _))
  have hz2 : w.heap.size + 2 ≤ w2.heap.size := by have := hO.size; omega
  clear hA hB1 hb1 hO hb hB hz hz1
  go_wp2_with fail
  have hA := Blk.new w2 (bCells [99]) 5
  have hB3 := hB2.alloc (.cells (bCells [99]) 5)
  have hb3 := hb2.alloc hb2.size (.cells (bCells [99]) 5)
  have hz3 : (w2.alloc (.cells (bCells [99]) 5)).heap.size = w2.heap.size + 1 := by simp
  change Calls Tryd.prog 17 _ (w2.alloc (.cells (bCells [99]) 5)) _
  generalize w2.alloc (.cells (bCells [99]) 5) = w3 at hA hB3 hb3 hz3 ⊢
  refine (write_any w3 (hG.below hb3 hp) w.heap.size hp x1 ([] ++ [97, 98]) [99] hx1 hB3 _ (src_blk hA (by omega) (by rfl) (by omega)) (by decide)).mono ?_
  rintro e w4 ⟨rfl, x2, hx2, hB4, hO⟩
  have hb4 := hb3.trans (hO.below (B' := w.heap.size) (by omega) (Nat.le_refl _))
  have HX2 : Hid (Took x2 [97, 98, 99]) := hx2
  clear hA hB3 hb3 hO hb2 hB2 hx1 hx2 hz3 hz2
  go_wp2_with fail
  refine (hsum_any w4 (hG.below hb4 hp) w.heap.size x2 [97, 98, 99] HX2.out hB4 (by decide)).mono ?_
  rintro e w5 ⟨rfl, hb5⟩
  have hB5 := hB4.below hb5 hB4.lt
  have hb6 := hb4.trans (hb5.mono hb4.size)
  clear hb4 hb5 hB4
  rw [show sum [97, 98, 99] = abc from rfl]
  dsimp only
  iterate 4 go_step
  refine wpList_store_row rfl 22 _ _ rfl w5.heap.size (bCells abc) rfl rfl 22 _ (Blk.new _ (bCells (List.replicate 32 0)) _) (by rw [bCells_size, len_abc]; kernel_rfl) (by rw [bCells_size, bCells_size, len_abc]; rfl) (bCells_one _) ?_
  rw [setRow_alloc_new]
  have hk := Blk.new w5 (bCells abc) 22
  have hB7 := hB5.alloc (.cells (bCells abc) 22)
  have hb7 := hb6.alloc hb6.size (.cells (bCells abc) 22)
  generalize w5.alloc (.cells (bCells abc) 22) = w6 at hk hB7 hb7 ⊢
  generalize w5.heap.size = z at hk ⊢
  clear hB5 hb6
  obtain ⟨D, hD⟩ : ∃ D, D = abc := ⟨_, rfl⟩
  rw [← hD] at hk ⊢
  have d0 := abc_at
  rw [← hD] at d0
  have dl : D.length = 32 := by rw [hD]; exact len_abc
  obtain ⟨p, hpp⟩ : ∃ p, p = w.heap.size := ⟨_, rfl⟩
  have HPP := Lib.hid hpp
  rw [← hpp] at hB7 hb7 hp ⊢
  have C : ∀ w', Glob w' → Calls Tryd.prog 10 #[.string ⟨#[97, 98, 99]⟩] w' fun e w'' => e = .returned (.agg (List.map by8 D).toArray) ∧ Below w'.heap.size w' w'' := fun w' h => by
    rw [hD]; exact sum_any w' h ⟨#[97, 98, 99]⟩ (by decide)
  have HC := Lib.hid C
  clear C hD hpp
  have he : ∀ w, (binOp .eql 22 (.agg (List.map by8 D).toArray) (.agg (List.map by8 D).toArray)).run Tryd.prog w = .ok (.bool true) w := fun w => by
    have := run_eql22 D D dl dl w
    rw [decide_eq_true rfl] at this
    exact this
  have hS : ∀ w', Blk w' z (bCells D) 22 → Blk w' p x2.cells 40 → Below p w w' → (World.rangeAt w' z 0 (List.map by8 D) ∧ w'.cell? ⟨z, 0, none⟩ = some (.int .u8 186) ∧ w'.cell? ⟨z, 1, none⟩ = some (.int .u8 120) ∧ w'.cell? ⟨z, 31, none⟩ = some (.int .u8 173) ∧ w'.cell? ⟨p, 73, none⟩ = some (.int .i64 3) ∧ Blk w' z (bCells D) 22 ∧ Blk w' p x2.cells 40 ∧ Below p w w') := fun w' h1 h2 h3 =>
    ⟨(fun j v hj => by rw [Nat.zero_add, h1.cell, bCells, List.getElem?_toArray]; exact hj), by rw [h1.cell, bCells_at _ _ (by omega), d0.1]; rfl, by rw [h1.cell, bCells_at _ _ (by omega), d0.2.1]; rfl, by rw [h1.cell, bCells_at _ _ (by omega), d0.2.2]; rfl,
      by rw [h2.cell, x2.count HX2.out.b, HX2.out.m]; rfl, h1, h2, h3⟩
  have HS0 := Lib.hid (hS w6.drew hk.drew hB7.drew (below_drewN hb7 1))
  have HT : Hid (∀ w' w'', (World.rangeAt w' z 0 (List.map by8 D) ∧ w'.cell? ⟨z, 0, none⟩ = some (.int .u8 186) ∧ w'.cell? ⟨z, 1, none⟩ = some (.int .u8 120) ∧ w'.cell? ⟨z, 31, none⟩ = some (.int .u8 173) ∧ w'.cell? ⟨p, 73, none⟩ = some (.int .i64 3) ∧ Blk w' z (bCells D) 22 ∧ Blk w' p x2.cells 40 ∧ Below p w w') → Hid (Below w'.heap.size w' w'') → (World.rangeAt w'' z 0 (List.map by8 D) ∧ w''.cell? ⟨z, 0, none⟩ = some (.int .u8 186) ∧ w''.cell? ⟨z, 1, none⟩ = some (.int .u8 120) ∧ w''.cell? ⟨z, 31, none⟩ = some (.int .u8 173) ∧ w''.cell? ⟨p, 73, none⟩ = some (.int .i64 3) ∧ Blk w'' z (bCells D) 22 ∧ Blk w'' p x2.cells 40 ∧ Below p w w'')) := fun w' w'' h hb => by
    obtain ⟨-, -, -, -, -, h1, h2, h3⟩ := h
    exact hS w'' (h1.below hb.out h1.lt) (h2.below hb.out h2.lt) (h3.trans (hb.out.mono (by rw [HPP.out]; exact h3.size)))
  have HGl : Hid (∀ w', (World.rangeAt w' z 0 (List.map by8 D) ∧ w'.cell? ⟨z, 0, none⟩ = some (.int .u8 186) ∧ w'.cell? ⟨z, 1, none⟩ = some (.int .u8 120) ∧ w'.cell? ⟨z, 31, none⟩ = some (.int .u8 173) ∧ w'.cell? ⟨p, 73, none⟩ = some (.int .i64 3) ∧ Blk w' z (bCells D) 22 ∧ Blk w' p x2.cells 40 ∧ Below p w w') → Glob w') := fun w' h => hG.below h.2.2.2.2.2.2.2 hp
  have HCe : Hid (∀ w', (World.rangeAt w' z 0 (List.map by8 D) ∧ w'.cell? ⟨z, 0, none⟩ = some (.int .u8 186) ∧ w'.cell? ⟨z, 1, none⟩ = some (.int .u8 120) ∧ w'.cell? ⟨z, 31, none⟩ = some (.int .u8 173) ∧ w'.cell? ⟨p, 73, none⟩ = some (.int .i64 3) ∧ Blk w' z (bCells D) 22 ∧ Blk w' p x2.cells 40 ∧ Below p w w') → w'.cell? ⟨p, 73, none⟩ = some (.int .i64 3)) := fun w' h => h.2.2.2.2.1
  have HX : Hid (∀ w', (World.rangeAt w' z 0 (List.map by8 D) ∧ w'.cell? ⟨z, 0, none⟩ = some (.int .u8 186) ∧ w'.cell? ⟨z, 1, none⟩ = some (.int .u8 120) ∧ w'.cell? ⟨z, 31, none⟩ = some (.int .u8 173) ∧ w'.cell? ⟨p, 73, none⟩ = some (.int .i64 3) ∧ Blk w' z (bCells D) 22 ∧ Blk w' p x2.cells 40 ∧ Below p w w') → Below p w w') := fun w' h => h.2.2.2.2.2.2.2
  have q1 : ∀ (v : Value), v ∈ List.map by8 D → v.oneCell' = true := bytes_all D
  have q2 : Option.map (fun x => x.size) (Tryd.prog.info? 22) = some (List.map by8 D).length := by rw [List.length_map, dl]; kernel_rfl
  have q3 : Tryd.prog.underlying 22 = some (.array 32 5) := Tryd.underlying22
  have q4 : (List.map by8 D).length = 32 := by rw [List.length_map, dl]
  clear hS hk hB7 hb7 dl d0 hG hp
  go_wp2_with fail
  go_upto_region 7 with fail
  go_region_held3 (fun w' => (World.rangeAt w' z 0 (List.map by8 D) ∧ w'.cell? ⟨z, 0, none⟩ = some (.int .u8 186) ∧ w'.cell? ⟨z, 1, none⟩ = some (.int .u8 120) ∧ w'.cell? ⟨z, 31, none⟩ = some (.int .u8 173) ∧ w'.cell? ⟨p, 73, none⟩ = some (.int .i64 3) ∧ Blk w' z (bCells D) 22 ∧ Blk w' p x2.cells 40 ∧ Below p w w'))
    (first
      | exact HS0.out
      | assumption
      | (refine HT.out _ _ ?_ hb9; assumption))
    (first
      | (go_at_call 10; refine (HC.out _ (HGl.out _ (by assumption))).mono ?_; rintro e w9 ⟨rfl, hb9⟩; replace hb9 := Lib.hid hb9)
      | (go_at_call 18; refine (len_at _ p 3 (HCe.out _ (by assumption))).mono ?_; rintro e w9 ⟨rfl, rfl⟩))
  have hbz := Lib.hid (HX.out w9 (by assumption))
  clear q1 q2 q3 q4 he
  go_wp2
  go_ret
  refine ⟨rfl, ?_⟩
  have := hbz.out
  rwa [HPP.out] at this
end Go.Proofs.YtdchgojnmfoffaaDoor.Sha
