/-
  Of the proof that the law DiagDeep answers true at every row of bytes: a part, without conditions of its own.
-/
import Derived.Test.YtbhfoelnoddlkaaGreatDoorPart38
import Derived.Test.YtbhfoelnoddlkaaGreatDoorPart36
import Derived.WalkMore
import Derived.Test.YtbhfoelnoddlkaaGreatDoorPart13
import Derived.Test.YtbhfoelnoddlkaaGreatDoorPart12
set_option linter.unusedVariables false
set_option linter.unusedSimpArgs false
/-
  ecma.Read of "1.0" and "15e-1": walked (printed by wip/tools/genja.py).
-/
namespace Go.Proofs.YtbhfoelnoddlkaaGreatDoor.D
open Go Go.RowKit Limb

set_option maxRecDepth 100000 in
set_option maxHeartbeats 1000000 in
theorem eread_10 (w : World) (hG : GW w) : Calls Tryz.prog 69 #[.string (strL [49, 46, 48])] w fun e w' => e = .returned (.tuple #[.int .u64 4607182418800017408, .nilIface]) ∧ Below w.heap.size w w' := by
  obtain ⟨w0, hw0⟩ : ∃ w0, w0 = w.alloc (.cells #[.bool false, .bool false, .slice none 0 0, .int .i64 0, .int .i64 0] 190) := ⟨_, rfl⟩
  have hb0 : Below w.heap.size w w0 := by rw [hw0]; exact (Below.refl _ _).alloc (Nat.le_refl _) _
  have hP0 : PS w.heap.size w.heap.size false false [] 0 0 w0 := by
    rw [hw0]
    exact ⟨Nat.le_refl _, _, Blk.new _ _ _, ⟨rfl, .inl ⟨rfl, rfl⟩⟩, by simp [Value.ownBlock]⟩
  have HG := Lib.hid hG
  have HB0 := Lib.hid hb0
  have HP0 := Lib.hid hP0
  have HW0 := Lib.hid hw0
  clear hG hb0 hP0 hw0
  change Calls _ _ #[.string ⟨#[49, 46, 48]⟩] _ _
  go_enter Tryz.func69, Tryz.ntmps69
  go_wp2
  go_step3
  go_wp2
  go_step3
  go_wp2
  change Code.wp _ _ _ _ (w.alloc (.cells #[.bool false, .bool false, .slice none 0 0, .int .i64 0, .int .i64 0] 190))
  rw [← HW0.out]
  refine wp_loop_rounds 4 ?_
  rw [rounds_succ]
  go_wp2_with fail
  refine (next_start1 w.heap.size w.heap.size false false [] 0 0 (by decide) (by decide) w0 HP0.out HB0.out.size).mono ?_
  rintro r w1 ⟨rfl, hp, hb⟩
  have HP1 := Lib.hid hp
  have HB1 := Lib.hid (HB0.out.trans hb)
  clear hp hb
  go_wp2
  rw [rounds_succ]
  go_wp2_with fail
  refine (next_wholeP w.heap.size w.heap.size false false [49] 1 0 w1 HP1.out HB1.out.size).mono ?_
  rintro r w2 ⟨rfl, hp, hb⟩
  have HP2 := Lib.hid hp
  have HB2 := Lib.hid (HB1.out.trans hb)
  clear hp hb
  go_wp2
  rw [rounds_succ]
  go_wp2_with fail
  refine (next_point0 w.heap.size w.heap.size false false [49] 1 0 (by decide) (by decide) w2 HP2.out HB2.out.size).mono ?_
  rintro r w3 ⟨rfl, hp, hb⟩
  have HP3 := Lib.hid hp
  have HB3 := Lib.hid (HB2.out.trans hb)
  clear hp hb
  go_wp2
  rw [rounds_succ]
  obtain ⟨hBq, dv, hq, hown, hne⟩ := HP3.out
  obtain ⟨g, cap, rfl, hc⟩ := own_row hown (by simp)
  have c0 : w3.cell? ⟨w.heap.size, 0, none⟩ = some (.bool false) := hq.cell 0
  have c1 : w3.cell? ⟨w.heap.size, 1, none⟩ = some (.bool false) := hq.cell 1
  have c2 : w3.cell? ⟨w.heap.size, 2, none⟩ = some (.slice (some ⟨g, 0, none⟩) 2 cap) := hq.cell 2
  have c3 : w3.cell? ⟨w.heap.size, 3, none⟩ = some (.int .i64 1) := hq.cell 3
  have c4 : w3.cell? ⟨w.heap.size, 4, none⟩ = some (.int .i64 0) := hq.cell 4
  have f4 := hq.free 4
  have hgq : g ≠ w.heap.size := fun e => hne (by rw [e]; rfl)
  obtain ⟨wx, hwx⟩ : ∃ wx, wx = w3 := ⟨_, rfl⟩
  have hqx : Blk wx w.heap.size #[.bool false, .bool false, .slice (some ⟨g, 0, none⟩) 2 cap, .int .i64 1, .int .i64 0] 190 := by rw [hwx]; exact hq
  have hcx : ∀ i, i < 2 → wx.cell? ⟨g, 0 + i, none⟩ = some (.int .u8 ((([49, 48] : List UInt8).getD i 0).toNat : Int)) := by
    intro i hi
    rw [hwx]
    exact hc i hi
  have hbx : Below w.heap.size w wx := by rw [hwx]; exact HB3.out
  have HW := Lib.hid hwx
  have HBX := Lib.hid hbx
  have HQX := Lib.hid hqx
  have HCX := Lib.hid hcx
  clear hwx hqx hcx hbx hq hc hown hne
  go_upto_region 11 with fail
  rw [← HW.out]
  clear c0 c1 c2 c3 c4 f4
  have hS : ∀ w', Blk w' w.heap.size #[.bool false, .bool false, .slice (some ⟨g, 0, none⟩) 2 cap, .int .i64 1, .int .i64 0] 190 → (∀ i, i < 2 → w'.cell? ⟨g, 0 + i, none⟩ = some (.int .u8 ((([49, 48] : List UInt8).getD i 0).toNat : Int))) → Below w.heap.size w w' → (w'.cell? ⟨w.heap.size, 0, none⟩ = some (.bool false) ∧ w'.cell? ⟨w.heap.size, 2, none⟩ = some (.slice (some ⟨g, 0, none⟩) 2 cap) ∧ w'.cell? ⟨w.heap.size, 3, none⟩ = some (.int .i64 1) ∧ w'.cell? ⟨w.heap.size, 4, none⟩ = some (.int .i64 0) ∧ (convert 22 9 (.slice (some ⟨g, 0, none⟩) 2 cap)).run Tryz.prog w' = .ok (.string ⟨#[49, 48]⟩) w' ∧ Blk w' w.heap.size #[.bool false, .bool false, .slice (some ⟨g, 0, none⟩) 2 cap, .int .i64 1, .int .i64 0] 190 ∧ (∀ i, i < 2 → w'.cell? ⟨g, 0 + i, none⟩ = some (.int .u8 ((([49, 48] : List UInt8).getD i 0).toNat : Int))) ∧ g < w'.heap.size ∧ Below w.heap.size w w') := fun w' h1 h2 h3 =>
    ⟨h1.cell 0, h1.cell 2, h1.cell 3, h1.cell 4, conv_bytes w' g 0 2 cap [49, 48] rfl h2, h1, h2, World.block_lt_of_cell? w' ⟨g, 0 + 0, none⟩ (h2 0 (by decide)), h3⟩
  have HS0 : Hid (((wx.drew).cell? ⟨w.heap.size, 0, none⟩ = some (.bool false) ∧ (wx.drew).cell? ⟨w.heap.size, 2, none⟩ = some (.slice (some ⟨g, 0, none⟩) 2 cap) ∧ (wx.drew).cell? ⟨w.heap.size, 3, none⟩ = some (.int .i64 1) ∧ (wx.drew).cell? ⟨w.heap.size, 4, none⟩ = some (.int .i64 0) ∧ (convert 22 9 (.slice (some ⟨g, 0, none⟩) 2 cap)).run Tryz.prog (wx.drew) = .ok (.string ⟨#[49, 48]⟩) (wx.drew) ∧ Blk (wx.drew) w.heap.size #[.bool false, .bool false, .slice (some ⟨g, 0, none⟩) 2 cap, .int .i64 1, .int .i64 0] 190 ∧ (∀ i, i < 2 → (wx.drew).cell? ⟨g, 0 + i, none⟩ = some (.int .u8 ((([49, 48] : List UInt8).getD i 0).toNat : Int))) ∧ g < (wx.drew).heap.size ∧ Below w.heap.size w (wx.drew))) := Lib.hid (hS _ (HQX.out.drewN 1) HCX.out HBX.out.drew)
  have HT : Hid (∀ w' w'', (w'.cell? ⟨w.heap.size, 0, none⟩ = some (.bool false) ∧ w'.cell? ⟨w.heap.size, 2, none⟩ = some (.slice (some ⟨g, 0, none⟩) 2 cap) ∧ w'.cell? ⟨w.heap.size, 3, none⟩ = some (.int .i64 1) ∧ w'.cell? ⟨w.heap.size, 4, none⟩ = some (.int .i64 0) ∧ (convert 22 9 (.slice (some ⟨g, 0, none⟩) 2 cap)).run Tryz.prog w' = .ok (.string ⟨#[49, 48]⟩) w' ∧ Blk w' w.heap.size #[.bool false, .bool false, .slice (some ⟨g, 0, none⟩) 2 cap, .int .i64 1, .int .i64 0] 190 ∧ (∀ i, i < 2 → w'.cell? ⟨g, 0 + i, none⟩ = some (.int .u8 ((([49, 48] : List UInt8).getD i 0).toNat : Int))) ∧ g < w'.heap.size ∧ Below w.heap.size w w') → Hid (Below w'.heap.size w' w'') → (w''.cell? ⟨w.heap.size, 0, none⟩ = some (.bool false) ∧ w''.cell? ⟨w.heap.size, 2, none⟩ = some (.slice (some ⟨g, 0, none⟩) 2 cap) ∧ w''.cell? ⟨w.heap.size, 3, none⟩ = some (.int .i64 1) ∧ w''.cell? ⟨w.heap.size, 4, none⟩ = some (.int .i64 0) ∧ (convert 22 9 (.slice (some ⟨g, 0, none⟩) 2 cap)).run Tryz.prog w'' = .ok (.string ⟨#[49, 48]⟩) w'' ∧ Blk w'' w.heap.size #[.bool false, .bool false, .slice (some ⟨g, 0, none⟩) 2 cap, .int .i64 1, .int .i64 0] 190 ∧ (∀ i, i < 2 → w''.cell? ⟨g, 0 + i, none⟩ = some (.int .u8 ((([49, 48] : List UInt8).getD i 0).toNat : Int))) ∧ g < w''.heap.size ∧ Below w.heap.size w w'')) := Lib.hid (fun w' w'' h hk => by
    obtain ⟨_, _, _, _, _, h1, h2, h3, h4⟩ := h
    exact hS w'' (h1.below hk.out h1.lt) (fun i hi => (hk.out.cell (p := ⟨g, 0 + i, none⟩) h3).trans (h2 i hi)) (h4.trans (hk.out.mono h4.size)))
  have HDA : Hid (∀ w', (w'.cell? ⟨w.heap.size, 0, none⟩ = some (.bool false) ∧ w'.cell? ⟨w.heap.size, 2, none⟩ = some (.slice (some ⟨g, 0, none⟩) 2 cap) ∧ w'.cell? ⟨w.heap.size, 3, none⟩ = some (.int .i64 1) ∧ w'.cell? ⟨w.heap.size, 4, none⟩ = some (.int .i64 0) ∧ (convert 22 9 (.slice (some ⟨g, 0, none⟩) 2 cap)).run Tryz.prog w' = .ok (.string ⟨#[49, 48]⟩) w' ∧ Blk w' w.heap.size #[.bool false, .bool false, .slice (some ⟨g, 0, none⟩) 2 cap, .int .i64 1, .int .i64 0] 190 ∧ (∀ i, i < 2 → w'.cell? ⟨g, 0 + i, none⟩ = some (.int .u8 ((([49, 48] : List UInt8).getD i 0).toNat : Int))) ∧ g < w'.heap.size ∧ Below w.heap.size w w') → Calls Tryz.prog 118 #[.agg #[.bool false, .string ⟨#[49, 48]⟩, .int .i64 1]] w' fun e w'' => e = .returned (.tuple #[.int .u64 4607182418800017408, .bool true]) ∧ Below w'.heap.size w' w'') := Lib.hid (fun w' h => dread_10 w' (HG.out.step h.2.2.2.2.2.2.2.2))
  have HX : Hid (∀ w', (w'.cell? ⟨w.heap.size, 0, none⟩ = some (.bool false) ∧ w'.cell? ⟨w.heap.size, 2, none⟩ = some (.slice (some ⟨g, 0, none⟩) 2 cap) ∧ w'.cell? ⟨w.heap.size, 3, none⟩ = some (.int .i64 1) ∧ w'.cell? ⟨w.heap.size, 4, none⟩ = some (.int .i64 0) ∧ (convert 22 9 (.slice (some ⟨g, 0, none⟩) 2 cap)).run Tryz.prog w' = .ok (.string ⟨#[49, 48]⟩) w' ∧ Blk w' w.heap.size #[.bool false, .bool false, .slice (some ⟨g, 0, none⟩) 2 cap, .int .i64 1, .int .i64 0] 190 ∧ (∀ i, i < 2 → w'.cell? ⟨g, 0 + i, none⟩ = some (.int .u8 ((([49, 48] : List UInt8).getD i 0).toNat : Int))) ∧ g < w'.heap.size ∧ Below w.heap.size w w') → Below w.heap.size w w') := Lib.hid (fun w' h => h.2.2.2.2.2.2.2.2)
  clear hS
  go_region_held3 (fun w' => (w'.cell? ⟨w.heap.size, 0, none⟩ = some (.bool false) ∧ w'.cell? ⟨w.heap.size, 2, none⟩ = some (.slice (some ⟨g, 0, none⟩) 2 cap) ∧ w'.cell? ⟨w.heap.size, 3, none⟩ = some (.int .i64 1) ∧ w'.cell? ⟨w.heap.size, 4, none⟩ = some (.int .i64 0) ∧ (convert 22 9 (.slice (some ⟨g, 0, none⟩) 2 cap)).run Tryz.prog w' = .ok (.string ⟨#[49, 48]⟩) w' ∧ Blk w' w.heap.size #[.bool false, .bool false, .slice (some ⟨g, 0, none⟩) 2 cap, .int .i64 1, .int .i64 0] 190 ∧ (∀ i, i < 2 → w'.cell? ⟨g, 0 + i, none⟩ = some (.int .u8 ((([49, 48] : List UInt8).getD i 0).toNat : Int))) ∧ g < w'.heap.size ∧ Below w.heap.size w w'))
    (first
      | exact HS0.out
      | assumption
      | (refine HT.out _ _ ?_ hb9; assumption))
    ((go_at_call 118; refine (HDA.out _ (by first | exact HS0.out | assumption)).mono ?_; rintro e w9 ⟨rfl, hb9⟩; replace hb9 := Lib.hid hb9))
  all_goals (
    have hb := HX.out w9 (by assumption)
    have HCL := Lib.hid (class_norm w9 (HG.out.step hb).s 4607182418800017408 norm_one1)
    have HB := Lib.hid hb
    clear hb
    go_wp2_with fail
    refine HCL.out.mono ?_
    rintro r wz ⟨rfl, hbz⟩
    have HBZ := Lib.hid (HB.out.trans (hbz.mono HB.out.size))
    clear hbz
    go_wp2
    try rw [Exit.noGoto_ret]
    exact bodyPost_ret (v := .tuple #[.int .u64 4607182418800017408, .nilIface]) (by simp [results, Tryz.results69, go_sem]) rfl ⟨rfl, HBZ.out⟩)

set_option maxRecDepth 100000 in
set_option maxHeartbeats 1000000 in
theorem eread_15 (w : World) (hG : GW w) : Calls Tryz.prog 69 #[.string (strL [49, 53, 101, 45, 49])] w fun e w' => e = .returned (.tuple #[.int .u64 4609434218613702656, .nilIface]) ∧ Below w.heap.size w w' := by
  obtain ⟨w0, hw0⟩ : ∃ w0, w0 = w.alloc (.cells #[.bool false, .bool false, .slice none 0 0, .int .i64 0, .int .i64 0] 190) := ⟨_, rfl⟩
  have hb0 : Below w.heap.size w w0 := by rw [hw0]; exact (Below.refl _ _).alloc (Nat.le_refl _) _
  have hP0 : PS w.heap.size w.heap.size false false [] 0 0 w0 := by
    rw [hw0]
    exact ⟨Nat.le_refl _, _, Blk.new _ _ _, ⟨rfl, .inl ⟨rfl, rfl⟩⟩, by simp [Value.ownBlock]⟩
  have HG := Lib.hid hG
  have HB0 := Lib.hid hb0
  have HP0 := Lib.hid hP0
  have HW0 := Lib.hid hw0
  clear hG hb0 hP0 hw0
  change Calls _ _ #[.string ⟨#[49, 53, 101, 45, 49]⟩] _ _
  go_enter Tryz.func69, Tryz.ntmps69
  go_wp2
  go_step3
  go_wp2
  go_step3
  go_wp2
  change Code.wp _ _ _ _ (w.alloc (.cells #[.bool false, .bool false, .slice none 0 0, .int .i64 0, .int .i64 0] 190))
  rw [← HW0.out]
  refine wp_loop_rounds 6 ?_
  rw [rounds_succ]
  go_wp2_with fail
  refine (next_start1 w.heap.size w.heap.size false false [] 0 0 (by decide) (by decide) w0 HP0.out HB0.out.size).mono ?_
  rintro r w1 ⟨rfl, hp, hb⟩
  have HP1 := Lib.hid hp
  have HB1 := Lib.hid (HB0.out.trans hb)
  clear hp hb
  go_wp2
  rw [rounds_succ]
  go_wp2_with fail
  refine (next_whole5 w.heap.size w.heap.size false false [49] 1 0 (by decide) (by decide) w1 HP1.out HB1.out.size).mono ?_
  rintro r w2 ⟨rfl, hp, hb⟩
  have HP2 := Lib.hid hp
  have HB2 := Lib.hid (HB1.out.trans hb)
  clear hp hb
  go_wp2
  rw [rounds_succ]
  go_wp2_with fail
  refine (next_wholeE w.heap.size w.heap.size false false [49, 53] 2 0 w2 HP2.out HB2.out.size).mono ?_
  rintro r w3 ⟨rfl, hp, hb⟩
  have HP3 := Lib.hid hp
  have HB3 := Lib.hid (HB2.out.trans hb)
  clear hp hb
  go_wp2
  rw [rounds_succ]
  go_wp2_with fail
  refine (next_powerM w.heap.size w.heap.size false false [49, 53] 2 0 w3 HP3.out HB3.out.size).mono ?_
  rintro r w4 ⟨rfl, hp, hb⟩
  have HP4 := Lib.hid hp
  have HB4 := Lib.hid (HB3.out.trans hb)
  clear hp hb
  go_wp2
  rw [rounds_succ]
  go_wp2_with fail
  refine (next_plus1 w.heap.size w.heap.size false true [49, 53] 2 w4 HP4.out HB4.out.size).mono ?_
  rintro r w5 ⟨rfl, hp, hb⟩
  have HP5 := Lib.hid hp
  have HB5 := Lib.hid (HB4.out.trans hb)
  clear hp hb
  go_wp2
  rw [rounds_succ]
  obtain ⟨hBq, dv, hq, hown, hne⟩ := HP5.out
  obtain ⟨g, cap, rfl, hc⟩ := own_row hown (by simp)
  have c0 : w5.cell? ⟨w.heap.size, 0, none⟩ = some (.bool false) := hq.cell 0
  have c1 : w5.cell? ⟨w.heap.size, 1, none⟩ = some (.bool true) := hq.cell 1
  have c2 : w5.cell? ⟨w.heap.size, 2, none⟩ = some (.slice (some ⟨g, 0, none⟩) 2 cap) := hq.cell 2
  have c3 : w5.cell? ⟨w.heap.size, 3, none⟩ = some (.int .i64 2) := hq.cell 3
  have c4 : w5.cell? ⟨w.heap.size, 4, none⟩ = some (.int .i64 1) := hq.cell 4
  have f4 := hq.free 4
  have hgq : g ≠ w.heap.size := fun e => hne (by rw [e]; rfl)
  obtain ⟨wx, hwx⟩ : ∃ wx, wx = w5.setCell ⟨w.heap.size, 4, none⟩ (.int .i64 (-1)) := ⟨_, rfl⟩
  have hqx : Blk wx w.heap.size #[.bool false, .bool true, .slice (some ⟨g, 0, none⟩) 2 cap, .int .i64 2, .int .i64 (-1)] 190 := by rw [hwx]; exact hq.set 4 _
  have hcx : ∀ i, i < 2 → wx.cell? ⟨g, 0 + i, none⟩ = some (.int .u8 ((([49, 53] : List UInt8).getD i 0).toNat : Int)) := by
    intro i hi
    rw [hwx]
    rw [World.cell?_of_block (w := w5) (Below.heap_setCell _ _ _ _ hgq)]; exact hc i hi
  have hbx : Below w.heap.size w wx := by rw [hwx]; exact HB5.out.setCell (Nat.le_refl _) _
  have HW := Lib.hid hwx
  have HBX := Lib.hid hbx
  have HQX := Lib.hid hqx
  have HCX := Lib.hid hcx
  clear hwx hqx hcx hbx hq hc hown hne
  go_upto_region 11 with fail
  rw [← HW.out]
  clear c0 c1 c2 c3 c4 f4
  have hS : ∀ w', Blk w' w.heap.size #[.bool false, .bool true, .slice (some ⟨g, 0, none⟩) 2 cap, .int .i64 2, .int .i64 (-1)] 190 → (∀ i, i < 2 → w'.cell? ⟨g, 0 + i, none⟩ = some (.int .u8 ((([49, 53] : List UInt8).getD i 0).toNat : Int))) → Below w.heap.size w w' → (w'.cell? ⟨w.heap.size, 0, none⟩ = some (.bool false) ∧ w'.cell? ⟨w.heap.size, 2, none⟩ = some (.slice (some ⟨g, 0, none⟩) 2 cap) ∧ w'.cell? ⟨w.heap.size, 3, none⟩ = some (.int .i64 2) ∧ w'.cell? ⟨w.heap.size, 4, none⟩ = some (.int .i64 (-1)) ∧ (convert 22 9 (.slice (some ⟨g, 0, none⟩) 2 cap)).run Tryz.prog w' = .ok (.string ⟨#[49, 53]⟩) w' ∧ Blk w' w.heap.size #[.bool false, .bool true, .slice (some ⟨g, 0, none⟩) 2 cap, .int .i64 2, .int .i64 (-1)] 190 ∧ (∀ i, i < 2 → w'.cell? ⟨g, 0 + i, none⟩ = some (.int .u8 ((([49, 53] : List UInt8).getD i 0).toNat : Int))) ∧ g < w'.heap.size ∧ Below w.heap.size w w') := fun w' h1 h2 h3 =>
    ⟨h1.cell 0, h1.cell 2, h1.cell 3, h1.cell 4, conv_bytes w' g 0 2 cap [49, 53] rfl h2, h1, h2, World.block_lt_of_cell? w' ⟨g, 0 + 0, none⟩ (h2 0 (by decide)), h3⟩
  have HS0 : Hid (((wx.drew).cell? ⟨w.heap.size, 0, none⟩ = some (.bool false) ∧ (wx.drew).cell? ⟨w.heap.size, 2, none⟩ = some (.slice (some ⟨g, 0, none⟩) 2 cap) ∧ (wx.drew).cell? ⟨w.heap.size, 3, none⟩ = some (.int .i64 2) ∧ (wx.drew).cell? ⟨w.heap.size, 4, none⟩ = some (.int .i64 (-1)) ∧ (convert 22 9 (.slice (some ⟨g, 0, none⟩) 2 cap)).run Tryz.prog (wx.drew) = .ok (.string ⟨#[49, 53]⟩) (wx.drew) ∧ Blk (wx.drew) w.heap.size #[.bool false, .bool true, .slice (some ⟨g, 0, none⟩) 2 cap, .int .i64 2, .int .i64 (-1)] 190 ∧ (∀ i, i < 2 → (wx.drew).cell? ⟨g, 0 + i, none⟩ = some (.int .u8 ((([49, 53] : List UInt8).getD i 0).toNat : Int))) ∧ g < (wx.drew).heap.size ∧ Below w.heap.size w (wx.drew))) := Lib.hid (hS _ (HQX.out.drewN 1) HCX.out HBX.out.drew)
  have HT : Hid (∀ w' w'', (w'.cell? ⟨w.heap.size, 0, none⟩ = some (.bool false) ∧ w'.cell? ⟨w.heap.size, 2, none⟩ = some (.slice (some ⟨g, 0, none⟩) 2 cap) ∧ w'.cell? ⟨w.heap.size, 3, none⟩ = some (.int .i64 2) ∧ w'.cell? ⟨w.heap.size, 4, none⟩ = some (.int .i64 (-1)) ∧ (convert 22 9 (.slice (some ⟨g, 0, none⟩) 2 cap)).run Tryz.prog w' = .ok (.string ⟨#[49, 53]⟩) w' ∧ Blk w' w.heap.size #[.bool false, .bool true, .slice (some ⟨g, 0, none⟩) 2 cap, .int .i64 2, .int .i64 (-1)] 190 ∧ (∀ i, i < 2 → w'.cell? ⟨g, 0 + i, none⟩ = some (.int .u8 ((([49, 53] : List UInt8).getD i 0).toNat : Int))) ∧ g < w'.heap.size ∧ Below w.heap.size w w') → Hid (Below w'.heap.size w' w'') → (w''.cell? ⟨w.heap.size, 0, none⟩ = some (.bool false) ∧ w''.cell? ⟨w.heap.size, 2, none⟩ = some (.slice (some ⟨g, 0, none⟩) 2 cap) ∧ w''.cell? ⟨w.heap.size, 3, none⟩ = some (.int .i64 2) ∧ w''.cell? ⟨w.heap.size, 4, none⟩ = some (.int .i64 (-1)) ∧ (convert 22 9 (.slice (some ⟨g, 0, none⟩) 2 cap)).run Tryz.prog w'' = .ok (.string ⟨#[49, 53]⟩) w'' ∧ Blk w'' w.heap.size #[.bool false, .bool true, .slice (some ⟨g, 0, none⟩) 2 cap, .int .i64 2, .int .i64 (-1)] 190 ∧ (∀ i, i < 2 → w''.cell? ⟨g, 0 + i, none⟩ = some (.int .u8 ((([49, 53] : List UInt8).getD i 0).toNat : Int))) ∧ g < w''.heap.size ∧ Below w.heap.size w w'')) := Lib.hid (fun w' w'' h hk => by
    obtain ⟨_, _, _, _, _, h1, h2, h3, h4⟩ := h
    exact hS w'' (h1.below hk.out h1.lt) (fun i hi => (hk.out.cell (p := ⟨g, 0 + i, none⟩) h3).trans (h2 i hi)) (h4.trans (hk.out.mono h4.size)))
  have HDA : Hid (∀ w', (w'.cell? ⟨w.heap.size, 0, none⟩ = some (.bool false) ∧ w'.cell? ⟨w.heap.size, 2, none⟩ = some (.slice (some ⟨g, 0, none⟩) 2 cap) ∧ w'.cell? ⟨w.heap.size, 3, none⟩ = some (.int .i64 2) ∧ w'.cell? ⟨w.heap.size, 4, none⟩ = some (.int .i64 (-1)) ∧ (convert 22 9 (.slice (some ⟨g, 0, none⟩) 2 cap)).run Tryz.prog w' = .ok (.string ⟨#[49, 53]⟩) w' ∧ Blk w' w.heap.size #[.bool false, .bool true, .slice (some ⟨g, 0, none⟩) 2 cap, .int .i64 2, .int .i64 (-1)] 190 ∧ (∀ i, i < 2 → w'.cell? ⟨g, 0 + i, none⟩ = some (.int .u8 ((([49, 53] : List UInt8).getD i 0).toNat : Int))) ∧ g < w'.heap.size ∧ Below w.heap.size w w') → Calls Tryz.prog 118 #[.agg #[.bool false, .string ⟨#[49, 53]⟩, .int .i64 1]] w' fun e w'' => e = .returned (.tuple #[.int .u64 4609434218613702656, .bool true]) ∧ Below w'.heap.size w' w'') := Lib.hid (fun w' h => dread_15 w' (HG.out.step h.2.2.2.2.2.2.2.2))
  have HX : Hid (∀ w', (w'.cell? ⟨w.heap.size, 0, none⟩ = some (.bool false) ∧ w'.cell? ⟨w.heap.size, 2, none⟩ = some (.slice (some ⟨g, 0, none⟩) 2 cap) ∧ w'.cell? ⟨w.heap.size, 3, none⟩ = some (.int .i64 2) ∧ w'.cell? ⟨w.heap.size, 4, none⟩ = some (.int .i64 (-1)) ∧ (convert 22 9 (.slice (some ⟨g, 0, none⟩) 2 cap)).run Tryz.prog w' = .ok (.string ⟨#[49, 53]⟩) w' ∧ Blk w' w.heap.size #[.bool false, .bool true, .slice (some ⟨g, 0, none⟩) 2 cap, .int .i64 2, .int .i64 (-1)] 190 ∧ (∀ i, i < 2 → w'.cell? ⟨g, 0 + i, none⟩ = some (.int .u8 ((([49, 53] : List UInt8).getD i 0).toNat : Int))) ∧ g < w'.heap.size ∧ Below w.heap.size w w') → Below w.heap.size w w') := Lib.hid (fun w' h => h.2.2.2.2.2.2.2.2)
  clear hS
  go_region_held3 (fun w' => (w'.cell? ⟨w.heap.size, 0, none⟩ = some (.bool false) ∧ w'.cell? ⟨w.heap.size, 2, none⟩ = some (.slice (some ⟨g, 0, none⟩) 2 cap) ∧ w'.cell? ⟨w.heap.size, 3, none⟩ = some (.int .i64 2) ∧ w'.cell? ⟨w.heap.size, 4, none⟩ = some (.int .i64 (-1)) ∧ (convert 22 9 (.slice (some ⟨g, 0, none⟩) 2 cap)).run Tryz.prog w' = .ok (.string ⟨#[49, 53]⟩) w' ∧ Blk w' w.heap.size #[.bool false, .bool true, .slice (some ⟨g, 0, none⟩) 2 cap, .int .i64 2, .int .i64 (-1)] 190 ∧ (∀ i, i < 2 → w'.cell? ⟨g, 0 + i, none⟩ = some (.int .u8 ((([49, 53] : List UInt8).getD i 0).toNat : Int))) ∧ g < w'.heap.size ∧ Below w.heap.size w w'))
    (first
      | exact HS0.out
      | assumption
      | (refine HT.out _ _ ?_ hb9; assumption))
    ((go_at_call 118; refine (HDA.out _ (by first | exact HS0.out | assumption)).mono ?_; rintro e w9 ⟨rfl, hb9⟩; replace hb9 := Lib.hid hb9))
  all_goals (
    have hb := HX.out w9 (by assumption)
    have HCL := Lib.hid (class_norm w9 (HG.out.step hb).s 4609434218613702656 norm_half3)
    have HB := Lib.hid hb
    clear hb
    go_wp2_with fail
    refine HCL.out.mono ?_
    rintro r wz ⟨rfl, hbz⟩
    have HBZ := Lib.hid (HB.out.trans (hbz.mono HB.out.size))
    clear hbz
    go_wp2
    try rw [Exit.noGoto_ret]
    exact bodyPost_ret (v := .tuple #[.int .u64 4609434218613702656, .nilIface]) (by simp [results, Tryz.results69, go_sem]) rfl ⟨rfl, HBZ.out⟩)
end Go.Proofs.YtbhfoelnoddlkaaGreatDoor.D

/-
  ieee.To at 1.5, ieee.Int at 1.0, number.Of at both: walked.
-/
namespace Go.Proofs.YtbhfoelnoddlkaaGreatDoor.D
open Go Go.RowKit Limb

set_option maxRecDepth 100000 in
theorem to_half (w : World) (hG : GW w) : Calls Tryz.prog 120 #[.int .u64 4609434218613702656] w fun e w' => e = .returned (.tuple #[.int .u64 4609434218613702656, .bool true]) ∧ Below w.heap.size w w' := by
  have HG := Lib.hid hG
  have HP := Lib.hid (parts_any w hG.s hG.c half3 _ _ _ _ _ parts_half3)
  clear hG
  change Calls _ _ #[.int .u64 4609434218613702656] _ _
  go_enter Tryz.func120, Tryz.ntmps120
  go_wp2_with fail
  refine HP.out.mono ?_
  rintro r w1 ⟨rfl, hb1⟩
  have HB1 := Lib.hid hb1
  clear hb1
  go_wp2_with fail
  refine (from_any w1 3 (by decide)).mono ?_
  rintro r w2 ⟨hb2, v2, rfl, hl2⟩
  rw [limbs_small 3 (by decide) (by decide)] at hl2
  have HB2 := Lib.hid (HB1.out.trans (hb2.mono HB1.out.size))
  have HR := Lib.hid (round_three w2 (HG.out.step HB2.out) v2 hl2)
  clear hb2 hl2
  go_wp2_with fail
  refine HR.out.mono ?_
  rintro r w3 ⟨rfl, hb3⟩
  have HB3 := Lib.hid (HB2.out.trans (hb3.mono HB2.out.size))
  have HG3 := Lib.hid (HG.out.step HB3.out)
  clear hb3
  go_wp2_with fail
  refine (parts_any w3 HG3.out.s HG3.out.c half3 _ _ _ _ _ parts_half3).mono ?_
  rintro r w4 ⟨rfl, hb4⟩
  have HB4 := Lib.hid (HB3.out.trans (hb4.mono HB3.out.size))
  clear hb4
  go_wp2
  exact bodyPost_ret (v := .tuple #[.int .u64 4609434218613702656, .bool true]) (by simp [results, Tryz.results120, go_sem]) rfl ⟨rfl, HB4.out⟩

set_option maxRecDepth 100000 in
theorem int_one1 (w : World) (hG : GW w) : Calls Tryz.prog 119 #[.int .u64 4607182418800017408] w fun e w' => Below w.heap.size w w' ∧ ∃ v, e = .returned (.tuple #[.agg #[.bool false, v], .bool true]) ∧ Limbs w' v [1] ∧ New w.heap.size v := by
  obtain ⟨w0, hw0⟩ : ∃ w0, w0 = w.alloc (.cells #[.bool false, .slice none 0 0] 30) := ⟨_, rfl⟩
  have hb0 : Below w.heap.size w w0 := by rw [hw0]; exact (Below.refl _ _).alloc (Nat.le_refl _) _
  have hB0 : Blk w0 w.heap.size #[.bool false, .slice none 0 0] 30 := by rw [hw0]; exact Blk.new _ _ _
  have hG0 := hG.step hb0
  have HP := Lib.hid (parts_any w0 hG0.s hG0.c one1 _ _ _ _ _ parts_one1)
  have HB0 := Lib.hid hb0
  have HD0 := Lib.hid hB0
  have HW0 := Lib.hid hw0
  clear hG hb0 hB0 hG0 hw0
  go_enter Tryz.func119, Tryz.ntmps119
  go_upto_region 1 with fail
  change Code.wp _ _ _ _ (w.alloc (.cells #[.bool false, .slice none 0 0] 30))
  rw [← HW0.out]
  go_wp2_with fail
  refine HP.out.mono ?_
  rintro r w1 ⟨rfl, hb1⟩
  have HB1 := Lib.hid (HB0.out.trans (hb1.mono HB0.out.size))
  have HD1 := Lib.hid (HD0.out.below hb1 HD0.out.lt)
  clear hb1
  go_wp2_with fail
  refine (from_any w1 1 (by decide)).mono ?_
  rintro r w2 ⟨hb2, v2, rfl, hl2⟩
  rw [limbs_small 1 (by decide) (by decide)] at hl2
  have HB2 := Lib.hid (HB1.out.trans (hb2.mono HB1.out.size))
  have HD2 := Lib.hid (HD1.out.below hb2 HD1.out.lt)
  have HSH := Lib.hid (shl_1_0 w2 v2 hl2)
  clear hb2 hl2
  go_wp2_with fail
  refine HSH.out.mono ?_
  rintro r w3 ⟨hb3, v3, rfl, hl3⟩
  have HB3 := Lib.hid (HB2.out.trans (hb3.mono HB2.out.size))
  have HD3 := Lib.hid (HD2.out.below hb3 HD2.out.lt)
  obtain ⟨b3, c3, rfl⟩ := hl3.slice
  have HNM := Lib.hid (wnorm_any w3 (.slice b3 1 c3) [1] hl3 (by decide))
  rw [show limbs (val [1]) = [1] from limbs_small 1 (by decide) (by decide)] at HNM
  clear hb3 hl3
  go_wp2_with fail
  refine HNM.out.mono ?_
  rintro r w4 ⟨hb4, v4, rfl, hl4, hn4⟩
  obtain ⟨b4, o4, c4, rfl, hlt4, _, _, _⟩ := hl4.one
  have hD4 := HD3.out.below hb4 HD3.out.lt
  have HB4 := Lib.hid (HB3.out.trans (hb4.mono HB3.out.size))
  have d0 : w4.cell? ⟨w.heap.size, 0, none⟩ = some (.bool false) := hD4.cell 0
  have d1 : w4.cell? ⟨w.heap.size, 1, none⟩ = some (.slice none 0 0) := hD4.cell 1
  have f0 := hD4.free 0
  have f1 := hD4.free 1
  have hD5 := (hD4.set 0 (.bool false)).set 1 (.slice (some ⟨b4, o4, none⟩) 1 c4)
  have c0 : ((w4.setCell ⟨w.heap.size, 0, none⟩ (.bool false)).setCell ⟨w.heap.size, 1, none⟩ (.slice (some ⟨b4, o4, none⟩) 1 c4)).cell? ⟨w.heap.size, 0, none⟩ = some (.bool false) := hD5.cell 0
  have c1 : ((w4.setCell ⟨w.heap.size, 0, none⟩ (.bool false)).setCell ⟨w.heap.size, 1, none⟩ (.slice (some ⟨b4, o4, none⟩) 1 c4)).cell? ⟨w.heap.size, 1, none⟩ = some (.slice (some ⟨b4, o4, none⟩) 1 c4) := hD5.cell 1
  have hb5 : Below w.heap.size w ((w4.setCell ⟨w.heap.size, 0, none⟩ (.bool false)).setCell ⟨w.heap.size, 1, none⟩ (.slice (some ⟨b4, o4, none⟩) 1 c4)) := (HB4.out.setCell (Nat.le_refl _) _).setCell (Nat.le_refl _) _
  have hne : b4 ≠ w.heap.size := by
    have h1 := HB3.out.size
    have h2 := HD3.out.lt
    have := hn4 b4 o4 1 c4 rfl
    omega
  have hl5 : Limbs ((w4.setCell ⟨w.heap.size, 0, none⟩ (.bool false)).setCell ⟨w.heap.size, 1, none⟩ (.slice (some ⟨b4, o4, none⟩) 1 c4)) (.slice (some ⟨b4, o4, none⟩) 1 c4) [1] := by
    obtain ⟨hf, ⟨h, _⟩ | ⟨blk, off, cap, hv, g1, g2, g3, g4⟩⟩ := hl4
    · simp at h
    · simp only [Value.slice.injEq, Option.some.injEq, Addr.mk.injEq] at hv
      obtain ⟨⟨rfl, rfl, _⟩, _, rfl⟩ := hv
      refine ⟨hf, .inr ⟨b4, o4, c4, rfl, g1, g2, by simp [World.setCell]; exact g3, fun i hi => ?_⟩⟩
      rw [World.cell?_of_block (w := w4) ((Below.heap_setCell _ _ _ _ hne).trans (Below.heap_setCell _ _ _ _ hne))]
      exact g4 i hi
  have hn5 : New w.heap.size (.slice (some ⟨b4, o4, none⟩) 1 c4) := by
    intro b o k c e
    have := hn4 b o k c e
    have := HB3.out.size
    omega
  have HB5 := Lib.hid hb5
  have HL5 := Lib.hid hl5
  have HN5 := Lib.hid hn5
  clear hD4 hD5 hb5 hl5 hn5 hn4 hl4 hb4
  go_wp2
  refine bodyPost_ret (v := .tuple #[.agg #[.bool false, .slice (some ⟨b4, o4, none⟩) 1 c4], .bool true]) (by simp [results, Tryz.results119, go_sem, c0, c1]) rfl ⟨HB5.out, _, rfl, HL5.out, HN5.out⟩
end Go.Proofs.YtbhfoelnoddlkaaGreatDoor.D

/-
  number.Of at 1.5 and 1.0: walked.
-/
namespace Go.Proofs.YtbhfoelnoddlkaaGreatDoor.D
open Go Go.RowKit Limb

abbrev halfV : Array Value := vCells 4 0 false (.slice none 0 0) 4609434218613702656 0 (strL []) (.slice none 0 0)
set_option maxRecDepth 100000 in
theorem of_half (w : World) (hG : GW w) : Calls Tryz.prog 70 #[.int .u64 4609434218613702656] w fun e w' => e = .returned (.agg halfV) ∧ Below w.heap.size w w' := by
  obtain ⟨w0, hw0⟩ : ∃ w0, w0 = w.alloc (.cells zeroV 33) := ⟨_, rfl⟩
  have hb0 : Below w.heap.size w w0 := by rw [hw0]; exact (Below.refl _ _).alloc (Nat.le_refl _) _
  have hB0 : Blk w0 w.heap.size zeroV 33 := by rw [hw0]; exact Blk.new _ _ _
  have hG0 := hG.step hb0
  have HI := Lib.hid (int_no w0 hG0.s hG0.c half3 _ _ _ _ _ parts_half3 (by decide))
  have HB0 := Lib.hid hb0
  have HD0 := Lib.hid hB0
  have HW0 := Lib.hid hw0
  have HG := Lib.hid hG
  clear hG hb0 hB0 hG0 hw0
  go_enter Tryz.func70, Tryz.ntmps70
  go_upto_region 1 with fail
  change Code.wp _ _ _ _ (w.alloc (.cells zeroV 33))
  rw [← HW0.out]
  go_wp2_with fail
  refine HI.out.mono ?_
  rintro r w1 ⟨rfl, hb1⟩
  have hb2 := hb1.trans ((Below.refl w1.heap.size w1).alloc (Nat.le_refl _) (.cells #[.bool false, .slice none 0 0] 30) |>.mono hb1.size)
  have HB2 := Lib.hid (HB0.out.trans (hb2.mono HB0.out.size))
  have HD2 := Lib.hid (HD0.out.below hb2 HD0.out.lt)
  clear hb1 hb2
  go_upto_region 4 with fail
  change Code.wp _ _ _ _ (w1.alloc (.cells #[.bool false, .slice none 0 0] 30))
  generalize w1.alloc (.cells #[.bool false, .slice none 0 0] 30) = w2 at HB2 HD2 ⊢
  go_wp2_with fail
  refine (to_half w2 (HG.out.step HB2.out)).mono ?_
  rintro r w3 ⟨rfl, hb3⟩
  have HB3 := Lib.hid (HB2.out.trans (hb3.mono HB2.out.size))
  have HD3 := Lib.hid (HD2.out.below hb3 HD2.out.lt)
  clear hb3
  go_upto_region 5 with fail
  refine wp_region_lit ?_
  iterate 6 go_step
  refine wpList_store_row rfl 33 _ _ rfl w.heap.size halfV rfl rfl 33 _ HD3.out (by kernel_rfl) rfl (vCells_one _ _ _ _ _ _ _ _ rfl rfl) ?_
  have hfin : Blk (w3.setRow w.heap.size halfV) w.heap.size halfV 33 := setRow_heap _ _ _ _ _ _ HD3.out
  have HFIN := Lib.hid hfin
  have HBF := Lib.hid (below_setRow HB3.out (Nat.le_refl _) halfV)
  clear hfin
  go_wp2
  exact bodyPost_ret (v := .agg halfV) (results_cell_row rfl _ _ w.heap.size 33 _ (0, 0) _ rfl HFIN.out Tryz.underlying33 rfl (by kernel_rfl)) rfl ⟨rfl, HBF.out⟩

set_option maxRecDepth 100000 in
theorem of_one (w : World) (hG : GW w) : Calls Tryz.prog 70 #[.int .u64 4607182418800017408] w fun e w' => Below w.heap.size w w' ∧ ∃ b o c, e = .returned (.agg (vCells 3 0 false (.slice (some ⟨b, o, none⟩) 1 c) 0 0 (strL []) (.slice none 0 0))) ∧ Limbs w' (.slice (some ⟨b, o, none⟩) 1 c) [1] ∧ w.heap.size ≤ b := by
  obtain ⟨w0, hw0⟩ : ∃ w0, w0 = w.alloc (.cells zeroV 33) := ⟨_, rfl⟩
  have hb0 : Below w.heap.size w w0 := by rw [hw0]; exact (Below.refl _ _).alloc (Nat.le_refl _) _
  have hB0 : Blk w0 w.heap.size zeroV 33 := by rw [hw0]; exact Blk.new _ _ _
  have hG0 := hG.step hb0
  have HI := Lib.hid (int_one1 w0 hG0)
  have HB0 := Lib.hid hb0
  have HD0 := Lib.hid hB0
  have HW0 := Lib.hid hw0
  clear hG hb0 hB0 hG0 hw0
  go_enter Tryz.func70, Tryz.ntmps70
  go_upto_region 1 with fail
  change Code.wp _ _ _ _ (w.alloc (.cells zeroV 33))
  rw [← HW0.out]
  go_wp2_with fail
  refine HI.out.mono ?_
  rintro r w1 ⟨hb1, v1, rfl, hl1, hn1⟩
  obtain ⟨b, o, c, rfl, hlt, _, _, _⟩ := hl1.one
  obtain ⟨w2, hw2⟩ : ∃ w2, w2 = w1.alloc (.cells #[.bool false, .slice (some ⟨b, o, none⟩) 1 c] 30) := ⟨_, rfl⟩
  have hb12 : Below w1.heap.size w1 w2 := by rw [hw2]; exact (Below.refl _ _).alloc (Nat.le_refl _) _
  have hD : Blk w2 w1.heap.size #[.bool false, .slice (some ⟨b, o, none⟩) 1 c] 30 := by rw [hw2]; exact Blk.new _ _ _
  have hb2 := hb1.trans (hb12.mono hb1.size)
  have HB2 := Lib.hid (HB0.out.trans (hb2.mono HB0.out.size))
  have HD2 := Lib.hid (HD0.out.below hb2 HD0.out.lt)
  have HL2 := Lib.hid (hl1.below hb12)
  have hbo : w0.heap.size ≤ b := hn1 b o 1 c rfl
  have HBO := Lib.hid hbo
  have c0 : w2.cell? ⟨w1.heap.size, 0, none⟩ = some (.bool false) := hD.cell 0
  have c1 : w2.cell? ⟨w1.heap.size, 1, none⟩ = some (.slice (some ⟨b, o, none⟩) 1 c) := hD.cell 1
  have HW2 := Lib.hid hw2
  clear hb1 hb2 hb12 hD hl1 hn1 hw2 hbo
  go_upto_region 3 with fail
  change Code.wp _ _ _ _ (w1.alloc (.cells #[.bool false, .slice (some ⟨b, o, none⟩) 1 c] 30))
  rw [← HW2.out]
  refine wp_region_lit ?_
  iterate 6 go_step
  obtain ⟨cs, hcs⟩ : ∃ cs, cs = vCells 3 0 false (.slice (some ⟨b, o, none⟩) 1 c) 0 0 (strL []) (.slice none 0 0) := ⟨_, rfl⟩
  refine wpList_store_row rfl 33 _ _ rfl w.heap.size (vCells 3 0 false (.slice (some ⟨b, o, none⟩) 1 c) 0 0 (strL []) (.slice none 0 0)) rfl rfl 33 _ HD2.out (by kernel_rfl) rfl (vCells_one _ _ _ _ _ _ _ _ rfl rfl) ?_
  rw [← hcs]
  have hfin : Blk (w2.setRow w.heap.size cs) w.heap.size cs 33 := setRow_heap _ _ _ _ _ _ HD2.out
  have hs0 : w.heap.size < w0.heap.size := HD0.out.lt
  have hlf : Limbs (w2.setRow w.heap.size cs) (.slice (some ⟨b, o, none⟩) 1 c) [1] := by
    obtain ⟨hf, ⟨h, _⟩ | ⟨blk, off, cap, hv, g1, g2, g3, g4⟩⟩ := HL2.out
    · simp at h
    · simp only [Value.slice.injEq, Option.some.injEq, Addr.mk.injEq] at hv
      obtain ⟨⟨rfl, rfl, _⟩, _, rfl⟩ := hv
      refine ⟨hf, .inr ⟨b, o, c, rfl, g1, g2, by simp; exact g3, fun i hi => ?_⟩⟩
      rw [World.cell?_of_block (w := w2) (setRow_other _ _ _ _ (by have := HBO.out; simp; omega))]
      exact g4 i hi
  have HFIN := Lib.hid hfin
  have HLF := Lib.hid hlf
  have HBF := Lib.hid (below_setRow HB2.out (Nat.le_refl _) cs)
  have HCS := Lib.hid hcs
  have HS := Lib.hid hs0
  clear hfin hlf hcs hs0 c0 c1
  go_wp2
  have ecs := HCS.out
  subst ecs
  exact bodyPost_ret (v := .agg (vCells 3 0 false (.slice (some ⟨b, o, none⟩) 1 c) 0 0 (strL []) (.slice none 0 0))) (results_cell_row rfl _ _ w.heap.size 33 _ (0, 0) _ rfl HFIN.out Tryz.underlying33 rfl (by kernel_rfl)) rfl ⟨HBF.out, b, o, c, rfl, HLF.out, by have := HBO.out; have := HS.out; omega⟩
end Go.Proofs.YtbhfoelnoddlkaaGreatDoor.D

