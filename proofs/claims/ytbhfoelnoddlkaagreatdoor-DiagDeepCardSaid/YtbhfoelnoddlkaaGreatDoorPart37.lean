/-
  Of the proof that the law DiagDeep answers true at every row of bytes: a part, without conditions of its own.
-/
import Derived.Test.YtbhfoelnoddlkaaGreatDoorPart27
import Derived.Test.YtbhfoelnoddlkaaGreatDoorPart18
import Derived.Test.YtbhfoelnoddlkaaGreatDoorPart05
import Derived.Test.YtbhfoelnoddlkaaGreatDoorPart13
import Derived.Test.YtbhfoelnoddlkaaGreatDoorPart30
set_option linter.unusedVariables false
set_option linter.unusedSimpArgs false
/-
  nat.Shr where it is met: walked (printed by wip/tools/genj6.py).
-/
namespace Go.Proofs.YtbhfoelnoddlkaaGreatDoor.D
open Go Go.RowKit Limb

set_option maxRecDepth 100000 in
set_option maxHeartbeats 1000000 in
theorem shr_96_17 (w : World) (v : Value) (h : Limbs w v [0, 0, 96]) :
    Calls Tryz.prog 219 #[v, .int .i64 17] w fun e w' => Below w.heap.size w w' ∧ ∃ v', e = .returned (.tuple #[v', .bool false, .bool true]) ∧ Limbs w' v' [0, 3145728] := by
  have HC1 := Lib.hid (cut_any w v [0, 0, 96] h)
  rw [show trim [0, 0, 96] = [0, 0, 96] by decide] at HC1
  have hmk : (Instr.makeSlice 28 (.int .i64 3) (.int .i64 3)).run Tryz.prog w = .ok (.slice (some ⟨w.heap.size, 0, none⟩) 3 3) (w.alloc (.cells (uCells (List.replicate 3 0)) 140)) := make_nat w 3 (by decide)
  obtain ⟨w1, hw1⟩ : ∃ w1, w1 = w.alloc (.cells (uCells (List.replicate 3 0)) 140) := ⟨_, rfl⟩
  have hb1 : Below w.heap.size w w1 := by rw [hw1]; exact (Below.refl _ _).alloc (Nat.le_refl _) _
  have hB1 : Blk w1 w.heap.size (uCells [0, 0, 0]) 140 := by rw [hw1]; exact Blk.new _ _ _
  rw [← hw1] at hmk
  have HB1 := Lib.hid hb1
  have HBL1 := Lib.hid hB1
  clear h hw1 hb1 hB1
  go_enter Tryz.func219, Tryz.ntmps219
  go_wp2_with fail
  refine HC1.out.mono ?_
  rintro r w2 ⟨rfl, u, rfl, hu⟩
  obtain ⟨_, ⟨_, h0⟩ | ⟨b1, o1, k1, rfl, hk1, hk2, hlt1, hcs⟩⟩ := hu
  · simp at h0
  have hcopy : ∀ ty, (Builtin.copy_ #[28, 28] ty #[.slice (some ⟨w2.heap.size, 0, none⟩) 3 3, .slice (some ⟨b1, o1, none⟩) 3 k1]).run Tryz.prog w1 = .ok (.int .i64 3) (w1.setCells w2.heap.size 0 [.int .u32 0, .int .u32 0, .int .u32 96]) := fun ty =>
    run_copy_cells (P := Tryz.prog) w1 28 28 ty 140 w2.heap.size 0 3 3 ⟨b1, o1, none⟩ 3 k1 [.int .u32 0, .int .u32 0, .int .u32 96] Tryz.underlying28 size32 rfl (fun j v hj => by
      have hj2 : j < 3 := by have := (List.getElem?_eq_some_iff.1 hj).1; simpa using this
      have h := (HB1.out.cell (p := ⟨b1, o1 + j, none⟩) hlt1).trans (hcs j hj2)
      have e : (⟨b1, o1, none⟩ : Addr).add j = ⟨b1, o1 + j, none⟩ := by simp [Addr.add]
      rw [e, h, ← hj]
      rcases (by omega : j = 0 ∨ j = 1 ∨ j = 2) with rfl | rfl | rfl <;> rfl) (fun j hj => by
      have hj2 : j < 3 := by simpa using hj
      rw [HBL1.out.cell]
      rcases (by omega : j = 0 ∨ j = 1 ∨ j = 2) with rfl | rfl | rfl <;> rfl) (fun j hj => HBL1.out.free _) (fun x hx => by simp at hx; rcases hx with rfl | rfl | rfl <;> rfl)
  obtain ⟨w4, hw4⟩ : ∃ w4, w4 = w1.setCells w2.heap.size 0 [.int .u32 0, .int .u32 0, .int .u32 96] := ⟨_, rfl⟩
  rw [← hw4] at hcopy
  have hB4 : Blk w4 w2.heap.size (uCells [0, 0, 96]) 140 := by
    rw [hw4]
    exact (((HBL1.out.set 0 _).set 1 _).set 2 _)
  have hb4 : Below w2.heap.size w2 w4 := by
    rw [hw4]
    exact (((HB1.out.setCell (Nat.le_refl _) _).setCell (Nat.le_refl _) _).setCell (Nat.le_refl _) _)
  have HB4 := Lib.hid hb4
  have HBL4 := Lib.hid hB4
  have c0 := hB4.cell 0
  simp only [uCells, uCell, List.map, List.getElem?_toArray, List.getElem?_cons_zero, List.getElem?_cons_succ] at c0
  clear HC1 hcs hw4 hb4 hB4
  go_upto_region 7 with fail
  refine wp_loop_rounds 1 ?_
  rw [rounds_succ]
  go_upto_region 17 with fail
  clear c0
  refine wp_loop_rounds 4 ?_
  rw [rounds_succ]
  have c0 := HBL4.out.cell 0
  have f0 := HBL4.out.free 0
  have hBn : Blk (w4.setCell ⟨w2.heap.size, 0, none⟩ (.int .u32 0)) w2.heap.size (uCells [0, 0, 96]) 140 := HBL4.out.set 0 _
  have hbn := HB4.out.setCell (p := ⟨w2.heap.size, 0, none⟩) (Nat.le_refl _) (.int .u32 0)
  have HBLa0 := Lib.hid hBn
  have HBa0 := Lib.hid hbn
  clear hBn hbn
  simp only [uCells, uCell, List.map, List.getElem?_toArray, List.getElem?_cons_zero, List.getElem?_cons_succ] at c0
  go_upto_region 21 with fail
  clear c0 f0
  generalize (w4.setCell ⟨w2.heap.size, 0, none⟩ (.int .u32 0)) = wa0 at HBLa0 HBa0 ⊢
  have c0 := HBLa0.out.cell 0
  have c1 := HBLa0.out.cell 1
  have f0 := HBLa0.out.free 0
  simp only [uCells, uCell, List.map, List.getElem?_toArray, List.getElem?_cons_zero, List.getElem?_cons_succ] at c0 c1
  have o0 : bits .or .u32 0 0 = 0 := by decide
  have hBn : Blk (wa0.setCell ⟨w2.heap.size, 0, none⟩ (.int .u32 0)).drew w2.heap.size (uCells [0, 0, 96]) 140 := (HBLa0.out.set 0 _).drew
  have hbn := (HBa0.out.setCell (p := ⟨w2.heap.size, 0, none⟩) (Nat.le_refl _) (.int .u32 0)).drew
  have HBLb0 := Lib.hid hBn
  have HBb0 := Lib.hid hbn
  clear hBn hbn
  go_region
  clear c0 c1 f0 o0
  generalize (wa0.setCell ⟨w2.heap.size, 0, none⟩ (.int .u32 0)).drew = wb0 at HBLb0 HBb0 ⊢
  clear HBa0 HBLa0
  go_wp2
  rw [rounds_succ]
  have c1 := HBLb0.out.cell 1
  have f1 := HBLb0.out.free 1
  have hBn : Blk (wb0.setCell ⟨w2.heap.size, 1, none⟩ (.int .u32 0)) w2.heap.size (uCells [0, 0, 96]) 140 := HBLb0.out.set 1 _
  have hbn := HBb0.out.setCell (p := ⟨w2.heap.size, 1, none⟩) (Nat.le_refl _) (.int .u32 0)
  have HBLa1 := Lib.hid hBn
  have HBa1 := Lib.hid hbn
  clear hBn hbn
  simp only [uCells, uCell, List.map, List.getElem?_toArray, List.getElem?_cons_zero, List.getElem?_cons_succ] at c1
  go_upto_region 21 with fail
  clear c1 f1
  generalize (wb0.setCell ⟨w2.heap.size, 1, none⟩ (.int .u32 0)) = wa1 at HBLa1 HBa1 ⊢
  have c1 := HBLa1.out.cell 1
  have c2 := HBLa1.out.cell 2
  have f1 := HBLa1.out.free 1
  simp only [uCells, uCell, List.map, List.getElem?_toArray, List.getElem?_cons_zero, List.getElem?_cons_succ] at c1 c2
  have o1 : bits .or .u32 0 3145728 = 3145728 := by decide
  have hBn : Blk (wa1.setCell ⟨w2.heap.size, 1, none⟩ (.int .u32 3145728)).drew w2.heap.size (uCells [0, 3145728, 96]) 140 := (HBLa1.out.set 1 _).drew
  have hbn := (HBa1.out.setCell (p := ⟨w2.heap.size, 1, none⟩) (Nat.le_refl _) (.int .u32 3145728)).drew
  have HBLb1 := Lib.hid hBn
  have HBb1 := Lib.hid hbn
  clear hBn hbn
  go_region
  clear c1 c2 f1 o1
  generalize (wa1.setCell ⟨w2.heap.size, 1, none⟩ (.int .u32 3145728)).drew = wb1 at HBLb1 HBb1 ⊢
  clear HBa1 HBLa1
  go_wp2
  rw [rounds_succ]
  have c2 := HBLb1.out.cell 2
  have f2 := HBLb1.out.free 2
  have hBn : Blk (wb1.setCell ⟨w2.heap.size, 2, none⟩ (.int .u32 0)) w2.heap.size (uCells [0, 3145728, 0]) 140 := HBLb1.out.set 2 _
  have hbn := HBb1.out.setCell (p := ⟨w2.heap.size, 2, none⟩) (Nat.le_refl _) (.int .u32 0)
  have HBLa2 := Lib.hid hBn
  have HBa2 := Lib.hid hbn
  clear hBn hbn
  simp only [uCells, uCell, List.map, List.getElem?_toArray, List.getElem?_cons_zero, List.getElem?_cons_succ] at c2
  go_upto_region 22 with fail
  clear c2 f2
  generalize (wb1.setCell ⟨w2.heap.size, 2, none⟩ (.int .u32 0)) = wa2 at HBLa2 HBa2 ⊢
  go_wp2
  rw [rounds_succ]
  have HFIN := HBLa2
  have HBF := HBa2
  have HCF := Lib.hid (cut_any _ _ _ (HFIN.out.limbs (n := 3) (by unfold Fit; decide) rfl (by decide)))
  rw [show trim [0, 3145728, 0] = [0, 3145728] by decide] at HCF
  go_wp2_with fail
  refine HCF.out.mono ?_
  rintro r w9 ⟨rfl, v', rfl, hl'⟩
  have HLL := Lib.hid hl'
  clear hl'
  go_wp2
  exact bodyPost_ret (v := .tuple #[v', .bool false, .bool true]) (by simp [results, Tryz.results219, go_sem]) rfl ⟨HBF.out, _, rfl, HLL.out⟩

set_option maxRecDepth 100000 in
set_option maxHeartbeats 1000000 in
theorem shr_rest_7 (w : World) (v : Value) (h : Limbs w v [0, 1342177280]) :
    Calls Tryz.prog 219 #[v, .int .i64 7] w fun e w' => Below w.heap.size w w' ∧ ∃ v', e = .returned (.tuple #[v', .bool false, .bool true]) ∧ Limbs w' v' [0, 10485760] := by
  have HC1 := Lib.hid (cut_any w v [0, 1342177280] h)
  rw [show trim [0, 1342177280] = [0, 1342177280] by decide] at HC1
  have hmk : (Instr.makeSlice 28 (.int .i64 2) (.int .i64 2)).run Tryz.prog w = .ok (.slice (some ⟨w.heap.size, 0, none⟩) 2 2) (w.alloc (.cells (uCells (List.replicate 2 0)) 140)) := make_nat w 2 (by decide)
  obtain ⟨w1, hw1⟩ : ∃ w1, w1 = w.alloc (.cells (uCells (List.replicate 2 0)) 140) := ⟨_, rfl⟩
  have hb1 : Below w.heap.size w w1 := by rw [hw1]; exact (Below.refl _ _).alloc (Nat.le_refl _) _
  have hB1 : Blk w1 w.heap.size (uCells [0, 0]) 140 := by rw [hw1]; exact Blk.new _ _ _
  rw [← hw1] at hmk
  have HB1 := Lib.hid hb1
  have HBL1 := Lib.hid hB1
  clear h hw1 hb1 hB1
  go_enter Tryz.func219, Tryz.ntmps219
  go_wp2_with fail
  refine HC1.out.mono ?_
  rintro r w2 ⟨rfl, u, rfl, hu⟩
  obtain ⟨_, ⟨_, h0⟩ | ⟨b1, o1, k1, rfl, hk1, hk2, hlt1, hcs⟩⟩ := hu
  · simp at h0
  have hcopy : ∀ ty, (Builtin.copy_ #[28, 28] ty #[.slice (some ⟨w2.heap.size, 0, none⟩) 2 2, .slice (some ⟨b1, o1, none⟩) 2 k1]).run Tryz.prog w1 = .ok (.int .i64 2) (w1.setCells w2.heap.size 0 [.int .u32 0, .int .u32 1342177280]) := fun ty =>
    run_copy_cells (P := Tryz.prog) w1 28 28 ty 140 w2.heap.size 0 2 2 ⟨b1, o1, none⟩ 2 k1 [.int .u32 0, .int .u32 1342177280] Tryz.underlying28 size32 rfl (fun j v hj => by
      have hj2 : j < 2 := by have := (List.getElem?_eq_some_iff.1 hj).1; simpa using this
      have h := (HB1.out.cell (p := ⟨b1, o1 + j, none⟩) hlt1).trans (hcs j hj2)
      have e : (⟨b1, o1, none⟩ : Addr).add j = ⟨b1, o1 + j, none⟩ := by simp [Addr.add]
      rw [e, h, ← hj]
      rcases (by omega : j = 0 ∨ j = 1) with rfl | rfl <;> rfl) (fun j hj => by
      have hj2 : j < 2 := by simpa using hj
      rw [HBL1.out.cell]
      rcases (by omega : j = 0 ∨ j = 1) with rfl | rfl <;> rfl) (fun j hj => HBL1.out.free _) (fun x hx => by simp at hx; rcases hx with rfl | rfl <;> rfl)
  obtain ⟨w4, hw4⟩ : ∃ w4, w4 = w1.setCells w2.heap.size 0 [.int .u32 0, .int .u32 1342177280] := ⟨_, rfl⟩
  rw [← hw4] at hcopy
  have hB4 : Blk w4 w2.heap.size (uCells [0, 1342177280]) 140 := by
    rw [hw4]
    exact ((HBL1.out.set 0 _).set 1 _)
  have hb4 : Below w2.heap.size w2 w4 := by
    rw [hw4]
    exact ((HB1.out.setCell (Nat.le_refl _) _).setCell (Nat.le_refl _) _)
  have HB4 := Lib.hid hb4
  have HBL4 := Lib.hid hB4
  have c0 := hB4.cell 0
  simp only [uCells, uCell, List.map, List.getElem?_toArray, List.getElem?_cons_zero, List.getElem?_cons_succ] at c0
  clear HC1 hcs hw4 hb4 hB4
  go_upto_region 7 with fail
  refine wp_loop_rounds 1 ?_
  rw [rounds_succ]
  go_upto_region 17 with fail
  clear c0
  refine wp_loop_rounds 3 ?_
  rw [rounds_succ]
  have c0 := HBL4.out.cell 0
  have f0 := HBL4.out.free 0
  have hBn : Blk (w4.setCell ⟨w2.heap.size, 0, none⟩ (.int .u32 0)) w2.heap.size (uCells [0, 1342177280]) 140 := HBL4.out.set 0 _
  have hbn := HB4.out.setCell (p := ⟨w2.heap.size, 0, none⟩) (Nat.le_refl _) (.int .u32 0)
  have HBLa0 := Lib.hid hBn
  have HBa0 := Lib.hid hbn
  clear hBn hbn
  simp only [uCells, uCell, List.map, List.getElem?_toArray, List.getElem?_cons_zero, List.getElem?_cons_succ] at c0
  go_upto_region 21 with fail
  clear c0 f0
  generalize (w4.setCell ⟨w2.heap.size, 0, none⟩ (.int .u32 0)) = wa0 at HBLa0 HBa0 ⊢
  have c0 := HBLa0.out.cell 0
  have c1 := HBLa0.out.cell 1
  have f0 := HBLa0.out.free 0
  simp only [uCells, uCell, List.map, List.getElem?_toArray, List.getElem?_cons_zero, List.getElem?_cons_succ] at c0 c1
  have o0 : bits .or .u32 0 0 = 0 := by decide
  have hBn : Blk (wa0.setCell ⟨w2.heap.size, 0, none⟩ (.int .u32 0)).drew w2.heap.size (uCells [0, 1342177280]) 140 := (HBLa0.out.set 0 _).drew
  have hbn := (HBa0.out.setCell (p := ⟨w2.heap.size, 0, none⟩) (Nat.le_refl _) (.int .u32 0)).drew
  have HBLb0 := Lib.hid hBn
  have HBb0 := Lib.hid hbn
  clear hBn hbn
  go_region
  clear c0 c1 f0 o0
  generalize (wa0.setCell ⟨w2.heap.size, 0, none⟩ (.int .u32 0)).drew = wb0 at HBLb0 HBb0 ⊢
  clear HBa0 HBLa0
  go_wp2
  rw [rounds_succ]
  have c1 := HBLb0.out.cell 1
  have f1 := HBLb0.out.free 1
  have hBn : Blk (wb0.setCell ⟨w2.heap.size, 1, none⟩ (.int .u32 10485760)) w2.heap.size (uCells [0, 10485760]) 140 := HBLb0.out.set 1 _
  have hbn := HBb0.out.setCell (p := ⟨w2.heap.size, 1, none⟩) (Nat.le_refl _) (.int .u32 10485760)
  have HBLa1 := Lib.hid hBn
  have HBa1 := Lib.hid hbn
  clear hBn hbn
  simp only [uCells, uCell, List.map, List.getElem?_toArray, List.getElem?_cons_zero, List.getElem?_cons_succ] at c1
  go_upto_region 22 with fail
  clear c1 f1
  generalize (wb0.setCell ⟨w2.heap.size, 1, none⟩ (.int .u32 10485760)) = wa1 at HBLa1 HBa1 ⊢
  go_wp2
  rw [rounds_succ]
  have HFIN := HBLa1
  have HBF := HBa1
  have HCF := Lib.hid (cut_any _ _ _ (HFIN.out.limbs (n := 2) (by unfold Fit; decide) rfl (by decide)))
  rw [show trim [0, 10485760] = [0, 10485760] by decide] at HCF
  go_wp2_with fail
  refine HCF.out.mono ?_
  rintro r w9 ⟨rfl, v', rfl, hl'⟩
  have HLL := Lib.hid hl'
  clear hl'
  go_wp2
  exact bodyPost_ret (v := .tuple #[v', .bool false, .bool true]) (by simp [results, Tryz.results219, go_sem]) rfl ⟨HBF.out, _, rfl, HLL.out⟩
end Go.Proofs.YtbhfoelnoddlkaaGreatDoor.D

/-
  quot.Div of 960 * 2^64 by 10; ieee.Round where it is met: walked (printed by wip/tools/genj7.py).
-/
namespace Go.Proofs.YtbhfoelnoddlkaaGreatDoor.D
open Go Go.RowKit Limb

theorem limbs_960 : limbs (val [0, 0, 960] / 10) = [0, 0, 96] := by
  rw [show val [0, 0, 960] / 10 = val [0, 0, 96] by decide, ← trim_eq (by unfold Fit; decide)]
  decide
set_option maxRecDepth 100000 in
theorem div_960 (w : World) (v v2 : Value) (h : Limbs w v [0, 0, 960]) (h2 : Limbs w v2 [10]) :
    Calls Tryz.prog 179 #[v, v2] w fun e w' => Below w.heap.size w w' ∧ ∃ v' c k, e = .returned (.tuple #[v', .slice c 0 k, .bool true]) ∧ Limbs w' v' [0, 0, 96] := by
  have H2 := Lib.hid h2
  have HN1 := Lib.hid (norm_any w v _ h (by decide))
  clear h h2
  go_enter Tryz.func179, Tryz.ntmps179
  go_wp2_with fail
  refine HN1.out.mono ?_
  rintro r w1 ⟨hb1, u1, rfl, hu1, -⟩
  rw [show trim [0, 0, 960] = [0, 0, 960] by decide] at hu1
  have HN2 := Lib.hid (norm_any w1 v2 _ (H2.out.below hb1) (by decide))
  have HU1 := Lib.hid hu1
  have HB1 := Lib.hid hb1
  clear hu1 hb1
  go_wp2_with fail
  refine HN2.out.mono ?_
  rintro r w2 ⟨hb2, u2, rfl, hu2, -⟩
  rw [show trim [10] = [10] by decide] at hu2
  have HS := Lib.hid (small_any w2 u1 _ 10 (HU1.out.below hb2) (by decide) (by decide) (by decide))
  rw [limbs_960] at HS
  obtain ⟨b2, o2, k2, rfl, hlt2, hk2, _, hc2⟩ := hu2.one
  have HB2 := Lib.hid (HB1.out.trans (hb2.mono HB1.out.size))
  clear hu2 hb2
  go_wp2_with fail
  refine HS.out.mono ?_
  rintro r w3 ⟨hb3, u3, rfl, hu3⟩
  have HU3 := Lib.hid hu3
  have HB3 := Lib.hid (HB2.out.trans (hb3.mono HB2.out.size))
  have hm : ((val [0, 0, 960] % 10 : Nat) : Int) = 0 := by decide
  rw [hm]
  clear hu3 hb3
  go_wp2_with fail
  refine (from_any w3 0 (by decide)).mono ?_
  rintro r w4 ⟨hb4, u4, rfl, hu4⟩
  have hz : limbs 0 = [] := limbs_zero
  rw [hz] at hu4
  obtain ⟨c4, k4, rfl⟩ := hu4.slice
  have HU4 := Lib.hid (HU3.out.below hb4)
  have HB4 := Lib.hid (HB3.out.trans (hb4.mono HB3.out.size))
  clear hu4 hb4
  go_wp2
  exact bodyPost_ret (v := .tuple #[u3, .slice c4 0 k4, .bool true]) (by simp [results, Tryz.results179, go_sem]) rfl ⟨HB4.out, _, _, _, rfl, HU4.out⟩
set_option maxRecDepth 100000 in
theorem signed_no (w : World) (x : Int) : Calls Tryz.prog 182 #[.bool false, .int .u64 x] w fun e w' => e = .returned (.int .u64 x) ∧ w' = w := by
  go_enter Tryz.func182, Tryz.ntmps182
  go_wp2
  go_ret
  exact ⟨rfl, rfl⟩

set_option maxRecDepth 100000 in
set_option maxHeartbeats 1000000 in
theorem round_one (w : World) (hG : GW w) (v : Value) (h : Limbs w v [1]) :
    Calls Tryz.prog 175 #[.bool false, v, .int .i64 (0), .bool false] w fun e w' => e = .returned (.int .u64 4607182418800017408) ∧ Below w.heap.size w w' := by
  have H := Lib.hid h
  have HOF := Lib.hid (of_any w hG.s)
  clear h hG
  go_enter Tryz.func175, Tryz.ntmps175
  go_wp2_with fail
  refine HOF.out.mono ?_
  rintro r w1 ⟨rfl, hb1⟩
  obtain ⟨w2, hw2⟩ : ∃ w2, w2 = w1.alloc (.cells #[.int .i64 52, .int .i64 (-1074), .int .i64 11] 228) := ⟨_, rfl⟩
  have hb2 : Below w1.heap.size w1 w2 := by rw [hw2]; exact (Below.refl _ _).alloc (Nat.le_refl _) _
  have hB2 : Blk w2 w1.heap.size #[.int .i64 52, .int .i64 (-1074), .int .i64 11] 228 := by rw [hw2]; exact Blk.new _ _ _
  have hb12 := hb1.trans (hb2.mono hb1.size)
  have hl2 := H.out.below hb12
  have hlen := len_any w2 v _ hl2 (by decide)
  rw [show val [1] = 1 by decide, blen_uniq (n := 1) (k := 1) (by decide) (by decide) (by decide)] at hlen
  have hlen : Calls Tryz.prog 90 #[v] w2 fun e w' => w' = w2 ∧ e = .returned (.int .i64 1) := hlen
  have HLEN := Lib.hid hlen
  have HB2 := Lib.hid hb12
  have HBL2 := Lib.hid hB2
  have HL2 := Lib.hid hl2
  have HW2 := Lib.hid hw2
  clear hb1 hb2 hB2 hb12 hl2 hlen hw2 HOF
  go_upto_region 2 with fail
  change Code.wp _ _ _ _ (w1.alloc (.cells #[.int .i64 52, .int .i64 (-1074), .int .i64 11] 228))
  rw [← HW2.out]
  have c0 : w2.cell? ⟨w1.heap.size, 0, none⟩ = some (.int .i64 52) := HBL2.out.cell 0
  have c1 : w2.cell? ⟨w1.heap.size, 1, none⟩ = some (.int .i64 (-1074)) := HBL2.out.cell 1
  have c2 : w2.cell? ⟨w1.heap.size, 2, none⟩ = some (.int .i64 11) := HBL2.out.cell 2
  go_wp2_with fail
  refine HLEN.out.mono ?_
  rintro r w3 ⟨rfl, rfl⟩
  go_upto_region 13 with fail
  go_quiet (fail)
  have HBLq := Lib.hid (HBL2.out.drewN nq)
  have HBq := Lib.hid (below_drewN HB2.out nq)
  have HLq : Hid (Limbs (w3.drewN nq) v [1]) := Lib.hid HL2.out
  clear c0 c1 c2 HLEN HBL2 HB2 HL2 HW2 hlen
  generalize w3.drewN nq = w4 at HBLq HBq HLq ⊢
  have c0 : w4.cell? ⟨w1.heap.size, 0, none⟩ = some (.int .i64 52) := HBLq.out.cell 0
  have c1 : w4.cell? ⟨w1.heap.size, 1, none⟩ = some (.int .i64 (-1074)) := HBLq.out.cell 1
  have c2 : w4.cell? ⟨w1.heap.size, 2, none⟩ = some (.int .i64 11) := HBLq.out.cell 2
  have hu := uint_any w4 v _ HLq.out (by decide)
  have hu : Calls Tryz.prog 112 #[v] w4 fun e w' => w' = w4 ∧ e = .returned (.tuple #[.int .u64 1, .bool true]) := hu
  have HU := Lib.hid hu
  clear hu
  go_wp2_with fail
  refine HU.out.mono ?_
  rintro r w5 ⟨rfl, rfl⟩
  go_wp2_with fail
  refine (signed_no w5 _).mono ?_
  rintro r w7 ⟨rfl, rfl⟩
  go_wp2
  go_ret
  exact ⟨rfl, HBq.out⟩

set_option maxRecDepth 100000 in
set_option maxHeartbeats 1000000 in
theorem round_half (w : World) (hG : GW w) (v : Value) (h : Limbs w v [0, 0, 96]) :
    Calls Tryz.prog 175 #[.bool false, v, .int .i64 (-70), .bool false] w fun e w' => e = .returned (.int .u64 4609434218613702656) ∧ Below w.heap.size w w' := by
  have H := Lib.hid h
  have HOF := Lib.hid (of_any w hG.s)
  clear h hG
  go_enter Tryz.func175, Tryz.ntmps175
  go_wp2_with fail
  refine HOF.out.mono ?_
  rintro r w1 ⟨rfl, hb1⟩
  obtain ⟨w2, hw2⟩ : ∃ w2, w2 = w1.alloc (.cells #[.int .i64 52, .int .i64 (-1074), .int .i64 11] 228) := ⟨_, rfl⟩
  have hb2 : Below w1.heap.size w1 w2 := by rw [hw2]; exact (Below.refl _ _).alloc (Nat.le_refl _) _
  have hB2 : Blk w2 w1.heap.size #[.int .i64 52, .int .i64 (-1074), .int .i64 11] 228 := by rw [hw2]; exact Blk.new _ _ _
  have hb12 := hb1.trans (hb2.mono hb1.size)
  have hl2 := H.out.below hb12
  have hlen := len_any w2 v _ hl2 (by decide)
  rw [show val [0, 0, 96] = 1770887431076116955136 by decide, blen_uniq (n := 1770887431076116955136) (k := 71) (by decide) (by decide) (by decide)] at hlen
  have hlen : Calls Tryz.prog 90 #[v] w2 fun e w' => w' = w2 ∧ e = .returned (.int .i64 71) := hlen
  have HLEN := Lib.hid hlen
  have HB2 := Lib.hid hb12
  have HBL2 := Lib.hid hB2
  have HL2 := Lib.hid hl2
  have HW2 := Lib.hid hw2
  clear hb1 hb2 hB2 hb12 hl2 hlen hw2 HOF
  go_upto_region 2 with fail
  change Code.wp _ _ _ _ (w1.alloc (.cells #[.int .i64 52, .int .i64 (-1074), .int .i64 11] 228))
  rw [← HW2.out]
  have c0 : w2.cell? ⟨w1.heap.size, 0, none⟩ = some (.int .i64 52) := HBL2.out.cell 0
  have c1 : w2.cell? ⟨w1.heap.size, 1, none⟩ = some (.int .i64 (-1074)) := HBL2.out.cell 1
  have c2 : w2.cell? ⟨w1.heap.size, 2, none⟩ = some (.int .i64 11) := HBL2.out.cell 2
  go_wp2_with fail
  refine HLEN.out.mono ?_
  rintro r w3 ⟨rfl, rfl⟩
  go_upto_region 13 with fail
  go_quiet (fail)
  have HBLq := Lib.hid (HBL2.out.drewN nq)
  have HBq := Lib.hid (below_drewN HB2.out nq)
  have HLq : Hid (Limbs (w3.drewN nq) v [0, 0, 96]) := Lib.hid HL2.out
  clear c0 c1 c2 HLEN HBL2 HB2 HL2 HW2 hlen
  generalize w3.drewN nq = w4 at HBLq HBq HLq ⊢
  have c0 : w4.cell? ⟨w1.heap.size, 0, none⟩ = some (.int .i64 52) := HBLq.out.cell 0
  have c1 : w4.cell? ⟨w1.heap.size, 1, none⟩ = some (.int .i64 (-1074)) := HBLq.out.cell 1
  have c2 : w4.cell? ⟨w1.heap.size, 2, none⟩ = some (.int .i64 11) := HBLq.out.cell 2
  have HSH := Lib.hid (shr_96_17 w4 v HLq.out)
  go_wp2_with fail
  refine HSH.out.mono ?_
  rintro r w5 ⟨hb5, u5, rfl, hu5⟩
  have hB5 := HBLq.out.below hb5 HBLq.out.lt
  have HB5 := Lib.hid (HBq.out.trans (hb5.mono HBq.out.size))
  have c0 : w5.cell? ⟨w1.heap.size, 0, none⟩ = some (.int .i64 52) := hB5.cell 0
  have c1 : w5.cell? ⟨w1.heap.size, 1, none⟩ = some (.int .i64 (-1074)) := hB5.cell 1
  have hu := uint_any w5 u5 _ hu5 (by decide)
  have hu : Calls Tryz.prog 112 #[u5] w5 fun e w' => w' = w5 ∧ e = .returned (.tuple #[.int .u64 13510798882111488, .bool true]) := hu
  have HU := Lib.hid hu
  have hq1 : bits .and .u64 13510798882111488 1 = 0 := by decide
  clear hb5 hu5 hB5 hu HBq
  have HBq := HB5
  go_wp2_with fail
  refine HU.out.mono ?_
  rintro r w6 ⟨rfl, rfl⟩
  go_wp2_with fail
  refine (signed_no w6 _).mono ?_
  rintro r w7 ⟨rfl, rfl⟩
  go_wp2
  go_ret
  exact ⟨rfl, HBq.out⟩

set_option maxRecDepth 100000 in
set_option maxHeartbeats 1000000 in
theorem round_three (w : World) (hG : GW w) (v : Value) (h : Limbs w v [3]) :
    Calls Tryz.prog 175 #[.bool false, v, .int .i64 (-1), .bool false] w fun e w' => e = .returned (.int .u64 4609434218613702656) ∧ Below w.heap.size w w' := by
  have H := Lib.hid h
  have HOF := Lib.hid (of_any w hG.s)
  clear h hG
  go_enter Tryz.func175, Tryz.ntmps175
  go_wp2_with fail
  refine HOF.out.mono ?_
  rintro r w1 ⟨rfl, hb1⟩
  obtain ⟨w2, hw2⟩ : ∃ w2, w2 = w1.alloc (.cells #[.int .i64 52, .int .i64 (-1074), .int .i64 11] 228) := ⟨_, rfl⟩
  have hb2 : Below w1.heap.size w1 w2 := by rw [hw2]; exact (Below.refl _ _).alloc (Nat.le_refl _) _
  have hB2 : Blk w2 w1.heap.size #[.int .i64 52, .int .i64 (-1074), .int .i64 11] 228 := by rw [hw2]; exact Blk.new _ _ _
  have hb12 := hb1.trans (hb2.mono hb1.size)
  have hl2 := H.out.below hb12
  have hlen := len_any w2 v _ hl2 (by decide)
  rw [show val [3] = 3 by decide, blen_uniq (n := 3) (k := 2) (by decide) (by decide) (by decide)] at hlen
  have hlen : Calls Tryz.prog 90 #[v] w2 fun e w' => w' = w2 ∧ e = .returned (.int .i64 2) := hlen
  have HLEN := Lib.hid hlen
  have HB2 := Lib.hid hb12
  have HBL2 := Lib.hid hB2
  have HL2 := Lib.hid hl2
  have HW2 := Lib.hid hw2
  clear hb1 hb2 hB2 hb12 hl2 hlen hw2 HOF
  go_upto_region 2 with fail
  change Code.wp _ _ _ _ (w1.alloc (.cells #[.int .i64 52, .int .i64 (-1074), .int .i64 11] 228))
  rw [← HW2.out]
  have c0 : w2.cell? ⟨w1.heap.size, 0, none⟩ = some (.int .i64 52) := HBL2.out.cell 0
  have c1 : w2.cell? ⟨w1.heap.size, 1, none⟩ = some (.int .i64 (-1074)) := HBL2.out.cell 1
  have c2 : w2.cell? ⟨w1.heap.size, 2, none⟩ = some (.int .i64 11) := HBL2.out.cell 2
  go_wp2_with fail
  refine HLEN.out.mono ?_
  rintro r w3 ⟨rfl, rfl⟩
  go_upto_region 13 with fail
  go_quiet (fail)
  have HBLq := Lib.hid (HBL2.out.drewN nq)
  have HBq := Lib.hid (below_drewN HB2.out nq)
  have HLq : Hid (Limbs (w3.drewN nq) v [3]) := Lib.hid HL2.out
  clear c0 c1 c2 HLEN HBL2 HB2 HL2 HW2 hlen
  generalize w3.drewN nq = w4 at HBLq HBq HLq ⊢
  have c0 : w4.cell? ⟨w1.heap.size, 0, none⟩ = some (.int .i64 52) := HBLq.out.cell 0
  have c1 : w4.cell? ⟨w1.heap.size, 1, none⟩ = some (.int .i64 (-1074)) := HBLq.out.cell 1
  have c2 : w4.cell? ⟨w1.heap.size, 2, none⟩ = some (.int .i64 11) := HBLq.out.cell 2
  have hu := uint_any w4 v _ HLq.out (by decide)
  have hu : Calls Tryz.prog 112 #[v] w4 fun e w' => w' = w4 ∧ e = .returned (.tuple #[.int .u64 3, .bool true]) := hu
  have HU := Lib.hid hu
  clear hu
  go_wp2_with fail
  refine HU.out.mono ?_
  rintro r w5 ⟨rfl, rfl⟩
  go_wp2_with fail
  refine (signed_no w5 _).mono ?_
  rintro r w7 ⟨rfl, rfl⟩
  go_wp2
  go_ret
  exact ⟨rfl, HBq.out⟩
end Go.Proofs.YtbhfoelnoddlkaaGreatDoor.D

/-
  decimal.Read of "10" and "15", the point behind the first digit: walked (printed by wip/tools/genj8.py).
-/
namespace Go.Proofs.YtbhfoelnoddlkaaGreatDoor.D
open Go Go.RowKit Limb

set_option maxRecDepth 100000 in
theorem fine_10 (w : World) (pt : Int) : Calls Tryz.prog 172 #[.agg #[.bool false, .string ⟨#[49, 48]⟩, .int .i64 pt]] w fun e w' => e = .returned (.bool true) ∧ Below w.heap.size w w' := by
  obtain ⟨w1, hw1⟩ : ∃ w1, w1 = w.alloc (.cells #[.bool false, .string ⟨#[49, 48]⟩, .int .i64 pt] 156) := ⟨_, rfl⟩
  have hb1 : Below w.heap.size w w1 := by rw [hw1]; exact (Below.refl _ _).alloc (Nat.le_refl _) _
  have hB1 : Blk w1 w.heap.size #[.bool false, .string ⟨#[49, 48]⟩, .int .i64 pt] 156 := by rw [hw1]; exact Blk.new _ _ _
  have c1 : w1.cell? ⟨w.heap.size, 1, none⟩ = some (.string ⟨#[49, 48]⟩) := hB1.cell 1
  have n0 : ∀ ty, (Instr.next (.pointer (some ⟨w1.heap.size, 0, none⟩)) true ty).run Tryz.prog (w1.iter ⟨#[49, 48]⟩ 0) = .ok (.tuple #[.bool true, .int .i64 0, .int .i32 49]) (w1.iter ⟨#[49, 48]⟩ 1) := fun ty => run_next_ascii w1 ⟨#[49, 48]⟩ 0 ty (by decide) (by decide)
  have n1 : ∀ ty, (Instr.next (.pointer (some ⟨w1.heap.size, 0, none⟩)) true ty).run Tryz.prog (w1.iter ⟨#[49, 48]⟩ 1) = .ok (.tuple #[.bool true, .int .i64 1, .int .i32 48]) (w1.iter ⟨#[49, 48]⟩ 2) := fun ty => run_next_ascii w1 ⟨#[49, 48]⟩ 1 ty (by decide) (by decide)
  have ne : ∀ ty, (Instr.next (.pointer (some ⟨w1.heap.size, 0, none⟩)) true ty).run Tryz.prog (w1.iter ⟨#[49, 48]⟩ 2) = .ok (.tuple #[.bool false]) (w1.iter ⟨#[49, 48]⟩ 2) := fun ty => run_next_end w1 ⟨#[49, 48]⟩ 2 ty (by decide)
  have HB := Lib.hid (hb1.trans ((iter_below w1 ⟨#[49, 48]⟩ 2).mono hb1.size))
  have HW := Lib.hid hw1
  clear hw1 hb1 hB1
  go_enter Tryz.func172, Tryz.ntmps172
  go_upto_region 1 with fail
  change Code.wp _ _ _ _ (w.alloc (.cells #[.bool false, .string ⟨#[49, 48]⟩, .int .i64 pt] 156))
  rw [← HW.out]
  go_wp2
  refine wp_loop_rounds 3 ?_
  rw [rounds_succ]
  go_wp2
  rw [rounds_succ]
  go_wp2
  rw [rounds_succ]
  go_wp2
  go_ret
  exact ⟨rfl, HB.out⟩
set_option maxRecDepth 100000 in
theorem plain_10 (w : World) : Calls Tryz.prog 173 #[.string ⟨#[49, 48]⟩] w fun e w' => e = .returned (.tuple #[.string ⟨#[49]⟩, .int .i64 0]) ∧ w' = w := by
  have h1 : Calls Tryz.prog 92 #[.string ⟨#[49, 48]⟩, .string ⟨#[48]⟩] w fun e w' => e = .returned (.string ⟨#[49, 48]⟩) ∧ w' = w := Tryz.strings_TrimLeft_one ⟨#[49, 48]⟩ 48 (by decide) w
  have h2 : Calls Tryz.prog 217 #[.string ⟨#[49, 48]⟩, .string ⟨#[48]⟩] w fun e w' => e = .returned (.string ⟨#[49]⟩) ∧ w' = w := Tryz.strings_TrimRight_one ⟨#[49, 48]⟩ 48 (by decide) w (by decide)
  have H1 := Lib.hid h1
  have H2 := Lib.hid h2
  clear h1 h2
  go_enter Tryz.func173, Tryz.ntmps173
  go_wp2_with fail
  refine H1.out.mono ?_
  rintro r w1 ⟨rfl, rfl⟩
  go_wp2_with fail
  refine H2.out.mono ?_
  rintro r w2 ⟨rfl, rfl⟩
  go_wp2
  exact bodyPost_ret (v := .tuple #[.string ⟨#[49]⟩, .int .i64 0]) (by simp [results, Tryz.results173, go_sem]) rfl ⟨rfl, rfl⟩

set_option maxRecDepth 100000 in
theorem fine_15 (w : World) (pt : Int) : Calls Tryz.prog 172 #[.agg #[.bool false, .string ⟨#[49, 53]⟩, .int .i64 pt]] w fun e w' => e = .returned (.bool true) ∧ Below w.heap.size w w' := by
  obtain ⟨w1, hw1⟩ : ∃ w1, w1 = w.alloc (.cells #[.bool false, .string ⟨#[49, 53]⟩, .int .i64 pt] 156) := ⟨_, rfl⟩
  have hb1 : Below w.heap.size w w1 := by rw [hw1]; exact (Below.refl _ _).alloc (Nat.le_refl _) _
  have hB1 : Blk w1 w.heap.size #[.bool false, .string ⟨#[49, 53]⟩, .int .i64 pt] 156 := by rw [hw1]; exact Blk.new _ _ _
  have c1 : w1.cell? ⟨w.heap.size, 1, none⟩ = some (.string ⟨#[49, 53]⟩) := hB1.cell 1
  have n0 : ∀ ty, (Instr.next (.pointer (some ⟨w1.heap.size, 0, none⟩)) true ty).run Tryz.prog (w1.iter ⟨#[49, 53]⟩ 0) = .ok (.tuple #[.bool true, .int .i64 0, .int .i32 49]) (w1.iter ⟨#[49, 53]⟩ 1) := fun ty => run_next_ascii w1 ⟨#[49, 53]⟩ 0 ty (by decide) (by decide)
  have n1 : ∀ ty, (Instr.next (.pointer (some ⟨w1.heap.size, 0, none⟩)) true ty).run Tryz.prog (w1.iter ⟨#[49, 53]⟩ 1) = .ok (.tuple #[.bool true, .int .i64 1, .int .i32 53]) (w1.iter ⟨#[49, 53]⟩ 2) := fun ty => run_next_ascii w1 ⟨#[49, 53]⟩ 1 ty (by decide) (by decide)
  have ne : ∀ ty, (Instr.next (.pointer (some ⟨w1.heap.size, 0, none⟩)) true ty).run Tryz.prog (w1.iter ⟨#[49, 53]⟩ 2) = .ok (.tuple #[.bool false]) (w1.iter ⟨#[49, 53]⟩ 2) := fun ty => run_next_end w1 ⟨#[49, 53]⟩ 2 ty (by decide)
  have HB := Lib.hid (hb1.trans ((iter_below w1 ⟨#[49, 53]⟩ 2).mono hb1.size))
  have HW := Lib.hid hw1
  clear hw1 hb1 hB1
  go_enter Tryz.func172, Tryz.ntmps172
  go_upto_region 1 with fail
  change Code.wp _ _ _ _ (w.alloc (.cells #[.bool false, .string ⟨#[49, 53]⟩, .int .i64 pt] 156))
  rw [← HW.out]
  go_wp2
  refine wp_loop_rounds 3 ?_
  rw [rounds_succ]
  go_wp2
  rw [rounds_succ]
  go_wp2
  rw [rounds_succ]
  go_wp2
  go_ret
  exact ⟨rfl, HB.out⟩
set_option maxRecDepth 100000 in
theorem plain_15 (w : World) : Calls Tryz.prog 173 #[.string ⟨#[49, 53]⟩] w fun e w' => e = .returned (.tuple #[.string ⟨#[49, 53]⟩, .int .i64 0]) ∧ w' = w := by
  have h1 : Calls Tryz.prog 92 #[.string ⟨#[49, 53]⟩, .string ⟨#[48]⟩] w fun e w' => e = .returned (.string ⟨#[49, 53]⟩) ∧ w' = w := Tryz.strings_TrimLeft_one ⟨#[49, 53]⟩ 48 (by decide) w
  have h2 : Calls Tryz.prog 217 #[.string ⟨#[49, 53]⟩, .string ⟨#[48]⟩] w fun e w' => e = .returned (.string ⟨#[49, 53]⟩) ∧ w' = w := Tryz.strings_TrimRight_one ⟨#[49, 53]⟩ 48 (by decide) w (by decide)
  have H1 := Lib.hid h1
  have H2 := Lib.hid h2
  clear h1 h2
  go_enter Tryz.func173, Tryz.ntmps173
  go_wp2_with fail
  refine H1.out.mono ?_
  rintro r w1 ⟨rfl, rfl⟩
  go_wp2_with fail
  refine H2.out.mono ?_
  rintro r w2 ⟨rfl, rfl⟩
  go_wp2
  exact bodyPost_ret (v := .tuple #[.string ⟨#[49, 53]⟩, .int .i64 0]) (by simp [results, Tryz.results173, go_sem]) rfl ⟨rfl, rfl⟩
end Go.Proofs.YtbhfoelnoddlkaaGreatDoor.D

