/-
  Of the proof that the law DiagDeep answers true at every row of bytes: a part, without conditions of its own.
-/
import Derived.Test.YtbhfoelnoddlkaaGreatDoorPart26
import Derived.Test.YtbhfoelnoddlkaaGreatDoorPart20
import Derived.Laws.IdiomCopy
import Derived.Test.YtbhfoelnoddlkaaGreatDoorPart04
set_option linter.unusedVariables false
set_option linter.unusedSimpArgs false
/-
  quot.Div: walked.
-/
namespace Go.Proofs.YtbhfoelnoddlkaaGreatDoor.D
open Go Go.RowKit Limb

theorem limbs_len_le {a b : Nat} (h : a ≤ b) : (limbs a).length ≤ (limbs b).length := limbs_length_le (Nat.lt_of_le_of_lt h (limbs_lt b))
theorem limbs_one_of {b : Nat} (h : (limbs b).length = 1) : limbs b = [b] ∧ 0 < b ∧ b < 4294967296 := by
  have hb : b ≠ 0 := by rintro rfl; rw [limbs_zero] at h; simp at h
  have h1 := limbs_lt b
  rw [h, Nat.pow_one] at h1
  exact ⟨limbs_small h1 hb, by omega, h1⟩

set_option maxRecDepth 100000 in
set_option maxHeartbeats 1000000 in
theorem div_any (w : World) (v v2 : Value) (a b : List Nat) (h : Limbs w v a) (h2 : Limbs w v2 b) (hl : a.length ≤ 8589934592) (hl2 : b.length ≤ 8589934592) (hb : val b ≠ 0) :
    Calls Tryz.prog 179 #[v, v2] w fun e w' => Below w.heap.size w w' ∧ ∃ q r, e = .returned (.tuple #[q, r, .bool true]) ∧ Limbs w' q (limbs (val a / val b)) ∧ Limbs w' r (limbs (val a % val b)) := by
  have H2 := Lib.hid h2
  have HN1 := Lib.hid (norm_any w v _ h (by omega))
  rw [trim_eq h.fit] at HN1
  have hna : (limbs (val a)).length ≤ 8589934592 := by rw [← trim_eq h.fit, length_trim]; have := top_le a; omega
  have hnb : (limbs (val b)).length ≤ 8589934592 := by rw [← trim_eq h2.fit, length_trim]; have := top_le b; omega
  have HT2 := Lib.hid (trim_eq h2.fit)
  have HL2 := Lib.hid hl2
  have hp := limbs_length_pos hb
  clear h h2 hl hl2
  generalize val a = x at *
  generalize val b = y at *
  go_enter Tryz.func179, Tryz.ntmps179
  go_wp2_with fail
  refine HN1.out.mono ?_
  rintro e w1 ⟨hb1, u1, rfl, hu1, -⟩
  have HN2 := Lib.hid (norm_any w1 v2 _ (H2.out.below hb1) (by have := HL2.out; omega))
  rw [HT2.out] at HN2
  have HU1 := Lib.hid hu1
  have HB1 := Lib.hid hb1
  clear hu1 hb1 HN1
  go_wp2_with fail
  refine HN2.out.mono ?_
  rintro e w2 ⟨hb2, u2, rfl, hu2, -⟩
  have HU2 := Lib.hid (HU1.out.below hb2)
  have HV2 := Lib.hid hu2
  have HB2 := Lib.hid (HB1.out.trans (hb2.mono HB1.out.size))
  obtain ⟨b1, c1, rfl⟩ := HU2.out.slice
  obtain ⟨bb2, c2, rfl⟩ := hu2.slice
  clear hb2 hu2 HU1 HB1 HN2
  obtain ⟨n, hn⟩ : ∃ n, n = (limbs y).length := ⟨_, rfl⟩
  obtain ⟨m, hm⟩ : ∃ m, m = (limbs x).length := ⟨_, rfl⟩
  have HN := Lib.hid hn
  have HM := Lib.hid hm
  rw [← hn] at hp hnb HV2 ⊢
  rw [← hm] at hna HU2 ⊢
  clear hn hm
  have g0 : ((n : Int) == 0) = false := beq_eq_false_iff_ne.2 (by omega)
  by_cases h1 : n = 1
  · subst h1
    obtain ⟨e1, e2, e3⟩ := limbs_one_of HN.out.symm
    have hv2 := HV2.out
    rw [e1] at hv2
    obtain ⟨_, ⟨_, hy⟩ | ⟨bk, of, cp, hv, p1, p2, p3, p4⟩⟩ := hv2
    · simp at hy
    simp only [Value.slice.injEq] at hv
    obtain ⟨rfl, -, rfl⟩ := hv
    have hc := p4 0 (by simp)
    have hc : w2.cell? ⟨bk, of, none⟩ = some (.int .u32 (y : Int)) := hc
    have HSM := Lib.hid (small_any w2 _ _ y HU2.out (by rw [← HM.out]; omega) e2 e3)
    rw [val_limbs] at HSM
    have hr : x % y < 4294967296 := Nat.lt_trans (Nat.mod_lt _ e2) e3
    have HF := Lib.hid (fun w => from_any w (x % y) (by omega))
    have qr : IntKind.u64.wrap ((x % y : Nat) : Int) = ((x % y : Nat) : Int) := by rw [IntKind.wrap_u64]; omega
    obtain ⟨Q, hQ⟩ : ∃ Q, Q = x / y := ⟨_, rfl⟩
    obtain ⟨R, hR⟩ : ∃ R, R = x % y := ⟨_, rfl⟩
    rw [← hR] at HSM HF qr hr
    rw [← hQ] at HSM
    have HE := Lib.hid (And.intro hQ hR)
    clear p4 e1 HV2 hQ hR
    go_wp2_with fail
    refine HSM.out.mono ?_
    rintro e w3 ⟨hb3, q3, rfl, hq3⟩
    have HQ3 := Lib.hid hq3
    have HB3 := Lib.hid (HB2.out.trans (hb3.mono HB2.out.size))
    clear hb3 hq3 HSM
    go_wp2_with fail
    refine (HF.out w3).mono ?_
    rintro e w4 ⟨hb4, r4, rfl, hr4⟩
    have HQ4 := Lib.hid (HQ3.out.below hb4)
    have HR4 := Lib.hid hr4
    have HB4 := Lib.hid (HB3.out.trans (hb4.mono HB3.out.size))
    clear hb4 hr4
    go_wp2
    refine bodyPost_ret (v := .tuple #[q3, r4, .bool true]) (by simp [results, Tryz.results179, go_sem]) rfl ⟨HB4.out, _, _, rfl, by rw [← HE.out.1]; exact HQ4.out, by rw [← HE.out.2]; exact HR4.out⟩
  · have g1 : ((n : Int) == 1) = false := beq_eq_false_iff_ne.2 (by omega)
    have HCM := Lib.hid (cmp_any w2 _ _ _ _ HU2.out HV2.out (by rw [← HM.out]; omega) (by rw [← HN.out]; omega))
    rw [val_limbs, val_limbs] at HCM
    go_wp2_with fail
    refine HCM.out.mono ?_
    rintro e w3 ⟨rfl, hb3⟩
    have HU3 := Lib.hid (HU2.out.below hb3)
    have HV3 := Lib.hid (HV2.out.below hb3)
    have HB3 := Lib.hid (HB2.out.trans (hb3.mono HB2.out.size))
    clear hb3 HCM HU2 HV2 HB2
    by_cases hxy : x < y
    · have e : cmpI x y = -1 := by simp [cmpI, hxy]
      have HQ : Hid (x / y = 0) := Lib.hid (Nat.div_eq_of_lt hxy)
      have HR : Hid (x % y = x) := Lib.hid (Nat.mod_eq_of_lt hxy)
      rw [e]
      go_wp2
      refine bodyPost_ret (v := .tuple #[.slice none 0 0, .slice b1 m c1, .bool true]) (by simp [results, Tryz.results179, go_sem]) rfl ⟨HB3.out, _, _, rfl, ?_, ?_⟩
      · rw [HQ.out, limbs_zero]; exact Limbs.nil _
      · rw [HR.out]; exact HU3.out
    · have g2 : ¬ cmpI x y < 0 := by unfold cmpI; rw [if_neg hxy]; split <;> omega
      have HLG := Lib.hid (long_any w3 _ _ x y HU3.out HV3.out (by rw [← HN.out]; omega) (limbs_len_le (by omega)) (by rw [← HM.out]; omega))
      generalize cmpI x y = cc at g2 ⊢
      go_wp2_with fail
      refine HLG.out.mono ?_
      rintro e w4 ⟨hb4, q4, r4, rfl, hq4, hr4⟩
      have HQ4 := Lib.hid hq4
      have HR4 := Lib.hid hr4
      have HB4 := Lib.hid (HB3.out.trans (hb4.mono HB3.out.size))
      clear hb4 hq4 hr4
      go_wp2
      refine bodyPost_ret (v := .tuple #[q4, r4, .bool true]) (by simp [results, Tryz.results179, go_sem]) rfl ⟨HB4.out, _, _, rfl, HQ4.out, HR4.out⟩
end Go.Proofs.YtbhfoelnoddlkaaGreatDoor.D

/-
  nat.Shl of one limb, at the places that are met: walked (printed by wip/tools/genj4.py).
-/
namespace Go.Proofs.YtbhfoelnoddlkaaGreatDoor.D
open Go Go.RowKit Limb

theorem size32 : (Tryz.prog.info? 140).map (·.size) = some 1 := by kernel_rfl

set_option maxRecDepth 100000 in
set_option maxHeartbeats 1000000 in
theorem shl_1_0 (w : World) (v : Value) (h : Limbs w v [1]) :
    Calls Tryz.prog 178 #[v, .int .i64 0] w fun e w' => Below w.heap.size w w' ∧ ∃ v', e = .returned (.tuple #[v', .bool true]) ∧ Limbs w' v' [1] := by
  have HC1 := Lib.hid (cut_any w v [1] h)
  have hmk : (Instr.makeSlice 28 (.int .i64 2) (.int .i64 2)).run Tryz.prog w = .ok (.slice (some ⟨w.heap.size, 0, none⟩) 2 2) (w.alloc (.cells (uCells (List.replicate 2 0)) 140)) := make_nat w 2 (by decide)
  obtain ⟨w1, hw1⟩ : ∃ w1, w1 = w.alloc (.cells (uCells (List.replicate 2 0)) 140) := ⟨_, rfl⟩
  have hb1 : Below w.heap.size w w1 := by rw [hw1]; exact (Below.refl _ _).alloc (Nat.le_refl _) _
  have hB1 : Blk w1 w.heap.size (uCells [0, 0]) 140 := by rw [hw1]; exact Blk.new _ _ _
  rw [← hw1] at hmk
  have HB1 := Lib.hid hb1
  have HBL1 := Lib.hid hB1
  clear h hw1 hb1 hB1
  go_enter Tryz.func178, Tryz.ntmps178
  go_wp2_with fail
  refine HC1.out.mono ?_
  rintro r w2 ⟨rfl, u, rfl, hu⟩
  rw [trim_one 1 (by decide)] at hu
  have hbl : ((blen (val [1]) : Nat) : Int) = 1 := by rw [show val [1] = 1 from rfl, blen_uniq (n := 1) (k := 1) (by decide) (by decide) (by decide)]; rfl
  have hlen := len_any w2 u [1] hu (by decide)
  rw [hbl] at hlen
  have HLEN := Lib.hid hlen
  obtain ⟨b1, o1, k1, rfl, hlt1, hk1, _, hc1⟩ := hu.one
  have d1 := (HB1.out.cell (p := ⟨b1, o1, none⟩) hlt1).trans hc1
  have hcopy : ∀ ty, (Builtin.copy_ #[28, 28] ty #[.slice (some ⟨w2.heap.size, 0, none⟩) 2 2, .slice (some ⟨b1, o1, none⟩) 1 k1]).run Tryz.prog w1 = .ok (.int .i64 1) (w1.setCell ⟨w2.heap.size, 0, none⟩ (.int .u32 1)) := fun ty =>
    run_copy_cells (P := Tryz.prog) w1 28 28 ty 140 w2.heap.size 0 2 2 ⟨b1, o1, none⟩ 1 k1 [.int .u32 1] Tryz.underlying28 size32 rfl (fun j v hj => by
      match j, hj with
      | 0, hj => simp at hj; subst hj; exact d1) (fun j hj => by
      obtain rfl : j = 0 := by simpa using hj
      rw [HBL1.out.cell]; rfl) (fun j hj => HBL1.out.free _) (fun x hx => by simp at hx; subst hx; rfl)
  obtain ⟨w4, hw4⟩ : ∃ w4, w4 = w1.setCell ⟨w2.heap.size, 0, none⟩ (.int .u32 1) := ⟨_, rfl⟩
  rw [← hw4] at hcopy
  have hB4 : Blk w4 w2.heap.size (uCells [1, 0]) 140 := by rw [hw4]; exact HBL1.out.set 0 _
  have hb4 : Below w2.heap.size w2 w4 := by rw [hw4]; exact HB1.out.setCell (Nat.le_refl _) _
  have HB4 := Lib.hid hb4
  have HBL4 := Lib.hid hB4
  clear hu HC1 hlen hbl hc1 d1 hw4 hb4 hB4
  go_wp2_with fail
  refine HLEN.out.mono ?_
  rintro r w3 ⟨rfl, rfl⟩
  have HUP := Lib.hid hmk
  have HFIN := HBL4
  have HBF := HB4
  have HCF := Lib.hid (cut_any _ _ _ (HFIN.out.limbs (n := 2) (by unfold Fit; decide) rfl (by decide)))
  rw [show trim [1, 0] = [1] by decide] at HCF
  go_wp2_with fail
  refine HCF.out.mono ?_
  rintro r w9 ⟨rfl, v', rfl, hl'⟩
  have HLL := Lib.hid hl'
  clear hl'
  go_wp2
  exact bodyPost_ret (v := .tuple #[v', .bool true]) (by simp [results, Tryz.results178, go_sem]) rfl ⟨HBF.out, _, rfl, HLL.out⟩

set_option maxRecDepth 100000 in
set_option maxHeartbeats 1000000 in
theorem shl_5_1 (w : World) (v : Value) (h : Limbs w v [5]) :
    Calls Tryz.prog 178 #[v, .int .i64 1] w fun e w' => Below w.heap.size w w' ∧ ∃ v', e = .returned (.tuple #[v', .bool true]) ∧ Limbs w' v' [10] := by
  have HC1 := Lib.hid (cut_any w v [5] h)
  have hmk : (Instr.makeSlice 28 (.int .i64 2) (.int .i64 2)).run Tryz.prog w = .ok (.slice (some ⟨w.heap.size, 0, none⟩) 2 2) (w.alloc (.cells (uCells (List.replicate 2 0)) 140)) := make_nat w 2 (by decide)
  obtain ⟨w1, hw1⟩ : ∃ w1, w1 = w.alloc (.cells (uCells (List.replicate 2 0)) 140) := ⟨_, rfl⟩
  have hb1 : Below w.heap.size w w1 := by rw [hw1]; exact (Below.refl _ _).alloc (Nat.le_refl _) _
  have hB1 : Blk w1 w.heap.size (uCells [0, 0]) 140 := by rw [hw1]; exact Blk.new _ _ _
  rw [← hw1] at hmk
  have HB1 := Lib.hid hb1
  have HBL1 := Lib.hid hB1
  clear h hw1 hb1 hB1
  go_enter Tryz.func178, Tryz.ntmps178
  go_wp2_with fail
  refine HC1.out.mono ?_
  rintro r w2 ⟨rfl, u, rfl, hu⟩
  rw [trim_one 5 (by decide)] at hu
  have hbl : ((blen (val [5]) : Nat) : Int) = 3 := by rw [show val [5] = 5 from rfl, blen_uniq (n := 5) (k := 3) (by decide) (by decide) (by decide)]; rfl
  have hlen := len_any w2 u [5] hu (by decide)
  rw [hbl] at hlen
  have HLEN := Lib.hid hlen
  obtain ⟨b1, o1, k1, rfl, hlt1, hk1, _, hc1⟩ := hu.one
  have d1 := (HB1.out.cell (p := ⟨b1, o1, none⟩) hlt1).trans hc1
  have hcopy : ∀ ty, (Builtin.copy_ #[28, 28] ty #[.slice (some ⟨w2.heap.size, 0, none⟩) 2 2, .slice (some ⟨b1, o1, none⟩) 1 k1]).run Tryz.prog w1 = .ok (.int .i64 1) (w1.setCell ⟨w2.heap.size, 0, none⟩ (.int .u32 5)) := fun ty =>
    run_copy_cells (P := Tryz.prog) w1 28 28 ty 140 w2.heap.size 0 2 2 ⟨b1, o1, none⟩ 1 k1 [.int .u32 5] Tryz.underlying28 size32 rfl (fun j v hj => by
      match j, hj with
      | 0, hj => simp at hj; subst hj; exact d1) (fun j hj => by
      obtain rfl : j = 0 := by simpa using hj
      rw [HBL1.out.cell]; rfl) (fun j hj => HBL1.out.free _) (fun x hx => by simp at hx; subst hx; rfl)
  obtain ⟨w4, hw4⟩ : ∃ w4, w4 = w1.setCell ⟨w2.heap.size, 0, none⟩ (.int .u32 5) := ⟨_, rfl⟩
  rw [← hw4] at hcopy
  have hB4 : Blk w4 w2.heap.size (uCells [5, 0]) 140 := by rw [hw4]; exact HBL1.out.set 0 _
  have hb4 : Below w2.heap.size w2 w4 := by rw [hw4]; exact HB1.out.setCell (Nat.le_refl _) _
  have HB4 := Lib.hid hb4
  have HBL4 := Lib.hid hB4
  clear hu HC1 hlen hbl hc1 d1 hw4 hb4 hB4
  go_wp2_with fail
  refine HLEN.out.mono ?_
  rintro r w3 ⟨rfl, rfl⟩
  have HUP := Lib.hid hmk
  go_upto_region 13 with fail
  refine wp_loop_rounds 3 ?_
  rw [rounds_succ]
  have c1 := HBL4.out.cell 1
  have f1 := HBL4.out.free 1
  have hBn : Blk (w4.setCell ⟨w3.heap.size, 1, none⟩ (.int .u32 0)) w3.heap.size (uCells [5, 0]) 140 := HBL4.out.set 1 _
  have hbn := HB4.out.setCell (p := ⟨w3.heap.size, 1, none⟩) (Nat.le_refl _) (.int .u32 0)
  have HBLa1 := Lib.hid hBn
  have HBa1 := Lib.hid hbn
  clear hBn hbn
  simp only [uCells, uCell, List.map, List.getElem?_toArray, List.getElem?_cons_zero, List.getElem?_cons_succ] at c1
  go_upto_region 18 with fail
  clear c1 f1
  generalize (w4.setCell ⟨w3.heap.size, 1, none⟩ (.int .u32 0)) = wa1 at HBLa1 HBa1 ⊢
  have c1 := HBLa1.out.cell 1
  have c0 := HBLa1.out.cell 0
  have f1 := HBLa1.out.free 1
  simp only [uCells, uCell, List.map, List.getElem?_toArray, List.getElem?_cons_zero, List.getElem?_cons_succ] at c1 c0
  have o1 : bits .or .u32 0 0 = 0 := by decide
  have hBn : Blk (wa1.setCell ⟨w3.heap.size, 1, none⟩ (.int .u32 0)).drew w3.heap.size (uCells [5, 0]) 140 := (HBLa1.out.set 1 _).drew
  have hbn := (HBa1.out.setCell (p := ⟨w3.heap.size, 1, none⟩) (Nat.le_refl _) (.int .u32 0)).drew
  have HBLb1 := Lib.hid hBn
  have HBb1 := Lib.hid hbn
  clear hBn hbn
  go_region
  clear c1 c0 f1 o1
  generalize (wa1.setCell ⟨w3.heap.size, 1, none⟩ (.int .u32 0)).drew = wb1 at HBLb1 HBb1 ⊢
  clear HBa1 HBLa1
  go_wp2
  rw [rounds_succ]
  have c0 := HBLb1.out.cell 0
  have f0 := HBLb1.out.free 0
  have hBn : Blk (wb1.setCell ⟨w3.heap.size, 0, none⟩ (.int .u32 10)) w3.heap.size (uCells [10, 0]) 140 := HBLb1.out.set 0 _
  have hbn := HBb1.out.setCell (p := ⟨w3.heap.size, 0, none⟩) (Nat.le_refl _) (.int .u32 10)
  have HBLa0 := Lib.hid hBn
  have HBa0 := Lib.hid hbn
  clear hBn hbn
  simp only [uCells, uCell, List.map, List.getElem?_toArray, List.getElem?_cons_zero, List.getElem?_cons_succ] at c0
  go_upto_region 19 with fail
  clear c0 f0
  generalize (wb1.setCell ⟨w3.heap.size, 0, none⟩ (.int .u32 10)) = wa0 at HBLa0 HBa0 ⊢
  go_wp2
  rw [rounds_succ]
  have HFIN := HBLa0
  have HBF := HBa0
  have HCF := Lib.hid (cut_any _ _ _ (HFIN.out.limbs (n := 2) (by unfold Fit; decide) rfl (by decide)))
  rw [show trim [10, 0] = [10] by decide] at HCF
  go_wp2_with fail
  refine HCF.out.mono ?_
  rintro r w9 ⟨rfl, v', rfl, hl'⟩
  have HLL := Lib.hid hl'
  clear hl'
  go_wp2
  exact bodyPost_ret (v := .tuple #[v', .bool true]) (by simp [results, Tryz.results178, go_sem]) rfl ⟨HBF.out, _, rfl, HLL.out⟩

set_option maxRecDepth 100000 in
set_option maxHeartbeats 1000000 in
theorem shl_15_70 (w : World) (v : Value) (h : Limbs w v [15]) :
    Calls Tryz.prog 178 #[v, .int .i64 70] w fun e w' => Below w.heap.size w w' ∧ ∃ v', e = .returned (.tuple #[v', .bool true]) ∧ Limbs w' v' [0, 0, 960] := by
  have HC1 := Lib.hid (cut_any w v [15] h)
  have hmk : (Instr.makeSlice 28 (.int .i64 4) (.int .i64 4)).run Tryz.prog w = .ok (.slice (some ⟨w.heap.size, 0, none⟩) 4 4) (w.alloc (.cells (uCells (List.replicate 4 0)) 140)) := make_nat w 4 (by decide)
  obtain ⟨w1, hw1⟩ : ∃ w1, w1 = w.alloc (.cells (uCells (List.replicate 4 0)) 140) := ⟨_, rfl⟩
  have hb1 : Below w.heap.size w w1 := by rw [hw1]; exact (Below.refl _ _).alloc (Nat.le_refl _) _
  have hB1 : Blk w1 w.heap.size (uCells [0, 0, 0, 0]) 140 := by rw [hw1]; exact Blk.new _ _ _
  rw [← hw1] at hmk
  have HB1 := Lib.hid hb1
  have HBL1 := Lib.hid hB1
  clear h hw1 hb1 hB1
  go_enter Tryz.func178, Tryz.ntmps178
  go_wp2_with fail
  refine HC1.out.mono ?_
  rintro r w2 ⟨rfl, u, rfl, hu⟩
  rw [trim_one 15 (by decide)] at hu
  have hbl : ((blen (val [15]) : Nat) : Int) = 4 := by rw [show val [15] = 15 from rfl, blen_uniq (n := 15) (k := 4) (by decide) (by decide) (by decide)]; rfl
  have hlen := len_any w2 u [15] hu (by decide)
  rw [hbl] at hlen
  have HLEN := Lib.hid hlen
  obtain ⟨b1, o1, k1, rfl, hlt1, hk1, _, hc1⟩ := hu.one
  have d1 := (HB1.out.cell (p := ⟨b1, o1, none⟩) hlt1).trans hc1
  have hcopy : ∀ ty, (Builtin.copy_ #[28, 28] ty #[.slice (some ⟨w2.heap.size, 2, none⟩) 2 2, .slice (some ⟨b1, o1, none⟩) 1 k1]).run Tryz.prog w1 = .ok (.int .i64 1) (w1.setCell ⟨w2.heap.size, 2, none⟩ (.int .u32 15)) := fun ty =>
    run_copy_cells (P := Tryz.prog) w1 28 28 ty 140 w2.heap.size 2 2 2 ⟨b1, o1, none⟩ 1 k1 [.int .u32 15] Tryz.underlying28 size32 rfl (fun j v hj => by
      match j, hj with
      | 0, hj => simp at hj; subst hj; exact d1) (fun j hj => by
      obtain rfl : j = 0 := by simpa using hj
      rw [HBL1.out.cell]; rfl) (fun j hj => HBL1.out.free _) (fun x hx => by simp at hx; subst hx; rfl)
  obtain ⟨w4, hw4⟩ : ∃ w4, w4 = w1.setCell ⟨w2.heap.size, 2, none⟩ (.int .u32 15) := ⟨_, rfl⟩
  rw [← hw4] at hcopy
  have hB4 : Blk w4 w2.heap.size (uCells [0, 0, 15, 0]) 140 := by rw [hw4]; exact HBL1.out.set 2 _
  have hb4 : Below w2.heap.size w2 w4 := by rw [hw4]; exact HB1.out.setCell (Nat.le_refl _) _
  have HB4 := Lib.hid hb4
  have HBL4 := Lib.hid hB4
  clear hu HC1 hlen hbl hc1 d1 hw4 hb4 hB4
  go_wp2_with fail
  refine HLEN.out.mono ?_
  rintro r w3 ⟨rfl, rfl⟩
  have HUP := Lib.hid hmk
  go_upto_region 13 with fail
  refine wp_loop_rounds 5 ?_
  rw [rounds_succ]
  have c3 := HBL4.out.cell 3
  have f3 := HBL4.out.free 3
  have hBn : Blk (w4.setCell ⟨w3.heap.size, 3, none⟩ (.int .u32 0)) w3.heap.size (uCells [0, 0, 15, 0]) 140 := HBL4.out.set 3 _
  have hbn := HB4.out.setCell (p := ⟨w3.heap.size, 3, none⟩) (Nat.le_refl _) (.int .u32 0)
  have HBLa3 := Lib.hid hBn
  have HBa3 := Lib.hid hbn
  clear hBn hbn
  simp only [uCells, uCell, List.map, List.getElem?_toArray, List.getElem?_cons_zero, List.getElem?_cons_succ] at c3
  go_upto_region 18 with fail
  clear c3 f3
  generalize (w4.setCell ⟨w3.heap.size, 3, none⟩ (.int .u32 0)) = wa3 at HBLa3 HBa3 ⊢
  have c3 := HBLa3.out.cell 3
  have c2 := HBLa3.out.cell 2
  have f3 := HBLa3.out.free 3
  simp only [uCells, uCell, List.map, List.getElem?_toArray, List.getElem?_cons_zero, List.getElem?_cons_succ] at c3 c2
  have o3 : bits .or .u32 0 0 = 0 := by decide
  have hBn : Blk (wa3.setCell ⟨w3.heap.size, 3, none⟩ (.int .u32 0)).drew w3.heap.size (uCells [0, 0, 15, 0]) 140 := (HBLa3.out.set 3 _).drew
  have hbn := (HBa3.out.setCell (p := ⟨w3.heap.size, 3, none⟩) (Nat.le_refl _) (.int .u32 0)).drew
  have HBLb3 := Lib.hid hBn
  have HBb3 := Lib.hid hbn
  clear hBn hbn
  go_region
  clear c3 c2 f3 o3
  generalize (wa3.setCell ⟨w3.heap.size, 3, none⟩ (.int .u32 0)).drew = wb3 at HBLb3 HBb3 ⊢
  clear HBa3 HBLa3
  go_wp2
  rw [rounds_succ]
  have c2 := HBLb3.out.cell 2
  have f2 := HBLb3.out.free 2
  have hBn : Blk (wb3.setCell ⟨w3.heap.size, 2, none⟩ (.int .u32 960)) w3.heap.size (uCells [0, 0, 960, 0]) 140 := HBLb3.out.set 2 _
  have hbn := HBb3.out.setCell (p := ⟨w3.heap.size, 2, none⟩) (Nat.le_refl _) (.int .u32 960)
  have HBLa2 := Lib.hid hBn
  have HBa2 := Lib.hid hbn
  clear hBn hbn
  simp only [uCells, uCell, List.map, List.getElem?_toArray, List.getElem?_cons_zero, List.getElem?_cons_succ] at c2
  go_upto_region 18 with fail
  clear c2 f2
  generalize (wb3.setCell ⟨w3.heap.size, 2, none⟩ (.int .u32 960)) = wa2 at HBLa2 HBa2 ⊢
  have c2 := HBLa2.out.cell 2
  have c1 := HBLa2.out.cell 1
  have f2 := HBLa2.out.free 2
  simp only [uCells, uCell, List.map, List.getElem?_toArray, List.getElem?_cons_zero, List.getElem?_cons_succ] at c2 c1
  have o2 : bits .or .u32 960 0 = 960 := by decide
  have hBn : Blk (wa2.setCell ⟨w3.heap.size, 2, none⟩ (.int .u32 960)).drew w3.heap.size (uCells [0, 0, 960, 0]) 140 := (HBLa2.out.set 2 _).drew
  have hbn := (HBa2.out.setCell (p := ⟨w3.heap.size, 2, none⟩) (Nat.le_refl _) (.int .u32 960)).drew
  have HBLb2 := Lib.hid hBn
  have HBb2 := Lib.hid hbn
  clear hBn hbn
  go_region
  clear c2 c1 f2 o2
  generalize (wa2.setCell ⟨w3.heap.size, 2, none⟩ (.int .u32 960)).drew = wb2 at HBLb2 HBb2 ⊢
  clear HBa2 HBLa2
  go_wp2
  rw [rounds_succ]
  have c1 := HBLb2.out.cell 1
  have f1 := HBLb2.out.free 1
  have hBn : Blk (wb2.setCell ⟨w3.heap.size, 1, none⟩ (.int .u32 0)) w3.heap.size (uCells [0, 0, 960, 0]) 140 := HBLb2.out.set 1 _
  have hbn := HBb2.out.setCell (p := ⟨w3.heap.size, 1, none⟩) (Nat.le_refl _) (.int .u32 0)
  have HBLa1 := Lib.hid hBn
  have HBa1 := Lib.hid hbn
  clear hBn hbn
  simp only [uCells, uCell, List.map, List.getElem?_toArray, List.getElem?_cons_zero, List.getElem?_cons_succ] at c1
  go_upto_region 18 with fail
  clear c1 f1
  generalize (wb2.setCell ⟨w3.heap.size, 1, none⟩ (.int .u32 0)) = wa1 at HBLa1 HBa1 ⊢
  have c1 := HBLa1.out.cell 1
  have c0 := HBLa1.out.cell 0
  have f1 := HBLa1.out.free 1
  simp only [uCells, uCell, List.map, List.getElem?_toArray, List.getElem?_cons_zero, List.getElem?_cons_succ] at c1 c0
  have o1 : bits .or .u32 0 0 = 0 := by decide
  have hBn : Blk (wa1.setCell ⟨w3.heap.size, 1, none⟩ (.int .u32 0)).drew w3.heap.size (uCells [0, 0, 960, 0]) 140 := (HBLa1.out.set 1 _).drew
  have hbn := (HBa1.out.setCell (p := ⟨w3.heap.size, 1, none⟩) (Nat.le_refl _) (.int .u32 0)).drew
  have HBLb1 := Lib.hid hBn
  have HBb1 := Lib.hid hbn
  clear hBn hbn
  go_region
  clear c1 c0 f1 o1
  generalize (wa1.setCell ⟨w3.heap.size, 1, none⟩ (.int .u32 0)).drew = wb1 at HBLb1 HBb1 ⊢
  clear HBa1 HBLa1
  go_wp2
  rw [rounds_succ]
  have c0 := HBLb1.out.cell 0
  have f0 := HBLb1.out.free 0
  have hBn : Blk (wb1.setCell ⟨w3.heap.size, 0, none⟩ (.int .u32 0)) w3.heap.size (uCells [0, 0, 960, 0]) 140 := HBLb1.out.set 0 _
  have hbn := HBb1.out.setCell (p := ⟨w3.heap.size, 0, none⟩) (Nat.le_refl _) (.int .u32 0)
  have HBLa0 := Lib.hid hBn
  have HBa0 := Lib.hid hbn
  clear hBn hbn
  simp only [uCells, uCell, List.map, List.getElem?_toArray, List.getElem?_cons_zero, List.getElem?_cons_succ] at c0
  go_upto_region 19 with fail
  clear c0 f0
  generalize (wb1.setCell ⟨w3.heap.size, 0, none⟩ (.int .u32 0)) = wa0 at HBLa0 HBa0 ⊢
  go_wp2
  rw [rounds_succ]
  have HFIN := HBLa0
  have HBF := HBa0
  have HCF := Lib.hid (cut_any _ _ _ (HFIN.out.limbs (n := 4) (by unfold Fit; decide) rfl (by decide)))
  rw [show trim [0, 0, 960, 0] = [0, 0, 960] by decide] at HCF
  go_wp2_with fail
  refine HCF.out.mono ?_
  rintro r w9 ⟨rfl, v', rfl, hl'⟩
  have HLL := Lib.hid hl'
  clear hl'
  go_wp2
  exact bodyPost_ret (v := .tuple #[v', .bool true]) (by simp [results, Tryz.results178, go_sem]) rfl ⟨HBF.out, _, rfl, HLL.out⟩
end Go.Proofs.YtbhfoelnoddlkaaGreatDoor.D

/-
  quot.Pow of 10 to the power of 0 or 1: walked (printed by wip/tools/genj5.py).
-/
namespace Go.Proofs.YtbhfoelnoddlkaaGreatDoor.D
open Go Go.RowKit Limb

/-- Numbers that stand in memory, made since a world. -/
def AllL (W w : World) (L : List (Value × Int)) : Prop := Below W.heap.size W w ∧ ∀ p ∈ L, Limbs w p.1 [p.2.toNat]
theorem AllL.step {W w w' : World} {L : List (Value × Int)} {v : Value} {x : Int} (h : AllL W w L) (hb : Below w.heap.size w w') (hv : Limbs w' v [x.toNat]) : AllL W w' ((v, x) :: L) := by
  refine ⟨h.1.trans (hb.mono h.1.size), fun p hp => ?_⟩
  rcases List.mem_cons.1 hp with rfl | hp
  · exact hv
  · exact (h.2 p hp).below hb
theorem limbs_small (n : Nat) (h0 : 0 < n) (h : n < 4294967296) : limbs n = [n] := by
  rw [limbs_pos (by omega), Nat.mod_eq_of_lt h, Nat.div_eq_of_lt h, limbs_zero]

set_option maxRecDepth 100000 in
set_option maxHeartbeats 1000000 in
theorem pow_0 (w : World) (hG : GW w) :
    Calls Tryz.prog 176 #[.int .u32 10, .int .i64 0] w fun e w' => Below w.heap.size w w' ∧ ∃ v', e = .returned (.tuple #[v', .bool true]) ∧ Limbs w' v' [1] := by
  have HL32 : Hid (Calls Tryz.prog 131 #[.int .u32 10] w fun e w' => e = .returned (.int .i64 4) ∧ w' = w) := Lib.hid (by
    have h := Tryz.bits_Len32 10 w (by decide) (by decide)
    rw [show ((Lib.bitLen (Int.toNat 10) : Nat) : Int) = 4 by decide +kernel] at h
    exact h)
  have HCTZ := Lib.hid (ctz10 w hG)
  have HF1 : Hid (∀ w, Calls Tryz.prog 144 #[.int .u64 1] w fun e w' => Below w.heap.size w w' ∧ ∃ v, e = .returned v ∧ Limbs w' v [1]) := Lib.hid (fun w => (from_any w 1 (by decide)).mono fun e w' ⟨a, v, b, c⟩ => ⟨a, v, b, by rw [limbs_small 1 (by decide) (by decide)] at c; exact c⟩)
  have HF5 : Hid (∀ w, Calls Tryz.prog 144 #[.int .u64 5] w fun e w' => Below w.heap.size w w' ∧ ∃ v, e = .returned v ∧ Limbs w' v [5]) := Lib.hid (fun w => (from_any w 5 (by decide)).mono fun e w' ⟨a, v, b, c⟩ => ⟨a, v, b, by rw [limbs_small 5 (by decide) (by decide)] at c; exact c⟩)
  clear hG
  go_enter Tryz.func176, Tryz.ntmps176
  go_wp2_with fail
  refine HL32.out.mono ?_
  rintro r w1 ⟨rfl, rfl⟩
  go_wp2_with fail
  refine HCTZ.out.mono ?_
  rintro r w2 ⟨rfl, rfl⟩
  go_upto_region 7 with fail
  have h5 : IntKind.u32.wrap 5 = 5 := by decide
  have HFI : Hid (∀ w (x : Int) (L : List (Value × Int)), AllL w2 w L → (x = 1 ∨ x = 5) → Calls Tryz.prog 144 #[.int .u64 x] w fun e w' => ∃ v, e = .returned v ∧ AllL w2 w' ((v, x) :: L)) := Lib.hid (by
    intro w x L hL hx
    rcases hx with rfl | rfl
    · exact (HF1.out w).mono fun e w' ⟨a, v, b, c⟩ => ⟨v, b, hL.step a c⟩
    · exact (HF5.out w).mono fun e w' ⟨a, v, b, c⟩ => ⟨v, b, hL.step a c⟩)
  have ha0 : AllL w2 w2.drew [] := ⟨Below.drew (Below.refl _ _), fun p hp => by cases hp⟩
  clear HF1 HF5 HL32 HCTZ
  go_region_with (go_at_call 144; go_must (refine (HFI.out _ _ _ (by assumption) (by decide)).mono ?_; rintro e w9 ⟨v9, rfl, ha9⟩))
  rw [show IntKind.u64.wrap 5 = 5 by decide] at ha9
  have HL5 := Lib.hid (ha9.2 _ (List.Mem.head _))
  have HL1 := Lib.hid (ha9.2 _ (List.Mem.tail _ (List.Mem.head _)))
  have HBB := Lib.hid ha9.1
  clear ha9 ha0 HFI
  go_wp2
  refine wp_loop_rounds 1 ?_
  rw [rounds_succ]
  go_wp2_with fail
  refine (shl_1_0 _ _ HL1.out).mono ?_
  rintro r w7 ⟨hb7, v7, rfl, hl7⟩
  have HB7 := Lib.hid (HBB.out.trans (hb7.mono HBB.out.size))
  have HL7 := Lib.hid hl7
  clear hb7 hl7
  go_wp2
  exact bodyPost_ret (v := .tuple #[v7, .bool true]) (by simp [results, Tryz.results176, go_sem]) rfl ⟨HB7.out, _, rfl, HL7.out⟩

set_option maxRecDepth 100000 in
set_option maxHeartbeats 1000000 in
theorem pow_1 (w : World) (hG : GW w) :
    Calls Tryz.prog 176 #[.int .u32 10, .int .i64 1] w fun e w' => Below w.heap.size w w' ∧ ∃ v', e = .returned (.tuple #[v', .bool true]) ∧ Limbs w' v' [10] := by
  have HL32 : Hid (Calls Tryz.prog 131 #[.int .u32 10] w fun e w' => e = .returned (.int .i64 4) ∧ w' = w) := Lib.hid (by
    have h := Tryz.bits_Len32 10 w (by decide) (by decide)
    rw [show ((Lib.bitLen (Int.toNat 10) : Nat) : Int) = 4 by decide +kernel] at h
    exact h)
  have HCTZ := Lib.hid (ctz10 w hG)
  have HF1 : Hid (∀ w, Calls Tryz.prog 144 #[.int .u64 1] w fun e w' => Below w.heap.size w w' ∧ ∃ v, e = .returned v ∧ Limbs w' v [1]) := Lib.hid (fun w => (from_any w 1 (by decide)).mono fun e w' ⟨a, v, b, c⟩ => ⟨a, v, b, by rw [limbs_small 1 (by decide) (by decide)] at c; exact c⟩)
  have HF5 : Hid (∀ w, Calls Tryz.prog 144 #[.int .u64 5] w fun e w' => Below w.heap.size w w' ∧ ∃ v, e = .returned v ∧ Limbs w' v [5]) := Lib.hid (fun w => (from_any w 5 (by decide)).mono fun e w' ⟨a, v, b, c⟩ => ⟨a, v, b, by rw [limbs_small 5 (by decide) (by decide)] at c; exact c⟩)
  clear hG
  go_enter Tryz.func176, Tryz.ntmps176
  go_wp2_with fail
  refine HL32.out.mono ?_
  rintro r w1 ⟨rfl, rfl⟩
  go_wp2_with fail
  refine HCTZ.out.mono ?_
  rintro r w2 ⟨rfl, rfl⟩
  go_upto_region 7 with fail
  have h5 : IntKind.u32.wrap 5 = 5 := by decide
  have HFI : Hid (∀ w (x : Int) (L : List (Value × Int)), AllL w2 w L → (x = 1 ∨ x = 5) → Calls Tryz.prog 144 #[.int .u64 x] w fun e w' => ∃ v, e = .returned v ∧ AllL w2 w' ((v, x) :: L)) := Lib.hid (by
    intro w x L hL hx
    rcases hx with rfl | rfl
    · exact (HF1.out w).mono fun e w' ⟨a, v, b, c⟩ => ⟨v, b, hL.step a c⟩
    · exact (HF5.out w).mono fun e w' ⟨a, v, b, c⟩ => ⟨v, b, hL.step a c⟩)
  have ha0 : AllL w2 w2.drew [] := ⟨Below.drew (Below.refl _ _), fun p hp => by cases hp⟩
  clear HF1 HF5 HL32 HCTZ
  go_region_with (go_at_call 144; go_must (refine (HFI.out _ _ _ (by assumption) (by decide)).mono ?_; rintro e w9 ⟨v9, rfl, ha9⟩))
  rw [show IntKind.u64.wrap 5 = 5 by decide] at ha9
  have HL5 := Lib.hid (ha9.2 _ (List.Mem.head _))
  have HL1 := Lib.hid (ha9.2 _ (List.Mem.tail _ (List.Mem.head _)))
  have HBB := Lib.hid ha9.1
  clear ha9 ha0 HFI
  go_wp2
  refine wp_loop_rounds 2 ?_
  rw [rounds_succ]
  go_wp2_with fail
  refine (mul_one _ _ _ 1 5 HL1.out HL5.out (by decide) (by decide) (by decide)).mono ?_
  rintro r w6 ⟨hb6, v6, rfl, hl6⟩
  have HL6 := Lib.hid hl6
  have HB6 := Lib.hid (HBB.out.trans (hb6.mono HBB.out.size))
  clear hb6 hl6 HBB
  have HBB := HB6
  go_wp2
  rw [rounds_succ]
  go_wp2_with fail
  refine (shl_5_1 _ _ HL6.out).mono ?_
  rintro r w7 ⟨hb7, v7, rfl, hl7⟩
  have HB7 := Lib.hid (HBB.out.trans (hb7.mono HBB.out.size))
  have HL7 := Lib.hid hl7
  clear hb7 hl7
  go_wp2
  exact bodyPost_ret (v := .tuple #[v7, .bool true]) (by simp [results, Tryz.results176, go_sem]) rfl ⟨HB7.out, _, rfl, HL7.out⟩
end Go.Proofs.YtbhfoelnoddlkaaGreatDoor.D

