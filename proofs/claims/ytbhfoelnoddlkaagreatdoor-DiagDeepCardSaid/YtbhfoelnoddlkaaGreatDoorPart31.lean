/-
  Of the proof that the law DiagDeep answers true at every row of bytes: a part, without conditions of its own.
-/
import Derived.Test.YtbhfoelnoddlkaaGreatDoorPart30
import Derived.Test.YtbhfoelnoddlkaaGreatDoorPart04
import Derived.Test.YtbhfoelnoddlkaaGreatDoorPart19
import Derived.Test.YtbhfoelnoddlkaaGreatDoorPart20
import Derived.Lib.ConvBytes
set_option linter.unusedVariables false
set_option linter.unusedSimpArgs false
/-
  shortest.Digits at one and a half: walked.
-/
namespace Go.Proofs.YtbhfoelnoddlkaaGreatDoor.D
open Go Go.RowKit Limb

set_option maxRecDepth 100000 in
set_option maxHeartbeats 1000000 in
theorem digits_half (w : World) (hG : GW w) : Calls Tryz.prog 95 #[.int .u64 half3] w fun e w' => e = .returned (.tuple #[.agg #[.bool false, .string ⟨#[49, 53]⟩, .int .i64 1], .bool true]) ∧ Below w.heap.size w w' := by
  obtain ⟨w1, hw1⟩ : ∃ w1, w1 = w.alloc (.cells #[.bool false, .string ⟨#[]⟩, .int .i64 0] 156) := ⟨_, rfl⟩
  have hb1 : Below w.heap.size w w1 := by rw [hw1]; exact (Below.refl _ _).alloc (Nat.le_refl _) _
  have hB1 : Blk w1 w.heap.size #[.bool false, .string ⟨#[]⟩, .int .i64 0] 156 := by rw [hw1]; exact Blk.new _ _ _
  have HG1 := Lib.hid (hG.step hb1)
  have HB1 := Lib.hid hb1
  have HBL1 := Lib.hid hB1
  have HW1 := Lib.hid hw1
  have n1 : bits .and .u64 half3 9223372036854775808 = 0 := norm_half3.1
  have n2 : bits .andNot .u64 half3 9223372036854775808 = half3 := by unfold half3; decide
  have x1 : bits BinOp.xor IntKind.u64 IntKind.u64.max 0 = 18446744073709551615 := by decide
  have x2 : IntKind.u64.wrap (18446744073709551615 - 18446744073709551615 / 2) = 9223372036854775808 := by decide
  have x3 : IntKind.u64.wrap 9223372036854775808 = 9223372036854775808 := by decide
  clear hG hb1 hB1 hw1
  have HCL := Lib.hid (class_norm w1 HG1.out.s half3 norm_half3)
  go_enter Tryz.func95, Tryz.ntmps95
  go_wp2_with fail
  change Calls _ _ _ (w.alloc (.cells #[.bool false, .string ⟨#[]⟩, .int .i64 0] 156)) _
  rw [← HW1.out]
  refine HCL.out.mono ?_
  rintro e w2 ⟨rfl, hb2⟩
  have HB2 := Lib.hid (HB1.out.trans (hb2.mono HB1.out.size))
  have HBL2 := Lib.hid (HBL1.out.below hb2 HBL1.out.lt)
  have HG2 := Lib.hid (HG1.out.step hb2)
  clear hb2 HCL HB1 HBL1 HG1
  go_wp2_with fail
  refine (parts_15 w2).mono ?_
  rintro e w3 ⟨rfl, rfl⟩
  have HST := Lib.hid (set_any w3 6755399441055744 0 52 (-52) (by decide) (by decide) (Or.inl rfl) (by decide) (by decide))
  rw [show 6755399441055744 * 2 ^ (1 + 0) = 13510798882111488 by decide, show 1 * 2 ^ (1 + 52) = 9007199254740992 by decide, show (6755399441055744 % 2 == 0) = true by decide, show 1 * 2 ^ 0 = 1 by decide] at HST
  have HST : Hid (Calls Tryz.prog 142 #[.int .u64 6755399441055744, .int .i64 (-52), .bool false] w3 fun r w' => Below w3.heap.size w3 w' ∧ ∃ R, r = .returned (.pointer (some ⟨R, 0, none⟩)) ∧ w3.heap.size ≤ R ∧ Rt w' R 13510798882111488 9007199254740992 1 1 true) := HST
  go_wp2_with fail
  refine HST.out.mono ?_
  rintro e w4 ⟨hb4, R, rfl, hR, hRt⟩
  have HB4 := Lib.hid (HB2.out.trans (hb4.mono HB2.out.size))
  have HBL4 := Lib.hid (HBL2.out.below hb4 HBL2.out.lt)
  have HG4 := Lib.hid (HG2.out.step hb4)
  have HR4 := Lib.hid hRt
  have HRW : Hid (w.heap.size < R) := Lib.hid (by have := HBL2.out.lt; omega)
  clear hb4 hR hRt HST HB2 HBL2 HG2
  have HFR := Lib.hid (from_any w4 6755399441055744 (by decide))
  have HFR : Hid (Calls Tryz.prog 144 #[.int .u64 6755399441055744] w4 fun e w' => Below w4.heap.size w4 w' ∧ ∃ v', e = .returned v' ∧ Limbs w' v' (limbs 6755399441055744)) := HFR
  go_wp2_with fail
  refine HFR.out.mono ?_
  rintro e w5 ⟨hb5, v5, rfl, hv5⟩
  have HB5 := Lib.hid (HB4.out.trans (hb5.mono HB4.out.size))
  have HBL5 := Lib.hid (HBL4.out.below hb5 HBL4.out.lt)
  have HG5 := Lib.hid (HG4.out.step hb5)
  have HR5 := Lib.hid (HR4.out.below hb5)
  have hlen := len_any w5 v5 _ hv5 (len_le_64 (by decide) _ (by decide))
  rw [val_limbs, blen_uniq (n := 6755399441055744) (k := 53) (by decide) (by decide) (by decide)] at hlen
  have hlen : Calls Tryz.prog 90 #[v5] w5 fun e w' => w' = w5 ∧ e = .returned (.int .i64 53) := hlen
  have HLEN := Lib.hid hlen
  clear hb5 hv5 hlen HFR HB4 HBL4 HG4 HR4
  go_wp2_with fail
  refine HLEN.out.mono ?_
  rintro e w6 ⟨rfl, rfl⟩
  have HSC := Lib.hid (scaled_15 w6 HG5.out R HR5.out)
  go_wp2_with fail
  refine HSC.out.mono ?_
  rintro e w7 ⟨rfl, hR7, hE7⟩
  have HB7 := Lib.hid (HB5.out.trans (hE7.below (B' := w.heap.size) HB5.out.size (fun k hk => by have := HRW.out; omega)))
  have HBL7 := Lib.hid (hE7.blk HBL5.out HBL5.out.lt (by have := HRW.out; omega))
  have HR7 := Lib.hid hR7
  clear hR7 hE7 HSC HLEN HB5 HBL5 HG5 HR5
  obtain ⟨w8, hw8⟩ : ∃ w8, w8 = w7.alloc (.cells #[.bool false, .string ⟨#[]⟩, .int .i64 1] 156) := ⟨_, rfl⟩
  have hb8 : Below w7.heap.size w7 w8 := by rw [hw8]; exact (Below.refl _ _).alloc (Nat.le_refl _) _
  have hB8 : Blk w8 w7.heap.size #[.bool false, .string ⟨#[]⟩, .int .i64 1] 156 := by rw [hw8]; exact Blk.new _ _ _
  have HW8 := Lib.hid hw8
  have HQ8 := Lib.hid hB8
  have HR8 := Lib.hid (HR7.out.below hb8)
  have HB8 := Lib.hid (HB7.out.trans (hb8.mono HB7.out.size))
  have HBL8 := Lib.hid (HBL7.out.below hb8 HBL7.out.lt)
  have HQW : Hid (w.heap.size < w7.heap.size ∧ R < w7.heap.size) := Lib.hid ⟨HBL7.out.lt, HR7.out.lt⟩
  have HDG := Lib.hid (digits_15 w8 R HR8.out)
  clear hw8 hb8 hB8 HR7 HB7 HBL7
  go_wp2_with fail
  change Calls _ _ _ (w7.alloc (.cells #[.bool false, .string ⟨#[]⟩, .int .i64 1] 156)) _
  rw [← HW8.out]
  refine HDG.out.mono ?_
  rintro e w9 ⟨hE9, g, cap, rfl, hg9, hO9⟩
  have HB9 := Lib.hid (HB8.out.trans (hE9.below (B' := w.heap.size) HB8.out.size (fun k hk => by have := HRW.out; omega)))
  have HBL9 := Lib.hid (hE9.blk HBL8.out HBL8.out.lt (by have := HRW.out; omega))
  have HQ9 := Lib.hid (hE9.blk HQ8.out HQ8.out.lt (by have := HQW.out; omega))
  have hrow : ∃ cur, Blk w9 g cur 5 ∧ cur[0]? = some (.int .u8 1) ∧ cur[1]? = some (.int .u8 5) := by
    obtain ⟨_, ⟨h0, _⟩ | ⟨g', cap', cur, hv, _, hc, _, _, _, ht⟩⟩ := hO9
    · simp at h0
    · simp only [Value.slice.injEq, Option.some.injEq, Addr.mk.injEq] at hv
      obtain ⟨⟨rfl, -⟩, -, -⟩ := hv
      have h0 : (cur.toList.take 2)[0]? = some (.int .u8 1) := by rw [show (2 : Nat) = ([1, 5] : List UInt8).length * 1 from rfl, ht]; rfl
      have h1 : (cur.toList.take 2)[1]? = some (.int .u8 5) := by rw [show (2 : Nat) = ([1, 5] : List UInt8).length * 1 from rfl, ht]; rfl
      rw [List.getElem?_take, if_pos (by decide), Array.getElem?_toList] at h0 h1
      exact ⟨cur, hc, h0, h1⟩
  obtain ⟨cur, hcur, hc0, hc1⟩ := hrow
  have HGW : Hid (w.heap.size < g ∧ w7.heap.size < g) := Lib.hid (by have := HQ8.out.lt; have := HQW.out; omega)
  have HCU := Lib.hid hcur
  have HC1 := Lib.hid hc1
  generalize w7.heap.size = Q at HQ9 HGW HQW ⊢
  clear HW8 HQ8 HR8 HB8 HBL8 HDG hE9 hg9 hO9 hcur hc1
  go_wp2
  refine wp_loop_rounds 3 ?_
  rw [rounds_succ]
  have k0 : w9.cell? ⟨g, 0, none⟩ = some (.int .u8 1) := by rw [HCU.out.cell]; exact hc0
  have f0 := HCU.out.free 0
  have HCA := Lib.hid (HCU.out.set 0 (.int .u8 49))
  have HBA := Lib.hid (HB9.out.setCell (p := ⟨g, 0, none⟩) (Nat.le_of_lt HGW.out.1) (.int .u8 49))
  have HLA := Lib.hid (HBL9.out.set_other ⟨g, 0, none⟩ (.int .u8 49) (by have := HGW.out; simp; omega))
  have HQA := Lib.hid (HQ9.out.set_other ⟨g, 0, none⟩ (.int .u8 49) (by have := HGW.out; simp; omega))
  go_wp2
  clear k0 f0
  generalize w9.setCell ⟨g, 0, none⟩ (.int .u8 49) = wa at HCA HBA HLA HQA ⊢
  rw [rounds_succ]
  have k1 : wa.cell? ⟨g, 1, none⟩ = some (.int .u8 5) := by rw [HCA.out.cell, Array.getElem?_setIfInBounds_ne (by decide)]; exact HC1.out
  have f1 := HCA.out.free 1
  have HCB := Lib.hid (HCA.out.set 1 (.int .u8 53))
  have HBB := Lib.hid (HBA.out.setCell (p := ⟨g, 1, none⟩) (Nat.le_of_lt HGW.out.1) (.int .u8 53))
  have HLB := Lib.hid (HLA.out.set_other ⟨g, 1, none⟩ (.int .u8 53) (by have := HGW.out; simp; omega))
  have HQB := Lib.hid (HQA.out.set_other ⟨g, 1, none⟩ (.int .u8 53) (by have := HGW.out; simp; omega))
  go_wp2
  clear k1 f1
  generalize wa.setCell ⟨g, 1, none⟩ (.int .u8 53) = wb at HCB HBB HLB HQB ⊢
  rw [rounds_succ]
  have hcv : (convert 22 9 (.slice (some ⟨g, 0, none⟩) 2 cap)).run Tryz.prog wb = .ok (.string ⟨#[49, 53]⟩) wb := conv_bytes wb g 0 2 cap [49, 53] rfl (fun i hi => by
    rcases (by omega : i = 0 ∨ i = 1) with rfl | rfl
    · rw [HCB.out.cell, Array.getElem?_setIfInBounds_ne (by decide), Array.getElem?_setIfInBounds_self_of_lt (Array.getElem?_eq_some_iff.1 hc0).1]; rfl
    · rw [HCB.out.cell, Array.getElem?_setIfInBounds_self_of_lt (by rw [Array.size_setIfInBounds]; exact (Array.getElem?_eq_some_iff.1 HC1.out).1)]; rfl)
  have q1 : wb.cell? ⟨Q, 1, none⟩ = some (.string ⟨#[]⟩) := HQB.out.cell 1
  have q1f := HQB.out.free 1
  have HQC := Lib.hid (HQB.out.set 1 (.string ⟨#[49, 53]⟩))
  have HBC := Lib.hid (HBB.out.setCell (p := ⟨Q, 1, none⟩) (Nat.le_of_lt HQW.out.1) (.string ⟨#[49, 53]⟩))
  have HLC := Lib.hid (HLB.out.set_other ⟨Q, 1, none⟩ (.string ⟨#[49, 53]⟩) (by have := HQW.out; simp; omega))
  go_upto_region 18 with fail
  clear q1 q1f hcv
  generalize wb.setCell ⟨Q, 1, none⟩ (.string ⟨#[49, 53]⟩) = wc at HQC HBC HLC ⊢
  have z0 : wc.cell? ⟨Q, 0, none⟩ = some (.bool false) := HQC.out.cell 0
  have z1 : wc.cell? ⟨Q, 1, none⟩ = some (.string ⟨#[49, 53]⟩) := HQC.out.cell 1
  have z2 : wc.cell? ⟨Q, 2, none⟩ = some (.int .i64 1) := HQC.out.cell 2
  have y0 : wc.cell? ⟨w.heap.size, 0, none⟩ = some (.bool false) := HLC.out.cell 0
  have y1 : wc.cell? ⟨w.heap.size, 1, none⟩ = some (.string ⟨#[]⟩) := HLC.out.cell 1
  have y2 : wc.cell? ⟨w.heap.size, 2, none⟩ = some (.int .i64 0) := HLC.out.cell 2
  have g0 := HLC.out.free 0
  have g1 := HLC.out.free 1
  have g2 := HLC.out.free 2
  go_wp2
  have HLD := Lib.hid (((HLC.out.set 0 (.bool false)).set 1 (.string ⟨#[49, 53]⟩)).set 2 (.int .i64 1))
  have HBD := Lib.hid (((HBC.out.setCell (p := ⟨w.heap.size, 0, none⟩) (Nat.le_refl _) (.bool false)).setCell (p := ⟨w.heap.size, 1, none⟩) (Nat.le_refl _) (.string ⟨#[49, 53]⟩)).setCell (p := ⟨w.heap.size, 2, none⟩) (Nat.le_refl _) (.int .i64 1))
  clear z0 z1 z2 y0 y1 y2 g0 g1 g2
  generalize ((wc.setCell ⟨w.heap.size, 0, none⟩ (.bool false)).setCell ⟨w.heap.size, 1, none⟩ (.string ⟨#[49, 53]⟩)).setCell ⟨w.heap.size, 2, none⟩ (.int .i64 1) = wd at HLD HBD ⊢
  have y0 : wd.cell? ⟨w.heap.size, 0, none⟩ = some (.bool false) := HLD.out.cell 0
  have y1 : wd.cell? ⟨w.heap.size, 1, none⟩ = some (.string ⟨#[49, 53]⟩) := HLD.out.cell 1
  have y2 : wd.cell? ⟨w.heap.size, 2, none⟩ = some (.int .i64 1) := HLD.out.cell 2
  exact bodyPost_ret (v := .tuple #[.agg #[.bool false, .string ⟨#[49, 53]⟩, .int .i64 1], .bool true]) (by simp [results, Tryz.results95, go_sem, y0, y1, y2]) rfl ⟨rfl, HBD.out⟩
end Go.Proofs.YtbhfoelnoddlkaaGreatDoor.D

/-
  ecma.digit, Layout of "15" with the point behind one digit, Show of one and a half: walked.
-/
namespace Go.Proofs.YtbhfoelnoddlkaaGreatDoor.D
open Go Go.RowKit Limb

set_option maxRecDepth 100000 in
theorem edigit_49 (w : World) : Calls Tryz.prog 146 #[.int .u8 49] w fun e w' => e = .returned (.bool true) ∧ w' = w := by
  go_enter Tryz.func146, Tryz.ntmps146
  go_wp2
  go_ret
  exact ⟨rfl, rfl⟩
set_option maxRecDepth 100000 in
theorem edigit_53 (w : World) : Calls Tryz.prog 146 #[.int .u8 53] w fun e w' => e = .returned (.bool true) ∧ w' = w := by
  go_enter Tryz.func146, Tryz.ntmps146
  go_wp2
  go_ret
  exact ⟨rfl, rfl⟩
set_option maxRecDepth 100000 in
set_option maxHeartbeats 1000000 in
theorem layout_15 (w : World) : Calls Tryz.prog 96 #[.agg #[.bool false, .string ⟨#[49, 53]⟩, .int .i64 1]] w fun e w' => e = .returned (.tuple #[.string (strL [49, 46, 53]), .bool true]) ∧ Below w.heap.size w w' := by
  obtain ⟨w1, hw1⟩ : ∃ w1, w1 = w.alloc (.cells #[.bool false, .string ⟨#[49, 53]⟩, .int .i64 1] 156) := ⟨_, rfl⟩
  have hb1 : Below w.heap.size w w1 := by rw [hw1]; exact (Below.refl _ _).alloc (Nat.le_refl _) _
  have hB1 : Blk w1 w.heap.size #[.bool false, .string ⟨#[49, 53]⟩, .int .i64 1] 156 := by rw [hw1]; exact Blk.new _ _ _
  have HB1 := Lib.hid hb1
  have HL1 := Lib.hid hB1
  have HW1 := Lib.hid hw1
  have c1 : w1.cell? ⟨w.heap.size, 1, none⟩ = some (.string ⟨#[49, 53]⟩) := hB1.cell 1
  have c2 : w1.cell? ⟨w.heap.size, 2, none⟩ = some (.int .i64 1) := hB1.cell 2
  clear hb1 hB1 hw1
  go_enter Tryz.func96, Tryz.ntmps96
  go_upto_region 1 with fail
  change Code.wp _ _ _ _ (w.alloc (.cells #[.bool false, .string ⟨#[49, 53]⟩, .int .i64 1] 156))
  rw [← HW1.out]
  go_quiet (fail)
  have HB2 := Lib.hid (below_drewN HB1.out nq)
  have HL2 := Lib.hid (HL1.out.drewN nq)
  clear c1 c2 HB1 HL1 HW1
  generalize w1.drewN nq = w2 at HB2 HL2 ⊢
  have c0 : w2.cell? ⟨w.heap.size, 0, none⟩ = some (.bool false) := HL2.out.cell 0
  have c1 : w2.cell? ⟨w.heap.size, 1, none⟩ = some (.string ⟨#[49, 53]⟩) := HL2.out.cell 1
  have c2 : w2.cell? ⟨w.heap.size, 2, none⟩ = some (.int .i64 1) := HL2.out.cell 2
  go_wp2
  refine wp_loop_rounds 3 ?_
  rw [rounds_succ]
  go_wp2_with fail
  refine (edigit_49 w2).mono ?_
  rintro e w3 ⟨rfl, rfl⟩
  go_wp2
  rw [rounds_succ]
  go_wp2_with fail
  refine (edigit_53 w3).mono ?_
  rintro e w4 ⟨rfl, rfl⟩
  go_wp2
  rw [rounds_succ]
  have hb5 : Below w4.heap.size w4 (w4.alloc (.cells #[.pointer none, .slice none 0 0] 65)) := (Below.refl _ _).alloc (Nat.le_refl _) _
  have hI5 : BIs 65 [] w4.heap.size w4.heap.size [] (w4.alloc (.cells #[.pointer none, .slice none 0 0] 65)) := .inl ⟨Nat.le_refl _, _, Blk.new _ _ _, World.ownsRow_nil _ _ _ _, by simp [Value.ownBlock]⟩
  have HB5 := Lib.hid (HB2.out.trans (hb5.mono HB2.out.size))
  have HL5 := Lib.hid (HL2.out.below hb5 HL2.out.lt)
  have HI5 := Lib.hid hI5
  have HS4 : Hid (w4.heap.size ≤ (w4.alloc (.cells #[.pointer none, .slice none 0 0] 65)).heap.size) := Lib.hid hb5.size
  have HLT := Lib.hid HL2.out.lt
  go_upto_region 11 with fail
  change Code.wp _ _ _ _ (w4.alloc (.cells #[.pointer none, .slice none 0 0] 65))
  clear c0 c1 c2 hb5 hI5 HB2 HL2
  generalize w4.alloc (.cells #[.pointer none, .slice none 0 0] 65) = w5 at HB5 HL5 HI5 HS4 ⊢
  generalize w4.heap.size = b at HI5 HS4 HLT ⊢
  have c0 : w5.cell? ⟨w.heap.size, 0, none⟩ = some (.bool false) := HL5.out.cell 0
  have c1 : w5.cell? ⟨w.heap.size, 1, none⟩ = some (.string ⟨#[49, 53]⟩) := HL5.out.cell 1
  go_upto_region 23 with fail
  have HWS : Hid (∀ x, x = strL [49, 46, 53] → Calls Tryz.prog 84 #[.pointer (some ⟨b, 0, none⟩), .string x] w5.drew fun e w' => e = .returned (.tuple #[.int .i64 3, .nilIface]) ∧ BIs 65 [] b b [49, 46, 53] w' ∧ Wk b b w5.drew w') := Lib.hid (fun x hx => by
    subst hx
    refine (wstr_any bty_b b b [] [49, 46, 53] w5.drew (HI5.out.below (below_drewN (Below.refl w5.heap.size w5) 1)) (by decide) HS4.out).mono ?_
    rintro e w' ⟨rfl, h1, h2⟩
    exact ⟨rfl, .inr h1, h2⟩)
  go_region_with (go_at_call 84; go_must (refine (HWS.out _ (by rfl)).mono ?_; rintro e w9 ⟨rfl, hI9, hk9⟩))
  all_goals (
    have HBS := Lib.hid (bstr_any b b [49, 46, 53] w9 (hI9.has (by simp)))
    have HB9 := Lib.hid ((below_drewN HB5.out 1).trans (hk9.1.mono (Nat.le_of_lt HLT.out)))
    clear hI9 hk9 HWS c0 c1
    go_wp2_with fail
    refine HBS.out.mono ?_
    rintro e wa ⟨rfl, _, hba⟩
    have HBa := Lib.hid (HB9.out.trans (hba.mono (Nat.le_of_lt HLT.out)))
    clear hba
    go_wp2
    go_ret2
    exact ⟨rfl, HBa.out⟩)

set_option maxRecDepth 100000 in
set_option maxHeartbeats 1000000 in
theorem eshow_half (w : World) (hG : GW w) : Calls Tryz.prog 48 #[.int .u64 half3] w fun e w' => e = .returned (.string (strL [49, 46, 53])) ∧ Below w.heap.size w w' := by
  have HCL := Lib.hid (class_norm w hG.s half3 norm_half3)
  have HG := Lib.hid hG
  clear hG
  go_enter Tryz.func48, Tryz.ntmps48
  go_wp2_with fail
  refine HCL.out.mono ?_
  rintro e w1 ⟨rfl, hb1⟩
  have HB1 := Lib.hid hb1
  have HDG := Lib.hid (digits_half w1 (HG.out.step hb1))
  clear hb1 HCL HG
  go_wp2_with fail
  refine HDG.out.mono ?_
  rintro e w2 ⟨rfl, hb2⟩
  have HB2 := Lib.hid (HB1.out.trans (hb2.mono HB1.out.size))
  clear hb2 HB1 HDG
  obtain ⟨w3, hw3⟩ : ∃ w3, w3 = w2.alloc (.cells #[.bool false, .string ⟨#[49, 53]⟩, .int .i64 1] 156) := ⟨_, rfl⟩
  have HB3 : Hid (Below w.heap.size w w3) := Lib.hid (by rw [hw3]; exact HB2.out.alloc HB2.out.size _)
  have HW3 := Lib.hid hw3
  have HLY := Lib.hid (layout_15 w3)
  clear hw3 HB2
  go_wp2_with fail
  change Calls _ _ _ (w2.alloc (.cells #[.bool false, .string ⟨#[49, 53]⟩, .int .i64 1] 156)) _
  rw [← HW3.out]
  refine HLY.out.mono ?_
  rintro e w4 ⟨rfl, hb4⟩
  have HB4 := Lib.hid (HB3.out.trans (hb4.mono HB3.out.size))
  clear hb4 HB3 HLY
  go_wp2
  go_ret
  exact ⟨rfl, HB4.out⟩
end Go.Proofs.YtbhfoelnoddlkaaGreatDoor.D

/-
  ecma.Show of one and a half: it stands in AH.
-/

/-
  The writer: value: walked, every shape.
-/
namespace Go.Proofs.YtbhfoelnoddlkaaGreatDoor.D
open Go Go.RowKit Limb

theorem bytesWorld_below (w : World) (s : ByteArray) : Below w.heap.size w (Lib.bytesWorld w 5 s) :=
  ⟨by unfold Lib.bytesWorld World.freeze; split <;> rfl, by unfold Lib.bytesWorld World.freeze; split <;> rfl, by unfold Lib.bytesWorld World.freeze; split <;> rfl, by rw [Lib.bytesWorld_size]; omega, fun k hk => Lib.bytesWorld_at_old w _ s k hk⟩


set_option maxRecDepth 100000 in
set_option maxHeartbeats 1000000 in
theorem wv_null (most : Int) (w : World) (B p : Nat) (L : List UInt8) (hB : B ≤ w.heap.size) (hB2 : 21 < B) (hG : GW w) (hW : Wr B p most L w) (mb : Option Addr) (mn mc : Nat) (bits ext : Int) (text : List UInt8) (kb : Option Addr) (kn kc : Nat) (hm : (((L ++ [110, 117, 108, 108]).length : Nat) : Int) ≤ most) (hl : (L ++ [110, 117, 108, 108]).length ≤ 140737488355328) :
    Calls Tryz.prog 22 #[.pointer (some ⟨p, 0, none⟩), .agg (vCells 1 0 false (.slice mb mn mc) bits ext (strL text) (.slice kb kn kc))] w fun e w' => e = .returned (.tuple #[]) ∧ Wr B p most (L ++ [110, 117, 108, 108]) w' ∧ Wk B p w w' := by
  obtain ⟨w0, hw0⟩ : ∃ w0, w0 = w.alloc (.cells (vCells 1 0 false (.slice mb mn mc) bits ext (strL text) (.slice kb kn kc)) 33) := ⟨_, rfl⟩
  have hb : Below w.heap.size w w0 := by rw [hw0]; exact (Below.refl _ _).alloc (Nat.le_refl _) _
  have hX : Blk w0 w.heap.size (vCells 1 0 false (.slice mb mn mc) bits ext (strL text) (.slice kb kn kc)) 33 := by rw [hw0]; exact Blk.new _ _ _
  have hB0 : B ≤ w0.heap.size := Nat.le_trans hB hb.size
  have hW0 : Wr B p most L w0 := BIs.below hW hb
  have hpX : w.heap.size ≠ p := by have := hW.lt; omega
  have hG0 : GW w0 := hG.step hb
  have HK0 : Hid (Wk B p w w0) := Lib.hid (Wk.of_below hb hB)
  have HP := Lib.hid (put_one B p most L [110, 117, 108, 108] w0 hW0 hm hl hB0)
  have c0 := hX.cell 0
  simp only [vCells, List.getElem?_toArray, List.getElem?_cons_zero, List.getElem?_cons_succ] at c0
  have HX := Lib.hid hX
  have HW0 := Lib.hid hw0
  clear hW hb hX hW0 hw0 hG hG0
  simp only [vCells] at HW0 ⊢
  go_enter Tryz.func22, Tryz.ntmps22
  go_upto_region 1 with fail
  change Code.wp _ _ _ _ (w.alloc (.cells (vCells 1 0 false (.slice mb mn mc) bits ext (strL text) (.slice kb kn kc)) 33))
  simp only [vCells]
  rw [← HW0.out]
  go_wp2_with fail
  refine HP.out.mono ?_
  rintro e w9 ⟨rfl, hw9, hk9⟩
  have HW9 := Lib.hid hw9
  have HK9 := Lib.hid (HK0.out.trans hk9)
  clear hw9 hk9
  go_wp2
  go_end0
  exact ⟨rfl, HW9.out, HK9.out⟩

set_option maxRecDepth 100000 in
set_option maxHeartbeats 1000000 in
theorem wv_int (most : Int) (w : World) (B p : Nat) (L : List UInt8) (hB : B ≤ w.heap.size) (hB2 : 21 < B) (hG : GW w) (hW : Wr B p most L w) (mb : Option Addr) (mn mc : Nat) (bits ext : Int) (text : List UInt8) (kb : Option Addr) (kn kc : Nat) (x : Nat) (h : Limbs w (.slice mb mn mc) (limbs x)) (h1 : 1 ≤ x) (h9 : x < 10) (hm : (((L ++ [dig x]).length : Nat) : Int) ≤ most) (hl : (L ++ [dig x]).length ≤ 140737488355328) :
    Calls Tryz.prog 22 #[.pointer (some ⟨p, 0, none⟩), .agg (vCells 3 0 false (.slice mb mn mc) bits ext (strL text) (.slice kb kn kc))] w fun e w' => e = .returned (.tuple #[]) ∧ Wr B p most (L ++ [dig x]) w' ∧ Wk B p w w' := by
  obtain ⟨w0, hw0⟩ : ∃ w0, w0 = w.alloc (.cells (vCells 3 0 false (.slice mb mn mc) bits ext (strL text) (.slice kb kn kc)) 33) := ⟨_, rfl⟩
  have hb : Below w.heap.size w w0 := by rw [hw0]; exact (Below.refl _ _).alloc (Nat.le_refl _) _
  have hX : Blk w0 w.heap.size (vCells 3 0 false (.slice mb mn mc) bits ext (strL text) (.slice kb kn kc)) 33 := by rw [hw0]; exact Blk.new _ _ _
  have hB0 : B ≤ w0.heap.size := Nat.le_trans hB hb.size
  have hW0 : Wr B p most L w0 := BIs.below hW hb
  have hpX : w.heap.size ≠ p := by have := hW.lt; omega
  have hG0 : GW w0 := hG.step hb
  have HK0 : Hid (Wk B p w w0) := Lib.hid (Wk.of_below hb hB)
  have HN := Lib.hid (numeral_one w0 _ x (h.below hb) h1 h9)
  have HWW := Lib.hid hW0
  clear h
  have c0 := hX.cell 0
  have c2 := hX.cell 2
  have c3 := hX.cell 3
  simp only [vCells, List.getElem?_toArray, List.getElem?_cons_zero, List.getElem?_cons_succ] at c0 c2 c3
  have HX := Lib.hid hX
  have HW0 := Lib.hid hw0
  clear hW hb hX hW0 hw0 hG hG0
  simp only [vCells] at HW0 ⊢
  go_enter Tryz.func22, Tryz.ntmps22
  go_upto_region 1 with fail
  change Code.wp _ _ _ _ (w.alloc (.cells (vCells 3 0 false (.slice mb mn mc) bits ext (strL text) (.slice kb kn kc)) 33))
  simp only [vCells]
  rw [← HW0.out]
  go_wp2_with fail
  refine HN.out.mono ?_
  rintro e w1 ⟨rfl, hb1⟩
  have HP := Lib.hid (put_one B p most L [dig x] w1 (BIs.below HWW.out hb1) hm hl (Nat.le_trans hB0 hb1.size))
  have HK1 := Lib.hid ((Wk.of_below hb1 hB0 : Wk B p w0 w1))
  clear hb1
  go_wp2_with fail
  refine HP.out.mono ?_
  rintro e w9 ⟨rfl, hw9, hk9⟩
  have hk9 := HK1.out.trans hk9
  have HW9 := Lib.hid hw9
  have HK9 := Lib.hid (HK0.out.trans hk9)
  clear hw9 hk9
  go_wp2
  go_end0
  exact ⟨rfl, HW9.out, HK9.out⟩

set_option maxRecDepth 100000 in
set_option maxHeartbeats 1000000 in
theorem wv_half (most : Int) (w : World) (B p : Nat) (L : List UInt8) (hB : B ≤ w.heap.size) (hB2 : 21 < B) (hG : GW w) (hW : Wr B p most L w) (mb : Option Addr) (mn mc : Nat) (ext : Int) (text : List UInt8) (kb : Option Addr) (kn kc : Nat) (hm : (((L ++ [49, 46, 53]).length : Nat) : Int) ≤ most) (hl : (L ++ [49, 46, 53]).length ≤ 140737488355328) :
    Calls Tryz.prog 22 #[.pointer (some ⟨p, 0, none⟩), .agg (vCells 4 0 false (.slice mb mn mc) half3 ext (strL text) (.slice kb kn kc))] w fun e w' => e = .returned (.tuple #[]) ∧ Wr B p most (L ++ [49, 46, 53]) w' ∧ Wk B p w w' := by
  obtain ⟨w0, hw0⟩ : ∃ w0, w0 = w.alloc (.cells (vCells 4 0 false (.slice mb mn mc) half3 ext (strL text) (.slice kb kn kc)) 33) := ⟨_, rfl⟩
  have hb : Below w.heap.size w w0 := by rw [hw0]; exact (Below.refl _ _).alloc (Nat.le_refl _) _
  have hX : Blk w0 w.heap.size (vCells 4 0 false (.slice mb mn mc) half3 ext (strL text) (.slice kb kn kc)) 33 := by rw [hw0]; exact Blk.new _ _ _
  have hB0 : B ≤ w0.heap.size := Nat.le_trans hB hb.size
  have hW0 : Wr B p most L w0 := BIs.below hW hb
  have hpX : w.heap.size ≠ p := by have := hW.lt; omega
  have hG0 : GW w0 := hG.step hb
  have HK0 : Hid (Wk B p w w0) := Lib.hid (Wk.of_below hb hB)
  have HN := Lib.hid (eshow_half w0 hG0)
  have HWW := Lib.hid hW0
  have c0 := hX.cell 0
  have c4 := hX.cell 4
  simp only [vCells, List.getElem?_toArray, List.getElem?_cons_zero, List.getElem?_cons_succ] at c0 c4
  have HX := Lib.hid hX
  have HW0 := Lib.hid hw0
  clear hW hb hX hW0 hw0 hG hG0
  simp only [vCells] at HW0 ⊢
  go_enter Tryz.func22, Tryz.ntmps22
  go_upto_region 1 with fail
  change Code.wp _ _ _ _ (w.alloc (.cells (vCells 4 0 false (.slice mb mn mc) half3 ext (strL text) (.slice kb kn kc)) 33))
  simp only [vCells]
  rw [← HW0.out]
  go_wp2_with fail
  refine HN.out.mono ?_
  rintro e w1 ⟨rfl, hb1⟩
  have HP := Lib.hid (put_one B p most L [49, 46, 53] w1 (BIs.below HWW.out hb1) hm hl (Nat.le_trans hB0 hb1.size))
  have HK1 : Hid (Wk B p w0 w1) := Lib.hid (Wk.of_below hb1 hB0)
  clear hb1
  go_wp2_with fail
  refine HP.out.mono ?_
  rintro e w9 ⟨rfl, hw9, hk9⟩
  have hk9 := HK1.out.trans hk9
  have HW9 := Lib.hid hw9
  have HK9 := Lib.hid (HK0.out.trans hk9)
  clear hw9 hk9
  go_wp2
  go_end0
  exact ⟨rfl, HW9.out, HK9.out⟩

set_option maxRecDepth 100000 in
set_option maxHeartbeats 1000000 in
theorem wv_bytes (most : Int) (w : World) (B p : Nat) (L : List UInt8) (hB : B ≤ w.heap.size) (hB2 : 21 < B) (hG : GW w) (hW : Wr B p most L w) (mb : Option Addr) (mn mc : Nat) (bits ext : Int) (text : List UInt8) (kb : Option Addr) (kn kc : Nat) (h0 : text ≠ []) (ht : text.length ≤ 1048576) (hm : (((L ++ ([104, 39] ++ hexL text ++ [39])).length : Nat) : Int) ≤ most) (hl : (L ++ ([104, 39] ++ hexL text ++ [39])).length ≤ 140737488355328) :
    Calls Tryz.prog 22 #[.pointer (some ⟨p, 0, none⟩), .agg (vCells 6 0 false (.slice mb mn mc) bits ext (strL text) (.slice kb kn kc))] w fun e w' => e = .returned (.tuple #[]) ∧ Wr B p most (L ++ ([104, 39] ++ hexL text ++ [39])) w' ∧ Wk B p w w' := by
  obtain ⟨w0, hw0⟩ : ∃ w0, w0 = w.alloc (.cells (vCells 6 0 false (.slice mb mn mc) bits ext (strL text) (.slice kb kn kc)) 33) := ⟨_, rfl⟩
  have hb : Below w.heap.size w w0 := by rw [hw0]; exact (Below.refl _ _).alloc (Nat.le_refl _) _
  have hX : Blk w0 w.heap.size (vCells 6 0 false (.slice mb mn mc) bits ext (strL text) (.slice kb kn kc)) 33 := by rw [hw0]; exact Blk.new _ _ _
  have hB0 : B ≤ w0.heap.size := Nat.le_trans hB hb.size
  have hW0 : Wr B p most L w0 := BIs.below hW hb
  have hpX : w.heap.size ≠ p := by have := hW.lt; omega
  have hG0 : GW w0 := hG.step hb
  have HK0 : Hid (Wk B p w w0) := Lib.hid (Wk.of_below hb hB)
  have hcv := Lib.run_convert_string_bytes (P := Tryz.prog) w0 9 22 5 (strL text) Tryz.underlying9 Tryz.underlying22 Tryz.underlying5
  have hbb := bytesWorld_below w0 (strL text)
  have HH := Lib.hid (hex_any (Lib.bytesWorld w0 5 (strL text)) w0.heap.size text.length (grownCap w0 (strL text).size 0 5) text rfl h0 ht (by rw [Lib.bytesWorld_size]; omega) (fun i hi => Lib.bytesWorld_cell w0 _ (strL text) i hi))
  have hsz : (strL text).size = text.length := rfl
  rw [hsz] at hcv HH
  have HBB := Lib.hid hbb
  have HWB := Lib.hid (BIs.below hW0 hbb : Wr B p most L _)
  have HKB : Hid (Wk B p w0 (Lib.bytesWorld w0 5 (strL text))) := Lib.hid (Wk.of_below hbb hB0)
  generalize Lib.bytesWorld w0 5 (strL text) = w1 at hcv HH HBB HWB HKB
  generalize grownCap w0 text.length 0 5 = cp at hcv HH
  clear hbb hsz
  have c0 := hX.cell 0
  have c5 := hX.cell 5
  have c6 := hX.cell 6
  simp only [vCells, List.getElem?_toArray, List.getElem?_cons_zero, List.getElem?_cons_succ] at c0 c5 c6
  have HX := Lib.hid hX
  have HW0 := Lib.hid hw0
  clear hW hb hX hW0 hw0 hG hG0
  simp only [vCells] at HW0 ⊢
  go_enter Tryz.func22, Tryz.ntmps22
  go_upto_region 1 with fail
  change Code.wp _ _ _ _ (w.alloc (.cells (vCells 6 0 false (.slice mb mn mc) bits ext (strL text) (.slice kb kn kc)) 33))
  simp only [vCells]
  rw [← HW0.out]
  go_wp2_with fail
  clear hcv
  refine HH.out.mono ?_
  rintro e w2 ⟨rfl, hb2⟩
  have hB1 : B ≤ w1.heap.size := Nat.le_trans hB0 HBB.out.size
  have HP := Lib.hid (put_three B p most L [104, 39] (hexL text) [39] w2 (BIs.below HWB.out hb2) hm hl (Nat.le_trans hB1 hb2.size))
  have HK1 : Hid (Wk B p w0 w2) := Lib.hid (HKB.out.trans (Wk.of_below hb2 hB1))
  clear hb2
  go_wp2_with fail
  refine HP.out.mono ?_
  rintro e w9 ⟨rfl, hw9, hk9⟩
  have hk9 := HK1.out.trans hk9
  have hX9 : w9.heap[w.heap.size]? = w0.heap[w.heap.size]? := hk9.2.2 _ HX.out.lt hpX (fun c' fr' he => by have hx := HX.out; unfold Blk at hx; rw [hx] at he; simp at he)
  have c0 : w9.cell? ⟨w.heap.size, 0, none⟩ = some (.int .i8 6) := by
    have hx := HX.out
    unfold Blk at hx
    rw [hx] at hX9
    rw [Lib.cell_of_heap hX9]; rfl
  have HW9 := Lib.hid hw9
  have HK9 := Lib.hid (HK0.out.trans hk9)
  clear hw9 hk9
  go_wp2
  go_end0
  exact ⟨rfl, HW9.out, HK9.out⟩
end Go.Proofs.YtbhfoelnoddlkaaGreatDoor.D

