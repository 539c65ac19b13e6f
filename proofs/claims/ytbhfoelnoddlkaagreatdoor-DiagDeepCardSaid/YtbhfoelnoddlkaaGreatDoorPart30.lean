/-
  Of the proof that the law DiagDeep answers true at every row of bytes: a part, without conditions of its own.
-/
import Derived.Test.YtbhfoelnoddlkaaGreatDoorPart29
import Derived.Test.YtbhfoelnoddlkaaGreatDoorPart02
import Derived.Test.YtbhfoelnoddlkaaGreatDoorPart01
import Derived.Laws.RangeString
import Derived.Test.YtbhfoelnoddlkaaGreatDoorPart18
set_option linter.unusedVariables false
set_option linter.unusedSimpArgs false
/-
  shortest.shape, parts, scaled at one and a half: walked.
-/
namespace Go.Proofs.YtbhfoelnoddlkaaGreatDoor.D
open Go Go.RowKit Limb

set_option maxRecDepth 100000 in
theorem sshape_any (w : World) : Calls Tryz.prog 196 #[] w fun e w' => e = .returned (.tuple #[.int .i64 52, .int .i64 (-1074)]) ∧ w' = w := by
  have e1 : (bits BinOp.xor IntKind.u64 IntKind.u64.max 0 == 65535) = false := by decide
  have e2 : (bits BinOp.xor IntKind.u64 IntKind.u64.max 0 == 4294967295) = false := by decide
  have e3 : (bits BinOp.xor IntKind.u64 (if IntKind.u64.signed = true then -1 else IntKind.u64.max) 0 == 65535) = false := by decide
  have e4 : (bits BinOp.xor IntKind.u64 (if IntKind.u64.signed = true then -1 else IntKind.u64.max) 0 == 4294967295) = false := by decide
  go_enter Tryz.func196, Tryz.ntmps196
  go_wp2
  go_ret2
  exact ⟨rfl, rfl⟩
set_option maxRecDepth 100000 in
theorem parts_15 (w : World) : Calls Tryz.prog 141 #[.int .u64 half3] w fun e w' => e = .returned (.tuple #[.int .u64 6755399441055744, .int .i64 (-52), .bool false]) ∧ w' = w := by
  unfold half3
  have e1 : bits .and .u64 4609434218613702656 4503599627370495 = 2251799813685248 := by decide
  have e2 : bits .or .u64 2251799813685248 4503599627370496 = 6755399441055744 := by decide
  go_enter Tryz.func141, Tryz.ntmps141
  go_wp2_with fail
  refine (sshape_any w).mono ?_
  rintro e w1 ⟨rfl, rfl⟩
  go_wp2
  exact bodyPost_ret (v := .tuple #[.int .u64 6755399441055744, .int .i64 (-52), .bool false]) (by simp [results, Tryz.results141, go_sem]) rfl ⟨rfl, rfl⟩

theorem len_le_64 {x : Nat} (h : x < 18446744073709551616) (k : Nat) (hk : 2 ≤ k) : (limbs x).length ≤ k := Nat.le_trans (limbs_64 h) hk
/-- The parts may be told by other numbers that are the same. -/
theorem Rt.eq {w : World} {R n d l h n' d' l' h' : Nat} {ev : Bool} (hr : Rt w R n d l h ev) (h1 : n = n') (h2 : d = d') (h3 : l = l') (h4 : h = h') : Rt w R n' d' l' h' ev := by subst h1; subst h2; subst h3; subst h4; exact hr
theorem Rt.lt {w : World} {R n d l h : Nat} {ev : Bool} (hr : Rt w R n d l h ev) : R < w.heap.size := by obtain ⟨_, _, _, _, h⟩ := hr; exact h.1.lt

set_option maxRecDepth 100000 in
set_option maxHeartbeats 1000000 in
theorem scaled_15 (w : World) (hG : GW w) (R : Nat) (hR : Rt w R 13510798882111488 9007199254740992 1 1 true) :
    Calls Tryz.prog 143 #[.pointer (some ⟨R, 0, none⟩), .int .i64 1] w fun e w' => e = .returned (.int .i64 1) ∧ Rt w' R 13510798882111488 90071992547409920 1 1 true ∧ Ex (fun k => k = R) w.heap.size w w' := by
  have HT0 := Lib.hid (tens_0 w hG)
  have HR := Lib.hid hR
  have HG := Lib.hid hG
  clear hR hG
  go_enter Tryz.func143, Tryz.ntmps143
  go_wp2_with fail
  refine HT0.out.mono ?_
  rintro e w1 ⟨hb1, v1, rfl, hv1⟩
  have HBY := Lib.hid (by_any w1 R v1 _ _ _ _ 1 true (HR.out.below hb1) hv1 (len_le_64 (by decide) _ (by decide)) (len_le_64 (by decide) _ (by decide)) (len_le_64 (by decide) _ (by decide)) (len_le_64 (by decide) _ (by decide)))
  have HE1 := Lib.hid (Ex.of_below (S := fun k => k = R) hb1)
  clear hb1 hv1 HT0
  go_wp2_with fail
  refine HBY.out.mono ?_
  rintro e w2 ⟨rfl, hR2, hE2⟩
  have HR2 := Lib.hid (hR2.eq (n' := 13510798882111488) (d' := 9007199254740992) (l' := 1) (h' := 1) rfl rfl rfl rfl)
  have HE2 := Lib.hid (HE1.out.trans (hE2.mono HE1.out.size (fun k hk => hk)))
  clear hR2 hE2 HBY HE1
  go_wp2_with fail
  refine (from_any w2 10 (by decide)).mono ?_
  rintro e w3 ⟨hb3, v3, rfl, hv3⟩
  have HR3 := Lib.hid (HR2.out.below hb3)
  have HE3 := Lib.hid (HE2.out.trans ((Ex.of_below (S := fun k => k = R) hb3).mono HE2.out.size (fun k hk => hk)))
  have HV3 := Lib.hid hv3
  clear hb3 hv3 HR2 HE2
  go_wp2
  refine wp_loop_rounds 2 ?_
  rw [rounds_succ]
  have HOV := Lib.hid (over_any w3 R _ _ _ _ _ HR3.out (len_le_64 (by decide) _ (by decide)) (len_le_64 (by decide) _ (by decide)) (len_le_64 (by decide) _ (by decide)))
  rw [show overB 13510798882111488 9007199254740992 1 true = true by decide] at HOV
  go_wp2_with fail
  refine HOV.out.mono ?_
  rintro e w4 ⟨rfl, hb4⟩
  have HR4 := Lib.hid (HR3.out.below hb4)
  have HE4 := Lib.hid (HE3.out.trans ((Ex.of_below (S := fun k => k = R) hb4).mono HE3.out.size (fun k hk => hk)))
  have HV4 := Lib.hid (HV3.out.below hb4)
  clear hb4 HR3 HE3 HV3 HOV
  obtain ⟨vn, vd, vl, vh, hr4⟩ := HR4.out
  obtain ⟨d1, d2, rfl⟩ := hr4.2.2.1.slice
  have x1 := hr4.1.cell 1
  simp only [qCells, List.getElem?_toArray, List.getElem?_cons_zero, List.getElem?_cons_succ] at x1
  have hml := mul_any w4 _ v3 _ _ hr4.2.2.1 HV4.out (len_le_64 (by decide) _ (by decide)) (len_le_64 (by decide) _ (by decide))
  rw [val_limbs, val_limbs, show 9007199254740992 * 10 = 90071992547409920 from rfl] at hml
  have HML := Lib.hid hml
  have HRC4 := Lib.hid hr4
  generalize (limbs 9007199254740992).length = ln at x1 HML HRC4
  clear hr4 hml HR4
  go_wp2_with fail
  refine HML.out.mono ?_
  rintro e w5 ⟨hb5, v5, rfl, hv5⟩
  obtain ⟨a5, c5, hs5⟩ := hv5.slice
  obtain ⟨l5, hl5⟩ : ∃ l5, l5 = (limbs 90071992547409920).length := ⟨_, rfl⟩
  rw [← hl5] at hs5
  subst hs5
  have HR5 := Lib.hid (RtC.below HRC4.out hb5)
  have HE5 := Lib.hid (HE4.out.trans ((Ex.of_below (S := fun k => k = R) hb5).mono HE4.out.size (fun k hk => hk)))
  have HV5 := Lib.hid (HV4.out.below hb5)
  have HR6 := Lib.hid (RtC.setD HR5.out hv5)
  have HE6 := Lib.hid (HE5.out.setCell R 1 (Or.inl rfl) (.slice a5 l5 c5))
  have HV6 := Lib.hid (HV5.out.ex HR5.out.1 (RtC.noint HR5.out) ((Ex.refl (fun k => k = R) _ _).setCell R 1 (Or.inl rfl) (.slice a5 l5 c5)))
  have x1 := HR5.out.1.cell 1
  have f1 := HR5.out.1.free 1
  simp only [qCells, List.getElem?_toArray, List.getElem?_cons_zero, List.getElem?_cons_succ] at x1
  clear hb5 hv5 hl5 HML HRC4 HE4 HV4 HE5 HV5
  go_wp2
  clear x1 f1
  generalize w5.setCell ⟨R, 1, none⟩ (.slice a5 l5 c5) = w6 at HR6 HE6 HV6 ⊢
  clear HR5
  have HRt6 : Hid (Rt w6 R 13510798882111488 90071992547409920 1 1 true) := Lib.hid ⟨_, _, _, _, HR6.out⟩
  rw [rounds_succ]
  have HOV := Lib.hid (over_any w6 R _ _ _ _ _ HRt6.out (len_le_64 (by decide) _ (by decide)) (len_le_64 (by decide) _ (by decide)) (len_le_64 (by decide) _ (by decide)))
  rw [show overB 13510798882111488 90071992547409920 1 true = false by decide] at HOV
  go_wp2_with fail
  refine HOV.out.mono ?_
  rintro e w7 ⟨rfl, hb7⟩
  have HR7 := Lib.hid (HRt6.out.below hb7)
  have HE7 := Lib.hid (HE6.out.trans ((Ex.of_below (S := fun k => k = R) hb7).mono HE6.out.size (fun k hk => hk)))
  have HV7 := Lib.hid (HV6.out.below hb7)
  clear hb7 HR6 HRt6 HE6 HV6 HOV
  go_wp2
  refine wp_loop_rounds 1 ?_
  rw [rounds_succ]
  obtain ⟨vn, vd, vl, vh, hr7⟩ := HR7.out
  have HR7C := Lib.hid hr7
  obtain ⟨n1, n2, rfl⟩ := hr7.2.1.slice
  obtain ⟨e1, e2, rfl⟩ := hr7.2.2.1.slice
  obtain ⟨g1, g2, rfl⟩ := hr7.2.2.2.1.slice
  obtain ⟨i1, i2, rfl⟩ := hr7.2.2.2.2.slice
  have x0 := hr7.1.cell 0
  have x1 := hr7.1.cell 1
  have x2 := hr7.1.cell 2
  have x3 := hr7.1.cell 3
  have x4 := hr7.1.cell 4
  simp only [qCells, List.getElem?_toArray, List.getElem?_cons_zero, List.getElem?_cons_succ] at x0 x1 x2 x3 x4
  clear hr7
  generalize (limbs 13510798882111488).length = q1 at x0 HR7C
  generalize (limbs 90071992547409920).length = q2 at x1 HR7C
  generalize (limbs 1).length = q3 at x2 x3 HR7C
  have hlt7 := HR7C.out.1.lt
  obtain ⟨w8, hw8⟩ : ∃ w8, w8 = w7.alloc (.cells (qCells (.slice n1 q1 n2) (.slice e1 q2 e2) (.slice g1 q3 g2) (.slice i1 q3 i2) true) 292) := ⟨_, rfl⟩
  have hb8 : Below w7.heap.size w7 w8 := by rw [hw8]; exact (Below.refl _ _).alloc (Nat.le_refl _) _
  have hr8 : RtC w8 w7.heap.size (.slice n1 q1 n2) (.slice e1 q2 e2) (.slice g1 q3 g2) (.slice i1 q3 i2) 13510798882111488 90071992547409920 1 1 true :=
    ⟨by rw [hw8]; exact Blk.new _ _ _, HR7C.out.2.1.below hb8, HR7C.out.2.2.1.below hb8, HR7C.out.2.2.2.1.below hb8, HR7C.out.2.2.2.2.below hb8⟩
  have HBY2 := Lib.hid (by_any w8 w7.heap.size v3 _ _ _ _ 10 true ⟨_, _, _, _, hr8⟩ (HV7.out.below hb8) (len_le_64 (by decide) _ (by decide)) (len_le_64 (by decide) _ (by decide)) (len_le_64 (by decide) _ (by decide)) (len_le_64 (by decide) _ (by decide)))
  have HW8 := Lib.hid hw8
  have HB8 := Lib.hid hb8
  clear hw8 hb8 hr8
  go_wp2_with fail
  change Calls _ _ _ (w7.alloc (.cells (qCells (.slice n1 q1 n2) (.slice e1 q2 e2) (.slice g1 q3 g2) (.slice i1 q3 i2) true) 292)) _
  rw [← HW8.out]
  refine HBY2.out.mono ?_
  rintro e w9 ⟨rfl, hR9, hE9⟩
  have HR9 := Lib.hid (hR9.eq (n' := 135107988821114880) (d' := 90071992547409920) (l' := 10) (h' := 10) rfl rfl rfl rfl)
  have HB9 := Lib.hid (HB8.out.trans (hE9.below (B' := w7.heap.size) HB8.out.size (fun k hk => by omega)))
  clear x0 x1 x2 x3 x4 hR9 hE9 HBY2
  have HOV := Lib.hid (over_any w9 w7.heap.size _ _ _ _ _ HR9.out (len_le_64 (by decide) _ (by decide)) (len_le_64 (by decide) _ (by decide)) (len_le_64 (by decide) _ (by decide)))
  rw [show overB 135107988821114880 90071992547409920 10 true = true by decide] at HOV
  go_wp2_with fail
  refine HOV.out.mono ?_
  rintro e wa ⟨rfl, hba⟩
  have HBa := Lib.hid (HB9.out.trans (hba.mono HB9.out.size))
  clear hba HOV
  have HRz := Lib.hid (HR7.out.below HBa.out)
  have HEz := Lib.hid (HE7.out.trans ((Ex.of_below (S := fun k => k = R) HBa.out).mono HE7.out.size (fun k hk => hk)))
  go_wp2
  go_ret
  exact ⟨rfl, HRz.out, HEz.out⟩
end Go.Proofs.YtbhfoelnoddlkaaGreatDoor.D

/-
  base.number of a hexadecimal digit, base.FromHex of "00ff": walked.
-/
namespace Go.Proofs.YtbhfoelnoddlkaaGreatDoor.D
open Go Go.RowKit

def hexS : ByteArray := ⟨#[48, 49, 50, 51, 52, 53, 54, 55, 56, 57, 97, 98, 99, 100, 101, 102]⟩
theorem iter_below (w : World) (s : ByteArray) (k : Nat) : Below w.heap.size w (w.iter s k) := (Below.refl _ _).alloc (Nat.le_refl _) _

set_option maxRecDepth 100000 in
theorem number_48 (w : World) : Calls Tryz.prog 121 #[.string ⟨#[48, 49, 50, 51, 52, 53, 54, 55, 56, 57, 97, 98, 99, 100, 101, 102]⟩, .int .u8 48] w fun r w' => r = .returned (.int .i64 0) ∧ Below w.heap.size w w' := by
  have n0 : ∀ ty, (Instr.next (.pointer (some ⟨w.heap.size, 0, none⟩)) true ty).run Tryz.prog (w.iter hexS 0) = .ok (.tuple #[.bool true, .int .i64 0, .int .i32 48]) (w.iter hexS 1) := fun ty => run_next_ascii w hexS 0 ty (by decide) (by decide)
  change Calls _ _ #[.string hexS, _] _ _
  go_enter Tryz.func121, Tryz.ntmps121
  go_wp2
  refine wp_loop_rounds 1 ?_
  rw [rounds_succ]
  go_wp2
  go_ret
  exact ⟨rfl, iter_below _ _ _⟩

set_option maxRecDepth 100000 in
theorem number_102 (w : World) : Calls Tryz.prog 121 #[.string ⟨#[48, 49, 50, 51, 52, 53, 54, 55, 56, 57, 97, 98, 99, 100, 101, 102]⟩, .int .u8 102] w fun r w' => r = .returned (.int .i64 15) ∧ Below w.heap.size w w' := by
  have n0 : ∀ ty, (Instr.next (.pointer (some ⟨w.heap.size, 0, none⟩)) true ty).run Tryz.prog (w.iter hexS 0) = .ok (.tuple #[.bool true, .int .i64 0, .int .i32 48]) (w.iter hexS 1) := fun ty => run_next_ascii w hexS 0 ty (by decide) (by decide)
  have n1 : ∀ ty, (Instr.next (.pointer (some ⟨w.heap.size, 0, none⟩)) true ty).run Tryz.prog (w.iter hexS 1) = .ok (.tuple #[.bool true, .int .i64 1, .int .i32 49]) (w.iter hexS 2) := fun ty => run_next_ascii w hexS 1 ty (by decide) (by decide)
  have n2 : ∀ ty, (Instr.next (.pointer (some ⟨w.heap.size, 0, none⟩)) true ty).run Tryz.prog (w.iter hexS 2) = .ok (.tuple #[.bool true, .int .i64 2, .int .i32 50]) (w.iter hexS 3) := fun ty => run_next_ascii w hexS 2 ty (by decide) (by decide)
  have n3 : ∀ ty, (Instr.next (.pointer (some ⟨w.heap.size, 0, none⟩)) true ty).run Tryz.prog (w.iter hexS 3) = .ok (.tuple #[.bool true, .int .i64 3, .int .i32 51]) (w.iter hexS 4) := fun ty => run_next_ascii w hexS 3 ty (by decide) (by decide)
  have n4 : ∀ ty, (Instr.next (.pointer (some ⟨w.heap.size, 0, none⟩)) true ty).run Tryz.prog (w.iter hexS 4) = .ok (.tuple #[.bool true, .int .i64 4, .int .i32 52]) (w.iter hexS 5) := fun ty => run_next_ascii w hexS 4 ty (by decide) (by decide)
  have n5 : ∀ ty, (Instr.next (.pointer (some ⟨w.heap.size, 0, none⟩)) true ty).run Tryz.prog (w.iter hexS 5) = .ok (.tuple #[.bool true, .int .i64 5, .int .i32 53]) (w.iter hexS 6) := fun ty => run_next_ascii w hexS 5 ty (by decide) (by decide)
  have n6 : ∀ ty, (Instr.next (.pointer (some ⟨w.heap.size, 0, none⟩)) true ty).run Tryz.prog (w.iter hexS 6) = .ok (.tuple #[.bool true, .int .i64 6, .int .i32 54]) (w.iter hexS 7) := fun ty => run_next_ascii w hexS 6 ty (by decide) (by decide)
  have n7 : ∀ ty, (Instr.next (.pointer (some ⟨w.heap.size, 0, none⟩)) true ty).run Tryz.prog (w.iter hexS 7) = .ok (.tuple #[.bool true, .int .i64 7, .int .i32 55]) (w.iter hexS 8) := fun ty => run_next_ascii w hexS 7 ty (by decide) (by decide)
  have n8 : ∀ ty, (Instr.next (.pointer (some ⟨w.heap.size, 0, none⟩)) true ty).run Tryz.prog (w.iter hexS 8) = .ok (.tuple #[.bool true, .int .i64 8, .int .i32 56]) (w.iter hexS 9) := fun ty => run_next_ascii w hexS 8 ty (by decide) (by decide)
  have n9 : ∀ ty, (Instr.next (.pointer (some ⟨w.heap.size, 0, none⟩)) true ty).run Tryz.prog (w.iter hexS 9) = .ok (.tuple #[.bool true, .int .i64 9, .int .i32 57]) (w.iter hexS 10) := fun ty => run_next_ascii w hexS 9 ty (by decide) (by decide)
  have n10 : ∀ ty, (Instr.next (.pointer (some ⟨w.heap.size, 0, none⟩)) true ty).run Tryz.prog (w.iter hexS 10) = .ok (.tuple #[.bool true, .int .i64 10, .int .i32 97]) (w.iter hexS 11) := fun ty => run_next_ascii w hexS 10 ty (by decide) (by decide)
  have n11 : ∀ ty, (Instr.next (.pointer (some ⟨w.heap.size, 0, none⟩)) true ty).run Tryz.prog (w.iter hexS 11) = .ok (.tuple #[.bool true, .int .i64 11, .int .i32 98]) (w.iter hexS 12) := fun ty => run_next_ascii w hexS 11 ty (by decide) (by decide)
  have n12 : ∀ ty, (Instr.next (.pointer (some ⟨w.heap.size, 0, none⟩)) true ty).run Tryz.prog (w.iter hexS 12) = .ok (.tuple #[.bool true, .int .i64 12, .int .i32 99]) (w.iter hexS 13) := fun ty => run_next_ascii w hexS 12 ty (by decide) (by decide)
  have n13 : ∀ ty, (Instr.next (.pointer (some ⟨w.heap.size, 0, none⟩)) true ty).run Tryz.prog (w.iter hexS 13) = .ok (.tuple #[.bool true, .int .i64 13, .int .i32 100]) (w.iter hexS 14) := fun ty => run_next_ascii w hexS 13 ty (by decide) (by decide)
  have n14 : ∀ ty, (Instr.next (.pointer (some ⟨w.heap.size, 0, none⟩)) true ty).run Tryz.prog (w.iter hexS 14) = .ok (.tuple #[.bool true, .int .i64 14, .int .i32 101]) (w.iter hexS 15) := fun ty => run_next_ascii w hexS 14 ty (by decide) (by decide)
  have n15 : ∀ ty, (Instr.next (.pointer (some ⟨w.heap.size, 0, none⟩)) true ty).run Tryz.prog (w.iter hexS 15) = .ok (.tuple #[.bool true, .int .i64 15, .int .i32 102]) (w.iter hexS 16) := fun ty => run_next_ascii w hexS 15 ty (by decide) (by decide)
  change Calls _ _ #[.string hexS, _] _ _
  go_enter Tryz.func121, Tryz.ntmps121
  go_wp2
  refine wp_loop_rounds 16 ?_
  rw [rounds_succ]
  go_wp2
  rw [rounds_succ]
  go_wp2
  rw [rounds_succ]
  go_wp2
  rw [rounds_succ]
  go_wp2
  rw [rounds_succ]
  go_wp2
  rw [rounds_succ]
  go_wp2
  rw [rounds_succ]
  go_wp2
  rw [rounds_succ]
  go_wp2
  rw [rounds_succ]
  go_wp2
  rw [rounds_succ]
  go_wp2
  rw [rounds_succ]
  go_wp2
  rw [rounds_succ]
  go_wp2
  rw [rounds_succ]
  go_wp2
  rw [rounds_succ]
  go_wp2
  rw [rounds_succ]
  go_wp2
  rw [rounds_succ]
  go_wp2
  go_ret
  exact ⟨rfl, iter_below _ _ _⟩
end Go.Proofs.YtbhfoelnoddlkaaGreatDoor.D

/-
  base.FromHex of "00ff": walked.
-/
namespace Go.Proofs.YtbhfoelnoddlkaaGreatDoor.D
open Go Go.RowKit

def Own (B : Nat) (w : World) (v : Value) (L : List UInt8) : Prop := w.ownsRow B 5 1 v L.length (Lib.byteCells L)
theorem Own.below {B : Nat} {w w' : World} {v : Value} {L : List UInt8} (h : Own B w v L) (hb : Below w.heap.size w w') : Own B w' v L := by
  obtain ⟨hl, h0 | ⟨g, cap, cur, hv, hBg, hg, r⟩⟩ := h
  · exact ⟨hl, .inl h0⟩
  · exact ⟨hl, .inr ⟨g, cap, cur, hv, hBg, by rw [hb.block g (Array.getElem?_eq_some_iff.1 hg).1]; exact hg, r⟩⟩
def KB (W w : World) : Prop := Below W.heap.size W w
theorem KB.step {W w w' : World} (h : KB W w) (hb : Below w.heap.size w w') : KB W w' := Below.trans h (hb.mono (Below.size h))

theorem make02 (w : World) : (Instr.makeSlice 22 (.int .i64 0) (.int .i64 2)).run Tryz.prog w = .ok (.slice (some ⟨w.heap.size, 0, none⟩) 0 2) (w.alloc (.cells #[.int .u8 0, .int .u8 0] 5)) := by kernel_rfl

set_option maxRecDepth 100000 in
set_option maxHeartbeats 1000000 in
theorem fromHex_00ff (w : World) :
    Calls Tryz.prog 71 #[.string ⟨#[48, 48, 102, 102]⟩] w fun r w' => ∃ v, r = .returned (.tuple #[v, .bool true]) ∧ Below w.heap.size w w' ∧ Own w.heap.size w' v [0, 255] := by
  obtain ⟨i0, hi, hz0, hz1, hz2⟩ := info5'
  have HI := Lib.hid hi
  have HN0 : Hid (∀ W w, KB W w → Calls Tryz.prog 121 #[.string ⟨#[48, 49, 50, 51, 52, 53, 54, 55, 56, 57, 97, 98, 99, 100, 101, 102]⟩, .int .u8 48] w fun r w' => r = .returned (.int .i64 0) ∧ KB W w') := Lib.hid (fun W w h => (number_48 w).mono fun r w' ⟨a, b⟩ => ⟨a, h.step b⟩)
  have HN1 : Hid (∀ W w, KB W w → Calls Tryz.prog 121 #[.string ⟨#[48, 49, 50, 51, 52, 53, 54, 55, 56, 57, 97, 98, 99, 100, 101, 102]⟩, .int .u8 102] w fun r w' => r = .returned (.int .i64 15) ∧ KB W w') := Lib.hid (fun W w h => (number_102 w).mono fun r w' ⟨a, b⟩ => ⟨a, h.step b⟩)
  obtain ⟨w1, hw1⟩ : ∃ w1, w1 = w.alloc (.cells #[.int .u8 0, .int .u8 0] 5) := ⟨_, rfl⟩
  have hb1 : Below w.heap.size w w1 := by rw [hw1]; exact (Below.refl _ _).alloc (Nat.le_refl _) _
  have hO1 : Own w.heap.size w1 (.slice (some ⟨w.heap.size, 0, none⟩) 0 2) [] := by rw [hw1]; exact World.ownsRow_made w _ 2 (Nat.le_refl _) (by unfold maxLen; omega) rfl
  have HW1 := Lib.hid hw1
  have HB1 := Lib.hid hb1
  have HO1 := Lib.hid hO1
  clear hi hw1 hb1 hO1
  have hmk := make02 w
  go_enter Tryz.func71, Tryz.ntmps71
  go_upto_region 5 with fail
  change Code.wp _ _ _ _ (w.alloc (.cells #[.int .u8 0, .int .u8 0] 5))
  rw [← HW1.out]
  have HO : Hid (∀ w' v L, Own w.heap.size w' v L → w'.ownsRow w.heap.size 5 1 v L.length (Lib.byteCells L)) := Lib.hid (fun _ _ _ h => h)
  go_loopw [4, 5, 6, 7] (fun v i _ _ wr => ∃ k : Nat, k ≤ 2 ∧ i = .int .i64 ((2 * k : Nat) : Int) ∧ Hid (Own w.heap.size wr v (([0, 255] : List UInt8).take k)) ∧ Hid (Below w.heap.size w wr)) (fun _ i _ _ _ => 4 - (intOf i).toNat)
  case atStart => exact ⟨0, by omega, rfl, HO1, HB1⟩
  case round =>
    obtain ⟨k, hk2, rfl, HOr, HBr⟩ := hrel
    rcases (by omega : k = 0 ∨ k = 1 ∨ k = 2) with rfl | rfl | rfl
    · have o0 : bits .or .i64 0 0 = 0 := by decide
      have HK : Hid (KB wr wr.drew) := Lib.hid (Below.drew (Below.refl _ _))
      have hk := HK.out
      go_upto_region 7 with fail
      go_region_with (go_at_call 121; go_must (refine (HN0.out wr _ (by assumption)).mono ?_; rintro e w9 ⟨rfl, hk⟩))
      all_goals (
        have hO9 : Own w.heap.size w9 u4 [] := HOr.out.below hk
        have hOv := World.ownsRow.lt hO9
        have HB9 : Hid (Below w.heap.size w w9) := Lib.hid (HBr.out.trans (Below.mono hk HBr.out.size))
        have hO9' := HO.out _ _ _ hO9
        clear HK hOv
        go_wp2_with (at_builtin; refine wpList_append_own _ rfl _ _ 22 rfl w.heap.size 5 i0 (.int .u8 0) 1 1 Tryz.underlying22 HI.out hz0 hz1 hz2 rfl (by decide) _ _ _ rfl (World.ownsRow.alloc hO9' _) ⟨w9.heap.size, 0, none⟩ 1 1 [.int .u8 0] rfl rfl ?c1 ?c2 ?c3 ?c4 ?c5 ?_)
        case c1 =>
          intro j u hj
          match j, hj with
          | 0, hj => simp at hj; subst hj; simp [Addr.add]
        case c2 => intro u hu; simp at hu; subst hu; rfl
        case c3 => unfold maxLen; simp
        case c4 => simp
        case c5 => have := HB9.out.size; simp; omega
        intro v' w2 hown' hgrow _
        have hb2 : Below w.heap.size w w2 := (HB9.out.alloc HB9.out.size _).grown hgrow (by have := HB9.out.size; simp; omega) (fun k hk => (World.ownsRow.lt hO9 k hk).1)
        have HO2 : Hid (Own w.heap.size w2 v' ([0, 255].take 1)) := Lib.hid hown'
        have HB2 := Lib.hid hb2
        clear hown' hgrow hb2 hO9 hO9'
        go_wp2
        go_roundw
        case rel => exact ⟨1, by omega, rfl, HO2, HB2⟩
        case measure => simp [intOf])
    · have o0 : bits .or .i64 240 15 = 255 := by decide
      have HK : Hid (KB wr wr.drew) := Lib.hid (Below.drew (Below.refl _ _))
      have hk := HK.out
      go_upto_region 7 with fail
      go_region_with (go_at_call 121; go_must (refine (HN1.out wr _ (by assumption)).mono ?_; rintro e w9 ⟨rfl, hk⟩))
      all_goals (
        have hO9 : Own w.heap.size w9 u4 [0] := HOr.out.below hk
        have hOv := World.ownsRow.lt hO9
        have HB9 : Hid (Below w.heap.size w w9) := Lib.hid (HBr.out.trans (Below.mono hk HBr.out.size))
        have hO9' := HO.out _ _ _ hO9
        clear HK hOv
        go_wp2_with (at_builtin; refine wpList_append_own _ rfl _ _ 22 rfl w.heap.size 5 i0 (.int .u8 0) 1 1 Tryz.underlying22 HI.out hz0 hz1 hz2 rfl (by decide) _ _ _ rfl (World.ownsRow.alloc hO9' _) ⟨w9.heap.size, 0, none⟩ 1 1 [.int .u8 255] rfl rfl ?c1 ?c2 ?c3 ?c4 ?c5 ?_)
        case c1 =>
          intro j u hj
          match j, hj with
          | 0, hj => simp at hj; subst hj; simp [Addr.add]
        case c2 => intro u hu; simp at hu; subst hu; rfl
        case c3 => unfold maxLen; simp
        case c4 => simp
        case c5 => have := HB9.out.size; simp; omega
        intro v' w2 hown' hgrow _
        have hb2 : Below w.heap.size w w2 := (HB9.out.alloc HB9.out.size _).grown hgrow (by have := HB9.out.size; simp; omega) (fun k hk => (World.ownsRow.lt hO9 k hk).1)
        have HO2 : Hid (Own w.heap.size w2 v' ([0, 255].take 2)) := Lib.hid hown'
        have HB2 := Lib.hid hb2
        clear hown' hgrow hb2 hO9 hO9'
        go_wp2
        go_roundw
        case rel => exact ⟨2, by omega, rfl, HO2, HB2⟩
        case measure => simp [intOf])
    · go_wp2
      exact bodyPost_ret (v := .tuple #[u4, .bool true]) (by simp [results, Tryz.results71, go_sem]) rfl ⟨_, rfl, HBr.out, HOr.out⟩
end Go.Proofs.YtbhfoelnoddlkaaGreatDoor.D

/-
  shortest.digits at one and a half: walked (printed by wip/tools/gendig.py).
-/
namespace Go.Proofs.YtbhfoelnoddlkaaGreatDoor.D
open Go Go.RowKit Limb

theorem Own.ex {B R : Nat} {w w' : World} {v : Value} {L : List UInt8} (h : Own B w v L) (he : Ex (fun k => k = R) w.heap.size w w') (hR : R < B) : Own B w' v L := by
  obtain ⟨hl, h0 | ⟨g, cap, cur, hv, hBg, hg, r⟩⟩ := h
  · exact ⟨hl, .inl h0⟩
  · exact ⟨hl, .inr ⟨g, cap, cur, hv, hBg, by rw [he.block g (Array.getElem?_eq_some_iff.1 hg).1 (by omega)]; exact hg, r⟩⟩

set_option maxRecDepth 100000 in
set_option maxHeartbeats 2000000 in
theorem digits_15 (w : World) (R : Nat) (hR : Rt w R 13510798882111488 90071992547409920 1 1 true) :
    Calls Tryz.prog 145 #[.pointer (some ⟨R, 0, none⟩)] w fun e w' => Ex (fun k => k = R) w.heap.size w w' ∧ ∃ g cap, e = .returned (.slice (some ⟨g, 0, none⟩) 2 cap) ∧ w.heap.size ≤ g ∧ Own w.heap.size w' (.slice (some ⟨g, 0, none⟩) 2 cap) [1, 5] := by
  have HR1 := Lib.hid hR
  have HLT := Lib.hid hR.lt
  have HE1 : Hid (Ex (fun k => k = R) w.heap.size w w) := Lib.hid (Ex.refl _ _ _)
  have HO1 : Hid (Own w.heap.size w (.slice none 0 0) []) := Lib.hid ⟨rfl, .inl ⟨rfl, rfl⟩⟩
  obtain ⟨i0, hi, hz0, hz1, hz2⟩ := info5'
  have HI := Lib.hid hi
  clear hR hi
  go_enter Tryz.func145, Tryz.ntmps145
  go_wp2
  go_step3
  go_wp2
  go_step3
  go_wp2
  refine wp_loop_rounds 3 ?_
  rw [rounds_succ]
  have HDG1 := Lib.hid (digit_any w R 13510798882111488 90071992547409920 1 1 true HR1.out (by decide) (len_le_64 (by decide) _ (by decide)) (len_le_64 (by decide) _ (by decide)) (len_le_64 (by decide) _ (by decide)) (len_le_64 (by decide) _ (by decide)))
  rw [show 13510798882111488 * 10 / 90071992547409920 = 1 from by decide, show 13510798882111488 * 10 % 90071992547409920 = 45035996273704960 from by decide] at HDG1
  have HDG1 : Hid (Calls Tryz.prog 201 #[.pointer (some ⟨R, 0, none⟩)] w fun e w' => e = .returned (.int .u8 1) ∧ Rt w' R 45035996273704960 90071992547409920 (1 * 10) (1 * 10) true ∧ Ex (fun k => k = R) w.heap.size w w') := HDG1
  go_wp2_with fail
  refine HDG1.out.mono ?_
  rintro e u1 ⟨rfl, hR, hE⟩
  have HRa1 := Lib.hid (hR.eq (n' := 45035996273704960) (d' := 90071992547409920) (l' := 10) (h' := 10) rfl rfl rfl rfl)
  have HEa1 := Lib.hid (HE1.out.trans (hE.mono HE1.out.size (fun k hk => hk)))
  have HOa1 := Lib.hid (HO1.out.ex hE HLT.out)
  clear hR hE HDG1
  obtain ⟨vn, vd, vl, vh, hr⟩ := HRa1.out
  have HT1 : Hid (∀ w' w'', (w'.cell? ⟨R, 0, none⟩ = some vn ∧ w'.cell? ⟨R, 2, none⟩ = some vl ∧ RtC w' R vn vd vl vh 45035996273704960 90071992547409920 10 10 true ∧ Below u1.heap.size u1 w') → Hid (Below w'.heap.size w' w'') → (w''.cell? ⟨R, 0, none⟩ = some vn ∧ w''.cell? ⟨R, 2, none⟩ = some vl ∧ RtC w'' R vn vd vl vh 45035996273704960 90071992547409920 10 10 true ∧ Below u1.heap.size u1 w'')) := Lib.hid (fun w' w'' h hk => by
    obtain ⟨_, _, h1, h2⟩ := h
    have h3 := h1.below hk.out
    exact ⟨h3.1.cell 0, h3.1.cell 2, h3, h2.trans (hk.out.mono h2.size)⟩)
  have HS1 : Hid ((u1.drew).cell? ⟨R, 0, none⟩ = some vn ∧ (u1.drew).cell? ⟨R, 2, none⟩ = some vl ∧ RtC (u1.drew) R vn vd vl vh 45035996273704960 90071992547409920 10 10 true ∧ Below u1.heap.size u1 u1.drew) := Lib.hid (by
    have h3 := hr.below (below_drewN (Below.refl u1.heap.size u1) 1)
    exact ⟨h3.1.cell 0, h3.1.cell 2, h3, (below_drewN (Below.refl u1.heap.size u1) 1)⟩)
  have HCM1 : Hid (∀ w', (w'.cell? ⟨R, 0, none⟩ = some vn ∧ w'.cell? ⟨R, 2, none⟩ = some vl ∧ RtC w' R vn vd vl vh 45035996273704960 90071992547409920 10 10 true ∧ Below u1.heap.size u1 w') → Calls Tryz.prog 202 #[vn, vl] w' fun e w'' => e = .returned (.int .i64 (1)) ∧ Below w'.heap.size w' w'') := Lib.hid (fun w' hs => by
    have := cmp_any w' vn vl _ _ hs.2.2.1.2.1 hs.2.2.1.2.2.2.1 (len_le_64 (by decide) _ (by decide)) (len_le_64 (by decide) _ (by decide))
    rw [val_limbs, val_limbs, show cmpI 45035996273704960 10 = 1 from by decide] at this
    exact this)
  have HX1 : Hid (∀ w', (w'.cell? ⟨R, 0, none⟩ = some vn ∧ w'.cell? ⟨R, 2, none⟩ = some vl ∧ RtC w' R vn vd vl vh 45035996273704960 90071992547409920 10 10 true ∧ Below u1.heap.size u1 w') → RtC w' R vn vd vl vh 45035996273704960 90071992547409920 10 10 true ∧ Below u1.heap.size u1 w') := Lib.hid (fun w' h => ⟨h.2.2.1, h.2.2.2⟩)
  clear hr
  go_upto_region 3 with fail
  go_region_held3 (fun w' => (w'.cell? ⟨R, 0, none⟩ = some vn ∧ w'.cell? ⟨R, 2, none⟩ = some vl ∧ RtC w' R vn vd vl vh 45035996273704960 90071992547409920 10 10 true ∧ Below u1.heap.size u1 w'))
    (first
      | exact HS1.out
      | assumption
      | (refine HT1.out _ _ ?_ hb9; assumption))
    ((go_at_call 202; refine (HCM1.out _ (by first | exact HS1.out | assumption)).mono ?_; rintro e w9 ⟨rfl, hb9⟩; replace hb9 := Lib.hid hb9))
  have hx := HX1.out w9 (by assumption)
  have HRC1 := Lib.hid hx.1
  have HRb1 : Hid (Rt w9 R 45035996273704960 90071992547409920 10 10 true) := Lib.hid ⟨_, _, _, _, hx.1⟩
  have HEb1 := Lib.hid (HEa1.out.trans ((Ex.of_below (S := fun k => k = R) hx.2).mono HEa1.out.size (fun k hk => hk)))
  have HOb1 := Lib.hid (HOa1.out.below hx.2)
  have x4 := hx.1.1.cell 4
  simp only [qCells, List.getElem?_toArray, List.getElem?_cons_zero, List.getElem?_cons_succ] at x4
  clear hx hb9 HX1 HT1 HS1 HCM1 HRa1 HEa1 HOa1
  have HOV1 := Lib.hid (over_any w9 R _ _ _ _ _ HRb1.out (len_le_64 (by decide) _ (by decide)) (len_le_64 (by decide) _ (by decide)) (len_le_64 (by decide) _ (by decide)))
  rw [show overB 45035996273704960 90071992547409920 10 true = false by decide] at HOV1
  go_wp2_with fail
  refine HOV1.out.mono ?_
  rintro e y1 ⟨rfl, hb⟩
  have HRc1 := Lib.hid (HRb1.out.below hb)
  have HEc1 := Lib.hid (HEb1.out.trans ((Ex.of_below (S := fun k => k = R) hb).mono HEb1.out.size (fun k hk => hk)))
  have HOc1 := Lib.hid (HOb1.out.below hb)
  clear hb x4 HRb1 HEb1 HOb1 HOV1 HRC1
  have hO := HOc1.out
  have hlt := World.ownsRow.lt hO
  have hcc : Lib.byteCells (([] : List UInt8) ++ [1]) = Lib.byteCells ([] : List UInt8) ++ [.int .u8 1] := rfl
  go_wp2_with (at_builtin; refine wpList_append_own _ rfl _ _ 22 rfl w.heap.size 5 i0 (.int .u8 0) 1 1 Tryz.underlying22 HI.out hz0 hz1 hz2 rfl (by decide) _ _ _ rfl (World.ownsRow.alloc hO _) ⟨y1.heap.size, 0, none⟩ 1 1 [.int .u8 1] rfl rfl ?c1 ?c2 ?c3 ?c4 ?c5 ?_)
  case c1 =>
    intro j u hj
    match j, hj with
    | 0, hj => simp at hj; subst hj; simp [Addr.add]
  case c2 => intro u hu; simp at hu; subst hu; rfl
  case c3 => unfold maxLen; simp
  case c4 => simp
  case c5 => have := HEc1.out.size; simp; omega
  intro v' z1 hown' hgrow _
  have HEz1 := Lib.hid (HEc1.out.trans (Ex.of_below (S := fun k => k = R) (((Below.refl w.heap.size y1).alloc HEc1.out.size _).grown hgrow (by have := HEc1.out.size; simp; omega) (fun k hk => (hlt k hk).1))))
  have HO2 : Hid (Own w.heap.size z1 v' (([] : List UInt8) ++ [1])) := Lib.hid (by unfold Own; rw [hcc]; exact hown')
  have HR2 := Lib.hid (HRc1.out.below (((Below.refl y1.heap.size y1).alloc (Nat.le_refl _) _).trans ⟨hgrow.os, hgrow.tape, hgrow.output, hgrow.size, fun k hk => hgrow.block k (by simp; omega) (fun e => by simp [Value.ownBlock] at e)⟩))
  have HE2 := HEz1
  clear hown' hgrow hO hlt HRc1 HEc1 HOc1 hcc
  go_wp2
  rw [rounds_succ]
  have HDG2 := Lib.hid (digit_any z1 R 45035996273704960 90071992547409920 10 10 true HR2.out (by decide) (len_le_64 (by decide) _ (by decide)) (len_le_64 (by decide) _ (by decide)) (len_le_64 (by decide) _ (by decide)) (len_le_64 (by decide) _ (by decide)))
  rw [show 45035996273704960 * 10 / 90071992547409920 = 5 from by decide, show 45035996273704960 * 10 % 90071992547409920 = 0 from by decide] at HDG2
  have HDG2 : Hid (Calls Tryz.prog 201 #[.pointer (some ⟨R, 0, none⟩)] z1 fun e w' => e = .returned (.int .u8 5) ∧ Rt w' R 0 90071992547409920 (10 * 10) (10 * 10) true ∧ Ex (fun k => k = R) z1.heap.size z1 w') := HDG2
  go_wp2_with fail
  refine HDG2.out.mono ?_
  rintro e u2 ⟨rfl, hR, hE⟩
  have HRa2 := Lib.hid (hR.eq (n' := 0) (d' := 90071992547409920) (l' := 100) (h' := 100) rfl rfl rfl rfl)
  have HEa2 := Lib.hid (HE2.out.trans (hE.mono HE2.out.size (fun k hk => hk)))
  have HOa2 := Lib.hid (HO2.out.ex hE HLT.out)
  clear hR hE HDG2
  obtain ⟨vn, vd, vl, vh, hr⟩ := HRa2.out
  have HT2 : Hid (∀ w' w'', (w'.cell? ⟨R, 0, none⟩ = some vn ∧ w'.cell? ⟨R, 2, none⟩ = some vl ∧ RtC w' R vn vd vl vh 0 90071992547409920 100 100 true ∧ Below u2.heap.size u2 w') → Hid (Below w'.heap.size w' w'') → (w''.cell? ⟨R, 0, none⟩ = some vn ∧ w''.cell? ⟨R, 2, none⟩ = some vl ∧ RtC w'' R vn vd vl vh 0 90071992547409920 100 100 true ∧ Below u2.heap.size u2 w'')) := Lib.hid (fun w' w'' h hk => by
    obtain ⟨_, _, h1, h2⟩ := h
    have h3 := h1.below hk.out
    exact ⟨h3.1.cell 0, h3.1.cell 2, h3, h2.trans (hk.out.mono h2.size)⟩)
  have HS2 : Hid ((u2.drew).cell? ⟨R, 0, none⟩ = some vn ∧ (u2.drew).cell? ⟨R, 2, none⟩ = some vl ∧ RtC (u2.drew) R vn vd vl vh 0 90071992547409920 100 100 true ∧ Below u2.heap.size u2 u2.drew) := Lib.hid (by
    have h3 := hr.below (below_drewN (Below.refl u2.heap.size u2) 1)
    exact ⟨h3.1.cell 0, h3.1.cell 2, h3, (below_drewN (Below.refl u2.heap.size u2) 1)⟩)
  have HCM2 : Hid (∀ w', (w'.cell? ⟨R, 0, none⟩ = some vn ∧ w'.cell? ⟨R, 2, none⟩ = some vl ∧ RtC w' R vn vd vl vh 0 90071992547409920 100 100 true ∧ Below u2.heap.size u2 w') → Calls Tryz.prog 202 #[vn, vl] w' fun e w'' => e = .returned (.int .i64 (-1)) ∧ Below w'.heap.size w' w'') := Lib.hid (fun w' hs => by
    have := cmp_any w' vn vl _ _ hs.2.2.1.2.1 hs.2.2.1.2.2.2.1 (len_le_64 (by decide) _ (by decide)) (len_le_64 (by decide) _ (by decide))
    rw [val_limbs, val_limbs, show cmpI 0 100 = -1 from by decide] at this
    exact this)
  have HX2 : Hid (∀ w', (w'.cell? ⟨R, 0, none⟩ = some vn ∧ w'.cell? ⟨R, 2, none⟩ = some vl ∧ RtC w' R vn vd vl vh 0 90071992547409920 100 100 true ∧ Below u2.heap.size u2 w') → RtC w' R vn vd vl vh 0 90071992547409920 100 100 true ∧ Below u2.heap.size u2 w') := Lib.hid (fun w' h => ⟨h.2.2.1, h.2.2.2⟩)
  clear hr
  go_upto_region 3 with fail
  go_region_held3 (fun w' => (w'.cell? ⟨R, 0, none⟩ = some vn ∧ w'.cell? ⟨R, 2, none⟩ = some vl ∧ RtC w' R vn vd vl vh 0 90071992547409920 100 100 true ∧ Below u2.heap.size u2 w'))
    (first
      | exact HS2.out
      | assumption
      | (refine HT2.out _ _ ?_ hb9; assumption))
    ((go_at_call 202; refine (HCM2.out _ (by first | exact HS2.out | assumption)).mono ?_; rintro e w9 ⟨rfl, hb9⟩; replace hb9 := Lib.hid hb9))
  have hx := HX2.out w9 (by assumption)
  have HRC2 := Lib.hid hx.1
  have HRb2 : Hid (Rt w9 R 0 90071992547409920 100 100 true) := Lib.hid ⟨_, _, _, _, hx.1⟩
  have HEb2 := Lib.hid (HEa2.out.trans ((Ex.of_below (S := fun k => k = R) hx.2).mono HEa2.out.size (fun k hk => hk)))
  have HOb2 := Lib.hid (HOa2.out.below hx.2)
  have x4 := hx.1.1.cell 4
  simp only [qCells, List.getElem?_toArray, List.getElem?_cons_zero, List.getElem?_cons_succ] at x4
  clear hx hb9 HX2 HT2 HS2 HCM2 HRa2 HEa2 HOa2
  have HOV2 := Lib.hid (over_any w9 R _ _ _ _ _ HRb2.out (len_le_64 (by decide) _ (by decide)) (len_le_64 (by decide) _ (by decide)) (len_le_64 (by decide) _ (by decide)))
  rw [show overB 0 90071992547409920 100 true = false by decide] at HOV2
  go_wp2_with fail
  refine HOV2.out.mono ?_
  rintro e y2 ⟨rfl, hb⟩
  have HRc2 := Lib.hid (HRb2.out.below hb)
  have HEc2 := Lib.hid (HEb2.out.trans ((Ex.of_below (S := fun k => k = R) hb).mono HEb2.out.size (fun k hk => hk)))
  have HOc2 := Lib.hid (HOb2.out.below hb)
  clear hb x4 HRb2 HEb2 HOb2 HOV2 HRC2
  have hO := HOc2.out
  have hlt := World.ownsRow.lt hO
  have hcc : Lib.byteCells (([1] : List UInt8) ++ [5]) = Lib.byteCells ([1] : List UInt8) ++ [.int .u8 5] := rfl
  go_wp2_with (at_builtin; refine wpList_append_own _ rfl _ _ 22 rfl w.heap.size 5 i0 (.int .u8 0) 1 1 Tryz.underlying22 HI.out hz0 hz1 hz2 rfl (by decide) _ _ _ rfl (World.ownsRow.alloc hO _) ⟨y2.heap.size, 0, none⟩ 1 1 [.int .u8 5] rfl rfl ?c1 ?c2 ?c3 ?c4 ?c5 ?_)
  case c1 =>
    intro j u hj
    match j, hj with
    | 0, hj => simp at hj; subst hj; simp [Addr.add]
  case c2 => intro u hu; simp at hu; subst hu; rfl
  case c3 => unfold maxLen; simp
  case c4 => simp
  case c5 => have := HEc2.out.size; simp; omega
  intro v'' z2 hown' hgrow _
  have HEz2 := Lib.hid (HEc2.out.trans (Ex.of_below (S := fun k => k = R) (((Below.refl w.heap.size y2).alloc HEc2.out.size _).grown hgrow (by have := HEc2.out.size; simp; omega) (fun k hk => (hlt k hk).1))))
  have HO3 : Hid (Own w.heap.size z2 v'' (([1] : List UInt8) ++ [5])) := Lib.hid (by unfold Own; rw [hcc]; exact hown')
  obtain ⟨g, cap, hv, hg⟩ : ∃ g cap, v'' = .slice (some ⟨g, 0, none⟩) 2 cap ∧ w.heap.size ≤ g := by
    rcases hown'.2 with ⟨_, h0⟩ | ⟨g, cap, cur, hv, hg, _⟩
    · simp at h0
    · exact ⟨g, cap, hv, hg⟩
  subst hv
  have HG := Lib.hid hg
  clear hown' hgrow hO hlt HRc2 HEc2 HOc2 hcc hg
  go_wp2
  try rw [Exit.noGoto_ret]
  go_ret
  exact ⟨HEz2.out, g, cap, rfl, HG.out, HO3.out⟩
end Go.Proofs.YtbhfoelnoddlkaaGreatDoor.D

