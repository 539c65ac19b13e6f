/-
  Of the proof that the law DiagDeep answers true at every row of bytes: a part, without conditions of its own.
-/
import Derived.Test.YtbhfoelnoddlkaaGreatDoorPart37
import Derived.Test.YtbhfoelnoddlkaaGreatDoorPart30
set_option linter.unusedVariables false
set_option linter.unusedSimpArgs false
/-
  decimal.Read of "10" and "15", the point behind the first digit: walked (printed by wip/tools/genj9.py).
-/
namespace Go.Proofs.YtbhfoelnoddlkaaGreatDoor.D
open Go Go.RowKit Limb

set_option maxRecDepth 100000 in
set_option maxHeartbeats 1000000 in
theorem dread_10 (w : World) (hG : GW w) : Calls Tryz.prog 118 #[.agg #[.bool false, .string ⟨#[49, 48]⟩, .int .i64 1]] w fun e w' => e = .returned (.tuple #[.int .u64 4607182418800017408, .bool true]) ∧ Below w.heap.size w w' := by
  obtain ⟨w1, hw1⟩ : ∃ w1, w1 = w.alloc (.cells #[.bool false, .string ⟨#[49, 48]⟩, .int .i64 1] 156) := ⟨_, rfl⟩
  have hb1 : Below w.heap.size w w1 := by rw [hw1]; exact (Below.refl _ _).alloc (Nat.le_refl _) _
  have hB1 : Blk w1 w.heap.size #[.bool false, .string ⟨#[49, 48]⟩, .int .i64 1] 156 := by rw [hw1]; exact Blk.new _ _ _
  have HG := Lib.hid hG
  have HB1 := Lib.hid hb1
  have HD1 := Lib.hid hB1
  have HW1 := Lib.hid hw1
  clear hG hb1 hB1 hw1
  have c0 : w1.cell? ⟨w.heap.size, 0, none⟩ = some (.bool false) := HD1.out.cell 0
  have c1 : w1.cell? ⟨w.heap.size, 1, none⟩ = some (.string ⟨#[49, 48]⟩) := HD1.out.cell 1
  have c2 : w1.cell? ⟨w.heap.size, 2, none⟩ = some (.int .i64 1) := HD1.out.cell 2
  go_enter Tryz.func118, Tryz.ntmps118
  go_upto_region 1 with fail
  change Code.wp _ _ _ _ (w.alloc (.cells #[.bool false, .string ⟨#[49, 48]⟩, .int .i64 1] 156))
  rw [← HW1.out]
  go_wp2_with fail
  refine (fine_10 w1 1).mono ?_
  rintro r w2 ⟨rfl, hb2⟩
  have HB2 := Lib.hid (HB1.out.trans (hb2.mono HB1.out.size))
  have HD2 := Lib.hid (HD1.out.below hb2 HD1.out.lt)
  clear c0 c1 c2 hb2
  have c0 : w2.cell? ⟨w.heap.size, 0, none⟩ = some (.bool false) := HD2.out.cell 0
  have c1 : w2.cell? ⟨w.heap.size, 1, none⟩ = some (.string ⟨#[49, 48]⟩) := HD2.out.cell 1
  have c2 : w2.cell? ⟨w.heap.size, 2, none⟩ = some (.int .i64 1) := HD2.out.cell 2
  go_wp2_with fail
  refine (plain_10 w2).mono ?_
  rintro r w3 ⟨rfl, rfl⟩
  have hqr := quot_read w3 [49] (by decide) (by decide) (by decide) (by decide)
  rw [show limbs (dec ([49] : List UInt8) ([49] : List UInt8).length) = [1] by rw [show dec ([49] : List UInt8) ([49] : List UInt8).length = 1 by decide, limbs_small 1 (by decide) (by decide)]] at hqr
  have hqr : Calls Tryz.prog 66 #[.string ⟨#[49]⟩] w3 fun e w' => Below w3.heap.size w3 w' ∧ ∃ v, e = .returned (.tuple #[v, .bool true]) ∧ Limbs w' v [1] := hqr
  have HQR := Lib.hid hqr
  clear hqr
  go_wp2_with fail
  refine HQR.out.mono ?_
  rintro r w4 ⟨hb4, m4, rfl, hm4⟩
  have HB4 := Lib.hid (HB2.out.trans (hb4.mono HB2.out.size))
  have HD4 := Lib.hid (HD2.out.below hb4 HD2.out.lt)
  have HM4 := Lib.hid hm4
  clear c0 c1 c2 hb4 hm4 HQR
  have c0 : w4.cell? ⟨w.heap.size, 0, none⟩ = some (.bool false) := HD4.out.cell 0
  have c1 : w4.cell? ⟨w.heap.size, 1, none⟩ = some (.string ⟨#[49, 48]⟩) := HD4.out.cell 1
  have c2 : w4.cell? ⟨w.heap.size, 2, none⟩ = some (.int .i64 1) := HD4.out.cell 2
  have HG4 := Lib.hid (HG.out.step HB4.out)
  go_wp2_with fail
  refine (pow_0 w4 HG4.out).mono ?_
  rintro r w5 ⟨hb5, p5, rfl, hp5⟩
  have HB5 := Lib.hid (HB4.out.trans (hb5.mono HB4.out.size))
  have HD5 := Lib.hid (HD4.out.below hb5 HD4.out.lt)
  have HM5 := Lib.hid (HM4.out.below hb5)
  have HP5 := Lib.hid hp5
  clear c0 c1 c2 hb5 hp5
  have c0 : w5.cell? ⟨w.heap.size, 0, none⟩ = some (.bool false) := HD5.out.cell 0
  have c1 : w5.cell? ⟨w.heap.size, 1, none⟩ = some (.string ⟨#[49, 48]⟩) := HD5.out.cell 1
  have c2 : w5.cell? ⟨w.heap.size, 2, none⟩ = some (.int .i64 1) := HD5.out.cell 2
  have HT : Hid (∀ w' w'', (w'.cell? ⟨w.heap.size, 0, none⟩ = some (.bool false) ∧ Blk w' w.heap.size #[.bool false, .string ⟨#[49, 48]⟩, .int .i64 1] 156 ∧ Limbs w' m4 [1] ∧ Limbs w' p5 [1] ∧ Below w.heap.size w w') → Hid (Below w'.heap.size w' w'') → (w''.cell? ⟨w.heap.size, 0, none⟩ = some (.bool false) ∧ Blk w'' w.heap.size #[.bool false, .string ⟨#[49, 48]⟩, .int .i64 1] 156 ∧ Limbs w'' m4 [1] ∧ Limbs w'' p5 [1] ∧ Below w.heap.size w w'')) := Lib.hid (fun w' w'' h hk => by
    obtain ⟨_, h1, h2, h3, h4⟩ := h
    have h5 := h1.below hk.out h1.lt
    exact ⟨h5.cell 0, h5, h2.below hk.out, h3.below hk.out, h4.trans (hk.out.mono h4.size)⟩)
  have HS0 : Hid (((w5.drew).cell? ⟨w.heap.size, 0, none⟩ = some (.bool false) ∧ Blk (w5.drew) w.heap.size #[.bool false, .string ⟨#[49, 48]⟩, .int .i64 1] 156 ∧ Limbs (w5.drew) m4 [1] ∧ Limbs (w5.drew) p5 [1] ∧ Below w.heap.size w (w5.drew))) := Lib.hid ⟨(HD5.out.drewN 1).cell 0, HD5.out.drewN 1, HM5.out.below (below_drewN (Below.refl _ _) 1), HP5.out.below (below_drewN (Below.refl _ _) 1), below_drewN HB5.out 1⟩
  have HMU : Hid (∀ w', (w'.cell? ⟨w.heap.size, 0, none⟩ = some (.bool false) ∧ Blk w' w.heap.size #[.bool false, .string ⟨#[49, 48]⟩, .int .i64 1] 156 ∧ Limbs w' m4 [1] ∧ Limbs w' p5 [1] ∧ Below w.heap.size w w') → Calls Tryz.prog 177 #[m4, p5] w' fun e w'' => Below w'.heap.size w' w'' ∧ ∃ v, e = .returned v ∧ Limbs w'' v [1]) := Lib.hid (fun w' h => mul_one w' m4 p5 1 1 h.2.2.1 h.2.2.2.1 (by decide) (by decide) (by decide))
  have HRO : Hid (∀ w' v, (w'.cell? ⟨w.heap.size, 0, none⟩ = some (.bool false) ∧ Blk w' w.heap.size #[.bool false, .string ⟨#[49, 48]⟩, .int .i64 1] 156 ∧ Limbs w' m4 [1] ∧ Limbs w' p5 [1] ∧ Below w.heap.size w w') → Limbs w' v [1] → Calls Tryz.prog 175 #[.bool false, v, .int .i64 0, .bool false] w' fun e w'' => e = .returned (.int .u64 4607182418800017408) ∧ Below w'.heap.size w' w'') := Lib.hid (fun w' v h hv => round_one w' (HG.out.step h.2.2.2.2) v hv)
  have HX : Hid (∀ w', (w'.cell? ⟨w.heap.size, 0, none⟩ = some (.bool false) ∧ Blk w' w.heap.size #[.bool false, .string ⟨#[49, 48]⟩, .int .i64 1] 156 ∧ Limbs w' m4 [1] ∧ Limbs w' p5 [1] ∧ Below w.heap.size w w') → Below w.heap.size w w') := Lib.hid (fun w' h => h.2.2.2.2)
  clear c0 c1 c2
  go_upto_region 17 with fail
  go_region_held3 (fun w' => (w'.cell? ⟨w.heap.size, 0, none⟩ = some (.bool false) ∧ Blk w' w.heap.size #[.bool false, .string ⟨#[49, 48]⟩, .int .i64 1] 156 ∧ Limbs w' m4 [1] ∧ Limbs w' p5 [1] ∧ Below w.heap.size w w'))
    (first
      | exact HS0.out
      | assumption
      | (refine HT.out _ _ ?_ hb9; assumption))
    ((first
      | (go_at_call 177; refine (HMU.out _ (by first | exact HS0.out | assumption)).mono ?_; rintro e w9 ⟨hb9, v9, rfl, hv9⟩; replace hb9 := Lib.hid hb9)
      | (go_at_call 175; refine (HRO.out _ _ (by first | exact HS0.out | assumption | (refine HT.out _ _ ?_ (by assumption); first | exact HS0.out | assumption)) (by assumption)).mono ?_; rintro e w9 ⟨rfl, hb9⟩; replace hb9 := Lib.hid hb9)))
  all_goals (
    have hbz := Lib.hid (HX.out w9 (by assumption))
    go_wp2
    exact bodyPost_ret (v := .tuple #[.int .u64 4607182418800017408, .bool true]) (by simp [results, Tryz.results118, go_sem]) rfl ⟨rfl, hbz.out⟩)

set_option maxRecDepth 100000 in
set_option maxHeartbeats 1000000 in
theorem dread_15 (w : World) (hG : GW w) : Calls Tryz.prog 118 #[.agg #[.bool false, .string ⟨#[49, 53]⟩, .int .i64 1]] w fun e w' => e = .returned (.tuple #[.int .u64 4609434218613702656, .bool true]) ∧ Below w.heap.size w w' := by
  obtain ⟨w1, hw1⟩ : ∃ w1, w1 = w.alloc (.cells #[.bool false, .string ⟨#[49, 53]⟩, .int .i64 1] 156) := ⟨_, rfl⟩
  have hb1 : Below w.heap.size w w1 := by rw [hw1]; exact (Below.refl _ _).alloc (Nat.le_refl _) _
  have hB1 : Blk w1 w.heap.size #[.bool false, .string ⟨#[49, 53]⟩, .int .i64 1] 156 := by rw [hw1]; exact Blk.new _ _ _
  have HG := Lib.hid hG
  have HB1 := Lib.hid hb1
  have HD1 := Lib.hid hB1
  have HW1 := Lib.hid hw1
  clear hG hb1 hB1 hw1
  have c0 : w1.cell? ⟨w.heap.size, 0, none⟩ = some (.bool false) := HD1.out.cell 0
  have c1 : w1.cell? ⟨w.heap.size, 1, none⟩ = some (.string ⟨#[49, 53]⟩) := HD1.out.cell 1
  have c2 : w1.cell? ⟨w.heap.size, 2, none⟩ = some (.int .i64 1) := HD1.out.cell 2
  go_enter Tryz.func118, Tryz.ntmps118
  go_upto_region 1 with fail
  change Code.wp _ _ _ _ (w.alloc (.cells #[.bool false, .string ⟨#[49, 53]⟩, .int .i64 1] 156))
  rw [← HW1.out]
  go_wp2_with fail
  refine (fine_15 w1 1).mono ?_
  rintro r w2 ⟨rfl, hb2⟩
  have HB2 := Lib.hid (HB1.out.trans (hb2.mono HB1.out.size))
  have HD2 := Lib.hid (HD1.out.below hb2 HD1.out.lt)
  clear c0 c1 c2 hb2
  have c0 : w2.cell? ⟨w.heap.size, 0, none⟩ = some (.bool false) := HD2.out.cell 0
  have c1 : w2.cell? ⟨w.heap.size, 1, none⟩ = some (.string ⟨#[49, 53]⟩) := HD2.out.cell 1
  have c2 : w2.cell? ⟨w.heap.size, 2, none⟩ = some (.int .i64 1) := HD2.out.cell 2
  go_wp2_with fail
  refine (plain_15 w2).mono ?_
  rintro r w3 ⟨rfl, rfl⟩
  have hqr := quot_read w3 [49, 53] (by decide) (by decide) (by decide) (by decide)
  rw [show limbs (dec ([49, 53] : List UInt8) ([49, 53] : List UInt8).length) = [15] by rw [show dec ([49, 53] : List UInt8) ([49, 53] : List UInt8).length = 15 by decide, limbs_small 15 (by decide) (by decide)]] at hqr
  have hqr : Calls Tryz.prog 66 #[.string ⟨#[49, 53]⟩] w3 fun e w' => Below w3.heap.size w3 w' ∧ ∃ v, e = .returned (.tuple #[v, .bool true]) ∧ Limbs w' v [15] := hqr
  have HQR := Lib.hid hqr
  clear hqr
  go_wp2_with fail
  refine HQR.out.mono ?_
  rintro r w4 ⟨hb4, m4, rfl, hm4⟩
  have HB4 := Lib.hid (HB2.out.trans (hb4.mono HB2.out.size))
  have HD4 := Lib.hid (HD2.out.below hb4 HD2.out.lt)
  have HM4 := Lib.hid hm4
  clear c0 c1 c2 hb4 hm4 HQR
  have c0 : w4.cell? ⟨w.heap.size, 0, none⟩ = some (.bool false) := HD4.out.cell 0
  have c1 : w4.cell? ⟨w.heap.size, 1, none⟩ = some (.string ⟨#[49, 53]⟩) := HD4.out.cell 1
  have c2 : w4.cell? ⟨w.heap.size, 2, none⟩ = some (.int .i64 1) := HD4.out.cell 2
  have HG4 := Lib.hid (HG.out.step HB4.out)
  go_wp2_with fail
  refine (pow_1 w4 HG4.out).mono ?_
  rintro r w5 ⟨hb5, p5, rfl, hp5⟩
  have HB5 := Lib.hid (HB4.out.trans (hb5.mono HB4.out.size))
  have HD5 := Lib.hid (HD4.out.below hb5 HD4.out.lt)
  have HM5 := Lib.hid (HM4.out.below hb5)
  have HP5 := Lib.hid hp5
  clear c0 c1 c2 hb5 hp5
  have c0 : w5.cell? ⟨w.heap.size, 0, none⟩ = some (.bool false) := HD5.out.cell 0
  have c1 : w5.cell? ⟨w.heap.size, 1, none⟩ = some (.string ⟨#[49, 53]⟩) := HD5.out.cell 1
  have c2 : w5.cell? ⟨w.heap.size, 2, none⟩ = some (.int .i64 1) := HD5.out.cell 2
  have hl10 := len_any w5 p5 _ HP5.out (by decide)
  rw [show val [10] = 10 by decide, blen_uniq (n := 10) (k := 4) (by decide) (by decide) (by decide)] at hl10
  have hl10 : Calls Tryz.prog 90 #[p5] w5 fun e w' => w' = w5 ∧ e = .returned (.int .i64 4) := hl10
  have hl15 := len_any w5 m4 _ HM5.out (by decide)
  rw [show val [15] = 15 by decide, blen_uniq (n := 15) (k := 4) (by decide) (by decide) (by decide)] at hl15
  have hl15 : Calls Tryz.prog 90 #[m4] w5 fun e w' => w' = w5 ∧ e = .returned (.int .i64 4) := hl15
  have HL10 := Lib.hid hl10
  have HL15 := Lib.hid hl15
  have HSHL := Lib.hid (shl_15_70 w5 m4 HM5.out)
  clear hl10 hl15
  go_wp2_with fail
  refine HL10.out.mono ?_
  rintro r w6 ⟨rfl, rfl⟩
  go_wp2_with fail
  refine HL15.out.mono ?_
  rintro r w7 ⟨rfl, rfl⟩
  go_wp2_with fail
  refine HSHL.out.mono ?_
  rintro r w8 ⟨hb8, m8, rfl, hm8⟩
  have HB8 := Lib.hid (HB5.out.trans (hb8.mono HB5.out.size))
  have HD8 := Lib.hid (HD5.out.below hb8 HD5.out.lt)
  have HP8 := Lib.hid (HP5.out.below hb8)
  have HM8 := Lib.hid hm8
  clear c0 c1 c2 hb8 hm8 HL10 HL15 HSHL
  have HDV := Lib.hid (div_960 w8 m8 p5 HM8.out HP8.out)
  go_wp2_with fail
  refine HDV.out.mono ?_
  rintro r w9 ⟨hb9, q9, b9, k9, rfl, hq9⟩
  have HB9 := Lib.hid (HB8.out.trans (hb9.mono HB8.out.size))
  have HD9 := Lib.hid (HD8.out.below hb9 HD8.out.lt)
  have HQ9 := Lib.hid hq9
  clear hb9 hq9 HDV
  have c0 : w9.cell? ⟨w.heap.size, 0, none⟩ = some (.bool false) := HD9.out.cell 0
  have c1 : w9.cell? ⟨w.heap.size, 1, none⟩ = some (.string ⟨#[49, 53]⟩) := HD9.out.cell 1
  have c2 : w9.cell? ⟨w.heap.size, 2, none⟩ = some (.int .i64 1) := HD9.out.cell 2
  have HRD := Lib.hid (round_half w9 (HG.out.step HB9.out) q9 HQ9.out)
  go_wp2_with fail
  refine HRD.out.mono ?_
  rintro r wa ⟨rfl, hba⟩
  have HBa := Lib.hid (HB9.out.trans (hba.mono HB9.out.size))
  clear hba
  go_wp2
  exact bodyPost_ret (v := .tuple #[.int .u64 4609434218613702656, .bool true]) (by simp [results, Tryz.results118, go_sem]) rfl ⟨rfl, HBa.out⟩
end Go.Proofs.YtbhfoelnoddlkaaGreatDoor.D

/-
  ecma's parsed number: add: walked.
-/
namespace Go.Proofs.YtbhfoelnoddlkaaGreatDoor.D
open Go Go.RowKit

/-- A number taken apart, in block q; its digits' row lies at B or above. -/
def PS (B q : Nat) (neg less : Bool) (L : List UInt8) (whole power : Nat) (w : World) : Prop :=
  B ≤ q ∧ ∃ v, Blk w q #[.bool neg, .bool less, v, .int .i64 (whole : Int), .int .i64 (power : Int)] 190 ∧ Own B w v L ∧ v.ownBlock ≠ some q

set_option maxRecDepth 100000 in
set_option maxHeartbeats 1000000 in
theorem add_any (B q : Nat) (neg less : Bool) (L : List UInt8) (whole power : Nat) (c : UInt8) (ahead : Bool) (w : World) (h : PS B q neg less L whole power w) (hBw : B ≤ w.heap.size) (hL : L.length ≤ 100) (hw : whole ≤ 100) :
    Calls Tryz.prog 171 #[.pointer (some ⟨q, 0, none⟩), .int .u8 (c.toNat : Int), .bool ahead] w fun e w' => e = .returned (.tuple #[]) ∧ PS B q neg less (L ++ [c]) (if ahead then whole + 1 else whole) power w' ∧ Below B w w' := by
  obtain ⟨i0, hi, hz0, hz1, hz2⟩ := info5'
  have HI := Lib.hid hi
  obtain ⟨hBq, v, hq, hown, hne⟩ := h
  have hcc : Lib.byteCells (L ++ [c]) = Lib.byteCells L ++ [.int .u8 (c.toNat : Int)] := by simp [Lib.byteCells]
  generalize (c.toNat : Int) = x at hcc ⊢
  have c2 := hq.cell 2
  have f2 := hq.free 2
  clear hi
  go_enter Tryz.func171, Tryz.ntmps171
  go_wp2_with (at_builtin; refine wpList_append_own _ rfl _ _ 22 rfl B 5 i0 (.int .u8 0) 1 1 Tryz.underlying22 HI.out hz0 hz1 hz2 rfl (by decide) _ _ _ rfl (World.ownsRow.alloc hown _) ⟨w.heap.size, 0, none⟩ 1 1 [.int .u8 x] rfl rfl ?c1 ?c2 ?c3 ?c4 ?c5 ?_)
  case c1 =>
    intro j u hj
    match j, hj with
    | 0, hj => simp at hj; subst hj; simp [Addr.add]
  case c2 => intro u hu; simp at hu; subst hu; rfl
  case c3 => unfold maxLen; omega
  case c4 => omega
  case c5 => simp; omega
  intro v' w2 hown' hgrow _
  have hlt : q < w.heap.size := hq.lt
  have hq2 : Blk w2 q #[.bool neg, .bool less, v, .int .i64 (whole : Int), .int .i64 (power : Int)] 190 := by
    unfold Blk at *
    rw [hgrow.block q (by simp; omega) (fun e => hne e.symm), Lib.alloc_old w _ q hlt]
    exact hq
  have hne' : v'.ownBlock ≠ some q := by
    intro e
    have h1 := (World.ownsRow.lt hown' q e)
    obtain ⟨hl, h0 | ⟨g, cap, cur, hv, hBg, hg, r⟩⟩ := hown'
    · omega
    · rw [hv] at e
      simp [Value.ownBlock] at e
      subst e
      unfold Blk at hq2
      rw [hg] at hq2
      simp at hq2
  have hb2 : Below B w w2 := ((Below.refl B w).alloc hBw _).grown hgrow (by simp; omega) (fun k hk => (World.ownsRow.lt hown k hk).1)
  have hO2 : Own B w2 v' (L ++ [c]) := by
    unfold Own
    rw [List.length_append, hcc]
    exact hown'
  have hq3 := hq2.set 2 v'
  have hO3 : Own B (w2.setCell ⟨q, 2, none⟩ v') v' (L ++ [c]) := by
    obtain ⟨hl, h0 | ⟨g, cap, cur, hv, hBg, hg, r⟩⟩ := hO2
    · exact ⟨hl, .inl h0⟩
    · refine ⟨hl, .inr ⟨g, cap, cur, hv, hBg, ?_, r⟩⟩
      rw [Below.heap_setCell _ _ _ _ (by intro e; apply hne'; rw [hv]; simp at e; subst e; rfl)]
      exact hg
  have hb3 := hb2.setCell (p := ⟨q, 2, none⟩) hBq v'
  have hfin : ∀ wh : Nat, Own B ((w2.setCell ⟨q, 2, none⟩ v').setCell ⟨q, 3, none⟩ (.int .i64 (wh : Int))) v' (L ++ [c]) := by
    intro wh
    obtain ⟨hl, h0 | ⟨g, cap, cur, hv, hBg, hg, r⟩⟩ := hO3
    · exact ⟨hl, .inl h0⟩
    · refine ⟨hl, .inr ⟨g, cap, cur, hv, hBg, ?_, r⟩⟩
      rw [Below.heap_setCell _ _ _ _ (by intro e; apply hne'; rw [hv]; simp at e; subst e; rfl)]
      exact hg
  have d2 := hq2.cell 2
  have g2 := hq2.free 2
  have d3 := hq3.cell 3
  have g3 := hq3.free 3
  simp at d3
  have hv' : ∀ x, v' ≠ .agg x := by
    intro x e
    rcases hown'.2 with ⟨h, _⟩ | ⟨g, cap, cur, h, _⟩ <;> rw [h] at e <;> simp at e
  obtain ⟨a1, a2, a3, rfl⟩ : ∃ a1 a2 a3, v' = .slice a1 a2 a3 := by
    rcases hown'.2 with ⟨h, _⟩ | ⟨g, cap, cur, h, _⟩
    · exact ⟨_, _, _, h⟩
    · exact ⟨_, _, _, h⟩
  have hwr : IntKind.i64.wrap ((whole : Int) + 1) = ((whole + 1 : Nat) : Int) := by rw [IntWalk.i64_in _ (by omega)]; simp
  have HFA : Hid (PS B q neg less (L ++ [c]) whole power (w2.setCell ⟨q, 2, none⟩ (.slice a1 a2 a3))) := Lib.hid ⟨hBq, _, hq3, hO3, hne'⟩
  have HFB : Hid (PS B q neg less (L ++ [c]) (whole + 1) power ((w2.setCell ⟨q, 2, none⟩ (.slice a1 a2 a3)).setCell ⟨q, 3, none⟩ (.int .i64 ((whole + 1 : Nat) : Int)))) := Lib.hid ⟨hBq, _, hq3.set 3 _, hfin _, hne'⟩
  have HB3 := Lib.hid hb3
  have HB4 := Lib.hid (hb3.setCell (p := ⟨q, 3, none⟩) hBq (.int .i64 ((whole + 1 : Nat) : Int)))
  clear hown' hgrow hown hq hq2 hq3 hO2 hO3 hb2 hb3 hfin c2 f2 hv' hne' hne hcc
  cases ahead
  · go_wp2
    go_end0
    exact ⟨rfl, HFA.out, HB3.out⟩
  · go_wp2
    go_end0
    exact ⟨rfl, HFB.out, HB4.out⟩
end Go.Proofs.YtbhfoelnoddlkaaGreatDoor.D

/-
  ecma's parsed number: next, at the steps that are met: walked (printed by wip/tools/genj2.py).
-/
namespace Go.Proofs.YtbhfoelnoddlkaaGreatDoor.D
open Go Go.RowKit

def PN (B q : Nat) (st : Int) (c : UInt8) (st' : Int) (neg less less' : Bool) (L L' : List UInt8) (whole whole' power power' : Nat) : Prop :=
  ∀ w, PS B q neg less L whole power w → B ≤ w.heap.size → Calls Tryz.prog 116 #[.pointer (some ⟨q, 0, none⟩), .int .i8 st, .int .u8 (c.toNat : Int)] w fun e w' => e = .returned (.tuple #[.int .i8 st', .bool true]) ∧ PS B q neg less' L' whole' power' w' ∧ Below B w w'

set_option maxRecDepth 100000 in
theorem digit_yes (w : World) (c : Int) (h : 48 ≤ c ∧ c ≤ 57) : Calls Tryz.prog 146 #[.int .u8 c] w fun e w' => e = .returned (.bool true) ∧ w' = w := by
  obtain ⟨h1, h2⟩ := h
  go_enter Tryz.func146, Tryz.ntmps146
  go_wp2
  go_ret
  exact ⟨rfl, rfl⟩
set_option maxRecDepth 100000 in
theorem digit_no (w : World) (c : Int) (h : c < 48 ∨ 57 < c) (h0 : 0 ≤ c) : Calls Tryz.prog 146 #[.int .u8 c] w fun e w' => e = .returned (.bool false) ∧ w' = w := by
  rcases h with h | h
  · go_enter Tryz.func146, Tryz.ntmps146
    go_wp2
    go_ret
    exact ⟨rfl, rfl⟩
  · have h1 : 48 ≤ c := by omega
    have h2 : ¬ c ≤ 57 := by omega
    go_enter Tryz.func146, Tryz.ntmps146
    go_wp2
    go_ret
    exact ⟨rfl, rfl⟩

set_option maxRecDepth 100000 in
theorem next_start1 (B q : Nat) (neg less : Bool) (L : List UInt8) (whole power : Nat) (hL : L.length ≤ 100) (hw : whole ≤ 100) : PN B q 0 49 3 neg less less L (L ++ [49]) whole (whole + 1) power power := by
  intro w h hBw
  change Calls _ _ #[_, _, .int .u8 49] _ _
  have HA := Lib.hid (add_any B q neg less L whole power 49 true w h hBw hL hw)
  clear h
  go_enter Tryz.func116, Tryz.ntmps116
  go_wp2_with fail
  refine HA.out.mono ?_
  rintro r w1 ⟨rfl, hp, hb⟩
  have HP := Lib.hid hp
  have HB := Lib.hid hb
  clear hp hb
  go_wp2_with fail
  refine (digit_yes w1 49 (by decide)).mono ?_
  rintro r w2 ⟨rfl, rfl⟩
  go_wp2
  exact bodyPost_ret (v := .tuple #[.int .i8 3, .bool true]) (by simp [results, Tryz.results116, go_sem]) rfl ⟨rfl, HP.out, HB.out⟩

set_option maxRecDepth 100000 in
theorem next_whole5 (B q : Nat) (neg less : Bool) (L : List UInt8) (whole power : Nat) (hL : L.length ≤ 100) (hw : whole ≤ 100) : PN B q 3 53 3 neg less less L (L ++ [53]) whole (whole + 1) power power := by
  intro w h hBw
  change Calls _ _ #[_, _, .int .u8 53] _ _
  have HA := Lib.hid (add_any B q neg less L whole power 53 true w h hBw hL hw)
  clear h
  go_enter Tryz.func116, Tryz.ntmps116
  go_wp2_with fail
  refine (digit_yes w 53 (by decide)).mono ?_
  rintro r w2 ⟨rfl, rfl⟩
  go_wp2_with fail
  refine HA.out.mono ?_
  rintro r w1 ⟨rfl, hp, hb⟩
  have HP := Lib.hid hp
  have HB := Lib.hid hb
  clear hp hb
  go_wp2
  exact bodyPost_ret (v := .tuple #[.int .i8 3, .bool true]) (by simp [results, Tryz.results116, go_sem]) rfl ⟨rfl, HP.out, HB.out⟩

set_option maxRecDepth 100000 in
theorem next_wholeP (B q : Nat) (neg less : Bool) (L : List UInt8) (whole power : Nat) : PN B q 3 46 4 neg less less L L whole whole power power := by
  intro w h hBw
  change Calls _ _ #[_, _, .int .u8 46] _ _
  have HP := Lib.hid h
  have HB := Lib.hid (Below.refl B w)
  clear h
  go_enter Tryz.func116, Tryz.ntmps116
  go_wp2_with fail
  refine (digit_no w 46 (by decide) (by decide)).mono ?_
  rintro r w2 ⟨rfl, rfl⟩
  go_wp2
  exact bodyPost_ret (v := .tuple #[.int .i8 4, .bool true]) (by simp [results, Tryz.results116, go_sem]) rfl ⟨rfl, HP.out, HB.out⟩

set_option maxRecDepth 100000 in
theorem next_wholeE (B q : Nat) (neg less : Bool) (L : List UInt8) (whole power : Nat) : PN B q 3 101 6 neg less less L L whole whole power power := by
  intro w h hBw
  change Calls _ _ #[_, _, .int .u8 101] _ _
  have HP := Lib.hid h
  have HB := Lib.hid (Below.refl B w)
  clear h
  go_enter Tryz.func116, Tryz.ntmps116
  go_wp2_with fail
  refine (digit_no w 101 (by decide) (by decide)).mono ?_
  rintro r w2 ⟨rfl, rfl⟩
  go_wp2
  exact bodyPost_ret (v := .tuple #[.int .i8 6, .bool true]) (by simp [results, Tryz.results116, go_sem]) rfl ⟨rfl, HP.out, HB.out⟩

set_option maxRecDepth 100000 in
theorem next_point0 (B q : Nat) (neg less : Bool) (L : List UInt8) (whole power : Nat) (hL : L.length ≤ 100) (hw : whole ≤ 100) : PN B q 4 48 5 neg less less L (L ++ [48]) whole whole power power := by
  intro w h hBw
  change Calls _ _ #[_, _, .int .u8 48] _ _
  have HA := Lib.hid (add_any B q neg less L whole power 48 false w h hBw hL hw)
  clear h
  go_enter Tryz.func116, Tryz.ntmps116
  go_wp2_with fail
  refine HA.out.mono ?_
  rintro r w1 ⟨rfl, hp, hb⟩
  have HP := Lib.hid hp
  have HB := Lib.hid hb
  clear hp hb
  go_wp2_with fail
  refine (digit_yes w1 48 (by decide)).mono ?_
  rintro r w2 ⟨rfl, rfl⟩
  go_wp2
  exact bodyPost_ret (v := .tuple #[.int .i8 5, .bool true]) (by simp [results, Tryz.results116, go_sem]) rfl ⟨rfl, HP.out, HB.out⟩

set_option maxRecDepth 100000 in
theorem next_powerM (B q : Nat) (neg less : Bool) (L : List UInt8) (whole power : Nat) : PN B q 6 45 7 neg less true L L whole whole power power := by
  intro w h hBw
  change Calls _ _ #[_, _, .int .u8 45] _ _
  obtain ⟨hBq, v, hq, hown, hne⟩ := h
  have c1 := hq.cell 1
  have f1 := hq.free 1
  have hO : Own B (w.setCell ⟨q, 1, none⟩ (.bool true)) v L := by
    obtain ⟨hl, h0 | ⟨g, cap, cur, hv, hBg, hg, r⟩⟩ := hown
    · exact ⟨hl, .inl h0⟩
    · refine ⟨hl, .inr ⟨g, cap, cur, hv, hBg, ?_, r⟩⟩
      rw [Below.heap_setCell _ _ _ _ (by intro e; apply hne; rw [hv]; simp at e; subst e; rfl)]
      exact hg
  have HP : Hid (PS B q neg true L whole power (w.setCell ⟨q, 1, none⟩ (.bool true))) := Lib.hid ⟨hBq, v, hq.set 1 _, hO, hne⟩
  have HB := Lib.hid ((Below.refl B w).setCell (p := ⟨q, 1, none⟩) hBq (.bool true))
  clear hq hown hO hne
  go_enter Tryz.func116, Tryz.ntmps116
  go_wp2
  exact bodyPost_ret (v := .tuple #[.int .i8 7, .bool true]) (by simp [results, Tryz.results116, go_sem]) rfl ⟨rfl, HP.out, HB.out⟩

set_option maxRecDepth 100000 in
theorem next_plus1 (B q : Nat) (neg less : Bool) (L : List UInt8) (whole : Nat) : PN B q 7 49 8 neg less less L L whole whole 0 1 := by
  intro w h hBw
  change Calls _ _ #[_, _, .int .u8 49] _ _
  obtain ⟨hBq, v, hq, hown, hne⟩ := h
  have c4 : w.cell? ⟨q, 4, none⟩ = some (.int .i64 0) := hq.cell 4
  have f4 := hq.free 4
  have hO : Own B (w.setCell ⟨q, 4, none⟩ (.int .i64 1)) v L := by
    obtain ⟨hl, h0 | ⟨g, cap, cur, hv, hBg, hg, r⟩⟩ := hown
    · exact ⟨hl, .inl h0⟩
    · refine ⟨hl, .inr ⟨g, cap, cur, hv, hBg, ?_, r⟩⟩
      rw [Below.heap_setCell _ _ _ _ (by intro e; apply hne; rw [hv]; simp at e; subst e; rfl)]
      exact hg
  have HP : Hid (PS B q neg less L whole 1 (w.setCell ⟨q, 4, none⟩ (.int .i64 1))) := Lib.hid ⟨hBq, v, hq.set 4 _, hO, hne⟩
  have HB := Lib.hid ((Below.refl B w).setCell (p := ⟨q, 4, none⟩) hBq (.int .i64 1))
  clear hq hown hO hne
  go_enter Tryz.func116, Tryz.ntmps116
  go_wp2_with fail
  refine (digit_yes _ 49 (by decide)).mono ?_
  rintro r w2 ⟨rfl, rfl⟩
  go_wp2
  exact bodyPost_ret (v := .tuple #[.int .i8 8, .bool true]) (by simp [results, Tryz.results116, go_sem]) rfl ⟨rfl, HP.out, HB.out⟩
end Go.Proofs.YtbhfoelnoddlkaaGreatDoor.D

