/-
  Of the proof that the law DiagDeep answers true at every row of bytes: a part, without conditions of its own.
-/
import Derived.Test.YtbhfoelnoddlkaaGreatDoorPart39
import Derived.Test.YtbhfoelnoddlkaaGreatDoorPart13
import Derived.Test.YtbhfoelnoddlkaaGreatDoorPart34
import Derived.Test.YtbhfoelnoddlkaaGreatDoorPart36
import Derived.Test.YtbhfoelnoddlkaaGreatDoorPart35
set_option linter.unusedVariables false
set_option linter.unusedSimpArgs false
/-
  The reader: number at 1.0 and 15e-1: walked (printed by wip/tools/genjd.py).
-/
namespace Go.Proofs.YtbhfoelnoddlkaaGreatDoor.D
open Go Go.RowKit Limb
attribute [local go_sem high] run_str strL_size run_sub run_sub_from

def fHalf : F := .node [49, 46, 53] 0 (fun _ => .stop)
theorem leaf_half (w : World) (P : Nat → Prop) : TreeP w P fHalf 0 (.agg halfV) :=
  ⟨4, 0, _, _, 0, [], _, 0, rfl, ⟨⟨rfl, .inr (.inr (.inl ⟨rfl, rfl, rfl, rfl, rfl, rfl⟩))⟩, fun b o k c e => by simp at e⟩, ⟨fun e => by omega, fun e => by omega, fun _ => rfl, fun e => by omega, fun e => by omega, fun e => by omega, fun e => by omega⟩, .inl ⟨rfl, rfl, rfl⟩⟩

set_option maxRecDepth 100000 in
set_option maxHeartbeats 4000000 in
theorem number_1p0 (S : List UInt8) (a ar : Nat) (hl : a + 3 ≤ S.length) (hS : S.length ≤ 1099511627776) (hw : sub S a (a + 3) = [49, 46, 48]) (hnx : a + 3 < S.length → S.getD (a + 3) 0 ∉ numEnd) :
    RdsF 34 [.int .i64 (ar : Int)] S a (a + 3) (.node [dig 1] 1 (fun _ => .stop)) 0 false true := by
  intro w p hG hp hr
  have hch : ∀ i, i < 3 → S.getD (a + i) 0 = ([49, 46, 48] : List UInt8).getD i 0 := fun i hi => by rw [← hw, sub_at S a (a + 3) i (by omega)]
  have hs1 : sub S a (a + 1) = [49] := by
    have h : sub S a (a + 1) = (sub S a (a + 3)).take 1 := by
      unfold sub
      rw [List.take_take]
      congr 1
      omega
    rw [h, hw]; rfl
  obtain ⟨w0, hw0⟩ : ∃ w0, w0 = w.alloc (.cells zeroV 33) := ⟨_, rfl⟩
  have hb : Below w.heap.size w w0 := by rw [hw0]; exact (Below.refl _ _).alloc (Nat.le_refl _) _
  have hX : Blk w0 w.heap.size zeroV 33 := by rw [hw0]; exact Blk.new _ _ _
  have hr0 : Rd w0 p S a false := Blk.below hr hb (Blk.lt hr)
  have hpX : w.heap.size ≠ p := by have := Blk.lt hr; omega
  have hE0 : Ex (fun k => k = p) w.heap.size w w0 := Ex.of_below hb
  have hsz0 : w.heap.size < w0.heap.size := hX.lt
  have c1 := hr0.at1
  have HG := Lib.hid hG
  have HW0 := Lib.hid hw0
  have HR0 := Lib.hid hr0
  have HX0 := Lib.hid hX
  have HE0 := Lib.hid hE0
  have HCH := Lib.hid hch
  have HS1 := Lib.hid hs1
  have HSN := Lib.hid hw
  have HNX := Lib.hid hnx
  clear hG hw0 hb hX hr0 hr hE0 hch hs1 hw hnx
  obtain ⟨A1, hA1⟩ : ∃ x, x = a + 1 := ⟨_, rfl⟩
  have gA1 : a + 1 ≤ A1 := by omega
  have lA1 : A1 ≤ a + 1 := by omega
  have hleA1 : a ≤ A1 := by omega
  have hlnA1 : A1 ≤ S.length := by omega
  have HCA1 : Hid (S.getD A1 0 = 46) := Lib.hid (by rw [hA1]; exact HCH.out 1 (by decide))
  have HSA1 := Lib.hid HS1.out
  rw [← hA1] at HSA1
  clear hA1
  obtain ⟨A2, hA2⟩ : ∃ x, x = a + 2 := ⟨_, rfl⟩
  have gA2 : a + 2 ≤ A2 := by omega
  have lA2 : A2 ≤ a + 2 := by omega
  have hleA2 : a ≤ A2 := by omega
  have hlnA2 : A2 ≤ S.length := by omega
  have HCA2 : Hid (S.getD A2 0 = 48) := Lib.hid (by rw [hA2]; exact HCH.out 2 (by decide))
  clear hA2
  obtain ⟨A3, hA3⟩ : ∃ x, x = a + 3 := ⟨_, rfl⟩
  rw [← hA3]
  have gA3 : a + 3 ≤ A3 := by omega
  have lA3 : A3 ≤ a + 3 := by omega
  have hleA3 : a ≤ A3 := by omega
  have hlnA3 : A3 ≤ S.length := by omega
  have HNA := Lib.hid HNX.out
  rw [← hA3] at HNA
  clear hA3
  have HSZ := Lib.hid HSN.out
  rw [← (show A3 = a + 3 by omega)] at HSZ
  clear HNX HS1 HSN
  have HCA0 : Hid (S.getD a 0 = 49) := Lib.hid (HCH.out 0 (by decide))
  show Calls _ _ #[_, _] _ _
  go_enter Tryz.func34, Tryz.ntmps34
  go_upto_region 1 with fail
  change Code.wp _ _ _ _ (w.alloc (.cells zeroV 33))
  rw [← HW0.out]
  go_wp2_with fail
  refine (is_no w0 p S a false HR0.out 45 (fun _ => ch_ne (c := 45) (by rw [HCA0.out]; decide))).mono ?_
  rintro e w1 ⟨rfl, n1, rfl⟩
  have HR1 := Lib.hid (HR0.out.drewN n1)
  have HX1 := Lib.hid (HX0.out.drewN n1)
  have HE1 := Lib.hid (HE0.out.drewN n1)
  have hsz1 : w.heap.size < (w0.drewN n1).heap.size := hsz0
  generalize w0.drewN n1 = w1 at HR1 HX1 HE1 hsz1 ⊢
  clear c1 HW0 HR0 HX0 HE0 hsz0
  have c1 := HR1.out.at1
  go_wp2_with fail
  clear c1
  refine (is_no w1 p S a false HR1.out 48 (fun _ => ch_ne (c := 48) (by rw [HCA0.out]; decide))).mono ?_
  rintro e w2 ⟨rfl, n2, rfl⟩
  have HR2 := Lib.hid (HR1.out.drewN n2)
  have HX2 := Lib.hid (HX1.out.drewN n2)
  have HE2 := Lib.hid (HE1.out.drewN n2)
  have hsz2 : w.heap.size < (w1.drewN n2).heap.size := hsz1
  generalize w1.drewN n2 = w2 at HR2 HX2 HE2 hsz2 ⊢
  clear HR1 HX1 HE1 hsz1
  go_wp2_with fail
  refine (digits_any w2 p S a A1 false HR2.out tenL (by omega) (by omega) hS (fun i h1 h2 => by
    have h := HCH.out (i - a) (by omega)
    rw [show a + (i - a) = i by omega] at h
    rw [h]
    rcases (by omega : i - a = 0) with h3 <;> rw [h3] <;> decide) (fun _ => by rw [HCA1.out]; decide) 1 (by omega)).mono ?_
  rintro e w3 ⟨rfl, hr3⟩
  try rw [show A1 + 1 = A2 by omega] at hr3
  have HR3 := Lib.hid hr3.1
  have HX3 := Lib.hid (hr3.2.blk HX2.out hsz2 hpX)
  have HE3 := Lib.hid (HE2.out.trans (hr3.2.mono (by omega) (fun _ h => h)))
  have hsz3 : w.heap.size < w3.heap.size := HX3.out.lt
  clear hr3 HR2 HX2 HE2 hsz2
  have c0 := HR3.out.at0
  have c1 := HR3.out.at1
  go_upto_region 11 with fail
  have HT : Hid (∀ w, Calls Tryz.prog 64 #[.string (strL (sub S a A1))] w fun e w' => e = .returned (.tuple #[.int .u64 ((1 : Nat) : Int), .bool true]) ∧ Below w.heap.size w w') := Lib.hid (by
    intro w
    rw [HSA1.out]
    have h := tagged_any w [49] ⟨by decide, by decide, by decide, by decide⟩ (by decide)
    rw [show dec ([49] : List UInt8) ([49] : List UInt8).length = 1 by decide] at h
    exact h)
  go_region_with (go_at_call 64; go_must (refine (HT.out _).mono ?_; rintro e w90 ⟨rfl, hb9⟩; have HB9 := Lib.hid hb9; clear hb9))
  all_goals (
    have hb : Below w3.heap.size w3 w90 := (below_drewN (Below.refl w3.heap.size w3) 1).trans HB9.out
    have HR4 : Hid (Rd w90 p S A1 false) := Lib.hid (Blk.below HR3.out hb (Blk.lt HR3.out))
    have HX4 := Lib.hid (HX3.out.below hb hsz3)
    have HE4 := Lib.hid (HE3.out.trans (Ex.of_below (hb.mono (Nat.le_of_lt hsz3))))
    have hsz4 : w.heap.size < w90.heap.size := HX4.out.lt
    clear hb HB9 HR3 HX3 HE3 hsz3 c0 c1 HT
    generalize w90 = w4 at HR4 HX4 HE4 hsz4 ⊢
    go_wp2_with fail
    refine (see_no w4 p S A1 false HR4.out [40] (fun _ => by rw [HCA1.out]; decide)).mono ?_
    rintro e w5 ⟨rfl, n5, rfl⟩
    have HR5 := Lib.hid (HR4.out.drewN n5)
    have HX5 := Lib.hid (HX4.out.drewN n5)
    have HE5 := Lib.hid (HE4.out.drewN n5)
    have hsz5 : w.heap.size < (w4.drewN n5).heap.size := hsz4
    generalize w4.drewN n5 = w5 at HR5 HX5 HE5 hsz5 ⊢
    clear HR4 HX4 HE4 hsz4
    go_wp2_with fail
    refine (is_yes w5 p S A1 false HR5.out (by omega) hS 46 (by unfold ch; rw [HCA1.out]; rfl)).mono ?_
    rintro e w6 ⟨rfl, hr6⟩
    try rw [show A1 + 1 = A2 by omega] at hr6
    have HR6 := Lib.hid hr6.1
    have HX6 := Lib.hid (hr6.2.blk HX5.out hsz5 hpX)
    have HE6 := Lib.hid (HE5.out.trans (hr6.2.mono (by omega) (fun _ h => h)))
    have hsz6 : w.heap.size < w6.heap.size := HX6.out.lt
    clear hr6 HR5 HX5 HE5 hsz5
    go_wp2_with fail
    refine (digits_any w6 p S A2 A3 false HR6.out tenL (by omega) (by omega) hS (fun i h1 h2 => by
      have h := HCH.out (i - a) (by omega)
      rw [show a + (i - a) = i by omega] at h
      rw [h]
      rcases (by omega : i - a = 2) with h3 <;> rw [h3] <;> decide) (fun h h2 => HNA.out h (ten_end h2)) 1 (by omega)).mono ?_
    rintro e w7 ⟨rfl, hr7⟩
    try rw [show A1 + 1 = A2 by omega] at hr7
    have HR7 := Lib.hid hr7.1
    have HX7 := Lib.hid (hr7.2.blk HX6.out hsz6 hpX)
    have HE7 := Lib.hid (HE6.out.trans (hr7.2.mono (by omega) (fun _ h => h)))
    have hsz7 : w.heap.size < w7.heap.size := HX7.out.lt
    clear hr7 HR6 HX6 HE6 hsz6
    go_wp2_with fail
    refine (see_no w7 p S A3 false HR7.out [101, 69] (fun h h2 => HNA.out h ((by decide : ([101, 69] : List UInt8) ⊆ numEnd) h2))).mono ?_
    rintro e w8 ⟨rfl, n8, rfl⟩
    have HR8 := Lib.hid (HR7.out.drewN n8)
    have HX8 := Lib.hid (HX7.out.drewN n8)
    have HE8 := Lib.hid (HE7.out.drewN n8)
    have hsz8 : w.heap.size < (w7.drewN n8).heap.size := hsz7
    generalize w7.drewN n8 = w8 at HR8 HX8 HE8 hsz8 ⊢
    clear HR7 HX7 HE7 hsz7
    have c2 := HR8.out.at2
    have f2 : w8.frozen? ⟨p, 2, none⟩ = false := Blk.free HR8.out 2
    have HR9 := Lib.hid (HR8.out.set2 true)
    have HX9 := Lib.hid (HX8.out.set_other ⟨p, 2, none⟩ (.bool true) hpX)
    have HE9 := Lib.hid (HE8.out.setCell p 2 (.inl rfl) (.bool true))
    have hsz9 : w.heap.size < (w8.setCell ⟨p, 2, none⟩ (.bool true)).heap.size := HX9.out.lt
    go_upto_region 25 with fail
    generalize w8.setCell ⟨p, 2, none⟩ (.bool true) = w9 at HR9 HX9 HE9 hsz9 ⊢
    clear c2 f2 HR8 HX8 HE8 hsz8
    have c0 := HR9.out.at0
    have c1 := HR9.out.at1
    go_upto_region 28 with fail
    have HGj := Lib.hid (HG.out.ex HE9.out hp)
    have HER : Hid (Calls Tryz.prog 69 #[.string (strL (sub S a A3))] w9.drew fun e w' => e = .returned (.tuple #[.int .u64 4607182418800017408, .nilIface]) ∧ Below w9.drew.heap.size w9.drew w') := Lib.hid (by
      rw [HSZ.out]
      exact eread_10 w9.drew (HGj.out.step (below_drewN (Below.refl _ _) 1)))
    go_region_with (go_at_call 69; go_must (refine HER.out.mono ?_; rintro e w91 ⟨rfl, hb91⟩; have HB91 := Lib.hid hb91; clear hb91))
    all_goals (
      have hb : Below w9.heap.size w9 w91 := (below_drewN (Below.refl w9.heap.size w9) 1).trans HB91.out
      have HR91 : Hid (Rd w91 p S A3 true) := Lib.hid (Blk.below HR9.out hb (Blk.lt HR9.out))
      have HX91 := Lib.hid (HX9.out.below hb hsz9)
      have HE91 := Lib.hid (HE9.out.trans (Ex.of_below (hb.mono (Nat.le_of_lt hsz9))))
      have hsz91 : w.heap.size < w91.heap.size := HX91.out.lt
      have HOF := Lib.hid (of_one w91 (HG.out.ex HE91.out hp))
      clear hb HB91 HR9 HX9 HE9 hsz9 c0 c1 HER HGj
      go_wp2_with fail
      refine HOF.out.mono ?_
      rintro e w92 ⟨hb2, nb, no, nc, rfl, hl2, hbo⟩
      have HR92 : Hid (Rd w92 p S A3 true) := Lib.hid (Blk.below HR91.out hb2 (Blk.lt HR91.out))
      have HX92 := Lib.hid (HX91.out.below hb2 hsz91)
      have HE92 := Lib.hid (HE91.out.trans (Ex.of_below (hb2.mono (Nat.le_of_lt hsz91))))
      dsimp only
      go_step
      refine wpList_store_row rfl 33 _ _ rfl w.heap.size (vCells 3 0 false (.slice (some ⟨nb, no, none⟩) 1 nc) 0 0 (strL []) (.slice none 0 0)) rfl rfl 33 _ HX92.out (by kernel_rfl) rfl (vCells_one _ _ _ _ _ _ _ _ rfl rfl) ?_
      have HFIN : Hid (Blk (w92.setRow w.heap.size (vCells 3 0 false (.slice (some ⟨nb, no, none⟩) 1 nc) 0 0 (strL []) (.slice none 0 0))) w.heap.size (vCells 3 0 false (.slice (some ⟨nb, no, none⟩) 1 nc) 0 0 (strL []) (.slice none 0 0)) 33) := Lib.hid (setRow_heap _ _ _ _ _ _ HX92.out)
      have HLEAF : Hid (TreeP (w92.setRow w.heap.size (vCells 3 0 false (.slice (some ⟨nb, no, none⟩) 1 nc) 0 0 (strL []) (.slice none 0 0))) (fun k => w.heap.size ≤ k) (.node [dig 1] 1 (fun _ => .stop)) 0 (.agg (vCells 3 0 false (.slice (some ⟨nb, no, none⟩) 1 nc) 0 0 (strL []) (.slice none 0 0)))) := Lib.hid (leaf_int _ _ 1 _ _ _ _ (hl2.setRow HX92.out (by intro i x; match i with | 0 | 1 | 2 | 3 | 4 | 5 | 6 | 7 => simp [zeroV] | i + 8 => simp [zeroV]) _ |> fun h => by rw [limbs_small 1 (by decide) (by decide)]; exact h) (by intro b o k c e; simp at e; omega) (by decide) (by decide))
      go_wp2
      exact bodyPost_ret (v := .agg (vCells 3 0 false (.slice (some ⟨nb, no, none⟩) 1 nc) 0 0 (strL []) (.slice none 0 0))) (results_cell_row rfl _ _ w.heap.size 33 _ (0, 0) _ rfl HFIN.out Tryz.underlying33 rfl (by kernel_rfl)) rfl ⟨Rs.setRow ⟨HR92.out, HE92.out⟩ (Nat.le_refl _) hpX _, _, rfl, HLEAF.out⟩))

set_option maxRecDepth 100000 in
set_option maxHeartbeats 4000000 in
theorem number_15e (S : List UInt8) (a ar : Nat) (hl : a + 5 ≤ S.length) (hS : S.length ≤ 1099511627776) (hw : sub S a (a + 5) = [49, 53, 101, 45, 49]) (hnx : a + 5 < S.length → S.getD (a + 5) 0 ∉ numEnd) :
    RdsF 34 [.int .i64 (ar : Int)] S a (a + 5) fHalf 0 false true := by
  intro w p hG hp hr
  have hch : ∀ i, i < 5 → S.getD (a + i) 0 = ([49, 53, 101, 45, 49] : List UInt8).getD i 0 := fun i hi => by rw [← hw, sub_at S a (a + 5) i (by omega)]
  have hs1 : sub S a (a + 2) = [49, 53] := by
    have h : sub S a (a + 2) = (sub S a (a + 5)).take 2 := by
      unfold sub
      rw [List.take_take]
      congr 1
      omega
    rw [h, hw]; rfl
  obtain ⟨w0, hw0⟩ : ∃ w0, w0 = w.alloc (.cells zeroV 33) := ⟨_, rfl⟩
  have hb : Below w.heap.size w w0 := by rw [hw0]; exact (Below.refl _ _).alloc (Nat.le_refl _) _
  have hX : Blk w0 w.heap.size zeroV 33 := by rw [hw0]; exact Blk.new _ _ _
  have hr0 : Rd w0 p S a false := Blk.below hr hb (Blk.lt hr)
  have hpX : w.heap.size ≠ p := by have := Blk.lt hr; omega
  have hE0 : Ex (fun k => k = p) w.heap.size w w0 := Ex.of_below hb
  have hsz0 : w.heap.size < w0.heap.size := hX.lt
  have c1 := hr0.at1
  have HG := Lib.hid hG
  have HW0 := Lib.hid hw0
  have HR0 := Lib.hid hr0
  have HX0 := Lib.hid hX
  have HE0 := Lib.hid hE0
  have HCH := Lib.hid hch
  have HS1 := Lib.hid hs1
  have HSN := Lib.hid hw
  have HNX := Lib.hid hnx
  clear hG hw0 hb hX hr0 hr hE0 hch hs1 hw hnx
  obtain ⟨A1, hA1⟩ : ∃ x, x = a + 1 := ⟨_, rfl⟩
  have gA1 : a + 1 ≤ A1 := by omega
  have lA1 : A1 ≤ a + 1 := by omega
  have hleA1 : a ≤ A1 := by omega
  have hlnA1 : A1 ≤ S.length := by omega
  have HCA1 : Hid (S.getD A1 0 = 53) := Lib.hid (by rw [hA1]; exact HCH.out 1 (by decide))
  clear hA1
  obtain ⟨A2, hA2⟩ : ∃ x, x = a + 2 := ⟨_, rfl⟩
  have gA2 : a + 2 ≤ A2 := by omega
  have lA2 : A2 ≤ a + 2 := by omega
  have hleA2 : a ≤ A2 := by omega
  have hlnA2 : A2 ≤ S.length := by omega
  have HCA2 : Hid (S.getD A2 0 = 101) := Lib.hid (by rw [hA2]; exact HCH.out 2 (by decide))
  have HSA1 := Lib.hid HS1.out
  rw [← hA2] at HSA1
  clear hA2
  obtain ⟨A3, hA3⟩ : ∃ x, x = a + 3 := ⟨_, rfl⟩
  have gA3 : a + 3 ≤ A3 := by omega
  have lA3 : A3 ≤ a + 3 := by omega
  have hleA3 : a ≤ A3 := by omega
  have hlnA3 : A3 ≤ S.length := by omega
  have HCA3 : Hid (S.getD A3 0 = 45) := Lib.hid (by rw [hA3]; exact HCH.out 3 (by decide))
  clear hA3
  obtain ⟨A4, hA4⟩ : ∃ x, x = a + 4 := ⟨_, rfl⟩
  have gA4 : a + 4 ≤ A4 := by omega
  have lA4 : A4 ≤ a + 4 := by omega
  have hleA4 : a ≤ A4 := by omega
  have hlnA4 : A4 ≤ S.length := by omega
  have HCA4 : Hid (S.getD A4 0 = 49) := Lib.hid (by rw [hA4]; exact HCH.out 4 (by decide))
  clear hA4
  obtain ⟨A5, hA5⟩ : ∃ x, x = a + 5 := ⟨_, rfl⟩
  rw [← hA5]
  have gA5 : a + 5 ≤ A5 := by omega
  have lA5 : A5 ≤ a + 5 := by omega
  have hleA5 : a ≤ A5 := by omega
  have hlnA5 : A5 ≤ S.length := by omega
  have HNA := Lib.hid HNX.out
  rw [← hA5] at HNA
  clear hA5
  have HSZ := Lib.hid HSN.out
  rw [← (show A5 = a + 5 by omega)] at HSZ
  clear HNX HS1 HSN
  have HCA0 : Hid (S.getD a 0 = 49) := Lib.hid (HCH.out 0 (by decide))
  show Calls _ _ #[_, _] _ _
  go_enter Tryz.func34, Tryz.ntmps34
  go_upto_region 1 with fail
  change Code.wp _ _ _ _ (w.alloc (.cells zeroV 33))
  rw [← HW0.out]
  go_wp2_with fail
  refine (is_no w0 p S a false HR0.out 45 (fun _ => ch_ne (c := 45) (by rw [HCA0.out]; decide))).mono ?_
  rintro e w1 ⟨rfl, n1, rfl⟩
  have HR1 := Lib.hid (HR0.out.drewN n1)
  have HX1 := Lib.hid (HX0.out.drewN n1)
  have HE1 := Lib.hid (HE0.out.drewN n1)
  have hsz1 : w.heap.size < (w0.drewN n1).heap.size := hsz0
  generalize w0.drewN n1 = w1 at HR1 HX1 HE1 hsz1 ⊢
  clear c1 HW0 HR0 HX0 HE0 hsz0
  have c1 := HR1.out.at1
  go_wp2_with fail
  clear c1
  refine (is_no w1 p S a false HR1.out 48 (fun _ => ch_ne (c := 48) (by rw [HCA0.out]; decide))).mono ?_
  rintro e w2 ⟨rfl, n2, rfl⟩
  have HR2 := Lib.hid (HR1.out.drewN n2)
  have HX2 := Lib.hid (HX1.out.drewN n2)
  have HE2 := Lib.hid (HE1.out.drewN n2)
  have hsz2 : w.heap.size < (w1.drewN n2).heap.size := hsz1
  generalize w1.drewN n2 = w2 at HR2 HX2 HE2 hsz2 ⊢
  clear HR1 HX1 HE1 hsz1
  go_wp2_with fail
  refine (digits_any w2 p S a A2 false HR2.out tenL (by omega) (by omega) hS (fun i h1 h2 => by
    have h := HCH.out (i - a) (by omega)
    rw [show a + (i - a) = i by omega] at h
    rw [h]
    rcases (by omega : i - a = 0 ∨ i - a = 1) with h3 | h3 <;> rw [h3] <;> decide) (fun _ => by rw [HCA2.out]; decide) 1 (by omega)).mono ?_
  rintro e w3 ⟨rfl, hr3⟩
  try rw [show A1 + 1 = A2 by omega] at hr3
  have HR3 := Lib.hid hr3.1
  have HX3 := Lib.hid (hr3.2.blk HX2.out hsz2 hpX)
  have HE3 := Lib.hid (HE2.out.trans (hr3.2.mono (by omega) (fun _ h => h)))
  have hsz3 : w.heap.size < w3.heap.size := HX3.out.lt
  clear hr3 HR2 HX2 HE2 hsz2
  have c0 := HR3.out.at0
  have c1 := HR3.out.at1
  go_upto_region 11 with fail
  have HT : Hid (∀ w, Calls Tryz.prog 64 #[.string (strL (sub S a A2))] w fun e w' => e = .returned (.tuple #[.int .u64 ((15 : Nat) : Int), .bool true]) ∧ Below w.heap.size w w') := Lib.hid (by
    intro w
    rw [HSA1.out]
    have h := tagged_any w [49, 53] ⟨by decide, by decide, by decide, by decide⟩ (by decide)
    rw [show dec ([49, 53] : List UInt8) ([49, 53] : List UInt8).length = 15 by decide] at h
    exact h)
  go_region_with (go_at_call 64; go_must (refine (HT.out _).mono ?_; rintro e w90 ⟨rfl, hb9⟩; have HB9 := Lib.hid hb9; clear hb9))
  all_goals (
    have hb : Below w3.heap.size w3 w90 := (below_drewN (Below.refl w3.heap.size w3) 1).trans HB9.out
    have HR4 : Hid (Rd w90 p S A2 false) := Lib.hid (Blk.below HR3.out hb (Blk.lt HR3.out))
    have HX4 := Lib.hid (HX3.out.below hb hsz3)
    have HE4 := Lib.hid (HE3.out.trans (Ex.of_below (hb.mono (Nat.le_of_lt hsz3))))
    have hsz4 : w.heap.size < w90.heap.size := HX4.out.lt
    clear hb HB9 HR3 HX3 HE3 hsz3 c0 c1 HT
    generalize w90 = w4 at HR4 HX4 HE4 hsz4 ⊢
    go_wp2_with fail
    refine (see_no w4 p S A2 false HR4.out [40] (fun _ => by rw [HCA2.out]; decide)).mono ?_
    rintro e w5 ⟨rfl, n5, rfl⟩
    have HR5 := Lib.hid (HR4.out.drewN n5)
    have HX5 := Lib.hid (HX4.out.drewN n5)
    have HE5 := Lib.hid (HE4.out.drewN n5)
    have hsz5 : w.heap.size < (w4.drewN n5).heap.size := hsz4
    generalize w4.drewN n5 = w5 at HR5 HX5 HE5 hsz5 ⊢
    clear HR4 HX4 HE4 hsz4
    go_wp2_with fail
    refine (is_no w5 p S A2 false HR5.out 46 (fun _ => ch_ne (c := 46) (by rw [HCA2.out]; decide))).mono ?_
    rintro e w6 ⟨rfl, n6, rfl⟩
    have HR6 := Lib.hid (HR5.out.drewN n6)
    have HX6 := Lib.hid (HX5.out.drewN n6)
    have HE6 := Lib.hid (HE5.out.drewN n6)
    have hsz6 : w.heap.size < (w5.drewN n6).heap.size := hsz5
    generalize w5.drewN n6 = w6 at HR6 HX6 HE6 hsz6 ⊢
    clear HR5 HX5 HE5 hsz5
    go_wp2_with fail
    refine (see_yes w6 p S A2 false HR6.out [101, 69] (by omega) (by rw [HCA2.out]; decide)).mono ?_
    rintro e w7 ⟨rfl, n7, rfl⟩
    have HR7 := Lib.hid (HR6.out.drewN n7)
    have HX7 := Lib.hid (HX6.out.drewN n7)
    have HE7 := Lib.hid (HE6.out.drewN n7)
    have hsz7 : w.heap.size < (w6.drewN n7).heap.size := hsz6
    generalize w6.drewN n7 = w7 at HR7 HX7 HE7 hsz7 ⊢
    clear HR6 HX6 HE6 hsz6
    have c1 := HR7.out.at1
    have f1 : w7.frozen? ⟨p, 1, none⟩ = false := Blk.free HR7.out 1
    have g3 : IntKind.i64.wrap (((A2 : Nat) : Int) + 1) = ((A3 : Nat) : Int) := by rw [IntWalk.i64_in _ (by omega)]; omega
    have HR8 := Lib.hid (HR7.out.set1 A3)
    have HX8 := Lib.hid (HX7.out.set_other ⟨p, 1, none⟩ (.int .i64 ((A3 : Nat) : Int)) hpX)
    have HE8 := Lib.hid (HE7.out.setCell p 1 (.inl rfl) (.int .i64 ((A3 : Nat) : Int)))
    have hsz8 : w.heap.size < (w7.setCell ⟨p, 1, none⟩ (.int .i64 ((A3 : Nat) : Int))).heap.size := HX8.out.lt
    go_upto_region 20 with fail
    generalize w7.setCell ⟨p, 1, none⟩ (.int .i64 ((A3 : Nat) : Int)) = w8 at HR8 HX8 HE8 hsz8 ⊢
    clear c1 f1 g3 HR7 HX7 HE7 hsz7
    go_wp2_with fail
    refine (see_yes w8 p S A3 false HR8.out [43, 45] (by omega) (by rw [HCA3.out]; decide)).mono ?_
    rintro e w9 ⟨rfl, n9, rfl⟩
    have HR9 := Lib.hid (HR8.out.drewN n9)
    have HX9 := Lib.hid (HX8.out.drewN n9)
    have HE9 := Lib.hid (HE8.out.drewN n9)
    have hsz9 : w.heap.size < (w8.drewN n9).heap.size := hsz8
    generalize w8.drewN n9 = w9 at HR9 HX9 HE9 hsz9 ⊢
    clear HR8 HX8 HE8 hsz8
    have c1 := HR9.out.at1
    have f1 : w9.frozen? ⟨p, 1, none⟩ = false := Blk.free HR9.out 1
    have g3 : IntKind.i64.wrap (((A3 : Nat) : Int) + 1) = ((A4 : Nat) : Int) := by rw [IntWalk.i64_in _ (by omega)]; omega
    have HR10 := Lib.hid (HR9.out.set1 A4)
    have HX10 := Lib.hid (HX9.out.set_other ⟨p, 1, none⟩ (.int .i64 ((A4 : Nat) : Int)) hpX)
    have HE10 := Lib.hid (HE9.out.setCell p 1 (.inl rfl) (.int .i64 ((A4 : Nat) : Int)))
    have hsz10 : w.heap.size < (w9.setCell ⟨p, 1, none⟩ (.int .i64 ((A4 : Nat) : Int))).heap.size := HX10.out.lt
    go_upto_region 22 with fail
    generalize w9.setCell ⟨p, 1, none⟩ (.int .i64 ((A4 : Nat) : Int)) = w10 at HR10 HX10 HE10 hsz10 ⊢
    clear c1 f1 g3 HR9 HX9 HE9 hsz9
    go_wp2_with fail
    refine (digits_any w10 p S A4 A5 false HR10.out tenL (by omega) (by omega) hS (fun i h1 h2 => by
      have h := HCH.out (i - a) (by omega)
      rw [show a + (i - a) = i by omega] at h
      rw [h]
      rcases (by omega : i - a = 4) with h3 <;> rw [h3] <;> decide) (fun h h2 => HNA.out h (ten_end h2)) 1 (by omega)).mono ?_
    rintro e w11 ⟨rfl, hr11⟩
    try rw [show A1 + 1 = A2 by omega] at hr11
    have HR11 := Lib.hid hr11.1
    have HX11 := Lib.hid (hr11.2.blk HX10.out hsz10 hpX)
    have HE11 := Lib.hid (HE10.out.trans (hr11.2.mono (by omega) (fun _ h => h)))
    have hsz11 : w.heap.size < w11.heap.size := HX11.out.lt
    clear hr11 HR10 HX10 HE10 hsz10
    have c2 := HR11.out.at2
    have f2 : w11.frozen? ⟨p, 2, none⟩ = false := Blk.free HR11.out 2
    have HR12 := Lib.hid (HR11.out.set2 true)
    have HX12 := Lib.hid (HX11.out.set_other ⟨p, 2, none⟩ (.bool true) hpX)
    have HE12 := Lib.hid (HE11.out.setCell p 2 (.inl rfl) (.bool true))
    have hsz12 : w.heap.size < (w11.setCell ⟨p, 2, none⟩ (.bool true)).heap.size := HX12.out.lt
    go_upto_region 25 with fail
    generalize w11.setCell ⟨p, 2, none⟩ (.bool true) = w12 at HR12 HX12 HE12 hsz12 ⊢
    clear c2 f2 HR11 HX11 HE11 hsz11
    have c0 := HR12.out.at0
    have c1 := HR12.out.at1
    go_upto_region 28 with fail
    have HGj := Lib.hid (HG.out.ex HE12.out hp)
    have HER : Hid (Calls Tryz.prog 69 #[.string (strL (sub S a A5))] w12.drew fun e w' => e = .returned (.tuple #[.int .u64 4609434218613702656, .nilIface]) ∧ Below w12.drew.heap.size w12.drew w') := Lib.hid (by
      rw [HSZ.out]
      exact eread_15 w12.drew (HGj.out.step (below_drewN (Below.refl _ _) 1)))
    go_region_with (go_at_call 69; go_must (refine HER.out.mono ?_; rintro e w91 ⟨rfl, hb91⟩; have HB91 := Lib.hid hb91; clear hb91))
    all_goals (
      have hb : Below w12.heap.size w12 w91 := (below_drewN (Below.refl w12.heap.size w12) 1).trans HB91.out
      have HR91 : Hid (Rd w91 p S A5 true) := Lib.hid (Blk.below HR12.out hb (Blk.lt HR12.out))
      have HX91 := Lib.hid (HX12.out.below hb hsz12)
      have HE91 := Lib.hid (HE12.out.trans (Ex.of_below (hb.mono (Nat.le_of_lt hsz12))))
      have hsz91 : w.heap.size < w91.heap.size := HX91.out.lt
      have HOF := Lib.hid (of_half w91 (HG.out.ex HE91.out hp))
      clear hb HB91 HR12 HX12 HE12 hsz12 c0 c1 HER HGj
      go_wp2_with fail
      refine HOF.out.mono ?_
      rintro e w92 ⟨rfl, hb2⟩
      have HR92 : Hid (Rd w92 p S A5 true) := Lib.hid (Blk.below HR91.out hb2 (Blk.lt HR91.out))
      have HX92 := Lib.hid (HX91.out.below hb2 hsz91)
      have HE92 := Lib.hid (HE91.out.trans (Ex.of_below (hb2.mono (Nat.le_of_lt hsz91))))
      dsimp only
      go_step
      refine wpList_store_row rfl 33 _ _ rfl w.heap.size halfV rfl rfl 33 _ HX92.out (by kernel_rfl) rfl (vCells_one _ _ _ _ _ _ _ _ rfl rfl) ?_
      have HFIN : Hid (Blk (w92.setRow w.heap.size halfV) w.heap.size halfV 33) := Lib.hid (setRow_heap _ _ _ _ _ _ HX92.out)
      have HLEAF : Hid (TreeP (w92.setRow w.heap.size halfV) (fun k => w.heap.size ≤ k) fHalf 0 (.agg halfV)) := Lib.hid (leaf_half _ _)
      go_wp2
      exact bodyPost_ret (v := .agg halfV) (results_cell_row rfl _ _ w.heap.size 33 _ (0, 0) _ rfl HFIN.out Tryz.underlying33 rfl (by kernel_rfl)) rfl ⟨Rs.setRow ⟨HR92.out, HE92.out⟩ (Nat.le_refl _) hpX _, _, rfl, HLEAF.out⟩))
end Go.Proofs.YtbhfoelnoddlkaaGreatDoor.D

/-
  What 'lives' reads: the text of its list, and the text that is none.
-/
namespace Go.Proofs.YtbhfoelnoddlkaaGreatDoor.D
open Go Go.RowKit Limb

def dL : List UInt8 := [91, 110, 117, 108, 108, 44, 123, 32, 49, 46, 48, 58, 32, 104, 39, 48, 48, 70, 70, 39, 32, 125, 47, 32, 120, 32, 47, 44, 49, 40, 49, 53, 101, 45, 49, 41, 93]
def bL : List UInt8 := [91, 49, 32, 50, 93]
abbrev fNull : F := .node [110, 117, 108, 108] 0 (fun _ => .stop)
abbrev fOne : F := .node [dig 1] 1 (fun _ => .stop)
def mapF (i : Nat) : F := if i = 0 then fOne else if i = 1 then fBytes else .stop
def fMap : F := .node ([123] ++ kidsT [58, 32] [44, 32] 2 mapF 2 ++ [125]) 0 mapF
def fTag : F := .node ((if ((1 : Nat) : Int) = 1 then [49] else [49, 48]) ++ [40] ++ kidsT [] [] 1 (fun _ => fHalf) 1 ++ [41]) 0 (fun _ => fHalf)
def docF (i : Nat) : F := if i = 0 then fNull else if i = 1 then fMap else if i = 2 then fTag else .stop
def fDoc : F := .node ([91] ++ kidsT [44, 32] [44, 32] 3 docF 3 ++ [93]) 0 docF
def at3 (a b c i : Nat) : Nat := if i = 0 then a else if i = 1 then b else c

theorem btw_none {S : List UInt8} {a : Nat} (h : S.getD a 0 ∉ blanks) (hl : a ≤ S.length) : Btw S a a := Btw.none (fun _ => h) hl
theorem rd_null : Reads dL 1 5 1 fNull 0 false :=
  value_name dL 1 5 1 _ 0 false (by decide) 110 (by decide) (by decide) (by decide) (by decide) (by decide) (by decide) (by decide) (by decide) (by decide) (name_null dL 1 false (by decide) (by decide) (by decide))
theorem rd_key : Reads dL 8 11 2 fOne 0 true :=
  value_number dL 8 11 2 _ 0 true (by decide) 49 (by decide) (by decide) (by decide) (by decide) (by decide) (by decide) (number_1p0 dL 8 2 (by decide) (by decide) (by decide) (by decide))
theorem rd_bytes : Reads dL 13 20 2 fBytes 0 false := value_bytes dL 13 2 (by decide) (by decide) (by decide)
theorem rd_map : Reads dL 6 22 1 fMap 1 false :=
  value_pairs dL 6 22 1 fMap 1 (by decide) 123 (by decide) (by decide) (by decide) (by decide)
    (pairs_any dL 6 2 8 11 11 13 20 21 mapF (fun _ => 0) true false 1 (by decide) (by decide) ⟨⟨1, by decide⟩, by decide, by decide⟩ (by decide) (by decide) rd_key (btw_none (by decide) (by decide)) (by decide) (by decide) ⟨⟨1, by decide⟩, by decide, by decide⟩ rd_bytes ⟨⟨1, by decide⟩, by decide, by decide⟩ (by decide) (by decide) (by decide) (by decide) (fun i _ => by decide) ⟨0, by decide, rfl⟩ (by decide))
theorem rd_half : Reads dL 30 35 2 fHalf 0 true :=
  value_number dL 30 35 2 _ 0 true (by decide) 49 (by decide) (by decide) (by decide) (by decide) (by decide) (by decide) (number_15e dL 30 2 (by decide) (by decide) (by decide) (by decide))
theorem dg1 : Dg [49] := ⟨by decide, by decide, by decide, by decide⟩
theorem rd_tag : Reads dL 28 36 1 fTag 1 false :=
  value_number dL 28 36 1 fTag 1 false (by decide) 49 (by decide) (by decide) (by decide) (by decide) (by decide) (by decide)
    (number_tag dL 28 29 36 1 [49] fTag 1 dg1 (by decide) (by decide) (by decide) (by decide) (by decide) (by decide)
      (tag_any dL 28 29 30 35 35 1 1 fHalf 0 true (Or.inl rfl) (by decide) (by decide) (by decide) (btw_none (by decide) (by decide)) rd_half (btw_none (by decide) (by decide)) (by decide) (by decide)))
theorem rd_doc : Reads dL 0 37 0 fDoc 2 false :=
  value_list dL 0 37 0 fDoc 2 (by decide) (by decide) (by decide)
    (list_any dL 0 1 3 (at3 1 6 28) (at3 5 22 36) (at3 5 27 36) docF (at3 0 1 1) (fun _ => false) 2 (by decide) (by decide)
      { m1 := by decide
        m3 := by decide
        b0 := btw_none (by decide) (by decide)
        lt := fun i hi => by rcases (by omega : i = 0 ∨ i = 1 ∨ i = 2) with rfl | rfl | rfl <;> decide
        rd := fun i hi => by
          rcases (by omega : i = 0 ∨ i = 1 ∨ i = 2) with rfl | rfl | rfl
          · exact rd_null
          · exact rd_map
          · exact rd_tag
        bt := fun i hi => by
          rcases (by omega : i = 0 ∨ i = 1 ∨ i = 2) with rfl | rfl | rfl
          · exact btw_none (by decide) (by decide)
          · exact ⟨⟨1, by decide⟩, by decide, by decide⟩
          · exact btw_none (by decide) (by decide)
        rl := fun i hi => by rcases (by omega : i = 0 ∨ i = 1 ∨ i = 2) with rfl | rfl | rfl <;> decide
        com := fun i hi => by
          rcases (by omega : i = 0 ∨ i = 1) with rfl | rfl
          · exact ⟨by decide, btw_none (by decide) (by decide), by decide⟩
          · exact ⟨by decide, btw_none (by decide) (by decide), by decide⟩
        fin := by decide }
      (fun i hi => by rcases (by omega : i = 0 ∨ i = 1 ∨ i = 2) with rfl | rfl | rfl <;> decide) ⟨1, by decide, by decide⟩)
theorem bad_doc : Fails bL 0 0 3 3 :=
  value_list_fails bL 0 0 3 3 (by decide) 91 (by decide) (by decide) (by decide)
    (list_bad bL 0 1 (fun _ => 1) (fun _ => 2) (fun _ => 3) (fun _ => fOne) (fun _ => 0) (fun _ => true) (by decide) (by decide)
      { b0 := btw_none (by decide) (by decide)
        lt := fun i _ => ⟨by decide, by decide⟩
        rd := fun i _ => reads_one bL 1 1 1 49 (by decide) (Or.inl rfl) (by decide) (by decide) (by decide) (by decide) (fun _ => by decide)
        bt := fun i _ => ⟨⟨1, by decide⟩, by decide, by decide⟩
        rl := fun i _ => by decide
        bad := ⟨by decide, by decide⟩ })
theorem doc_txt : fDoc.txt = [91, 110, 117, 108, 108, 44, 32, 123, 49, 58, 32, 104, 39, 48, 48, 102, 102, 39, 125, 44, 32, 49, 40, 49, 46, 53, 41, 93] := by decide
/-- The list has three Kids. -/
theorem doc_kids {w : World} {N d : Nat} {v : Value} (h : Tree w N fDoc d v) (h0 : 0 < d) : ∃ (kind n : Int) (mb : Option Addr) (mn mc : Nat) (bits ext : Int) (text : List UInt8) (kb : Option Addr) (kc : Nat), v = .agg (vCells kind n false (.slice mb mn mc) bits ext (strL text) (.slice kb 3 kc)) := by
  obtain ⟨kind, n, mb, mn, mc, bits, ext, text, kb, kn, kc, rfl⟩ := h.cells
  have hk := Tree.kind h
  obtain ⟨kind', n', mag', bits', ext', text', kids', m, hv, hf, ht, ⟨_, _, hd0⟩ | ⟨hm, b, o, cap, xs, ds, hk2, _, _, _, _, hT, _⟩⟩ := h
  · omega
  · simp only [Value.agg.injEq, vCells, Array.mk.injEq, List.cons.injEq, Value.int.injEq, Value.bool.injEq, Value.string.injEq, true_and, and_true] at hv
    obtain ⟨rfl, rfl, -, -, -, -, hkk⟩ := hv
    rw [hk2] at hkk
    simp only [Value.slice.injEq] at hkk
    obtain ⟨rfl, rfl, rfl⟩ := hkk
    have h4 : kn ≤ 3 := by
      rcases Nat.lt_or_ge 3 kn with h5 | h5
      · exact absurd (hT 3 h5).1 (fun h => h)
      · exact h5
    have h3 : kn = 3 := by
      rcases hk with ⟨h, _⟩ | ⟨_, h7 | h8 | h9⟩
      · omega
      · have := ht.2.2.2.2.1 h7
        rcases (by omega : kn = 1 ∨ kn = 2 ∨ kn = 3) with rfl | rfl | rfl
        · exact absurd this (by decide)
        · exact absurd this (by decide)
        · rfl
      · have := ht.2.2.2.2.2.1 h8
        rcases (by omega : kn = 1 ∨ kn = 2 ∨ kn = 3) with rfl | rfl | rfl
        · exact absurd this (by decide)
        · exact absurd this (by decide)
        · rfl
      · have := ht.2.2.2.2.2.2 h9
        split at this
        all_goals (
          rcases (by omega : kn = 1 ∨ kn = 2 ∨ kn = 3) with rfl | rfl | rfl
          · exact absurd this (by decide)
          · exact absurd this (by decide)
          · rfl)
    subst h3
    exact ⟨_, _, _, _, _, _, _, _, _, _, rfl⟩
end Go.Proofs.YtbhfoelnoddlkaaGreatDoor.D

