/-
  Of the proof that the law DiagDeep answers true at every row of bytes: a part, without conditions of its own.
-/
import Derived.Test.YtbhfoelnoddlkaaGreatDoorPart15
set_option linter.unusedVariables false
set_option linter.unusedSimpArgs false
/-
  The reader: list where it stops at its first element: walked.
-/
namespace Go.Proofs.YtbhfoelnoddlkaaGreatDoor.D
open Go Go.RowKit Limb
attribute [local go_sem high] run_str strL_size run_sub run_sub_from

set_option maxRecDepth 100000 in
set_option maxHeartbeats 2000000 in
theorem list_fails (S : List UInt8) (a ar p0 code at_ : Nat) (ha : a < S.length) (hS : S.length ≤ 1099511627776) (hB0 : Btw S (a + 1) p0) (hne : S.getD p0 0 ≠ 93) (hF : Fails S p0 ar code at_) :
    FlsF 30 [.int .i64 (ar : Int)] S a false code at_ := by
  intro w p hG hp hr
  obtain ⟨w0, hw0⟩ : ∃ w0, w0 = w.alloc (.cells zeroV 33) := ⟨_, rfl⟩
  obtain ⟨w1, hw1⟩ : ∃ w1, w1 = w0.alloc (.cells (lCells (.slice none 0 0)) 33) := ⟨_, rfl⟩
  have hb0 : Below w.heap.size w w0 := by rw [hw0]; exact (Below.refl _ _).alloc (Nat.le_refl _) _
  have hX : Blk w0 w.heap.size zeroV 33 := by rw [hw0]; exact Blk.new _ _ _
  have hb1 : Below w0.heap.size w0 w1 := by rw [hw1]; exact (Below.refl _ _).alloc (Nat.le_refl _) _
  have hs0 : w0.heap.size = w.heap.size + 1 := by rw [hw0]; simp
  have hs1 : w1.heap.size = w.heap.size + 2 := by rw [hw1]; simp; omega
  have hY : Blk w1 (w.heap.size + 1) (lCells (.slice none 0 0)) 33 := by rw [hw1, ← hs0]; exact Blk.new _ _ _
  have hpw : p < w.heap.size := Blk.lt hr
  have hpX : w.heap.size ≠ p := by omega
  have hpY : w.heap.size + 1 ≠ p := by omega
  have hr1 : Rd w1 p S a false := Blk.below (Blk.below hr hb0 hpw) hb1 (by omega)
  have hX1 := hX.below hb1 (by omega)
  have hE1 : Ex (fun k => k = p) w.heap.size w w1 := Ex.of_below (hb0.trans (hb1.mono (by omega)))
  have c1 := hr1.at1
  have f1 : w1.frozen? ⟨p, 1, none⟩ = false := Blk.free hr1 1
  obtain ⟨a', ha'⟩ : ∃ a', a' = a + 1 := ⟨_, rfl⟩
  have g3 : IntKind.i64.wrap ((a : Int) + 1) = (a' : Int) := by rw [IntWalk.i64_in _ (by omega), ha']; simp
  have hr2 : Rd (w1.setCell ⟨p, 1, none⟩ (.int .i64 (a' : Int))) p S a' false := hr1.set1 a'
  have hX2 := hX1.set_other ⟨p, 1, none⟩ (.int .i64 (a' : Int)) hpX
  have hY2 := hY.set_other ⟨p, 1, none⟩ (.int .i64 (a' : Int)) hpY
  have hE2 := hE1.setCell p 1 (.inl rfl) (.int .i64 (a' : Int))
  have HB0 : Hid (Btw S a' p0) := Lib.hid (by rw [ha']; exact hB0)
  have HG := Lib.hid hG
  have HW0 := Lib.hid hw0
  have HW1 := Lib.hid hw1
  have HR2 := Lib.hid hr2
  have HX2 := Lib.hid hX2
  have HY2 := Lib.hid hY2
  have HE2 := Lib.hid hE2
  clear hG hw0 hw1 hb0 hb1 hX hY hr hr1 hX1 hE1 hr2 hX2 hY2 hE2 ha' hs0 hs1
  show Calls _ _ #[_, _] _ _
  go_enter Tryz.func30, Tryz.ntmps30
  go_upto_region 2 with fail
  change Code.wp _ _ _ _ ((w.alloc (.cells zeroV 33)).alloc (.cells (lCells (.slice none 0 0)) 33))
  rw [← HW0.out, ← HW1.out]
  go_upto_region 3 with fail
  clear c1 f1 g3
  generalize w1.setCell ⟨p, 1, none⟩ (.int .i64 (a' : Int)) = w2 at HR2 HX2 HY2 HE2 ⊢
  have hsz2 : w.heap.size + 1 < w2.heap.size := HY2.out.lt
  go_wp2_with fail
  refine (HB0.out.call hS w2 p false HR2.out).mono ?_
  rintro e w3 ⟨rfl, hr3⟩
  have HX3 := Lib.hid (hr3.2.blk HX2.out (by omega) hpX)
  have HY3 := Lib.hid (hr3.2.blk HY2.out hsz2 hpY)
  have HE3 := Lib.hid (HE2.out.trans (hr3.2.mono (by omega) (fun _ h => h)))
  have HR3 := Lib.hid hr3.1
  clear hr3 HX2 HY2 HE2 HR2 HW0 HW1 hsz2
  go_wp2_with fail
  go_loopw [] (fun wr => wr = w3) (fun wr => 0)
  case atStart => rfl
  case round =>
    subst hrel
    go_wp2_with fail
    refine (see_no wr p S p0 false HR3.out [93] (fun _ => by simpa using hne)).mono ?_
    rintro e w4 ⟨rfl, n4, rfl⟩
    have HR4 := Lib.hid (HR3.out.drewN n4)
    have HX4 := Lib.hid (HX3.out.drewN n4)
    have HY4 := Lib.hid (HY3.out.drewN n4)
    have HE4 := Lib.hid (HE3.out.drewN n4)
    generalize wr.drewN n4 = w4 at HR4 HX4 HY4 HE4 ⊢
    clear HX3 HY3 HE3 HR3
    go_upto_region 5 with fail
    have hsz4 : w.heap.size + 1 < w4.heap.size := HY4.out.lt
    have hgx : GW w4.drew := HG.out.ex (p := p) (HE4.out.drewN 1) hp
    have HQ : Hid (Calls Tryz.prog 13 #[.pointer (some ⟨p, 0, none⟩), .int .i64 (ar : Int)] w4.drew fun e w'' => Ex (fun k => k = p) w4.heap.size w4.drew w'' ∧ e = .panicked [{ v := stopAt code at_, recovered := false }]) := Lib.hid (hF false w4.drew p hgx hp (HR4.out.drewN 1))
    have c7 : w4.drew.cell? ⟨w.heap.size + 1, 7, none⟩ = some (.slice none 0 0) := (HY4.out.drewN 1).cell 7
    clear hgx
    refine wp_region_held_drew (S := fun w' => True) (by kernel_rfl) trivial (fun hH => ?_)
    refine take_at (d := some 25) (hd := by rfl) (i := 0) (oi := _) (v := .pointer (some ⟨w.heap.size + 1, 7, none⟩)) rfl (by kernel_rfl) (by kernel_rfl) (by kernel_rfl) (fun _ _ _ h => h) (Or.inl ⟨by rfl, fun w' hSw => ?_⟩) hH ?_
    · clear hH hSw
      go_simp
    try simp only [Act.put, List.setIfInBounds_toArray, List.set_cons_zero, List.set_cons_succ]
    refine take_at (d := some 27) (hd := by rfl) (i := 2) (oi := _) (v := .pointer (some ⟨p, 0, none⟩)) rfl (by kernel_rfl) (by kernel_rfl) (by kernel_rfl) (fun _ _ _ h => h) (Or.inl ⟨by rfl, fun w' hSw => ?_⟩) hH ?_
    · clear hH hSw
      go_simp
    try simp only [Act.put, List.setIfInBounds_toArray, List.set_cons_zero, List.set_cons_succ]
    refine take_at (d := some 28) (hd := by rfl) (i := 3) (oi := _) (v := .int .i64 (ar : Int)) rfl (by kernel_rfl) (by kernel_rfl) (by kernel_rfl) (fun _ _ _ h => h) (Or.inl ⟨by rfl, fun w' hSw => ?_⟩) hH ?_
    · clear hH hSw
      go_simp
    try simp only [Act.put, List.setIfInBounds_toArray, List.set_cons_zero, List.set_cons_succ]
    refine wpAnyH_ready (rs := [1, 4]) (by kernel_rfl) (by simp) ?_
    refine AllReadyH.cons (o := _) rfl (fun K hK => ?_) (AllReadyH.cons (o := _) rfl (fun K hK => ?_) AllReadyH.nil)
    rotate_left
    · skip
      go_simp
      refine HQ.out.mono ?_
      rintro e w9 ⟨hb9, rfl⟩
      have HE9 := Lib.hid ((HE4.out.drewN 1).trans (hb9.mono (by omega) (fun _ h => h)))
      clear hb9
      go_wp2
      exact ⟨rfl, HE9.out, rfl⟩
    · skip
      go_simp
      refine hK.out _ _ trivial (fun hH => ?_)
      clear hK K c7
      try simp only [Act.put, List.setIfInBounds_toArray, List.set_cons_zero, List.set_cons_succ]
      refine wpAnyH_ready (rs := [4]) (by kernel_rfl) (by simp) ?_
      refine AllReadyH.cons (o := _) rfl (fun K hK => ?_) AllReadyH.nil
      go_simp
      refine HQ.out.mono ?_
      rintro e w9 ⟨hb9, rfl⟩
      have HE9 := Lib.hid ((HE4.out.drewN 1).trans (hb9.mono (by omega) (fun _ h => h)))
      clear hb9
      go_wp2
      exact ⟨rfl, HE9.out, rfl⟩
end Go.Proofs.YtbhfoelnoddlkaaGreatDoor.D

