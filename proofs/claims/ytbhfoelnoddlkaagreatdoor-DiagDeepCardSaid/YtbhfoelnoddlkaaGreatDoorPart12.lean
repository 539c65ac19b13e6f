/-
  Of the proof that the law DiagDeep answers true at every row of bytes: a part, without conditions of its own.
-/
import Derived.Test.YtbhfoelnoddlkaaGreatDoorPart11
set_option linter.unusedVariables false
set_option linter.unusedSimpArgs false
/-
  The reader: value at a list, a map, a number, a word: walked, what is read there by hypothesis; and where that stops.
-/
namespace Go.Proofs.YtbhfoelnoddlkaaGreatDoor.D
open Go Go.RowKit Limb

set_option maxRecDepth 100000 in
set_option maxHeartbeats 1000000 in
theorem value_list_fails (S : List UInt8) (a ar code at_ : Nat) (ha : a < S.length) (c : UInt8) (hc : S.getD a 0 = c) (hy : c ∈ ([91] : List UInt8)) (har : ar < 128)
    (hL : FlsF 30 [.int .i64 ((ar + 1 : Nat) : Int)] S a false code at_) : Fails S a ar code at_ := by
  intro op w p hG hp hr
  obtain ⟨w0, hw0⟩ : ∃ w0, w0 = w.alloc (.cells zeroV 33) := ⟨_, rfl⟩
  have hb : Below w.heap.size w w0 := by rw [hw0]; exact (Below.refl _ _).alloc (Nat.le_refl _) _
  have hX : Blk w0 w.heap.size zeroV 33 := by rw [hw0]; exact Blk.new _ _ _
  have hr0 : Rd w0 p S a op := Blk.below hr hb (Blk.lt hr)
  have hpX : w.heap.size ≠ p := by have := Blk.lt hr; omega
  have c2 := hr0.at2
  have f2 : w0.frozen? ⟨p, 2, none⟩ = false := Blk.free hr0 2
  obtain ⟨w1, hw1⟩ : ∃ w1, w1 = w0.setCell ⟨p, 2, none⟩ (.bool false) := ⟨_, rfl⟩
  have hr1 : Rd w1 p S a false := by rw [hw1]; exact hr0.set2 false
  have hX1 : Blk w1 w.heap.size zeroV 33 := by rw [hw1]; exact hX.set_other _ _ hpX
  have hE1 : Ex (fun k => k = p) w.heap.size w w1 := by rw [hw1]; exact (Ex.of_below (S := fun k => k = p) hb).setCell p 2 (.inl rfl) _
  have HG := Lib.hid hG
  have HW0 := Lib.hid hw0
  have HW1 := Lib.hid hw1
  have HR1 := Lib.hid hr1
  have HX1 := Lib.hid hX1
  have HE1 := Lib.hid hE1
  have HL := Lib.hid hL
  have hsz1 : w.heap.size < w1.heap.size := hX1.lt
  clear hG hw0 hw1 hr1 hX1 hE1 hb hX hr0 hr hL
  show Calls _ _ #[_, _] _ _
  go_enter Tryz.func13, Tryz.ntmps13
  go_upto_region 1 with fail
  change Code.wp _ _ _ _ (w.alloc (.cells zeroV 33))
  rw [← HW0.out]
  go_upto_region 2 with fail
  rw [← HW1.out]
  clear c2 f2
  have c1 := HR1.out.at1
  go_wp2_with fail
  clear c1
  refine (see_yes w1 p S a false HR1.out [91] ha (by rw [hc]; exact hy)).mono ?_
  rintro e w2 ⟨rfl, n2, rfl⟩
  have HR2 := Lib.hid (HR1.out.drewN n2)
  have HX2 := Lib.hid (HX1.out.drewN n2)
  have HE2 := Lib.hid (HE1.out.drewN n2)
  have hsz2 : w.heap.size < (w1.drewN n2).heap.size := hsz1
  generalize w1.drewN n2 = w2 at HR2 HX2 HE2 hsz2 ⊢
  clear HR1 HX1 HE1 hsz1 HW0 HW1
  go_wp2_with fail
  refine (deep_ok w2 (ar : Int) (a : Int) (by omega)).mono ?_
  rintro e w9 ⟨rfl, rfl⟩
  have g3 : IntKind.i64.wrap ((ar : Int) + 1) = (ar : Int) + 1 := IntWalk.i64_in _ (by omega)
  have HQ : Hid (Calls Tryz.prog 30 #[.pointer (some ⟨p, 0, none⟩), .int .i64 ((ar : Int) + 1)] w9 fun e w' => Ex (fun k => k = p) w9.heap.size w9 w' ∧ e = .panicked [{ v := stopAt code at_, recovered := false }]) := Lib.hid (by
    have := HL.out w9 p (HG.out.ex HE2.out hp) hp HR2.out
    simpa using this)
  go_wp2_with fail
  refine HQ.out.mono ?_
  rintro e w4 ⟨hb4, rfl⟩
  have HE9 := Lib.hid (HE2.out.trans (hb4.mono (by omega) (fun _ h => h)))
  clear hb4 HQ HR2 HX2 HE2
  go_wp2
  exact ⟨rfl, HE9.out, rfl⟩

set_option maxRecDepth 100000 in
set_option maxHeartbeats 1000000 in
theorem value_list_deep (S : List UInt8) (a ar : Nat) (ha : a < S.length) (c : UInt8) (hc : S.getD a 0 = c) (hy : c ∈ ([91] : List UInt8)) (har : 128 ≤ ar) : Fails S a ar 5 a := by
  intro op w p hG hp hr
  obtain ⟨w0, hw0⟩ : ∃ w0, w0 = w.alloc (.cells zeroV 33) := ⟨_, rfl⟩
  have hb : Below w.heap.size w w0 := by rw [hw0]; exact (Below.refl _ _).alloc (Nat.le_refl _) _
  have hX : Blk w0 w.heap.size zeroV 33 := by rw [hw0]; exact Blk.new _ _ _
  have hr0 : Rd w0 p S a op := Blk.below hr hb (Blk.lt hr)
  have hpX : w.heap.size ≠ p := by have := Blk.lt hr; omega
  have c2 := hr0.at2
  have f2 : w0.frozen? ⟨p, 2, none⟩ = false := Blk.free hr0 2
  obtain ⟨w1, hw1⟩ : ∃ w1, w1 = w0.setCell ⟨p, 2, none⟩ (.bool false) := ⟨_, rfl⟩
  have hr1 : Rd w1 p S a false := by rw [hw1]; exact hr0.set2 false
  have hX1 : Blk w1 w.heap.size zeroV 33 := by rw [hw1]; exact hX.set_other _ _ hpX
  have hE1 : Ex (fun k => k = p) w.heap.size w w1 := by rw [hw1]; exact (Ex.of_below (S := fun k => k = p) hb).setCell p 2 (.inl rfl) _
  have HG := Lib.hid hG
  have HW0 := Lib.hid hw0
  have HW1 := Lib.hid hw1
  have HR1 := Lib.hid hr1
  have HX1 := Lib.hid hX1
  have HE1 := Lib.hid hE1
  have hsz1 : w.heap.size < w1.heap.size := hX1.lt
  clear hG hw0 hw1 hr1 hX1 hE1 hb hX hr0 hr
  show Calls _ _ #[_, _] _ _
  go_enter Tryz.func13, Tryz.ntmps13
  go_upto_region 1 with fail
  change Code.wp _ _ _ _ (w.alloc (.cells zeroV 33))
  rw [← HW0.out]
  go_upto_region 2 with fail
  rw [← HW1.out]
  clear c2 f2
  have c1 := HR1.out.at1
  go_wp2_with fail
  clear c1
  refine (see_yes w1 p S a false HR1.out [91] ha (by rw [hc]; exact hy)).mono ?_
  rintro e w2 ⟨rfl, n2, rfl⟩
  have HR2 := Lib.hid (HR1.out.drewN n2)
  have HX2 := Lib.hid (HX1.out.drewN n2)
  have HE2 := Lib.hid (HE1.out.drewN n2)
  have hsz2 : w.heap.size < (w1.drewN n2).heap.size := hsz1
  generalize w1.drewN n2 = w2 at HR2 HX2 HE2 hsz2 ⊢
  clear HR1 HX1 HE1 hsz1 HW0 HW1
  go_wp2_with fail
  refine (deep_bad w2 (ar : Int) (a : Int) (by omega)).mono ?_
  rintro e w9 ⟨rfl, rfl⟩
  go_wp2
  exact ⟨rfl, HE2.out, rfl⟩

set_option maxRecDepth 100000 in
set_option maxHeartbeats 1000000 in
theorem value_pairs (S : List UInt8) (a b ar : Nat) (f : F) (d : Nat) (ha : a < S.length) (c : UInt8) (hc : S.getD a 0 = c) (hn1 : c ∉ ([91] : List UInt8)) (hy : c ∈ ([123] : List UInt8)) (har : ar < 128)
    (hL : RdsF 31 [.int .i64 ((ar + 1 : Nat) : Int)] S a b f d false false) : Reads S a b ar f d false := by
  intro op w p hG hp hr
  obtain ⟨w0, hw0⟩ : ∃ w0, w0 = w.alloc (.cells zeroV 33) := ⟨_, rfl⟩
  have hb : Below w.heap.size w w0 := by rw [hw0]; exact (Below.refl _ _).alloc (Nat.le_refl _) _
  have hX : Blk w0 w.heap.size zeroV 33 := by rw [hw0]; exact Blk.new _ _ _
  have hr0 : Rd w0 p S a op := Blk.below hr hb (Blk.lt hr)
  have hpX : w.heap.size ≠ p := by have := Blk.lt hr; omega
  have c2 := hr0.at2
  have f2 : w0.frozen? ⟨p, 2, none⟩ = false := Blk.free hr0 2
  obtain ⟨w1, hw1⟩ : ∃ w1, w1 = w0.setCell ⟨p, 2, none⟩ (.bool false) := ⟨_, rfl⟩
  have hr1 : Rd w1 p S a false := by rw [hw1]; exact hr0.set2 false
  have hX1 : Blk w1 w.heap.size zeroV 33 := by rw [hw1]; exact hX.set_other _ _ hpX
  have hE1 : Ex (fun k => k = p) w.heap.size w w1 := by rw [hw1]; exact (Ex.of_below (S := fun k => k = p) hb).setCell p 2 (.inl rfl) _
  have HG := Lib.hid hG
  have HW0 := Lib.hid hw0
  have HW1 := Lib.hid hw1
  have HR1 := Lib.hid hr1
  have HX1 := Lib.hid hX1
  have HE1 := Lib.hid hE1
  have HL := Lib.hid hL
  have hsz1 : w.heap.size < w1.heap.size := hX1.lt
  clear hG hw0 hw1 hr1 hX1 hE1 hb hX hr0 hr hL
  show Calls _ _ #[_, _] _ _
  go_enter Tryz.func13, Tryz.ntmps13
  go_upto_region 1 with fail
  change Code.wp _ _ _ _ (w.alloc (.cells zeroV 33))
  rw [← HW0.out]
  go_upto_region 2 with fail
  rw [← HW1.out]
  clear c2 f2
  have c1 := HR1.out.at1
  go_wp2_with fail
  clear c1
  refine (see_no w1 p S a false HR1.out [91] (fun _ => by rw [hc]; exact hn1)).mono ?_
  rintro e w2 ⟨rfl, n2, rfl⟩
  have HR2 := Lib.hid (HR1.out.drewN n2)
  have HX2 := Lib.hid (HX1.out.drewN n2)
  have HE2 := Lib.hid (HE1.out.drewN n2)
  have hsz2 : w.heap.size < (w1.drewN n2).heap.size := hsz1
  generalize w1.drewN n2 = w2 at HR2 HX2 HE2 hsz2 ⊢
  clear HR1 HX1 HE1 hsz1 HW0 HW1
  go_wp2_with fail
  refine (see_yes w2 p S a false HR2.out [123] ha (by rw [hc]; exact hy)).mono ?_
  rintro e w3 ⟨rfl, n3, rfl⟩
  have HR3 := Lib.hid (HR2.out.drewN n3)
  have HX3 := Lib.hid (HX2.out.drewN n3)
  have HE3 := Lib.hid (HE2.out.drewN n3)
  have hsz3 : w.heap.size < (w2.drewN n3).heap.size := hsz2
  generalize w2.drewN n3 = w3 at HR3 HX3 HE3 hsz3 ⊢
  clear HR2 HX2 HE2 hsz2
  go_wp2_with fail
  refine (deep_ok w3 (ar : Int) (a : Int) (by omega)).mono ?_
  rintro e w9 ⟨rfl, rfl⟩
  have g3 : IntKind.i64.wrap ((ar : Int) + 1) = (ar : Int) + 1 := IntWalk.i64_in _ (by omega)
  have HQ : Hid (Calls Tryz.prog 31 #[.pointer (some ⟨p, 0, none⟩), .int .i64 ((ar : Int) + 1)] w9 fun e w' => Rs p S b false w9 w' ∧ ∃ v, e = .returned v ∧ TreeP w' (fun k => w9.heap.size ≤ k) f d v) := Lib.hid (by
    have := HL.out w9 p (HG.out.ex HE3.out hp) hp HR3.out
    simpa using this)
  go_wp2_with fail
  refine HQ.out.mono ?_
  rintro e w4 ⟨hr4, v4, rfl, hT4⟩
  obtain ⟨k1, k2, k3, k4, k5, k6, k7, k8, k9, k10, k11, rfl⟩ := hT4.row
  have hX4 := hr4.2.blk HX3.out hsz3 hpX
  have HE4 := Lib.hid (HE3.out.trans (hr4.2.mono (by omega) (fun _ h => h)))
  have hlt4 : w.heap.size < w4.heap.size := hX4.lt
  have hsz3 : w9.heap.size ≤ w4.heap.size := hr4.2.size
  have HX4 := Lib.hid hX4
  have HR4 := Lib.hid hr4.1
  have HT4 := Lib.hid hT4
  clear hr4 hX4 hT4 HQ HR3 HX3 HE3
  dsimp only
  go_step
  refine wpList_store_row rfl 33 _ _ rfl w.heap.size (vCells k1 k2 false (.slice k3 k4 k5) k6 k7 (strL k8) (.slice k9 k10 k11)) rfl rfl 33 _ HX4.out (by kernel_rfl) rfl (vCells_one _ _ _ _ _ _ _ _ rfl rfl) ?_
  have hfin : Blk (w4.setRow w.heap.size (vCells k1 k2 false (.slice k3 k4 k5) k6 k7 (strL k8) (.slice k9 k10 k11))) w.heap.size (vCells k1 k2 false (.slice k3 k4 k5) k6 k7 (strL k8) (.slice k9 k10 k11)) 33 := setRow_heap _ _ _ _ _ _ HX4.out
  have HFIN := Lib.hid hfin
  clear hfin
  go_wp2
  refine bodyPost_ret (v := .agg (vCells k1 k2 false (.slice k3 k4 k5) k6 k7 (strL k8) (.slice k9 k10 k11))) (results_cell_row rfl _ _ w.heap.size 33 _ (0, 0) _ rfl HFIN.out Tryz.underlying33 rfl (by kernel_rfl)) rfl ⟨Rs.setRow ⟨HR4.out, HE4.out⟩ (Nat.le_refl _) hpX _, _, rfl, TreeP.same (fun k hk _ => setRow_other _ _ _ _ (by omega)) (fun k hk _ => by omega) _ _ _ HT4.out⟩

set_option maxRecDepth 100000 in
set_option maxHeartbeats 1000000 in
theorem value_pairs_fails (S : List UInt8) (a ar code at_ : Nat) (ha : a < S.length) (c : UInt8) (hc : S.getD a 0 = c) (hn1 : c ∉ ([91] : List UInt8)) (hy : c ∈ ([123] : List UInt8)) (har : ar < 128)
    (hL : FlsF 31 [.int .i64 ((ar + 1 : Nat) : Int)] S a false code at_) : Fails S a ar code at_ := by
  intro op w p hG hp hr
  obtain ⟨w0, hw0⟩ : ∃ w0, w0 = w.alloc (.cells zeroV 33) := ⟨_, rfl⟩
  have hb : Below w.heap.size w w0 := by rw [hw0]; exact (Below.refl _ _).alloc (Nat.le_refl _) _
  have hX : Blk w0 w.heap.size zeroV 33 := by rw [hw0]; exact Blk.new _ _ _
  have hr0 : Rd w0 p S a op := Blk.below hr hb (Blk.lt hr)
  have hpX : w.heap.size ≠ p := by have := Blk.lt hr; omega
  have c2 := hr0.at2
  have f2 : w0.frozen? ⟨p, 2, none⟩ = false := Blk.free hr0 2
  obtain ⟨w1, hw1⟩ : ∃ w1, w1 = w0.setCell ⟨p, 2, none⟩ (.bool false) := ⟨_, rfl⟩
  have hr1 : Rd w1 p S a false := by rw [hw1]; exact hr0.set2 false
  have hX1 : Blk w1 w.heap.size zeroV 33 := by rw [hw1]; exact hX.set_other _ _ hpX
  have hE1 : Ex (fun k => k = p) w.heap.size w w1 := by rw [hw1]; exact (Ex.of_below (S := fun k => k = p) hb).setCell p 2 (.inl rfl) _
  have HG := Lib.hid hG
  have HW0 := Lib.hid hw0
  have HW1 := Lib.hid hw1
  have HR1 := Lib.hid hr1
  have HX1 := Lib.hid hX1
  have HE1 := Lib.hid hE1
  have HL := Lib.hid hL
  have hsz1 : w.heap.size < w1.heap.size := hX1.lt
  clear hG hw0 hw1 hr1 hX1 hE1 hb hX hr0 hr hL
  show Calls _ _ #[_, _] _ _
  go_enter Tryz.func13, Tryz.ntmps13
  go_upto_region 1 with fail
  change Code.wp _ _ _ _ (w.alloc (.cells zeroV 33))
  rw [← HW0.out]
  go_upto_region 2 with fail
  rw [← HW1.out]
  clear c2 f2
  have c1 := HR1.out.at1
  go_wp2_with fail
  clear c1
  refine (see_no w1 p S a false HR1.out [91] (fun _ => by rw [hc]; exact hn1)).mono ?_
  rintro e w2 ⟨rfl, n2, rfl⟩
  have HR2 := Lib.hid (HR1.out.drewN n2)
  have HX2 := Lib.hid (HX1.out.drewN n2)
  have HE2 := Lib.hid (HE1.out.drewN n2)
  have hsz2 : w.heap.size < (w1.drewN n2).heap.size := hsz1
  generalize w1.drewN n2 = w2 at HR2 HX2 HE2 hsz2 ⊢
  clear HR1 HX1 HE1 hsz1 HW0 HW1
  go_wp2_with fail
  refine (see_yes w2 p S a false HR2.out [123] ha (by rw [hc]; exact hy)).mono ?_
  rintro e w3 ⟨rfl, n3, rfl⟩
  have HR3 := Lib.hid (HR2.out.drewN n3)
  have HX3 := Lib.hid (HX2.out.drewN n3)
  have HE3 := Lib.hid (HE2.out.drewN n3)
  have hsz3 : w.heap.size < (w2.drewN n3).heap.size := hsz2
  generalize w2.drewN n3 = w3 at HR3 HX3 HE3 hsz3 ⊢
  clear HR2 HX2 HE2 hsz2
  go_wp2_with fail
  refine (deep_ok w3 (ar : Int) (a : Int) (by omega)).mono ?_
  rintro e w9 ⟨rfl, rfl⟩
  have g3 : IntKind.i64.wrap ((ar : Int) + 1) = (ar : Int) + 1 := IntWalk.i64_in _ (by omega)
  have HQ : Hid (Calls Tryz.prog 31 #[.pointer (some ⟨p, 0, none⟩), .int .i64 ((ar : Int) + 1)] w9 fun e w' => Ex (fun k => k = p) w9.heap.size w9 w' ∧ e = .panicked [{ v := stopAt code at_, recovered := false }]) := Lib.hid (by
    have := HL.out w9 p (HG.out.ex HE3.out hp) hp HR3.out
    simpa using this)
  go_wp2_with fail
  refine HQ.out.mono ?_
  rintro e w4 ⟨hb4, rfl⟩
  have HE9 := Lib.hid (HE3.out.trans (hb4.mono (by omega) (fun _ h => h)))
  clear hb4 HQ HR3 HX3 HE3
  go_wp2
  exact ⟨rfl, HE9.out, rfl⟩

set_option maxRecDepth 100000 in
set_option maxHeartbeats 1000000 in
theorem value_pairs_deep (S : List UInt8) (a ar : Nat) (ha : a < S.length) (c : UInt8) (hc : S.getD a 0 = c) (hn1 : c ∉ ([91] : List UInt8)) (hy : c ∈ ([123] : List UInt8)) (har : 128 ≤ ar) : Fails S a ar 5 a := by
  intro op w p hG hp hr
  obtain ⟨w0, hw0⟩ : ∃ w0, w0 = w.alloc (.cells zeroV 33) := ⟨_, rfl⟩
  have hb : Below w.heap.size w w0 := by rw [hw0]; exact (Below.refl _ _).alloc (Nat.le_refl _) _
  have hX : Blk w0 w.heap.size zeroV 33 := by rw [hw0]; exact Blk.new _ _ _
  have hr0 : Rd w0 p S a op := Blk.below hr hb (Blk.lt hr)
  have hpX : w.heap.size ≠ p := by have := Blk.lt hr; omega
  have c2 := hr0.at2
  have f2 : w0.frozen? ⟨p, 2, none⟩ = false := Blk.free hr0 2
  obtain ⟨w1, hw1⟩ : ∃ w1, w1 = w0.setCell ⟨p, 2, none⟩ (.bool false) := ⟨_, rfl⟩
  have hr1 : Rd w1 p S a false := by rw [hw1]; exact hr0.set2 false
  have hX1 : Blk w1 w.heap.size zeroV 33 := by rw [hw1]; exact hX.set_other _ _ hpX
  have hE1 : Ex (fun k => k = p) w.heap.size w w1 := by rw [hw1]; exact (Ex.of_below (S := fun k => k = p) hb).setCell p 2 (.inl rfl) _
  have HG := Lib.hid hG
  have HW0 := Lib.hid hw0
  have HW1 := Lib.hid hw1
  have HR1 := Lib.hid hr1
  have HX1 := Lib.hid hX1
  have HE1 := Lib.hid hE1
  have hsz1 : w.heap.size < w1.heap.size := hX1.lt
  clear hG hw0 hw1 hr1 hX1 hE1 hb hX hr0 hr
  show Calls _ _ #[_, _] _ _
  go_enter Tryz.func13, Tryz.ntmps13
  go_upto_region 1 with fail
  change Code.wp _ _ _ _ (w.alloc (.cells zeroV 33))
  rw [← HW0.out]
  go_upto_region 2 with fail
  rw [← HW1.out]
  clear c2 f2
  have c1 := HR1.out.at1
  go_wp2_with fail
  clear c1
  refine (see_no w1 p S a false HR1.out [91] (fun _ => by rw [hc]; exact hn1)).mono ?_
  rintro e w2 ⟨rfl, n2, rfl⟩
  have HR2 := Lib.hid (HR1.out.drewN n2)
  have HX2 := Lib.hid (HX1.out.drewN n2)
  have HE2 := Lib.hid (HE1.out.drewN n2)
  have hsz2 : w.heap.size < (w1.drewN n2).heap.size := hsz1
  generalize w1.drewN n2 = w2 at HR2 HX2 HE2 hsz2 ⊢
  clear HR1 HX1 HE1 hsz1 HW0 HW1
  go_wp2_with fail
  refine (see_yes w2 p S a false HR2.out [123] ha (by rw [hc]; exact hy)).mono ?_
  rintro e w3 ⟨rfl, n3, rfl⟩
  have HR3 := Lib.hid (HR2.out.drewN n3)
  have HX3 := Lib.hid (HX2.out.drewN n3)
  have HE3 := Lib.hid (HE2.out.drewN n3)
  have hsz3 : w.heap.size < (w2.drewN n3).heap.size := hsz2
  generalize w2.drewN n3 = w3 at HR3 HX3 HE3 hsz3 ⊢
  clear HR2 HX2 HE2 hsz2
  go_wp2_with fail
  refine (deep_bad w3 (ar : Int) (a : Int) (by omega)).mono ?_
  rintro e w9 ⟨rfl, rfl⟩
  go_wp2
  exact ⟨rfl, HE3.out, rfl⟩

set_option maxRecDepth 100000 in
set_option maxHeartbeats 1000000 in
theorem value_number (S : List UInt8) (a b ar : Nat) (f : F) (d : Nat) (op2 : Bool) (ha : a < S.length) (c : UInt8) (hc : S.getD a 0 = c) (hn1 : c ∉ ([91] : List UInt8)) (hn2 : c ∉ ([123] : List UInt8)) (hn3 : c ∉ ([34] : List UInt8)) (hy : c ∈ ([45, 48, 49, 50, 51, 52, 53, 54, 55, 56, 57] : List UInt8)) (har : ar ≤ 128)
    (hL : RdsF 34 [.int .i64 (ar : Int)] S a b f d false op2) : Reads S a b ar f d op2 := by
  intro op w p hG hp hr
  obtain ⟨w0, hw0⟩ : ∃ w0, w0 = w.alloc (.cells zeroV 33) := ⟨_, rfl⟩
  have hb : Below w.heap.size w w0 := by rw [hw0]; exact (Below.refl _ _).alloc (Nat.le_refl _) _
  have hX : Blk w0 w.heap.size zeroV 33 := by rw [hw0]; exact Blk.new _ _ _
  have hr0 : Rd w0 p S a op := Blk.below hr hb (Blk.lt hr)
  have hpX : w.heap.size ≠ p := by have := Blk.lt hr; omega
  have c2 := hr0.at2
  have f2 : w0.frozen? ⟨p, 2, none⟩ = false := Blk.free hr0 2
  obtain ⟨w1, hw1⟩ : ∃ w1, w1 = w0.setCell ⟨p, 2, none⟩ (.bool false) := ⟨_, rfl⟩
  have hr1 : Rd w1 p S a false := by rw [hw1]; exact hr0.set2 false
  have hX1 : Blk w1 w.heap.size zeroV 33 := by rw [hw1]; exact hX.set_other _ _ hpX
  have hE1 : Ex (fun k => k = p) w.heap.size w w1 := by rw [hw1]; exact (Ex.of_below (S := fun k => k = p) hb).setCell p 2 (.inl rfl) _
  have HG := Lib.hid hG
  have HW0 := Lib.hid hw0
  have HW1 := Lib.hid hw1
  have HR1 := Lib.hid hr1
  have HX1 := Lib.hid hX1
  have HE1 := Lib.hid hE1
  have HL := Lib.hid hL
  have hsz1 : w.heap.size < w1.heap.size := hX1.lt
  clear hG hw0 hw1 hr1 hX1 hE1 hb hX hr0 hr hL
  show Calls _ _ #[_, _] _ _
  go_enter Tryz.func13, Tryz.ntmps13
  go_upto_region 1 with fail
  change Code.wp _ _ _ _ (w.alloc (.cells zeroV 33))
  rw [← HW0.out]
  go_upto_region 2 with fail
  rw [← HW1.out]
  clear c2 f2
  have c1 := HR1.out.at1
  go_wp2_with fail
  clear c1
  refine (see_no w1 p S a false HR1.out [91] (fun _ => by rw [hc]; exact hn1)).mono ?_
  rintro e w2 ⟨rfl, n2, rfl⟩
  have HR2 := Lib.hid (HR1.out.drewN n2)
  have HX2 := Lib.hid (HX1.out.drewN n2)
  have HE2 := Lib.hid (HE1.out.drewN n2)
  have hsz2 : w.heap.size < (w1.drewN n2).heap.size := hsz1
  generalize w1.drewN n2 = w2 at HR2 HX2 HE2 hsz2 ⊢
  clear HR1 HX1 HE1 hsz1 HW0 HW1
  go_wp2_with fail
  refine (see_no w2 p S a false HR2.out [123] (fun _ => by rw [hc]; exact hn2)).mono ?_
  rintro e w3 ⟨rfl, n3, rfl⟩
  have HR3 := Lib.hid (HR2.out.drewN n3)
  have HX3 := Lib.hid (HX2.out.drewN n3)
  have HE3 := Lib.hid (HE2.out.drewN n3)
  have hsz3 : w.heap.size < (w2.drewN n3).heap.size := hsz2
  generalize w2.drewN n3 = w3 at HR3 HX3 HE3 hsz3 ⊢
  clear HR2 HX2 HE2 hsz2
  go_wp2_with fail
  refine (see_no w3 p S a false HR3.out [34] (fun _ => by rw [hc]; exact hn3)).mono ?_
  rintro e w4 ⟨rfl, n4, rfl⟩
  have HR4 := Lib.hid (HR3.out.drewN n4)
  have HX4 := Lib.hid (HX3.out.drewN n4)
  have HE4 := Lib.hid (HE3.out.drewN n4)
  have hsz4 : w.heap.size < (w3.drewN n4).heap.size := hsz3
  generalize w3.drewN n4 = w4 at HR4 HX4 HE4 hsz4 ⊢
  clear HR3 HX3 HE3 hsz3
  go_wp2_with fail
  refine (see_yes w4 p S a false HR4.out [45, 48, 49, 50, 51, 52, 53, 54, 55, 56, 57] ha (by rw [hc]; exact hy)).mono ?_
  rintro e w5 ⟨rfl, n5, rfl⟩
  have HR5 := Lib.hid (HR4.out.drewN n5)
  have HX5 := Lib.hid (HX4.out.drewN n5)
  have HE5 := Lib.hid (HE4.out.drewN n5)
  have hsz5 : w.heap.size < (w4.drewN n5).heap.size := hsz4
  generalize w4.drewN n5 = w5 at HR5 HX5 HE5 hsz5 ⊢
  clear HR4 HX4 HE4 hsz4
  have HQ : Hid (Calls Tryz.prog 34 #[.pointer (some ⟨p, 0, none⟩), .int .i64 (ar : Int)] w5 fun e w' => Rs p S b op2 w5 w' ∧ ∃ v, e = .returned v ∧ TreeP w' (fun k => w5.heap.size ≤ k) f d v) := Lib.hid (by
    have := HL.out w5 p (HG.out.ex HE5.out hp) hp HR5.out
    simpa using this)
  go_wp2_with fail
  refine HQ.out.mono ?_
  rintro e wz ⟨hr4, v4, rfl, hT4⟩
  obtain ⟨k1, k2, k3, k4, k5, k6, k7, k8, k9, k10, k11, rfl⟩ := hT4.row
  have hX4 := hr4.2.blk HX5.out hsz5 hpX
  have HE4 := Lib.hid (HE5.out.trans (hr4.2.mono (by omega) (fun _ h => h)))
  have hlt4 : w.heap.size < wz.heap.size := hX4.lt
  have hsz3 : w5.heap.size ≤ wz.heap.size := hr4.2.size
  have HX4 := Lib.hid hX4
  have HR4 := Lib.hid hr4.1
  have HT4 := Lib.hid hT4
  clear hr4 hX4 hT4 HQ HR5 HX5 HE5
  dsimp only
  go_step
  refine wpList_store_row rfl 33 _ _ rfl w.heap.size (vCells k1 k2 false (.slice k3 k4 k5) k6 k7 (strL k8) (.slice k9 k10 k11)) rfl rfl 33 _ HX4.out (by kernel_rfl) rfl (vCells_one _ _ _ _ _ _ _ _ rfl rfl) ?_
  have hfin : Blk (wz.setRow w.heap.size (vCells k1 k2 false (.slice k3 k4 k5) k6 k7 (strL k8) (.slice k9 k10 k11))) w.heap.size (vCells k1 k2 false (.slice k3 k4 k5) k6 k7 (strL k8) (.slice k9 k10 k11)) 33 := setRow_heap _ _ _ _ _ _ HX4.out
  have HFIN := Lib.hid hfin
  clear hfin
  go_wp2
  refine bodyPost_ret (v := .agg (vCells k1 k2 false (.slice k3 k4 k5) k6 k7 (strL k8) (.slice k9 k10 k11))) (results_cell_row rfl _ _ w.heap.size 33 _ (0, 0) _ rfl HFIN.out Tryz.underlying33 rfl (by kernel_rfl)) rfl ⟨Rs.setRow ⟨HR4.out, HE4.out⟩ (Nat.le_refl _) hpX _, _, rfl, TreeP.same (fun k hk _ => setRow_other _ _ _ _ (by omega)) (fun k hk _ => by omega) _ _ _ HT4.out⟩

set_option maxRecDepth 100000 in
set_option maxHeartbeats 1000000 in
theorem value_number_fails (S : List UInt8) (a ar code at_ : Nat) (ha : a < S.length) (c : UInt8) (hc : S.getD a 0 = c) (hn1 : c ∉ ([91] : List UInt8)) (hn2 : c ∉ ([123] : List UInt8)) (hn3 : c ∉ ([34] : List UInt8)) (hy : c ∈ ([45, 48, 49, 50, 51, 52, 53, 54, 55, 56, 57] : List UInt8)) (har : ar ≤ 128)
    (hL : FlsF 34 [.int .i64 (ar : Int)] S a false code at_) : Fails S a ar code at_ := by
  intro op w p hG hp hr
  obtain ⟨w0, hw0⟩ : ∃ w0, w0 = w.alloc (.cells zeroV 33) := ⟨_, rfl⟩
  have hb : Below w.heap.size w w0 := by rw [hw0]; exact (Below.refl _ _).alloc (Nat.le_refl _) _
  have hX : Blk w0 w.heap.size zeroV 33 := by rw [hw0]; exact Blk.new _ _ _
  have hr0 : Rd w0 p S a op := Blk.below hr hb (Blk.lt hr)
  have hpX : w.heap.size ≠ p := by have := Blk.lt hr; omega
  have c2 := hr0.at2
  have f2 : w0.frozen? ⟨p, 2, none⟩ = false := Blk.free hr0 2
  obtain ⟨w1, hw1⟩ : ∃ w1, w1 = w0.setCell ⟨p, 2, none⟩ (.bool false) := ⟨_, rfl⟩
  have hr1 : Rd w1 p S a false := by rw [hw1]; exact hr0.set2 false
  have hX1 : Blk w1 w.heap.size zeroV 33 := by rw [hw1]; exact hX.set_other _ _ hpX
  have hE1 : Ex (fun k => k = p) w.heap.size w w1 := by rw [hw1]; exact (Ex.of_below (S := fun k => k = p) hb).setCell p 2 (.inl rfl) _
  have HG := Lib.hid hG
  have HW0 := Lib.hid hw0
  have HW1 := Lib.hid hw1
  have HR1 := Lib.hid hr1
  have HX1 := Lib.hid hX1
  have HE1 := Lib.hid hE1
  have HL := Lib.hid hL
  have hsz1 : w.heap.size < w1.heap.size := hX1.lt
  clear hG hw0 hw1 hr1 hX1 hE1 hb hX hr0 hr hL
  show Calls _ _ #[_, _] _ _
  go_enter Tryz.func13, Tryz.ntmps13
  go_upto_region 1 with fail
  change Code.wp _ _ _ _ (w.alloc (.cells zeroV 33))
  rw [← HW0.out]
  go_upto_region 2 with fail
  rw [← HW1.out]
  clear c2 f2
  have c1 := HR1.out.at1
  go_wp2_with fail
  clear c1
  refine (see_no w1 p S a false HR1.out [91] (fun _ => by rw [hc]; exact hn1)).mono ?_
  rintro e w2 ⟨rfl, n2, rfl⟩
  have HR2 := Lib.hid (HR1.out.drewN n2)
  have HX2 := Lib.hid (HX1.out.drewN n2)
  have HE2 := Lib.hid (HE1.out.drewN n2)
  have hsz2 : w.heap.size < (w1.drewN n2).heap.size := hsz1
  generalize w1.drewN n2 = w2 at HR2 HX2 HE2 hsz2 ⊢
  clear HR1 HX1 HE1 hsz1 HW0 HW1
  go_wp2_with fail
  refine (see_no w2 p S a false HR2.out [123] (fun _ => by rw [hc]; exact hn2)).mono ?_
  rintro e w3 ⟨rfl, n3, rfl⟩
  have HR3 := Lib.hid (HR2.out.drewN n3)
  have HX3 := Lib.hid (HX2.out.drewN n3)
  have HE3 := Lib.hid (HE2.out.drewN n3)
  have hsz3 : w.heap.size < (w2.drewN n3).heap.size := hsz2
  generalize w2.drewN n3 = w3 at HR3 HX3 HE3 hsz3 ⊢
  clear HR2 HX2 HE2 hsz2
  go_wp2_with fail
  refine (see_no w3 p S a false HR3.out [34] (fun _ => by rw [hc]; exact hn3)).mono ?_
  rintro e w4 ⟨rfl, n4, rfl⟩
  have HR4 := Lib.hid (HR3.out.drewN n4)
  have HX4 := Lib.hid (HX3.out.drewN n4)
  have HE4 := Lib.hid (HE3.out.drewN n4)
  have hsz4 : w.heap.size < (w3.drewN n4).heap.size := hsz3
  generalize w3.drewN n4 = w4 at HR4 HX4 HE4 hsz4 ⊢
  clear HR3 HX3 HE3 hsz3
  go_wp2_with fail
  refine (see_yes w4 p S a false HR4.out [45, 48, 49, 50, 51, 52, 53, 54, 55, 56, 57] ha (by rw [hc]; exact hy)).mono ?_
  rintro e w5 ⟨rfl, n5, rfl⟩
  have HR5 := Lib.hid (HR4.out.drewN n5)
  have HX5 := Lib.hid (HX4.out.drewN n5)
  have HE5 := Lib.hid (HE4.out.drewN n5)
  have hsz5 : w.heap.size < (w4.drewN n5).heap.size := hsz4
  generalize w4.drewN n5 = w5 at HR5 HX5 HE5 hsz5 ⊢
  clear HR4 HX4 HE4 hsz4
  have HQ : Hid (Calls Tryz.prog 34 #[.pointer (some ⟨p, 0, none⟩), .int .i64 (ar : Int)] w5 fun e w' => Ex (fun k => k = p) w5.heap.size w5 w' ∧ e = .panicked [{ v := stopAt code at_, recovered := false }]) := Lib.hid (by
    have := HL.out w5 p (HG.out.ex HE5.out hp) hp HR5.out
    simpa using this)
  go_wp2_with fail
  refine HQ.out.mono ?_
  rintro e w4 ⟨hb4, rfl⟩
  have HE9 := Lib.hid (HE5.out.trans (hb4.mono (by omega) (fun _ h => h)))
  clear hb4 HQ HR5 HX5 HE5
  go_wp2
  exact ⟨rfl, HE9.out, rfl⟩

set_option maxRecDepth 100000 in
set_option maxHeartbeats 1000000 in
theorem value_name (S : List UInt8) (a b ar : Nat) (f : F) (d : Nat) (op2 : Bool) (ha : a < S.length) (c : UInt8) (hc : S.getD a 0 = c) (hn1 : c ∉ ([91] : List UInt8)) (hn2 : c ∉ ([123] : List UInt8)) (hn3 : c ∉ ([34] : List UInt8)) (hn4 : c ∉ ([45, 48, 49, 50, 51, 52, 53, 54, 55, 56, 57] : List UInt8)) (hn5 : c ∉ ([104] : List UInt8)) (hn6 : c ∉ ([115] : List UInt8)) (hn7 : c ∉ ([101] : List UInt8)) (har : ar ≤ 128)
    (hL : RdsF 38 [] S a b f d false op2) : Reads S a b ar f d op2 := by
  intro op w p hG hp hr
  obtain ⟨w0, hw0⟩ : ∃ w0, w0 = w.alloc (.cells zeroV 33) := ⟨_, rfl⟩
  have hb : Below w.heap.size w w0 := by rw [hw0]; exact (Below.refl _ _).alloc (Nat.le_refl _) _
  have hX : Blk w0 w.heap.size zeroV 33 := by rw [hw0]; exact Blk.new _ _ _
  have hr0 : Rd w0 p S a op := Blk.below hr hb (Blk.lt hr)
  have hpX : w.heap.size ≠ p := by have := Blk.lt hr; omega
  have c2 := hr0.at2
  have f2 : w0.frozen? ⟨p, 2, none⟩ = false := Blk.free hr0 2
  obtain ⟨w1, hw1⟩ : ∃ w1, w1 = w0.setCell ⟨p, 2, none⟩ (.bool false) := ⟨_, rfl⟩
  have hr1 : Rd w1 p S a false := by rw [hw1]; exact hr0.set2 false
  have hX1 : Blk w1 w.heap.size zeroV 33 := by rw [hw1]; exact hX.set_other _ _ hpX
  have hE1 : Ex (fun k => k = p) w.heap.size w w1 := by rw [hw1]; exact (Ex.of_below (S := fun k => k = p) hb).setCell p 2 (.inl rfl) _
  have HG := Lib.hid hG
  have HW0 := Lib.hid hw0
  have HW1 := Lib.hid hw1
  have HR1 := Lib.hid hr1
  have HX1 := Lib.hid hX1
  have HE1 := Lib.hid hE1
  have HL := Lib.hid hL
  have hsz1 : w.heap.size < w1.heap.size := hX1.lt
  clear hG hw0 hw1 hr1 hX1 hE1 hb hX hr0 hr hL
  show Calls _ _ #[_, _] _ _
  go_enter Tryz.func13, Tryz.ntmps13
  go_upto_region 1 with fail
  change Code.wp _ _ _ _ (w.alloc (.cells zeroV 33))
  rw [← HW0.out]
  go_upto_region 2 with fail
  rw [← HW1.out]
  clear c2 f2
  have c1 := HR1.out.at1
  go_wp2_with fail
  clear c1
  refine (see_no w1 p S a false HR1.out [91] (fun _ => by rw [hc]; exact hn1)).mono ?_
  rintro e w2 ⟨rfl, n2, rfl⟩
  have HR2 := Lib.hid (HR1.out.drewN n2)
  have HX2 := Lib.hid (HX1.out.drewN n2)
  have HE2 := Lib.hid (HE1.out.drewN n2)
  have hsz2 : w.heap.size < (w1.drewN n2).heap.size := hsz1
  generalize w1.drewN n2 = w2 at HR2 HX2 HE2 hsz2 ⊢
  clear HR1 HX1 HE1 hsz1 HW0 HW1
  go_wp2_with fail
  refine (see_no w2 p S a false HR2.out [123] (fun _ => by rw [hc]; exact hn2)).mono ?_
  rintro e w3 ⟨rfl, n3, rfl⟩
  have HR3 := Lib.hid (HR2.out.drewN n3)
  have HX3 := Lib.hid (HX2.out.drewN n3)
  have HE3 := Lib.hid (HE2.out.drewN n3)
  have hsz3 : w.heap.size < (w2.drewN n3).heap.size := hsz2
  generalize w2.drewN n3 = w3 at HR3 HX3 HE3 hsz3 ⊢
  clear HR2 HX2 HE2 hsz2
  go_wp2_with fail
  refine (see_no w3 p S a false HR3.out [34] (fun _ => by rw [hc]; exact hn3)).mono ?_
  rintro e w4 ⟨rfl, n4, rfl⟩
  have HR4 := Lib.hid (HR3.out.drewN n4)
  have HX4 := Lib.hid (HX3.out.drewN n4)
  have HE4 := Lib.hid (HE3.out.drewN n4)
  have hsz4 : w.heap.size < (w3.drewN n4).heap.size := hsz3
  generalize w3.drewN n4 = w4 at HR4 HX4 HE4 hsz4 ⊢
  clear HR3 HX3 HE3 hsz3
  go_wp2_with fail
  refine (see_no w4 p S a false HR4.out [45, 48, 49, 50, 51, 52, 53, 54, 55, 56, 57] (fun _ => by rw [hc]; exact hn4)).mono ?_
  rintro e w5 ⟨rfl, n5, rfl⟩
  have HR5 := Lib.hid (HR4.out.drewN n5)
  have HX5 := Lib.hid (HX4.out.drewN n5)
  have HE5 := Lib.hid (HE4.out.drewN n5)
  have hsz5 : w.heap.size < (w4.drewN n5).heap.size := hsz4
  generalize w4.drewN n5 = w5 at HR5 HX5 HE5 hsz5 ⊢
  clear HR4 HX4 HE4 hsz4
  go_wp2_with fail
  refine (see_no w5 p S a false HR5.out [104] (fun _ => by rw [hc]; exact hn5)).mono ?_
  rintro e w6 ⟨rfl, n6, rfl⟩
  have HR6 := Lib.hid (HR5.out.drewN n6)
  have HX6 := Lib.hid (HX5.out.drewN n6)
  have HE6 := Lib.hid (HE5.out.drewN n6)
  have hsz6 : w.heap.size < (w5.drewN n6).heap.size := hsz5
  generalize w5.drewN n6 = w6 at HR6 HX6 HE6 hsz6 ⊢
  clear HR5 HX5 HE5 hsz5
  go_wp2_with fail
  refine (see_no w6 p S a false HR6.out [115] (fun _ => by rw [hc]; exact hn6)).mono ?_
  rintro e w7 ⟨rfl, n7, rfl⟩
  have HR7 := Lib.hid (HR6.out.drewN n7)
  have HX7 := Lib.hid (HX6.out.drewN n7)
  have HE7 := Lib.hid (HE6.out.drewN n7)
  have hsz7 : w.heap.size < (w6.drewN n7).heap.size := hsz6
  generalize w6.drewN n7 = w7 at HR7 HX7 HE7 hsz7 ⊢
  clear HR6 HX6 HE6 hsz6
  go_wp2_with fail
  refine (see_no w7 p S a false HR7.out [101] (fun _ => by rw [hc]; exact hn7)).mono ?_
  rintro e w8 ⟨rfl, n8, rfl⟩
  have HR8 := Lib.hid (HR7.out.drewN n8)
  have HX8 := Lib.hid (HX7.out.drewN n8)
  have HE8 := Lib.hid (HE7.out.drewN n8)
  have hsz8 : w.heap.size < (w7.drewN n8).heap.size := hsz7
  generalize w7.drewN n8 = w8 at HR8 HX8 HE8 hsz8 ⊢
  clear HR7 HX7 HE7 hsz7
  have HQ : Hid (Calls Tryz.prog 38 #[.pointer (some ⟨p, 0, none⟩)] w8 fun e w' => Rs p S b op2 w8 w' ∧ ∃ v, e = .returned v ∧ TreeP w' (fun k => w8.heap.size ≤ k) f d v) := Lib.hid (by
    have := HL.out w8 p (HG.out.ex HE8.out hp) hp HR8.out
    simpa using this)
  go_wp2_with fail
  refine HQ.out.mono ?_
  rintro e wz ⟨hr4, v4, rfl, hT4⟩
  obtain ⟨k1, k2, k3, k4, k5, k6, k7, k8, k9, k10, k11, rfl⟩ := hT4.row
  have hX4 := hr4.2.blk HX8.out hsz8 hpX
  have HE4 := Lib.hid (HE8.out.trans (hr4.2.mono (by omega) (fun _ h => h)))
  have hlt4 : w.heap.size < wz.heap.size := hX4.lt
  have hsz3 : w8.heap.size ≤ wz.heap.size := hr4.2.size
  have HX4 := Lib.hid hX4
  have HR4 := Lib.hid hr4.1
  have HT4 := Lib.hid hT4
  clear hr4 hX4 hT4 HQ HR8 HX8 HE8
  dsimp only
  go_step
  refine wpList_store_row rfl 33 _ _ rfl w.heap.size (vCells k1 k2 false (.slice k3 k4 k5) k6 k7 (strL k8) (.slice k9 k10 k11)) rfl rfl 33 _ HX4.out (by kernel_rfl) rfl (vCells_one _ _ _ _ _ _ _ _ rfl rfl) ?_
  have hfin : Blk (wz.setRow w.heap.size (vCells k1 k2 false (.slice k3 k4 k5) k6 k7 (strL k8) (.slice k9 k10 k11))) w.heap.size (vCells k1 k2 false (.slice k3 k4 k5) k6 k7 (strL k8) (.slice k9 k10 k11)) 33 := setRow_heap _ _ _ _ _ _ HX4.out
  have HFIN := Lib.hid hfin
  clear hfin
  go_wp2
  refine bodyPost_ret (v := .agg (vCells k1 k2 false (.slice k3 k4 k5) k6 k7 (strL k8) (.slice k9 k10 k11))) (results_cell_row rfl _ _ w.heap.size 33 _ (0, 0) _ rfl HFIN.out Tryz.underlying33 rfl (by kernel_rfl)) rfl ⟨Rs.setRow ⟨HR4.out, HE4.out⟩ (Nat.le_refl _) hpX _, _, rfl, TreeP.same (fun k hk _ => setRow_other _ _ _ _ (by omega)) (fun k hk _ => by omega) _ _ _ HT4.out⟩
end Go.Proofs.YtbhfoelnoddlkaaGreatDoor.D

