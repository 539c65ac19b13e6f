/-
  Of the proof that the law DiagDeep answers true at every row of bytes: a part, without conditions of its own.
-/
import Derived.Test.YtbhfoelnoddlkaaGreatDoorPart09
import Derived.Test.YtbhfoelnoddlkaaGreatDoorPart06
import Derived.Great.BuildSlice
set_option linter.unusedVariables false
set_option linter.unusedSimpArgs false
/-
  value.Map at one key and one value: walked.
-/
namespace Go.Proofs.YtbhfoelnoddlkaaGreatDoor.D
open Go Go.RowKit Limb

/-- A value's cells when none are set. -/
def zeroV : Array Value := #[.int .i8 0, .int .u64 0, .bool false, .slice none 0 0, .int .u64 0, .int .i8 0, .string ⟨#[]⟩, .slice none 0 0]

/-- A new pair of a key and a value. -/
structure PairOK (w' : World) (P : Nat → Prop) (g : Nat) (f0 f1 : F) (d0 d1 : Nat) (z0 z1 : Array Value) : Prop where
  lt : g < w'.heap.size
  at_ : PairAt w' g 0 (z0.toList ++ z1.toList ++ [.int .i64 0])
  s0 : z0.size = 8
  s1 : z1.size = 8
  o0 : z0.all (·.oneCell') = true
  o1 : z1.all (·.oneCell') = true
  t0 : TreeP w' P f0 d0 (.agg z0)
  t1 : TreeP w' P f1 d1 (.agg z1)

set_option maxRecDepth 100000 in
set_option maxHeartbeats 2000000 in
theorem map_two (w : World) (hG : GShape w) (hC : GCtz w) (N d b o cap : Nat) (t : List UInt8) (X : Nat) (fs : Nat → F) (xs : Nat → Array Value) (ds : Nat → Nat) (hN : N ≤ w.heap.size) (hb : b < N) (hrow : VRow w b o 2 xs) (hT : ∀ i, i < 2 → Tree w N (fs i) (ds i) (.agg (xs i)) ∧ ds i < d) (hd : d ≤ 128) (he : ∃ i, i < 2 ∧ ds i + 1 = d) (htold : Told 8 0 X [] 2 t fs) :
    Calls Tryz.prog 56 #[.slice (some ⟨b, o, none⟩) 2 cap] w fun e w' => Below w.heap.size w w' ∧ ∃ v', e = .returned (.tuple #[v', .nilIface]) ∧ TreeP w' (fun b => w.heap.size ≤ b) (.node t X fs) d v' := by
  have HN := Lib.hid hN
  have HROW := Lib.hid hrow
  have HT := Lib.hid hT
  have HG := Lib.hid hG
  have HCC := Lib.hid hC
  clear hrow hT hG hC hN
  go_enter Tryz.func56, Tryz.ntmps56
  go_wp2_with fail
  have hb0 : Below w.heap.size w (w.alloc (.cells zeroV 33)) := (Below.refl _ _).alloc (Nat.le_refl _) _
  have hk0 := Blk.new w zeroV 33
  change Code.wp _ _ _ _ (w.alloc (.cells zeroV 33))
  generalize w.alloc (.cells zeroV 33) = W0 at hb0 hk0 ⊢
  have HB0 := Lib.hid hb0
  have HK0 := Lib.hid hk0
  clear hb0 hk0
  go_loopw [4, 31] (fun deep i wr => ∃ k : Nat, k ≤ 2 ∧ i = .int .i64 k ∧ deep = .bool false ∧ Hid (Blk wr w.heap.size zeroV 33) ∧ Hid (Below w.heap.size w wr)) (fun _ i _ => 2 - (intOf i).toNat)
  case atStart => exact ⟨0, by omega, rfl, rfl, HK0, HB0⟩
  case round =>
    clear HB0 HK0
    obtain ⟨k, hkm, rfl, rfl, HKr, HBr⟩ := hrel
    by_cases h1 : k < 2
    · have hTk := Tree.below (HBr.out.mono HN.out) _ _ _ (HT.out k h1).1
      have hdk := (HT.out k h1).2
      obtain ⟨hx8, hxc⟩ := (HROW.out.below (HBr.out.mono HN.out) hb) k h1
      obtain ⟨kind', nn', mb', mn', mc', bits', ext', text', kb', kn', kc', hxk⟩ := hTk.cells
      have HTK := Lib.hid hTk
      simp only [Value.agg.injEq] at hxk
      rw [hxk] at hxc HTK
      have d0 := hxc 0 (by omega)
      have d1 := hxc 1 (by omega)
      have d2 := hxc 2 (by omega)
      have d3 := hxc 3 (by omega)
      have d4 := hxc 4 (by omega)
      have d5 := hxc 5 (by omega)
      have d6 := hxc 6 (by omega)
      have d7 := hxc 7 (by omega)
      simp only [vCells, List.getElem?_toArray, List.getElem?_cons_zero, List.getElem?_cons_succ, Nat.add_zero] at d0 d1 d2 d3 d4 d5 d6 d7
      clear hx8 hxc hxk hTk
      have g1 : (k : Int) < 2 := by omega
      have hby : Below wr.heap.size wr (wr.alloc (.cells (vCells kind' nn' false (.slice mb' mn' mc') bits' ext' (strL text') (.slice kb' kn' kc')) 33)) := (Below.refl _ _).alloc (Nat.le_refl _) _
      have hbl := Blk.new wr (vCells kind' nn' false (.slice mb' mn' mc') bits' ext' (strL text') (.slice kb' kn' kc')) 33
      have hNr : N ≤ wr.heap.size := Nat.le_trans HN.out HBr.out.size
      have hwr : w.heap.size ≤ wr.heap.size := HBr.out.size
      have hwl : w.heap.size < wr.heap.size := HKr.out.lt
      have HBY := Lib.hid hby
      have HBL := Lib.hid hbl
      clear hby hbl
      go_upto_region 7 with fail
      change Code.wp _ _ _ _ (wr.alloc (.cells (vCells kind' nn' false (.slice mb' mn' mc') bits' ext' (strL text') (.slice kb' kn' kc')) 33))
      clear d0 d1 d2 d3 d4 d5 d6 d7
      generalize wr.alloc (.cells (vCells kind' nn' false (.slice mb' mn' mc') bits' ext' (strL text') (.slice kb' kn' kc')) 33) = wa at HBY HBL ⊢
      have hNa : N ≤ wa.heap.size := Nat.le_trans hNr HBY.out.size
      have HBa := Lib.hid (HBr.out.trans (HBY.out.mono HBr.out.size))
      have HTa := Lib.hid (Tree.below (HBY.out.mono hNr) _ _ _ HTK.out)
      have HKa := Lib.hid (HKr.out.below HBY.out hwl)
      refine wp_region_lit ?_
      refine wpList_load_row rfl 33 _ rfl wr.heap.size rfl 33 _ (0, 0) _ HBL.out Tryz.underlying33 rfl (by kernel_rfl) ?_
      go_wp2_with fail
      refine (walk_map1 wa (HG.out.below HBa.out HG.out.size) (HCC.out.below HBa.out HCC.out.size) N (fs k) (ds k) _ hNa HTa.out (by omega)).mono ?_
      rintro e w1 ⟨rfl, hb1⟩
      have hwa : w.heap.size ≤ wa.heap.size := HBa.out.size
      have hNa1 : N ≤ w1.heap.size := Nat.le_trans hNa hb1.size
      have HB1 := Lib.hid (HBa.out.trans (hb1.mono hwa))
      have HT1 := Lib.hid (Tree.below (hb1.mono hNa) _ _ _ HTa.out)
      have HBL1 := Lib.hid (HBL.out.below hb1 HBL.out.lt)
      have HK1 := Lib.hid (HKa.out.below hb1 (Nat.lt_of_lt_of_le hwl HBY.out.size))
      have hwl1 : w.heap.size < w1.heap.size := HK1.out.lt
      clear hb1 HBL HTa HKa HBa
      go_upto_region 10 with fail
      refine wp_region_lit ?_
      refine wpList_load_row rfl 33 _ rfl wr.heap.size rfl 33 _ (0, 0) _ HBL1.out Tryz.underlying33 rfl (by kernel_rfl) ?_
      go_wp2_with fail
      refine (walk_map2 w1 N (fs k) (ds k) _ hNa1 HT1.out (by omega)).mono ?_
      rintro e w2 ⟨rfl, hb2⟩
      have hNa2 : N ≤ w2.heap.size := Nat.le_trans hNa1 hb2.size
      have HB2 := Lib.hid (HB1.out.trans (hb2.mono HB1.out.size))
      have HT2 := Lib.hid (Tree.below (hb2.mono hNa1) _ _ _ HT1.out)
      have HBL2 := Lib.hid (HBL1.out.below hb2 HBL1.out.lt)
      have HK2 := Lib.hid (HK1.out.below hb2 HK1.out.lt)
      clear hb2 HBL1 HT1 HK1 HB1
      have HD := Lib.hid (depth_any N (fs k) (ds k) _ w2 hNa2 (by omega) HT2.out)
      have g2 : ¬ ((128 : Int) ≤ (ds k : Int)) := by omega
      go_upto_region 13 with fail
      have d0 := HBL2.out.cell 0
      have d1 := HBL2.out.cell 1
      have d2 := HBL2.out.cell 2
      have d3 := HBL2.out.cell 3
      have d4 := HBL2.out.cell 4
      have d5 := HBL2.out.cell 5
      have d6 := HBL2.out.cell 6
      have d7 := HBL2.out.cell 7
      simp only [vCells, List.getElem?_toArray, List.getElem?_cons_zero, List.getElem?_cons_succ] at d0 d1 d2 d3 d4 d5 d6 d7
      simp only [vCells] at HD
      go_wp2_with fail
      refine HD.out.mono ?_
      rintro e w3 ⟨rfl, hb3⟩
      have HB3 := Lib.hid (HB2.out.trans (hb3.mono HB2.out.size))
      have HK3 := Lib.hid (HK2.out.below hb3 HK2.out.lt)
      clear hb3 HB2 HK2 d0 d1 d2 d3 d4 d5 d6 d7 HD
      go_wp2
      go_roundw
      case rel => exact ⟨k + 1, by omega, by congr 1, by congr 1; exact decide_eq_false (by omega), HK3, HB3⟩
      case measure => simp [intOf]; omega
    · obtain rfl : k = 2 := by omega
      have h1 : ¬ ((2 : Nat) : Int) < 2 := by omega
      go_wp2_with fail
      go_loopw [11, 12] (fun s i w2 => Hid (Blk w2 w.heap.size zeroV 33) ∧ Hid (Below w.heap.size w w2) ∧ ((i = .int .i64 0 ∧ s = .slice none 0 0) ∨ (i = .int .i64 2 ∧ ∃ g c z0 z1, s = .slice (some ⟨g, 0, none⟩) 1 c ∧ Hid (PairOK w2 (fun b => w.heap.size < b) g (fs 0) (fs 1) (ds 0) (ds 1) z0 z1)))) (fun _ i _ => 2 - (intOf i).toNat)
      case atStart => exact ⟨HKr, HBr, .inl ⟨rfl, rfl⟩⟩
      case round =>
        clear HKr HBr
        obtain ⟨HKs, HBs, ⟨rfl, rfl⟩ | ⟨rfl, g, c, z0, z1, rfl, HPs⟩⟩ := hrel
        · skip
          obtain ⟨hx80, hxc0⟩ := HROW.out 0 (by omega)
          obtain ⟨kind0, nn0, mb0, mn0, mc0, bits0, ext0, text0, kb0, kn0, kc0, hxk0⟩ := (HT.out 0 (by omega)).1.cells
          have HT0 := Lib.hid (HT.out 0 (by omega)).1
          simp only [Value.agg.injEq] at hxk0
          rw [hxk0] at hxc0 HT0
          have HR0 : Hid (∀ w', Below w.heap.size w w' → w'.cell? ⟨b, o, none⟩ = some (.int .i8 kind0) ∧ w'.cell? ⟨b, o + 1, none⟩ = some (.int .u64 nn0) ∧ w'.cell? ⟨b, o + 2, none⟩ = some (.bool false) ∧ w'.cell? ⟨b, o + 3, none⟩ = some (.slice mb0 mn0 mc0) ∧ w'.cell? ⟨b, o + 4, none⟩ = some (.int .u64 bits0) ∧ w'.cell? ⟨b, o + 5, none⟩ = some (.int .i8 ext0) ∧ w'.cell? ⟨b, o + 6, none⟩ = some (.string (strL text0)) ∧ w'.cell? ⟨b, o + 7, none⟩ = some (.slice kb0 kn0 kc0)) := Lib.hid (fun w' h => by
            have hc := fun j (hj : j < 8) => by
              have := hxc0 j hj
              rw [← (h.mono HN.out).cell (p := ⟨b, _, none⟩) hb] at this
              exact this
            exact ⟨hc 0 (by omega), hc 1 (by omega), hc 2 (by omega), hc 3 (by omega), hc 4 (by omega), hc 5 (by omega), hc 6 (by omega), hc 7 (by omega)⟩)
          have HQ0 : Hid (∀ w', Below w.heap.size w w' → Calls Tryz.prog 103 #[.agg (vCells kind0 nn0 false (.slice mb0 mn0 mc0) bits0 ext0 (strL text0) (.slice kb0 kn0 kc0))] w' fun e w9 => ∃ a0 a1 a2 a3 a4 a5 a6 a7, e = .returned (.agg #[a0, a1, a2, a3, a4, a5, a6, a7]) ∧ Hid (#[a0, a1, a2, a3, a4, a5, a6, a7].all (·.oneCell') = true) ∧ Hid (Below w'.heap.size w' w9) ∧ Hid (TreeP w9 (fun b => w'.heap.size ≤ b) (fs 0) (ds 0) (.agg #[a0, a1, a2, a3, a4, a5, a6, a7]))) := Lib.hid (fun w' h => by
            refine (copy_any N (fs 0) (ds 0) _ w' (Nat.le_trans HN.out h.size) (Tree.below (h.mono HN.out) _ _ _ HT0.out)).mono ?_
            rintro e w9 ⟨hb9, v9, rfl, hT9⟩
            obtain ⟨q1, q2, q3, q4, q5, q6, q7, q8, q9, q10, q11, hq⟩ := (TreeP.toN (N := w9.heap.size) (fun b _ h => h) _ _ _ hT9).cells
            subst hq
            exact ⟨_, _, _, _, _, _, _, _, rfl, Lib.hid (vCells_one _ _ _ _ _ _ _ _ rfl rfl), Lib.hid hb9, Lib.hid hT9⟩)
          clear hxc0 hx80 hxk0
          obtain ⟨hx81, hxc1⟩ := HROW.out 1 (by omega)
          obtain ⟨kind1, nn1, mb1, mn1, mc1, bits1, ext1, text1, kb1, kn1, kc1, hxk1⟩ := (HT.out 1 (by omega)).1.cells
          have HT1 := Lib.hid (HT.out 1 (by omega)).1
          simp only [Value.agg.injEq] at hxk1
          rw [hxk1] at hxc1 HT1
          have HR1 : Hid (∀ w', Below w.heap.size w w' → w'.cell? ⟨b, o + 8, none⟩ = some (.int .i8 kind1) ∧ w'.cell? ⟨b, o + 8 + 1, none⟩ = some (.int .u64 nn1) ∧ w'.cell? ⟨b, o + 8 + 2, none⟩ = some (.bool false) ∧ w'.cell? ⟨b, o + 8 + 3, none⟩ = some (.slice mb1 mn1 mc1) ∧ w'.cell? ⟨b, o + 8 + 4, none⟩ = some (.int .u64 bits1) ∧ w'.cell? ⟨b, o + 8 + 5, none⟩ = some (.int .i8 ext1) ∧ w'.cell? ⟨b, o + 8 + 6, none⟩ = some (.string (strL text1)) ∧ w'.cell? ⟨b, o + 8 + 7, none⟩ = some (.slice kb1 kn1 kc1)) := Lib.hid (fun w' h => by
            have hc := fun j (hj : j < 8) => by
              have := hxc1 j hj
              rw [← (h.mono HN.out).cell (p := ⟨b, _, none⟩) hb] at this
              exact this
            exact ⟨hc 0 (by omega), hc 1 (by omega), hc 2 (by omega), hc 3 (by omega), hc 4 (by omega), hc 5 (by omega), hc 6 (by omega), hc 7 (by omega)⟩)
          have HQ1 : Hid (∀ w', Below w.heap.size w w' → Calls Tryz.prog 103 #[.agg (vCells kind1 nn1 false (.slice mb1 mn1 mc1) bits1 ext1 (strL text1) (.slice kb1 kn1 kc1))] w' fun e w9 => ∃ a0 a1 a2 a3 a4 a5 a6 a7, e = .returned (.agg #[a0, a1, a2, a3, a4, a5, a6, a7]) ∧ Hid (#[a0, a1, a2, a3, a4, a5, a6, a7].all (·.oneCell') = true) ∧ Hid (Below w'.heap.size w' w9) ∧ Hid (TreeP w9 (fun b => w'.heap.size ≤ b) (fs 1) (ds 1) (.agg #[a0, a1, a2, a3, a4, a5, a6, a7]))) := Lib.hid (fun w' h => by
            refine (copy_any N (fs 1) (ds 1) _ w' (Nat.le_trans HN.out h.size) (Tree.below (h.mono HN.out) _ _ _ HT1.out)).mono ?_
            rintro e w9 ⟨hb9, v9, rfl, hT9⟩
            obtain ⟨q1, q2, q3, q4, q5, q6, q7, q8, q9, q10, q11, hq⟩ := (TreeP.toN (N := w9.heap.size) (fun b _ h => h) _ _ _ hT9).cells
            subst hq
            exact ⟨_, _, _, _, _, _, _, _, rfl, Lib.hid (vCells_one _ _ _ _ _ _ _ _ rfl rfl), Lib.hid hb9, Lib.hid hT9⟩)
          clear hxc1 hx81 hxk1
          go_upto_region 19 with fail
          refine wp_region_noPanic ?_
          refine wp_region_held_drew (S := fun w' => Below w.heap.size w w' ∧ Blk w' w.heap.size zeroV 33) (by kernel_rfl) ⟨below_drewN HBs.out 1, HKs.out.drewN 1⟩ (fun hH => ?_)
          refine take_at (d := some 81) (hd := by rfl) (i := 0) (oi := _) (v := .slice none 0 0) rfl (by kernel_rfl) (by kernel_rfl) (by kernel_rfl) (fun _ _ _ h => h) (Or.inl ⟨by rfl, fun w' hSw => ?_⟩) hH ?_
          · clear hH hSw
            go_simp
          try simp only [Act.put, List.setIfInBounds_toArray, List.set_cons_zero, List.set_cons_succ]
          refine take_at (d := some 82) (hd := by rfl) (i := 1) (oi := _) (v := .slice (some ⟨b, o, none⟩) 2 cap) rfl (by kernel_rfl) (by kernel_rfl) (by kernel_rfl) (fun _ _ _ h => h) (Or.inl ⟨by rfl, fun w' hSw => ?_⟩) hH ?_
          · clear hH hSw
            go_simp
          try simp only [Act.put, List.setIfInBounds_toArray, List.set_cons_zero, List.set_cons_succ]
          refine take_at (d := some 83) (hd := by rfl) (i := 2) (oi := _) (v := .int .i64 0) rfl (by kernel_rfl) (by kernel_rfl) (by kernel_rfl) (fun _ _ _ h => h) (Or.inl ⟨by rfl, fun w' hSw => ?_⟩) hH ?_
          · clear hH hSw
            go_simp
          try simp only [Act.put, List.setIfInBounds_toArray, List.set_cons_zero, List.set_cons_succ]
          refine take_at (d := some 84) (hd := by rfl) (i := 3) (oi := _) (v := .pointer (some ⟨b, o, none⟩)) rfl (by kernel_rfl) (by kernel_rfl) (by kernel_rfl) (fun _ _ _ h => h) (Or.inl ⟨by rfl, fun w' hSw => ?_⟩) hH ?_
          · clear hH hSw
            go_simp
          try simp only [Act.put, List.setIfInBounds_toArray, List.set_cons_zero, List.set_cons_succ]
          refine take_at (d := some 85) (hd := by rfl) (i := 4) (oi := _) (v := .agg (vCells kind0 nn0 false (.slice mb0 mn0 mc0) bits0 ext0 (strL text0) (.slice kb0 kn0 kc0))) rfl (by kernel_rfl) (by kernel_rfl) (by kernel_rfl) (fun _ _ _ h => h) (Or.inl ⟨by rfl, fun w' hSw => ?_⟩) hH ?_
          · obtain ⟨d0, d1, d2, d3, d4, d5, d6, d7⟩ := HR0.out w' hSw.1
            clear hH hSw
            go_simp
            rfl
          try simp only [Act.put, List.setIfInBounds_toArray, List.set_cons_zero, List.set_cons_succ]
          refine take_at (d := some 87) (hd := by rfl) (i := 6) (oi := _) (v := .slice (some ⟨b, o, none⟩) 2 cap) rfl (by kernel_rfl) (by kernel_rfl) (by kernel_rfl) (fun _ _ _ h => h) (Or.inl ⟨by rfl, fun w' hSw => ?_⟩) hH ?_
          · clear hH hSw
            go_simp
          try simp only [Act.put, List.setIfInBounds_toArray, List.set_cons_zero, List.set_cons_succ]
          refine take_at (d := some 88) (hd := by rfl) (i := 7) (oi := _) (v := .int .i64 0) rfl (by kernel_rfl) (by kernel_rfl) (by kernel_rfl) (fun _ _ _ h => h) (Or.inl ⟨by rfl, fun w' hSw => ?_⟩) hH ?_
          · clear hH hSw
            go_simp
          try simp only [Act.put, List.setIfInBounds_toArray, List.set_cons_zero, List.set_cons_succ]
          refine take_at (d := some 89) (hd := by rfl) (i := 8) (oi := _) (v := .int .i64 1) rfl (by kernel_rfl) (by kernel_rfl) (by kernel_rfl) (fun _ _ _ h => h) (Or.inl ⟨by rfl, fun w' hSw => ?_⟩) hH ?_
          · clear hH hSw
            go_simp
            rfl
          try simp only [Act.put, List.setIfInBounds_toArray, List.set_cons_zero, List.set_cons_succ]
          refine take_at (d := some 90) (hd := by rfl) (i := 9) (oi := _) (v := .pointer (some ⟨b, o + 8, none⟩)) rfl (by kernel_rfl) (by kernel_rfl) (by kernel_rfl) (fun _ _ _ h => h) (Or.inl ⟨by rfl, fun w' hSw => ?_⟩) hH ?_
          · clear hH hSw
            go_simp
          try simp only [Act.put, List.setIfInBounds_toArray, List.set_cons_zero, List.set_cons_succ]
          refine take_at (d := some 91) (hd := by rfl) (i := 10) (oi := _) (v := .agg (vCells kind1 nn1 false (.slice mb1 mn1 mc1) bits1 ext1 (strL text1) (.slice kb1 kn1 kc1))) rfl (by kernel_rfl) (by kernel_rfl) (by kernel_rfl) (fun _ _ _ h => h) (Or.inl ⟨by rfl, fun w' hSw => ?_⟩) hH ?_
          · obtain ⟨d0, d1, d2, d3, d4, d5, d6, d7⟩ := HR1.out w' hSw.1
            clear hH hSw
            go_simp
            rfl
          try simp only [Act.put, List.setIfInBounds_toArray, List.set_cons_zero, List.set_cons_succ]
          refine take_at (d := some 94) (hd := by rfl) (i := 13) (oi := _) (v := .int .i64 0) rfl (by kernel_rfl) (by kernel_rfl) (by kernel_rfl) (fun _ _ _ h => h) (Or.inl ⟨by rfl, fun w' hSw => ?_⟩) hH ?_
          · clear hH hSw
            go_simp
          try simp only [Act.put, List.setIfInBounds_toArray, List.set_cons_zero, List.set_cons_succ]
          refine take_at (d := some 95) (hd := by rfl) (i := 14) (oi := _) (v := .int .i64 0) rfl (by kernel_rfl) (by kernel_rfl) (by kernel_rfl) (fun _ _ _ h => h) (Or.inl ⟨by rfl, fun w' hSw => ?_⟩) hH ?_
          · clear hH hSw
            go_simp
            rfl
          try simp only [Act.put, List.setIfInBounds_toArray, List.set_cons_zero, List.set_cons_succ]
          refine wpAnyH_ready (rs := [5]) (by kernel_rfl) (by simp) ?_
          refine AllReadyH.cons (o := _) rfl (fun K hK => ?_) AllReadyH.nil
          go_simp
          refine (HQ0.out _ hH.1).mono ?_
          rintro e w5 ⟨y0, y1, y2, y3, y4, y5, y6, y7, rfl, ho0, hb5, ht0⟩
          go_wp2_with fail
          refine hK.out _ _ ⟨hH.1.trans (hb5.out.mono hH.1.size), hH.2.below hb5.out hH.2.lt⟩ (fun hH => ?_)
          clear hK K
          try simp only [Act.put, List.setIfInBounds_toArray, List.set_cons_zero, List.set_cons_succ]
          refine wpAnyH_ready (rs := [11]) (by kernel_rfl) (by simp) ?_
          refine AllReadyH.cons (o := _) rfl (fun K hK => ?_) AllReadyH.nil
          go_simp
          refine (HQ1.out _ hH.1).mono ?_
          rintro e w6 ⟨x0, x1, x2, x3, x4, x5, x6, x7, rfl, ho1, hb6, ht1⟩
          go_wp2_with fail
          refine hK.out _ _ ⟨hH.1.trans (hb6.out.mono hH.1.size), hH.2.below hb6.out hH.2.lt⟩ (fun hH => ?_)
          clear hK K
          try simp only [Act.put, List.setIfInBounds_toArray, List.set_cons_zero, List.set_cons_succ]
          refine take_at (d := some 93) (hd := by rfl) (i := 12) (oi := _) (v := .agg #[y0, y1, y2, y3, y4, y5, y6, y7, x0, x1, x2, x3, x4, x5, x6, x7]) rfl (by kernel_rfl) (by kernel_rfl) (by kernel_rfl) (fun _ _ _ h => h) (Or.inl ⟨by rfl, fun w' hSw => ?_⟩) hH ?_
          · clear hH hSw
            kernel_rfl
          try simp only [Act.put, List.setIfInBounds_toArray, List.set_cons_zero, List.set_cons_succ]
          refine take_at (d := some 96) (hd := by rfl) (i := 15) (oi := _) (v := .agg #[y0, y1, y2, y3, y4, y5, y6, y7, x0, x1, x2, x3, x4, x5, x6, x7, .int .i64 0]) rfl (by kernel_rfl) (by kernel_rfl) (by kernel_rfl) (fun _ _ _ h => h) (Or.inl ⟨by rfl, fun w' hSw => ?_⟩) hH ?_
          · clear hH hSw
            kernel_rfl
          try simp only [Act.put, List.setIfInBounds_toArray, List.set_cons_zero, List.set_cons_succ]
          refine wpAnyH_ready (rs := [16]) (by kernel_rfl) (by simp) ?_
          refine AllReadyH.cons (o := _) rfl (fun K hK => ?_) AllReadyH.nil
          go_simp
          have hal : Below w6.heap.size w6 (w6.alloc (.cells #[y0, y1, y2, y3, y4, y5, y6, y7, x0, x1, x2, x3, x4, x5, x6, x7, .int .i64 0] 170)) := (Below.refl _ _).alloc (Nat.le_refl _) _
          have hnw := Blk.new w6 #[y0, y1, y2, y3, y4, y5, y6, y7, x0, x1, x2, x3, x4, x5, x6, x7, .int .i64 0] 170
          have HZZ := Lib.hid hH
          refine hK.out _ _ ⟨hH.1.trans (hal.mono hH.1.size), hH.2.below hal hH.2.lt⟩ (fun hH => ?_)
          clear hK K
          try simp only [Act.put, List.setIfInBounds_toArray, List.set_cons_zero, List.set_cons_succ]
          refine wpAnyH_ready (rs := [17]) (by kernel_rfl) (by simp) ?_
          refine AllReadyH.cons (o := _) rfl (fun K hK => ?_) AllReadyH.nil
          rw [if_pos (by rfl)]
          obtain ⟨i0, hi0, hz0, hs0, hb0⟩ := infoP'
          refine wp_append_own _ (.tmp 81) (.tmp 97) 165 rfl (w.heap.size + 1) 170 i0 _ 17 216 Tryz.underlying165 hi0 hz0 hs0 hb0 rfl (by decide) (.slice none 0 0) 0 [] rfl (World.ownsRow_nil _ _ _ _) ⟨w6.heap.size, 0, none⟩ 1 1 [y0, y1, y2, y3, y4, y5, y6, y7, x0, x1, x2, x3, x4, x5, x6, x7, .int .i64 0] rfl rfl ?c1 ?c2 ?c3 ?c4 ?c5 ?_
          case c1 =>
            intro j u hj
            rw [add_plain', Nat.zero_add, hnw.cell j]
            simpa using hj
          case c2 =>
            intro u hu
            have e0 := ho0.out
            have e1 := ho1.out
            simp only [List.mem_cons, List.not_mem_nil, or_false] at hu
            simp at e0 e1
            rcases hu with rfl | rfl | rfl | rfl | rfl | rfl | rfl | rfl | rfl | rfl | rfl | rfl | rfl | rfl | rfl | rfl | rfl <;> first | rfl | simp [e0, e1]
          case c3 => decide
          case c4 => decide
          case c5 => have := hH.2.lt; omega
          intro v' w7 hown hgrow hnn
          have hb7 : Below w6.heap.size w6 w7 := hal.trans ⟨hgrow.os, hgrow.tape, hgrow.output, hgrow.size, fun k hk => hgrow.block k (by simp; omega) (fun e => by simp [Value.ownBlock] at e)⟩
          have h56 : w5.heap.size ≤ w6.heap.size := hb6.out.size
          have hw5 : w.heap.size < wr.heap.size := HKs.out.lt
          have hw15 : wr.heap.size ≤ w5.heap.size := hb5.out.size
          have hP7 : ∃ g c, v' = .slice (some ⟨g, 0, none⟩) 1 c ∧ Hid (PairOK w7 (fun b => w.heap.size < b) g (fs 0) (fs 1) (ds 0) (ds 1) #[y0, y1, y2, y3, y4, y5, y6, y7] #[x0, x1, x2, x3, x4, x5, x6, x7]) := by
            obtain ⟨hlen, ⟨rfl, h0⟩ | ⟨g, cp, cur, rfl, hg, hc, hle, hm, hsz, htk⟩⟩ := hown
            · have := (hnn.1 rfl).2; simp at this
            · rw [Nat.zero_add] at hle htk
              refine ⟨g, cp, by rw [Nat.zero_add], Lib.hid ⟨(Array.getElem?_eq_some_iff.1 hc).1, fun j u hj => ?_, rfl, rfl, ho0.out, ho1.out, ?_, ?_⟩⟩
              · have hj17 : j < 17 := by
                  rcases Nat.lt_or_ge j 17 with h | h
                  · exact h
                  · rw [List.getElem?_eq_none (by simp; omega)] at hj; cases hj
                have e : w7.cell? ⟨g, 0 + j, none⟩ = cur[j]? := by rw [Nat.zero_add]; simp [World.cell?, hc]
                have h9 : (cur.toList.take (1 * 17))[j]? = ([y0, y1, y2, y3, y4, y5, y6, y7, x0, x1, x2, x3, x4, x5, x6, x7, .int .i64 0] : List Value)[j]? := by rw [htk]; rfl
                have h10 : ([y0, y1, y2, y3, y4, y5, y6, y7, x0, x1, x2, x3, x4, x5, x6, x7, .int .i64 0] : List Value)[j]? = some u := hj
                rw [e, ← Array.getElem?_toList, ← h10, ← h9, List.getElem?_take, if_pos (by omega)]
              · exact TreeP.same (fun b _ h => (hb7.block b (by omega)).trans (hb6.out.block b h)) (fun b h _ => by have h1 : wr.heap.size ≤ b := h; omega) _ _ _ ht0.out
              · exact TreeP.same (fun b _ h => hb7.block b h) (fun b h _ => by have h1 : w5.heap.size ≤ b := h; omega) _ _ _ ht1.out
          have HB7 : Hid (Below w.heap.size w w7) := Lib.hid (HZZ.out.1.trans (hb7.mono HZZ.out.1.size))
          have HK7 : Hid (Blk w7 w.heap.size zeroV 33) := Lib.hid (HZZ.out.2.below hb7 HZZ.out.2.lt)
          obtain ⟨g, c, rfl, HP7⟩ := hP7
          clear hown hgrow hnn hb7 hal hnw hi0 hz0 hs0 hb0 hb5 hb6 ht0 ht1 ho0 ho1 HZZ HQ0 HQ1 HR0 HR1 HT0 HT1
          refine hK.out _ _ ⟨HB7.out, HK7.out⟩ (fun hH => ?_)
          clear hK K
          try simp only [Act.put, List.setIfInBounds_toArray, List.set_cons_zero, List.set_cons_succ]
          refine wpAnyH_ready (rs := [18]) (by kernel_rfl) (by simp) ?_
          refine AllReadyH.cons (o := _) rfl (fun K hK => ?_) AllReadyH.nil
          go_simp
          refine hK.out _ _ ⟨HB7.out, HK7.out⟩ (fun hH => ?_)
          clear hK K
          try simp only [Act.put, List.setIfInBounds_toArray, List.set_cons_zero, List.set_cons_succ]
          refine wpAnyH_done (by kernel_rfl) ?_ _
          refine NoPanic.normal ?_
          clear hH
          go_wp2
          go_roundw
          case rel => exact ⟨HK7, HB7, .inr ⟨rfl, g, c, _, _, rfl, HP7⟩⟩
          case measure => simp [intOf]
        · go_wp2_with fail
          refine (twice_pair1 wr (some ⟨g, 0, none⟩) c _ _ _).mono ?_
          rintro e w1 ⟨hb1, rfl⟩
          have hPw := HPs.out
          have hgl := hPw.lt
          have hwl : w.heap.size < wr.heap.size := HKs.out.lt
          have HB1 := Lib.hid (HBs.out.trans (hb1.mono HBs.out.size))
          have HK1 := Lib.hid (HKs.out.below hb1 HKs.out.lt)
          have HA1 := Lib.hid (hPw.at_.below hb1 hgl)
          have hg1 : g < w1.heap.size := Nat.lt_of_lt_of_le hgl hb1.size
          have hwl1 : w.heap.size < w1.heap.size := Nat.lt_of_lt_of_le hwl hb1.size
          have HT10 : Hid (TreeP w1 (fun b => w.heap.size < b) (fs 0) (ds 0) (.agg z0)) := Lib.hid (TreeP.same (fun b _ h => hb1.block b h) (fun b h _ => h) _ _ _ hPw.t0)
          have HT11 : Hid (TreeP w1 (fun b => w.heap.size < b) (fs 1) (ds 1) (.agg z1)) := Lib.hid (TreeP.same (fun b _ h => hb1.block b h) (fun b h _ => h) _ _ _ hPw.t1)
          have hs0 := hPw.s0
          have hs1 := hPw.s1
          have HO0 := Lib.hid hPw.o0
          have HO1 := Lib.hid hPw.o1
          clear hb1 hPw HPs HKs HBs hwl hgl
          go_wp2_with fail
          obtain ⟨kind0, nn0, mb0, mn0, mc0, bits0, ext0, text0, kb0, kn0, kc0, hz0⟩ := (TreeP.toN (N := w1.heap.size) (fun b _ h => h) _ _ _ HT10.out).cells
          obtain ⟨kind1, nn1, mb1, mn1, mc1, bits1, ext1, text1, kb1, kn1, kc1, hz1⟩ := (TreeP.toN (N := w1.heap.size) (fun b _ h => h) _ _ _ HT11.out).cells
          simp only [Value.agg.injEq] at hz0 hz1
          subst hz0 hz1
          have hal : Below w1.heap.size w1 (w1.alloc (.cells #[.int .i8 8, .int .u64 0, .bool false, .slice none 0 0, .int .u64 0, .int .i8 0, .string ⟨#[]⟩, .slice none 0 0] 33)) := (Below.refl _ _).alloc (Nat.le_refl _) _
          have hnw := Blk.new w1 #[.int .i8 8, .int .u64 0, .bool false, .slice none 0 0, .int .u64 0, .int .i8 0, .string ⟨#[]⟩, .slice none 0 0] 33
          generalize w1.alloc (.cells #[.int .i8 8, .int .u64 0, .bool false, .slice none 0 0, .int .u64 0, .int .i8 0, .string ⟨#[]⟩, .slice none 0 0] 33) = wB at hal hnw ⊢
          have hone : ∀ u ∈ ((vCells kind0 nn0 false (.slice mb0 mn0 mc0) bits0 ext0 (strL text0) (.slice kb0 kn0 kc0)).toList ++ (vCells kind1 nn1 false (.slice mb1 mn1 mc1) bits1 ext1 (strL text1) (.slice kb1 kn1 kc1)).toList ++ [.int .i64 0]), u.oneCell' = true := by
            intro u hu
            have e0 := HO0.out
            have e1 := HO1.out
            rw [Array.all_eq_true_iff_forall_mem] at e0 e1
            simp only [List.mem_append, Array.mem_toList_iff, List.mem_singleton] at hu
            rcases hu with (hu | hu) | rfl
            · exact e0 u hu
            · exact e1 u hu
            · rfl
          refine (sort_pair1 wB g 0 c ((vCells kind0 nn0 false (.slice mb0 mn0 mc0) bits0 ext0 (strL text0) (.slice kb0 kn0 kc0)).toList ++ (vCells kind1 nn1 false (.slice mb1 mn1 mc1) bits1 ext1 (strL text1) (.slice kb1 kn1 kc1)).toList ++ [.int .i64 0]) rfl (Nat.lt_of_lt_of_le hg1 hal.size) (HA1.out.below hal hg1) hone _ _ _).mono ?_
          rintro e w2 ⟨hb2, g2, c2, rfl, hg2, hg2l, hA2⟩
          have HB2 := Lib.hid (HB1.out.trans ((hal.trans (hb2.mono hal.size)).mono HB1.out.size))
          have h12 : Below w1.heap.size w1 w2 := hal.trans (hb2.mono hal.size)
          have HK2 := Lib.hid (HK1.out.below h12 hwl1)
          have HY2 := Lib.hid (hnw.below hb2 hnw.lt)
          have HT20 : Hid (TreeP w2 (fun b => w.heap.size < b ∧ b < w1.heap.size) (fs 0) (ds 0) (.agg (vCells kind0 nn0 false (.slice mb0 mn0 mc0) bits0 ext0 (strL text0) (.slice kb0 kn0 kc0)))) := Lib.hid (TreeP.same (fun b _ h => h12.block b h) (fun b h h' => ⟨h, h'⟩) _ _ _ HT10.out)
          have HT21 : Hid (TreeP w2 (fun b => w.heap.size < b ∧ b < w1.heap.size) (fs 1) (ds 1) (.agg (vCells kind1 nn1 false (.slice mb1 mn1 mc1) bits1 ext1 (strL text1) (.slice kb1 kn1 kc1)))) := Lib.hid (TreeP.same (fun b _ h => h12.block b h) (fun b h h' => ⟨h, h'⟩) _ _ _ HT11.out)
          have hwB : w1.heap.size < wB.heap.size := hnw.lt
          have HA2 := Lib.hid hA2
          have h2l : w1.heap.size < w2.heap.size := by omega
          clear hb2 hal hnw HA1 HK1 HB1 HT10 HT11 h12 hA2 hone hg1
          go_wp2_with fail
          go_loopw [122] (fun i wr => (i = .int .i64 0 ∧ wr = w2) ∨ (i = .int .i64 1 ∧ ∃ h cc, Hid (Blk wr w1.heap.size #[.int .i8 8, .int .u64 0, .bool false, .slice none 0 0, .int .u64 0, .int .i8 0, .string ⟨#[]⟩, .slice (some ⟨h, 0, none⟩) 2 cc] 33) ∧ Hid (Blk wr w.heap.size zeroV 33) ∧ Hid (Below w.heap.size w wr) ∧ Hid (w1.heap.size < h ∧ h < wr.heap.size ∧ 2 ≤ cc ∧ cc ≤ maxLen) ∧ Hid (VRow wr h 0 2 (fun i => if i = 0 then (vCells kind0 nn0 false (.slice mb0 mn0 mc0) bits0 ext0 (strL text0) (.slice kb0 kn0 kc0)) else (vCells kind1 nn1 false (.slice mb1 mn1 mc1) bits1 ext1 (strL text1) (.slice kb1 kn1 kc1)))) ∧ Hid (∀ b, w.heap.size < b ∧ b < w1.heap.size → b < w2.heap.size → wr.heap[b]? = w2.heap[b]?))) (fun i _ => 1 - (intOf i).toNat)
          case atStart => exact .inl ⟨rfl, rfl⟩
          case round =>
            rcases hrel with ⟨rfl, rfl⟩ | ⟨rfl, h, cc, HYr, HKr, HBr, HLr, HVr, HSr⟩
            · skip
              go_upto_region 29 with fail
              refine wp_region_lit ?_
              iterate 3 go_step
              refine wpList_load_mid rfl 170 _ rfl g2 0 rfl ((vCells kind0 nn0 false (.slice mb0 mn0 mc0) bits0 ext0 (strL text0) (.slice kb0 kn0 kc0)).toList ++ (vCells kind1 nn1 false (.slice mb1 mn1 mc1) bits1 ext1 (strL text1) (.slice kb1 kn1 kc1)).toList ++ [Value.int .i64 0]) _ HA2.out Tryz.underlying170 rfl (by kernel_rfl) ?_
              iterate 3 go_step
              change wpList _ _ _ _ _ (wr.alloc (.cells zeroP 170))
              have hal := (Below.refl wr.heap.size wr).alloc (Nat.le_refl _) (.cells zeroP 170)
              have hnw := Blk.new wr zeroP 170
              generalize wr.alloc (.cells zeroP 170) = wA at hal hnw ⊢
              have hone : (((vCells kind0 nn0 false (.slice mb0 mn0 mc0) bits0 ext0 (strL text0) (.slice kb0 kn0 kc0)).toList ++ (vCells kind1 nn1 false (.slice mb1 mn1 mc1) bits1 ext1 (strL text1) (.slice kb1 kn1 kc1)).toList ++ [Value.int .i64 0]).toArray).all (·.oneCell') = true := by
                have e0 := HO0.out
                have e1 := HO1.out
                rw [Array.all_eq_true_iff_forall_mem] at e0 e1 ⊢
                intro u hu
                simp only [List.mem_toArray, List.mem_append, Array.mem_toList_iff, List.mem_singleton] at hu
                rcases hu with (hu | hu) | rfl
                · exact e0 u hu
                · exact e1 u hu
                · rfl
              refine wpList_store_row rfl 170 _ _ rfl wr.heap.size (((vCells kind0 nn0 false (.slice mb0 mn0 mc0) bits0 ext0 (strL text0) (.slice kb0 kn0 kc0)).toList ++ (vCells kind1 nn1 false (.slice mb1 mn1 mc1) bits1 ext1 (strL text1) (.slice kb1 kn1 kc1)).toList ++ [Value.int .i64 0]).toArray) rfl rfl 170 _ hnw (by kernel_rfl) rfl hone ?_
              have hbx : Blk (wA.setRow wr.heap.size (((vCells kind0 nn0 false (.slice mb0 mn0 mc0) bits0 ext0 (strL text0) (.slice kb0 kn0 kc0)).toList ++ (vCells kind1 nn1 false (.slice mb1 mn1 mc1) bits1 ext1 (strL text1) (.slice kb1 kn1 kc1)).toList ++ [Value.int .i64 0]).toArray)) wr.heap.size (((vCells kind0 nn0 false (.slice mb0 mn0 mc0) bits0 ext0 (strL text0) (.slice kb0 kn0 kc0)).toList ++ (vCells kind1 nn1 false (.slice mb1 mn1 mc1) bits1 ext1 (strL text1) (.slice kb1 kn1 kc1)).toList ++ [Value.int .i64 0]).toArray) 170 := setRow_heap _ _ _ _ _ _ hnw
              have hbb : Below wr.heap.size wr (wA.setRow wr.heap.size (((vCells kind0 nn0 false (.slice mb0 mn0 mc0) bits0 ext0 (strL text0) (.slice kb0 kn0 kc0)).toList ++ (vCells kind1 nn1 false (.slice mb1 mn1 mc1) bits1 ext1 (strL text1) (.slice kb1 kn1 kc1)).toList ++ [Value.int .i64 0]).toArray)) := below_setRow hal (Nat.le_refl _) _
              generalize wA.setRow wr.heap.size (((vCells kind0 nn0 false (.slice mb0 mn0 mc0) bits0 ext0 (strL text0) (.slice kb0 kn0 kc0)).toList ++ (vCells kind1 nn1 false (.slice mb1 mn1 mc1) bits1 ext1 (strL text1) (.slice kb1 kn1 kc1)).toList ++ [Value.int .i64 0]).toArray) = wX at hbx hbb ⊢
              clear hal hnw hone
              have HY3 := Lib.hid (HY2.out.below hbb h2l)
              have y7 := HY3.out.cell 7
              simp only [List.getElem?_toArray, List.getElem?_cons_zero, List.getElem?_cons_succ] at y7
              have HP0 : Hid (wX.rangeAt wr.heap.size 0 (vCells kind0 nn0 false (.slice mb0 mn0 mc0) bits0 ext0 (strL text0) (.slice kb0 kn0 kc0)).toList) := Lib.hid (fun j v hj => by
                have hjl : j < 8 := by
                  rcases Nat.lt_or_ge j 8 with h | h
                  · exact h
                  · rw [List.getElem?_eq_none (by simpa [vCells] using h)] at hj; cases hj
                have := hbx.cell (0 + j)
                rw [this, ← hj]
                rcases (by omega : j = 0 ∨ j = 1 ∨ j = 2 ∨ j = 3 ∨ j = 4 ∨ j = 5 ∨ j = 6 ∨ j = 7) with rfl | rfl | rfl | rfl | rfl | rfl | rfl | rfl <;> rfl)
              have HP1 : Hid (wX.rangeAt wr.heap.size 8 (vCells kind1 nn1 false (.slice mb1 mn1 mc1) bits1 ext1 (strL text1) (.slice kb1 kn1 kc1)).toList) := Lib.hid (fun j v hj => by
                have hjl : j < 8 := by
                  rcases Nat.lt_or_ge j 8 with h | h
                  · exact h
                  · rw [List.getElem?_eq_none (by simpa [vCells] using h)] at hj; cases hj
                have := hbx.cell (8 + j)
                rw [this, ← hj]
                rcases (by omega : j = 0 ∨ j = 1 ∨ j = 2 ∨ j = 3 ∨ j = 4 ∨ j = 5 ∨ j = 6 ∨ j = 7) with rfl | rfl | rfl | rfl | rfl | rfl | rfl | rfl <;> rfl)
              have HBX := Lib.hid hbb
              clear hbx hbb
              go_upto_region 30 with fail
              refine wp_region_lit ?_
              iterate 12 go_step
              refine wpList_load_mid rfl 33 (.tmp 129) rfl wr.heap.size 0 rfl _ _ HP0.out Tryz.underlying33 rfl (by kernel_rfl) ?_
              iterate 6 go_step
              refine wpList_load_mid rfl 33 (.tmp 132) rfl wr.heap.size 8 rfl _ _ HP1.out Tryz.underlying33 rfl (by kernel_rfl) ?_
              obtain ⟨i0, hi0, hz0, hs0', hb0⟩ := info31'
              obtain ⟨cs16, hcs16⟩ : ∃ cs : Array Value, cs = #[.int .i8 kind0, .int .u64 nn0, .bool false, .slice mb0 mn0 mc0, .int .u64 bits0, .int .i8 ext0, .string (strL text0), .slice kb0 kn0 kc0, .int .i8 kind1, .int .u64 nn1, .bool false, .slice mb1 mn1 mc1, .int .u64 bits1, .int .i8 ext1, .string (strL text1), .slice kb1 kn1 kc1] := ⟨_, rfl⟩
              refine wpList_buildSlice rfl 31 33 2 #[(0, .tmp 130), (1, .tmp 133)] rfl cs16 i0 _ Tryz.underlying31 hi0 hz0 (by rw [hs0']; decide) (by rw [hs0']; decide) (by rw [hs0', hcs16]; kernel_rfl) ?_
              have hal := (Below.refl wX.heap.size wX).alloc (Nat.le_refl _) (.cells cs16 33)
              have hnw := Blk.new wX cs16 33
              generalize wX.alloc (.cells cs16 33) = wC at hal hnw ⊢
              have hXw : w1.heap.size < wX.heap.size := Nat.lt_of_lt_of_le h2l HBX.out.size
              have hCw : wX.heap.size < wC.heap.size := hnw.lt
              have hone16 : ∀ u ∈ cs16.toList, u.oneCell' = true := by
                intro u hu
                have e0 := HO0.out
                have e1 := HO1.out
                rw [Array.all_eq_true_iff_forall_mem] at e0 e1
                have : cs16 = (vCells kind0 nn0 false (.slice mb0 mn0 mc0) bits0 ext0 (strL text0) (.slice kb0 kn0 kc0)) ++ (vCells kind1 nn1 false (.slice mb1 mn1 mc1) bits1 ext1 (strL text1) (.slice kb1 kn1 kc1)) := hcs16.trans rfl
                rw [this] at hu
                simp only [Array.mem_toList_iff, Array.mem_append] at hu
                rcases hu with hu | hu
                · exact e0 u hu
                · exact e1 u hu
              have hlen16 : cs16.toList.length = 2 * 8 := by rw [hcs16]; rfl
              refine wpList_append_own _ rfl (.tmp 127) (.tmp 134) 31 rfl (w1.heap.size + 1) 33 i0 _ 8 104 Tryz.underlying31 hi0 hz0 hs0' hb0 rfl (by decide) (.slice none 0 0) 0 [] rfl (World.ownsRow_nil _ _ _ _) ⟨wX.heap.size, 0, none⟩ 2 2 cs16.toList rfl hlen16 ?c1 hone16 ?c3 ?c4 ?c5 ?_
              case c1 =>
                intro j u hj
                rw [add_plain', Nat.zero_add, hnw.cell j]
                simpa using hj
              case c3 => decide
              case c4 => decide
              case c5 => omega
              intro v' wD hown hgrow hnn
              have hbD : Below wX.heap.size wX wD := hal.trans ⟨hgrow.os, hgrow.tape, hgrow.output, hgrow.size, fun k hk => hgrow.block k (by omega) (fun e => by simp [Value.ownBlock] at e)⟩
              obtain ⟨hlen, ⟨rfl, h0⟩ | ⟨g3, cp3, cur, rfl, hg3, hc3, hle3, hm3, hsz3, htk3⟩⟩ := hown
              · have := (hnn.1 rfl).2; simp at this
              rw [Nat.zero_add] at hle3 htk3
              have HYD := Lib.hid (HY3.out.below hbD hXw)
              have y7' := HYD.out.cell 7
              have y7f := HYD.out.free 7
              simp only [List.getElem?_toArray, List.getElem?_cons_zero, List.getElem?_cons_succ] at y7'
              clear hnn hgrow hal hnw y7
              go_wp2_with fail
              have hbr : Below wr.heap.size wr wD := HBX.out.trans (hbD.mono HBX.out.size)
              have hgl : g3 < wD.heap.size := (Array.getElem?_eq_some_iff.1 hc3).1
              refine ⟨.inr ⟨rfl, g3, cp3, Lib.hid ?_, Lib.hid ?_, Lib.hid ?_, Lib.hid ⟨by omega, by simpa using hgl, by omega, hm3⟩, Lib.hid ?_, Lib.hid ?_⟩, by simp [intOf]⟩
              · have := HYD.out.set 7 (.slice (some ⟨g3, 0, none⟩) 2 cp3)
                simpa using this
              · exact (HK2.out.below hbr HK2.out.lt).set_other _ _ (by show w.heap.size ≠ w1.heap.size; omega)
              · exact (HB2.out.trans (hbr.mono HB2.out.size)).setCell (p := ⟨w1.heap.size, 7, none⟩) (by show w.heap.size ≤ w1.heap.size; omega) _
              · refine vrow_of (t := 33) (cur := cur) ?_ ?_ ?_
                · rw [Below.heap_setCell _ _ _ _ (show g3 ≠ w1.heap.size by omega)]; exact hc3
                · intro i hi
                  rcases (by omega : i = 0 ∨ i = 1) with rfl | rfl <;> rfl
                · rw [htk3, hcs16]; kernel_rfl
              · intro b h1 h2
                rw [Below.heap_setCell _ _ _ _ (show b ≠ w1.heap.size by omega)]
                exact hbr.block b h2
            · go_upto_region 32 with fail
              refine wp_region_lit ?_
              refine wpList_load_row rfl 33 _ rfl w1.heap.size rfl 33 _ (0, 0) _ HYr.out Tryz.underlying33 rfl (by kernel_rfl) ?_
              refine wpList_store_row rfl 33 _ _ rfl w.heap.size #[.int .i8 8, .int .u64 0, .bool false, .slice none 0 0, .int .u64 0, .int .i8 0, .string ⟨#[]⟩, .slice (some ⟨h, 0, none⟩) 2 cc] rfl rfl 33 _ HKr.out (by kernel_rfl) rfl (vCells_one 8 0 false (.slice none 0 0) 0 0 ⟨#[]⟩ (.slice (some ⟨h, 0, none⟩) 2 cc) rfl rfl) ?_
              have hfin : Blk (wr.setRow w.heap.size #[.int .i8 8, .int .u64 0, .bool false, .slice none 0 0, .int .u64 0, .int .i8 0, .string ⟨#[]⟩, .slice (some ⟨h, 0, none⟩) 2 cc]) w.heap.size #[.int .i8 8, .int .u64 0, .bool false, .slice none 0 0, .int .u64 0, .int .i8 0, .string ⟨#[]⟩, .slice (some ⟨h, 0, none⟩) 2 cc] 33 := setRow_heap _ _ _ _ _ _ HKr.out
              have hoth : ∀ b, b ≠ w.heap.size → (wr.setRow w.heap.size #[.int .i8 8, .int .u64 0, .bool false, .slice none 0 0, .int .u64 0, .int .i8 0, .string ⟨#[]⟩, .slice (some ⟨h, 0, none⟩) 2 cc]).heap[b]? = wr.heap[b]? := fun b hb => setRow_other _ _ _ _ hb
              have hbf : Below w.heap.size w (wr.setRow w.heap.size #[.int .i8 8, .int .u64 0, .bool false, .slice none 0 0, .int .u64 0, .int .i8 0, .string ⟨#[]⟩, .slice (some ⟨h, 0, none⟩) 2 cc]) := below_setRow HBr.out (Nat.le_refl _) _
              generalize wr.setRow w.heap.size #[.int .i8 8, .int .u64 0, .bool false, .slice none 0 0, .int .u64 0, .int .i8 0, .string ⟨#[]⟩, .slice (some ⟨h, 0, none⟩) 2 cc] = wF at hfin hoth hbf ⊢
              have HFIN := Lib.hid hfin
              have HOTH := Lib.hid hoth
              have HBF := Lib.hid hbf
              clear hfin hoth hbf
              go_wp2
              have r0 := HFIN.out.cell 0
              have r1 := HFIN.out.cell 1
              have r2 := HFIN.out.cell 2
              have r3 := HFIN.out.cell 3
              have r4 := HFIN.out.cell 4
              have r5 := HFIN.out.cell 5
              have r6 := HFIN.out.cell 6
              have r7 := HFIN.out.cell 7
              simp only [List.getElem?_toArray, List.getElem?_cons_zero, List.getElem?_cons_succ] at r0 r1 r2 r3 r4 r5 r6 r7
              refine bodyPost_ret (v := .tuple #[.agg #[.int .i8 8, .int .u64 0, .bool false, .slice none 0 0, .int .u64 0, .int .i8 0, .string ⟨#[]⟩, .slice (some ⟨h, 0, none⟩) 2 cc], .nilIface]) (by simp [results, Tryz.results56, go_sem, *]) rfl ⟨HBF.out, _, rfl, ?_⟩
              have hL := HLr.out
              have hm63 : maxLen ≤ 9223372036854775807 := by decide
              have hsz : wF.heap.size = wF.heap.size := rfl
              have hbk : ∀ b, b ≠ w.heap.size → b < wr.heap.size → b < wF.heap.size := fun b h1 h2 => lt_of_heap h2 (HOTH.out b h1)
              refine ⟨8, 0, .slice none 0 0, 0, 0, [], .slice (some ⟨h, 0, none⟩) 2 cc, 2, rfl, ⟨?_, fun b o k c e => by simp at e⟩, htold, .inr ⟨by omega, h, 0, cc, (fun i => if i = 0 then (vCells kind0 nn0 false (.slice mb0 mn0 mc0) bits0 ext0 (strL text0) (.slice kb0 kn0 kc0)) else (vCells kind1 nn1 false (.slice mb1 mn1 mc1) bits1 ext1 (strL text1) (.slice kb1 kn1 kc1))), ds, rfl, by omega, by omega, ⟨hbk h (by omega) (by omega), by omega⟩, ?_, fun i hi => ⟨?_, (HT.out i hi).2⟩, he⟩⟩
              · exact ⟨rfl, .inr (.inr (.inr (.inr (.inr (.inl ⟨rfl, rfl, rfl, rfl, rfl, rfl⟩)))))⟩
              · exact fun i hi => ⟨(HVr.out i hi).1, fun j hj => by
                  rw [World.cell?_of_block (w := wr) (a := ⟨h, 0 + i * 8 + j, none⟩) (HOTH.out h (by omega))]
                  exact (HVr.out i hi).2 j hj⟩
              · have hs : ∀ b, (w.heap.size < b ∧ b < w1.heap.size) → b < w2.heap.size → wF.heap[b]? = w2.heap[b]? := fun b h1 h2 => (HOTH.out b (by omega)).trans (HSr.out b h1 h2)
                rcases (by omega : i = 0 ∨ i = 1) with rfl | rfl
                · exact TreeP.same hs (fun b h1 _ => Nat.le_of_lt h1.1) _ _ _ HT20.out
                · exact TreeP.same hs (fun b h1 _ => Nat.le_of_lt h1.1) _ _ _ HT21.out
end Go.Proofs.YtbhfoelnoddlkaaGreatDoor.D

