/-
  Of the proof that the law DiagDeep answers true at every row of bytes: a part, without conditions of its own.
-/
import Derived.Test.YtbhfoelnoddlkaaGreatDoorPart31
import Derived.Test.YtbhfoelnoddlkaaGreatDoorPart08
set_option linter.unusedVariables false
set_option linter.unusedSimpArgs false
/-
  The writer: value at lists, maps, tags; at every shape: walked.
-/
namespace Go.Proofs.YtbhfoelnoddlkaaGreatDoor.D
open Go Go.RowKit Limb

set_option maxRecDepth 100000 in
set_option maxHeartbeats 1000000 in
theorem wv_list (most : Int) (w : World) (B p : Nat) (L : List UInt8) (hB : B ≤ w.heap.size) (hB2 : 21 < B) (hG : GW w) (hW : Wr B p most L w) (mb : Option Addr) (mn mc : Nat) (bits ext : Int) (text : List UInt8) (b o m cap : Nat) (N : Nat) (xs : Nat → Array Value) (ds : Nat → Nat) (fs : Nat → F) (hNB : N ≤ B) (hrow : VRow w b o m xs) (hbN : b < N) (hm3 : m ≤ 3) (hkid : ∀ i, i < m → Tree w N (fs i) (ds i) (.agg (xs i))) (hIH : ∀ i, i < m → WV most (fs i)) (hm : (((L ++ ([91] ++ kidsT [44, 32] [44, 32] m fs m ++ [93])).length : Nat) : Int) ≤ most) (hl : (L ++ ([91] ++ kidsT [44, 32] [44, 32] m fs m ++ [93])).length ≤ 140737488355328) :
    Calls Tryz.prog 22 #[.pointer (some ⟨p, 0, none⟩), .agg (vCells 7 0 false (.slice mb mn mc) bits ext (strL text) (.slice (some ⟨b, o, none⟩) m cap))] w fun e w' => e = .returned (.tuple #[]) ∧ Wr B p most (L ++ ([91] ++ kidsT [44, 32] [44, 32] m fs m ++ [93])) w' ∧ Wk B p w w' := by
  obtain ⟨w0, hw0⟩ : ∃ w0, w0 = w.alloc (.cells (vCells 7 0 false (.slice mb mn mc) bits ext (strL text) (.slice (some ⟨b, o, none⟩) m cap)) 33) := ⟨_, rfl⟩
  have hb : Below w.heap.size w w0 := by rw [hw0]; exact (Below.refl _ _).alloc (Nat.le_refl _) _
  have hX : Blk w0 w.heap.size (vCells 7 0 false (.slice mb mn mc) bits ext (strL text) (.slice (some ⟨b, o, none⟩) m cap)) 33 := by rw [hw0]; exact Blk.new _ _ _
  have hB0 : B ≤ w0.heap.size := Nat.le_trans hB hb.size
  have hW0 : Wr B p most L w0 := BIs.below hW hb
  have hpX : w.heap.size ≠ p := by have := hW.lt; omega
  have hG0 : GW w0 := hG.step hb
  have HK0 : Hid (Wk B p w w0) := Lib.hid (Wk.of_below hb hB)
  have hNX : N ≤ w.heap.size := Nat.le_trans hNB hB
  have hrow0 := hrow.below (hb.mono hNX) hbN
  have hkid0 : ∀ i, i < m → Tree w0 N (fs i) (ds i) (.agg (xs i)) := fun i hi => Tree.below (hb.mono hNX) _ _ _ (hkid i hi)
  have HQ := Lib.hid (fun w1 (h1 : Below w0.heap.size w0 w1) => kids_any most N B p m b o cap xs ds fs [44, 32] [44, 32] [91] [93] L w1 hNB (Nat.le_trans hB0 h1.size) hB2 (hG0.step h1) (BIs.below hW0 h1) (hrow0.below (h1.mono (Nat.le_trans hNB hB0)) hbN) hbN hm3 (fun i hi => Tree.below (h1.mono (Nat.le_trans hNB hB0)) _ _ _ (hkid0 i hi)) hIH (by rw [List.append_assoc, List.append_assoc, ← List.append_assoc [91]]; exact hm) (by rw [List.append_assoc, List.append_assoc, ← List.append_assoc [91]]; exact hl))
  have HT : Hid (L ++ [91] ++ kidsT [44, 32] [44, 32] m fs m ++ [93] = L ++ ([91] ++ kidsT [44, 32] [44, 32] m fs m ++ [93])) := Lib.hid (by simp only [List.append_assoc])
  clear hrow hkid hIH hrow0 hkid0
  have c0 := hX.cell 0
  have c7 := hX.cell 7
  simp only [vCells, List.getElem?_toArray, List.getElem?_cons_zero, List.getElem?_cons_succ] at c0 c7
  have HX := Lib.hid hX
  have HW0 := Lib.hid hw0
  clear hW hb hX hW0 hw0 hG hG0
  simp only [vCells] at HW0 ⊢
  go_enter Tryz.func22, Tryz.ntmps22
  go_upto_region 1 with fail
  change Code.wp _ _ _ _ (w.alloc (.cells (vCells 7 0 false (.slice mb mn mc) bits ext (strL text) (.slice (some ⟨b, o, none⟩) m cap)) 33))
  simp only [vCells]
  rw [← HW0.out]
  go_wp2_with fail
  refine (HQ.out w0 (Below.refl _ _)).mono ?_
  rintro e w9 ⟨rfl, hw9, hk9⟩
  rw [HT.out] at hw9
  have HW9 := Lib.hid hw9
  have HK9 := Lib.hid (HK0.out.trans hk9)
  clear hw9 hk9
  go_wp2
  go_end0
  exact ⟨rfl, HW9.out, HK9.out⟩

set_option maxRecDepth 100000 in
set_option maxHeartbeats 1000000 in
theorem wv_map (most : Int) (w : World) (B p : Nat) (L : List UInt8) (hB : B ≤ w.heap.size) (hB2 : 21 < B) (hG : GW w) (hW : Wr B p most L w) (mb : Option Addr) (mn mc : Nat) (bits ext : Int) (text : List UInt8) (b o m cap : Nat) (N : Nat) (xs : Nat → Array Value) (ds : Nat → Nat) (fs : Nat → F) (hNB : N ≤ B) (hrow : VRow w b o m xs) (hbN : b < N) (hm3 : m ≤ 3) (hkid : ∀ i, i < m → Tree w N (fs i) (ds i) (.agg (xs i))) (hIH : ∀ i, i < m → WV most (fs i)) (hm : (((L ++ ([123] ++ kidsT [58, 32] [44, 32] m fs m ++ [125])).length : Nat) : Int) ≤ most) (hl : (L ++ ([123] ++ kidsT [58, 32] [44, 32] m fs m ++ [125])).length ≤ 140737488355328) :
    Calls Tryz.prog 22 #[.pointer (some ⟨p, 0, none⟩), .agg (vCells 8 0 false (.slice mb mn mc) bits ext (strL text) (.slice (some ⟨b, o, none⟩) m cap))] w fun e w' => e = .returned (.tuple #[]) ∧ Wr B p most (L ++ ([123] ++ kidsT [58, 32] [44, 32] m fs m ++ [125])) w' ∧ Wk B p w w' := by
  obtain ⟨w0, hw0⟩ : ∃ w0, w0 = w.alloc (.cells (vCells 8 0 false (.slice mb mn mc) bits ext (strL text) (.slice (some ⟨b, o, none⟩) m cap)) 33) := ⟨_, rfl⟩
  have hb : Below w.heap.size w w0 := by rw [hw0]; exact (Below.refl _ _).alloc (Nat.le_refl _) _
  have hX : Blk w0 w.heap.size (vCells 8 0 false (.slice mb mn mc) bits ext (strL text) (.slice (some ⟨b, o, none⟩) m cap)) 33 := by rw [hw0]; exact Blk.new _ _ _
  have hB0 : B ≤ w0.heap.size := Nat.le_trans hB hb.size
  have hW0 : Wr B p most L w0 := BIs.below hW hb
  have hpX : w.heap.size ≠ p := by have := hW.lt; omega
  have hG0 : GW w0 := hG.step hb
  have HK0 : Hid (Wk B p w w0) := Lib.hid (Wk.of_below hb hB)
  have hNX : N ≤ w.heap.size := Nat.le_trans hNB hB
  have hrow0 := hrow.below (hb.mono hNX) hbN
  have hkid0 : ∀ i, i < m → Tree w0 N (fs i) (ds i) (.agg (xs i)) := fun i hi => Tree.below (hb.mono hNX) _ _ _ (hkid i hi)
  have HQ := Lib.hid (fun w1 (h1 : Below w0.heap.size w0 w1) => kids_any most N B p m b o cap xs ds fs [58, 32] [44, 32] [123] [125] L w1 hNB (Nat.le_trans hB0 h1.size) hB2 (hG0.step h1) (BIs.below hW0 h1) (hrow0.below (h1.mono (Nat.le_trans hNB hB0)) hbN) hbN hm3 (fun i hi => Tree.below (h1.mono (Nat.le_trans hNB hB0)) _ _ _ (hkid0 i hi)) hIH (by rw [List.append_assoc, List.append_assoc, ← List.append_assoc [123]]; exact hm) (by rw [List.append_assoc, List.append_assoc, ← List.append_assoc [123]]; exact hl))
  have HT : Hid (L ++ [123] ++ kidsT [58, 32] [44, 32] m fs m ++ [125] = L ++ ([123] ++ kidsT [58, 32] [44, 32] m fs m ++ [125])) := Lib.hid (by simp only [List.append_assoc])
  clear hrow hkid hIH hrow0 hkid0
  have c0 := hX.cell 0
  have c7 := hX.cell 7
  simp only [vCells, List.getElem?_toArray, List.getElem?_cons_zero, List.getElem?_cons_succ] at c0 c7
  have HX := Lib.hid hX
  have HW0 := Lib.hid hw0
  clear hW hb hX hW0 hw0 hG hG0
  simp only [vCells] at HW0 ⊢
  go_enter Tryz.func22, Tryz.ntmps22
  go_upto_region 1 with fail
  change Code.wp _ _ _ _ (w.alloc (.cells (vCells 8 0 false (.slice mb mn mc) bits ext (strL text) (.slice (some ⟨b, o, none⟩) m cap)) 33))
  simp only [vCells]
  rw [← HW0.out]
  go_wp2_with fail
  refine (HQ.out w0 (Below.refl _ _)).mono ?_
  rintro e w9 ⟨rfl, hw9, hk9⟩
  rw [HT.out] at hw9
  have HW9 := Lib.hid hw9
  have HK9 := Lib.hid (HK0.out.trans hk9)
  clear hw9 hk9
  go_wp2
  go_end0
  exact ⟨rfl, HW9.out, HK9.out⟩

set_option maxRecDepth 100000 in
set_option maxHeartbeats 1000000 in
theorem wv_tag1 (most : Int) (w : World) (B p : Nat) (L : List UInt8) (hB : B ≤ w.heap.size) (hB2 : 21 < B) (hG : GW w) (hW : Wr B p most L w) (mb : Option Addr) (mn mc : Nat) (bits ext : Int) (text : List UInt8) (b o m cap : Nat) (N : Nat) (xs : Nat → Array Value) (ds : Nat → Nat) (fs : Nat → F) (hNB : N ≤ B) (hrow : VRow w b o m xs) (hbN : b < N) (hm3 : m ≤ 3) (hkid : ∀ i, i < m → Tree w N (fs i) (ds i) (.agg (xs i))) (hIH : ∀ i, i < m → WV most (fs i)) (hm : (((L ++ ([49, 40] ++ kidsT [] [] m fs m ++ [41])).length : Nat) : Int) ≤ most) (hl : (L ++ ([49, 40] ++ kidsT [] [] m fs m ++ [41])).length ≤ 140737488355328) :
    Calls Tryz.prog 22 #[.pointer (some ⟨p, 0, none⟩), .agg (vCells 9 1 false (.slice mb mn mc) bits ext (strL text) (.slice (some ⟨b, o, none⟩) m cap))] w fun e w' => e = .returned (.tuple #[]) ∧ Wr B p most (L ++ ([49, 40] ++ kidsT [] [] m fs m ++ [41])) w' ∧ Wk B p w w' := by
  obtain ⟨w0, hw0⟩ : ∃ w0, w0 = w.alloc (.cells (vCells 9 1 false (.slice mb mn mc) bits ext (strL text) (.slice (some ⟨b, o, none⟩) m cap)) 33) := ⟨_, rfl⟩
  have hb : Below w.heap.size w w0 := by rw [hw0]; exact (Below.refl _ _).alloc (Nat.le_refl _) _
  have hX : Blk w0 w.heap.size (vCells 9 1 false (.slice mb mn mc) bits ext (strL text) (.slice (some ⟨b, o, none⟩) m cap)) 33 := by rw [hw0]; exact Blk.new _ _ _
  have hB0 : B ≤ w0.heap.size := Nat.le_trans hB hb.size
  have hW0 : Wr B p most L w0 := BIs.below hW hb
  have hpX : w.heap.size ≠ p := by have := hW.lt; omega
  have hG0 : GW w0 := hG.step hb
  have HK0 : Hid (Wk B p w w0) := Lib.hid (Wk.of_below hb hB)
  have hNX : N ≤ w.heap.size := Nat.le_trans hNB hB
  have hrow0 := hrow.below (hb.mono hNX) hbN
  have hkid0 : ∀ i, i < m → Tree w0 N (fs i) (ds i) (.agg (xs i)) := fun i hi => Tree.below (hb.mono hNX) _ _ _ (hkid i hi)
  have HQ := Lib.hid (fun w1 (h1 : Below w0.heap.size w0 w1) => kids_any most N B p m b o cap xs ds fs [] [] [49, 40] [41] L w1 hNB (Nat.le_trans hB0 h1.size) hB2 (hG0.step h1) (BIs.below hW0 h1) (hrow0.below (h1.mono (Nat.le_trans hNB hB0)) hbN) hbN hm3 (fun i hi => Tree.below (h1.mono (Nat.le_trans hNB hB0)) _ _ _ (hkid0 i hi)) hIH (by rw [List.append_assoc, List.append_assoc, ← List.append_assoc [49, 40]]; exact hm) (by rw [List.append_assoc, List.append_assoc, ← List.append_assoc [49, 40]]; exact hl))
  have HT : Hid (L ++ [49, 40] ++ kidsT [] [] m fs m ++ [41] = L ++ ([49, 40] ++ kidsT [] [] m fs m ++ [41])) := Lib.hid (by simp only [List.append_assoc])
  clear hrow hkid hIH hrow0 hkid0
  have c0 := hX.cell 0
  have c1 := hX.cell 1
  have c7 := hX.cell 7
  simp only [vCells, List.getElem?_toArray, List.getElem?_cons_zero, List.getElem?_cons_succ] at c0 c1 c7
  have HX := Lib.hid hX
  have HW0 := Lib.hid hw0
  clear hW hb hX hW0 hw0 hG hG0
  simp only [vCells] at HW0 ⊢
  go_enter Tryz.func22, Tryz.ntmps22
  go_upto_region 1 with fail
  change Code.wp _ _ _ _ (w.alloc (.cells (vCells 9 1 false (.slice mb mn mc) bits ext (strL text) (.slice (some ⟨b, o, none⟩) m cap)) 33))
  simp only [vCells]
  rw [← HW0.out]
  go_upto_region 21 with fail
  have HQ2 := Lib.hid (HQ.out w0.drew ((Below.refl _ _).drew))
  have HF := Lib.hid fmt_one
  clear HQ
  go_region_with (first
    | (go_at_call 51; refine (HF.out _).mono ?_; rintro e w' ⟨rfl, rfl⟩)
    | (go_at_call 50; go_must (refine HQ2.out.mono ?_; rintro e w9 ⟨rfl, hw9, hk9⟩; have HW8 := Lib.hid hw9; have HK8 := Lib.hid hk9; clear hw9 hk9)))
  all_goals (
    have hw9 := HW8.out
    rw [HT.out] at hw9
    have hk9 : Wk B p w0 _ := (Wk.drewN (Wk.refl B p w0) 1).trans HK8.out
    have HW9 := Lib.hid hw9
    have HK9 := Lib.hid (HK0.out.trans hk9)
    clear hw9 hk9 HW8 HK8
    go_wp2
    go_end0
    exact ⟨rfl, HW9.out, HK9.out⟩)

set_option maxRecDepth 100000 in
set_option maxHeartbeats 1000000 in
theorem wv_tag10 (most : Int) (w : World) (B p : Nat) (L : List UInt8) (hB : B ≤ w.heap.size) (hB2 : 21 < B) (hG : GW w) (hW : Wr B p most L w) (mb : Option Addr) (mn mc : Nat) (bits ext : Int) (text : List UInt8) (b o m cap : Nat) (N : Nat) (xs : Nat → Array Value) (ds : Nat → Nat) (fs : Nat → F) (hNB : N ≤ B) (hrow : VRow w b o m xs) (hbN : b < N) (hm3 : m ≤ 3) (hkid : ∀ i, i < m → Tree w N (fs i) (ds i) (.agg (xs i))) (hIH : ∀ i, i < m → WV most (fs i)) (hm : (((L ++ ([49, 48, 40] ++ kidsT [] [] m fs m ++ [41])).length : Nat) : Int) ≤ most) (hl : (L ++ ([49, 48, 40] ++ kidsT [] [] m fs m ++ [41])).length ≤ 140737488355328) :
    Calls Tryz.prog 22 #[.pointer (some ⟨p, 0, none⟩), .agg (vCells 9 10 false (.slice mb mn mc) bits ext (strL text) (.slice (some ⟨b, o, none⟩) m cap))] w fun e w' => e = .returned (.tuple #[]) ∧ Wr B p most (L ++ ([49, 48, 40] ++ kidsT [] [] m fs m ++ [41])) w' ∧ Wk B p w w' := by
  obtain ⟨w0, hw0⟩ : ∃ w0, w0 = w.alloc (.cells (vCells 9 10 false (.slice mb mn mc) bits ext (strL text) (.slice (some ⟨b, o, none⟩) m cap)) 33) := ⟨_, rfl⟩
  have hb : Below w.heap.size w w0 := by rw [hw0]; exact (Below.refl _ _).alloc (Nat.le_refl _) _
  have hX : Blk w0 w.heap.size (vCells 9 10 false (.slice mb mn mc) bits ext (strL text) (.slice (some ⟨b, o, none⟩) m cap)) 33 := by rw [hw0]; exact Blk.new _ _ _
  have hB0 : B ≤ w0.heap.size := Nat.le_trans hB hb.size
  have hW0 : Wr B p most L w0 := BIs.below hW hb
  have hpX : w.heap.size ≠ p := by have := hW.lt; omega
  have hG0 : GW w0 := hG.step hb
  have HK0 : Hid (Wk B p w w0) := Lib.hid (Wk.of_below hb hB)
  have hNX : N ≤ w.heap.size := Nat.le_trans hNB hB
  have hrow0 := hrow.below (hb.mono hNX) hbN
  have hkid0 : ∀ i, i < m → Tree w0 N (fs i) (ds i) (.agg (xs i)) := fun i hi => Tree.below (hb.mono hNX) _ _ _ (hkid i hi)
  have HQ := Lib.hid (fun w1 (h1 : Below w0.heap.size w0 w1) => kids_any most N B p m b o cap xs ds fs [] [] [49, 48, 40] [41] L w1 hNB (Nat.le_trans hB0 h1.size) hB2 (hG0.step h1) (BIs.below hW0 h1) (hrow0.below (h1.mono (Nat.le_trans hNB hB0)) hbN) hbN hm3 (fun i hi => Tree.below (h1.mono (Nat.le_trans hNB hB0)) _ _ _ (hkid0 i hi)) hIH (by rw [List.append_assoc, List.append_assoc, ← List.append_assoc [49, 48, 40]]; exact hm) (by rw [List.append_assoc, List.append_assoc, ← List.append_assoc [49, 48, 40]]; exact hl))
  have HT : Hid (L ++ [49, 48, 40] ++ kidsT [] [] m fs m ++ [41] = L ++ ([49, 48, 40] ++ kidsT [] [] m fs m ++ [41])) := Lib.hid (by simp only [List.append_assoc])
  clear hrow hkid hIH hrow0 hkid0
  have c0 := hX.cell 0
  have c1 := hX.cell 1
  have c7 := hX.cell 7
  simp only [vCells, List.getElem?_toArray, List.getElem?_cons_zero, List.getElem?_cons_succ] at c0 c1 c7
  have HX := Lib.hid hX
  have HW0 := Lib.hid hw0
  clear hW hb hX hW0 hw0 hG hG0
  simp only [vCells] at HW0 ⊢
  go_enter Tryz.func22, Tryz.ntmps22
  go_upto_region 1 with fail
  change Code.wp _ _ _ _ (w.alloc (.cells (vCells 9 10 false (.slice mb mn mc) bits ext (strL text) (.slice (some ⟨b, o, none⟩) m cap)) 33))
  simp only [vCells]
  rw [← HW0.out]
  go_upto_region 21 with fail
  have HQ2 := Lib.hid (HQ.out w0.drew ((Below.refl _ _).drew))
  have HF := Lib.hid fmt_ten
  clear HQ
  go_region_with (first
    | (go_at_call 51; refine (HF.out _).mono ?_; rintro e w' ⟨rfl, rfl⟩)
    | (go_at_call 50; go_must (refine HQ2.out.mono ?_; rintro e w9 ⟨rfl, hw9, hk9⟩; have HW8 := Lib.hid hw9; have HK8 := Lib.hid hk9; clear hw9 hk9)))
  all_goals (
    have hw9 := HW8.out
    rw [HT.out] at hw9
    have hk9 : Wk B p w0 _ := (Wk.drewN (Wk.refl B p w0) 1).trans HK8.out
    have HW9 := Lib.hid hw9
    have HK9 := Lib.hid (HK0.out.trans hk9)
    clear hw9 hk9 HW8 HK8
    go_wp2
    go_end0
    exact ⟨rfl, HW9.out, HK9.out⟩)
end Go.Proofs.YtbhfoelnoddlkaaGreatDoor.D

/-
  The writer: value at every shape.
-/
namespace Go.Proofs.YtbhfoelnoddlkaaGreatDoor.D
open Go Go.RowKit Limb

theorem wvalue_any (most : Int) : ∀ f : F, WV most f := by
  intro f
  induction f with
  | stop => intro d v w B p N L _ _ _ _ hT; exact hT.elim
  | node t X fs ih =>
    intro d v w B p N L hNB hB hB2 hG hT hW hm hl
    obtain ⟨kind, n, mag, bits, ext, text, kids, m, rfl, hf, htold, hk⟩ := hT
    obtain ⟨mb, mn, mc, rfl⟩ := hf.mag
    have hm3 := hf.m3
    obtain ⟨k1, k3, k4, k6, k7, k8, k9⟩ := htold
    have ht : (F.node t X fs).txt = t := rfl
    rw [ht] at hm hl ⊢
    rcases hk with ⟨rfl, rfl, rfl⟩ | ⟨h0, b, o, cap, xs, ds, rfl, hmc, hcap, hbN, hrow, hkid, hex⟩
    · obtain ⟨_, ⟨rfl, rfl, hmag, rfl, rfl, _⟩ | ⟨rfl, rfl, rfl, rfl, _, x, ⟨hx, rfl⟩, hlx, _⟩ | ⟨rfl, rfl, hmag, rfl, rfl, _⟩ | ⟨rfl, rfl, hmag, rfl, htl, _⟩ | ⟨_, _, _, _, _, h, _⟩ | ⟨_, _, _, _, _, h⟩ | ⟨_, _, _, _, _, h⟩⟩ := hf
      · obtain rfl := k1 rfl
        exact wv_null most w B p L hB hB2 hG hW _ _ _ _ _ _ _ _ _ hm hl
      · obtain ⟨h1, h9, rfl⟩ := k3 rfl
        exact wv_int most w B p L hB hB2 hG hW _ _ _ _ _ _ _ _ _ x hlx h1 h9 hm hl
      · obtain rfl := k4 rfl
        exact wv_half most w B p L hB hB2 hG hW _ _ _ _ _ _ _ _ hm hl
      · obtain ⟨htx, rfl⟩ := k6 rfl
        exact wv_bytes most w B p L hB hB2 hG hW _ _ _ _ _ _ _ _ _ htx htl hm hl
      · omega
      · omega
      · omega
    · obtain ⟨_, ⟨_, _, _, _, _, h⟩ | ⟨_, _, _, _, h, _⟩ | ⟨_, _, _, _, _, h⟩ | ⟨_, _, _, _, _, h⟩ | ⟨rfl, rfl, hmag, rfl, rfl, _⟩ | ⟨rfl, rfl, hmag, rfl, rfl, _⟩ | ⟨rfl, hn, hmag, rfl, rfl, _⟩⟩ := hf
      · omega
      · omega
      · omega
      · omega
      · obtain rfl := k7 rfl
        exact wv_list most w B p L hB hB2 hG hW _ _ _ _ _ _ _ _ _ _ N xs ds fs hNB hrow hbN hm3 (fun i hi => (hkid i hi).1) (fun i _ => ih i) hm hl
      · obtain rfl := k8 rfl
        exact wv_map most w B p L hB hB2 hG hW _ _ _ _ _ _ _ _ _ _ N xs ds fs hNB hrow hbN hm3 (fun i hi => (hkid i hi).1) (fun i _ => ih i) hm hl
      · rcases hn with rfl | rfl
        · obtain rfl := k9 rfl
          exact wv_tag1 most w B p L hB hB2 hG hW _ _ _ _ _ _ _ _ _ _ N xs ds fs hNB hrow hbN hm3 (fun i hi => (hkid i hi).1) (fun i _ => ih i) hm hl
        · obtain rfl := k9 rfl
          exact wv_tag10 most w B p L hB hB2 hG hW _ _ _ _ _ _ _ _ _ _ N xs ds fs hNB hrow hbN hm3 (fun i hi => (hkid i hi).1) (fun i _ => ih i) hm hl
end Go.Proofs.YtbhfoelnoddlkaaGreatDoor.D

