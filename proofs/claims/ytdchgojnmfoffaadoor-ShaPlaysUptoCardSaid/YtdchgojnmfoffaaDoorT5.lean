import Derived.Test.YtdchgojnmfoffaaDoorT4
namespace Go.Proofs.YtdchgojnmfoffaaDoor.Sha
open Go Go.RowKit

theorem len_nil (w : World) : Calls Tryd.prog 18 #[.pointer none] w fun e w' => e = .returned (.int .i64 0) ∧ w' = w := by
  go_enter Tryd.func18, Tryd.ntmps18
  go_wp2
  go_ret
  exact ⟨rfl, rfl⟩
theorem len_at (w : World) (p : Nat) (m : Int) (h : w.cell? ⟨p, 73, none⟩ = some (.int .i64 m)) : Calls Tryd.prog 18 #[.pointer (some ⟨p, 0, none⟩)] w fun e w' => e = .returned (.int .i64 m) ∧ w' = w := by
  go_enter Tryd.func18, Tryd.ntmps18
  go_wp2
  go_ret
  exact ⟨rfl, rfl⟩

/-- Bytes as cells. -/
def bCells (l : List UInt8) : Array Value := (l.map by8).toArray
theorem bCells_at (l : List UInt8) (i : Nat) (h : i < l.length) : (bCells l)[i]? = some (by8 (l.getD i 0)) := by
  unfold bCells
  rw [List.getElem?_toArray, List.getElem?_map, List.getD_eq_getElem?_getD, List.getElem?_eq_getElem h]; rfl
theorem bCells_set (l : List UInt8) (i : Nat) (c : UInt8) : (bCells l).setIfInBounds i (.int .u8 (c.toNat : Int)) = bCells (l.set i c) := by
  unfold bCells
  rw [List.setIfInBounds_toArray, List.map_set]; rfl
theorem bCells_one (l : List UInt8) : (bCells l).all (·.oneCell') = true := by
  unfold bCells
  rw [Array.all_eq_true_iff_forall_mem]
  intro x hx
  simp only [List.mem_toArray, List.mem_map] at hx
  obtain ⟨a, _, rfl⟩ := hx
  rfl
theorem bCells_size (l : List UInt8) : (bCells l).size = l.length := by simp [bCells]

/-- The padding behind m bytes, i bytes of its length laid. -/
def tailL (m i : Nat) : List UInt8 := (128 :: (List.replicate (noughts m) 0 ++ (be8 (8 * m)).take i)) ++ List.replicate (127 - noughts m - i) 0
theorem noughts_lt (m : Nat) : noughts m < 64 := by unfold noughts; omega
theorem len_be8 (m : Nat) : (be8 m).length = 8 := by simp [be8]
theorem len_tailL (m i : Nat) (h : i ≤ 8) : (tailL m i).length = 128 := by
  have := noughts_lt m
  simp [tailL, len_be8]; omega
theorem tailL_set (m i : Nat) (h : i < 8) : (tailL m i).set (1 + noughts m + i) (UInt8.ofNat (8 * m / 2 ^ (56 - 8 * i))) = tailL m (i + 1) := by
  have hn := noughts_lt m
  unfold tailL
  have hl : (128 :: (List.replicate (noughts m) (0 : UInt8) ++ (be8 (8 * m)).take i)).length = 1 + noughts m + i := by simp [len_be8]; omega
  have hb : (be8 (8 * m))[i]? = some (UInt8.ofNat (8 * m / 2 ^ (56 - 8 * i))) := by simp [be8, h]
  obtain ⟨q, hq⟩ : ∃ q, 127 - noughts m - i = q + 1 := ⟨126 - noughts m - i, by omega⟩
  rw [List.set_append, if_neg (by omega), hl, Nat.sub_self, hq, show 127 - noughts m - (i + 1) = q by omega, List.replicate_succ, List.set_cons_zero, List.take_add_one, hb]
  simp
theorem tailL_all (m : Nat) : (tailL m 8).take (noughts m + 9) = tail m := by
  unfold tailL tail
  rw [List.take_append_of_le_length (by simp [len_be8]), List.take_of_length_le (by simp [len_be8]), List.take_of_length_le (by simp [len_be8])]

theorem zero63 (w : World) : (zeroValue 63).run Tryd.prog w = .ok (.agg #[.int .u8 0, .int .u8 0, .int .u8 0, .int .u8 0, .int .u8 0, .int .u8 0, .int .u8 0, .int .u8 0, .int .u8 0, .int .u8 0, .int .u8 0, .int .u8 0, .int .u8 0, .int .u8 0, .int .u8 0, .int .u8 0, .int .u8 0, .int .u8 0, .int .u8 0, .int .u8 0, .int .u8 0, .int .u8 0, .int .u8 0, .int .u8 0, .int .u8 0, .int .u8 0, .int .u8 0, .int .u8 0, .int .u8 0, .int .u8 0, .int .u8 0, .int .u8 0, .int .u8 0, .int .u8 0, .int .u8 0, .int .u8 0, .int .u8 0, .int .u8 0, .int .u8 0, .int .u8 0, .int .u8 0, .int .u8 0, .int .u8 0, .int .u8 0, .int .u8 0, .int .u8 0, .int .u8 0, .int .u8 0, .int .u8 0, .int .u8 0, .int .u8 0, .int .u8 0, .int .u8 0, .int .u8 0, .int .u8 0, .int .u8 0, .int .u8 0, .int .u8 0, .int .u8 0, .int .u8 0, .int .u8 0, .int .u8 0, .int .u8 0, .int .u8 0, .int .u8 0, .int .u8 0, .int .u8 0, .int .u8 0, .int .u8 0, .int .u8 0, .int .u8 0, .int .u8 0, .int .u8 0, .int .u8 0, .int .u8 0, .int .u8 0, .int .u8 0, .int .u8 0, .int .u8 0, .int .u8 0, .int .u8 0, .int .u8 0, .int .u8 0, .int .u8 0, .int .u8 0, .int .u8 0, .int .u8 0, .int .u8 0, .int .u8 0, .int .u8 0, .int .u8 0, .int .u8 0, .int .u8 0, .int .u8 0, .int .u8 0, .int .u8 0, .int .u8 0, .int .u8 0, .int .u8 0, .int .u8 0, .int .u8 0, .int .u8 0, .int .u8 0, .int .u8 0, .int .u8 0, .int .u8 0, .int .u8 0, .int .u8 0, .int .u8 0, .int .u8 0, .int .u8 0, .int .u8 0, .int .u8 0, .int .u8 0, .int .u8 0, .int .u8 0, .int .u8 0, .int .u8 0, .int .u8 0, .int .u8 0, .int .u8 0, .int .u8 0, .int .u8 0, .int .u8 0, .int .u8 0, .int .u8 0, .int .u8 0, .int .u8 0]) w := by kernel_rfl
def z32 : List UInt8 := List.replicate 32 0

structure SR (m : Nat) (x : HS) (w : World) (i : Nat) (wr : World) : Prop where
  res : Blk wr w.heap.size (bCells z32) 22
  out : Blk wr (w.heap.size + 1) (bCells z32) 22
  c : Blk wr (w.heap.size + 1 + 1) x.cells 40
  tl : Blk wr (w.heap.size + 1 + 1 + 1) (bCells (tailL m i)) 63
  size : wr.heap.size = w.heap.size + 4
  below : Below w.heap.size w wr
theorem tailL_zero (m : Nat) : tailL m 0 = 128 :: List.replicate 127 0 := by
  have := noughts_lt m
  unfold tailL
  simp only [List.take_zero, List.append_nil, List.cons_append, Nat.sub_zero]
  rw [List.replicate_append_replicate]
  congr 2; omega
theorem SR.start {m : Nat} {x : HS} {w : World} (A B C : Array Value) (hA : A = bCells z32) (hB : B = bCells z32) (hC : C = bCells (tailL m 0)) :
    SR m x w 0 ((((w.alloc (.cells A 22)).alloc (.cells B 22)).alloc (.cells x.cells 40)).alloc (.cells C 63)) := by
  subst hA hB hC
  refine ⟨?_, ?_, ?_, ?_, by simp, ?_⟩
  · exact (((Blk.new w _ 22).alloc _).alloc _).alloc _
  · have := Blk.new (w.alloc (.cells (bCells z32) 22)) (bCells z32) 22
    exact Blk.alloc (Blk.alloc (by simpa using this) _) _
  · have := Blk.new ((w.alloc (.cells (bCells z32) 22)).alloc (.cells (bCells z32) 22)) x.cells 40
    exact Blk.alloc (by simpa using this) _
  · have := Blk.new (((w.alloc (.cells (bCells z32) 22)).alloc (.cells (bCells z32) 22)).alloc (.cells x.cells 40)) (bCells (tailL m 0)) 63
    simpa using this
  · exact ((((Below.refl _ _).alloc (Nat.le_refl _) _).alloc (by simp) _).alloc (by simp; omega) _).alloc (by simp; omega) _
theorem SR.put {m : Nat} {x : HS} {w : World} {i : Nat} {wr : World} (h : SR m x w i wr) (hi : i < 8) : SR m x w (i + 1) (wr.setCell ⟨w.heap.size + 1 + 1 + 1, 1 + noughts m + i, none⟩ (.int .u8 ((UInt8.ofNat (8 * m / 2 ^ (56 - 8 * i))).toNat : Int))) :=
  ⟨h.res.set_other _ _ (by simp; omega), h.out.set_other _ _ (by simp), h.c.set_other _ _ (by simp), by rw [← tailL_set m i hi, ← bCells_set]; exact h.tl.set _ _, by simp [World.setCell, h.size], h.below.setCell (by simp; omega) _⟩

theorem byte_of (m k : Nat) : ((UInt8.ofNat (m / 2 ^ k)).toNat : Int) = (m : Int) / 2 ^ k % 256 := by
  rw [UInt8.toNat_ofNat']; simp
theorem src_tail {w : World} {k p m n : Nat} (h : Blk w k (bCells (tailL m 8)) 63) (hp : k ≠ p) (hn : n = (tail m).length) : Src w p (.slice (some ⟨k, 0, none⟩) n 128) (tail m) := by
  have hl : (tail m).length = noughts m + 9 := by simp [tail, len_be8]
  have hq := noughts_lt m
  refine ⟨_, 128, by rw [hn], by omega, fun _ => ⟨k, 0, rfl, hp, h.lt, fun i hi => ?_⟩⟩
  rw [Nat.zero_add, h.cell, bCells_at _ _ (by rw [len_tailL _ _ (by omega)]; omega)]
  congr 2
  rw [← tailL_all, List.getD_eq_getElem?_getD, List.getD_eq_getElem?_getD, List.getElem?_take, if_pos (by omega)]

def outL (s : St) (i : Nat) : List UInt8 := (out s).take i ++ List.replicate (32 - i) 0
theorem len_outL (s : St) (i : Nat) (h : i ≤ 32) : (outL s i).length = 32 := by simp [outL, len_out]; omega
theorem outL_set (s : St) (i : Nat) (h : i < 32) : (outL s i).set i (outB s i) = outL s (i + 1) := by
  unfold outL
  have hl : ((out s).take i).length = i := by simp [len_out]; omega
  have hb : (out s)[i]? = some (outB s i) := by simp [out, h]
  obtain ⟨q, hq⟩ : ∃ q, 32 - i = q + 1 := ⟨31 - i, by omega⟩
  rw [List.set_append, if_neg (by omega), hl, Nat.sub_self, hq, show 32 - (i + 1) = q by omega, List.replicate_succ, List.set_cons_zero, List.take_add_one, hb]
  simp
theorem outL_all (s : St) : outL s 32 = out s := by
  unfold outL; rw [List.take_of_length_le (by rw [len_out]; omega)]; simp

structure OR (x : HS) (w : World) (i : Nat) (wr : World) : Prop where
  res : Blk wr w.heap.size (bCells z32) 22
  out : Blk wr (w.heap.size + 1) (bCells (outL x.s i)) 22
  c : Blk wr (w.heap.size + 1 + 1) x.cells 40
  below : Below w.heap.size w wr
theorem OR.put {x : HS} {w : World} {i : Nat} {wr : World} (h : OR x w i wr) (hi : i < 32) : OR x w (i + 1) (wr.setCell ⟨w.heap.size + 1, i, none⟩ (.int .u8 ((outB x.s i).toNat : Int))) :=
  ⟨h.res.set_other _ _ (by simp), by rw [← outL_set x.s i hi, ← bCells_set]; exact h.out.set _ _, h.c.set_other _ _ (by simp), h.below.setCell (by simp) _⟩

set_option maxRecDepth 100000 in
set_option maxHeartbeats 400000 in
theorem hsum_any (w : World) (hG : Glob w) (p : Nat) (x : HS) (L : List UInt8) (hx : Took x L) (hB : Blk w p x.cells 40) (hm : L.length ≤ 1125899906842624) :
    Calls Tryd.prog 19 #[.pointer (some ⟨p, 0, none⟩)] w fun e w' => e = .returned (.agg (bCells (sum L))) ∧ Below w.heap.size w w' := by
  have hz63 := zero63
  have hpl := hB.lt
  have hp1 : p < w.heap.size + 1 := by omega
  have hp2 : p < w.heap.size + 1 + 1 := by omega
  have hp3 : p < w.heap.size + 1 + 1 + 1 := by omega
  have HB := Lib.hid hB
  have hcm : w.cell? ⟨p, 73, none⟩ = some (.int .i64 (x.m : Int)) := by rw [hB.cell]; exact x.count hx.b
  have hmm : x.m ≤ 1125899906842624 := by rw [hx.m]; exact hm
  clear hB
  obtain ⟨r, hr⟩ : ∃ r, r = x.m % 64 := ⟨_, rfl⟩
  have er : ((x.m : Int)).tmod 64 = (r : Int) := by rw [hr, Int.tmod_eq_emod_of_nonneg (by omega)]; omega
  have hr64 : r < 64 := by omega
  obtain ⟨q, hq⟩ : ∃ q, q = noughts x.m := ⟨_, rfl⟩
  have hq64 : q < 64 := by rw [hq]; exact noughts_lt _
  have eq : (119 - (r : Int)).tmod 64 = (q : Int) := by rw [hq, noughts, ← hr, Int.tmod_eq_emod_of_nonneg (by omega)]; omega
  have HQ := Lib.hid hq
  have HR := Lib.hid hr
  clear hq hr
  go_enter Tryd.func19, Tryd.ntmps19
  go_wp2_with fail
  refine (clone_any _ p x hx.b ((HB.out.alloc _).alloc _)).mono ?_
  rintro e w1 ⟨rfl, rfl⟩
  go_wp2_with fail
  go_loopw [22] (fun i wr => ∃ t : Nat, t ≤ 8 ∧ i = .int .i64 t ∧ SR x.m x w t wr) (fun i _ => 8 - (intOf i).toNat)
  case atStart => exact ⟨0, by omega, rfl, SR.start _ _ _ rfl rfl (by rw [tailL_zero]; rfl)⟩
  case round =>
    obtain ⟨t, ht, rfl, hw⟩ := hrel
    clear hz63
    by_cases h8 : t < 8
    · have cm : wr.cell? ⟨p, 73, none⟩ = some (.int .i64 (x.m : Int)) := by rw [hw.below.cell (p := ⟨p, 73, none⟩) hpl]; exact hcm
      have ct : wr.cell? ⟨w.heap.size + 1 + 1 + 1, 1 + q + t, none⟩ = some (by8 ((tailL x.m t).getD (1 + q + t) 0)) := by
        rw [hw.tl.cell]; exact bCells_at _ _ (by rw [len_tailL _ _ (by omega)]; omega)
      have cf : wr.frozen? ⟨w.heap.size + 1 + 1 + 1, 1 + q + t, none⟩ = false := hw.tl.free _
      unfold by8 at ct
      go_wp2
      go_roundw
      case rel =>
        refine ⟨t + 1, by omega, by simp, ?_⟩
        have := hw.put h8
        rw [byte_of, ← HQ.out] at this
        exact this
      case measure => simp [intOf]; omega
    · obtain rfl : t = 8 := by omega
      clear ht h8
      rw [show ((8 : Nat) : Int) = 8 from rfl]
      have g1 : 0 ≤ (q : Int) + 9 := by omega
      have g2 : (q : Int) + 9 ≤ 128 := by omega
      have g3 : ((q : Int) + 9).toNat = q + 9 := by omega
      go_wp2_with fail
      refine (write_any wr (hG.below hw.below hG.size) (w.heap.size + 1 + 1) (by have := hG.size; omega) x L (tail x.m) hx hw.c _ (src_tail hw.tl (by omega) ?hl) ?hm).mono ?_
      case hl => simp [tail, len_be8, ← HQ.out]
      case hm => have := noughts_lt x.m; simp [tail, len_be8]; omega
      rintro e w1 ⟨rfl, x1, hx1, hB1, hO1⟩
      have hx1' : x1.s = run ((padded L).length / 64) H0 (padded L) := by
        have := hx1.s
        rw [hx.m] at this
        exact this
      have h1 : OR x1 w 0 w1 :=
        ⟨hO1.blk hw.res (by rw [hw.size]; omega) (by omega), hO1.blk hw.out (by rw [hw.size]; omega) (by omega), hB1, hw.below.trans (hO1.below (by rw [hw.size]; omega) (by omega))⟩
      have HX1 := Lib.hid hx1'
      clear hx1' hx1 hB1 hO1 hw hcm
      go_wp2_with fail
      go_loopw [46] (fun i wr => ∃ t : Nat, t ≤ 32 ∧ i = .int .i64 t ∧ OR x1 w t wr) (fun i _ => 32 - (intOf i).toNat)
      case atStart => exact ⟨0, by omega, rfl, h1⟩
      case round =>
        clear h1
        obtain ⟨t, ht, rfl, hw⟩ := hrel
        by_cases h32 : t < 32
        · have cw : wr.cell? ⟨w.heap.size + 1 + 1, 1 + t / 4, none⟩ = some (.int .u32 (tn (x1.s.words.getD (t / 4) 0))) := by
            rw [hw.c.cell]; exact x1.word _ (by omega)
          obtain ⟨y, hy⟩ : ∃ y, y = x1.s.words.getD (t / 4) 0 := ⟨_, rfl⟩
          rw [← hy] at cw
          have HY := Lib.hid hy
          clear hy
          have ct : wr.cell? ⟨w.heap.size + 1, t, none⟩ = some (by8 ((outL x1.s t).getD t 0)) := by
            rw [hw.out.cell]; exact bCells_at _ _ (by rw [len_outL _ _ (by omega)]; omega)
          have cf : wr.frozen? ⟨w.heap.size + 1, t, none⟩ = false := hw.out.free _
          unfold by8 at ct
          have g1 : (t : Int) / 4 < 8 := by omega
          go_wp2
          go_roundw
          case rel =>
            refine ⟨t + 1, by omega, by simp, ?_⟩
            have := hw.put h32
            unfold outB at this
            rw [byte_of, ← HY.out] at this
            exact this
          case measure => simp [intOf]; omega
        · obtain rfl : t = 32 := by omega
          clear ht h32
          rw [show ((32 : Nat) : Int) = 32 from rfl]
          have ho := hw.out
          rw [outL_all] at ho
          go_upto_region 19 with fail
          refine wp_region_lit ?_
          refine wpList_load_row rfl 22 _ rfl (w.heap.size + 1) rfl 22 _ (0, 0) _ ho Tryd.underlying22 rfl (by rw [bCells_size, len_out]; kernel_rfl) ?_
          refine wpList_store_row rfl 22 _ _ rfl w.heap.size _ rfl rfl 22 _ hw.res (by rw [bCells_size, len_out]; kernel_rfl) (by rw [bCells_size, bCells_size, len_out]; rfl) (bCells_one _) ?_
          go_wp2
          refine bodyPost_ret (v := .agg (bCells (out x1.s))) (results_cell_row rfl _ _ w.heap.size 22 _ (0, 0) _ rfl (setRow_heap _ _ _ _ _ _ hw.res) Tryd.underlying22 rfl (by rw [bCells_size, len_out]; kernel_rfl)) rfl ⟨?_, ?_⟩
          · rw [HX1.out]; rfl
          · exact below_setRow hw.below (Nat.le_refl _) _
end Go.Proofs.YtdchgojnmfoffaaDoor.Sha
