import Derived.Test.YtdchgojnmfoffaaDoorBuf
namespace Go.Proofs.YtdchgojnmfoffaaDoor.Sha
open Go Go.RowKit

theorem Buf.below {w w' : World} {B : Nat} {v : Value} {l : List UInt8} (h : Buf w B v l) (hb : Below w.heap.size w w') : Buf w' B v l := by
  obtain ⟨g, cap, hv, hg, hgs, hcap, hc, hf, hl⟩ := h
  refine ⟨g, cap, hv, hg, by have := hb.size; omega, hcap, fun i hi => ?_, fun i hi => ?_, fun i hi => ?_⟩
  · rw [hb.cell (p := ⟨g, i, none⟩) hgs]; exact hc i hi
  · rw [hb.frozen (p := ⟨g, i, none⟩) hgs]; exact hf i hi
  · rw [hb.cell (p := ⟨g, i, none⟩) hgs]; exact hl i hi

/-- The last j of the eight bytes are laid. -/
def lowB (M j : Nat) : List UInt8 := List.replicate (8 - j) 0 ++ (be8 M).drop (8 - j)
theorem lowB_len (M j : Nat) (h : j ≤ 8) : (lowB M j).length = 8 := by simp only [lowB, List.length_append, List.length_replicate, List.length_drop, len_be8]; omega
theorem lowB_set (M j : Nat) (h : j < 8) : (lowB M j).set (7 - j) (UInt8.ofNat (M / 256 ^ j)) = lowB M (j + 1) := by
  unfold lowB
  obtain ⟨q, hq⟩ : ∃ q, 8 - j = q + 1 := ⟨7 - j, by omega⟩
  rw [hq, show 8 - (j + 1) = q by omega, show 7 - j = q by omega, List.set_append, if_pos (by simp), List.replicate_succ', List.set_append, if_neg (by simp)]
  have hb : (be8 M)[q]? = some (UInt8.ofNat (M / 256 ^ j)) := by
    have : q < 8 := by omega
    simp only [be8]
    rw [List.getElem?_map, List.getElem?_range this]
    simp only [Option.map_some]
    rw [show (256 : Nat) = 2 ^ 8 from rfl, ← Nat.pow_mul, show 56 - 8 * q = 8 * j by omega]
  have hd : (be8 M).drop q = UInt8.ofNat (M / 256 ^ j) :: (be8 M).drop (q + 1) := by
    have hlt : q < (be8 M).length := by rw [len_be8]; omega
    rw [List.drop_eq_getElem_cons hlt]
    congr 1
    rw [List.getElem?_eq_getElem hlt] at hb
    exact Option.some.inj hb
  rw [hd]
  simp
theorem lowB_all (M : Nat) : lowB M 8 = be8 M := by simp [lowB]

set_option maxRecDepth 100000 in
set_option maxHeartbeats 400000 in
theorem full_any (s : ByteArray) (w : World) (hs : s.size ≤ 140737488355200) :
    Calls Tryd.prog 25 #[.string s] w fun e w' => ∃ v, e = .returned v ∧ Buf w' w.heap.size v (padded s.data.toList) ∧ Below w.heap.size w w' := by
  have hconv := fun w => Lib.run_convert_string_bytes (P := Tryd.prog) w 9 31 5 s Tryd.underlying9 Tryd.underlying31 Tryd.underlying5
  have hl : s.data.toList.length = s.size := Array.length_toList
  have HL := Lib.hid hl
  clear hl
  go_enter Tryd.func25, Tryd.ntmps25
  go_upto_region 2 with fail
  have hbuf := buf_bytes (w := w) s
  have hb := below_bytes (Below.refl w.heap.size w) (Nat.le_refl _) 5 s
  have hz := Lib.bytesWorld_size w 5 s
  generalize grownCap w s.size 0 5 = gc at hbuf ⊢
  generalize Lib.bytesWorld w 5 s = w1 at hbuf hb hz ⊢
  clear hconv
  have HZ := Lib.hid hz
  clear hz
  refine wp_region_lit ?_
  iterate 6 go_step
  have ha : Below w1.heap.size w1 (w1.alloc (.cells #[.int .u8 128] 5)) := (Below.refl _ _).alloc (Nat.le_refl _) _
  have hk := Blk.new w1 #[.int .u8 128] 5
  have hbuf1 := hbuf.below ha
  have hb1 : Below w.heap.size w (w1.alloc (.cells #[.int .u8 128] 5)) := hb.alloc (by have := HZ.out; omega) _
  have hz1 : (w1.alloc (.cells #[.int .u8 128] 5)).heap.size = w1.heap.size + 1 := by simp
  generalize w1.alloc (.cells #[.int .u8 128] 5) = w2 at hbuf1 hb1 hk hz1 ⊢
  clear hbuf hb ha
  refine wpList_buf rfl (.tmp 9) (.tmp 10) rfl w.heap.size _ s.data.toList rfl hbuf1 (by have := HZ.out; omega) w1.heap.size 0 1 1 [128] rfl rfl (fun i hi => ?_) (by rw [HL.out]; omega) ?_
  · obtain rfl : i = 0 := by omega
    rw [Nat.zero_add, hk.cell]; rfl
  intro v3 w3 hbuf3 hb3
  have hb4 := hb1.trans hb3
  clear hbuf1 hb1 hk hz1 hb3
  go_wp2
  go_loopw [3] (fun v wr => ∃ k, k ≤ noughts s.size ∧ Buf wr w.heap.size v (s.data.toList ++ 128 :: List.replicate k 0) ∧ Below w.heap.size w wr) (fun v _ => s.size + noughts s.size + 1 - lenV v)
  case atStart => exact ⟨0, Nat.zero_le _, hbuf3, hb4⟩
  case round =>
    clear hbuf3 hb4 HZ
    obtain ⟨k, hk, hbuf, hb⟩ := hrel
    have hq := noughts_lt s.size
    have hlen : (s.data.toList ++ 128 :: List.replicate k (0 : UInt8)).length = s.size + 1 + k := by simp [HL.out]; omega
    have hbuf0 := hbuf
    obtain ⟨g, cap, hv, -, hg, -⟩ := hbuf
    rw [hlen] at hv
    obtain ⟨r, hr⟩ : ∃ r, r = (s.size + 1 + k) % 64 := ⟨_, rfl⟩
    obtain ⟨m, hm⟩ : ∃ m, m = s.size + 1 + k := ⟨_, rfl⟩
    rw [← hm] at hv hlen hr
    have er : (m : Int).tmod 64 = (r : Int) := by rw [hr, Int.tmod_eq_emod_of_nonneg (by omega)]; omega
    have HM := Lib.hid hm
    have HR := Lib.hid hr
    have HLEN := Lib.hid hlen
    have HQ : Hid (noughts s.size = (119 - s.size % 64) % 64) := rfl
    subst hv
    clear hm hr hlen
    by_cases h56 : r = 56
    · have h56b : ((r : Int) != 56) = false := by rw [h56]; rfl
      have h56c : ((r : Int) == 56) = true := by rw [h56]; rfl
      have hkk : k = noughts s.size := by have := HR.out; have := HM.out; have := HQ.out; omega
      have HKK := Lib.hid hkk
      clear hkk h56 hk
      go_wp2
      have hb1 : Below w.heap.size w (wr.alloc (.cells (bCells (lowB (8 * s.size) 0)) 64)) := hb.alloc hb.size _
      have ha : Below wr.heap.size wr (wr.alloc (.cells (bCells (lowB (8 * s.size) 0)) 64)) := (Below.refl _ _).alloc (Nat.le_refl _) _
      have hk0 := Blk.new wr (bCells (lowB (8 * s.size) 0)) 64
      obtain ⟨lb, hlb⟩ : ∃ lb, lb = wr.heap.size := ⟨_, rfl⟩
      change Code.wp _ _ _ _ (wr.alloc (.cells (bCells (lowB (8 * s.size) 0)) 64))
      rw [← hlb] at hk0 ha ⊢
      have HLB := Lib.hid hlb
      generalize wr.alloc (.cells (bCells (lowB (8 * s.size) 0)) 64) = w4 at hb1 ha hk0 ⊢
      clear hlb
      go_loopw [4, 6] (fun x i wx => ∃ (j : Nat) (M : Int), j ≤ 8 ∧ 0 ≤ M ∧ M ≤ 1125899906842624 ∧ M = (8 * s.size / 256 ^ j : Nat) ∧ i = .int .i64 (7 - j) ∧ x = .int .i64 M ∧ Blk wx lb (bCells (lowB (8 * s.size) j)) 64 ∧ Below lb w4 wx) (fun _ i _ => (intOf i + 1).toNat)
      case atStart => 
        exact ⟨0, 8 * (s.size : Int), by omega, by omega, by omega, by simp, rfl, rfl, hk0, Below.refl _ _⟩
      case round =>
        clear hk0
        obtain ⟨j, M, hj, hM0, hM1, hM, rfl, rfl, hk0, hb4⟩ := hrel
        have HM2 := Lib.hid hM
        clear hM
        by_cases h8 : j < 8
        · have ct : wr.cell? ⟨lb, 7 - j, none⟩ = some (by8 ((lowB (8 * s.size) j).getD (7 - j) 0)) := by
            rw [hk0.cell]; exact bCells_at _ _ (by rw [lowB_len _ _ hj]; omega)
          have cf : wr.frozen? ⟨lb, 7 - j, none⟩ = false := hk0.free _
          unfold by8 at ct
          have g1 : 0 ≤ 7 - (j : Int) := by omega
          have g2 : 7 - (j : Int) < 8 := by omega
          have g3 : (7 - (j : Int)).toNat = 7 - j := by omega
          go_wp2
          go_roundw
          case rel =>
            refine ⟨j + 1, M / 256, by omega, by omega, by omega, ?_, by congr 1; omega, rfl, ?_, hb4.setCell (Nat.le_refl _) _⟩
            · rw [HM2.out, Nat.pow_succ, ← Nat.div_div_eq_div_mul]; simp
            · have := hk0.set (7 - j) (.int .u8 ((UInt8.ofNat (8 * s.size / 256 ^ j)).toNat : Int))
              rw [bCells_set, lowB_set _ _ h8] at this
              have e : ((UInt8.ofNat (8 * s.size / 256 ^ j)).toNat : Int) = M % 256 := by
                rw [HM2.out, UInt8.toNat_ofNat']; simp
              rw [e] at this
              exact this
          case measure => simp [intOf]; omega
        · obtain rfl : j = 8 := by omega
          clear hj h8
          rw [lowB_all] at hk0
          have hlbn : w.heap.size ≤ lb := by rw [HLB.out]; exact hb.size
          have hbb := ha.trans hb4
          rw [HLB.out] at hbb
          have hbuf5 := hbuf0.below hbb
          have hb5 := hb1.trans (hb4.mono hlbn)
          clear hbuf0 hbb hb1 hb4 ha hb
          have HK0 := Lib.hid hk0
          clear hk0
          go_upto_region 12 with fail
          refine wp_region_lit ?_
          iterate 6 go_step
          refine wpList_buf rfl (.tmp 33) (.tmp 34) rfl w.heap.size _ _ (by rfl) hbuf5 hb5.size lb 0 8 8 (be8 (8 * s.size)) rfl (len_be8 _) (fun i hi => ?_) (by rw [HLEN.out, HM.out, HKK.out]; omega) ?_
          · rw [Nat.zero_add, HK0.out.cell]; exact bCells_at _ _ (by rw [len_be8]; exact hi)
          intro v6 w6 hbuf6 hb6
          have hb7 := hb5.trans hb6
          have e7 : (s.data.toList ++ 128 :: List.replicate k (0 : UInt8)) ++ be8 (8 * s.size) = padded s.data.toList := by
            rw [padded, tail, HL.out, HKK.out, List.append_assoc, List.cons_append]
          rw [e7] at hbuf6
          clear e7 hbuf5 hb5 hb6
          go_wp2
          go_ret
          exact ⟨_, rfl, hbuf6, hb7⟩
    · have h56b : ((r : Int) != 56) = true := by rw [bne_iff_ne]; omega
      have h56c : ((r : Int) == 56) = false := by rw [beq_eq_false_iff_ne]; omega
      go_upto_region 4 with fail
      refine wp_region_lit ?_
      iterate 6 go_step
      have ha : Below wr.heap.size wr (wr.alloc (.cells #[.int .u8 0] 5)) := (Below.refl _ _).alloc (Nat.le_refl _) _
      have hk2 := Blk.new wr #[.int .u8 0] 5
      have hbuf1 := hbuf0.below ha
      have hb1 : Below w.heap.size w (wr.alloc (.cells #[.int .u8 0] 5)) := hb.alloc hb.size _
      have hz1 : w.heap.size ≤ (wr.alloc (.cells #[.int .u8 0] 5)).heap.size := by have := hb.size; simp; omega
      generalize wr.alloc (.cells #[.int .u8 0] 5) = wn at hbuf1 hb1 hk2 hz1 ⊢
      have HK2 := Lib.hid hk2
      clear hbuf0 hb ha hk2
      refine wpList_buf rfl (.tmp 16) (.tmp 17) rfl w.heap.size _ _ rfl hbuf1 hz1 wr.heap.size 0 1 1 [0] rfl rfl (fun i hi => ?_) (by rw [HLEN.out, HM.out]; omega) ?_
      · obtain rfl : i = 0 := by omega
        rw [Nat.zero_add, HK2.out.cell]; rfl
      intro v3 w3 hbuf3 hb3
      have hb4 := hb1.trans hb3
      have hk3 : k + 1 ≤ noughts s.size := by have := HR.out; have := HM.out; have := HQ.out; omega
      have e4 : (s.data.toList ++ 128 :: List.replicate k (0 : UInt8)) ++ [0] = s.data.toList ++ 128 :: List.replicate (k + 1) 0 := by
        rw [List.append_assoc, List.cons_append, List.replicate_succ']
      rw [e4] at hbuf3
      have hlv : lenV v3 = s.size + 1 + (k + 1) := by
        obtain ⟨g', cap', hv', -⟩ := hbuf3
        rw [hv']; simp [lenV, HL.out]; omega
      have HLV := Lib.hid hlv
      clear hlv e4 hbuf1 hb1 hz1 hb3
      go_wp2
      go_roundw
      case rel => exact ⟨k + 1, hk3, hbuf3, hb4⟩
      case measure =>
        have := HLV.out
        have := HM.out
        show s.size + noughts s.size + 1 - lenV v3 < s.size + noughts s.size + 1 - m
        rw [HLV.out]
        omega
end Go.Proofs.YtdchgojnmfoffaaDoor.Sha
