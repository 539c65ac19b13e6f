import Derived.Test.YtdchgojnmfoffaaDoorM0
namespace Go.Proofs.YtdchgojnmfoffaaDoor.Sha
open Go Go.RowKit

attribute [local go_sem] xor54 xor92

def z64 : List UInt8 := List.replicate 64 0
theorem splice_kk (k : List UInt8) : splice z64 0 (kk k) = kpad k := by
  have h : z64.drop (kk k).length = List.replicate (64 - (kk k).length) 0 := by rw [z64, List.drop_replicate]
  rw [splice, kpad, Nat.zero_add, h]; rfl
theorem ba_list (s : ByteArray) : strL s.data.toList = s := rfl

structure CR (w : World) (N ob : Nat) (a b : List UInt8) (wr : World) : Prop where
  res : Blk wr N (bCells z32) 22
  inn : Blk wr (N + 1) (bCells a) 38
  out : Blk wr ob (bCells b) 38
  below : Below N w wr
  ob : N + 1 < ob
theorem CR.put {w : World} {N ob : Nat} {k : List UInt8} {t : Nat} {wr : World} (h : CR w N ob (xorT 54 k t) (xorT 92 k t) wr) (ht : t < k.length) :
    CR w N ob (xorT 54 k (t + 1)) (xorT 92 k (t + 1)) ((wr.setCell ⟨N + 1, t, none⟩ (.int .u8 (((k.getD t 0 ^^^ 54 : UInt8)).toNat : Int))).setCell ⟨ob, t, none⟩ (.int .u8 (((k.getD t 0 ^^^ 92 : UInt8)).toNat : Int))) := by
  have hob := h.ob
  refine ⟨(h.res.set_other _ _ (by simp)).set_other _ _ (by simp; omega), ?_, ?_, (h.below.setCell (by simp) _).setCell (by simp; omega) _, h.ob⟩
  · have := h.inn.set t (.int .u8 (((k.getD t 0 ^^^ 54 : UInt8)).toNat : Int))
    rw [bCells_set, xorT_set _ _ _ ht] at this
    exact this.set_other _ _ (by simp; omega)
  · have := (h.out.set_other ⟨N + 1, t, none⟩ (.int .u8 (((k.getD t 0 ^^^ 54 : UInt8)).toNat : Int)) (by simp; omega)).set t (.int .u8 (((k.getD t 0 ^^^ 92 : UInt8)).toNat : Int))
    rw [bCells_set, xorT_set _ _ _ ht] at this
    exact this

set_option maxRecDepth 100000 in
set_option maxHeartbeats 400000 in
theorem mac_any (w : World) (hG : Glob w) (k m : ByteArray) (hk : k.size ≤ 1125899906842560) (hm : m.size ≤ 1125899906842560) :
    Calls Tryd.prog 21 #[.string k, .string m] w fun e w' => e = .returned (.agg (bCells (mac k.data.toList m.data.toList))) ∧ Below w.heap.size w w' := by
  have hconv := Lib.hid (fun w => Lib.run_convert_string_bytes (P := Tryd.prog) w 9 31 5 m Tryd.underlying9 Tryd.underlying31 Tryd.underlying5)
  have hkl : k.data.toList.length = k.size := Array.length_toList
  have hml : m.data.toList.length = m.size := Array.length_toList
  have HK := Lib.hid hkl
  have HM := Lib.hid hml
  clear hkl hml
  go_enter Tryd.func21, Tryd.ntmps21
  go_upto_if 14 with fail
  have hr : Blk ((w.alloc (.cells (bCells z32) 22)).alloc (.cells (bCells z64) 38)) w.heap.size (bCells z32) 22 := (Blk.new w _ 22).alloc _
  have hi : Blk ((w.alloc (.cells (bCells z32) 22)).alloc (.cells (bCells z64) 38)) (w.heap.size + 1) (bCells z64) 38 := by
    have := Blk.new (w.alloc (.cells (bCells z32) 22)) (bCells z64) 38
    simpa using this
  have hb : Below w.heap.size w ((w.alloc (.cells (bCells z32) 22)).alloc (.cells (bCells z64) 38)) := ((Below.refl _ _).alloc (Nat.le_refl _) _).alloc (by simp) _
  change Code.wp _ _ _ _ ((w.alloc (.cells (bCells z32) 22)).alloc (.cells (bCells z64) 38))
  generalize (w.alloc (.cells (bCells z32) 22)).alloc (.cells (bCells z64) 38) = w0 at hr hi hb ⊢
  go_cut [0] from 12 (fun s0 wx => ∃ s : ByteArray, s0 = .string s ∧ Hid (s.data.toList = kk k.data.toList) ∧ s.size ≤ 64 ∧ Blk wx w.heap.size (bCells z32) 22 ∧ Blk wx (w.heap.size + 1) (bCells z64) 38 ∧ Below w.heap.size w wx)
  case first =>
    by_cases h64 : 64 < k.size
    · go_wp2_with fail
      refine (sum_any w0 (hG.below hb hG.size) k (by omega)).mono ?_
      rintro e w1 ⟨rfl, hb1⟩
      have hr1 := hr.below hb1 hr.lt
      have hi1 := hi.below hb1 hi.lt
      have hb2 := hb.trans (hb1.mono hb.size)
      dsimp only
      iterate 4 go_step
      refine wpList_store_row rfl 22 _ _ rfl w1.heap.size (bCells (sum k.data.toList)) rfl rfl 22 _ (Blk.new _ (bCells z32) _) (by rw [bCells_size, len_sum]; kernel_rfl) (by rw [bCells_size, bCells_size, len_sum]; rfl) (bCells_one _) ?_
      rw [setRow_alloc_new]
      have hs := conv_bytes (w1.alloc (.cells (bCells (sum k.data.toList)) 22)) w1.heap.size 0 32 32 (sum k.data.toList) (len_sum _) (by rw [← len_sum k.data.toList]; exact blk_bytes (Blk.new _ _ _))
      go_wp2
      go_meet
      refine ⟨strL (sum k.data.toList), rfl, ?_, by rw [strL_size, len_sum]; omega, hr1.alloc _, hi1.alloc _, hb2.alloc hb2.size _⟩
      unfold Hid kk
      rw [if_pos (by rw [HK.out]; exact h64)]; rfl
    · go_wp2
      go_meet
      refine ⟨k, rfl, ?_, by omega, hr, hi, hb⟩
      unfold Hid kk
      rw [if_neg (by rw [HK.out]; exact h64)]
  case rest =>
    clear hr hi hb
    obtain ⟨s, rfl, HS, hs64, hr, hi, hb⟩ := hcut
    go_upto_region 5 with fail
    refine wp_region_lit ?_
    iterate 6 go_step
    have hfit : s.size ≤ z64.length := by simpa [z64] using hs64
    refine wpList_copy_str rfl _ _ rfl (w.heap.size + 1) 64 64 s rfl rfl z64 38 hi hs64 hfit ?_
    rw [HS.out, splice_kk]
    have hr1 : Blk (wc.setRow (w.heap.size + 1) (bCells (kpad k.data.toList))) w.heap.size (bCells z32) 22 := by unfold Blk; rw [setRow_other _ _ _ _ (by omega)]; exact hr
    have hi1 : Blk (wc.setRow (w.heap.size + 1) (bCells (kpad k.data.toList))) (w.heap.size + 1) (bCells (kpad k.data.toList)) 38 := setRow_heap _ _ _ _ _ _ hi
    have hb1 : Below w.heap.size w (wc.setRow (w.heap.size + 1) (bCells (kpad k.data.toList))) := below_setRow hb (by omega) _
    generalize wc.setRow (w.heap.size + 1) (bCells (kpad k.data.toList)) = w1 at hr1 hi1 hb1 ⊢
    clear hr hi hb hs64 HS hfit
    obtain ⟨kp, ekp⟩ : ∃ kp, kp = kpad k.data.toList := ⟨_, rfl⟩
    have HKP := Lib.hid ekp
    have hkp64 : kp.length = 64 := by rw [ekp]; exact len_kpad _
    have HKL := Lib.hid hkp64
    rw [← ekp] at hi1
    clear ekp hkp64
    go_upto_region 6 with fail
    refine wp_region_lit ?_
    refine wpList_load_row rfl 38 _ rfl (w.heap.size + 1) rfl 38 _ (0, 0) _ hi1 Tryd.underlying38 rfl (by rw [bCells_size, HKL.out]; kernel_rfl) ?_
    iterate 3 go_step
    change wpList _ _ _ _ _ (w1.alloc (.cells (bCells z64) 38))
    refine wpList_store_row rfl 38 _ _ rfl w1.heap.size (bCells kp) rfl rfl 38 _ (Blk.new _ (bCells z64) _) (by rw [bCells_size, HKL.out]; kernel_rfl) (by rw [bCells_size, bCells_size, HKL.out]; rfl) (bCells_one _) ?_
    rw [setRow_alloc_new]
    have h0 : CR w w.heap.size w1.heap.size (xorT 54 kp 0) (xorT 92 kp 0) (w1.alloc (.cells (bCells kp) 38)) := by
      rw [xorT_zero, xorT_zero]
      exact ⟨hr1.alloc _, hi1.alloc _, Blk.new _ _ _, hb1.alloc hb1.size _, hi1.lt⟩
    generalize w1.alloc (.cells (bCells kp) 38) = w2 at h0 ⊢
    generalize w1.heap.size = ob at h0 ⊢
    clear hr1 hi1 hb1
    go_wp2
    go_loopw [23] (fun i wr => ∃ t : Nat, t ≤ 64 ∧ i = .int .i64 t ∧ CR w w.heap.size ob (xorT 54 kp t) (xorT 92 kp t) wr) (fun i _ => 64 - (intOf i).toNat)
    case atStart => exact ⟨0, by omega, rfl, h0⟩
    case round =>
      clear h0
      obtain ⟨t, ht, rfl, hw⟩ := hrel
      by_cases h64 : t < 64
      · obtain ⟨x, hx⟩ : ∃ x, x = kp.getD t 0 := ⟨_, rfl⟩
        have c1 : wr.cell? ⟨w.heap.size + 1, t, none⟩ = some (.int .u8 (x.toNat : Int)) := by
          rw [hw.inn.cell, bCells_at _ _ (by rw [len_xorT, HKL.out]; exact h64), xorT_get _ _ _ (by rw [HKL.out]; exact h64), hx]; rfl
        have c2 : wr.cell? ⟨ob, t, none⟩ = some (.int .u8 (x.toNat : Int)) := by
          rw [hw.out.cell, bCells_at _ _ (by rw [len_xorT, HKL.out]; exact h64), xorT_get _ _ _ (by rw [HKL.out]; exact h64), hx]; rfl
        have f1 : wr.frozen? ⟨w.heap.size + 1, t, none⟩ = false := hw.inn.free _
        have f2 : wr.frozen? ⟨ob, t, none⟩ = false := hw.out.free _
        have n1 : ¬ ob = w.heap.size + 1 := by have := hw.ob; omega
        have n2 : ¬ w.heap.size + 1 = ob := by have := hw.ob; omega
        have HX := Lib.hid hx
        clear hx
        go_wp2
        go_roundw
        case rel =>
          refine ⟨t + 1, by omega, by simp, ?_⟩
          have := hw.put (by rw [HKL.out]; exact h64)
          rw [← HX.out] at this
          exact this
        case measure => simp [intOf]; omega
      · obtain rfl : t = 64 := by omega
        clear ht h64
        rw [show ((64 : Nat) : Int) = 64 from rfl]
        rw [xorT_all _ _ HKL.out, xorT_all _ _ HKL.out] at hw
        obtain ⟨hr, hi, ho, hb, hob⟩ := hw
        have hGr := hG.below hb hG.size
        go_wp2_with fail
        refine (new_any wr hGr).mono ?_
        rintro e w3 ⟨rfl, rfl⟩
        go_wp2_with fail
        refine (new_any _ (hGr.below ((Below.refl _ _).alloc (Nat.le_refl _) _) hGr.size)).mono ?_
        rintro e w3 ⟨rfl, rfl⟩
        have hs1 : Blk ((wr.alloc (.cells hs0.cells 40)).alloc (.cells hs0.cells 40)) wr.heap.size hs0.cells 40 := (Blk.new wr _ 40).alloc _
        have hs2 : Blk ((wr.alloc (.cells hs0.cells 40)).alloc (.cells hs0.cells 40)) (wr.heap.size + 1) hs0.cells 40 := by
          have := Blk.new (wr.alloc (.cells hs0.cells 40)) hs0.cells 40
          simpa using this
        have hz : ((wr.alloc (.cells hs0.cells 40)).alloc (.cells hs0.cells 40)).heap.size = wr.heap.size + 2 := by simp
        replace hr := (hr.alloc (.cells hs0.cells 40)).alloc (.cells hs0.cells 40)
        have hil := hi.lt
        have hol := ho.lt
        replace hi := (hi.alloc (.cells hs0.cells 40)).alloc (.cells hs0.cells 40)
        replace ho := (ho.alloc (.cells hs0.cells 40)).alloc (.cells hs0.cells 40)
        replace hb := (hb.alloc hb.size (.cells hs0.cells 40)).alloc (by have := hb.size; simp; omega) (.cells hs0.cells 40)
        go_upto_region 14 with fail
        change Code.wp _ _ _ _ ((wr.alloc (.cells hs0.cells 40)).alloc (.cells hs0.cells 40))
        have hp1 : 1 < wr.heap.size := hGr.size
        generalize (wr.alloc (.cells hs0.cells 40)).alloc (.cells hs0.cells 40) = w3 at hs1 hs2 hz hr hi ho hb ⊢
        generalize wr.heap.size = p at hs1 hs2 hz hil hol hp1 ⊢
        clear hGr
        go_wp2_with fail
        refine (write_any w3 (hG.below hb hG.size) p hp1 hs0 [] (xorL 54 kp) took0 hs1 _ (src_blk hi (by omega) (by rw [len_xorL, HKL.out]) (by omega)) (by rw [len_xorL, HKL.out]; simp)).mono ?_
        rintro e w4 ⟨rfl, x1, hx1, hB1, hO1⟩
        rw [List.nil_append] at hx1
        have hr4 := hO1.blk hr hr.lt (by omega)
        have ho4 := hO1.blk ho ho.lt (by omega)
        have h24 := hO1.blk hs2 hs2.lt (by omega)
        have hb4 := hb.trans (hO1.below (B' := w.heap.size) (by omega) (by omega))
        have hz4 := hO1.size
        clear hr hi ho hb hs1 hs2 hO1
        -- the second write: the message
        go_upto_region 15 with fail
        have hcv := hconv.out w4
        have hsrc := src_bytes (w := w4) (p := p) m (by omega)
        have hbb : Below w4.heap.size w4 (Lib.bytesWorld w4 5 m) := below_bytes (Below.refl _ _) (Nat.le_refl _) 5 m
        have hr5 := hr4.below hbb hr4.lt
        have ho5 := ho4.below hbb ho4.lt
        have h25 := h24.below hbb h24.lt
        have hB5 := hB1.below hbb hB1.lt
        have hb5 := hb4.trans (hbb.mono hb4.size)
        have hz5 := hbb.size
        have HSRC := Lib.hid hsrc
        clear hsrc hbb hr4 ho4 h24 hB1
        go_wp2_with fail
        refine (write_any (Lib.bytesWorld w4 5 m) (hG.below hb5 hG.size) p hp1 x1 (xorL 54 kp) m.data.toList hx1 hB5 _ HSRC.out (by rw [len_xorL, HKL.out, HM.out]; omega)).mono ?_
        rintro e w6 ⟨rfl, x2, hx2, hB2, hO2⟩
        have hr6 := hO2.blk hr5 hr5.lt (by omega)
        have ho6 := hO2.blk ho5 ho5.lt (by omega)
        have h26 := hO2.blk h25 h25.lt (by omega)
        have hb6 := hb5.trans (hO2.below (B' := w.heap.size) (by omega) (by omega))
        have hz6 := hO2.size
        clear hcv HSRC hr5 ho5 h25 hB5 hb5 hO2 hb4 hx1
        go_wp2_with fail
        refine (hsum_any w6 (hG.below hb6 hG.size) p x2 _ hx2 hB2 (by rw [List.length_append, len_xorL, HKL.out, HM.out]; omega)).mono ?_
        rintro e w7 ⟨rfl, hb7⟩
        have hr7 := hr6.below hb7 hr6.lt
        have ho7 := ho6.below hb7 ho6.lt
        have h27 := h26.below hb7 h26.lt
        have hbb7 := hb6.trans (hb7.mono hb6.size)
        have hz7 := hb7.size
        obtain ⟨d1, ed1⟩ : ∃ d1, d1 = sum (xorL 54 kp ++ m.data.toList) := ⟨_, rfl⟩
        rw [← ed1]
        have HD1 := Lib.hid ed1
        have hl1 : d1.length = 32 := by rw [ed1]; exact len_sum _
        have HL1 := Lib.hid hl1
        clear ed1 hl1 hr6 ho6 h26 hb6 hb7 hx2 hB2
        dsimp only
        iterate 4 go_step
        refine wpList_store_row rfl 22 _ _ rfl w7.heap.size (bCells d1) rfl rfl 22 _ (Blk.new _ (bCells z32) _) (by rw [bCells_size, HL1.out]; kernel_rfl) (by rw [bCells_size, bCells_size, HL1.out]; rfl) (bCells_one _) ?_
        rw [setRow_alloc_new]
        have hi8 := Blk.new w7 (bCells d1) 22
        replace hr7 := hr7.alloc (.cells (bCells d1) 22)
        replace ho7 := ho7.alloc (.cells (bCells d1) 22)
        replace h27 := h27.alloc (.cells (bCells d1) 22)
        replace hbb7 := hbb7.alloc hbb7.size (.cells (bCells d1) 22)
        have hz8 : (w7.alloc (.cells (bCells d1) 22)).heap.size = w7.heap.size + 1 := by simp
        generalize w7.alloc (.cells (bCells d1) 22) = w8 at hi8 hr7 ho7 h27 hbb7 hz8 ⊢
        have HQ : Hid (p + 1 < w7.heap.size) := by unfold Hid; omega
        clear hz hz4 hz5 hz6 hz7
        generalize w7.heap.size = q at hi8 hz8 HQ ⊢
        go_wp2_with fail
        refine (write_any w8 (hG.below hbb7 hG.size) (p + 1) (by omega) hs0 [] (xorL 92 kp) took0 h27 _ (src_blk ho7 (by omega) (by rw [len_xorL, HKL.out]) (by omega)) (by rw [len_xorL, HKL.out]; simp)).mono ?_
        rintro e w9 ⟨rfl, y1, hy1, hY1, hO9⟩
        rw [List.nil_append] at hy1
        have hr9 := hO9.blk hr7 hr7.lt (by omega)
        have hi9 := hO9.blk hi8 hi8.lt (by have := HQ.out; omega)
        have hb9 := hbb7.trans (hO9.below (B' := w.heap.size) (by have := HQ.out; omega) (by omega))
        have hz9 := hO9.size
        clear hi8 hr7 ho7 h27 hbb7 hO9
        go_wp2_with fail
        refine (write_any w9 (hG.below hb9 hG.size) (p + 1) (by omega) y1 (xorL 92 kp) d1 hy1 hY1 _ (src_blk hi9 (by have := HQ.out; omega) (by rw [HL1.out]) (by omega)) (by rw [len_xorL, HKL.out, HL1.out]; omega)).mono ?_
        rintro e w10 ⟨rfl, y2, hy2, hY2, hO10⟩
        have hr10 := hO10.blk hr9 hr9.lt (by omega)
        have hb10 := hb9.trans (hO10.below (B' := w.heap.size) (by have := HQ.out; omega) (by omega))
        clear hr9 hi9 hb9 hO10 hy1 hY1
        go_wp2_with fail
        refine (hsum_any w10 (hG.below hb10 hG.size) (p + 1) y2 _ hy2 hY2 (by rw [List.length_append, len_xorL, HKL.out, HL1.out]; omega)).mono ?_
        rintro e w11 ⟨rfl, hb11⟩
        have hr11 := hr10.below hb11 hr10.lt
        have hbb11 := hb10.trans (hb11.mono hb10.size)
        have HE : Hid (sum (xorL 92 kp ++ d1) = mac k.data.toList m.data.toList) := by
          unfold Hid mac; rw [← HKP.out, HD1.out]
        dsimp only
        go_step
        rw [HE.out]
        refine wpList_store_row rfl 22 _ _ rfl w.heap.size (bCells (mac k.data.toList m.data.toList)) rfl rfl 22 _ hr11 (by rw [bCells_size, len_mac]; kernel_rfl) (by rw [bCells_size, bCells_size, len_mac]; rfl) (bCells_one _) ?_
        go_wp2
        refine bodyPost_ret (v := .agg (bCells (mac k.data.toList m.data.toList))) (results_cell_row rfl _ _ w.heap.size 22 _ (0, 0) _ rfl (setRow_heap _ _ _ _ _ _ hr11) Tryd.underlying22 rfl (by rw [bCells_size, len_mac]; kernel_rfl)) rfl ⟨rfl, ?_⟩
        exact below_setRow hbb11 (Nat.le_refl _) _
end Go.Proofs.YtdchgojnmfoffaaDoor.Sha
