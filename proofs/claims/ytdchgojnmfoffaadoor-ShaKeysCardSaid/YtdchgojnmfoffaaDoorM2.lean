import Derived.Test.YtdchgojnmfoffaaDoorM1
import Derived.Deep.RegionHeld3
namespace Go.Proofs.YtdchgojnmfoffaaDoor.Sha
open Go Go.RowKit

attribute [local go_sem] xor54 xor92

theorem kpad_lo (k : List UInt8) (t : Nat) (h : t < (kk k).length) : (kpad k).getD t 0 = (kk k).getD t 0 := by
  unfold kpad
  rw [List.getD_eq_getElem?_getD, List.getD_eq_getElem?_getD, List.getElem?_append_left h]
theorem kpad_hi (k : List UInt8) (t : Nat) (h : ¬ t < (kk k).length) : (kpad k).getD t 0 = 0 := by
  unfold kpad
  rw [List.getD_eq_getElem?_getD, List.getElem?_append_right (by omega), List.getElem?_replicate]
  split <;> rfl

def dT (c : UInt8) (l : List UInt8) (t : Nat) : List UInt8 := xorL c (l.take t) ++ List.replicate (64 - t) 0
theorem len_dT (c : UInt8) (l : List UInt8) (t : Nat) (h : l.length = 64) (ht : t ≤ 64) : (dT c l t).length = 64 := by simp [dT, xorL]; omega
theorem dT_all (c : UInt8) (l : List UInt8) (h : l.length = 64) : dT c l 64 = xorL c l := by
  simp [dT, List.take_of_length_le (Nat.le_of_eq h)]
theorem dT_set (c : UInt8) (l : List UInt8) (t : Nat) (hl : l.length = 64) (h : t < 64) : (dT c l t).set t (l.getD t 0 ^^^ c) = dT c l (t + 1) := by
  have hl2 : (xorL c (l.take t)).length = t := by simp [xorL]; omega
  have e1 : l[t]? = some (l.getD t 0) := by rw [List.getD_eq_getElem?_getD, List.getElem?_eq_getElem (by omega)]; rfl
  obtain ⟨q, hq⟩ : ∃ q, 64 - t = q + 1 := ⟨63 - t, by omega⟩
  unfold dT
  rw [List.set_append, if_neg (by omega), hl2, Nat.sub_self, hq, show 64 - (t + 1) = q by omega, List.replicate_succ, List.set_cons_zero, List.take_add_one, e1]
  simp [xorL]
structure DR (w : World) (N p : Nat) (a b : List UInt8) (wr : World) : Prop where
  res : Blk wr N (bCells z32) 22
  inn : Blk wr p (bCells a) 38
  out : Blk wr (p + 1) (bCells b) 38
  below : Below N w wr
  hp : N < p
theorem DR.put {w : World} {N p : Nat} {k : List UInt8} {t : Nat} {wr : World} (h : DR w N p (dT 54 k t) (dT 92 k t) wr) (hk : k.length = 64) (ht : t < 64) :
    DR w N p (dT 54 k (t + 1)) (dT 92 k (t + 1)) ((wr.setCell ⟨p, t, none⟩ (.int .u8 (((k.getD t 0 ^^^ 54 : UInt8)).toNat : Int))).setCell ⟨p + 1, t, none⟩ (.int .u8 (((k.getD t 0 ^^^ 92 : UInt8)).toNat : Int))) := by
  have hp := h.hp
  refine ⟨(h.res.set_other _ _ (by simp; omega)).set_other _ _ (by simp; omega), ?_, ?_, (h.below.setCell (by simp; omega) _).setCell (by simp; omega) _, h.hp⟩
  · have := h.inn.set t (.int .u8 (((k.getD t 0 ^^^ 54 : UInt8)).toNat : Int))
    rw [bCells_set, dT_set _ _ _ hk ht] at this
    exact this.set_other _ _ (by simp)
  · have := (h.out.set_other ⟨p, t, none⟩ (.int .u8 (((k.getD t 0 ^^^ 54 : UInt8)).toNat : Int)) (by simp)).set t (.int .u8 (((k.getD t 0 ^^^ 92 : UInt8)).toNat : Int))
    rw [bCells_set, dT_set _ _ _ hk ht] at this
    exact this

set_option maxRecDepth 100000 in
set_option maxHeartbeats 400000 in
theorem rmac_any (w : World) (k m : ByteArray) (hk : k.size ≤ 140737488351232) (hm : m.size ≤ 140737488351232) :
    Calls Tryd.prog 22 #[.string k, .string m] w fun e w' => e = .returned (.agg (bCells (mac k.data.toList m.data.toList))) ∧ Below w.heap.size w w' := by
  have hkl : k.data.toList.length = k.size := Array.length_toList
  have hml : m.data.toList.length = m.size := Array.length_toList
  have HK := Lib.hid hkl
  have HM := Lib.hid hml
  clear hkl hml
  go_enter Tryd.func22, Tryd.ntmps22
  go_upto_if 11 with fail
  have hr : Blk (w.alloc (.cells (bCells z32) 22)) w.heap.size (bCells z32) 22 := (Blk.new w _ 22)
  have hb : Below w.heap.size w (w.alloc (.cells (bCells z32) 22)) := ((Below.refl _ _).alloc (Nat.le_refl _) _)
  change Code.wp _ _ _ _ (w.alloc (.cells (bCells z32) 22))
  generalize w.alloc (.cells (bCells z32) 22) = w0 at hr hb ⊢
  go_cut [0] from 9 (fun s0 wx => ∃ s : ByteArray, s0 = .string s ∧ Hid (s.data.toList = kk k.data.toList) ∧ s.size ≤ 64 ∧ Blk wx w.heap.size (bCells z32) 22 ∧ Below w.heap.size w wx)
  case first =>
    by_cases h64 : 64 < k.size
    · go_wp2_with fail
      refine (rsum_any k w0 (by omega)).mono ?_
      rintro e w1 ⟨rfl, hb1⟩
      have hr1 := hr.below hb1 hr.lt
      have hb2 := hb.trans (hb1.mono hb.size)
      go_wp2_with fail
      refine (rtext_any w1 _ (len_sum _)).mono ?_
      rintro e w2 ⟨rfl, hb3⟩
      have hr2 := hr1.below hb3 hr1.lt
      have hb4 := hb2.trans (hb3.mono hb2.size)
      go_wp2
      go_meet
      refine ⟨strL (sum k.data.toList), rfl, ?_, by rw [strL_size, len_sum]; omega, hr2, hb4⟩
      unfold Hid kk
      rw [if_pos (by rw [HK.out]; exact h64)]; rfl
    · go_wp2
      go_meet
      refine ⟨k, rfl, ?_, by omega, hr, hb⟩
      unfold Hid kk
      rw [if_neg (by rw [HK.out]; exact h64)]
  case rest =>
    clear hr hb
    obtain ⟨s, rfl, HS, hs64, hr, hb⟩ := hcut
    have hsl : s.size = (kk k.data.toList).length := by rw [← HS.out]; exact Array.length_toList.symm
    have HSL := Lib.hid hsl
    clear hsl
    obtain ⟨kp, ekp⟩ : ∃ kp, kp = kpad k.data.toList := ⟨_, rfl⟩
    have HKP := Lib.hid ekp
    have hkp64 : kp.length = 64 := by rw [ekp]; exact len_kpad _
    have HKL := Lib.hid hkp64
    clear ekp hkp64
    have h0 : DR w w.heap.size wc.heap.size (dT 54 kp 0) (dT 92 kp 0) ((wc.alloc (.cells (bCells z64) 38)).alloc (.cells (bCells z64) 38)) := by
      have e : ∀ c, dT c kp 0 = z64 := fun c => by simp [dT, xorL, z64]
      rw [e, e]
      refine ⟨(hr.alloc _).alloc _, (Blk.new _ _ _).alloc _, ?_, (hb.alloc hb.size _).alloc (by have := hb.size; simp; omega) _, hr.lt⟩
      have := Blk.new (wc.alloc (.cells (bCells z64) 38)) (bCells z64) 38
      simpa using this
    go_wp2
    go_loopw [7] (fun i wr => ∃ t : Nat, t ≤ 64 ∧ i = .int .i64 t ∧ DR w w.heap.size wc.heap.size (dT 54 kp t) (dT 92 kp t) wr) (fun i _ => 64 - (intOf i).toNat)
    case atStart => exact ⟨0, by omega, rfl, h0⟩
    case round =>
      clear h0 hr hb
      obtain ⟨t, ht, rfl, hw⟩ := hrel
      generalize wc.heap.size = p at hw ⊢
      by_cases h64 : t < 64
      · obtain ⟨x, hx⟩ : ∃ x, x = kp.getD t 0 := ⟨_, rfl⟩
        have f1 : wr.frozen? ⟨p, t, none⟩ = false := hw.inn.free _
        have f2 : wr.frozen? ⟨p + 1, t, none⟩ = false := hw.out.free _
        obtain ⟨x1, c1⟩ : ∃ x1, wr.cell? ⟨p, t, none⟩ = some (by8 x1) := by
          rw [hw.inn.cell]; exact ⟨_, bCells_at _ _ (by rw [len_dT _ _ _ HKL.out ht]; exact h64)⟩
        obtain ⟨x2, c2⟩ : ∃ x2, wr.cell? ⟨p + 1, t, none⟩ = some (by8 x2) := by
          rw [hw.out.cell]; exact ⟨_, bCells_at _ _ (by rw [len_dT _ _ _ HKL.out ht]; exact h64)⟩
        have HP := hw.put HKL.out h64
        rw [← hx] at HP
        have HX := Lib.hid hx
        clear hx
        by_cases hlt : t < s.size
        · have HSX : Hid (s[t] = x) := by
            unfold Hid
            rw [HX.out, HKP.out, kpad_lo _ _ (by rw [← HSL.out]; exact hlt), ← HS.out, List.getD_eq_getElem?_getD, List.getElem?_eq_getElem (by rw [Array.length_toList]; exact hlt)]; rfl
          go_wp2
          go_roundw
          case rel =>
            refine ⟨t + 1, by omega, by simp, ?_⟩
            rw [UInt8.toNat_xor, UInt8.toNat_xor, ← HSX.out] at HP
            exact HP
          case measure => simp [intOf]; omega
        · have hx0 : x = 0 := by
            rw [HX.out, HKP.out]; exact kpad_hi _ _ (by rw [← HSL.out]; exact hlt)
          subst hx0
          go_wp2
          go_roundw
          case rel =>
            refine ⟨t + 1, by omega, by simp, ?_⟩
            rw [show bits BinOp.xor IntKind.u8 0 54 = _ from xor54 0, show bits BinOp.xor IntKind.u8 0 92 = _ from xor92 0]
            exact HP
          case measure => simp [intOf]; omega
      · obtain rfl : t = 64 := by omega
        clear ht h64
        rw [show ((64 : Nat) : Int) = 64 from rfl]
        rw [dT_all _ _ HKL.out, dT_all _ _ HKL.out] at hw
        obtain ⟨hr, hi, ho, hb, hp⟩ := hw
        obtain ⟨l1, el1⟩ : ∃ l, l = xorL 54 kp := ⟨_, rfl⟩
        obtain ⟨l2, el2⟩ : ∃ l, l = xorL 92 kp := ⟨_, rfl⟩
        obtain ⟨d1, ed1⟩ : ∃ d, d = sum (l1 ++ m.data.toList) := ⟨_, rfl⟩
        obtain ⟨d2, ed2⟩ : ∃ d, d = sum (l2 ++ d1) := ⟨_, rfl⟩
        have hd2 : mac k.data.toList m.data.toList = d2 := by rw [ed2, ed1, el1, el2, HKP.out]; rfl
        have HMAC := Lib.hid hd2
        rw [← el1] at hi
        rw [← el2] at ho
        have hl1 : l1.length = 64 := by rw [el1, len_xorL, HKL.out]
        have hl2 : l2.length = 64 := by rw [el2, len_xorL, HKL.out]
        have hd1l : d1.length = 32 := by rw [ed1, len_sum]
        have hd2l : d2.length = 32 := by rw [ed2, len_sum]
        have C1 : ∀ w', Calls Tryd.prog 11 #[.string (strL l1 ++ m)] w' fun e w'' => e = .returned (.agg (bCells d1)) ∧ Below w'.heap.size w' w'' := fun w' => by
          have := rsum_any (strL l1 ++ m) w' (by rw [ByteArray.size_append, strL_size, hl1]; omega)
          rw [ByteArray.data_append, Array.toList_append, strL_list, ← ed1] at this
          exact this
        have C2 : ∀ w', Calls Tryd.prog 31 #[.agg (bCells d1)] w' fun e w'' => e = .returned (.string (strL d1)) ∧ Below w'.heap.size w' w'' := fun w' => rtext_any w' _ hd1l
        have C3 : ∀ w', Calls Tryd.prog 11 #[.string (strL l2 ++ strL d1)] w' fun e w'' => e = .returned (.agg (bCells d2)) ∧ Below w'.heap.size w' w'' := fun w' => by
          have := rsum_any (strL l2 ++ strL d1) w' (by rw [ByteArray.size_append, strL_size, strL_size, hl2, hd1l]; omega)
          rw [ByteArray.data_append, Array.toList_append, strL_list, strL_list, ← ed2] at this
          exact this
        have A1 : ¬ 9223372036854775807 < (strL l1).size + m.size := by rw [strL_size, hl1]; omega
        have A2 : ¬ 9223372036854775807 < (strL l2).size + (strL d1).size := by rw [strL_size, strL_size, hl2, hd1l]; omega
        have HC1 := Lib.hid C1
        have HC2 := Lib.hid C2
        have HC3 := Lib.hid C3
        clear C1 C2 C3 ed1 ed2 el1 el2 hd2
        have hS : ∀ w', (∃ c : List UInt8, c.length = 32 ∧ Blk w' w.heap.size (bCells c) 22) → Blk w' p (bCells l1) 38 → Blk w' (p + 1) (bCells l2) 38 → Below w.heap.size w w' →
            ((convert 31 9 (.slice (some ⟨p + 1, 0, none⟩) 64 64)).run Tryd.prog w' = .ok (.string (strL l2)) w' ∧ (convert 31 9 (.slice (some ⟨p, 0, none⟩) 64 64)).run Tryd.prog w' = .ok (.string (strL l1)) w' ∧ World.there w' w.heap.size 0 (List.map by8 d2).length ∧ (∃ c : List UInt8, c.length = 32 ∧ Blk w' w.heap.size (bCells c) 22) ∧ Blk w' p (bCells l1) 38 ∧ Blk w' (p + 1) (bCells l2) 38 ∧ Below w.heap.size w w') := fun w' h1 h2 h3 h4 =>
          ⟨conv_bytes w' (p + 1) 0 64 64 l2 hl2 (by rw [← hl2]; exact blk_bytes h3), conv_bytes w' p 0 64 64 l1 hl1 (by rw [← hl1]; exact blk_bytes h2),
            (by
              obtain ⟨c, hc, hk⟩ := h1
              intro j hj
              rw [List.length_map, hd2l] at hj
              exact ⟨by rw [Nat.zero_add, hk.cell, bCells_at _ _ (by omega)]; rfl, hk.free _⟩), h1, h2, h3, h4⟩
        have hT : ∀ w' w'', ((convert 31 9 (.slice (some ⟨p + 1, 0, none⟩) 64 64)).run Tryd.prog w' = .ok (.string (strL l2)) w' ∧ (convert 31 9 (.slice (some ⟨p, 0, none⟩) 64 64)).run Tryd.prog w' = .ok (.string (strL l1)) w' ∧ World.there w' w.heap.size 0 (List.map by8 d2).length ∧ (∃ c : List UInt8, c.length = 32 ∧ Blk w' w.heap.size (bCells c) 22) ∧ Blk w' p (bCells l1) 38 ∧ Blk w' (p + 1) (bCells l2) 38 ∧ Below w.heap.size w w') → Hid (Below w'.heap.size w' w'') → ((convert 31 9 (.slice (some ⟨p + 1, 0, none⟩) 64 64)).run Tryd.prog w'' = .ok (.string (strL l2)) w'' ∧ (convert 31 9 (.slice (some ⟨p, 0, none⟩) 64 64)).run Tryd.prog w'' = .ok (.string (strL l1)) w'' ∧ World.there w'' w.heap.size 0 (List.map by8 d2).length ∧ (∃ c : List UInt8, c.length = 32 ∧ Blk w'' w.heap.size (bCells c) 22) ∧ Blk w'' p (bCells l1) 38 ∧ Blk w'' (p + 1) (bCells l2) 38 ∧ Below w.heap.size w w'') := fun w' w'' h hb => by
          obtain ⟨-, -, -, ⟨c, hc, h1⟩, h2, h3, h4⟩ := h
          exact hS w'' ⟨c, hc, h1.below hb.out h1.lt⟩ (h2.below hb.out h2.lt) (h3.below hb.out h3.lt) (h4.trans (hb.out.mono h4.size))
        have hset : ∀ (w' : World) (c : List UInt8), c.length = 32 → Blk w' w.heap.size (bCells c) 22 → w'.setCells w.heap.size 0 (List.map by8 d2) = w'.setRow w.heap.size (bCells d2) := fun w' c hc hk => by
          rw [setCells_row (List.map by8 d2) 0 w' (c.map by8) hk (by simp [hc, hd2l])]
          congr 1
          simp [splice, hd2l, hc, bCells]
        have hV : ∀ w', ((convert 31 9 (.slice (some ⟨p + 1, 0, none⟩) 64 64)).run Tryd.prog w' = .ok (.string (strL l2)) w' ∧ (convert 31 9 (.slice (some ⟨p, 0, none⟩) 64 64)).run Tryd.prog w' = .ok (.string (strL l1)) w' ∧ World.there w' w.heap.size 0 (List.map by8 d2).length ∧ (∃ c : List UInt8, c.length = 32 ∧ Blk w' w.heap.size (bCells c) 22) ∧ Blk w' p (bCells l1) 38 ∧ Blk w' (p + 1) (bCells l2) 38 ∧ Below w.heap.size w w') → ((convert 31 9 (.slice (some ⟨p + 1, 0, none⟩) 64 64)).run Tryd.prog (w'.setCells w.heap.size 0 (List.map by8 d2)) = .ok (.string (strL l2)) (w'.setCells w.heap.size 0 (List.map by8 d2)) ∧ (convert 31 9 (.slice (some ⟨p, 0, none⟩) 64 64)).run Tryd.prog (w'.setCells w.heap.size 0 (List.map by8 d2)) = .ok (.string (strL l1)) (w'.setCells w.heap.size 0 (List.map by8 d2)) ∧ World.there (w'.setCells w.heap.size 0 (List.map by8 d2)) w.heap.size 0 (List.map by8 d2).length ∧ (∃ c : List UInt8, c.length = 32 ∧ Blk (w'.setCells w.heap.size 0 (List.map by8 d2)) w.heap.size (bCells c) 22) ∧ Blk (w'.setCells w.heap.size 0 (List.map by8 d2)) p (bCells l1) 38 ∧ Blk (w'.setCells w.heap.size 0 (List.map by8 d2)) (p + 1) (bCells l2) 38 ∧ Below w.heap.size w (w'.setCells w.heap.size 0 (List.map by8 d2))) := fun w' h => by
          obtain ⟨-, -, -, ⟨c, hc, h1⟩, h2, h3, h4⟩ := h
          rw [hset w' c hc h1]
          refine hS _ ⟨d2, hd2l, setRow_heap _ _ _ _ _ _ h1⟩ ?_ ?_ (below_setRow h4 (Nat.le_refl _) _)
          · unfold Blk; rw [setRow_other _ _ _ _ (by omega)]; exact h2
          · unfold Blk; rw [setRow_other _ _ _ _ (by omega)]; exact h3
        have hW : ∀ w' w'', ((convert 31 9 (.slice (some ⟨p + 1, 0, none⟩) 64 64)).run Tryd.prog w' = .ok (.string (strL l2)) w' ∧ (convert 31 9 (.slice (some ⟨p, 0, none⟩) 64 64)).run Tryd.prog w' = .ok (.string (strL l1)) w' ∧ World.there w' w.heap.size 0 (List.map by8 d2).length ∧ (∃ c : List UInt8, c.length = 32 ∧ Blk w' w.heap.size (bCells c) 22) ∧ Blk w' p (bCells l1) 38 ∧ Blk w' (p + 1) (bCells l2) 38 ∧ Below w.heap.size w w') → Hid (Below w'.heap.size w' w'') → Hid (Blk (w''.setCells w.heap.size 0 (List.map by8 d2)) w.heap.size (bCells d2) 22) := fun w' w'' h hb => by
          obtain ⟨-, -, -, ⟨c, hc, h1⟩, h2, h3, h4⟩ := h
          have h1' := h1.below hb.out h1.lt
          unfold Hid
          rw [hset w'' c hc h1']
          exact setRow_heap _ _ _ _ _ _ h1'
        have HS0 := Lib.hid (hS wr.drew ⟨z32, rfl, hr.drewN 1⟩ (hi.drewN 1) (ho.drewN 1) (below_drewN hb 1))
        have HT := Lib.hid hT
        have HV := Lib.hid hV
        have HW := Lib.hid hW
        have q1 : ∀ (v : Value), v ∈ List.map by8 d2 → v.oneCell' = true := bytes_one d2
        have q2 : Option.map (fun x => x.size) (Tryd.prog.info? 22) = some (List.map by8 d2).length := by rw [List.length_map, hd2l]; kernel_rfl
        have HX : Hid (∀ w', ((convert 31 9 (.slice (some ⟨p + 1, 0, none⟩) 64 64)).run Tryd.prog w' = .ok (.string (strL l2)) w' ∧ (convert 31 9 (.slice (some ⟨p, 0, none⟩) 64 64)).run Tryd.prog w' = .ok (.string (strL l1)) w' ∧ World.there w' w.heap.size 0 (List.map by8 d2).length ∧ (∃ c : List UInt8, c.length = 32 ∧ Blk w' w.heap.size (bCells c) 22) ∧ Blk w' p (bCells l1) 38 ∧ Blk w' (p + 1) (bCells l2) 38 ∧ Below w.heap.size w w') → Below w.heap.size w w') := fun _ h => h.2.2.2.2.2.2
        clear hS hT hV hW hset hr hi ho hb hl1 hl2
        have HL2 := Lib.hid hd2l
        clear hd2l
        go_upto_region 12 with fail
        go_region_held3 (fun w' => ((convert 31 9 (.slice (some ⟨p + 1, 0, none⟩) 64 64)).run Tryd.prog w' = .ok (.string (strL l2)) w' ∧ (convert 31 9 (.slice (some ⟨p, 0, none⟩) 64 64)).run Tryd.prog w' = .ok (.string (strL l1)) w' ∧ World.there w' w.heap.size 0 (List.map by8 d2).length ∧ (∃ c : List UInt8, c.length = 32 ∧ Blk w' w.heap.size (bCells c) 22) ∧ Blk w' p (bCells l1) 38 ∧ Blk w' (p + 1) (bCells l2) 38 ∧ Below w.heap.size w w'))
          (first
            | exact HS0.out
            | (refine HV.out _ ?_; assumption)
            | (refine HT.out _ _ ?_ hb9; assumption))
          (first
            | (go_at_call_of 11 (strL l1 ++ m); refine (HC1.out _).mono ?_; rintro e w9 ⟨rfl, hb9⟩; replace hb9 := Lib.hid hb9)
            | (go_at_call 31; refine (HC2.out _).mono ?_; rintro e w9 ⟨rfl, hb9⟩; replace hb9 := Lib.hid hb9)
            | (go_at_call_of 11 (strL l2 ++ strL d1); refine (HC3.out _).mono ?_; rintro e w9 ⟨rfl, hb9⟩; replace hb9 := Lib.hid hb9; have hk9 := HW.out _ w9 (by assumption) hb9))
        have hbz : Below w.heap.size w (w9.setCells w.heap.size 0 (List.map by8 d2)) := by (refine HX.out _ ?_; assumption)
        clear q1 q2
        have hkz := hk9.out
        generalize w9.setCells w.heap.size 0 (List.map by8 d2) = wz at hbz hkz ⊢
        go_wp2
        refine bodyPost_ret (v := .agg (bCells d2)) (results_cell_row rfl _ _ w.heap.size 22 _ (0, 0) _ rfl hkz Tryd.underlying22 rfl (by rw [bCells_size, HL2.out]; kernel_rfl)) rfl ⟨?_, hbz⟩
        rw [HMAC.out]
end Go.Proofs.YtdchgojnmfoffaaDoor.Sha
