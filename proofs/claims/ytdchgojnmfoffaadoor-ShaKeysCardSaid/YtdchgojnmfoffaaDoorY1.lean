import Derived.Test.YtdchgojnmfoffaaDoorS1
import Derived.Deep.CutBlock
import Derived.Test.YtdchgojnmfoffaaDoorM2
namespace Go.Proofs.YtdchgojnmfoffaaDoor.Sha
open Go Go.RowKit

attribute [local go_sem] xor54 xor92

theorem kk_short (k : List UInt8) (h : k.length ≤ 64) : kk k = k := by unfold kk; rw [if_neg (by omega)]
theorem mac_of (k x m : List UInt8) (j : Nat) (h : x = kk k ++ List.replicate j 0) (hx : x.length ≤ 64) : mac x m = mac k m := by
  have hl := len_kk k
  have : kpad x = kpad k := by
    unfold kpad
    rw [kk_short x hx]
    subst h
    rw [List.length_append, List.length_replicate] at hx
    rw [List.append_assoc, List.replicate_append_replicate]
    congr 2
    simp; omega
  unfold mac; rw [this]
theorem pad_full (k x : List UInt8) (j : Nat) (h : x = kk k ++ List.replicate j 0) (hx : x.length = 64) : x = kpad k := by
  subst h
  rw [List.length_append, List.length_replicate] at hx
  unfold kpad
  congr 2; omega
theorem str_push (l : List UInt8) : strL l ++ (⟨#[0]⟩ : ByteArray) = strL (l ++ [0]) := by
  apply ByteArray.ext
  rw [ByteArray.data_append]
  simp [strL]
theorem strL_at (l : List UInt8) (t : Nat) (h : t < (strL l).size) : (strL l)[t] = l.getD t 0 := by
  have hl : t < l.length := by rwa [strL_size] at h
  rw [List.getD_eq_getElem?_getD, List.getElem?_eq_getElem hl]; rfl
def lenS : Value → Nat
  | .string s => s.size
  | _ => 0
theorem neq_go (a : List UInt8) (ha : a.length = 32) (w : World) :
    (binOp .neq 22 (.agg (List.map by8 a).toArray) (.agg (List.map by8 a).toArray)).run Tryd.prog w = .ok (.bool false) w := by
  have h := run_eq22 9998 a a ha ha w
  have h' : (Op.equalIn 10000 22 (.agg (List.map by8 a).toArray) (.agg (List.map by8 a).toArray)).run Tryd.prog w = .ok (decide (a = a)) w := h
  simp only [binOp]
  simp [Op.equal, Op.maxDepth, h']

structure KR (w : World) (z p : Nat) (D a b : List UInt8) (wr : World) : Prop where
  res : Blk wr z (bCells D) 22
  inn : Blk wr p (bCells a) 38
  out : Blk wr (p + 1) (bCells b) 38
  below : Below w.heap.size w wr
  hp : z < p
  hN : w.heap.size ≤ z
theorem KR.put {w : World} {z p : Nat} {D k : List UInt8} {t : Nat} {wr : World} (h : KR w z p D (dT 54 k t) (dT 92 k t) wr) (hk : k.length = 64) (ht : t < 64) :
    KR w z p D (dT 54 k (t + 1)) (dT 92 k (t + 1)) ((wr.setCell ⟨p, t, none⟩ (.int .u8 (((k.getD t 0 ^^^ 54 : UInt8)).toNat : Int))).setCell ⟨p + 1, t, none⟩ (.int .u8 (((k.getD t 0 ^^^ 92 : UInt8)).toNat : Int))) := by
  have hp := h.hp
  have hN := h.hN
  refine ⟨(h.res.set_other _ _ (by simp; omega)).set_other _ _ (by simp; omega), ?_, ?_, (h.below.setCell (by simp; omega) _).setCell (by simp; omega) _, h.hp, h.hN⟩
  · have := h.inn.set t (.int .u8 (((k.getD t 0 ^^^ 54 : UInt8)).toNat : Int))
    rw [bCells_set, dT_set _ _ _ hk ht] at this
    exact this.set_other _ _ (by simp)
  · have := (h.out.set_other ⟨p, t, none⟩ (.int .u8 (((k.getD t 0 ^^^ 54 : UInt8)).toNat : Int)) (by simp)).set t (.int .u8 (((k.getD t 0 ^^^ 92 : UInt8)).toNat : Int))
    rw [bCells_set, dT_set _ _ _ hk ht] at this
    exact this

set_option maxRecDepth 100000 in
set_option maxHeartbeats 4000000 in
theorem keys_walk (w : World) (hG : Glob w) (k m : ByteArray) (c : UInt8) (hk : k.size ≤ 140737488351232) (hm : m.size ≤ 140737488351232) :
    Calls Tryd.prog 9 #[.string k, .string m, .int .u8 (c.toNat : Int)] w fun e w' => e = .returned (.bool true) ∧ Below w.heap.size w w' := by
  have hkl : k.data.toList.length = k.size := Array.length_toList
  have HKL := Lib.hid hkl
  clear hkl
  go_enter Tryd.func9, Tryd.ntmps9
  go_wp2_with fail
  refine (lives_any w hG).mono ?_
  rintro e w1 ⟨rfl, hb1⟩
  have HB1 := Lib.hid hb1
  clear hb1
  go_wp2_with fail
  refine (mac_any w1 (hG.below HB1.out hG.size) k m (by omega) (by omega)).mono ?_
  rintro e w2 ⟨rfl, hb2⟩
  have hb := HB1.out.trans (hb2.mono HB1.out.size)
  clear hb2 HB1
  obtain ⟨D, hD⟩ : ∃ D, D = mac k.data.toList m.data.toList := ⟨_, rfl⟩
  have hDl : D.length = 32 := by rw [hD]; exact len_mac _ _
  rw [← hD]
  have HD := Lib.hid hD
  have HDL := Lib.hid hDl
  clear hD hDl
  dsimp only
  iterate 4 go_step
  refine wpList_store_row rfl 22 _ _ rfl w2.heap.size (bCells D) rfl rfl 22 _ (Blk.new _ (bCells (List.replicate 32 0)) _) (by rw [bCells_size, HDL.out]; kernel_rfl) (by rw [bCells_size, bCells_size, HDL.out]; rfl) (bCells_one _) ?_
  rw [setRow_alloc_new]
  have hr := Blk.new w2 (bCells D) 22
  have hzN := hb.size
  replace hb := hb.alloc hb.size (.cells (bCells D) 22)
  generalize w2.alloc (.cells (bCells D) 22) = w3 at hr hb ⊢
  generalize w2.heap.size = z at hr hzN ⊢
  obtain ⟨S, hS0⟩ : ∃ S, S = kk k.data.toList := ⟨_, rfl⟩
  have HS := Lib.hid hS0
  have hSl : S.length ≤ 64 := by rw [hS0]; exact len_kk _
  clear hS0
  go_upto_if 22 with fail
  go_cut [8] from 20 (fun s8 wx => s8 = .string (strL S) ∧ Blk wx z (bCells D) 22 ∧ Below w.heap.size w wx)
  case first =>
    by_cases h64 : 64 < k.size
    · go_wp2_with fail
      refine (sum_any w3 (hG.below hb hG.size) k (by omega)).mono ?_
      rintro e w4 ⟨rfl, hb4⟩
      have hr4 := hr.below hb4 hr.lt
      have hb5 := hb.trans (hb4.mono hb.size)
      clear hr hb hb4
      go_wp2_with fail
      refine (text_any w4 _ (len_sum _)).mono ?_
      rintro e w5 ⟨rfl, hb6⟩
      have hr6 := hr4.below hb6 hr4.lt
      have hb7 := hb5.trans (hb6.mono hb5.size)
      have HE : Hid (S = sum k.data.toList) := by
        unfold Hid; rw [HS.out, kk, if_pos (by rw [HKL.out]; exact h64)]
      go_wp2
      go_meet
      exact ⟨by rw [HE.out], hr6, hb7⟩
    · have HE : Hid (S = k.data.toList) := by
        unfold Hid; rw [HS.out, kk, if_neg (by rw [HKL.out]; exact h64)]
      go_wp2
      go_meet
      exact ⟨by rw [HE.out]; rfl, hr, hb⟩
  case rest =>
  clear hr hb
  obtain ⟨rfl, hr, hb⟩ := hcut
  have hcl := c.toNat_lt
  go_upto_block 0 with fail
  go_cut [9] from 27 (fun s9 wx => ∃ L : List UInt8, s9 = .string (strL L) ∧ Hid (∃ j, L = S ++ List.replicate j 0) ∧ L.length ≤ 64 ∧ wx = wc)
  case first =>
    go_wp2_with fail
    go_loopw [9, 10] (fun v i wr => ∃ (t : Nat) (L : List UInt8), t ≤ c.toNat ∧ i = .int .i64 t ∧ v = .string (strL L) ∧ (∃ j, L = S ++ List.replicate j 0) ∧ L.length ≤ 64 ∧ wr = wc) (fun _ i _ => c.toNat - (intOf i).toNat)
    case atStart => exact ⟨0, S, by omega, rfl, rfl, ⟨0, by simp⟩, hSl, rfl⟩
    case round =>
    obtain ⟨t, L, ht, rfl, rfl, hj, hL, rfl⟩ := hrel
    have HJ := Lib.hid hj
    clear hj
    obtain ⟨n, hn⟩ : ∃ n, n = L.length := ⟨_, rfl⟩
    have hn2 : (strL L).size = n := by rw [strL_size, hn]
    have HN := Lib.hid hn
    rw [← hn] at hL
    clear hn
    have s1 : ¬ 9223372036854775807 < (strL L).size + 1 := by rw [hn2]; omega
    have s2 : ¬ 9223372036854775807 < n + 1 := by omega
    by_cases h1 : t < c.toNat
    · by_cases h2 : n < 64
      · have h3 : (t : Int) < (c.toNat : Int) := by omega
        go_wp2
        go_roundw
        case rel =>
          refine ⟨t + 1, L ++ [0], by omega, by simp, by rw [← str_push], ?_, by rw [List.length_append, ← HN.out]; simp; omega, trivial⟩
          obtain ⟨j, hj⟩ := HJ.out
          exact ⟨j + 1, by rw [hj, List.append_assoc]; congr 1; rw [List.replicate_succ']⟩
        case measure => simp [intOf]; omega
      · have h3 : (t : Int) < (c.toNat : Int) := by omega
        go_wp2
        go_meet
        exact ⟨L, rfl, HJ, by rw [← HN.out]; exact hL, rfl⟩
    · have h3 : ¬ (t : Int) < (c.toNat : Int) := by omega
      go_wp2
      go_meet
      exact ⟨L, rfl, HJ, by rw [← HN.out]; exact hL, rfl⟩
  case rest =>
  obtain ⟨L, rfl, HJ, hL, rfl⟩ := hcut
  go_upto_region 12 with fail
  have HCS : Hid (∀ w', Glob w' → Calls Tryd.prog 21 #[.string (strL S), .string m] w' fun e w'' => e = .returned (.agg (List.map by8 D).toArray) ∧ Below w'.heap.size w' w'') := fun w' h => by
    have := mac_any w' h (strL S) m (by rw [strL_size]; omega) (by omega)
    rw [strL_list, mac_of k.data.toList S m.data.toList 0 (by rw [HS.out]; simp) hSl, ← HD.out] at this
    exact this
  have HCL : Hid (∀ w', Glob w' → Calls Tryd.prog 21 #[.string (strL L), .string m] w' fun e w'' => e = .returned (.agg (List.map by8 D).toArray) ∧ Below w'.heap.size w' w'') := fun w' h => by
    obtain ⟨j, hj⟩ := HJ.out
    have := mac_any w' h (strL L) m (by rw [strL_size]; omega) (by omega)
    rw [strL_list, mac_of k.data.toList L m.data.toList j (by rw [← HS.out]; exact hj) hL, ← HD.out] at this
    exact this
  have he := neq_go D HDL.out
  have hS : ∀ w', Blk w' z (bCells D) 22 → Below w.heap.size w w' → (World.rangeAt w' z 0 (List.map by8 D) ∧ Blk w' z (bCells D) 22 ∧ Below w.heap.size w w') := fun w' h1 h2 => ⟨(fun j v hj => by rw [Nat.zero_add, h1.cell, bCells, List.getElem?_toArray]; exact hj), h1, h2⟩
  have HS0 := Lib.hid (hS _ hr.drew (below_drewN hb 1))
  have HT : Hid (∀ w' w'', (World.rangeAt w' z 0 (List.map by8 D) ∧ Blk w' z (bCells D) 22 ∧ Below w.heap.size w w') → Hid (Below w'.heap.size w' w'') → (World.rangeAt w'' z 0 (List.map by8 D) ∧ Blk w'' z (bCells D) 22 ∧ Below w.heap.size w w'')) := fun w' w'' h hb =>
    hS w'' (h.2.1.below hb.out h.2.1.lt) (h.2.2.trans (hb.out.mono h.2.2.size))
  have HXB : Hid (∀ w', (World.rangeAt w' z 0 (List.map by8 D) ∧ Blk w' z (bCells D) 22 ∧ Below w.heap.size w w') → Blk w' z (bCells D) 22 ∧ Below w.heap.size w w') := fun w' h => h.2
  have HGl : Hid (∀ w', (World.rangeAt w' z 0 (List.map by8 D) ∧ Blk w' z (bCells D) 22 ∧ Below w.heap.size w w') → Glob w') := fun w' h => hG.below h.2.2 hG.size
  have HC := HCS
  have q2 : Option.map (fun x => x.size) (Tryd.prog.info? 22) = some (List.map by8 D).length := by rw [List.length_map, HDL.out]; kernel_rfl
  have q3 : Tryd.prog.underlying 22 = some (.array 32 5) := Tryd.underlying22
  have HG := Lib.hid hG
  clear hS hr hb hG
  have HLD : Hid (∀ w', (World.rangeAt w' z 0 (List.map by8 D) ∧ Blk w' z (bCells D) 22 ∧ Below w.heap.size w w') → World.rangeAt w' z 0 (List.map by8 D)) := fun w' h => h.1
  refine wp_region_noPanic ?_
  refine wp_region_held_drew (S := fun w' => (World.rangeAt w' z 0 (List.map by8 D) ∧ Blk w' z (bCells D) 22 ∧ Below w.heap.size w w')) (by kernel_rfl) HS0.out (fun hH => ?_)
  refine take_at (d := some 40) (hd := by rfl) (i := 0) (oi := _) (v := .string (strL S)) rfl (by kernel_rfl) (by kernel_rfl) (by kernel_rfl) (fun _ _ _ h => h) (Or.inl ⟨by rfl, fun w hSw => ?_⟩) hH ?_
  · clear hH hSw HLD HT HXB HC HS0 HGl
    go_simp
  try simp only [Act.put, List.setIfInBounds_toArray, List.set_cons_zero, List.set_cons_succ]
  refine take_at (d := some 41) (hd := by rfl) (i := 1) (oi := _) (v := .string m) rfl (by kernel_rfl) (by kernel_rfl) (by kernel_rfl) (fun _ _ _ h => h) (Or.inl ⟨by rfl, fun w hSw => ?_⟩) hH ?_
  · clear hH hSw HLD HT HXB HC HS0 HGl
    go_simp
  try simp only [Act.put, List.setIfInBounds_toArray, List.set_cons_zero, List.set_cons_succ]
  refine wpAnyH_take (i := 3) (oi := _) (v := .agg (List.map by8 D).toArray) rfl (by kernel_rfl) (by kernel_rfl) (by kernel_rfl) (fun _ _ _ h => h) (yieldsIf_load_mid (by rfl) 22 (.tmp 7) rfl z 0 rfl (List.map by8 D) (.array 32 5) HLD.out q3 rfl q2) hH ?_
  try simp only [Act.put, List.setIfInBounds_toArray, List.set_cons_zero, List.set_cons_succ]
  refine wpAnyH_ready (rs := [2]) (by kernel_rfl) (by simp) ?_
  refine AllReadyH.cons (o := _) rfl (fun K hK => ?_) AllReadyH.nil
  go_simp
  refine (HCS.out _ (HGl.out _ hH)).mono ?_
  rintro e w9 ⟨rfl, hb9⟩
  replace hb9 := Lib.hid hb9
  go_wp2_with fail
  have hH2 := HT.out _ _ hH hb9
  clear hH hb9
  refine hK.out _ _ hH2 (fun hH => ?_)
  clear hK K hH2
  try simp only [Act.put, List.setIfInBounds_toArray, List.set_cons_zero, List.set_cons_succ]
  refine take_at (d := some 44) (hd := by rfl) (i := 4) (oi := _) (v := .bool false) rfl (by kernel_rfl) (by kernel_rfl) (by kernel_rfl) (fun _ _ _ h => h) (Or.inl ⟨by rfl, fun w hSw => ?_⟩) hH ?_
  · clear hH hSw HLD HT HXB HC HS0 HGl
    go_simp
  try simp only [Act.put, List.setIfInBounds_toArray, List.set_cons_zero, List.set_cons_succ]
  refine take_at (d := some 45) (hd := by rfl) (i := 5) (oi := _) (v := .bool false) rfl (by kernel_rfl) (by kernel_rfl) (by kernel_rfl) (fun _ _ _ h => h) (Or.inl ⟨by rfl, fun w hSw => ?_⟩) hH ?_
  · clear hH hSw HLD HT HXB HC HS0 HGl
    go_simp
  try simp only [Act.put, List.setIfInBounds_toArray, List.set_cons_zero, List.set_cons_succ]
  refine take_at (d := some 46) (hd := by rfl) (i := 6) (oi := _) (v := .string (strL L)) rfl (by kernel_rfl) (by kernel_rfl) (by kernel_rfl) (fun _ _ _ h => h) (Or.inl ⟨by rfl, fun w hSw => ?_⟩) hH ?_
  · clear hH hSw HLD HT HXB HC HS0 HGl
    go_simp
  try simp only [Act.put, List.setIfInBounds_toArray, List.set_cons_zero, List.set_cons_succ]
  refine take_at (d := some 47) (hd := by rfl) (i := 7) (oi := _) (v := .string m) rfl (by kernel_rfl) (by kernel_rfl) (by kernel_rfl) (fun _ _ _ h => h) (Or.inl ⟨by rfl, fun w hSw => ?_⟩) hH ?_
  · clear hH hSw HLD HT HXB HC HS0 HGl
    go_simp
  try simp only [Act.put, List.setIfInBounds_toArray, List.set_cons_zero, List.set_cons_succ]
  refine wpAnyH_take (i := 9) (oi := _) (v := .agg (List.map by8 D).toArray) rfl (by kernel_rfl) (by kernel_rfl) (by kernel_rfl) (fun _ _ _ h => h) (yieldsIf_load_mid (by rfl) 22 (.tmp 7) rfl z 0 rfl (List.map by8 D) (.array 32 5) HLD.out q3 rfl q2) hH ?_
  try simp only [Act.put, List.setIfInBounds_toArray, List.set_cons_zero, List.set_cons_succ]
  refine wpAnyH_ready (rs := [8]) (by kernel_rfl) (by simp) ?_
  refine AllReadyH.cons (o := _) rfl (fun K hK => ?_) AllReadyH.nil
  go_simp
  refine (HCL.out _ (HGl.out _ hH)).mono ?_
  rintro e w9 ⟨rfl, hb9⟩
  replace hb9 := Lib.hid hb9
  go_wp2_with fail
  have hH2 := HT.out _ _ hH hb9
  clear hH hb9
  refine hK.out _ _ hH2 (fun hH => ?_)
  clear hK K hH2
  try simp only [Act.put, List.setIfInBounds_toArray, List.set_cons_zero, List.set_cons_succ]
  refine take_at (d := some 50) (hd := by rfl) (i := 10) (oi := _) (v := .bool false) rfl (by kernel_rfl) (by kernel_rfl) (by kernel_rfl) (fun _ _ _ h => h) (Or.inl ⟨by rfl, fun w hSw => ?_⟩) hH ?_
  · clear hH hSw HLD HT HXB HC HS0 HGl
    go_simp
  try simp only [Act.put, List.setIfInBounds_toArray, List.set_cons_zero, List.set_cons_succ]
  refine take_at (d := some 51) (hd := by rfl) (i := 11) (oi := _) (v := .bool false) rfl (by kernel_rfl) (by kernel_rfl) (by kernel_rfl) (fun _ _ _ h => h) (Or.inl ⟨by rfl, fun w hSw => ?_⟩) hH ?_
  · clear hH hSw HLD HT HXB HC HS0 HGl
    go_simp
  try simp only [Act.put, List.setIfInBounds_toArray, List.set_cons_zero, List.set_cons_succ]
  refine wpAnyH_done (by kernel_rfl) ?_ _
  refine NoPanic.normal ?_
  have hxb := HXB.out _ hH
  clear hH q2 q3 he HXB HT HS0 HGl HC HCS HCL HLD
  obtain ⟨hr, hb⟩ := hxb
  generalize hwy : w9 = wy at hr hb ⊢
  clear hwy
  go_wp2
  go_loopw [9] (fun v wr => ∃ L : List UInt8, v = .string (strL L) ∧ (∃ j, L = S ++ List.replicate j 0) ∧ L.length ≤ 64 ∧ wr = wy) (fun v _ => 64 - lenS v)
  case atStart => exact ⟨L, rfl, HJ.out, hL, rfl⟩
  case round =>
  clear HJ hL
  obtain ⟨L, rfl, hj, hL, rfl⟩ := hrel
  have HJ := Lib.hid hj
  clear hj
  obtain ⟨n, hn⟩ : ∃ n, n = L.length := ⟨_, rfl⟩
  have hn2 : (strL L).size = n := by rw [strL_size, hn]
  have HN := Lib.hid hn
  have HN2 := Lib.hid hn2
  rw [← hn] at hL
  clear hn
  by_cases h2 : n < 64
  · have s1 : ¬ 9223372036854775807 < (strL L).size + 1 := by rw [hn2]; omega
    have s2 : ¬ 9223372036854775807 < n + 1 := by omega
    go_wp2
    go_roundw
    case rel =>
      refine ⟨L ++ [0], by rw [← str_push], ?_, by rw [List.length_append, ← HN.out]; simp; omega, by first | rfl | trivial⟩
      obtain ⟨j, hj⟩ := HJ.out
      exact ⟨j + 1, by rw [hj, List.append_assoc]; congr 1; rw [List.replicate_succ']⟩
    case measure =>
      have e : ∀ l, lenS (.string (strL l)) = l.length := fun l => strL_size l
      rw [str_push, e, e, List.length_append, ← HN.out]
      simp; omega
  obtain rfl : n = 64 := by omega
  clear h2 hL
  have HLP : Hid (L = kpad k.data.toList) := by
    obtain ⟨j, hj⟩ := HJ.out
    exact pad_full k.data.toList L j (by rw [← HS.out]; exact hj) HN.out.symm
  have HLL : Hid (L.length = 64) := HN.out.symm
  clear HJ HN
  have h0 : KR w z wr.heap.size D (dT 54 L 0) (dT 92 L 0) ((wr.alloc (.cells (bCells z64) 38)).alloc (.cells (bCells z64) 38)) := by
    have e : ∀ c, dT c L 0 = z64 := fun c => by simp [dT, xorL, z64]
    rw [e, e]
    refine ⟨(hr.alloc _).alloc _, (Blk.new _ _ _).alloc _, ?_, (hb.alloc hb.size _).alloc (by have := hb.size; simp; omega) _, hr.lt, hzN⟩
    have := Blk.new (wr.alloc (.cells (bCells z64) 38)) (bCells z64) 38
    simpa using this
  go_wp2
  generalize wr.heap.size = p at h0 ⊢
  clear hr hb hn2
  go_loopw [13] (fun i wr => ∃ t : Nat, t ≤ 64 ∧ i = .int .i64 t ∧ KR w z p D (dT 54 L t) (dT 92 L t) wr) (fun i _ => 64 - (intOf i).toNat)
  case atStart => exact ⟨0, by omega, rfl, h0⟩
  case round =>
  clear h0
  obtain ⟨t, ht, rfl, hw⟩ := hrel
  by_cases h64 : t < 64
  · obtain ⟨x, hx⟩ : ∃ x, x = L.getD t 0 := ⟨_, rfl⟩
    have f1 : wr.frozen? ⟨p, t, none⟩ = false := hw.inn.free _
    have f2 : wr.frozen? ⟨p + 1, t, none⟩ = false := hw.out.free _
    obtain ⟨x1, c1⟩ : ∃ x1, wr.cell? ⟨p, t, none⟩ = some (by8 x1) := by
      rw [hw.inn.cell]; exact ⟨_, bCells_at _ _ (by rw [len_dT _ _ _ HLL.out ht]; exact h64)⟩
    obtain ⟨x2, c2⟩ : ∃ x2, wr.cell? ⟨p + 1, t, none⟩ = some (by8 x2) := by
      rw [hw.out.cell]; exact ⟨_, bCells_at _ _ (by rw [len_dT _ _ _ HLL.out ht]; exact h64)⟩
    have HP := Lib.hid (hw.put HLL.out h64)
    rw [← hx] at HP
    have hlt : t < (strL L).size := by rw [HN2.out]; exact h64
    have HSX : Hid ((strL L)[t] = x) := by unfold Hid; rw [strL_at, hx]
    clear hx
    go_wp2
    go_roundw
    case rel =>
      refine ⟨t + 1, by omega, by simp, ?_⟩
      have HP := HP.out
      rw [UInt8.toNat_xor, UInt8.toNat_xor, ← HSX.out] at HP
      exact HP
    case measure => simp [intOf]; omega
  obtain rfl : t = 64 := by omega
  clear ht h64
  rw [show ((64 : Nat) : Int) = 64 from rfl]
  rw [dT_all _ _ HLL.out, dT_all _ _ HLL.out] at hw
  obtain ⟨hr, hi, ho, hb, hp, hzN⟩ := hw
  obtain ⟨l1, el1⟩ : ∃ l, l = xorL 54 L := ⟨_, rfl⟩
  obtain ⟨l2, el2⟩ : ∃ l, l = xorL 92 L := ⟨_, rfl⟩
  obtain ⟨d1, ed1⟩ : ∃ d, d = sum (l1 ++ m.data.toList) := ⟨_, rfl⟩
  have ed2 : D = sum (l2 ++ d1) := by rw [ed1, el1, el2, HLP.out]; exact HD.out
  rw [← el1] at hi
  rw [← el2] at ho
  have hl1 : l1.length = 64 := by rw [el1, len_xorL, HLL.out]
  have hl2 : l2.length = 64 := by rw [el2, len_xorL, HLL.out]
  have hd1l : d1.length = 32 := by rw [ed1, len_sum]
  have HC1 : Hid (∀ w', Glob w' → Calls Tryd.prog 10 #[.string (strL l1 ++ m)] w' fun e w'' => e = .returned (.agg (bCells d1)) ∧ Below w'.heap.size w' w'') := fun w' h => by
    have := sum_any w' h (strL l1 ++ m) (by rw [ByteArray.size_append, strL_size, hl1]; omega)
    rw [ByteArray.data_append, Array.toList_append, strL_list, ← ed1] at this
    exact this
  have HC2 : Hid (∀ w', Calls Tryd.prog 24 #[.agg (bCells d1)] w' fun e w'' => e = .returned (.string (strL d1)) ∧ Below w'.heap.size w' w'') := fun w' => text_any w' _ hd1l
  have HC3 : Hid (∀ w', Glob w' → Calls Tryd.prog 10 #[.string (strL l2 ++ strL d1)] w' fun e w'' => e = .returned (.agg (List.map by8 D).toArray) ∧ Below w'.heap.size w' w'') := fun w' h => by
    have := sum_any w' h (strL l2 ++ strL d1) (by rw [ByteArray.size_append, strL_size, strL_size, hl2, hd1l]; omega)
    rw [ByteArray.data_append, Array.toList_append, strL_list, strL_list, ← ed2] at this
    exact this
  have A1 : ¬ 9223372036854775807 < (strL l1).size + m.size := by rw [strL_size, hl1]; omega
  have A2 : ¬ 9223372036854775807 < (strL l2).size + (strL d1).size := by rw [strL_size, strL_size, hl2, hd1l]; omega
  have he : ∀ w, (binOp .eql 22 (.agg (List.map by8 D).toArray) (.agg (List.map by8 D).toArray)).run Tryd.prog w = .ok (.bool true) w := fun w => by
    have := eql_go D D HDL.out HDL.out w
    rw [decide_eq_true rfl] at this
    exact this
  have hS : ∀ w', Blk w' z (bCells D) 22 → Blk w' p (bCells l1) 38 → Blk w' (p + 1) (bCells l2) 38 → Below w.heap.size w w' → ((convert 31 9 (.slice (some ⟨p + 1, 0, none⟩) 64 64)).run Tryd.prog w' = .ok (.string (strL l2)) w' ∧ (convert 31 9 (.slice (some ⟨p, 0, none⟩) 64 64)).run Tryd.prog w' = .ok (.string (strL l1)) w' ∧ World.rangeAt w' z 0 (List.map by8 D) ∧ Blk w' z (bCells D) 22 ∧ Blk w' p (bCells l1) 38 ∧ Blk w' (p + 1) (bCells l2) 38 ∧ Below w.heap.size w w') := fun w' h1 h2 h3 h4 =>
    ⟨conv_bytes w' (p + 1) 0 64 64 l2 hl2 (by rw [← hl2]; exact blk_bytes h3), conv_bytes w' p 0 64 64 l1 hl1 (by rw [← hl1]; exact blk_bytes h2), (fun j v hj => by rw [Nat.zero_add, h1.cell, bCells, List.getElem?_toArray]; exact hj), h1, h2, h3, h4⟩
  have HS0 := Lib.hid (hS wr.drew hr.drew hi.drew ho.drew (below_drewN hb 1))
  have HT : Hid (∀ w' w'', ((convert 31 9 (.slice (some ⟨p + 1, 0, none⟩) 64 64)).run Tryd.prog w' = .ok (.string (strL l2)) w' ∧ (convert 31 9 (.slice (some ⟨p, 0, none⟩) 64 64)).run Tryd.prog w' = .ok (.string (strL l1)) w' ∧ World.rangeAt w' z 0 (List.map by8 D) ∧ Blk w' z (bCells D) 22 ∧ Blk w' p (bCells l1) 38 ∧ Blk w' (p + 1) (bCells l2) 38 ∧ Below w.heap.size w w') → Hid (Below w'.heap.size w' w'') → ((convert 31 9 (.slice (some ⟨p + 1, 0, none⟩) 64 64)).run Tryd.prog w'' = .ok (.string (strL l2)) w'' ∧ (convert 31 9 (.slice (some ⟨p, 0, none⟩) 64 64)).run Tryd.prog w'' = .ok (.string (strL l1)) w'' ∧ World.rangeAt w'' z 0 (List.map by8 D) ∧ Blk w'' z (bCells D) 22 ∧ Blk w'' p (bCells l1) 38 ∧ Blk w'' (p + 1) (bCells l2) 38 ∧ Below w.heap.size w w'')) := fun w' w'' h hb => by
    obtain ⟨-, -, -, h1, h2, h3, h4⟩ := h
    exact hS w'' (h1.below hb.out h1.lt) (h2.below hb.out h2.lt) (h3.below hb.out h3.lt) (h4.trans (hb.out.mono h4.size))
  have HXB : Hid (∀ w', ((convert 31 9 (.slice (some ⟨p + 1, 0, none⟩) 64 64)).run Tryd.prog w' = .ok (.string (strL l2)) w' ∧ (convert 31 9 (.slice (some ⟨p, 0, none⟩) 64 64)).run Tryd.prog w' = .ok (.string (strL l1)) w' ∧ World.rangeAt w' z 0 (List.map by8 D) ∧ Blk w' z (bCells D) 22 ∧ Blk w' p (bCells l1) 38 ∧ Blk w' (p + 1) (bCells l2) 38 ∧ Below w.heap.size w w') → Below w.heap.size w w') := fun w' h => h.2.2.2.2.2.2
  have HGl : Hid (∀ w', ((convert 31 9 (.slice (some ⟨p + 1, 0, none⟩) 64 64)).run Tryd.prog w' = .ok (.string (strL l2)) w' ∧ (convert 31 9 (.slice (some ⟨p, 0, none⟩) 64 64)).run Tryd.prog w' = .ok (.string (strL l1)) w' ∧ World.rangeAt w' z 0 (List.map by8 D) ∧ Blk w' z (bCells D) 22 ∧ Blk w' p (bCells l1) 38 ∧ Blk w' (p + 1) (bCells l2) 38 ∧ Below w.heap.size w w') → Glob w') := fun w' h => HG.out.below h.2.2.2.2.2.2 HG.out.size
  have q1 : ∀ (v : Value), v ∈ List.map by8 D → v.oneCell' = true := bytes_all D
  have q2 : Option.map (fun x => x.size) (Tryd.prog.info? 22) = some (List.map by8 D).length := by rw [List.length_map, HDL.out]; kernel_rfl
  have q3 : Tryd.prog.underlying 22 = some (.array 32 5) := Tryd.underlying22
  have q4 : (List.map by8 D).length = 32 := by rw [List.length_map, HDL.out]
  clear hS hr hi ho hb hl1 hl2 hd1l ed1 ed2 el1 el2 hzN hp HD
  go_upto_region 22 with fail
  go_region_held3 (fun w' => ((convert 31 9 (.slice (some ⟨p + 1, 0, none⟩) 64 64)).run Tryd.prog w' = .ok (.string (strL l2)) w' ∧ (convert 31 9 (.slice (some ⟨p, 0, none⟩) 64 64)).run Tryd.prog w' = .ok (.string (strL l1)) w' ∧ World.rangeAt w' z 0 (List.map by8 D) ∧ Blk w' z (bCells D) 22 ∧ Blk w' p (bCells l1) 38 ∧ Blk w' (p + 1) (bCells l2) 38 ∧ Below w.heap.size w w'))
    (first
      | exact HS0.out
      | (refine HT.out _ _ ?_ hb9; assumption))
    (first
      | (go_at_call_of 10 (strL l1 ++ m); refine (HC1.out _ (HGl.out _ (by assumption))).mono ?_; rintro e w9 ⟨rfl, hb9⟩; replace hb9 := Lib.hid hb9)
      | (go_at_call 24; refine (HC2.out _).mono ?_; rintro e w9 ⟨rfl, hb9⟩; replace hb9 := Lib.hid hb9)
      | (go_at_call_of 10 (strL l2 ++ strL d1); refine (HC3.out _ (HGl.out _ (by assumption))).mono ?_; rintro e w9 ⟨rfl, hb9⟩; replace hb9 := Lib.hid hb9))
  have hbz := Lib.hid (HXB.out w9 (by assumption))
  clear q1 q2 q3 q4 he
  go_wp2
  go_ret
  exact ⟨rfl, hbz.out⟩
end Go.Proofs.YtdchgojnmfoffaaDoor.Sha

