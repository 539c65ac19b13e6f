/-
  Of the proof that the law DiagDeep answers true at every row of bytes: a part, without conditions of its own.
-/
import Derived.Test.YtbhfoelnoddlkaaGreatDoorPart25
import Derived.Deep.CutBlock
set_option linter.unusedVariables false
set_option linter.unusedSimpArgs false
/-
  math/bits.LeadingZeros32, quot.long: walked.
-/
namespace Go.Proofs.YtbhfoelnoddlkaaGreatDoor.D
open Go Go.RowKit Limb

set_option maxRecDepth 100000 in
theorem lz_any (w : World) (x : Nat) (hx : x < 4294967296) :
    Calls Tryz.prog 238 #[.int .u32 (x : Int)] w fun e w' => e = .returned (.int .i64 ((32 - blen x : Nat) : Int)) ∧ w' = w := by
  have hb := blen_le (k := 32) hx
  have HL := Lib.hid (Tryz.bits_Len32 (x : Int) w (by omega) (by omega))
  rw [Int.toNat_natCast, bitLen_blen _ hx] at HL
  have g1 : IntKind.i64.wrap (32 - (blen x : Int)) = ((32 - blen x : Nat) : Int) := by rw [IntWalk.i64_in _ (by omega)]; omega
  generalize ((32 - blen x : Nat) : Int) = z at *
  generalize blen x = y at *
  go_enter Tryz.func238, Tryz.ntmps238
  go_wp2_with fail
  refine HL.out.mono ?_
  rintro e w2 ⟨rfl, rfl⟩
  go_wp2
  go_ret
  exact ⟨rfl, rfl⟩

theorem win_take (X Z : List Nat) (j : Nat) (h : j ≤ X.length) : ((win X Z j).drop j).take Z.length = Z := by
  unfold win
  rw [List.drop_append_of_le_length (by simp; omega), List.drop_of_length_le (by simp; omega), List.nil_append, List.take_left]
theorem win_win (X Z Z2 : List Nat) (j : Nat) (h : j + Z.length ≤ X.length) (hl : Z2.length = Z.length) : win (win X Z j) Z2 j = win X Z2 j := by
  have h1 : (win X Z j).take j = X.take j := by
    unfold win
    rw [List.take_append_of_le_length (by simp; omega), List.take_take, Nat.min_self]
  have h2 : (win X Z j).drop (j + Z.length) = X.drop (j + Z.length) := by
    unfold win
    rw [← List.append_assoc]
    have e : (X.take j ++ Z).length = j + Z.length := by simp; omega
    rw [← e, List.drop_left]
  show (win X Z j).take j ++ (Z2 ++ (win X Z j).drop (j + Z2.length)) = X.take j ++ (Z2 ++ X.drop (j + Z2.length))
  rw [hl, h1, h2]
/-- A divisor of two limbs or more, moved up until its highest bit is set. -/
theorem norm_facts (b n u : Nat) (hn : n = (limbs b).length) (h1 : 1 ≤ n) (hu : u = 32 - blen ((limbs b).getD (n - 1) 0)) :
    u ≤ 31 ∧ 2 ^ u * b < 4294967296 ^ n ∧ 2147483648 * 4294967296 ^ (n - 1) ≤ 2 ^ u * b := by
  have hb : b ≠ 0 := by rintro rfl; rw [limbs_zero] at hn; simp at hn; omega
  have h2 := blen_limbs hb
  rw [← hn] at h2
  have h3 := limbs_last hb
  rw [← hn] at h3
  have h4 := blen_bounds _ h3
  have h5 := getD_fit (fit_limbs b) (n - 1) (by omega)
  have h6 := blen_le (k := 32) h5
  have h7 := blen_bounds b hb
  generalize blen ((limbs b).getD (n - 1) 0) = t at *
  refine ⟨by omega, ?_, ?_⟩
  · have h8 : 2 ^ u * b < 2 ^ u * 2 ^ blen b := Nat.mul_lt_mul_of_pos_left h7.2.2 (Nat.two_pow_pos u)
    rw [← Nat.pow_add, show u + blen b = 32 * n by omega, ← pow_base] at h8
    exact h8
  · have h8 : 2 ^ u * 2 ^ (blen b - 1) ≤ 2 ^ u * b := Nat.mul_le_mul_left _ h7.2.1
    rw [← Nat.pow_add, show u + (blen b - 1) = 31 + 32 * (n - 1) by omega, Nat.pow_add, ← pow_base] at h8
    exact h8
theorem shL_up (u : Nat) (a : List Nat) (hu : u ≤ 32) : val (shL u 0 (a ++ [0])) = 2 ^ u * val a := by
  rw [shL_val u 0 _ hu (by rw [← List.cons_append, List.getLast?_append]; simp), Nat.zero_div, Nat.add_zero, val_append]
  simp [val]
/-- The divisor as it lies. -/
theorem div_facts (b n u : Nat) (hn : n = (limbs b).length) (h2 : 2 ≤ n) (hu : u = 32 - blen ((limbs b).getD (n - 1) 0)) (Y : List Nat) (hY : Y = shL u 0 (limbs b ++ [0])) :
    Y.length = n + 1 ∧ Fit Y ∧ val (Y.take n) = 2 ^ u * b ∧ 2147483648 ≤ Y.getD (n - 1) 0 ∧ 2 ^ u * b < 4294967296 ^ n := by
  obtain ⟨h3, h4, h5⟩ := norm_facts b n u hn (by omega) hu
  have hl : Y.length = n + 1 := by rw [hY, shL_length, List.length_append, ← hn]; rfl
  have hf : Fit Y := by rw [hY]; exact shL_fit u 0 _ (by omega) (by decide) (fit_snoc (fit_limbs b) 0 (by decide))
  have hv : val Y = 2 ^ u * b := by rw [hY, shL_up u _ (by omega), val_limbs]
  have h0 : Y.getD n 0 = 0 := getD_zero_of_val (by omega) (by rw [hv]; exact h4)
  have ht : val (Y.take n) = 2 ^ u * b := by
    have h6 := val_take_succ Y n
    rw [List.take_of_length_le (by omega), hv, h0] at h6
    omega
  refine ⟨hl, hf, ht, ?_, h4⟩
  have h6 := val_take_succ Y (n - 1)
  rw [show n - 1 + 1 = n by omega, ht] at h6
  have h7 := val_lt (fit_take hf (n - 1))
  rw [List.length_take, Nat.min_eq_left (by omega)] at h7
  rcases Nat.lt_or_ge (Y.getD (n - 1) 0) 2147483648 with h8 | h8
  · exfalso
    have h9 : 4294967296 ^ (n - 1) * (Y.getD (n - 1) 0 + 1) ≤ 4294967296 ^ (n - 1) * 2147483648 := Nat.mul_le_mul_left _ h8
    rw [Nat.mul_add, Nat.mul_one] at h9
    rw [Nat.mul_comm] at h5
    omega
  · exact h8
theorem start_facts (a b n u : Nat) (hn : n = (limbs b).length) (h2 : 2 ≤ n) (hu : u = 32 - blen ((limbs b).getD (n - 1) 0)) (hab : n ≤ (limbs a).length) (X : List Nat) (hX : X = shL u 0 (limbs a ++ [0])) :
    LongI (2 ^ u * a) (2 ^ u * b) n ((limbs a).length + 1) X [] ((limbs a).length + 1 - n) := by
  obtain ⟨h3, h4, h5⟩ := norm_facts b n u hn (by omega) hu
  have hl : X.length = (limbs a).length + 1 := by rw [hX, shL_length, List.length_append]; rfl
  have hv : val X = 2 ^ u * a := by rw [hX, shL_up u _ (by omega), val_limbs]
  refine ⟨hl, by simp; omega, by rw [hX]; exact shL_fit u 0 _ (by omega) (by decide) (fit_snoc (fit_limbs a) 0 (by decide)), fun x hx => by simp at hx, by rw [hv]; simp [val], ?_⟩
  have h6 := val_split X ((limbs a).length + 1 - n) (by omega)
  rw [hv] at h6
  have h7 := limbs_lt a
  have h8 : 2 ^ u * a < 2 ^ 31 * 4294967296 ^ (limbs a).length := Nat.lt_of_le_of_lt (Nat.mul_le_mul_right _ (Nat.pow_le_pow_right (by omega) h3)) (Nat.mul_lt_mul_of_pos_left h7 (by decide))
  have h9 : (4294967296 : Nat) ^ (limbs a).length = 4294967296 ^ ((limbs a).length + 1 - n) * 4294967296 ^ (n - 1) := by rw [← Nat.pow_add]; congr 1; omega
  have h10 : 4294967296 ^ ((limbs a).length + 1 - n) * val (X.drop ((limbs a).length + 1 - n)) < 4294967296 ^ ((limbs a).length + 1 - n) * (2147483648 * 4294967296 ^ (n - 1)) := by
    rw [h9] at h8
    have h11 : (2 : Nat) ^ 31 * (4294967296 ^ ((limbs a).length + 1 - n) * 4294967296 ^ (n - 1)) = 4294967296 ^ ((limbs a).length + 1 - n) * (2147483648 * 4294967296 ^ (n - 1)) := by
      rw [show (2 : Nat) ^ 31 = 2147483648 from rfl, Nat.mul_left_comm]
    rw [h11] at h8
    omega
  exact Nat.lt_of_lt_of_le (Nat.lt_of_mul_lt_mul_left h10) h5

set_option maxRecDepth 100000 in
set_option maxHeartbeats 2000000 in
theorem long_any (w : World) (v v2 : Value) (a b : Nat) (h : Limbs w v (limbs a)) (h2 : Limbs w v2 (limbs b)) (hn : 2 ≤ (limbs b).length) (hab : (limbs b).length ≤ (limbs a).length) (hl : (limbs a).length ≤ 8589934592) :
    Calls Tryz.prog 221 #[v, v2] w fun e w' => Below w.heap.size w w' ∧ ∃ q r, e = .returned (.tuple #[q, r, .bool true]) ∧ Limbs w' q (limbs (a / b)) ∧ Limbs w' r (limbs (a % b)) := by
  obtain ⟨n, hnn⟩ : ∃ n, n = (limbs b).length := ⟨_, rfl⟩
  obtain ⟨la, hla⟩ : ∃ la, la = (limbs a).length := ⟨_, rfl⟩
  obtain ⟨u, hu⟩ : ∃ u, u = 32 - blen ((limbs b).getD (n - 1) 0) := ⟨_, rfl⟩
  obtain ⟨Y, hY⟩ : ∃ Y, Y = shL u 0 (limbs b ++ [0]) := ⟨_, rfl⟩
  obtain ⟨X0, hX0⟩ : ∃ X0, X0 = shL u 0 (limbs a ++ [0]) := ⟨_, rfl⟩
  have hu31 := (norm_facts b n u hnn (by omega) hu).1
  have HYF := Lib.hid (div_facts b n u hnn (by omega) hu Y hY)
  have HXF := Lib.hid (start_facts a b n u hnn (by omega) hu (by omega) X0 hX0)
  rw [← hla] at HXF
  have HM1 : Hid (∀ w, Limbs w v (limbs a) → Calls Tryz.prog 239 #[v, .int .i64 (u : Int)] w fun e w' => Below w.heap.size w w' ∧ ∃ g cap, e = .returned (.slice (some ⟨g, 0, none⟩) (la + 1) cap) ∧ w.heap.size ≤ g ∧ la + 1 ≤ cap ∧ cap ≤ 9223372036854775807 ∧ RowU w' g X0) := Lib.hid (fun w h => by
    rw [hX0, hla]; exact moved_any w v (limbs a) u h (by omega) (by omega))
  have HM2 : Hid (∀ w, Limbs w v2 (limbs b) → Calls Tryz.prog 239 #[v2, .int .i64 (u : Int)] w fun e w' => Below w.heap.size w w' ∧ ∃ g cap, e = .returned (.slice (some ⟨g, 0, none⟩) (n + 1) cap) ∧ w.heap.size ≤ g ∧ n + 1 ≤ cap ∧ cap ≤ 9223372036854775807 ∧ RowU w' g Y) := Lib.hid (fun w h => by
    rw [hY, hnn]; exact moved_any w v2 (limbs b) u h (by omega) (by omega))
  rw [← hnn] at hn hab
  rw [← hla] at hab hl
  obtain ⟨_, ⟨_, hy⟩ | ⟨bk2, of2, c2, rfl, h21, h22, h23, h24⟩⟩ := id h2
  · rw [hy] at hnn; simp at hnn; omega
  obtain ⟨b1, c1, rfl⟩ := h.slice
  have htop := h24 (n - 1) (by omega)
  have HLZ := Lib.hid (fun w => lz_any w ((limbs b).getD (n - 1) 0) (getD_fit (fit_limbs b) (n - 1) (by omega)))
  rw [← hu] at HLZ
  have HA := Lib.hid h
  have HB := Lib.hid h2
  rw [← hla, ← hnn] at *
  clear h h2 h24 hY hX0 hla hnn
  generalize (limbs b).getD (n - 1) 0 = bt at htop HLZ
  clear hu
  obtain ⟨m1, hm1⟩ : ∃ m1, m1 = n - 1 := ⟨_, rfl⟩
  rw [← hm1] at htop
  have g1 : IntKind.i64.wrap ((n : Int) - 1) = (m1 : Int) := by rw [IntWalk.i64_in _ (by omega)]; omega
  have g2 : (m1 : Int) < (n : Int) := by omega
  have HM := Lib.hid hm1
  clear hm1
  go_enter Tryz.func221, Tryz.ntmps221
  go_wp2
  go_step3
  go_wp2_with fail
  refine (HLZ.out w).mono ?_
  rintro e w2 ⟨rfl, rfl⟩
  clear htop HLZ
  go_wp2_with fail
  refine (HM1.out w2 HA.out).mono ?_
  rintro e w3 ⟨hb3, gx, cx, rfl, hgx, hcx, hcx2, hrx⟩
  have HB3 := Lib.hid hb3
  have HRX := Lib.hid hrx
  have hgx3 := hrx.lt
  have HM2' := Lib.hid (HM2.out w3 (HB.out.below hb3))
  clear hb3 hrx HM1 HM2
  go_wp2_with fail
  refine HM2'.out.mono ?_
  rintro e w4 ⟨hb4, gy, cy, rfl, hgy, hcy, hcy2, hry⟩
  have HB4 := Lib.hid (HB3.out.trans (hb4.mono HB3.out.size))
  have HRX4 := Lib.hid (HRX.out.below hb4 hgx3)
  have HRY4 := Lib.hid hry
  have HNE : Hid (gy ≠ gx ∧ w2.heap.size ≤ gx ∧ w2.heap.size ≤ gy) := Lib.hid (by have := HB3.out.size; omega)
  have hgx4 := HRX4.out.lt
  have hgy4 := HRY4.out.lt
  clear hb4 hry HRX HB3 HM2'
  obtain ⟨N, hN⟩ : ∃ N, N = la + 1 - n := ⟨_, rfl⟩
  obtain ⟨m2, hm2⟩ : ∃ m2, m2 = n - 2 := ⟨_, rfl⟩
  have gN : IntKind.i64.wrap ((la : Int) + 1 - (n : Int)) = (N : Int) := by rw [IntWalk.i64_in _ (by omega)]; omega
  have hmk := make_nat w4 N (by omega)
  have hB := Blk.new w4 (uCells (List.replicate N 0)) 140
  have hb : Below w4.heap.size w4 (w4.alloc (.cells (uCells (List.replicate N 0)) 140)) := (Below.refl _ _).alloc (Nat.le_refl _) _
  have hNb : N ≤ 8589934592 := by omega
  have HN := Lib.hid hN
  have HM2 := Lib.hid hm2
  have gs : n ≤ cy := by omega
  have gs2 : (n : Int) ≤ (cy : Int) := by omega
  have hm2n : IntKind.i64.wrap ((n : Int) - 2) = (m2 : Int) := by rw [IntWalk.i64_in _ (by omega)]; omega
  have hm2l : (m2 : Int) < (n : Int) := by omega
  clear hN hm2
  go_wp2
  clear hmk
  generalize w4.alloc (.cells (uCells (List.replicate N 0)) 140) = w5 at hB hb ⊢
  obtain ⟨hYl, hYf, hYv, hY1, hYb⟩ := HYF.out
  have HX5 := Lib.hid (HRX4.out.below hb hgx4)
  have HY5 := Lib.hid (HRY4.out.below hb hgy4)
  have HB5 := Lib.hid (HB4.out.trans (hb.mono HB4.out.size))
  have HQ5 := Lib.hid hB
  have HQN : Hid (w4.heap.size ≠ gx ∧ w4.heap.size ≠ gy ∧ w2.heap.size ≤ w4.heap.size) := Lib.hid (by have := HB4.out.size; omega)
  generalize w4.heap.size = gq at HQ5 HQN ⊢
  have hc1 : w5.cell? ⟨gy, m1, none⟩ = some (.int .u32 ((Y.getD m1 0 : Nat) : Int)) := HY5.out.cell m1 (by omega)
  have hc2 : w5.cell? ⟨gy, m2, none⟩ = some (.int .u32 ((Y.getD m2 0 : Nat) : Int)) := HY5.out.cell m2 (by omega)
  have hv1 := getD_fit hYf m1 (by omega)
  have hv2 := getD_fit hYf m2 (by omega)
  rw [← HM.out] at hY1
  obtain ⟨V1, hV1⟩ : ∃ V1, V1 = Y.getD m1 0 := ⟨_, rfl⟩
  obtain ⟨V2, hV2⟩ : ∃ V2, V2 = Y.getD m2 0 := ⟨_, rfl⟩
  have HV := Lib.hid (And.intro hV1 hV2)
  rw [← hV1] at hc1 hv1 hY1
  rw [← hV2] at hc2 hv2
  have q1 : IntKind.u64.wrap (V1 : Int) = (V1 : Int) := by rw [IntKind.wrap_u64]; omega
  have q2 : IntKind.u64.wrap (V2 : Int) = (V2 : Int) := by rw [IntKind.wrap_u64]; omega
  clear hB hb HRX4 HRY4 HB4 hgx4 hgy4 hV1 hV2 hYl hYf hYv hYb
  go_quiet (fail)
  have HX6 := Lib.hid (HX5.out.drewN nq)
  have HY6 := Lib.hid (HY5.out.drewN nq)
  have HB6 := Lib.hid (below_drewN HB5.out nq)
  have HQ6 := Lib.hid (HQ5.out.drewN nq)
  clear hc1 hc2 HX5 HY5 HB5 HQ5
  generalize w5.drewN nq = w6 at HX6 HY6 HB6 HQ6 ⊢
  have gN1 : IntKind.i64.wrap ((N : Int) - 1) = (N : Int) - 1 := IntWalk.i64_in _ (by omega)
  go_wp2
  go_step3
  go_wp2
  go_loopw [13] (fun jv wr => ∃ (t : Nat) (X R : List Nat), t ≤ N ∧ jv = .int .i64 ((t : Int) - 1) ∧ Hid (LongI (2 ^ u * a) (2 ^ u * b) n (la + 1) X R t) ∧ Hid (RowU wr gx X) ∧ Hid (RowU wr gy Y) ∧ Hid (Blk wr gq (uCells (List.replicate t 0 ++ R)) 140) ∧ Hid (Below w2.heap.size w2 wr)) (fun jv _ => (intOf jv + 1).toNat)
  case atStart => exact ⟨N, X0, [], Nat.le_refl _, rfl, Lib.hid (by rw [HN.out]; exact HXF.out), HX6, HY6, Lib.hid (by rw [List.append_nil]; exact HQ6.out), HB6⟩
  case round =>
    clear HX6 HY6 HB6 HQ6
    obtain ⟨t, X, R, ht, rfl, HI, HX, HY, HQ, HW⟩ := hrel
    rcases Nat.eq_zero_or_pos t with h0 | h0
    · subst h0
      have hXl := HI.out.len
      have hrl : Limbs wr (.slice (some ⟨gx, 0, none⟩) n cx) ((X.drop 0).take n) := HX.out.limbs HI.out.fit 0 n cx (by omega) (by omega) hcx2
      have hRl := HI.out.lenR
      have hQl : Limbs wr (.slice (some ⟨gq, 0, none⟩) N N) (List.replicate 0 0 ++ R) := Blk.limbs HQ.out (n := N) (by rw [List.replicate_zero, List.nil_append]; exact HI.out.fitR) (by simp; have := HN.out; omega) (by omega)
      rw [List.replicate_zero, List.nil_append] at hQl
      have hR2 : R.length = N := by have := HN.out; omega
      have HQL := Lib.hid hQl
      have HDN := Lib.hid (HI.out.done)
      have hxt : val ((X.drop 0).take n) = val X := by
        have h1 := HI.out.lt
        rw [List.drop_zero] at h1 ⊢
        have h2 := val_split X n (by omega)
        have h3 := HYF.out.2.2.2.2
        rcases Nat.eq_zero_or_pos (val (X.drop n)) with h4 | h4
        · rw [h4] at h2; omega
        · exfalso
          have h5 : 4294967296 ^ n * 1 ≤ 4294967296 ^ n * val (X.drop n) := Nat.mul_le_mul_left _ h4
          omega
      have hsh := shr_any wr _ _ u hrl (by simp; omega) (by omega)
      rw [hxt, HDN.out.2] at hsh
      have HSH := Lib.hid hsh
      have HRF := Lib.hid HI.out.fitR
      have gn0 : (n : Int) ≤ (cx : Int) := by omega
      have gn1 : n ≤ cx := by omega
      clear hsh hxt hrl hQl hRl hXl HQ HX HY HI
      go_wp2_with fail
      refine HSH.out.mono ?_
      rintro e w7 ⟨hb7, r7, more, rfl, hr7⟩
      have HW7 := Lib.hid (HW.out.trans (hb7.mono HW.out.size))
      have HR7 := Lib.hid hr7
      have HNM := Lib.hid (norm_any w7 _ _ (HQL.out.below hb7) (by omega))
      rw [trim_eq HRF.out, HDN.out.1] at HNM
      clear hb7 hr7 HSH HQL
      go_wp2_with fail
      refine HNM.out.mono ?_
      rintro e w8 ⟨hb8, q8, rfl, hq8, -⟩
      have HW8 := Lib.hid (HW7.out.trans (hb8.mono HW7.out.size))
      have HR8 := Lib.hid (HR7.out.below hb8)
      have HQ8 := Lib.hid hq8
      clear hb8 hq8 HNM HR7 HW7
      go_wp2
      try rw [Exit.noGoto_ret]
      refine bodyPost_ret (v := .tuple #[q8, r7, .bool true]) (by simp [results, Tryz.results221, go_sem]) rfl ⟨HW8.out, _, _, rfl, HQ8.out, HR8.out⟩
    · obtain ⟨j, rfl⟩ : ∃ j, t = j + 1 := ⟨t - 1, by omega⟩
      rw [show ((j + 1 : Nat) : Int) - 1 = (j : Int) by omega]
      obtain ⟨hYl, hYf, hYv, hY1, hYb⟩ := HYF.out
      have hXl := HI.out.len
      obtain ⟨hw1, hw2, hw3⟩ := HI.out.window hYb
      obtain ⟨s, hs⟩ : ∃ s, s = j + n := ⟨_, rfl⟩
      obtain ⟨s1, hs1⟩ : ∃ s1, s1 = j + m1 := ⟨_, rfl⟩
      obtain ⟨s2, hs2⟩ : ∃ s2, s2 = j + m2 := ⟨_, rfl⟩
      have hm1 := HM.out
      have hm2 := HM2.out
      have hN := HN.out
      have hk := kn_lists X Y j m2 HI.out.fit hYf (by omega) (by omega) (by rw [show m2 + 1 = m1 by omega, hm1]; exact hY1) (by rw [show m2 + 2 = n by omega, show m2 + 3 = n + 1 by omega, hYv]; exact hw2)
      rw [show m2 + 1 = m1 by omega, show m2 + 2 = n by omega, show m2 + 3 = n + 1 by omega, ← hs, ← hs1, ← hs2, hYv, ← HV.out.1, ← HV.out.2] at hk
      have hd0 : wr.cell? ⟨gx, s, none⟩ = some (.int .u32 ((X.getD s 0 : Nat) : Int)) := HX.out.cell s (by omega)
      have hd1 : wr.cell? ⟨gx, s1, none⟩ = some (.int .u32 ((X.getD s1 0 : Nat) : Int)) := HX.out.cell s1 (by omega)
      have hd2 : wr.cell? ⟨gx, s2, none⟩ = some (.int .u32 ((X.getD s2 0 : Nat) : Int)) := HX.out.cell s2 (by omega)
      have gs0 : IntKind.i64.wrap ((j : Int) + (n : Int)) = (s : Int) := by rw [IntWalk.i64_in _ (by omega)]; omega
      have gs1 : IntKind.i64.wrap ((s : Int) - 1) = (s1 : Int) := by rw [IntWalk.i64_in _ (by omega)]; omega
      have gs2' : IntKind.i64.wrap ((s : Int) - 2) = (s2 : Int) := by rw [IntWalk.i64_in _ (by omega)]; omega
      have gs3 : IntKind.i64.wrap ((s : Int) + 1) = (s : Int) + 1 := IntWalk.i64_in _ (by omega)
      have gl0 : (s : Int) < (la : Int) + 1 := by omega
      have gl1 : (s1 : Int) < (la : Int) + 1 := by omega
      have gl2 : (s2 : Int) < (la : Int) + 1 := by omega
      have gj : (j : Int) < (N : Int) := by omega
      have gj2 : (j : Int) ≤ (s : Int) + 1 := by omega
      have hw0l := hk.w0l
      have hw1l := hk.w1l
      have hw2l := hk.w2l
      generalize X.getD s 0 = x0 at hk hd0 hw0l
      generalize X.getD s1 0 = x1 at hk hd1 hw1l
      generalize X.getD s2 0 = x2 at hk hd2 hw2l
      obtain ⟨top, htop⟩ : ∃ top, top = x0 * 4294967296 + x1 := ⟨_, rfl⟩
      rw [← htop] at hk
      have q3 : IntKind.u64.wrap (x0 : Int) = (x0 : Int) := by rw [IntKind.wrap_u64]; omega
      have q4 : IntKind.u64.wrap (x1 : Int) = (x1 : Int) := by rw [IntKind.wrap_u64]; omega
      have q5 : IntKind.u64.wrap (x2 : Int) = (x2 : Int) := by rw [IntKind.wrap_u64]; omega
      have q6 := or_u64_hi x0 x1 hw0l hw1l
      rw [show ((x0 * 4294967296 : Nat) : Int) = (x0 : Int) * 4294967296 by simp, ← htop] at q6
      have htop2 : top < 18446744073709551616 := by omega
      obtain ⟨g0, hg0⟩ : ∃ g0, g0 = top / V1 := ⟨_, rfl⟩
      obtain ⟨r0, hr0⟩ : ∃ r0, r0 = top % V1 := ⟨_, rfl⟩
      have hg0l := hk.guess_lt
      have hgq := hk.guess0
      have hdm := Nat.div_add_mod top V1
      have hrl0 := Nat.mod_lt top (show V1 > 0 by omega)
      rw [← hg0] at hg0l hgq
      rw [← hg0, ← hr0, Nat.mul_comm] at hdm
      rw [← hr0] at hrl0
      have q7 : (top : Int).tdiv (V1 : Int) = (g0 : Int) := by rw [Int.tdiv_eq_ediv_of_nonneg (by omega), hg0]; simp
      have q8 : (top : Int).tmod (V1 : Int) = (r0 : Int) := by rw [Int.tmod_eq_emod_of_nonneg (by omega), hr0]; simp
      have q9 : IntKind.u64.wrap (g0 : Int) = (g0 : Int) := by rw [IntKind.wrap_u64]; omega
      have q10 : ((V1 : Int) != 0) = true := by rw [bne_iff_ne]; omega
      have q11 : ((V1 : Int) == 0) = false := beq_eq_false_iff_ne.2 (by omega)
      have HK := Lib.hid hk
      have HG0 := Lib.hid (And.intro hdm hgq)
      have HS := Lib.hid (And.intro hs (And.intro hw1 hw2))
      clear hk hdm hgq hg0 hr0 htop hs hs1 hs2 hm1 hm2 hN hw1 hw2 hw3 hYl hYf hYv hY1 hYb hXl
      go_upto_region 10 with fail
      go_quiet (fail)
      have HX7 := Lib.hid (HX.out.drewN nq)
      have HY7 := Lib.hid (HY.out.drewN nq)
      have HQ7 := Lib.hid (HQ.out.drewN nq)
      have HW7 := Lib.hid (below_drewN HW.out nq)
      have he2 : (wr.drewN nq).cell? ⟨gx, s2, none⟩ = some (.int .u32 (x2 : Int)) := hd2
      clear hd0 hd1 hd2 HX HY HQ HW
      generalize wr.drewN nq = w7 at HX7 HY7 HQ7 HW7 he2 ⊢
      go_upto_region 11 with fail
      go_quiet (fail)
      have HX8 := Lib.hid (HX7.out.drewN nq)
      have HY8 := Lib.hid (HY7.out.drewN nq)
      have HQ8 := Lib.hid (HQ7.out.drewN nq)
      have HW8 := Lib.hid (below_drewN HW7.out nq)
      have hf2 : (w7.drewN nq).cell? ⟨gx, s2, none⟩ = some (.int .u32 (x2 : Int)) := he2
      clear he2 HX7 HY7 HQ7 HW7
      generalize w7.drewN nq = w8 at HX8 HY8 HQ8 HW8 hf2 ⊢
      go_upto_block 2 with fail
      go_cut [15, 16] from 57 to 137 (fun gv rv wx => ∃ g r : Nat, gv = .int .u64 (g : Int) ∧ rv = .int .u64 (r : Int) ∧ g < 4294967296 ∧ Hid (Good g (2 ^ u * b) (val ((X.drop j).take (n + 1)))) ∧ wx = w8)
      case first =>
        go_wp2_with fail
        go_loopw [15, 16] (fun gv rv wr => ∃ g r : Nat, gv = .int .u64 (g : Int) ∧ rv = .int .u64 (r : Int) ∧ g < 8589934592 ∧ r < 4294967296 ∧ Hid (g * V1 + r = top ∧ val ((X.drop j).take (n + 1)) < (g + 1) * (2 ^ u * b)) ∧ wr = w8) (fun gv _ _ => (intOf gv).toNat)
        case atStart => exact ⟨g0, r0, rfl, rfl, hg0l, by omega, HG0, rfl⟩
        case round =>
          obtain ⟨g, r, rfl, rfl, hgl, hrl, HGR, rfl⟩ := hrel
          have hgI : (g : Int) < 8589934592 := by omega
          have hrI : (r : Int) < 4294967296 := by omega
          by_cases ha : 4294967296 ≤ g
          · have hT := HK.out.too_big g ha
            have haI : (4294967296 : Int) ≤ (g : Int) := by omega
            obtain ⟨g1, hg1⟩ : ∃ g1, g1 = g - 1 := ⟨_, rfl⟩
            obtain ⟨rn, hrn⟩ : ∃ rn, rn = r + V1 := ⟨_, rfl⟩
            have hg0 : 1 ≤ g := by
              rcases Nat.eq_zero_or_pos g with h | h
              · subst h; simp at hT
              · exact h
            have qd : IntKind.u64.wrap ((g : Int) - 1) = (g1 : Int) := by rw [IntKind.wrap_u64]; omega
            have qr : IntKind.u64.wrap ((r : Int) + (V1 : Int)) = (rn : Int) := by rw [IntKind.wrap_u64]; omega
            have HN1 : Hid (g1 * V1 + rn = top ∧ val ((X.drop j).take (n + 1)) < (g1 + 1) * (2 ^ u * b)) := Lib.hid (by
              have h1 := HGR.out.1
              refine ⟨?_, by rw [show g1 + 1 = g by omega]; exact hT⟩
              obtain ⟨k, rfl⟩ : ∃ k, g = k + 1 := ⟨g - 1, by omega⟩
              rw [show g1 = k by omega, hrn, ← h1, Nat.add_mul, Nat.one_mul]
              omega)
            have hgm : g1 < g := by omega
            have hg1l : g1 < 8589934592 := by omega
            have hgmI : (g1 : Int) < (g : Int) := by omega
            clear hT hg1 hrn hg0
            by_cases hb : 4294967296 ≤ rn
            · have hbI : (4294967296 : Int) ≤ (rn : Int) := by omega
              have HGD := Lib.hid (HK.out.stop g1 rn HN1.out.1 hb HN1.out.2)
              have hgs := HGD.out.1
              go_wp2
              go_meet
              exact ⟨g1, rn, rfl, rfl, hgs, HGD, rfl⟩
            · have hbI : ¬ (4294967296 : Int) ≤ (rn : Int) := by omega
              go_wp2
              go_roundw
              case rel => exact ⟨g1, rn, rfl, rfl, hg1l, by omega, HN1, trivial⟩
              case measure => simp [intOf]; omega
          · have haI : ¬ (4294967296 : Int) ≤ (g : Int) := by omega
            obtain ⟨P, hP⟩ : ∃ P, P = g * V2 := ⟨_, rfl⟩
            have hP2 : P ≤ 4294967295 * 4294967295 := by rw [hP]; exact Nat.mul_le_mul (by omega) (by omega)
            have qp : IntKind.u64.wrap ((g : Int) * (V2 : Int)) = (P : Int) := by
              rw [show (g : Int) * (V2 : Int) = (P : Int) by rw [hP]; simp, IntKind.wrap_u64]; omega
            have qe := or_u64_hi r x2 hrl hw2l
            rw [show ((r * 4294967296 : Nat) : Int) = (r : Int) * 4294967296 by simp] at qe
            obtain ⟨E, hE⟩ : ∃ E, E = r * 4294967296 + x2 := ⟨_, rfl⟩
            rw [← hE] at qe
            by_cases hc : E < P
            · have hcI : (E : Int) < (P : Int) := by omega
              have hT := HK.out.too_much g r HGR.out.1 (by rw [← hE, ← hP]; exact hc)
              clear hP hP2 hE
              obtain ⟨g1, hg1⟩ : ∃ g1, g1 = g - 1 := ⟨_, rfl⟩
              obtain ⟨rn, hrn⟩ : ∃ rn, rn = r + V1 := ⟨_, rfl⟩
              have hg0 : 1 ≤ g := by
                rcases Nat.eq_zero_or_pos g with h | h
                · subst h; simp at hT
                · exact h
              have qd : IntKind.u64.wrap ((g : Int) - 1) = (g1 : Int) := by rw [IntKind.wrap_u64]; omega
              have qr : IntKind.u64.wrap ((r : Int) + (V1 : Int)) = (rn : Int) := by rw [IntKind.wrap_u64]; omega
              have HN1 : Hid (g1 * V1 + rn = top ∧ val ((X.drop j).take (n + 1)) < (g1 + 1) * (2 ^ u * b)) := Lib.hid (by
                have h1 := HGR.out.1
                refine ⟨?_, by rw [show g1 + 1 = g by omega]; exact hT⟩
                obtain ⟨k, rfl⟩ : ∃ k, g = k + 1 := ⟨g - 1, by omega⟩
                rw [show g1 = k by omega, hrn, ← h1, Nat.add_mul, Nat.one_mul]
                omega)
              have hgm : g1 < g := by omega
              have hg1l : g1 < 8589934592 := by omega
              have hgmI : (g1 : Int) < (g : Int) := by omega
              clear hT hg1 hrn hg0
              by_cases hb : 4294967296 ≤ rn
              · have hbI : (4294967296 : Int) ≤ (rn : Int) := by omega
                have HGD := Lib.hid (HK.out.stop g1 rn HN1.out.1 hb HN1.out.2)
                have hgs := HGD.out.1
                go_wp2
                go_meet
                exact ⟨g1, rn, rfl, rfl, hgs, HGD, rfl⟩
              · have hbI : ¬ (4294967296 : Int) ≤ (rn : Int) := by omega
                go_wp2
                go_roundw
                case rel => exact ⟨g1, rn, rfl, rfl, hg1l, by omega, HN1, trivial⟩
                case measure => simp [intOf]; omega
            · have hcI : ¬ (E : Int) < (P : Int) := by omega
              have HGD := Lib.hid (HK.out.good g r HGR.out.1 (by omega) (by rw [← hE, ← hP]; omega) HGR.out.2)
              have hgs := HGD.out.1
              clear hP hP2 hE
              go_wp2
              go_meet
              exact ⟨g, r, rfl, rfl, hgs, HGD, rfl⟩
      case rest =>
        obtain ⟨g, r, rfl, rfl, hgl, HGD, rfl⟩ := hcut
        clear q3 q4 q5 q6 q7 q8 q9 hf2 HG0 hg0l hrl0 htop2 hw0l hw1l hw2l
        have hYb := HYF.out.2.2.2.2
        by_cases h0 : g = 0
        · subst h0
          have HI9 := Lib.hid (HI.out.zero hYb (by have := HGD.out.2.1; rw [Nat.zero_add, Nat.one_mul] at this; exact this))
          have HQ9 : Hid (Blk wc gq (uCells (List.replicate j 0 ++ (0 :: R))) 140) := Lib.hid (by
            have := HQ8.out
            rw [List.replicate_succ', List.append_assoc] at this
            exact this)
          go_wp2
          go_roundw
          case rel => exact ⟨j, X, 0 :: R, by omega, rfl, HI9, HX8, HY8, HQ9, HW8⟩
          case measure => simp [intOf]
        · have hg0I : ((g : Int) == 0) = false := beq_eq_false_iff_ne.2 (by omega)
          obtain ⟨g1, hg1⟩ : ∃ g1, g1 = g - 1 := ⟨_, rfl⟩
          have hgI : IntKind.u64.wrap ((g : Int) - 1) = (g1 : Int) := by rw [IntKind.wrap_u64]; omega
          have hcj : ¬ cx = j := by have := HN.out; omega
          have hs9 := HS.out.1
          have hsl : (s : Int) + 1 ≤ (cx : Int) := by have := HN.out; omega
          have hsj : s + 1 - j = n + 1 := by omega
          have hXl := HI.out.len
          have hYl := HYF.out.1
          have hNo := HN.out
          have HBL := Lib.hid (below_any wc gx gy j n g (cx - j) cy X Y HX8.out HY8.out HNE.out.1 HI.out.fit HYF.out.2.1 (by omega) (by omega) (by omega) hgl)
          have qg : IntKind.u32.wrap (g : Int) = (g : Int) := by rw [IntKind.wrap_u32]; omega
          have qg2 : (g : Int) % 4294967296 = (g : Int) := by omega
          have qg3 : IntKind.u32.wrap (g1 : Int) = (g1 : Int) := by rw [IntKind.wrap_u32]; omega
          have qg4 : (g1 : Int) % 4294967296 = (g1 : Int) := by omega
          have HG1 := Lib.hid hg1
          have HXL := Lib.hid hXl
          have HYL := Lib.hid hYl
          have HJN : Hid (j + n + 1 ≤ la + 1) := Lib.hid (by omega)
          clear hs9 hXl hYl hNo hg1
          go_wp2_with fail
          refine HBL.out.mono ?_
          rintro e w9 ⟨Z, bo, hbo, rfl, hZl, hZf, hZv, hX9, hE9⟩
          have hltx := HX8.out.lt
          have hlty := HY8.out.lt
          have hltq := HQ8.out.lt
          have HX9 := Lib.hid hX9
          have HY9 := Lib.hid (HY8.out.ex hE9 hlty HNE.out.1)
          have HQ9 := Lib.hid (hE9.blk HQ8.out hltq HQN.out.1)
          have HW9 := Lib.hid (HW8.out.trans (hE9.below HW8.out.size (fun k hk => by subst hk; exact HNE.out.2.1)))
          have HZ := Lib.hid (And.intro hZl (And.intro hZf hZv))
          clear hltx hlty hltq hX9 hE9 hZl hZf hZv HBL
          rcases (by omega : bo = 0 ∨ bo = 1) with rfl | rfl
          · have hb0 : ((0 : Nat) == 1) = false := rfl
            have HDF := Lib.hid (digit_fits HGD.out (by rw [← HYF.out.2.2.1]; rw [HYF.out.2.2.1]; have := HZ.out.2.2; rw [HYF.out.2.2.1] at this; exact this))
            have HI9 := Lib.hid (HI.out.step hYb HZ.out.1 HZ.out.2.1 hgl HDF.out.1 HDF.out.2)
            have f9 : w9.frozen? ⟨gq, j, none⟩ = false := HQ9.out.free j
            have e9 : w9.cell? ⟨gq, j, none⟩ = some (.int .u32 (((List.replicate (j + 1) 0 ++ R).getD j 0 : Nat) : Int)) := by rw [HQ9.out.cell, uCells_at _ _ (by simp; omega)]
            generalize ((List.replicate (j + 1) 0 ++ R).getD j 0 : Nat) = q0 at e9
            have hQs := HQ9.out.set j (.int .u32 (g : Int))
            rw [uCells_set, set_rep] at hQs
            have HQs := Lib.hid hQs
            have HXs : Hid (RowU (w9.setCell ⟨gq, j, none⟩ (.int .u32 (g : Int))) gx (win X Z j)) := Lib.hid (by
              obtain ⟨ex, hh⟩ := HX9.out
              exact ⟨ex, hh.set_other _ _ (by have := HQN.out; simp; omega)⟩)
            have HYs : Hid (RowU (w9.setCell ⟨gq, j, none⟩ (.int .u32 (g : Int))) gy Y) := Lib.hid (by
              obtain ⟨ex, hh⟩ := HY9.out
              exact ⟨ex, hh.set_other _ _ (by have := HQN.out; simp; omega)⟩)
            have HWs := Lib.hid (HW9.out.setCell (p := ⟨gq, j, none⟩) HQN.out.2.2 (.int .u32 (g : Int)))
            clear hQs
            go_wp2
            go_roundw
            case rel => exact ⟨j, _, _, by omega, rfl, HI9, HXs, HYs, HQs, HWs⟩
            case measure => simp [intOf]
          · have hb1 : ((1 : Nat) == 1) = true := rfl
            have HBK := Lib.hid (back_any w9 gx gy j n (cx - j) cy (win X Z j) Y HX9.out HY9.out HNE.out.1 (fit_win HI.out.fit HZ.out.2.1 j) HYF.out.2.1 (by rw [win_length X Z j (by rw [HZ.out.1, HXL.out]; have := HJN.out; omega), HXL.out]; exact HJN.out) (by rw [HYL.out]; omega) (by rw [win_length X Z j (by rw [HZ.out.1, HXL.out]; have := HJN.out; omega), HXL.out]; omega))
            go_wp2_with fail
            refine HBK.out.mono ?_
            rintro e wd ⟨rfl, Z2, co, hZ2l, hZ2f, hZ2v, hXd, hEd⟩
            rw [win_win X Z Z2 j (by rw [HZ.out.1, HXL.out]; have := HJN.out; omega) (by rw [hZ2l, HZ.out.1])] at hXd
            have hwt := win_take X Z j (by rw [HXL.out]; have := HJN.out; omega)
            rw [HZ.out.1] at hwt
            rw [hwt] at hZ2v
            have hltx := HX9.out.lt
            have hlty := HY9.out.lt
            have hltq := HQ9.out.lt
            have HXd := Lib.hid hXd
            have HYd := Lib.hid (HY9.out.ex hEd hlty HNE.out.1)
            have HQd := Lib.hid (hEd.blk HQ9.out hltq HQN.out.1)
            have HWd := Lib.hid (HW9.out.trans (hEd.below HW9.out.size (fun k hk => by subst hk; exact HNE.out.2.1)))
            have HZ2 := Lib.hid (And.intro hZ2l (And.intro hZ2f hZ2v))
            clear hltx hlty hltq hXd hEd hZ2l hZ2f hZ2v HBK hwt HX9 HY9 HQ9 HW9
            have HDB : Hid (1 ≤ g ∧ val ((X.drop j).take (n + 1)) = (g - 1) * (2 ^ u * b) + val Z2 ∧ val Z2 < 2 ^ u * b) := Lib.hid (by
              have e1 := HZ.out.2.2
              rw [HYF.out.2.2.1] at e1
              have e2 := HZ2.out.2.2
              rw [HYF.out.2.2.1] at e2
              have l1 := val_lt HZ.out.2.1
              have l2 := val_lt HZ2.out.2.1
              rw [HZ.out.1] at l1
              rw [HZ2.out.1] at l2
              have hE : 2 ^ u * b ≤ 4294967296 ^ (n + 1) := Nat.le_trans (Nat.le_of_lt hYb) (Nat.pow_le_pow_right (by omega) (by omega))
              exact digit_back HGD.out l1 e1 l2 hE e2)
            rw [← HG1.out] at HDB
            have hg1l : g1 < 4294967296 := by have := HG1.out; omega
            have HI9 := Lib.hid (HI.out.step hYb HZ2.out.1 HZ2.out.2.1 hg1l HDB.out.2.1 HDB.out.2.2)
            have f9 : wd.frozen? ⟨gq, j, none⟩ = false := HQd.out.free j
            have e9 : wd.cell? ⟨gq, j, none⟩ = some (.int .u32 (((List.replicate (j + 1) 0 ++ R).getD j 0 : Nat) : Int)) := by rw [HQd.out.cell, uCells_at _ _ (by simp; omega)]
            generalize ((List.replicate (j + 1) 0 ++ R).getD j 0 : Nat) = q0 at e9
            have hQs := HQd.out.set j (.int .u32 (g1 : Int))
            rw [uCells_set, set_rep] at hQs
            have HQs := Lib.hid hQs
            have HXs : Hid (RowU (wd.setCell ⟨gq, j, none⟩ (.int .u32 (g1 : Int))) gx (win X Z2 j)) := Lib.hid (by
              obtain ⟨ex, hh⟩ := HXd.out
              exact ⟨ex, hh.set_other _ _ (by have := HQN.out; simp; omega)⟩)
            have HYs : Hid (RowU (wd.setCell ⟨gq, j, none⟩ (.int .u32 (g1 : Int))) gy Y) := Lib.hid (by
              obtain ⟨ex, hh⟩ := HYd.out
              exact ⟨ex, hh.set_other _ _ (by have := HQN.out; simp; omega)⟩)
            have HWs := Lib.hid (HWd.out.setCell (p := ⟨gq, j, none⟩) HQN.out.2.2 (.int .u32 (g1 : Int)))
            clear hQs
            go_wp2
            go_roundw
            case rel => exact ⟨j, _, _, by omega, rfl, HI9, HXs, HYs, HQs, HWs⟩
            case measure => simp [intOf]
end Go.Proofs.YtbhfoelnoddlkaaGreatDoor.D

