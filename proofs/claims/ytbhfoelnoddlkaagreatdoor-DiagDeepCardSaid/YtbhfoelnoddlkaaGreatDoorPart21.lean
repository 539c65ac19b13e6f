/-
  Of the proof that the law DiagDeep answers true at every row of bytes: a part, without conditions of its own.
-/
import Derived.Test.YtbhfoelnoddlkaaGreatDoorPart20
set_option linter.unusedVariables false
set_option linter.unusedSimpArgs false
/-
  cmp.Compare of two whole numbers, nat.Cmp: walked.
-/
namespace Go.Proofs.YtbhfoelnoddlkaaGreatDoor.D
open Go Go.RowKit Limb

def cmpI (x y : Nat) : Int := if x < y then -1 else if y < x then 1 else 0
set_option maxRecDepth 100000 in
theorem nan_int (w : World) (x : Int) : Calls Tryz.prog 248 #[.int .i64 x] w fun e w' => w' = w ∧ e = .returned (.bool false) := by
  go_enter Tryz.func248, Tryz.ntmps248
  go_wp2
  go_ret
  exact ⟨rfl, rfl⟩
set_option maxRecDepth 100000 in
theorem nan_u32 (w : World) (x : Int) : Calls Tryz.prog 249 #[.int .u32 x] w fun e w' => w' = w ∧ e = .returned (.bool false) := by
  go_enter Tryz.func249, Tryz.ntmps249
  go_wp2
  go_ret
  exact ⟨rfl, rfl⟩
set_option maxRecDepth 100000 in
theorem compare_int (w : World) (x y : Nat) : Calls Tryz.prog 229 #[.int .i64 (x : Int), .int .i64 (y : Int)] w fun e w' => w' = w ∧ e = .returned (.int .i64 (cmpI x y)) := by
  rcases Nat.lt_trichotomy x y with h | h | h
  · have g : (x : Int) < (y : Int) := by omega
    rw [show cmpI x y = -1 by simp [cmpI, h]]
    clear h
    generalize (x : Int) = X at *
    generalize (y : Int) = Y at *
    go_enter Tryz.func229, Tryz.ntmps229
    go_wp2_with fail
    refine (nan_int w X).mono ?_
    rintro e w1 ⟨rfl, rfl⟩
    go_wp2_with fail
    refine (nan_int w1 Y).mono ?_
    rintro e w2 ⟨rfl, rfl⟩
    go_wp2
    go_ret
    exact ⟨rfl, rfl⟩
  · subst h
    rw [show cmpI x x = 0 by simp [cmpI]]
    generalize (x : Int) = X at *
    have g : ¬ X < X := by omega
    go_enter Tryz.func229, Tryz.ntmps229
    go_wp2_with fail
    refine (nan_int w X).mono ?_
    rintro e w1 ⟨rfl, rfl⟩
    go_wp2_with fail
    refine (nan_int w1 X).mono ?_
    rintro e w2 ⟨rfl, rfl⟩
    go_wp2
    go_ret
    exact ⟨rfl, rfl⟩
  · have g : (y : Int) < (x : Int) := by omega
    have g2 : ¬ (x : Int) < (y : Int) := by omega
    rw [show cmpI x y = 1 by simp [cmpI, h]; omega]
    clear h
    generalize (x : Int) = X at *
    generalize (y : Int) = Y at *
    go_enter Tryz.func229, Tryz.ntmps229
    go_wp2_with fail
    refine (nan_int w X).mono ?_
    rintro e w1 ⟨rfl, rfl⟩
    go_wp2_with fail
    refine (nan_int w1 Y).mono ?_
    rintro e w2 ⟨rfl, rfl⟩
    go_wp2
    go_ret
    exact ⟨rfl, rfl⟩
set_option maxRecDepth 100000 in
theorem compare_u32 (w : World) (x y : Nat) : Calls Tryz.prog 230 #[.int .u32 (x : Int), .int .u32 (y : Int)] w fun e w' => w' = w ∧ e = .returned (.int .i64 (cmpI x y)) := by
  rcases Nat.lt_trichotomy x y with h | h | h
  · have g : (x : Int) < (y : Int) := by omega
    rw [show cmpI x y = -1 by simp [cmpI, h]]
    clear h
    generalize (x : Int) = X at *
    generalize (y : Int) = Y at *
    go_enter Tryz.func230, Tryz.ntmps230
    go_wp2_with fail
    refine (nan_u32 w X).mono ?_
    rintro e w1 ⟨rfl, rfl⟩
    go_wp2_with fail
    refine (nan_u32 w1 Y).mono ?_
    rintro e w2 ⟨rfl, rfl⟩
    go_wp2
    go_ret
    exact ⟨rfl, rfl⟩
  · subst h
    rw [show cmpI x x = 0 by simp [cmpI]]
    generalize (x : Int) = X at *
    have g : ¬ X < X := by omega
    go_enter Tryz.func230, Tryz.ntmps230
    go_wp2_with fail
    refine (nan_u32 w X).mono ?_
    rintro e w1 ⟨rfl, rfl⟩
    go_wp2_with fail
    refine (nan_u32 w1 X).mono ?_
    rintro e w2 ⟨rfl, rfl⟩
    go_wp2
    go_ret
    exact ⟨rfl, rfl⟩
  · have g : (y : Int) < (x : Int) := by omega
    have g2 : ¬ (x : Int) < (y : Int) := by omega
    rw [show cmpI x y = 1 by simp [cmpI, h]; omega]
    clear h
    generalize (x : Int) = X at *
    generalize (y : Int) = Y at *
    go_enter Tryz.func230, Tryz.ntmps230
    go_wp2_with fail
    refine (nan_u32 w X).mono ?_
    rintro e w1 ⟨rfl, rfl⟩
    go_wp2_with fail
    refine (nan_u32 w1 Y).mono ?_
    rintro e w2 ⟨rfl, rfl⟩
    go_wp2
    go_ret
    exact ⟨rfl, rfl⟩

theorem len_lt {x y : Nat} (h : (limbs x).length < (limbs y).length) : x < y := by
  have h1 := limbs_lt x
  have hy : y ≠ 0 := by rintro rfl; rw [limbs_zero] at h; simp at h
  have h2 := limbs_ge hy
  have h3 : 4294967296 ^ (limbs x).length ≤ 4294967296 ^ ((limbs y).length - 1) := Nat.pow_le_pow_right (by omega) (by omega)
  omega
theorem cmpI_len {x y n m : Nat} (hn : (limbs x).length = n) (hm : (limbs y).length = m) (h : n ≠ m) : cmpI n m = cmpI x y := by
  rcases Nat.lt_or_gt_of_ne h with h1 | h1
  · have := len_lt (x := x) (y := y) (by omega)
    simp [cmpI, h1, this]
  · have := len_lt (x := y) (y := x) (by omega)
    have h2 : ¬ n < m := by omega
    have h3 : ¬ x < y := by omega
    simp [cmpI, h1, this, h2, h3]
theorem cmpI_top {x y k : Nat} (h1 : k < (limbs x).length) (h2 : k < (limbs y).length) (hd : (limbs x).drop (k + 1) = (limbs y).drop (k + 1)) (h : (limbs x).getD k 0 ≠ (limbs y).getD k 0) : cmpI ((limbs x).getD k 0) ((limbs y).getD k 0) = cmpI x y := by
  rcases Nat.lt_or_gt_of_ne h with h3 | h3
  · have := val_lt_of_top (fit_limbs x) k h1 h2 hd h3
    rw [val_limbs, val_limbs] at this
    simp only [cmpI, if_pos h3, if_pos this]
  · have := val_lt_of_top (fit_limbs y) k h2 h1 hd.symm h3
    rw [val_limbs, val_limbs] at this
    have h4 : ¬ (limbs x).getD k 0 < (limbs y).getD k 0 := by omega
    have h5 : ¬ x < y := by omega
    simp only [cmpI, if_neg h4, if_neg h5, if_pos h3, if_pos this]

set_option maxRecDepth 100000 in
set_option maxHeartbeats 1000000 in
theorem cmp_any (w : World) (v v2 : Value) (a b : List Nat) (h : Limbs w v a) (h2 : Limbs w v2 b) (hl : a.length ≤ 34359738368) (hl2 : b.length ≤ 34359738368) :
    Calls Tryz.prog 202 #[v, v2] w fun e w' => e = .returned (.int .i64 (cmpI (val a) (val b))) ∧ Below w.heap.size w w' := by
  have HC1 := Lib.hid (cut_any w v a h)
  have HC2 := Lib.hid (cut_any w v2 b h2)
  rw [trim_eq h.fit] at HC1
  rw [trim_eq h2.fit] at HC2
  have hn1 : (limbs (val a)).length ≤ 34359738368 := by rw [← trim_eq h.fit, length_trim]; have := top_le a; omega
  have hm1 : (limbs (val b)).length ≤ 34359738368 := by rw [← trim_eq h2.fit, length_trim]; have := top_le b; omega
  clear h h2 hl hl2
  generalize val a = x at *
  generalize val b = y at *
  go_enter Tryz.func202, Tryz.ntmps202
  go_wp2_with fail
  refine HC1.out.mono ?_
  rintro r w1 ⟨rfl, u1, rfl, hu1⟩
  go_wp2_with fail
  refine HC2.out.mono ?_
  rintro r w2 ⟨rfl, u2, rfl, hu2⟩
  clear HC1 HC2
  obtain ⟨b1, c1, rfl⟩ := hu1.slice
  obtain ⟨b2, c2, rfl⟩ := hu2.slice
  have HU1 := Lib.hid hu1
  have HU2 := Lib.hid hu2
  clear hu1 hu2
  obtain ⟨n, hn⟩ : ∃ n, n = (limbs x).length := ⟨_, rfl⟩
  obtain ⟨m, hm⟩ : ∃ m, m = (limbs y).length := ⟨_, rfl⟩
  have HN := Lib.hid hn
  have HM := Lib.hid hm
  rw [← hn] at hn1 ⊢
  rw [← hm] at hm1 ⊢
  clear hn hm
  by_cases hnm : n = m
  · subst hnm
    have g0 : ((n : Int) != (n : Int)) = false := by simp
    have hb0 : Below w2.heap.size w2 w2 := Below.refl _ _
    have HB0 := Lib.hid hb0
    clear hb0
    go_upto_region 5 with fail
    go_loopw [5, 6, 23] (fun _ _ i wr => ∃ j : Nat, j ≤ n ∧ i = .int .i64 j ∧ Hid ((limbs x).drop (n - j) = (limbs y).drop (n - j)) ∧ Hid (Below w2.heap.size w2 wr)) (fun _ _ i _ => n - (intOf i).toNat)
    case atStart =>
      refine ⟨0, by omega, rfl, Lib.hid ?_, HB0⟩
      rw [Nat.sub_zero, List.drop_of_length_le (by rw [HN.out]; exact Nat.le_refl _), List.drop_of_length_le (by rw [HM.out]; exact Nat.le_refl _)]
    case round =>
      clear HB0
      obtain ⟨j, hj, rfl, HD, HX⟩ := hrel
      by_cases h1 : j < n
      · obtain ⟨k, hk⟩ : ∃ k, k = n - j - 1 := ⟨_, rfl⟩
        have hk1 : k < (limbs x).length := by have := HN.out; omega
        have hk2 : k < (limbs y).length := by have := HM.out; omega
        have hnk : n - j = k + 1 := by omega
        rw [hnk] at HD
        obtain ⟨_, ⟨_, hy⟩ | ⟨bk1, of1, cp1, hv1, _, _, _, p1⟩⟩ := HU1.out.below HX.out
        · rw [hy] at hk1; simp at hk1
        obtain ⟨_, ⟨_, hy⟩ | ⟨bk2, of2, cp2, hv2, _, _, _, p2⟩⟩ := HU2.out.below HX.out
        · rw [hy] at hk2; simp at hk2
        simp only [Value.slice.injEq] at hv1 hv2
        obtain ⟨rfl, -, rfl⟩ := hv1
        obtain ⟨rfl, -, rfl⟩ := hv2
        have hc1 := p1 k hk1
        have hc2 := p2 k hk2
        have g1 : (j : Int) < (n : Int) := by omega
        have g2 : IntKind.i64.wrap ((n : Int) - 1) = (n : Int) - 1 := IntWalk.i64_in _ (by omega)
        have g3 : IntKind.i64.wrap ((n : Int) - 1 - (j : Int)) = (k : Int) := by rw [IntWalk.i64_in _ (by omega)]; omega
        have g4 : (k : Int) < (n : Int) := by omega
        have HH := Lib.hid (show k = n - j - 1 from hk)
        by_cases he : (limbs x).getD k 0 = (limbs y).getD k 0
        · have HD2 : Hid ((limbs x).drop (n - (j + 1)) = (limbs y).drop (n - (j + 1))) := Lib.hid (by
            rw [show n - (j + 1) = k by omega, drop_at _ _ hk1, drop_at _ _ hk2, HD.out, he])
          rw [← he] at hc2
          generalize (limbs x).getD k 0 = X at hc1 hc2
          clear p1 p2 he hk hnk hk1 hk2 HD
          go_upto_region 8 with fail
          go_quiet (fail)
          have HX2 := Lib.hid (below_drewN HX.out nq)
          clear hc1 hc2 HX
          generalize wr.drewN nq = w4 at HX2 ⊢
          go_wp2
          go_roundw
          case rel => exact ⟨j + 1, by omega, by simp, HD2, HX2⟩
          case measure => simp [intOf]; omega
        · have HE := Lib.hid (cmpI_top hk1 hk2 HD.out he)
          have hne : (((limbs x).getD k 0 : Nat) : Int) ≠ (((limbs y).getD k 0 : Nat) : Int) := by omega
          have g5 : ((((limbs x).getD k 0 : Nat) : Int) != (((limbs y).getD k 0 : Nat) : Int)) = true := by rw [bne_iff_ne]; exact hne
          generalize (limbs x).getD k 0 = X at hc1 HE g5
          generalize (limbs y).getD k 0 = Y at hc2 HE g5
          clear p1 p2 he hk hnk hk1 hk2 HD hne
          go_upto_region 8 with fail
          go_quiet (fail)
          have HX2 := Lib.hid (below_drewN HX.out nq)
          have d1 : (wr.drewN nq).cell? ⟨bk1, of1 + k, none⟩ = some (.int .u32 (X : Int)) := hc1
          have d2 : (wr.drewN nq).cell? ⟨bk2, of2 + k, none⟩ = some (.int .u32 (Y : Int)) := hc2
          clear hc1 hc2 HX
          generalize wr.drewN nq = w4 at HX2 d1 d2 ⊢
          have HCU := Lib.hid (fun w => (compare_u32 w X Y).mono (fun _ _ h => And.intro h.2 h.1))
          go_upto_region 9 with fail
          go_quiet ((go_at_call 230; exact Calls.quiet_of_same (HCU.out _)))
          go_wp2
          go_ret
          exact ⟨by rw [HE.out]; rfl, below_drewN HX2.out _⟩
      · obtain rfl : j = n := by omega
        have g1 : ¬ (j : Int) < (j : Int) := by omega
        have HE : Hid (cmpI x y = 0) := Lib.hid (by
          have := HD.out
          rw [Nat.sub_self, List.drop_zero, List.drop_zero] at this
          have h3 := congrArg val this
          rw [val_limbs, val_limbs] at h3
          rw [h3]; simp [cmpI])
        go_wp2
        go_ret
        exact ⟨by rw [HE.out]; rfl, HX.out⟩
  · have g0 : ((n : Int) != (m : Int)) = true := by rw [bne_iff_ne]; omega
    have HE := Lib.hid (cmpI_len HN.out.symm HM.out.symm hnm)
    go_wp2_with fail
    refine (compare_int w2 n m).mono ?_
    rintro e w3 ⟨rfl, rfl⟩
    rw [HE.out]
    go_wp2
    go_ret
    exact ⟨rfl, Below.refl _ _⟩
end Go.Proofs.YtbhfoelnoddlkaaGreatDoor.D

/-
  math/bits.Add32, nat.Add: walked (printed by wip/tools/genadd.py).
-/
namespace Go.Proofs.YtbhfoelnoddlkaaGreatDoor.D
open Go Go.RowKit Limb

set_option maxRecDepth 100000 in
theorem add32_any (w : World) (a b c : Nat) (ha : a < 4294967296) (hb : b < 4294967296) (hc : c < 4294967296) :
    Calls Tryz.prog 237 #[.int .u32 (a : Int), .int .u32 (b : Int), .int .u32 (c : Int)] w fun e w' => e = .returned (.tuple #[.int .u32 (((a + b + c) % 4294967296 : Nat) : Int), .int .u32 (((a + b + c) / 4294967296 : Nat) : Int)]) ∧ w' = w := by
  have g1 : IntKind.u64.wrap (a : Int) = (a : Int) := by rw [IntKind.wrap_u64]; omega
  have g2 : IntKind.u64.wrap (b : Int) = (b : Int) := by rw [IntKind.wrap_u64]; omega
  have g3 : IntKind.u64.wrap (c : Int) = (c : Int) := by rw [IntKind.wrap_u64]; omega
  have g4 : IntKind.u64.wrap ((a : Int) + (b : Int)) = (a : Int) + (b : Int) := by rw [IntKind.wrap_u64]; omega
  have g5 : IntKind.u64.wrap ((a : Int) + (b : Int) + (c : Int)) = ((a + b + c : Nat) : Int) := by rw [IntKind.wrap_u64]; omega
  obtain ⟨S, hS⟩ : ∃ S, S = a + b + c := ⟨_, rfl⟩
  rw [← hS] at g5 ⊢
  have g6 : IntKind.u32.wrap (S : Int) = ((S % 4294967296 : Nat) : Int) := by rw [IntKind.wrap_u32]; omega
  have g7 : (S : Int) % 4294967296 = ((S % 4294967296 : Nat) : Int) := by omega
  have g8 : (S : Int) / 4294967296 = ((S / 4294967296 : Nat) : Int) := by omega
  have g9 : IntKind.u32.wrap ((S / 4294967296 : Nat) : Int) = ((S / 4294967296 : Nat) : Int) := by rw [IntKind.wrap_u32]; omega
  have g10 : ((S / 4294967296 : Nat) : Int) % 4294967296 = ((S / 4294967296 : Nat) : Int) := by omega
  generalize ((S % 4294967296 : Nat) : Int) = M at *
  generalize ((S / 4294967296 : Nat) : Int) = Q at *
  clear hS
  generalize (S : Int) = T at *
  go_enter Tryz.func237, Tryz.ntmps237
  go_wp2
  go_ret2
  exact ⟨rfl, rfl⟩

set_option maxRecDepth 100000 in
set_option maxHeartbeats 1000000 in
theorem nadd_ge (w : World) (v v2 : Value) (a b : List Nat) (h : Limbs w v a) (h2 : Limbs w v2 b) (hl : a.length ≤ 17179869184) (hl2 : b.length ≤ a.length) :
    Calls Tryz.prog 218 #[v, v2] w fun e w' => Below w.heap.size w w' ∧ ∃ v', e = .returned v' ∧ Limbs w' v' (limbs (val a + val b)) := by
  have HFA := Lib.hid h.fit
  have HFB := Lib.hid h2.fit
  obtain ⟨b1, c1, rfl⟩ := h.slice
  obtain ⟨b2, c2, rfl⟩ := h2.slice
  obtain ⟨n, hn⟩ : ∃ n, n = a.length := ⟨_, rfl⟩
  obtain ⟨m, hm⟩ : ∃ m, m = b.length := ⟨_, rfl⟩
  have HLA := Lib.hid h
  have HLB := Lib.hid h2
  have HN := Lib.hid hn
  have HM := Lib.hid hm
  rw [← hn, ← hm] at hl2
  rw [← hn] at hl ⊢
  rw [← hm]
  clear h h2 hn hm
  have g0 : ¬ (n : Int) < (m : Int) := by omega
  have gw : IntKind.i64.wrap ((n : Int) + 1) = (n : Int) + 1 := IntWalk.i64_in _ (by omega)
  have hmk := make_nat w (n + 1) (by omega)
  rw [show ((n + 1 : Nat) : Int) = (n : Int) + 1 by omega] at hmk
  have hB := Blk.new w (uCells (List.replicate (n + 1) 0)) 140
  have hb : Below w.heap.size w (w.alloc (.cells (uCells (List.replicate (n + 1) 0)) 140)) := (Below.refl _ _).alloc (Nat.le_refl _) _
  go_enter Tryz.func218, Tryz.ntmps218
  go_upto_region 4 with fail
  clear hmk
  generalize w.alloc (.cells (uCells (List.replicate (n + 1) 0)) 140) = w1 at hB hb ⊢
  have HB := Lib.hid hB
  have HX := Lib.hid hb
  clear hB hb
  go_upto_region 6 with fail
  go_loopw [6, 7, 8, 22] (fun cv _ _ i wr => ∃ (j c : Nat) (o : List Nat), j ≤ n ∧ i = .int .i64 j ∧ cv = .int .u32 (c : Nat) ∧ c < 4294967296 ∧ Hid (o.length = n + 1 ∧ Fit o ∧ val (o.take j) + 4294967296 ^ j * c = val (a.take j) + val (b.take j)) ∧ Hid (Blk wr w.heap.size (uCells o) 140) ∧ Hid (Below w.heap.size w wr)) (fun _ _ _ i _ => n - (intOf i).toNat)
  case atStart =>
    refine ⟨0, 0, List.replicate (n + 1) 0, by omega, rfl, rfl, by decide, Lib.hid ⟨by simp, ?_, by simp [val]⟩, HB, HX⟩
    intro x hx
    have := List.eq_of_mem_replicate hx
    omega
  case round =>
    clear HB HX
    obtain ⟨j, c, o, hj, rfl, rfl, hc, HO, HB, HX⟩ := hrel
    by_cases h1 : j < n
    · have g1 : (j : Int) < (n : Int) := by omega
      obtain ⟨_, ⟨_, hy⟩ | ⟨bk1, of1, cp1, hv1, _, _, _, p1⟩⟩ := HLA.out.below HX.out
      · have := HN.out; rw [hy] at this; simp at this; omega
      simp only [Value.slice.injEq] at hv1
      obtain ⟨rfl, -, rfl⟩ := hv1
      have hcA := p1 j (by have := HN.out; omega)
      have hxf := getD_fit HFA.out j (by have := HN.out; omega)
      have HST := Lib.hid (add_step o a b j c (by have := HO.out.1; omega) HO.out.2.2)
      have g5 : (j : Int) < (n : Int) + 1 := by omega
      have e0 : wr.cell? ⟨w.heap.size, j, none⟩ = some (.int .u32 ((o.getD j 0 : Nat) : Int)) := by rw [HB.out.cell, uCells_at _ _ (by have := HO.out.1; omega)]
      have f0 : wr.frozen? ⟨w.heap.size, j, none⟩ = false := HB.out.free j
      by_cases h2 : j < m
      · have g2 : (j : Int) < (m : Int) := by omega
        obtain ⟨_, ⟨_, hy⟩ | ⟨bk2, of2, cp2, hv2, _, _, _, p2⟩⟩ := HLB.out.below HX.out
        · have := HM.out; rw [hy] at this; simp at this; omega
        simp only [Value.slice.injEq] at hv2
        obtain ⟨rfl, -, rfl⟩ := hv2
        have hcB := p2 j (by have := HM.out; omega)
        have hyf := getD_fit HFB.out j (by have := HM.out; omega)
        generalize a.getD j 0 = x at hcA hxf HST
        generalize b.getD j 0 = y at hcB hyf HST
        have HAD := Lib.hid (fun w => add32_any w x y c hxf hyf hc)
        have hq : (x + y + c) / 4294967296 < 4294967296 := by omega
        have hr : (x + y + c) % 4294967296 < 4294967296 := by omega
        generalize (x + y + c) / 4294967296 = q at HAD HST hq
        generalize (x + y + c) % 4294967296 = r at HAD HST hr
        have HR := Lib.hid hr
        clear p1 p2 hr
        generalize (o.getD j 0 : Nat) = ou at e0
        go_wp2_with fail
        refine (HAD.out _).mono ?_
        rintro e w2 ⟨rfl, rfl⟩
        have hB3 := HB.out.set j (.int .u32 (r : Int))
        rw [uCells_set] at hB3
        have HB3 := Lib.hid hB3
        have HX3 := Lib.hid (HX.out.setCell (p := ⟨w.heap.size, j, none⟩) (Nat.le_refl _) (.int .u32 (r : Int)))
        clear hB3
        go_wp2
        go_roundw
        case rel => exact ⟨j + 1, q, o.set j r, by omega, by simp, rfl, hq, Lib.hid ⟨by simpa using HO.out.1, fit_set HO.out.2.1 _ _ HR.out, HST.out⟩, HB3, HX3⟩
        case measure => simp [intOf]; omega
      · have g2 : ¬ (j : Int) < (m : Int) := by omega
        have hy0 : b.getD j 0 = 0 := by rw [List.getD_eq_getElem?_getD, List.getElem?_eq_none (by have := HM.out; omega)]; rfl
        rw [hy0] at HST
        generalize a.getD j 0 = x at hcA hxf HST
        have HAD := Lib.hid (fun w => add32_any w x 0 c hxf (by decide) hc)
        have hq : (x + 0 + c) / 4294967296 < 4294967296 := by omega
        have hr : (x + 0 + c) % 4294967296 < 4294967296 := by omega
        generalize (x + 0 + c) / 4294967296 = q at HAD HST hq
        generalize (x + 0 + c) % 4294967296 = r at HAD HST hr
        have HR := Lib.hid hr
        clear p1 hy0 hr
        generalize (o.getD j 0 : Nat) = ou at e0
        go_wp2_with fail
        refine (HAD.out _).mono ?_
        rintro e w2 ⟨rfl, rfl⟩
        have hB3 := HB.out.set j (.int .u32 (r : Int))
        rw [uCells_set] at hB3
        have HB3 := Lib.hid hB3
        have HX3 := Lib.hid (HX.out.setCell (p := ⟨w.heap.size, j, none⟩) (Nat.le_refl _) (.int .u32 (r : Int)))
        clear hB3
        go_wp2
        go_roundw
        case rel => exact ⟨j + 1, q, o.set j r, by omega, by simp, rfl, hq, Lib.hid ⟨by simpa using HO.out.1, fit_set HO.out.2.1 _ _ HR.out, HST.out⟩, HB3, HX3⟩
        case measure => simp [intOf]; omega
    · obtain rfl : j = n := by omega
      have g1 : ¬ (j : Int) < (j : Int) := by omega
      have g5 : (j : Int) < (j : Int) + 1 := by omega
      have HV : Hid (val (o.set j c) = val a + val b) := Lib.hid (by
        have := add_last o a b j c HO.out.1 HN.out.symm (by have := HM.out; omega) HO.out.2.2
        omega)
      have HF : Hid (Fit (o.set j c)) := Lib.hid (fit_set HO.out.2.1 _ _ hc)
      have HLE : Hid (j + 1 = (o.set j c).length) := Lib.hid (by simpa using HO.out.1.symm)
      have e0 : wr.cell? ⟨w.heap.size, j, none⟩ = some (.int .u32 ((o.getD j 0 : Nat) : Int)) := by rw [HB.out.cell, uCells_at _ _ (by have := HO.out.1; omega)]
      have f0 : wr.frozen? ⟨w.heap.size, j, none⟩ = false := HB.out.free j
      generalize (o.getD j 0 : Nat) = ou at e0
      have hB3 := HB.out.set j (.int .u32 (c : Int))
      rw [uCells_set] at hB3
      have HX3 := Lib.hid (HX.out.setCell (p := ⟨w.heap.size, j, none⟩) (Nat.le_refl _) (.int .u32 (c : Int)))
      have hlim := Blk.limbs hB3 (n := j + 1) HF.out HLE.out (by omega)
      have HCT := Lib.hid (cut_any _ _ _ hlim)
      rw [trim_eq HF.out, HV.out] at HCT
      clear hB3 hlim HO HB HX
      go_wp2_with fail
      refine HCT.out.mono ?_
      rintro e w2 ⟨rfl, v3, rfl, h3⟩
      have H3 := Lib.hid h3
      clear h3
      go_wp2
      go_ret
      exact ⟨HX3.out, _, rfl, H3.out⟩

set_option maxRecDepth 100000 in
set_option maxHeartbeats 1000000 in
theorem nadd_lt (w : World) (v v2 : Value) (a b : List Nat) (h : Limbs w v a) (h2 : Limbs w v2 b) (hl : b.length ≤ 17179869184) (hl2 : a.length < b.length) :
    Calls Tryz.prog 218 #[v, v2] w fun e w' => Below w.heap.size w w' ∧ ∃ v', e = .returned v' ∧ Limbs w' v' (limbs (val a + val b)) := by
  have HFA := Lib.hid h2.fit
  have HFB := Lib.hid h.fit
  obtain ⟨b1, c1, rfl⟩ := h.slice
  obtain ⟨b2, c2, rfl⟩ := h2.slice
  obtain ⟨n, hn⟩ : ∃ n, n = b.length := ⟨_, rfl⟩
  obtain ⟨m, hm⟩ : ∃ m, m = a.length := ⟨_, rfl⟩
  have HLA := Lib.hid h2
  have HLB := Lib.hid h
  have HN := Lib.hid hn
  have HM := Lib.hid hm
  rw [← hn, ← hm] at hl2
  rw [← hn] at hl ⊢
  rw [← hm]
  clear h h2 hn hm
  have g0 : (m : Int) < (n : Int) := by omega
  have gw : IntKind.i64.wrap ((n : Int) + 1) = (n : Int) + 1 := IntWalk.i64_in _ (by omega)
  have hmk := make_nat w (n + 1) (by omega)
  rw [show ((n + 1 : Nat) : Int) = (n : Int) + 1 by omega] at hmk
  have hB := Blk.new w (uCells (List.replicate (n + 1) 0)) 140
  have hb : Below w.heap.size w (w.alloc (.cells (uCells (List.replicate (n + 1) 0)) 140)) := (Below.refl _ _).alloc (Nat.le_refl _) _
  go_enter Tryz.func218, Tryz.ntmps218
  go_upto_region 4 with fail
  clear hmk
  generalize w.alloc (.cells (uCells (List.replicate (n + 1) 0)) 140) = w1 at hB hb ⊢
  have HB := Lib.hid hB
  have HX := Lib.hid hb
  clear hB hb
  go_upto_region 6 with fail
  go_loopw [6, 7, 8, 22] (fun cv _ _ i wr => ∃ (j c : Nat) (o : List Nat), j ≤ n ∧ i = .int .i64 j ∧ cv = .int .u32 (c : Nat) ∧ c < 4294967296 ∧ Hid (o.length = n + 1 ∧ Fit o ∧ val (o.take j) + 4294967296 ^ j * c = val (b.take j) + val (a.take j)) ∧ Hid (Blk wr w.heap.size (uCells o) 140) ∧ Hid (Below w.heap.size w wr)) (fun _ _ _ i _ => n - (intOf i).toNat)
  case atStart =>
    refine ⟨0, 0, List.replicate (n + 1) 0, by omega, rfl, rfl, by decide, Lib.hid ⟨by simp, ?_, by simp [val]⟩, HB, HX⟩
    intro x hx
    have := List.eq_of_mem_replicate hx
    omega
  case round =>
    clear HB HX
    obtain ⟨j, c, o, hj, rfl, rfl, hc, HO, HB, HX⟩ := hrel
    by_cases h1 : j < n
    · have g1 : (j : Int) < (n : Int) := by omega
      obtain ⟨_, ⟨_, hy⟩ | ⟨bk1, of1, cp1, hv1, _, _, _, p1⟩⟩ := HLA.out.below HX.out
      · have := HN.out; rw [hy] at this; simp at this; omega
      simp only [Value.slice.injEq] at hv1
      obtain ⟨rfl, -, rfl⟩ := hv1
      have hcA := p1 j (by have := HN.out; omega)
      have hxf := getD_fit HFA.out j (by have := HN.out; omega)
      have HST := Lib.hid (add_step o b a j c (by have := HO.out.1; omega) HO.out.2.2)
      have g5 : (j : Int) < (n : Int) + 1 := by omega
      have e0 : wr.cell? ⟨w.heap.size, j, none⟩ = some (.int .u32 ((o.getD j 0 : Nat) : Int)) := by rw [HB.out.cell, uCells_at _ _ (by have := HO.out.1; omega)]
      have f0 : wr.frozen? ⟨w.heap.size, j, none⟩ = false := HB.out.free j
      by_cases h2 : j < m
      · have g2 : (j : Int) < (m : Int) := by omega
        obtain ⟨_, ⟨_, hy⟩ | ⟨bk2, of2, cp2, hv2, _, _, _, p2⟩⟩ := HLB.out.below HX.out
        · have := HM.out; rw [hy] at this; simp at this; omega
        simp only [Value.slice.injEq] at hv2
        obtain ⟨rfl, -, rfl⟩ := hv2
        have hcB := p2 j (by have := HM.out; omega)
        have hyf := getD_fit HFB.out j (by have := HM.out; omega)
        generalize b.getD j 0 = x at hcA hxf HST
        generalize a.getD j 0 = y at hcB hyf HST
        have HAD := Lib.hid (fun w => add32_any w x y c hxf hyf hc)
        have hq : (x + y + c) / 4294967296 < 4294967296 := by omega
        have hr : (x + y + c) % 4294967296 < 4294967296 := by omega
        generalize (x + y + c) / 4294967296 = q at HAD HST hq
        generalize (x + y + c) % 4294967296 = r at HAD HST hr
        have HR := Lib.hid hr
        clear p1 p2 hr
        generalize (o.getD j 0 : Nat) = ou at e0
        go_wp2_with fail
        refine (HAD.out _).mono ?_
        rintro e w2 ⟨rfl, rfl⟩
        have hB3 := HB.out.set j (.int .u32 (r : Int))
        rw [uCells_set] at hB3
        have HB3 := Lib.hid hB3
        have HX3 := Lib.hid (HX.out.setCell (p := ⟨w.heap.size, j, none⟩) (Nat.le_refl _) (.int .u32 (r : Int)))
        clear hB3
        go_wp2
        go_roundw
        case rel => exact ⟨j + 1, q, o.set j r, by omega, by simp, rfl, hq, Lib.hid ⟨by simpa using HO.out.1, fit_set HO.out.2.1 _ _ HR.out, HST.out⟩, HB3, HX3⟩
        case measure => simp [intOf]; omega
      · have g2 : ¬ (j : Int) < (m : Int) := by omega
        have hy0 : a.getD j 0 = 0 := by rw [List.getD_eq_getElem?_getD, List.getElem?_eq_none (by have := HM.out; omega)]; rfl
        rw [hy0] at HST
        generalize b.getD j 0 = x at hcA hxf HST
        have HAD := Lib.hid (fun w => add32_any w x 0 c hxf (by decide) hc)
        have hq : (x + 0 + c) / 4294967296 < 4294967296 := by omega
        have hr : (x + 0 + c) % 4294967296 < 4294967296 := by omega
        generalize (x + 0 + c) / 4294967296 = q at HAD HST hq
        generalize (x + 0 + c) % 4294967296 = r at HAD HST hr
        have HR := Lib.hid hr
        clear p1 hy0 hr
        generalize (o.getD j 0 : Nat) = ou at e0
        go_wp2_with fail
        refine (HAD.out _).mono ?_
        rintro e w2 ⟨rfl, rfl⟩
        have hB3 := HB.out.set j (.int .u32 (r : Int))
        rw [uCells_set] at hB3
        have HB3 := Lib.hid hB3
        have HX3 := Lib.hid (HX.out.setCell (p := ⟨w.heap.size, j, none⟩) (Nat.le_refl _) (.int .u32 (r : Int)))
        clear hB3
        go_wp2
        go_roundw
        case rel => exact ⟨j + 1, q, o.set j r, by omega, by simp, rfl, hq, Lib.hid ⟨by simpa using HO.out.1, fit_set HO.out.2.1 _ _ HR.out, HST.out⟩, HB3, HX3⟩
        case measure => simp [intOf]; omega
    · obtain rfl : j = n := by omega
      have g1 : ¬ (j : Int) < (j : Int) := by omega
      have g5 : (j : Int) < (j : Int) + 1 := by omega
      have HV : Hid (val (o.set j c) = val a + val b) := Lib.hid (by
        have := add_last o b a j c HO.out.1 HN.out.symm (by have := HM.out; omega) HO.out.2.2
        omega)
      have HF : Hid (Fit (o.set j c)) := Lib.hid (fit_set HO.out.2.1 _ _ hc)
      have HLE : Hid (j + 1 = (o.set j c).length) := Lib.hid (by simpa using HO.out.1.symm)
      have e0 : wr.cell? ⟨w.heap.size, j, none⟩ = some (.int .u32 ((o.getD j 0 : Nat) : Int)) := by rw [HB.out.cell, uCells_at _ _ (by have := HO.out.1; omega)]
      have f0 : wr.frozen? ⟨w.heap.size, j, none⟩ = false := HB.out.free j
      generalize (o.getD j 0 : Nat) = ou at e0
      have hB3 := HB.out.set j (.int .u32 (c : Int))
      rw [uCells_set] at hB3
      have HX3 := Lib.hid (HX.out.setCell (p := ⟨w.heap.size, j, none⟩) (Nat.le_refl _) (.int .u32 (c : Int)))
      have hlim := Blk.limbs hB3 (n := j + 1) HF.out HLE.out (by omega)
      have HCT := Lib.hid (cut_any _ _ _ hlim)
      rw [trim_eq HF.out, HV.out] at HCT
      clear hB3 hlim HO HB HX
      go_wp2_with fail
      refine HCT.out.mono ?_
      rintro e w2 ⟨rfl, v3, rfl, h3⟩
      have H3 := Lib.hid h3
      clear h3
      go_wp2
      go_ret
      exact ⟨HX3.out, _, rfl, H3.out⟩

theorem nadd_any (w : World) (v v2 : Value) (a b : List Nat) (h : Limbs w v a) (h2 : Limbs w v2 b) (hl : a.length ≤ 17179869184) (hl2 : b.length ≤ 17179869184) :
    Calls Tryz.prog 218 #[v, v2] w fun e w' => Below w.heap.size w w' ∧ ∃ v', e = .returned v' ∧ Limbs w' v' (limbs (val a + val b)) := by
  rcases Nat.lt_or_ge a.length b.length with h3 | h3
  · exact nadd_lt w v v2 a b h h2 hl2 h3
  · exact nadd_ge w v v2 a b h h2 hl h3
end Go.Proofs.YtbhfoelnoddlkaaGreatDoor.D

