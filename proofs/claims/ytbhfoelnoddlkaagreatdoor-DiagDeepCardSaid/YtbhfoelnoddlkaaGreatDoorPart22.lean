/-
  Of the proof that the law DiagDeep answers true at every row of bytes: a part, without conditions of its own.
-/
import Derived.Test.YtbhfoelnoddlkaaGreatDoorPart21
import Derived.Laws.IdiomCopy
set_option linter.unusedVariables false
set_option linter.unusedSimpArgs false
/-
  nat.Mul: walked.
-/
namespace Go.Proofs.YtbhfoelnoddlkaaGreatDoor.D
open Go Go.RowKit Limb

theorem getD_set_ne (o : List Nat) (i j x : Nat) (h : i ≠ j) : (o.set i x).getD j 0 = o.getD j 0 := by
  rw [List.getD_eq_getElem?_getD, List.getElem?_set_ne h, ← List.getD_eq_getElem?_getD]

set_option maxRecDepth 100000 in
set_option maxHeartbeats 1000000 in
theorem mul_any (w : World) (v v2 : Value) (a b : List Nat) (h : Limbs w v a) (h2 : Limbs w v2 b) (hl : a.length ≤ 8589934592) (hl2 : b.length ≤ 8589934592) :
    Calls Tryz.prog 177 #[v, v2] w fun e w' => Below w.heap.size w w' ∧ ∃ v', e = .returned v' ∧ Limbs w' v' (limbs (val a * val b)) := by
  have HC1 := Lib.hid (cut_any w v a h)
  have HC2 := Lib.hid (cut_any w v2 b h2)
  rw [trim_eq h.fit] at HC1
  rw [trim_eq h2.fit] at HC2
  have hn1 : (limbs (val a)).length ≤ 8589934592 := by rw [← trim_eq h.fit, length_trim]; have := top_le a; omega
  have hm1 : (limbs (val b)).length ≤ 8589934592 := by rw [← trim_eq h2.fit, length_trim]; have := top_le b; omega
  clear h h2 hl hl2
  generalize val a = x at *
  generalize val b = y at *
  go_enter Tryz.func177, Tryz.ntmps177
  go_wp2_with fail
  refine HC1.out.mono ?_
  rintro r w1 ⟨rfl, u1, rfl, hu1⟩
  go_wp2_with fail
  refine HC2.out.mono ?_
  rintro r w ⟨rfl, u2, rfl, hu2⟩
  clear HC1 HC2
  obtain ⟨b1, c1, rfl⟩ := hu1.slice
  obtain ⟨b2, c2, rfl⟩ := hu2.slice
  have HU1 := Lib.hid hu1
  have HU2 := Lib.hid hu2
  clear hu1 hu2
  obtain ⟨n, hn⟩ : ∃ n, n = (limbs x).length := ⟨_, rfl⟩
  obtain ⟨m, hm⟩ : ∃ m, m = (limbs y).length := ⟨_, rfl⟩
  obtain ⟨N, hN⟩ : ∃ N, N = n + m := ⟨_, rfl⟩
  have HN := Lib.hid hn
  have HM := Lib.hid hm
  have HNN := Lib.hid hN
  rw [← hn] at hn1 ⊢
  rw [← hm] at hm1 ⊢
  have gw : IntKind.i64.wrap ((n : Int) + (m : Int)) = (N : Int) := by rw [IntWalk.i64_in _ (by omega)]; omega
  have hmk := make_nat w N (by omega)
  have hB := Blk.new w (uCells (List.replicate N 0)) 140
  have hb : Below w.heap.size w (w.alloc (.cells (uCells (List.replicate N 0)) 140)) := (Below.refl _ _).alloc (Nat.le_refl _) _
  have hN2 : N ≤ 17179869184 := by omega
  clear hn hm hN
  go_upto_region 3 with fail
  clear hmk
  generalize w.alloc (.cells (uCells (List.replicate N 0)) 140) = w1 at hB hb ⊢
  have HB := Lib.hid hB
  have HX := Lib.hid hb
  clear hB hb
  go_upto_region 4 with fail
  go_loopw [6, 21] (fun _ i wr => ∃ (j : Nat) (o : List Nat), j ≤ n ∧ i = .int .i64 j ∧ Hid (o.length = N ∧ Fit o ∧ val o = val ((limbs x).take j) * val (limbs y)) ∧ Hid (Blk wr w.heap.size (uCells o) 140) ∧ Hid (Below w.heap.size w wr)) (fun _ i _ => n - (intOf i).toNat)
  case atStart =>
    refine ⟨0, List.replicate N 0, by omega, rfl, Lib.hid ⟨by simp, ?_, ?_⟩, HB, HX⟩
    · intro x hx
      have := List.eq_of_mem_replicate hx
      omega
    · have := val_zeros N []
      simp only [List.nil_append] at this
      have h0 : ∀ d, val (List.replicate d 0) = 0 := by
        intro d
        induction d with
        | zero => rfl
        | succ d ih => rw [List.replicate_succ, val, ih]
      simp [h0, val]
  case round =>
    clear HB HX
    obtain ⟨j, o, hj, rfl, HO, HB, HX⟩ := hrel
    by_cases h1 : j < n
    · have g1 : (j : Int) < (n : Int) := by omega
      have HZ := Lib.hid (mul_zero_at o (limbs x) (limbs y) j (fit_limbs y) (fit_limbs x) (by rw [← HM.out, HO.out.1]; have := HNN.out; omega) (by rw [← HN.out]; exact h1) HO.out.2.2)
      rw [← HM.out] at HZ
      go_upto_region 8 with fail
      go_loopw [7, 8, 26] (fun cv _ i w2 => ∃ (k c : Nat) (o2 : List Nat), k ≤ m ∧ i = .int .i64 k ∧ cv = .int .u64 (c : Nat) ∧ c < 4294967296 ∧ Hid (o2.length = N ∧ Fit o2 ∧ o2.getD (j + m) 0 = 0 ∧ val o2 + 4294967296 ^ (j + k) * c = val ((limbs x).take j) * val (limbs y) + (limbs x).getD j 0 * val ((limbs y).take k) * 4294967296 ^ j) ∧ Hid (Blk w2 w.heap.size (uCells o2) 140) ∧ Hid (Below w.heap.size w w2)) (fun _ _ i _ => m - (intOf i).toNat)
      case atStart => exact ⟨0, 0, o, by omega, rfl, rfl, by decide, Lib.hid ⟨HO.out.1, HO.out.2.1, HZ.out, by rw [HO.out.2.2]; simp [val]⟩, HB, HX⟩
      case round =>
        clear HO HB HX HZ
        obtain ⟨k, c, o2, hk, rfl, rfl, hc, HO, HB, HX⟩ := hrel
        by_cases h2 : k < m
        · obtain ⟨s, hs⟩ : ∃ s, s = j + k := ⟨_, rfl⟩
          have hsN : s < N := by have := HNN.out; omega
          have g2 : (k : Int) < (m : Int) := by omega
          obtain ⟨_, ⟨_, hy⟩ | ⟨bk1, of1, cp1, hv1, _, _, _, p1⟩⟩ := HU1.out.below HX.out
          · have := HN.out; rw [hy] at this; simp at this; omega
          simp only [Value.slice.injEq] at hv1
          obtain ⟨rfl, -, rfl⟩ := hv1
          obtain ⟨_, ⟨_, hy⟩ | ⟨bk2, of2, cp2, hv2, _, _, _, p2⟩⟩ := HU2.out.below HX.out
          · have := HM.out; rw [hy] at this; simp at this; omega
          simp only [Value.slice.injEq] at hv2
          obtain ⟨rfl, -, rfl⟩ := hv2
          have hcA := p1 j (by have := HN.out; omega)
          have hcB := p2 k (by have := HM.out; omega)
          have hcO : wr.cell? ⟨w.heap.size, s, none⟩ = some (.int .u32 ((o2.getD s 0 : Nat) : Int)) := by rw [HB.out.cell, uCells_at _ _ (by have := HO.out.1; omega)]
          have f0 : wr.frozen? ⟨w.heap.size, s, none⟩ = false := HB.out.free s
          have hxf := getD_fit (fit_limbs x) j (by have := HN.out; omega)
          have hyf := getD_fit (fit_limbs y) k (by have := HM.out; omega)
          have hof := getD_fit HO.out.2.1 s (by have := HO.out.1; omega)
          have HST := Lib.hid (mul_step o2 (limbs x) (limbs y) j k c _ (by have := HM.out; omega) (by have := HO.out.1; omega) HO.out.2.2.2)
          have HZ2 : Hid ((o2.set s ((c + ((limbs x).getD j 0 * (limbs y).getD k 0 + o2.getD s 0)) % 4294967296)).getD (j + m) 0 = 0) := Lib.hid (by rw [getD_set_ne _ _ _ _ (by omega)]; exact HO.out.2.2.1)
          rw [← hs] at HST
          have hT2 := carry_lt hc hxf hyf hof
          generalize (limbs x).getD j 0 = X at hcA hxf HST HZ2 hT2
          generalize (limbs y).getD k 0 = Y at hcB hyf HST HZ2 hT2
          generalize (o2.getD s 0 : Nat) = Z at hcO hof HST HZ2 hT2
          have gs : IntKind.i64.wrap ((j : Int) + (k : Int)) = (s : Int) := by rw [IntWalk.i64_in _ (by omega)]; omega
          have gs2 : (s : Int) < (N : Int) := by omega
          have q1 : IntKind.u64.wrap (X : Int) = (X : Int) := by rw [IntKind.wrap_u64]; omega
          have q2 : IntKind.u64.wrap (Y : Int) = (Y : Int) := by rw [IntKind.wrap_u64]; omega
          have q3 : IntKind.u64.wrap (Z : Int) = (Z : Int) := by rw [IntKind.wrap_u64]; omega
          obtain ⟨M, hM⟩ : ∃ M, M = X * Y := ⟨_, rfl⟩
          rw [← hM] at HST HZ2 hT2
          have q4 : IntKind.u64.wrap ((X : Int) * (Y : Int)) = (M : Int) := by
            rw [show (X : Int) * (Y : Int) = (M : Int) by rw [hM]; simp, IntKind.wrap_u64]; omega
          obtain ⟨T, hT⟩ : ∃ T, T = c + (M + Z) := ⟨_, rfl⟩
          rw [← hT] at HST HZ2 hT2
          have q5 : IntKind.u64.wrap ((M : Int) + (Z : Int)) = (M : Int) + (Z : Int) := by rw [IntKind.wrap_u64]; omega
          have q6 : IntKind.u64.wrap ((c : Int) + ((M : Int) + (Z : Int))) = (T : Int) := by rw [IntKind.wrap_u64]; omega
          have q7 : IntKind.u32.wrap (T : Int) = ((T % 4294967296 : Nat) : Int) := by rw [IntKind.wrap_u32]; omega
          have q8 : (T : Int) % 4294967296 = ((T % 4294967296 : Nat) : Int) := by omega
          have q9 : (T : Int) / 4294967296 = ((T / 4294967296 : Nat) : Int) := by omega
          have hq : T / 4294967296 < 4294967296 := by omega
          have hr : T % 4294967296 < 4294967296 := by omega
          generalize T / 4294967296 = Q at q9 HST hq
          generalize T % 4294967296 = R at q7 q8 HST HZ2 hr
          have HR := Lib.hid hr
          have HS := Lib.hid hs
          clear p1 p2 hr hs hM hT hxf hyf hof hT2 hsN
          go_upto_region 10 with fail
          go_quiet (fail)
          have hB3 := (HB.out.drewN nq).set s (.int .u32 (R : Int))
          rw [uCells_set] at hB3
          have HB3 := Lib.hid hB3
          have HX3 := Lib.hid ((below_drewN HX.out nq).setCell (p := ⟨w.heap.size, s, none⟩) (Nat.le_refl _) (.int .u32 (R : Int)))
          clear hB3
          go_wp2
          go_roundw
          case rel => exact ⟨k + 1, Q, o2.set s R, by omega, by simp, rfl, hq, Lib.hid ⟨by simpa using HO.out.1, fit_set HO.out.2.1 _ _ HR.out, HZ2.out, HST.out⟩, HB3, HX3⟩
          case measure => simp [intOf]; omega
        · obtain rfl : k = m := by omega
          have g2 : ¬ (k : Int) < (k : Int) := by omega
          obtain ⟨s, hs⟩ : ∃ s, s = j + k := ⟨_, rfl⟩
          have hsN : s < N := by have := HNN.out; omega
          have gs : IntKind.i64.wrap ((j : Int) + (k : Int)) = (s : Int) := by rw [IntWalk.i64_in _ (by omega)]; omega
          have gs2 : (s : Int) < (N : Int) := by omega
          have q7 : IntKind.u32.wrap (c : Int) = (c : Int) := by rw [IntKind.wrap_u32]; omega
          have q8 : (c : Int) % 4294967296 = (c : Int) := by omega
          have hcO : wr.cell? ⟨w.heap.size, s, none⟩ = some (.int .u32 ((o2.getD s 0 : Nat) : Int)) := by rw [HB.out.cell, uCells_at _ _ (by have := HO.out.1; omega)]
          have f0 : wr.frozen? ⟨w.heap.size, s, none⟩ = false := HB.out.free s
          have HV : Hid (val (o2.set s c) = val ((limbs x).take (j + 1)) * val (limbs y)) := Lib.hid (by
            have := mul_last o2 (limbs x) (limbs y) j c _ (by rw [← HM.out, HO.out.1, ← hs]; exact hsN) (by rw [← HM.out]; exact HO.out.2.2.1) (by rw [← HN.out]; exact h1) rfl (by rw [← HM.out]; exact HO.out.2.2.2)
            rw [← HM.out, ← hs] at this
            exact this)
          generalize (o2.getD s 0 : Nat) = Z at hcO
          have hB3 := HB.out.set s (.int .u32 (c : Int))
          rw [uCells_set] at hB3
          have HB3 := Lib.hid hB3
          have HX3 := Lib.hid (HX.out.setCell (p := ⟨w.heap.size, s, none⟩) (Nat.le_refl _) (.int .u32 (c : Int)))
          clear hB3 hs hsN
          go_wp2
          go_roundw
          case rel => exact ⟨j + 1, o2.set s c, by omega, by simp, Lib.hid ⟨by simpa using HO.out.1, fit_set HO.out.2.1 _ _ hc, HV.out⟩, HB3, HX3⟩
          case measure => simp [intOf]; omega
    · obtain rfl : j = n := by omega
      have g1 : ¬ (j : Int) < (j : Int) := by omega
      have HV : Hid (val o = x * y) := Lib.hid (by
        rw [HO.out.2.2, List.take_of_length_le (by rw [← HN.out]; exact Nat.le_refl _), val_limbs, val_limbs])
      have hlim := Blk.limbs HB.out (n := N) HO.out.2.1 HO.out.1.symm (by omega)
      have HCT := Lib.hid (cut_any _ _ _ hlim)
      rw [trim_eq HO.out.2.1, HV.out] at HCT
      clear hlim HO HB
      go_wp2_with fail
      refine HCT.out.mono ?_
      rintro e w2 ⟨rfl, v3, rfl, h3⟩
      have H3 := Lib.hid h3
      clear h3
      go_wp2
      go_ret
      exact ⟨HX.out, _, rfl, H3.out⟩
end Go.Proofs.YtbhfoelnoddlkaaGreatDoor.D

/-
  nat.Shl: walked.
-/
namespace Go.Proofs.YtbhfoelnoddlkaaGreatDoor.D
open Go Go.RowKit Limb

theorem addr_at (b o j : Nat) : (⟨b, o, none⟩ : Addr).add j = ⟨b, o + j, none⟩ := by unfold Addr.add; split <;> simp_all
set_option maxRecDepth 100000 in
set_option maxHeartbeats 1000000 in
theorem shl_any (w : World) (v : Value) (l : List Nat) (n : Nat) (h : Limbs w v l) (hl : l.length ≤ 8589934592) (hn : n + blen (val l) ≤ 8388608) :
    Calls Tryz.prog 178 #[v, .int .i64 (n : Int)] w fun e w' => Below w.heap.size w w' ∧ ∃ v', e = .returned (.tuple #[v', .bool true]) ∧ Limbs w' v' (limbs (val l * 2 ^ n)) := by
  have HC1 := Lib.hid (cut_any w v l h)
  rw [trim_eq h.fit] at HC1
  have hm1 : (limbs (val l)).length ≤ 8589934592 := by rw [← trim_eq h.fit, length_trim]; have := top_le l; omega
  have g0 : ¬ (n : Int) < 0 := by omega
  clear h hl
  generalize val l = x at *
  by_cases hx : x = 0
  · subst hx
    rw [Nat.zero_mul, limbs_zero] at *
    go_enter Tryz.func178, Tryz.ntmps178
    go_wp2_with fail
    refine HC1.out.mono ?_
    rintro r w1 ⟨rfl, u1, rfl, hu1⟩
    obtain ⟨b1, c1, rfl⟩ := hu1.slice
    clear hu1
    go_wp2
    go_ret2
    exact ⟨Below.refl _ _, _, rfl, Limbs.nil _⟩
  · have hp := limbs_length_pos hx
    go_enter Tryz.func178, Tryz.ntmps178
    go_wp2_with fail
    refine HC1.out.mono ?_
    rintro r w ⟨rfl, u1, rfl, hu1⟩
    have HLEN := Lib.hid (len_any w u1 _ hu1 (by omega))
    rw [val_limbs] at HLEN
    obtain ⟨hf, ⟨_, hy⟩ | ⟨bk1, of1, c1, rfl, h1, h2, h3, h4⟩⟩ := hu1
    · rw [hy] at hp; simp at hp
    obtain ⟨m, hm⟩ : ∃ m, m = (limbs x).length := ⟨_, rfl⟩
    obtain ⟨d, hd⟩ : ∃ d, d = n / 32 := ⟨_, rfl⟩
    obtain ⟨r, hr⟩ : ∃ r, r = n % 32 := ⟨_, rfl⟩
    obtain ⟨N, hN⟩ : ∃ N, N = d + m + 1 := ⟨_, rfl⟩
    have HM := Lib.hid hm
    have HH4 := Lib.hid h4
    rw [← hm] at hp hm1 HLEN ⊢
    clear h4 hf HC1 hm
    have q0 : ((m : Int) == 0) = false := beq_eq_false_iff_ne.2 (by omega)
    have q1 : IntKind.i64.wrap (8388608 - (blen x : Int)) = 8388608 - (blen x : Int) := IntWalk.i64_in _ (by omega)
    have q2 : ¬ (8388608 - (blen x : Int)) < (n : Int) := by omega
    have q3 : (n : Int).tdiv 32 = (d : Int) := by rw [Int.tdiv_eq_ediv_of_nonneg (by omega)]; omega
    have q4 : (n : Int) / 32 = (d : Int) := by omega
    have q5 : IntKind.i64.wrap (d : Int) = (d : Int) := IntWalk.i64_in _ (by omega)
    have q6 : IntKind.i64.wrap ((d : Int) + (m : Int)) = (d : Int) + (m : Int) := IntWalk.i64_in _ (by omega)
    have q7 : IntKind.i64.wrap ((d : Int) + (m : Int) + 1) = (N : Int) := by rw [IntWalk.i64_in _ (by omega)]; omega
    have q8 : (n : Int).tmod 32 = (r : Int) := by rw [Int.tmod_eq_emod_of_nonneg (by omega)]; omega
    have q9 : (n : Int) % 32 = (r : Int) := by omega
    have hmk := make_nat w N (by omega)
    have hB := Blk.new w (uCells (List.replicate N 0)) 140
    have hb : Below w.heap.size w (w.alloc (.cells (uCells (List.replicate N 0)) 140)) := (Below.refl _ _).alloc (Nat.le_refl _) _
    have HD := Lib.hid hd
    have HR := Lib.hid hr
    have HNN := Lib.hid hN
    have hdN : (d : Int) ≤ (N : Int) := by omega
    have hNd : ¬ N = d := by omega
    have hNb : N ≤ 8600000000 := by omega
    have hmd : m ≤ N - d := by omega
    clear hd hr hN
    go_wp2_with fail
    refine HLEN.out.mono ?_
    rintro e w2 ⟨rfl, rfl⟩
    clear HLEN
    go_upto_region 9 with fail
    clear hmk
    generalize w2.alloc (.cells (uCells (List.replicate N 0)) 140) = w3 at hB hb ⊢
    refine wp_region_lit ?_
    iterate 15 go_step
    refine wpList_copy_splice rfl (.tmp 34) (.tmp 35) 28 28 rfl 140 Tryz.underlying28 (by kernel_rfl) (some ⟨w2.heap.size, d, none⟩) (some ⟨bk1, of1, none⟩) (N - d) (N - d) m c1 rfl rfl w2.heap.size d ((List.replicate N 0).map uCell) 140 hB ((limbs x).map uCell) (by rw [List.length_map, HM.out.symm]; exact (Nat.min_eq_left hmd).symm) ?_ (by rw [List.length_map, ← HM.out, List.length_map, List.length_replicate]; omega) (uCell_one _) w2.heap.size w2 hb (Nat.le_refl _) ?_
    · intro _
      refine ⟨rfl, _, rfl, fun j u hj => ?_⟩
      rw [List.getElem?_map] at hj
      have hjl : j < (limbs x).length := by
        rcases Nat.lt_or_ge j (limbs x).length with h | h
        · exact h
        · rw [List.getElem?_eq_none h] at hj; cases hj
      rw [List.getElem?_eq_getElem hjl] at hj
      rw [addr_at, hb.cell (p := ⟨bk1, of1 + j, none⟩) h3, HH4.out j hjl, List.getD_eq_getElem?_getD, List.getElem?_eq_getElem hjl]
      exact hj
    · intro w4 hB4 hb4
      obtain ⟨o, ho⟩ : ∃ o, o = List.replicate d 0 ++ (limbs x ++ [0]) := ⟨_, rfl⟩
      have hB5 : Blk w4 w2.heap.size (uCells o) 140 := by
        have := hB4.out
        have e : splice ((List.replicate N 0).map uCell) d ((limbs x).map uCell) = o.map uCell := by
          rw [ho, splice, ← List.map_take, ← List.map_drop, List.take_replicate, List.drop_replicate, List.length_map, ← HM.out, Nat.min_eq_left (by omega), show N - (d + m) = 1 by have := HNN.out; omega]
          simp
        rw [e] at this
        exact this
      have hoL : o.length = N := by rw [ho]; simp; have := HNN.out; have := HM.out; omega
      have hoF : Fit o := by
        rw [ho]
        intro y hy
        rcases List.mem_append.1 hy with h | h
        · have := List.eq_of_mem_replicate h; omega
        · rcases List.mem_append.1 h with h | h
          · exact fit_limbs x y h
          · simp at h; omega
      have hoV : val o = 4294967296 ^ d * x := by rw [ho, val_zeros, val_limbs]
      have hoE : (0 :: o).getLast? = some 0 := by rw [ho, ← List.append_assoc, ← List.cons_append, List.getLast?_append]; simp
      have hTot : 2 ^ r * val o = x * 2 ^ n := by
        have := shl_total n (limbs x)
        rw [val_limbs, ← HD.out, ← HR.out] at this
        rw [hoV, this]
      have HOL := Lib.hid hoL
      have HOF := Lib.hid hoF
      have HOE := Lib.hid hoE
      have HT := Lib.hid hTot
      have HB5 := Lib.hid hB5
      have HX5 := Lib.hid hb4
      have hr32 : r < 32 := by have := HR.out; omega
      clear hB hb hB4 hb4 ho hB5 hoL hoF hoV hoE hTot HH4 HM
      go_upto_region 11 with fail
      by_cases hr0 : r = 0
      · subst hr0
        have hlim := Blk.limbs HB5.out (n := N) HOF.out HOL.out.symm (by omega)
        have HCT := Lib.hid (cut_any _ _ _ hlim)
        rw [trim_eq HOF.out, show val o = x * 2 ^ n by have := HT.out; rw [Nat.pow_zero, Nat.one_mul] at this; exact this] at HCT
        clear hlim HB5
        go_wp2_with fail
        refine HCT.out.mono ?_
        rintro e w5 ⟨rfl, v3, rfl, h3⟩
        have H3 := Lib.hid h3
        clear h3
        go_wp2
        go_ret2
        exact ⟨HX5.out, _, rfl, H3.out⟩
      · have hr1 : (0 : Int) < (r : Int) := by omega
        go_upto_region 13 with fail
        go_loopw [7, 8, 43] (fun _ _ i wr => ∃ j : Nat, j ≤ N ∧ i = .int .i64 j ∧ Hid (Blk wr w2.heap.size (uCells (o.take (N - j) ++ (shL r 0 o).drop (N - j))) 140) ∧ Hid (Below w2.heap.size w2 wr)) (fun _ _ i _ => N - (intOf i).toNat)
        case atStart =>
          refine ⟨0, by omega, rfl, Lib.hid ?_, HX5⟩
          rw [Nat.sub_zero, List.take_of_length_le (by rw [HOL.out]; exact Nat.le_refl _), List.drop_of_length_le (by rw [shL_length, HOL.out]; exact Nat.le_refl _), List.append_nil]
          exact HB5.out
        case round =>
          clear HB5 HX5
          obtain ⟨j, hj, rfl, HB, HX⟩ := hrel
          by_cases h1 : j < N
          · obtain ⟨k, hk⟩ : ∃ k, k = N - j - 1 := ⟨_, rfl⟩
            have hkl : k < o.length := by have := HOL.out; omega
            have hnk : N - j = k + 1 := by omega
            rw [hnk] at HB
            have g1 : (j : Int) < (N : Int) := by omega
            have g2 : IntKind.i64.wrap ((N : Int) - 1) = (N : Int) - 1 := IntWalk.i64_in _ (by omega)
            have g3 : IntKind.i64.wrap ((N : Int) - 1 - (j : Int)) = (k : Int) := by rw [IntWalk.i64_in _ (by omega)]; omega
            have g4 : (k : Int) < (N : Int) := by omega
            have hc : wr.cell? ⟨w2.heap.size, k, none⟩ = some (.int .u32 ((o.getD k 0 : Nat) : Int)) := by
              rw [HB.out.cell, uCells_at _ _ (by simp; omega)]
              rw [List.getD_eq_getElem?_getD, List.getElem?_append_left (by simp; omega), List.getElem?_take_of_lt (by omega), ← List.getD_eq_getElem?_getD]
            have f0 : wr.frozen? ⟨w2.heap.size, k, none⟩ = false := HB.out.free k
            have HK := Lib.hid hk
            have HKL := Lib.hid hkl
            clear hk hnk hkl
            have hSk := shL_getD r 0 o k HKL.out
            have hol := getD_fit HOF.out k HKL.out
            obtain ⟨A, hA⟩ : ∃ A, A = o.getD k 0 * 2 ^ r % 4294967296 := ⟨_, rfl⟩
            obtain ⟨mm, hmm⟩ := shl_low r (o.getD k 0) (by omega)
            rw [← hA] at hmm hSk
            have hA2 : A < 4294967296 := by rw [hA]; exact Nat.mod_lt _ (by decide)
            have qa : ((o.getD k 0 : Nat) : Int) * 2 ^ r % 4294967296 = (A : Int) := by rw [hA]; simp
            have HL2 : Hid (o.take k ++ (shL r 0 o).getD k 0 :: (shL r 0 o).drop (k + 1) = o.take (N - (j + 1)) ++ (shL r 0 o).drop (N - (j + 1))) := Lib.hid (by
              have hk := HK.out
              rw [show N - (j + 1) = k by omega, ← drop_at _ _ (by rw [shL_length]; exact HKL.out)])
            have hB6 := HB.out.set k (.int .u32 (A : Int))
            rw [uCells_set, set_mid _ _ _ _ HKL.out] at hB6
            have HB6 := Lib.hid hB6
            have HX6 := Lib.hid (HX.out.setCell (p := ⟨w2.heap.size, k, none⟩) (Nat.le_refl _) (.int .u32 (A : Int)))
            clear hB6
            by_cases hk0 : k = 0
            · subst hk0
              have hSA : (shL r 0 o).getD 0 0 = A := by rw [hSk]; simp
              rw [hSA] at HL2
              have HB7 : Hid (Blk (wr.setCell ⟨w2.heap.size, 0, none⟩ (.int .u32 (A : Int))) w2.heap.size (uCells (o.take (N - (j + 1)) ++ (shL r 0 o).drop (N - (j + 1)))) 140) := Lib.hid (by rw [← HL2.out]; exact HB6.out)
              generalize (o.getD 0 0 : Nat) = X at hc qa
              clear hSk hmm hA hA2 hSA HB6 HB HX hol
              go_upto_region 16 with fail
              go_wp2_with fail
              go_roundw
              case rel => exact ⟨j + 1, by omega, by simp, HB7, HX6⟩
              case measure => simp [intOf]; omega
            · obtain ⟨k1, hk1⟩ : ∃ k1, k1 = k - 1 := ⟨_, rfl⟩
              have wk : IntKind.i64.wrap ((k : Int) - 1) = (k1 : Int) := by rw [IntWalk.i64_in _ (by omega)]; omega
              have gk : (0 : Int) < (k : Int) := by omega
              have gk1 : (k1 : Int) < (N : Int) := by omega
              have HLL : Hid (k1 < o.length ∧ k1 < k) := Lib.hid (by have := HKL.out; omega)
              rw [if_neg hk0, ← hk1] at hSk
              obtain ⟨t, ht⟩ : ∃ t, t = 32 - r := ⟨_, rfl⟩
              have wt : IntKind.i64.wrap (32 - (r : Int)) = (t : Int) := by rw [IntWalk.i64_in _ (by omega)]; omega
              have hyl := getD_fit HOF.out k1 HLL.out.1
              have hz := shr_high r (o.getD k1 0) (by omega) hyl
              obtain ⟨Z, hZ⟩ : ∃ Z, Z = o.getD k1 0 / 2 ^ (32 - r) := ⟨_, rfl⟩
              rw [← hZ] at hSk hz
              rw [← ht] at hZ
              have qz : ((o.getD k1 0 : Nat) : Int) / 2 ^ t = (Z : Int) := by rw [hZ]; simp
              have hZ2 : Z < 4294967296 := by rw [hZ]; exact Nat.lt_of_le_of_lt (Nat.div_le_self _ _) hyl
              have qo : bits .or .u32 (A : Int) (Z : Int) = ((A + Z : Nat) : Int) := by
                rw [or_u32 _ _ hA2 hZ2, hmm, Nat.or_comm, or_add _ _ r hz, Nat.add_comm]
              obtain ⟨V, hV⟩ : ∃ V, V = A + Z := ⟨_, rfl⟩
              rw [← hV] at qo hSk
              rw [hSk] at HL2
              have qm : min t 32 = t := by omega
              have hc1 : (wr.setCell ⟨w2.heap.size, k, none⟩ (.int .u32 (A : Int))).cell? ⟨w2.heap.size, k1, none⟩ = some (.int .u32 ((o.getD k1 0 : Nat) : Int)) := by
                have h2 := HLL.out.2
                have hkl := HKL.out
                rw [HB6.out.cell, uCells_at _ _ (by rw [List.length_append, List.length_take, List.length_cons]; omega)]
                rw [List.getD_eq_getElem?_getD, List.getElem?_append_left (by rw [List.length_take]; omega), List.getElem?_take_of_lt (by omega), ← List.getD_eq_getElem?_getD]
              have hc0 : (wr.setCell ⟨w2.heap.size, k, none⟩ (.int .u32 (A : Int))).cell? ⟨w2.heap.size, k, none⟩ = some (.int .u32 (A : Int)) := by
                have hkl := HKL.out
                rw [HB6.out.cell, uCells_at _ _ (by rw [List.length_append, List.length_take, List.length_cons]; omega)]
                rw [List.getD_eq_getElem?_getD, List.getElem?_append_right (by rw [List.length_take]; omega), List.length_take, Nat.min_eq_left (by omega), Nat.sub_self]
                rfl
              have f6 : (wr.setCell ⟨w2.heap.size, k, none⟩ (.int .u32 (A : Int))).frozen? ⟨w2.heap.size, k, none⟩ = false := HB6.out.free k
              have hB7 := HB6.out.set k (.int .u32 (V : Int))
              rw [uCells_set, List.set_append_right _ _ (by simp; omega), List.length_take, Nat.min_eq_left (by have := HKL.out; omega), Nat.sub_self, List.set_cons_zero, HL2.out] at hB7
              have HB7 := Lib.hid hB7.drew
              have HX7 := Lib.hid ((HX6.out.setCell (p := ⟨w2.heap.size, k, none⟩) (Nat.le_refl _) (.int .u32 (V : Int))).drew)
              generalize (o.getD k 0 : Nat) = X at hc qa
              generalize (o.getD k1 0 : Nat) = Y at hc1 qz
              clear hSk hmm hA hA2 HB hol hz hZ hZ2 hV hk0 ht hk1 hyl hB7 HL2 HX
              go_upto_region 16 with fail
              go_upto_region 18 with fail
              clear hc f0
              generalize (wr.setCell ⟨w2.heap.size, k, none⟩ (.int .u32 (A : Int))) = w6 at hc1 hc0 f6 HB7 HX7 ⊢
              go_region
              go_wp2
              go_roundw
              case rel => exact ⟨j + 1, by omega, by simp, HB7, HX7⟩
              case measure => simp [intOf]; omega
          · obtain rfl : j = N := by omega
            have g1 : ¬ (j : Int) < (j : Int) := by omega
            have hBf := HB.out
            rw [Nat.sub_self, List.take_zero, List.drop_zero, List.nil_append] at hBf
            have hF := shL_fit r 0 o (by omega) (by decide) HOF.out
            have hlim := Blk.limbs hBf (n := j) hF (by rw [shL_length]; exact HOL.out.symm) (by omega)
            have HCT := Lib.hid (cut_any _ _ _ hlim)
            rw [trim_eq hF, shL_val r 0 o (by omega) HOE.out, Nat.zero_div, Nat.add_zero, HT.out] at HCT
            clear hBf hF hlim HB
            go_wp2_with fail
            refine HCT.out.mono ?_
            rintro e w5 ⟨rfl, v3, rfl, h3⟩
            have H3 := Lib.hid h3
            clear h3
            go_wp2
            go_ret2
            exact ⟨HX.out, _, rfl, H3.out⟩
end Go.Proofs.YtbhfoelnoddlkaaGreatDoor.D

