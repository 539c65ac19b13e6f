/-
  Of the proof that the law DiagDeep answers true at every row of bytes: a part, without conditions of its own.
-/
import Derived.Test.YtbhfoelnoddlkaaGreatDoorPart23
set_option linter.unusedVariables false
set_option linter.unusedSimpArgs false
/-
  quot.below, quot.back: walked.
-/
namespace Go.Proofs.YtbhfoelnoddlkaaGreatDoor.D
open Go Go.RowKit Limb

theorem val_snoc_one (Z : List Nat) (z : Nat) : val (Z ++ [z]) = val Z + 4294967296 ^ Z.length * z := by
  rw [val_append]; simp [val]
theorem getD_drop (X : List Nat) (j i : Nat) : (X.drop j).getD i 0 = X.getD (j + i) 0 := by
  rw [List.getD_eq_getElem?_getD, List.getElem?_drop, ← List.getD_eq_getElem?_getD]
/-- A window of a list written anew up to i. -/
def win (X Z : List Nat) (j : Nat) : List Nat := X.take j ++ (Z ++ X.drop (j + Z.length))
theorem win_nil (X : List Nat) (j : Nat) : win X [] j = X := by simp [win]
theorem win_length (X Z : List Nat) (j : Nat) (h : j + Z.length ≤ X.length) : (win X Z j).length = X.length := by simp [win]; omega
theorem win_at (X Z : List Nat) (j : Nat) (h : j + Z.length < X.length) : (win X Z j).getD (j + Z.length) 0 = X.getD (j + Z.length) 0 := by
  unfold win
  rw [List.getD_eq_getElem?_getD, List.getElem?_append_right (by simp; omega), List.length_take, Nat.min_eq_left (by omega), Nat.add_sub_cancel_left, List.getElem?_append_right (Nat.le_refl _), Nat.sub_self, List.getElem?_drop, Nat.add_zero, ← List.getD_eq_getElem?_getD]
theorem win_set (X Z : List Nat) (j z : Nat) (h : j + Z.length < X.length) : (win X Z j).set (j + Z.length) z = win X (Z ++ [z]) j := by
  unfold win
  rw [List.set_append_right _ _ (by simp; omega), List.length_take, Nat.min_eq_left (by omega), Nat.add_sub_cancel_left, List.set_append_right _ _ (Nat.le_refl _), Nat.sub_self, List.drop_eq_getElem_cons h, List.set_cons_zero, List.length_append, List.append_assoc]
  rfl
theorem fit_snoc {Z : List Nat} (h : Fit Z) (z : Nat) (hz : z < 4294967296) : Fit (Z ++ [z]) := by
  intro y hy
  rcases List.mem_append.1 hy with h1 | h1
  · exact h y h1
  · simp at h1; omega
theorem fit_win {X Z : List Nat} (hX : Fit X) (hZ : Fit Z) (j : Nat) : Fit (win X Z j) := by
  intro y hy
  rcases List.mem_append.1 hy with h | h
  · exact hX y (List.mem_of_mem_take h)
  · rcases List.mem_append.1 h with h | h
    · exact hZ y h
    · exact hX y (List.mem_of_mem_drop h)
theorem below_step (Z X Y : List Nat) (i j m ca bo z ca' bo' : Nat) (hZ : Z.length = i) (hv : val Z + m * val (Y.take i) = val ((X.drop j).take i) + 4294967296 ^ i * (ca + bo))
    (h : z + (Y.getD i 0 * m + ca) + bo = X.getD (j + i) 0 + 4294967296 * (ca' + bo')) :
    val (Z ++ [z]) + m * val (Y.take (i + 1)) = val ((X.drop j).take (i + 1)) + 4294967296 ^ (i + 1) * (ca' + bo') := by
  rw [val_snoc_one, hZ, val_take_succ Y, val_take_succ (X.drop j), getD_drop, Nat.pow_succ]
  generalize val Z = a at *
  generalize val (Y.take i) = b at *
  generalize val ((X.drop j).take i) = c at *
  generalize Y.getD i 0 = y at *
  generalize X.getD (j + i) 0 = x at *
  generalize 4294967296 ^ i = K at *
  grind
theorem below_last (Z X Y : List Nat) (n j m ca bo z bo' : Nat) (hZ : Z.length = n) (hv : val Z + m * val (Y.take n) = val ((X.drop j).take n) + 4294967296 ^ n * (ca + bo))
    (h : z + ca + bo = X.getD (j + n) 0 + 4294967296 * bo') :
    val (Z ++ [z]) + m * val (Y.take n) = val ((X.drop j).take (n + 1)) + 4294967296 ^ (n + 1) * bo' := by
  rw [val_snoc_one, hZ, val_take_succ (X.drop j), getD_drop, Nat.pow_succ]
  generalize val Z = a at *
  generalize val (Y.take n) = b at *
  generalize val ((X.drop j).take n) = c at *
  generalize X.getD (j + n) 0 = x at *
  generalize 4294967296 ^ n = K at *
  grind
theorem and_mask (p : Nat) (h : p < 18446744073709551616) : bits .and .u64 (p : Int) 4294967295 = ((p % 4294967296 : Nat) : Int) := by
  have := and_u64 p 4294967295 h (by decide)
  rw [show ((4294967295 : Nat) : Int) = 4294967295 from rfl, show (4294967295 : Nat) = 2 ^ 32 - 1 from rfl, Nat.and_two_pow_sub_one_eq_mod] at this
  exact this

set_option maxRecDepth 100000 in
set_option maxHeartbeats 1000000 in
theorem below_any (w : World) (g gy j n m cx cy : Nat) (X Y : List Nat) (hX : RowU w g X) (hY : RowU w gy Y) (hne : gy ≠ g) (hfX : Fit X) (hfY : Fit Y) (hj : j + n + 1 ≤ X.length) (hn : n ≤ Y.length) (hl : X.length ≤ 17179869184) (hm : m < 4294967296) :
    Calls Tryz.prog 240 #[.slice (some ⟨g, j, none⟩) (n + 1) cx, .slice (some ⟨gy, 0, none⟩) n cy, .int .u64 (m : Int)] w fun e w' => ∃ (Z : List Nat) (bo : Nat), bo ≤ 1 ∧ e = .returned (.bool (bo == 1)) ∧ Z.length = n + 1 ∧ Fit Z ∧ val Z + m * val (Y.take n) = val ((X.drop j).take (n + 1)) + 4294967296 ^ (n + 1) * bo ∧ RowU w' g (win X Z j) ∧ Ex (fun k => k = g) w.heap.size w w' := by
  have hX0 : RowU w g (win X [] j) := by rw [win_nil]; exact hX
  have HX0 := Lib.hid hX0
  have HY := Lib.hid hY
  have HG := Lib.hid hX.lt
  have HGY := Lib.hid hY.lt
  have HNE := Lib.hid hne
  have HFX := Lib.hid hfX
  have HFY := Lib.hid hfY
  have HE0 : Hid (Ex (fun k => k = g) w.heap.size w w) := Lib.hid (Ex.refl _ _ _)
  have HJ := Lib.hid hj
  have HNY := Lib.hid hn
  have hnb : n ≤ 17179869184 := by omega
  clear hX0 hX hY hne hfX hfY hj hn
  go_enter Tryz.func240, Tryz.ntmps240
  go_upto_region 3 with fail
  go_loopw [7, 8, 9, 10, 11, 12, 16] (fun cv bv _ _ _ _ iv wr => ∃ (i ca bo : Nat) (Z : List Nat), i ≤ n ∧ iv = .int .i64 i ∧ cv = .int .u64 (ca : Nat) ∧ bv = .int .u64 (bo : Nat) ∧ ca < 4294967296 ∧ bo ≤ 1 ∧ Hid (Z.length = i ∧ Fit Z ∧ val Z + m * val (Y.take i) = val ((X.drop j).take i) + 4294967296 ^ i * (ca + bo)) ∧ Hid (RowU wr g (win X Z j)) ∧ Hid (Ex (fun k => k = g) w.heap.size w wr)) (fun _ _ _ _ _ _ iv _ => n - (intOf iv).toNat)
  case atStart => exact ⟨0, 0, 0, [], by omega, rfl, rfl, rfl, by decide, by decide, Lib.hid ⟨rfl, fun x hx => by simp at hx, by simp [val]⟩, HX0, HE0⟩
  case round =>
    clear HX0 HE0
    obtain ⟨i, ca, bo, Z, hi, rfl, rfl, rfl, hca, hbo, HZ, HX, HE⟩ := hrel
    by_cases h1 : i < n
    · have g1 : (i : Int) < (n : Int) := by omega
      have g2 : (i : Int) < (n : Int) + 1 := by omega
      have hcY : wr.cell? ⟨gy, i, none⟩ = some (.int .u32 ((Y.getD i 0 : Nat) : Int)) := (HY.out.ex HE.out HGY.out HNE.out).cell i (by have := HNY.out; omega)
      have hwl : (win X Z j).length = X.length := win_length X Z j (by rw [HZ.out.1]; have := HJ.out; omega)
      have hcX : wr.cell? ⟨g, j + i, none⟩ = some (.int .u32 ((X.getD (j + i) 0 : Nat) : Int)) := by
        have := HX.out.cell (j + i) (by rw [hwl]; have := HJ.out; omega)
        have e := win_at X Z j (by rw [HZ.out.1]; have := HJ.out; omega)
        rw [HZ.out.1] at e
        rw [e] at this
        exact this
      have f0 : wr.frozen? ⟨g, j + i, none⟩ = false := HX.out.free _
      have hyf := getD_fit HFY.out i (by have := HNY.out; omega)
      have hxf := getD_fit HFX.out (j + i) (by have := HJ.out; omega)
      have HST := Lib.hid (fun z ca' bo' => below_step Z X Y i j m ca bo z ca' bo' HZ.out.1 HZ.out.2.2)
      generalize Y.getD i 0 = y at hcY hyf HST
      generalize X.getD (j + i) 0 = x at hcX hxf HST
      obtain ⟨M, hM⟩ : ∃ M, M = y * m := ⟨_, rfl⟩
      have hM2 : M ≤ 4294967295 * 4294967295 := by rw [hM]; exact Nat.mul_le_mul (by omega) (by omega)
      rw [← hM] at HST
      have q1 : IntKind.u64.wrap (y : Int) = (y : Int) := by rw [IntKind.wrap_u64]; omega
      have q2 : IntKind.u64.wrap ((y : Int) * (m : Int)) = (M : Int) := by
        rw [show (y : Int) * (m : Int) = (M : Int) by rw [hM]; simp, IntKind.wrap_u64]; omega
      obtain ⟨p, hp⟩ : ∃ p, p = M + ca := ⟨_, rfl⟩
      rw [← hp] at HST
      have q3 : IntKind.u64.wrap ((M : Int) + (ca : Int)) = (p : Int) := by rw [IntKind.wrap_u64]; omega
      have q4 : (p : Int) / 4294967296 = ((p / 4294967296 : Nat) : Int) := by omega
      have q5 : IntKind.u64.wrap (x : Int) = (x : Int) := by rw [IntKind.wrap_u64]; omega
      have q6 := and_mask p (by omega)
      have hd := Nat.div_add_mod p 4294967296
      have hmod := Nat.mod_lt p (show 4294967296 > 0 by decide)
      have hq : p / 4294967296 < 4294967296 := by omega
      generalize p % 4294967296 = pl at q6 hd hmod
      generalize p / 4294967296 = ca' at q4 hd hq
      obtain ⟨D1, hD1⟩ : ∃ D1, D1 = (x + 18446744073709551616 - pl) % 18446744073709551616 := ⟨_, rfl⟩
      obtain ⟨D, hD⟩ : ∃ D, D = (D1 + 18446744073709551616 - bo) % 18446744073709551616 := ⟨_, rfl⟩
      have q7 : IntKind.u64.wrap ((x : Int) - (pl : Int)) = (D1 : Int) := by rw [IntKind.wrap_u64]; omega
      have q8 : IntKind.u64.wrap ((D1 : Int) - (bo : Int)) = (D : Int) := by rw [IntKind.wrap_u64]; omega
      obtain ⟨z, hz⟩ : ∃ z, z = D % 4294967296 := ⟨_, rfl⟩
      obtain ⟨bo', hbo'⟩ : ∃ bo', bo' = D / 9223372036854775808 := ⟨_, rfl⟩
      have q9 : IntKind.u32.wrap (D : Int) = (z : Int) := by rw [IntKind.wrap_u32]; omega
      have q10 : (D : Int) % 4294967296 = (z : Int) := by omega
      have q11 : (D : Int) / 9223372036854775808 = (bo' : Int) := by omega
      have hz2 : z < 4294967296 := by omega
      have hb2 : bo' ≤ 1 := by omega
      have heq : z + pl + bo = x + 4294967296 * bo' := by omega
      have HST2 := Lib.hid (HST.out z ca' bo' (by omega))
      have HZ2 := Lib.hid hz2
      clear hM hM2 hp hd hmod hD1 hD hz hbo' hz2 heq HST hxf hyf hwl
      have hX3 := HX.out.set (j + i) z (by rw [win_length X Z j (by rw [HZ.out.1]; have := HJ.out; omega)]; have := HJ.out; omega)
      have hw := win_set X Z j z (by rw [HZ.out.1]; have := HJ.out; omega)
      rw [HZ.out.1] at hw
      rw [hw] at hX3
      have HX3 := Lib.hid hX3
      have HE3 := Lib.hid (HE.out.setCell g (j + i) (Or.inl rfl) (.int .u32 (z : Int)))
      clear hX3 hw
      go_wp2
      go_roundw
      case rel => exact ⟨i + 1, ca', bo', Z ++ [z], by omega, by simp, rfl, rfl, hq, hb2, Lib.hid ⟨by simp [HZ.out.1], fit_snoc HZ.out.2.1 z HZ2.out, HST2.out⟩, HX3, HE3⟩
      case measure => simp [intOf]; omega
    · obtain rfl : i = n := by omega
      have g1 : ¬ (i : Int) < (i : Int) := by omega
      have g2 : (i : Int) < (i : Int) + 1 := by omega
      have hwl : (win X Z j).length = X.length := win_length X Z j (by rw [HZ.out.1]; have := HJ.out; omega)
      have hcX : wr.cell? ⟨g, j + i, none⟩ = some (.int .u32 ((X.getD (j + i) 0 : Nat) : Int)) := by
        have := HX.out.cell (j + i) (by rw [hwl]; have := HJ.out; omega)
        have e := win_at X Z j (by rw [HZ.out.1]; have := HJ.out; omega)
        rw [HZ.out.1] at e
        rw [e] at this
        exact this
      have f0 : wr.frozen? ⟨g, j + i, none⟩ = false := HX.out.free _
      have hxf := getD_fit HFX.out (j + i) (by have := HJ.out; omega)
      have HST := Lib.hid (fun z bo' => below_last Z X Y i j m ca bo z bo' HZ.out.1 HZ.out.2.2)
      generalize X.getD (j + i) 0 = x at hcX hxf HST
      have q5 : IntKind.u64.wrap (x : Int) = (x : Int) := by rw [IntKind.wrap_u64]; omega
      obtain ⟨D1, hD1⟩ : ∃ D1, D1 = (x + 18446744073709551616 - ca) % 18446744073709551616 := ⟨_, rfl⟩
      obtain ⟨D, hD⟩ : ∃ D, D = (D1 + 18446744073709551616 - bo) % 18446744073709551616 := ⟨_, rfl⟩
      have q7 : IntKind.u64.wrap ((x : Int) - (ca : Int)) = (D1 : Int) := by rw [IntKind.wrap_u64]; omega
      have q8 : IntKind.u64.wrap ((D1 : Int) - (bo : Int)) = (D : Int) := by rw [IntKind.wrap_u64]; omega
      obtain ⟨z, hz⟩ : ∃ z, z = D % 4294967296 := ⟨_, rfl⟩
      obtain ⟨bo', hbo'⟩ : ∃ bo', bo' = D / 9223372036854775808 := ⟨_, rfl⟩
      have q9 : IntKind.u32.wrap (D : Int) = (z : Int) := by rw [IntKind.wrap_u32]; omega
      have q10 : (D : Int) % 4294967296 = (z : Int) := by omega
      have q11 : (D : Int) / 9223372036854775808 = (bo' : Int) := by omega
      have hz2 : z < 4294967296 := by omega
      have hb2 : bo' ≤ 1 := by omega
      have heq : z + ca + bo = x + 4294967296 * bo' := by omega
      have HST2 := Lib.hid (HST.out z bo' heq)
      have HZ2 := Lib.hid hz2
      have q12 : ((bo' : Int) == 1) = (bo' == 1) := by
        rcases (by omega : bo' = 0 ∨ bo' = 1) with h | h <;> rw [h] <;> rfl
      have HBB := Lib.hid hb2
      generalize hbb : (bo' == 1) = bb at q12
      have HQ := Lib.hid hbb
      clear hD1 hD hz hbo' hz2 heq HST hxf hwl hb2 hbb
      have hX3 := HX.out.set (j + i) z (by rw [win_length X Z j (by rw [HZ.out.1]; have := HJ.out; omega)]; have := HJ.out; omega)
      have hw := win_set X Z j z (by rw [HZ.out.1]; have := HJ.out; omega)
      rw [HZ.out.1] at hw
      rw [hw] at hX3
      have HX3 := Lib.hid hX3
      have HE3 := Lib.hid (HE.out.setCell g (j + i) (Or.inl rfl) (.int .u32 (z : Int)))
      clear hX3 hw
      go_wp2
      go_ret
      exact ⟨Z ++ [z], bo', HBB.out, by rw [HQ.out]; rfl, by simp [HZ.out.1], fit_snoc HZ.out.2.1 z HZ2.out, HST2.out, HX3.out, HE3.out⟩

theorem back_step (Z X Y : List Nat) (i j ca z ca' : Nat) (hZ : Z.length = i) (hv : val Z + 4294967296 ^ i * ca = val ((X.drop j).take i) + val (Y.take i))
    (h : z + 4294967296 * ca' = X.getD (j + i) 0 + Y.getD i 0 + ca) :
    val (Z ++ [z]) + 4294967296 ^ (i + 1) * ca' = val ((X.drop j).take (i + 1)) + val (Y.take (i + 1)) := by
  rw [val_snoc_one, hZ, val_take_succ Y, val_take_succ (X.drop j), getD_drop, Nat.pow_succ]
  generalize val Z = a at *
  generalize val (Y.take i) = b at *
  generalize val ((X.drop j).take i) = c at *
  generalize Y.getD i 0 = y at *
  generalize X.getD (j + i) 0 = x at *
  generalize 4294967296 ^ i = K at *
  grind
theorem back_last (Z X Y : List Nat) (n j ca z co : Nat) (hZ : Z.length = n) (hv : val Z + 4294967296 ^ n * ca = val ((X.drop j).take n) + val (Y.take n))
    (h : z + 4294967296 * co = X.getD (j + n) 0 + ca) :
    val (Z ++ [z]) + 4294967296 ^ (n + 1) * co = val ((X.drop j).take (n + 1)) + val (Y.take n) := by
  rw [val_snoc_one, hZ, val_take_succ (X.drop j), getD_drop, Nat.pow_succ]
  generalize val Z = a at *
  generalize val (Y.take n) = b at *
  generalize val ((X.drop j).take n) = c at *
  generalize X.getD (j + n) 0 = x at *
  generalize 4294967296 ^ n = K at *
  grind

set_option maxRecDepth 100000 in
set_option maxHeartbeats 1000000 in
theorem back_any (w : World) (g gy j n cx cy : Nat) (X Y : List Nat) (hX : RowU w g X) (hY : RowU w gy Y) (hne : gy ≠ g) (hfX : Fit X) (hfY : Fit Y) (hj : j + n + 1 ≤ X.length) (hn : n ≤ Y.length) (hl : X.length ≤ 17179869184) :
    Calls Tryz.prog 241 #[.slice (some ⟨g, j, none⟩) (n + 1) cx, .slice (some ⟨gy, 0, none⟩) n cy] w fun e w' => e = .returned (.tuple #[]) ∧ ∃ (Z : List Nat) (co : Nat), Z.length = n + 1 ∧ Fit Z ∧ val Z + 4294967296 ^ (n + 1) * co = val ((X.drop j).take (n + 1)) + val (Y.take n) ∧ RowU w' g (win X Z j) ∧ Ex (fun k => k = g) w.heap.size w w' := by
  have hX0 : RowU w g (win X [] j) := by rw [win_nil]; exact hX
  have HX0 := Lib.hid hX0
  have HY := Lib.hid hY
  have HGY := Lib.hid hY.lt
  have HNE := Lib.hid hne
  have HFX := Lib.hid hfX
  have HFY := Lib.hid hfY
  have HE0 : Hid (Ex (fun k => k = g) w.heap.size w w) := Lib.hid (Ex.refl _ _ _)
  have HJ := Lib.hid hj
  have HNY := Lib.hid hn
  have hnb : n ≤ 17179869184 := by omega
  clear hX0 hX hY hne hfX hfY hj hn
  go_enter Tryz.func241, Tryz.ntmps241
  go_upto_region 2 with fail
  go_loopw [4, 5, 6, 7, 10] (fun cv _ _ _ iv wr => ∃ (i ca : Nat) (Z : List Nat), i ≤ n ∧ iv = .int .i64 i ∧ cv = .int .u64 (ca : Nat) ∧ ca < 4294967296 ∧ Hid (Z.length = i ∧ Fit Z ∧ val Z + 4294967296 ^ i * ca = val ((X.drop j).take i) + val (Y.take i)) ∧ Hid (RowU wr g (win X Z j)) ∧ Hid (Ex (fun k => k = g) w.heap.size w wr)) (fun _ _ _ _ iv _ => n - (intOf iv).toNat)
  case atStart => exact ⟨0, 0, [], by omega, rfl, rfl, by decide, Lib.hid ⟨rfl, fun x hx => by simp at hx, by simp [val]⟩, HX0, HE0⟩
  case round =>
    clear HX0 HE0
    obtain ⟨i, ca, Z, hi, rfl, rfl, hca, HZ, HX, HE⟩ := hrel
    by_cases h1 : i < n
    · have g1 : (i : Int) < (n : Int) := by omega
      have g2 : (i : Int) < (n : Int) + 1 := by omega
      have hcY : wr.cell? ⟨gy, i, none⟩ = some (.int .u32 ((Y.getD i 0 : Nat) : Int)) := (HY.out.ex HE.out HGY.out HNE.out).cell i (by have := HNY.out; omega)
      have hwl : (win X Z j).length = X.length := win_length X Z j (by rw [HZ.out.1]; have := HJ.out; omega)
      have hcX : wr.cell? ⟨g, j + i, none⟩ = some (.int .u32 ((X.getD (j + i) 0 : Nat) : Int)) := by
        have := HX.out.cell (j + i) (by rw [hwl]; have := HJ.out; omega)
        have e := win_at X Z j (by rw [HZ.out.1]; have := HJ.out; omega)
        rw [HZ.out.1] at e
        rw [e] at this
        exact this
      have f0 : wr.frozen? ⟨g, j + i, none⟩ = false := HX.out.free _
      have hyf := getD_fit HFY.out i (by have := HNY.out; omega)
      have hxf := getD_fit HFX.out (j + i) (by have := HJ.out; omega)
      have HST := Lib.hid (fun z ca' => back_step Z X Y i j ca z ca' HZ.out.1 HZ.out.2.2)
      generalize Y.getD i 0 = y at hcY hyf HST
      generalize X.getD (j + i) 0 = x at hcX hxf HST
      have q1 : IntKind.u64.wrap (x : Int) = (x : Int) := by rw [IntKind.wrap_u64]; omega
      have q2 : IntKind.u64.wrap (y : Int) = (y : Int) := by rw [IntKind.wrap_u64]; omega
      have q3 : IntKind.u64.wrap ((x : Int) + (y : Int)) = (x : Int) + (y : Int) := by rw [IntKind.wrap_u64]; omega
      obtain ⟨s, hs⟩ : ∃ s, s = x + y + ca := ⟨_, rfl⟩
      have q4 : IntKind.u64.wrap ((x : Int) + (y : Int) + (ca : Int)) = (s : Int) := by rw [IntKind.wrap_u64]; omega
      obtain ⟨z, hz⟩ : ∃ z, z = s % 4294967296 := ⟨_, rfl⟩
      obtain ⟨ca', hca'⟩ : ∃ ca', ca' = s / 4294967296 := ⟨_, rfl⟩
      have q9 : IntKind.u32.wrap (s : Int) = (z : Int) := by rw [IntKind.wrap_u32]; omega
      have q10 : (s : Int) % 4294967296 = (z : Int) := by omega
      have q11 : (s : Int) / 4294967296 = (ca' : Int) := by omega
      have hz2 : z < 4294967296 := by omega
      have hq : ca' < 4294967296 := by omega
      have HST2 := Lib.hid (HST.out z ca' (by omega))
      have HZ2 := Lib.hid hz2
      clear hs hz hca' hz2 HST hxf hyf hwl
      have hX3 := HX.out.set (j + i) z (by rw [win_length X Z j (by rw [HZ.out.1]; have := HJ.out; omega)]; have := HJ.out; omega)
      have hw := win_set X Z j z (by rw [HZ.out.1]; have := HJ.out; omega)
      rw [HZ.out.1] at hw
      rw [hw] at hX3
      have HX3 := Lib.hid hX3
      have HE3 := Lib.hid (HE.out.setCell g (j + i) (Or.inl rfl) (.int .u32 (z : Int)))
      clear hX3 hw
      go_wp2
      go_roundw
      case rel => exact ⟨i + 1, ca', Z ++ [z], by omega, by simp, rfl, hq, Lib.hid ⟨by simp [HZ.out.1], fit_snoc HZ.out.2.1 z HZ2.out, HST2.out⟩, HX3, HE3⟩
      case measure => simp [intOf]; omega
    · obtain rfl : i = n := by omega
      have g1 : ¬ (i : Int) < (i : Int) := by omega
      have g2 : (i : Int) < (i : Int) + 1 := by omega
      have hwl : (win X Z j).length = X.length := win_length X Z j (by rw [HZ.out.1]; have := HJ.out; omega)
      have hcX : wr.cell? ⟨g, j + i, none⟩ = some (.int .u32 ((X.getD (j + i) 0 : Nat) : Int)) := by
        have := HX.out.cell (j + i) (by rw [hwl]; have := HJ.out; omega)
        have e := win_at X Z j (by rw [HZ.out.1]; have := HJ.out; omega)
        rw [HZ.out.1] at e
        rw [e] at this
        exact this
      have f0 : wr.frozen? ⟨g, j + i, none⟩ = false := HX.out.free _
      have hxf := getD_fit HFX.out (j + i) (by have := HJ.out; omega)
      have HST := Lib.hid (fun z co => back_last Z X Y i j ca z co HZ.out.1 HZ.out.2.2)
      generalize X.getD (j + i) 0 = x at hcX hxf HST
      have q5 : IntKind.u32.wrap (ca : Int) = (ca : Int) := by rw [IntKind.wrap_u32]; omega
      have q6 : (ca : Int) % 4294967296 = (ca : Int) := by omega
      obtain ⟨z, hz⟩ : ∃ z, z = (x + ca) % 4294967296 := ⟨_, rfl⟩
      have q9 : IntKind.u32.wrap ((x : Int) + (ca : Int)) = (z : Int) := by rw [IntKind.wrap_u32]; omega
      have q10 : ((x : Int) + (ca : Int)) % 4294967296 = (z : Int) := by omega
      have hz2 : z < 4294967296 := by omega
      have HST2 := Lib.hid (HST.out z ((x + ca) / 4294967296) (by omega))
      have HZ2 := Lib.hid hz2
      clear hz hz2 HST hxf hwl
      have hX3 := HX.out.set (j + i) z (by rw [win_length X Z j (by rw [HZ.out.1]; have := HJ.out; omega)]; have := HJ.out; omega)
      have hw := win_set X Z j z (by rw [HZ.out.1]; have := HJ.out; omega)
      rw [HZ.out.1] at hw
      rw [hw] at hX3
      have HX3 := Lib.hid hX3
      have HE3 := Lib.hid (HE.out.setCell g (j + i) (Or.inl rfl) (.int .u32 (z : Int)))
      clear hX3 hw
      go_wp2
      go_end0
      exact ⟨rfl, Z ++ [z], by simp [HZ.out.1], fit_snoc HZ.out.2.1 z HZ2.out, ⟨_, HST2.out⟩, HX3.out, HE3.out⟩
end Go.Proofs.YtbhfoelnoddlkaaGreatDoor.D

