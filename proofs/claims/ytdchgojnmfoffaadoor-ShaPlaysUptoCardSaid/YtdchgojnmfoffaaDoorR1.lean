import Derived.Test.YtdchgojnmfoffaaDoorT2
import Derived.Deep.RegionWith
namespace Go.Proofs.YtdchgojnmfoffaaDoor.Sha
open Go Go.RowKit

theorem ret_int {k : IntKind} {a b : Int} (h : a = b) : Ending.returned (.int k a) = .returned (.int k b) := by rw [h]
theorem pow_pos2 (k : Nat) : (1 : Int) ≤ 2 ^ k := by
  have : (0 : Int) < 2 ^ k := Int.pow_pos (by decide)
  omega
theorem pow_le32 (k : Nat) (h : k ≤ 32) : (2 : Int) ^ k ≤ 4294967296 := by
  have h1 : (2 : Nat) ^ k ≤ 2 ^ 32 := Nat.pow_le_pow_right (by decide) h
  have h2 : (2 : Nat) ^ 32 = 4294967296 := by decide
  have h3 : (2 : Int) ^ k = ((2 ^ k : Nat) : Int) := by simp
  rw [h3]; omega

theorem two_any (n : Int) (h0 : 0 ≤ n) (h1 : n ≤ 32) (w : World) :
    Calls Tryd.prog 27 #[.int .i64 n] w fun e w' => e = .returned (.int .i64 (2 ^ n.toNat)) ∧ w' = w := by
  obtain ⟨n, rfl⟩ := Int.eq_ofNat_of_zero_le h0
  rw [Int.toNat_natCast]
  go_enter Tryd.func27, Tryd.ntmps27
  go_wp2
  go_loop [3, 4] (fun x i => ∃ (k : Nat) (y : Int), k ≤ n ∧ y = 2 ^ k ∧ i = .int .i64 k ∧ x = .int .i64 y) (fun _ i => n - (intOf i).toNat)
  case atStart => exact ⟨0, 1, Nat.zero_le _, rfl, rfl, rfl⟩
  case round =>
    obtain ⟨k, y, hk, hy, rfl, rfl⟩ := hrel
    have b1 := pow_pos2 k
    have b2 := pow_le32 k (by omega)
    rw [← hy] at b1 b2
    have HY := Lib.hid hy
    clear hy
    by_cases hlt : k < n
    · go_wp2
      go_round
      case rel => exact ⟨k + 1, 2 * y, by omega, by rw [HY.out, Int.pow_succ]; omega, by simp, rfl⟩
      case measure => simp [intOf]; omega
    · obtain rfl : k = n := by omega
      go_wp2
      go_ret
      rw [HY.out]
      exact ⟨rfl, rfl⟩

theorem rot_n (x : W) (k : Nat) (hk : k < 32) (h0 : 0 < k) : tn x / 2 ^ k + tn x % 2 ^ k * 2 ^ (32 - k) = tn (rr x k) := by
  have h1 : (rr x k).toNat = x.toNat / 2 ^ k + x.toNat % 2 ^ k * 2 ^ (32 - k) := by
    unfold rr
    rw [BitVec.rotateRight_def, Nat.mod_eq_of_lt hk, BitVec.toNat_or, BitVec.toNat_ushiftRight, BitVec.toNat_shiftLeft, Nat.shiftRight_eq_div_pow, Nat.shiftLeft_eq]
    have hlt : x.toNat / 2 ^ k < 2 ^ (32 - k) := by
      rw [Nat.div_lt_iff_lt_mul (Nat.two_pow_pos _), ← Nat.pow_add, show 32 - k + k = 32 by omega]; exact x.isLt
    have e : x.toNat * 2 ^ (32 - k) % 2 ^ 32 = x.toNat % 2 ^ k * 2 ^ (32 - k) := by
      rw [show (2 : Nat) ^ 32 = 2 ^ k * 2 ^ (32 - k) by rw [← Nat.pow_add, show k + (32 - k) = 32 by omega], Nat.mul_mod_mul_right]
    rw [e, Nat.or_comm, Nat.mul_comm (x.toNat % 2 ^ k), ← Nat.two_pow_add_eq_or_of_lt hlt]
    omega
  unfold tn
  rw [h1]; push_cast; rfl
theorem rot_wrap (x : W) (k : Nat) (hk : k < 32) (h0 : 0 < k) (d d2 : Int) (hd : d = 2 ^ k) (hd2 : d2 = 2 ^ (32 - k)) :
    IntKind.i64.wrap (IntKind.i64.wrap ((tn x).tdiv d) + IntKind.i64.wrap ((tn x).tmod d * d2)) = tn (rr x k) := by
  subst hd hd2
  have a := tn_lo x; have b := tn_hi x; have c := tn_lo (rr x k); have e := tn_hi (rr x k)
  have r := rot_n x k hk h0
  rw [Int.tdiv_eq_ediv_of_nonneg a, Int.tmod_eq_emod_of_nonneg a]
  have p1 := pow_pos2 k
  have q1 : 0 ≤ tn x / 2 ^ k := Int.ediv_nonneg a (by omega)
  have q2 : tn x / 2 ^ k ≤ tn x := Int.ediv_le_self _ a
  have q3 : 0 ≤ tn x % 2 ^ k * 2 ^ (32 - k) := Int.mul_nonneg (Int.emod_nonneg _ (by omega)) (by have := pow_pos2 (32 - k); omega)
  rw [IntWalk.i64_in (tn x / 2 ^ k) (by omega), IntWalk.i64_in (tn x % 2 ^ k * 2 ^ (32 - k)) (by omega), IntWalk.i64_in _ (by omega), r]

/-- 2 to the power of n. -/
def tw (n : Int) : Int := 2 ^ n.toNat
theorem two_tw (n : Int) (h : 0 ≤ n ∧ n ≤ 32) (w : World) :
    Calls Tryd.prog 27 #[.int .i64 n] w fun e w' => e = .returned (.int .i64 (tw n)) ∧ w' = w := two_any n h.1 h.2 w

theorem rotated_any (x : W) (k : Int) (hk : 0 < k ∧ k < 32) (w : World) :
    Calls Tryd.prog 34 #[.int .i64 (tn x), .int .i64 k] w fun e w' => e = .returned (.int .i64 (tn (rr x k.toNat))) ∧ ∃ m, w' = w.drewN m := by
  have hdp : 1 ≤ tw k := pow_pos2 _
  have hd0 : tw k ≠ 0 := by omega
  have hdb : (tw k == 0) = false := by simpa using hd0
  have hsub : IntKind.i64.wrap (32 - k) = 32 - k := IntWalk.i64_in _ (by omega)
  have HF : Hid (IntKind.i64.wrap (IntKind.i64.wrap ((tn x).tdiv (tw k)) + IntKind.i64.wrap ((tn x).tmod (tw k) * tw (32 - k))) = tn (rr x k.toNat)) :=
    rot_wrap x k.toNat (by omega) (by omega) (tw k) (tw (32 - k)) rfl (by unfold tw; congr 1; omega)
  go_enter Tryd.func34, Tryd.ntmps34
  go_wp2
  go_quiet ((go_at_call 27; refine Calls.quiet_of_same (two_tw _ (by omega) _)))
  go_wp2
  go_ret
  refine ⟨?_, _, rfl⟩
  have h := HF.out
  rw [IntWalk.i64_left, IntWalk.i64_left, IntWalk.i64_left] at h
  exact ret_int h
theorem shifted_any (x : W) (k : Int) (hk : 0 < k ∧ k < 32) (w : World) :
    Calls Tryd.prog 39 #[.int .i64 (tn x), .int .i64 k] w fun e w' => e = .returned (.int .i64 (tn (x >>> k.toNat))) ∧ w' = w := by
  have hdp : 1 ≤ tw k := pow_pos2 _
  have hd0 : tw k ≠ 0 := by omega
  have hdb : (tw k == 0) = false := by simpa using hd0
  have hx := tn_lo x
  have hx2 := tn_hi x
  go_enter Tryd.func39, Tryd.ntmps39
  go_wp2_with (go_at_call 27; refine (two_tw _ (by omega) _).mono ?_; rintro e w' ⟨rfl, rfl⟩)
  go_ret
  refine ⟨ret_int ?_, rfl⟩
  exact shr_u x k.toNat

/-! ### Words as ints -/
theorem ofInt64 (x : W) : BitVec.ofInt 64 (tn x) = x.setWidth 64 := by
  unfold tn; rw [BitVec.ofInt_natCast]
  apply BitVec.eq_of_toNat_eq
  simp
theorem wrap64n (x : W) : IntKind.i64.wrap ((x.setWidth 64).toNat : Int) = tn x := by
  have := x.isLt
  rw [BitVec.toNat_setWidth, Nat.mod_eq_of_lt (by omega)]
  exact IntWalk.i64_in _ (by omega)
theorem xor_n (x y : W) : bits .xor .i64 (tn x) (tn y) = tn (x ^^^ y) := by
  simp only [bits, IntKind.bits, ofInt64]
  show IntKind.i64.wrap ((BitVec.setWidth 64 x ^^^ BitVec.setWidth 64 y : BitVec 64).toNat : Int) = _
  rw [← BitVec.setWidth_xor]; exact wrap64n _
theorem and_n (x y : W) : bits .and .i64 (tn x) (tn y) = tn (x &&& y) := by
  simp only [bits, IntKind.bits, ofInt64]
  show IntKind.i64.wrap ((BitVec.setWidth 64 x &&& BitVec.setWidth 64 y : BitVec 64).toNat : Int) = _
  rw [← BitVec.setWidth_and]; exact wrap64n _
theorem not_n (x : W) : 4294967295 - tn x = tn (~~~x) := by
  have := x.isLt
  unfold tn
  rw [BitVec.toNat_not]; omega
theorem not_wn (x : W) : IntKind.i64.wrap (4294967295 - tn x) = tn (~~~x) := by
  rw [not_n]; have := tn_lo (~~~x); have := tn_hi (~~~x); exact IntWalk.i64_in _ (by omega)
section
variable (a b c d e f g : W)
theorem add2n : IntKind.i64.wrap (tn a + tn b) = tn a + tn b := by
  have := tn_lo a; have := tn_hi a; have := tn_lo b; have := tn_hi b; exact IntWalk.i64_in _ (by omega)
theorem add3n : IntKind.i64.wrap (tn a + tn b + tn c) = tn a + tn b + tn c := by
  have := tn_lo a; have := tn_hi a; have := tn_lo b; have := tn_hi b; have := tn_lo c; have := tn_hi c; exact IntWalk.i64_in _ (by omega)
theorem add4n : IntKind.i64.wrap (tn a + tn b + tn c + tn d) = tn a + tn b + tn c + tn d := by
  have := tn_lo a; have := tn_hi a; have := tn_lo b; have := tn_hi b; have := tn_lo c; have := tn_hi c; have := tn_lo d; have := tn_hi d; exact IntWalk.i64_in _ (by omega)
theorem add5n : IntKind.i64.wrap (tn a + tn b + tn c + tn d + tn e) = tn a + tn b + tn c + tn d + tn e := by
  have := tn_lo a; have := tn_hi a; have := tn_lo b; have := tn_hi b; have := tn_lo c; have := tn_hi c; have := tn_lo d; have := tn_hi d; have := tn_lo e; have := tn_hi e; exact IntWalk.i64_in _ (by omega)
theorem mod2n : (tn a + tn b).tmod 4294967296 = tn (a + b) := by
  have := tn_lo a; have := tn_lo b
  rw [Int.tmod_eq_emod_of_nonneg (by omega), add_u']
theorem mod4n : (tn a + tn b + tn c + tn d).tmod 4294967296 = tn (a + b + c + d) := by
  have := tn_lo a; have := tn_lo b; have := tn_lo c; have := tn_lo d
  rw [Int.tmod_eq_emod_of_nonneg (by omega), sum4]
theorem wrap1n : IntKind.i64.wrap (tn a) = tn a := by have := tn_lo a; have := tn_hi a; exact IntWalk.i64_in _ (by omega)
theorem bd (a : W) : 0 ≤ tn a ∧ tn a < 4294967296 := ⟨tn_lo a, tn_hi a⟩
theorem sum5 : (tn a + tn b + tn c + tn d + tn e) % 4294967296 = tn (a + b + c + d + e) := by
  rw [← add_u' (a + b + c + d) e, ← sum4 a b c d]; omega
theorem add52 : IntKind.i64.wrap (tn a + tn b + tn c + tn d + tn e + (tn f + tn g)) = tn a + tn b + tn c + tn d + tn e + (tn f + tn g) := by
  have := bd a; have := bd b; have := bd c; have := bd d; have := bd e; have := bd f; have := bd g; exact IntWalk.i64_in _ (by omega)
theorem mod52' : (tn a + tn b + tn c + tn d + tn e + (tn f + tn g)) % 4294967296 = tn (a + b + c + d + e + (f + g)) := by
  rw [← add_u' (a + b + c + d + e) (f + g), ← sum5, ← add_u' f g]; omega
theorem mod52 : (tn a + tn b + tn c + tn d + tn e + (tn f + tn g)).tmod 4294967296 = tn (a + b + c + d + e + (f + g)) := by
  have := bd a; have := bd b; have := bd c; have := bd d; have := bd e; have := bd f; have := bd g
  rw [Int.tmod_eq_emod_of_nonneg (by omega), mod52']
theorem add15 : IntKind.i64.wrap (tn f + (tn a + tn b + tn c + tn d + tn e)) = tn f + (tn a + tn b + tn c + tn d + tn e) := by
  have := bd a; have := bd b; have := bd c; have := bd d; have := bd e; have := bd f; exact IntWalk.i64_in _ (by omega)
theorem mod15' : (tn f + (tn a + tn b + tn c + tn d + tn e)) % 4294967296 = tn (f + (a + b + c + d + e)) := by
  rw [← add_u' f (a + b + c + d + e), ← sum5]; omega
theorem mod15 : (tn f + (tn a + tn b + tn c + tn d + tn e)).tmod 4294967296 = tn (f + (a + b + c + d + e)) := by
  have := bd a; have := bd b; have := bd c; have := bd d; have := bd e; have := bd f
  rw [Int.tmod_eq_emod_of_nonneg (by omega), mod15']
end
end Go.Proofs.YtdchgojnmfoffaaDoor.Sha
