/-
  The digest of bytes as plain Lean functions over words of 32 bits, and how Go's arithmetic on u32 (package sha) and on int (package crucibleref28) comes to them. No program in sight.
-/
import Derived.IntWalk
import Derived.Laws.Entries
import Derived.Laws.BitsLemmas
namespace Go.Proofs.YtdchgojnmfoffaaDoor.Sha
open Go

abbrev W := BitVec 32

/-- A word as a number: behind a name, so that the walk does not look into it. -/
def tn (x : W) : Int := (x.toNat : Int)
theorem tn_lo (x : W) : 0 ≤ tn x := Int.natCast_nonneg _
theorem tn_hi (x : W) : tn x < 4294967296 := by have := x.isLt; unfold tn; omega
/-- A word as Go's uint32, and as crucibleref28's int. -/
def u (x : W) : Value := .int .u32 (tn x)
def n (x : W) : Value := .int .i64 (tn x)
def by8 (c : UInt8) : Value := .int .u8 (c.toNat : Int)

/-! ### The functions -/
def rr (x : W) (k : Nat) : W := x.rotateRight k
def s0 (x : W) : W := rr x 7 ^^^ rr x 18 ^^^ (x >>> 3)
def s1 (x : W) : W := rr x 17 ^^^ rr x 19 ^^^ (x >>> 10)
def S0 (x : W) : W := rr x 2 ^^^ rr x 13 ^^^ rr x 22
def S1 (x : W) : W := rr x 6 ^^^ rr x 11 ^^^ rr x 25
def ch (e f g : W) : W := (e &&& f) ^^^ (~~~e &&& g)
def maj (a b c : W) : W := (a &&& b) ^^^ (a &&& c) ^^^ (b &&& c)

/-- Word t of a block. -/
def wd (b : List UInt8) (t : Nat) : W :=
  BitVec.ofNat 32 ((((b.getD (4 * t) 0).toNat * 256 + (b.getD (4 * t + 1) 0).toNat) * 256 + (b.getD (4 * t + 2) 0).toNat) * 256 + (b.getD (4 * t + 3) 0).toNat)

/-- The word that comes behind those of l. -/
def next (b : List UInt8) (l : List W) : W :=
  if l.length < 16 then wd b l.length
  else s1 (l.getD (l.length - 2) 0) + l.getD (l.length - 7) 0 + s0 (l.getD (l.length - 15) 0) + l.getD (l.length - 16) 0

/-- The first t words of the schedule. -/
def sched (b : List UInt8) : Nat → List W
  | 0 => []
  | t + 1 => sched b t ++ [next b (sched b t)]

structure St where
  (a b c d e f g h : W)

def kTab : List Nat := [
  0x428a2f98, 0x71374491, 0xb5c0fbcf, 0xe9b5dba5, 0x3956c25b, 0x59f111f1, 0x923f82a4, 0xab1c5ed5,
  0xd807aa98, 0x12835b01, 0x243185be, 0x550c7dc3, 0x72be5d74, 0x80deb1fe, 0x9bdc06a7, 0xc19bf174,
  0xe49b69c1, 0xefbe4786, 0x0fc19dc6, 0x240ca1cc, 0x2de92c6f, 0x4a7484aa, 0x5cb0a9dc, 0x76f988da,
  0x983e5152, 0xa831c66d, 0xb00327c8, 0xbf597fc7, 0xc6e00bf3, 0xd5a79147, 0x06ca6351, 0x14292967,
  0x27b70a85, 0x2e1b2138, 0x4d2c6dfc, 0x53380d13, 0x650a7354, 0x766a0abb, 0x81c2c92e, 0x92722c85,
  0xa2bfe8a1, 0xa81a664b, 0xc24b8b70, 0xc76c51a3, 0xd192e819, 0xd6990624, 0xf40e3585, 0x106aa070,
  0x19a4c116, 0x1e376c08, 0x2748774c, 0x34b0bcb5, 0x391c0cb3, 0x4ed8aa4a, 0x5b9cca4f, 0x682e6ff3,
  0x748f82ee, 0x78a5636f, 0x84c87814, 0x8cc70208, 0x90befffa, 0xa4506ceb, 0xbef9a3f7, 0xc67178f2]
def kw (t : Nat) : W := BitVec.ofNat 32 (kTab.getD t 0)

def t1 (v : St) (k w : W) : W := v.h + S1 v.e + ch v.e v.f v.g + k + w
def t2 (v : St) : W := S0 v.a + maj v.a v.b v.c
def rnd (v : St) (k w : W) : St :=
  { a := t1 v k w + t2 v, b := v.a, c := v.b, d := v.c, e := v.d + t1 v k w, f := v.e, g := v.f, h := v.g }

/-- Behind t rounds. -/
def rnds (ws : List W) (v : St) : Nat → St
  | 0 => v
  | t + 1 => rnd (rnds ws v t) (kw t) (ws.getD t 0)

def St.add (x y : St) : St :=
  { a := x.a + y.a, b := x.b + y.b, c := x.c + y.c, d := x.d + y.d, e := x.e + y.e, f := x.f + y.f, g := x.g + y.g, h := x.h + y.h }
def step (h : St) (b : List UInt8) : St := h.add (rnds (sched b 64) h 64)

def hTab : List Nat := [0x6a09e667, 0xbb67ae85, 0x3c6ef372, 0xa54ff53a, 0x510e527f, 0x9b05688c, 0x1f83d9ab, 0x5be0cd19]
def H0 : St := { a := 0x6a09e667#32, b := 0xbb67ae85#32, c := 0x3c6ef372#32, d := 0xa54ff53a#32, e := 0x510e527f#32, f := 0x9b05688c#32, g := 0x1f83d9ab#32, h := 0x5be0cd19#32 }

/-- n blocks. -/
def run : Nat → St → List UInt8 → St
  | 0, h, _ => h
  | k + 1, h, l => run k (step h (l.take 64)) (l.drop 64)

/-- Eight bytes, the highest first, of a number. -/
def be8 (m : Nat) : List UInt8 := (List.range 8).map fun i => UInt8.ofNat (m / 2 ^ (56 - 8 * i))
def noughts (m : Nat) : Nat := (119 - m % 64) % 64
def tail (m : Nat) : List UInt8 := 128 :: (List.replicate (noughts m) 0 ++ be8 (8 * m))
def padded (l : List UInt8) : List UInt8 := l ++ tail l.length

def St.words (v : St) : List W := [v.a, v.b, v.c, v.d, v.e, v.f, v.g, v.h]
def outB (v : St) (i : Nat) : UInt8 := UInt8.ofNat ((v.words.getD (i / 4) 0).toNat / 2 ^ (24 - i % 4 * 8))
def out (v : St) : List UInt8 := (List.range 32).map (outB v)
def sum (l : List UInt8) : List UInt8 := out (run ((padded l).length / 64) H0 (padded l))

theorem len_sched (b : List UInt8) (t : Nat) : (sched b t).length = t := by
  induction t with
  | zero => rfl
  | succ t ih => simp [sched, ih]
theorem len_out (v : St) : (out v).length = 32 := by simp [out]
theorem len_sum (l : List UInt8) : (sum l).length = 32 := len_out _

/-! ### Go's u32 -/
theorem toInt (x : W) : BitVec.ofInt 32 (tn x) = x := by
  unfold tn; rw [BitVec.ofInt_natCast]; simp
theorem wrap32u (x : W) : IntKind.u32.wrap (tn x) = tn x := by
  rw [IntKind.wrap_u32]; have := tn_lo x; have := tn_hi x; omega
theorem xor_u (x y : W) : bits .xor .u32 (tn x) (tn y) = tn (x ^^^ y) := by
  simp only [bits, IntKind.bits, toInt]; exact wrap32u _
theorem and_u (x y : W) : bits .and .u32 (tn x) (tn y) = tn (x &&& y) := by
  simp only [bits, IntKind.bits, toInt]; exact wrap32u _
theorem or_u (x y : W) : bits .or .u32 (tn x) (tn y) = tn (x ||| y) := by
  simp only [bits, IntKind.bits, toInt]; exact wrap32u _
theorem add_u (x y : W) : IntKind.u32.wrap (tn x + tn y) = tn (x + y) := by
  unfold tn; rw [IntKind.wrap_u32, BitVec.toNat_add]; omega
theorem add_u' (x y : W) : (tn x + tn y) % 4294967296 = tn (x + y) := by
  unfold tn; rw [BitVec.toNat_add]; omega
theorem shr_u (x : W) (k : Nat) : tn x / 2 ^ k = tn (x >>> k) := by
  unfold tn; rw [BitVec.toNat_ushiftRight, Nat.shiftRight_eq_div_pow]; simp
theorem shl_u (x : W) (k : Nat) : IntKind.u32.wrap (tn x * 2 ^ k) = tn (x <<< k) := by
  unfold tn; rw [IntKind.wrap_u32, BitVec.toNat_shiftLeft, Nat.shiftLeft_eq]; simp
theorem shr10 (x : W) : tn x / (1024 : Int) = tn (x >>> 10) := shr_u x 10
theorem shr3 (x : W) : tn x / (8 : Int) = tn (x >>> 3) := shr_u x 3

theorem sgn_u32 : IntKind.u32.signed = false := rfl
theorem not_u (x : W) : bits .xor .u32 IntKind.u32.max (tn x) = tn (~~~x) := by
  have e : IntKind.u32.max = tn (BitVec.allOnes 32) := by decide
  rw [e, xor_u, BitVec.allOnes_xor]

theorem mask_rot (k : Int) (hk : k < 32) (h0 : 0 < k) : bits BinOp.and IntKind.u64 (IntKind.u64.wrap (-k)) 31 = 32 - k := by
  obtain ⟨k, rfl⟩ := Int.eq_ofNat_of_zero_le (show 0 ≤ k by omega)
  have e : IntKind.u64.wrap (-(k : Int)) = ((2 ^ 64 - k : Nat) : Int) := by
    simp [IntKind.wrap, IntKind.bits, IntKind.signed]; omega
  rw [e]
  have := (bits_nat .u64 64 (by decide) (fun n h1 h2 => by simp [IntKind.wrap, IntKind.bits, IntKind.signed] at *; omega) (2 ^ 64 - k) 31 (by omega) (by decide)).1
  have e2 : (31 : Int) = ((31 : Nat) : Int) := rfl
  rw [e2, this, show (31 : Nat) = 2 ^ 5 - 1 from rfl, Nat.and_two_pow_sub_one_eq_mod]
  omega

theorem rr_eq (x : W) (k : Int) (hk : k < 32) (h0 : 0 < k) (m m' : Nat) (hm : m = (32 - k).toNat) (hm' : m' = k.toNat) : bits .or .u32 (tn x * 2 ^ m % 4294967296) (tn x / 2 ^ m') = tn (rr x k.toNat) := by
  subst hm'
  have h1 := shl_u x m
  rw [IntKind.wrap_u32] at h1
  rw [h1, shr_u x, or_u]
  congr 1
  unfold rr
  rw [BitVec.rotateRight_def, Nat.mod_eq_of_lt (show k.toNat < 32 by omega), show 32 - k.toNat = m by omega, BitVec.or_comm]

/-- Four bytes, the highest first. -/
theorem wd_eq (x0 x1 x2 x3 : UInt8) :
    bits .or .u32 (bits .or .u32 (bits .or .u32 (↑x0.toNat % 4294967296 * 16777216 % 4294967296) (↑x1.toNat % 4294967296 * 65536 % 4294967296)) (↑x2.toNat % 4294967296 * 256 % 4294967296)) (↑x3.toNat % 4294967296)
      = tn (BitVec.ofNat 32 (((x0.toNat * 256 + x1.toNat) * 256 + x2.toNat) * 256 + x3.toNat)) := by
  have h0 := x0.toNat_lt; have h1 := x1.toNat_lt; have h2 := x2.toNat_lt; have h3 := x3.toNat_lt
  have hw : ∀ n : Int, 0 ≤ n → n < 2 ^ 32 → IntKind.u32.wrap n = n := fun n a b => by rw [IntKind.wrap_u32]; omega
  have e0 : (x0.toNat : Int) % 4294967296 * 16777216 % 4294967296 = x0.toNat * 16777216 := by omega
  have e1 : (x1.toNat : Int) % 4294967296 * 65536 % 4294967296 = x1.toNat * 65536 := by omega
  have e2 : (x2.toNat : Int) % 4294967296 * 256 % 4294967296 = x2.toNat * 256 := by omega
  have e3 : (x3.toNat : Int) % 4294967296 = x3.toNat := by omega
  rw [e0, e1, e2, e3, bits_join .u32 32 (by decide) hw 24 (x0.toNat * 16777216) (x1.toNat * 65536) (by omega) (by omega) (by omega) (by omega) (by omega) (by omega),
    bits_join .u32 32 (by decide) hw 16 (x0.toNat * 16777216 + x1.toNat * 65536) (x2.toNat * 256) (by omega) (by omega) (by omega) (by omega) (by omega) (by omega),
    bits_join .u32 32 (by decide) hw 8 (x0.toNat * 16777216 + x1.toNat * 65536 + x2.toNat * 256) x3.toNat (by omega) (by omega) (by omega) (by omega) (by omega) (by omega)]
  unfold tn
  rw [BitVec.toNat_ofNat, Nat.mod_eq_of_lt (by omega)]
  omega
end Go.Proofs.YtdchgojnmfoffaaDoor.Sha
