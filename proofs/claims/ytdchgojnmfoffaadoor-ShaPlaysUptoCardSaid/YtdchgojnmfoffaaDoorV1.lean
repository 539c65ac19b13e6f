/-
  Whether two digests are equal, byte by byte.
-/
import Derived.Test.YtdchgojnmfoffaaDoorV0
namespace Go.Proofs.YtdchgojnmfoffaaDoor.Sha
open Go Go.RowKit

/-- A byte as a number: behind a name, so that the walk does not look into it. -/
def b8 (x : UInt8) : Int := (x.toNat : Int)
theorem b8_lo (x : UInt8) : 0 ≤ b8 x := Int.natCast_nonneg _
theorem b8_hi (x : UInt8) : b8 x < 256 := by have := x.toNat_lt; unfold b8; omega
theorem xor_b8 (x y : UInt8) : bits .xor .u8 (b8 x) (b8 y) = b8 (x ^^^ y) := xor8 x y
theorem or_b8 (x c : UInt8) : bits .or .u8 (b8 x) (b8 c) = b8 (x ||| c) := by
  unfold b8
  rw [UInt8.toNat_or]
  have : bits .or .u8 (x.toNat : Int) (c.toNat : Int) = IntKind.u8.wrap (((BitVec.ofInt 8 (x.toNat : Int)) ||| (BitVec.ofInt 8 (c.toNat : Int)) : BitVec 8).toNat : Int) := by
    simp only [bits, IntKind.bits]; rfl
  rw [this]
  have e1 : (BitVec.ofInt 8 (x.toNat : Int)) = x.toBitVec := by
    apply BitVec.eq_of_toNat_eq; simp
  have e2 : (BitVec.ofInt 8 (c.toNat : Int)) = c.toBitVec := by
    apply BitVec.eq_of_toNat_eq; simp
  rw [e1, e2, wrap8n, BitVec.toNat_or]; rfl
attribute [local go_sem] xor_b8 or_b8

def dif (a b : List UInt8) : Nat → UInt8
  | 0 => 0
  | t + 1 => dif a b t ||| (a.getD t 0 ^^^ b.getD t 0)
theorem or_zero (x y : UInt8) : x ||| y = 0 ↔ x = 0 ∧ y = 0 := by
  rw [← UInt8.toBitVec_inj, UInt8.toBitVec_or, ← UInt8.toBitVec_inj, ← UInt8.toBitVec_inj]
  exact BitVec.or_eq_zero_iff
theorem xor_zero (x y : UInt8) : x ^^^ y = 0 ↔ x = y := by
  rw [← UInt8.toBitVec_inj, UInt8.toBitVec_xor, ← UInt8.toBitVec_inj]
  exact BitVec.xor_eq_zero_iff
theorem dif_zero (a b : List UInt8) : ∀ t, dif a b t = 0 ↔ ∀ i, i < t → a.getD i 0 = b.getD i 0
  | 0 => by simp [dif]
  | t + 1 => by
    rw [dif, or_zero, dif_zero a b t, xor_zero]
    constructor
    · intro ⟨h1, h2⟩ i hi
      by_cases h : i = t
      · subst h; exact h2
      · exact h1 i (by omega)
    · intro h
      exact ⟨fun i hi => h i (by omega), h t (by omega)⟩
theorem dif_all (a b : List UInt8) (ha : a.length = 32) (hb : b.length = 32) : (b8 (dif a b 32) == 0) = decide (a = b) := by
  rw [Bool.eq_iff_iff, beq_iff_eq, decide_eq_true_eq]
  have e : b8 (dif a b 32) = 0 ↔ dif a b 32 = 0 := by
    unfold b8
    constructor
    · intro h
      apply UInt8.toNat_inj.1
      simpa using h
    · intro h; rw [h]; rfl
  rw [e, dif_zero]
  constructor
  · intro h
    apply List.ext_getElem?
    intro i
    by_cases hi : i < 32
    · have := h i hi
      rw [List.getD_eq_getElem?_getD, List.getD_eq_getElem?_getD, List.getElem?_eq_getElem (by omega), List.getElem?_eq_getElem (by omega)] at this
      rw [List.getElem?_eq_getElem (by omega), List.getElem?_eq_getElem (by omega)]
      simpa using this
    · rw [List.getElem?_eq_none (by omega), List.getElem?_eq_none (by omega)]
  · rintro rfl i _; rfl

set_option maxRecDepth 100000 in
set_option maxHeartbeats 400000 in
theorem same_any (w : World) (a b : List UInt8) (ha : a.length = 32) (hb : b.length = 32) :
    Calls Tryd.prog 20 #[.agg (bCells a), .agg (bCells b)] w fun e w' => e = .returned (.bool (decide (a = b))) ∧ Below w.heap.size w w' := by
  have HA := Lib.hid ha
  have HB := Lib.hid hb
  clear ha hb
  go_enter Tryd.func20, Tryd.ntmps20
  go_wp2
  go_loopw [5, 7] (fun d i wr => ∃ t : Nat, t ≤ 32 ∧ i = .int .i64 t ∧ d = .int .u8 (b8 (dif a b t)) ∧ Blk wr w.heap.size (bCells a) 22 ∧ Blk wr (w.heap.size + 1) (bCells b) 22 ∧ Below w.heap.size w wr) (fun _ i _ => 32 - (intOf i).toNat)
  case atStart =>
    refine ⟨0, by omega, rfl, rfl, (Blk.new _ _ _).alloc _, ?_, ((Below.refl _ _).alloc (Nat.le_refl _) _).alloc (by simp) _⟩
    have := Blk.new (w.alloc (.cells (bCells a) 22)) (bCells b) 22
    simpa using this
  case round =>
    obtain ⟨t, ht, rfl, rfl, hk, hl, hw⟩ := hrel
    by_cases h32 : t < 32
    · have c1 : wr.cell? ⟨w.heap.size, t, none⟩ = some (.int .u8 (b8 (a.getD t 0))) := by
        rw [hk.cell, bCells_at _ _ (by rw [HA.out]; exact h32)]; rfl
      have c2 : wr.cell? ⟨w.heap.size + 1, t, none⟩ = some (.int .u8 (b8 (b.getD t 0))) := by
        rw [hl.cell, bCells_at _ _ (by rw [HB.out]; exact h32)]; rfl
      obtain ⟨D, hD⟩ : ∃ D, D = dif a b t := ⟨_, rfl⟩
      obtain ⟨x, hx⟩ : ∃ x, x = a.getD t 0 := ⟨_, rfl⟩
      obtain ⟨y, hy⟩ : ∃ y, y = b.getD t 0 := ⟨_, rfl⟩
      rw [← hx] at c1
      rw [← hy] at c2
      rw [← hD]
      have HN : Hid (D ||| (x ^^^ y) = dif a b (t + 1)) := by unfold Hid; rw [hD, hx, hy]; rfl
      clear hD hx hy
      have g1 : (t : Int) < 32 := by omega
      go_wp2
      go_quiet (fail)
      go_wp2
      go_roundw
      case rel => exact ⟨t + 1, by omega, by simp, by rw [← HN.out], hk.drewN _, hl.drewN _, below_drewN hw _⟩
      case measure => simp [intOf]; omega
    · obtain rfl : t = 32 := by omega
      have h0 := dif_all a b HA.out HB.out
      generalize dif a b 32 = D at h0 ⊢
      have HW := Lib.hid hw
      clear hw hk hl ht h32
      rw [show ((32 : Nat) : Int) = 32 from rfl]
      go_wp2
      go_ret
      exact ⟨by first | rfl | rw [h0] | simp [h0], HW.out⟩
end Go.Proofs.YtdchgojnmfoffaaDoor.Sha
