/-
  Of the proof that the law DiagDeep answers true at every row of bytes: a part, without conditions of its own.
-/
import Derived.Test.YtbhfoelnoddlkaaGreatDoorProg
import Derived.WalkKit
import Derived.StillTailTactics
import Derived.Deep.QuietTactic
import Derived.BigQuiet
import Derived.Deep.Cut
import Derived.Deep.CutBlock
import Derived.Deep.RegionWith
import Derived.Deep.RegionHeld3
import Derived.Deep.DeepMust
import Derived.Lib.Hide
import Derived.Laws.CopyOwn
set_option linter.unusedVariables false
set_option linter.unusedSimpArgs false
/-
  Blocks of memory, worlds that differ above a block: general lemmas, no program's text.
-/
namespace Go.Proofs.YtbhfoelnoddlkaaGreatDoor.D
open Go Go.RowKit

/-- Block k holds these cells, none of them frozen. -/
def Blk (w : World) (k : Nat) (c : Array Value) (t : TypeId) : Prop := w.heap[k]? = some (.cells c t (0, 0))
theorem Blk.cell {w : World} {k : Nat} {c : Array Value} {t : TypeId} (h : Blk w k c t) (i : Nat) : w.cell? ⟨k, i, none⟩ = c[i]? := by
  unfold Blk at h; simp [World.cell?, h]
theorem Blk.free {w : World} {k : Nat} {c : Array Value} {t : TypeId} (h : Blk w k c t) (i : Nat) : w.frozen? ⟨k, i, none⟩ = false := by
  unfold Blk at h; simp [World.frozen?, h]
theorem Blk.lt {w : World} {k : Nat} {c : Array Value} {t : TypeId} (h : Blk w k c t) : k < w.heap.size := (Array.getElem?_eq_some_iff.1 h).1
theorem Blk.drew {w : World} {k : Nat} {c : Array Value} {t : TypeId} (h : Blk w k c t) : Blk w.drew k c t := h
theorem Blk.drewN {w : World} {k : Nat} {c : Array Value} {t : TypeId} (h : Blk w k c t) (m : Nat) : Blk (w.drewN m) k c t := h
theorem Blk.alloc {w : World} {k : Nat} {c : Array Value} {t : TypeId} (h : Blk w k c t) (o : Obj) : Blk (w.alloc o) k c t := by
  have := h.lt; unfold Blk at *; rw [Below.heap_alloc w o k this]; exact h
theorem Blk.new (w : World) (c : Array Value) (t : TypeId) : Blk (w.alloc (.cells c t)) w.heap.size c t := by
  show (w.heap.push _)[w.heap.size]? = _; simp
theorem Blk.set {w : World} {k : Nat} {c : Array Value} {t : TypeId} (h : Blk w k c t) (i : Nat) (v : Value) : Blk (w.setCell ⟨k, i, none⟩ v) k (c.setIfInBounds i v) t := by
  rw [setCell_eq_setRow w k i c t (0, 0) v h]; exact setRow_heap w k c _ t (0, 0) h
theorem Blk.set_other {w : World} {k : Nat} {c : Array Value} {t : TypeId} (h : Blk w k c t) (a : Addr) (v : Value) (hne : k ≠ a.block) : Blk (w.setCell a v) k c t := by
  unfold Blk at *; rw [Below.heap_setCell w a v k hne]; exact h
theorem Blk.below {w w' : World} {B k : Nat} {c : Array Value} {t : TypeId} (h : Blk w k c t) (hb : Below B w w') (hk : k < B) : Blk w' k c t := by
  unfold Blk at *; rw [hb.block k hk]; exact h
theorem below_drewN {B : Nat} {a w : World} (h : Below B a w) (m : Nat) : Below B a (w.drewN m) := ⟨h.os, h.tape, h.output, h.size, h.block⟩
theorem below_setRow {B : Nat} {a w : World} (h : Below B a w) {g : Nat} (hg : B ≤ g) (c : Array Value) : Below B a (w.setRow g c) :=
  h.trans ⟨rfl, rfl, rfl, by simp, fun k hk => setRow_other _ _ _ _ (by omega)⟩
theorem bcell {W w1 : World} (hb : Below W.heap.size W w1) : (∀ b o, b < W.heap.size → w1.cell? ⟨b, o, none⟩ = W.cell? ⟨b, o, none⟩) ∧ (∀ b o, b < W.heap.size → w1.frozen? ⟨b, o, none⟩ = W.frozen? ⟨b, o, none⟩) :=
  ⟨fun b o h => hb.cell (p := ⟨b, o, none⟩) h, fun b o h => hb.frozen (p := ⟨b, o, none⟩) h⟩

/-- Below B all is as it was, but the blocks of S. -/
structure Ex (S : Nat → Prop) (B : Nat) (w w' : World) : Prop where
  os : w'.os = w.os
  tape : w'.tape = w.tape
  output : w'.output = w.output
  size : w.heap.size ≤ w'.heap.size
  block : ∀ k, k < B → ¬ S k → w'.heap[k]? = w.heap[k]?
theorem Ex.refl (S : Nat → Prop) (B : Nat) (w : World) : Ex S B w w := ⟨rfl, rfl, rfl, Nat.le_refl _, fun _ _ _ => rfl⟩
theorem Ex.trans {S : Nat → Prop} {B : Nat} {a b c : World} (h : Ex S B a b) (k : Ex S B b c) : Ex S B a c :=
  ⟨k.os.trans h.os, k.tape.trans h.tape, k.output.trans h.output, Nat.le_trans h.size k.size, fun i hi hp => (k.block i hi hp).trans (h.block i hi hp)⟩
theorem Ex.of_below {S : Nat → Prop} {B : Nat} {w w' : World} (h : Below B w w') : Ex S B w w' := ⟨h.os, h.tape, h.output, h.size, fun k hk _ => h.block k hk⟩
theorem Ex.mono {S T : Nat → Prop} {B B' : Nat} {w w' : World} (h : Ex S B w w') (hB : B' ≤ B) (hS : ∀ k, S k → T k) : Ex T B' w w' := ⟨h.os, h.tape, h.output, h.size, fun k hk hs => h.block k (by omega) (fun e => hs (hS k e))⟩
theorem Ex.drewN {S : Nat → Prop} {B : Nat} {a w : World} (h : Ex S B a w) (m : Nat) : Ex S B a (w.drewN m) := ⟨h.os, h.tape, h.output, h.size, h.block⟩
theorem Ex.alloc {S : Nat → Prop} {B : Nat} {a w : World} (h : Ex S B a w) (hB : B ≤ w.heap.size) (o : Obj) : Ex S B a (w.alloc o) := h.trans (Ex.of_below ((Below.refl _ _).alloc hB o))
theorem Ex.setCell {S : Nat → Prop} {B : Nat} {a w : World} (h : Ex S B a w) (p i : Nat) (hp : S p ∨ B ≤ p) (v : Value) : Ex S B a (w.setCell ⟨p, i, none⟩ v) :=
  h.trans ⟨rfl, rfl, rfl, by simp [World.setCell], fun k hk hs => Below.heap_setCell _ _ _ _ (fun e => by subst e; rcases hp with h | h; exact hs h; omega)⟩
theorem Ex.below {S : Nat → Prop} {B B' : Nat} {w w' : World} (h : Ex S B w w') (hB : B' ≤ B) (hS : ∀ k, S k → B' ≤ k) : Below B' w w' :=
  ⟨h.os, h.tape, h.output, h.size, fun k hk => h.block k (by omega) (fun e => by have := hS k e; omega)⟩
theorem Ex.blk {S : Nat → Prop} {B k : Nat} {w w' : World} {c : Array Value} {t : TypeId} (h : Ex S B w w') (hk : Blk w k c t) (hB : k < B) (hp : ¬ S k) : Blk w' k c t := by
  unfold Blk at *; rw [h.block k hB hp]; exact hk
theorem Ex.cell {S : Nat → Prop} {B : Nat} {w w' : World} (h : Ex S B w w') {a : Addr} (hB : a.block < B) (hp : ¬ S a.block) : w'.cell? a = w.cell? a :=
  World.cell?_of_block (w := w) (h.block a.block hB hp)

/-- A string of bytes as the model has it. -/
def strL (l : List UInt8) : ByteArray := ⟨l.toArray⟩
theorem strL_size (l : List UInt8) : (strL l).size = l.length := rfl
theorem str_app (a b : List UInt8) : strL a ++ strL b = strL (a ++ b) := by
  apply ByteArray.ext
  simp [strL]
/-- A byte as a number, closed to the walk's simp. -/
def b8 (x : UInt8) : Int := (x.toNat : Int)
theorem b8_lt (x : UInt8) : 0 ≤ b8 x ∧ b8 x < 256 := by unfold b8; have := x.toNat_lt; omega
/-- The byte at a place of a text, as a number. -/
def ch (D : List UInt8) (i : Nat) : Int := b8 (D.getD i 0)
theorem ch_lt (D : List UInt8) (i : Nat) : 0 ≤ ch D i ∧ ch D i < 256 := b8_lt _
theorem run_str (w : World) (D : List UInt8) (i : Nat) (h : i < D.length) : (Instr.index 9 (.string (strL D)) (.int .i64 (i : Int))).run Tryz.prog w = .ok (.int .u8 (ch D i)) w := by
  rw [run_index_string w 9 _ .i64 (i : Int) Tryz.underlying9]
  rw [dif_pos ⟨by omega, by rw [strL_size]; omega⟩]
  congr 2
  unfold ch b8
  rw [List.getD_eq_getElem?_getD, List.getElem?_eq_getElem h]
  rfl
/-- A piece of a text. -/
def sub (S : List UInt8) (a b : Nat) : List UInt8 := (S.drop a).take (b - a)
theorem len_sub (S : List UInt8) (a b : Nat) (h : b ≤ S.length) : (sub S a b).length = b - a := by simp [sub]; omega
theorem sub_at (S : List UInt8) (a b i : Nat) (h : i < b - a) : (sub S a b).getD i 0 = S.getD (a + i) 0 := by
  simp only [sub, List.getD_eq_getElem?_getD, List.getElem?_take, if_pos h, List.getElem?_drop]
theorem strL_extract (S : List UInt8) (a b : Nat) : (strL S).extract a b = strL (sub S a b) := by
  apply ByteArray.ext
  apply Array.ext'
  simp [strL, sub, ByteArray.extract, ByteArray.copySlice]
theorem run_sub (w : World) (S : List UInt8) (a b : Nat) (hab : a ≤ b) (hb : b ≤ S.length) : (Instr.slice 9 (.string (strL S)) (some (.int .i64 (a : Int))) (some (.int .i64 (b : Int))) none).run Tryz.prog w = .ok (.string (strL (sub S a b))) w := by
  have := run_slice_string (P := Tryz.prog) w 9 (strL S) .i64 .i64 (a : Int) (b : Int) Tryz.underlying9 (by omega) (by omega) (by rw [strL_size]; omega)
  rw [this, Int.toNat_natCast, Int.toNat_natCast, strL_extract]
theorem run_sub_from (w : World) (S : List UInt8) (a : Nat) (ha : a ≤ S.length) : (Instr.slice 9 (.string (strL S)) (some (.int .i64 (a : Int))) none none).run Tryz.prog w = .ok (.string (strL (sub S a S.length))) w := by
  have := run_slice_string_l (P := Tryz.prog) (w := w) (t := 9) (s := strL S) Tryz.underlying9 .i64 (a : Int) (by omega) (by rw [strL_size]; omega)
  rw [this, Int.toNat_natCast, strL_extract, strL_size]
theorem run_sub_to (w : World) (S : List UInt8) (b : Nat) (hb : b ≤ S.length) : (Instr.slice 9 (.string (strL S)) none (some (.int .i64 (b : Int))) none).run Tryz.prog w = .ok (.string (strL (sub S 0 b))) w := by
  have := run_slice_string_h (P := Tryz.prog) (w := w) (t := 9) (s := strL S) Tryz.underlying9 .i64 (b : Int) (by omega) (by rw [strL_size]; omega)
  rw [this, Int.toNat_natCast, strL_extract]
end Go.Proofs.YtbhfoelnoddlkaaGreatDoor.D

/-
  Lists of limbs of 32 bits, the lowest first, and the numbers that they say: plain Lean.
-/
namespace Go.Proofs.YtbhfoelnoddlkaaGreatDoor.Limb

def val : List Nat → Nat
  | [] => 0
  | x :: r => x + 4294967296 * val r
/-- How many limbs stand up to the last that is not 0. -/
def top : List Nat → Nat
  | [] => 0
  | x :: r => if top r = 0 then (if x = 0 then 0 else 1) else top r + 1
def trim (l : List Nat) : List Nat := l.take (top l)
/-- Each fits into 32 bits. -/
def Fit (l : List Nat) : Prop := ∀ x, x ∈ l → x < 4294967296
def limbs (n : Nat) : List Nat := if h : n = 0 then [] else n % 4294967296 :: limbs (n / 4294967296)
termination_by n
decreasing_by omega

theorem limbs_zero : limbs 0 = [] := by rw [limbs]; simp
theorem limbs_pos {n : Nat} (h : n ≠ 0) : limbs n = n % 4294967296 :: limbs (n / 4294967296) := by rw [limbs]; simp [h]
theorem val_limbs (n : Nat) : val (limbs n) = n := by
  induction n using Nat.strongRecOn with
  | ind n ih =>
    by_cases h : n = 0
    · subst h; rw [limbs_zero]; rfl
    · rw [limbs_pos h, val, ih _ (by omega)]; omega
theorem fit_limbs (n : Nat) : Fit (limbs n) := by
  induction n using Nat.strongRecOn with
  | ind n ih =>
    intro x hx
    by_cases h : n = 0
    · subst h; rw [limbs_zero] at hx; cases hx
    · rw [limbs_pos h] at hx
      rcases List.mem_cons.1 hx with e | e
      · omega
      · exact ih _ (by omega) x e
theorem top_le (l : List Nat) : top l ≤ l.length := by
  induction l with
  | nil => simp [top]
  | cons x r ih => simp only [top, List.length_cons]; split <;> (try split) <;> omega
theorem top_above (l : List Nat) : ∀ i, top l ≤ i → l.getD i 0 = 0 := by
  induction l with
  | nil => intros; simp
  | cons x r ih =>
    intro i hi
    simp only [top] at hi
    cases i with
    | zero =>
      split at hi
      · split at hi
        · simp_all
        · omega
      · omega
    | succ i =>
      simp only [List.getD_cons_succ]
      apply ih
      split at hi
      · omega
      · omega
theorem top_at (l : List Nat) (h : 0 < top l) : l.getD (top l - 1) 0 ≠ 0 := by
  induction l with
  | nil => simp [top] at h
  | cons x r ih =>
    simp only [top] at h ⊢
    split
    · rename_i h0
      rw [if_pos h0] at h
      split
      · rename_i hx; simp [hx] at h
      · rename_i hx; simpa using hx
    · rename_i h0
      have := ih (by omega)
      rw [show top r + 1 - 1 = (top r - 1) + 1 by omega, List.getD_cons_succ]
      exact this
/-- What n is, told by what stands there. -/
theorem top_eq (l : List Nat) (n : Nat) (ha : ∀ i, n ≤ i → i < l.length → l.getD i 0 = 0) (hb : 0 < n → l.getD (n - 1) 0 ≠ 0) : top l = n := by
  rcases Nat.lt_trichotomy (top l) n with h | h | h
  · exact absurd (top_above l (n - 1) (by omega)) (hb (by omega))
  · exact h
  · exact absurd (ha (top l - 1) (by omega) (by have := top_le l; omega)) (top_at l (by omega))
theorem val_zero_of {l : List Nat} (h : top l = 0) : val l = 0 := by
  induction l with
  | nil => rfl
  | cons x r ih =>
    simp only [top] at h
    split at h
    · rename_i h0
      split at h
      · rename_i hx; rw [val, ih h0, hx]
      · omega
    · omega
theorem val_trim (l : List Nat) : val (trim l) = val l := by
  induction l with
  | nil => rfl
  | cons x r ih =>
    unfold trim
    simp only [top]
    split
    · rename_i h0
      have hr := val_zero_of h0
      split
      · rename_i hx; simp [val, hr, hx]
      · simp [val, hr]
    · rw [List.take_succ_cons, val, val]
      unfold trim at ih
      rw [ih]
theorem fit_take {l : List Nat} (h : Fit l) (n : Nat) : Fit (l.take n) := fun x hx => h x (List.mem_of_mem_take hx)
theorem fit_trim {l : List Nat} (h : Fit l) : Fit (trim l) := fit_take h _
theorem length_trim (l : List Nat) : (trim l).length = top l := by
  unfold trim; rw [List.length_take]; have := top_le l; omega
theorem trim_eq {l : List Nat} (h : Fit l) : trim l = limbs (val l) := by
  induction l with
  | nil => simp [trim, val, limbs_zero]
  | cons x r ih =>
    have hx : x < 4294967296 := h x (by simp)
    have ihr := ih (fun y hy => h y (by simp [hy]))
    unfold trim at ihr ⊢
    simp only [top]
    split
    · rename_i h0
      have hr := val_zero_of h0
      split
      · rename_i h1; simp [val, hr, h1, limbs_zero]
      · rename_i h1
        rw [val, hr, limbs_pos (by omega)]
        rw [show (x + 4294967296 * 0) % 4294967296 = x by omega, show (x + 4294967296 * 0) / 4294967296 = 0 by omega, limbs_zero]
        simp
    · rename_i h0
      have hv : val r ≠ 0 := by
        intro e
        rw [e, limbs_zero] at ihr
        have := congrArg List.length ihr
        rw [List.length_take, List.length_nil] at this
        have := top_le r
        omega
      rw [List.take_succ_cons, ihr, val, limbs_pos (n := x + 4294967296 * val r) (by omega)]
      rw [show (x + 4294967296 * val r) % 4294967296 = x by omega, show (x + 4294967296 * val r) / 4294967296 = val r by omega]
theorem top_limbs (n : Nat) : top (limbs n) = (limbs n).length := by
  have := length_trim (limbs n)
  rw [trim_eq (fit_limbs n), val_limbs] at this
  exact this.symm
theorem trim_limbs (n : Nat) : trim (limbs n) = limbs n := by rw [trim_eq (fit_limbs n), val_limbs]
theorem val_append (a b : List Nat) : val (a ++ b) = val a + 4294967296 ^ a.length * val b := by
  induction a with
  | nil => simp [val]
  | cons x r ih =>
    rw [List.cons_append, val, ih, val, List.length_cons, Nat.pow_succ, Nat.mul_add, Nat.add_assoc, Nat.mul_comm (4294967296 ^ r.length) 4294967296, Nat.mul_assoc]
theorem val_lt {l : List Nat} (h : Fit l) : val l < 4294967296 ^ l.length := by
  induction l with
  | nil => simp [val]
  | cons x r ih =>
    have hx : x < 4294967296 := h x (by simp)
    have := ih (fun y hy => h y (by simp [hy]))
    rw [val, List.length_cons, Nat.pow_succ]
    omega
theorem val_snoc (l : List Nat) (k : Nat) (h : k < l.length) : val (l.take (k + 1)) = val (l.take k) + 4294967296 ^ k * l.getD k 0 := by
  rw [List.take_succ_eq_append_getElem h, val_append, List.length_take, Nat.min_eq_left (by omega), List.getD_eq_getElem?_getD, List.getElem?_eq_getElem h]
  simp [val]
theorem limbs_length_pos {n : Nat} (h : n ≠ 0) : 0 < (limbs n).length := by rw [limbs_pos h]; simp
theorem limbs_last {n : Nat} (h : n ≠ 0) : (limbs n).getD ((limbs n).length - 1) 0 ≠ 0 := by
  rw [← top_limbs]; exact top_at _ (by rw [top_limbs]; exact limbs_length_pos h)
theorem limbs_small {n : Nat} (h : n < 4294967296) (h0 : n ≠ 0) : limbs n = [n] := by
  rw [limbs_pos h0, show n / 4294967296 = 0 by omega, limbs_zero, Nat.mod_eq_of_lt h]
theorem limbs_two {n : Nat} (h : 4294967296 ≤ n) (h2 : n < 18446744073709551616) : limbs n = [n % 4294967296, n / 4294967296] := by
  rw [limbs_pos (by omega), limbs_small (by omega) (by omega)]
theorem limbs_eq_nil {n : Nat} : limbs n = [] ↔ n = 0 := by
  constructor
  · intro h
    have := val_limbs n
    rw [h] at this
    exact this.symm
  · rintro rfl; exact limbs_zero
/-- The number lies between the powers that its length tells. -/
theorem limbs_ge {n : Nat} (h : n ≠ 0) : 4294967296 ^ ((limbs n).length - 1) ≤ n := by
  induction n using Nat.strongRecOn with
  | ind n ih =>
    rw [limbs_pos h]
    by_cases h1 : n / 4294967296 = 0
    · rw [h1, limbs_zero]; simp; omega
    · have := ih _ (by omega) h1
      have hp := limbs_length_pos h1
      rw [List.length_cons, show (limbs (n / 4294967296)).length + 1 - 1 = ((limbs (n / 4294967296)).length - 1) + 1 by omega, Nat.pow_succ]
      omega
theorem limbs_lt (n : Nat) : n < 4294967296 ^ (limbs n).length := by
  have := val_lt (fit_limbs n)
  rwa [val_limbs] at this
theorem limbs_length_le {n k : Nat} (h : n < 4294967296 ^ k) : (limbs n).length ≤ k := by
  by_cases h0 : n = 0
  · subst h0; simp [limbs_zero]
  · rcases Nat.lt_or_ge k (limbs n).length with h1 | h1
    · have := limbs_ge h0
      have : 4294967296 ^ k ≤ 4294967296 ^ ((limbs n).length - 1) := Nat.pow_le_pow_right (by omega) (by omega)
      omega
    · exact h1

/-- How many binary digits. -/
def blen (n : Nat) : Nat := if h : n = 0 then 0 else blen (n / 2) + 1
termination_by n
decreasing_by omega
theorem blen_zero : blen 0 = 0 := by rw [blen]; simp
theorem blen_pos {n : Nat} (h : n ≠ 0) : blen n = blen (n / 2) + 1 := by rw [blen]; simp [h]
theorem blen_bounds (n : Nat) (h : n ≠ 0) : 1 ≤ blen n ∧ 2 ^ (blen n - 1) ≤ n ∧ n < 2 ^ blen n := by
  induction n using Nat.strongRecOn with
  | ind n ih =>
    rw [blen_pos h]
    by_cases h1 : n / 2 = 0
    · rw [h1, blen_zero]; simp; omega
    · obtain ⟨a, b, c⟩ := ih _ (by omega) h1
      refine ⟨by omega, ?_, ?_⟩
      · rw [show blen (n / 2) + 1 - 1 = (blen (n / 2) - 1) + 1 by omega, Nat.pow_succ]; omega
      · rw [Nat.pow_succ]; omega
theorem blen_uniq {n k : Nat} (hk : 1 ≤ k) (h1 : 2 ^ (k - 1) ≤ n) (h2 : n < 2 ^ k) : blen n = k := by
  have h0 : n ≠ 0 := by have : 0 < 2 ^ (k - 1) := Nat.two_pow_pos _; omega
  obtain ⟨a, b, c⟩ := blen_bounds n h0
  rcases Nat.lt_trichotomy (blen n) k with h | h | h
  · have : 2 ^ blen n ≤ 2 ^ (k - 1) := Nat.pow_le_pow_right (by omega) (by omega)
    omega
  · exact h
  · have : 2 ^ k ≤ 2 ^ (blen n - 1) := Nat.pow_le_pow_right (by omega) (by omega)
    omega
theorem pow_base (k : Nat) : 4294967296 ^ k = 2 ^ (32 * k) := by rw [show (4294967296 : Nat) = 2 ^ 32 from rfl, ← Nat.pow_mul]
theorem blen_le {n k : Nat} (h : n < 2 ^ k) : blen n ≤ k := by
  by_cases h0 : n = 0
  · subst h0; rw [blen_zero]; omega
  · obtain ⟨a, b, c⟩ := blen_bounds n h0
    rcases Nat.lt_or_ge k (blen n) with h1 | h1
    · have : 2 ^ k ≤ 2 ^ (blen n - 1) := Nat.pow_le_pow_right (by omega) (by omega)
      omega
    · exact h1
theorem blen_limbs {n : Nat} (h : n ≠ 0) : blen n = 32 * ((limbs n).length - 1) + blen ((limbs n).getD ((limbs n).length - 1) 0) := by
  induction n using Nat.strongRecOn with
  | ind n ih =>
    rw [limbs_pos h]
    by_cases h1 : n / 4294967296 = 0
    · rw [h1, limbs_zero]; simp; rw [Nat.mod_eq_of_lt (by omega)]
    · have := ih _ (by omega) h1
      have hp := limbs_length_pos h1
      rw [List.length_cons, show (limbs (n / 4294967296)).length + 1 - 1 = ((limbs (n / 4294967296)).length - 1) + 1 by omega, List.getD_cons_succ, Nat.mul_add, Nat.add_right_comm, ← this]
      obtain ⟨a, b, c⟩ := blen_bounds _ h1
      refine blen_uniq (by omega) ?_ ?_
      · rw [show blen (n / 4294967296) + 32 * 1 - 1 = (blen (n / 4294967296) - 1) + 32 by omega, Nat.pow_add]; omega
      · rw [Nat.mul_one, Nat.pow_add]; omega
end Go.Proofs.YtbhfoelnoddlkaaGreatDoor.Limb

/-
  nat.cut, Norm, From, Uint, Len: walked.
-/
namespace Go.Proofs.YtbhfoelnoddlkaaGreatDoor.D
open Go Go.RowKit Limb

/-- A slice of limbs: nil, or a row in memory. -/
def Limbs (w : World) (v : Value) (l : List Nat) : Prop :=
  Fit l ∧ ((v = .slice none 0 0 ∧ l = []) ∨ ∃ blk off cap, v = .slice (some ⟨blk, off, none⟩) l.length cap ∧ l.length ≤ cap ∧ cap ≤ 9223372036854775807 ∧ blk < w.heap.size ∧ ∀ i, i < l.length → w.cell? ⟨blk, off + i, none⟩ = some (.int .u32 (l.getD i 0 : Nat)))
theorem Limbs.fit {w : World} {v : Value} {l : List Nat} (h : Limbs w v l) : Fit l := h.1
theorem Limbs.below {w w' : World} {v : Value} {l : List Nat} (h : Limbs w v l) (hb : Below w.heap.size w w') : Limbs w' v l := by
  obtain ⟨hf, h | ⟨blk, off, cap, hv, h1, h2, h3, h4⟩⟩ := h
  · exact ⟨hf, .inl h⟩
  · exact ⟨hf, .inr ⟨blk, off, cap, hv, h1, h2, by have := hb.size; omega, fun i hi => by rw [hb.cell (p := ⟨blk, off + i, none⟩) h3]; exact h4 i hi⟩⟩
theorem Limbs.nil (w : World) : Limbs w (.slice none 0 0) [] := ⟨(fun _ hx => by cases hx), Or.inl ⟨rfl, rfl⟩⟩
/-- A store into a block that holds no limb. -/
theorem Limbs.set {w : World} {v : Value} {l : List Nat} (h : Limbs w v l) {k : Nat} {c : Array Value} {t : TypeId} (hk : Blk w k c t) (hc : ∀ (i : Nat) (x : Int), c[i]? ≠ some (.int .u32 x)) (i : Nat) (u : Value) : Limbs (w.setCell ⟨k, i, none⟩ u) v l := by
  obtain ⟨hf, h | ⟨blk, off, cap, hv, h1, h2, h3, h4⟩⟩ := h
  · exact ⟨hf, .inl h⟩
  · refine ⟨hf, .inr ⟨blk, off, cap, hv, h1, h2, by simpa using h3, fun j hj => ?_⟩⟩
    have h5 := h4 j hj
    have hne : blk ≠ k := by
      rintro rfl
      rw [hk.cell] at h5
      exact hc _ _ h5
    rw [World.cell?_of_block (w := w) (a := ⟨blk, off + j, none⟩) (Below.heap_setCell w ⟨k, i, none⟩ u blk hne)]
    exact h5
theorem Limbs.setRow {w : World} {v : Value} {l : List Nat} (h : Limbs w v l) {k : Nat} {c : Array Value} {t : TypeId} (hk : Blk w k c t) (hc : ∀ (i : Nat) (x : Int), c[i]? ≠ some (.int .u32 x)) (c' : Array Value) : Limbs (w.setRow k c') v l := by
  obtain ⟨hf, h | ⟨blk, off, cap, hv, h1, h2, h3, h4⟩⟩ := h
  · exact ⟨hf, .inl h⟩
  · refine ⟨hf, .inr ⟨blk, off, cap, hv, h1, h2, by simpa using h3, fun j hj => ?_⟩⟩
    have h5 := h4 j hj
    have hne : blk ≠ k := by
      rintro rfl
      rw [hk.cell] at h5
      exact hc _ _ h5
    rw [World.cell?_of_block (w := w) (a := ⟨blk, off + j, none⟩) (setRow_other _ _ _ _ hne)]
    exact h5
theorem Limbs.slice {w : World} {v : Value} {l : List Nat} (h : Limbs w v l) : ∃ b c, v = .slice b l.length c := by
  obtain ⟨_, ⟨rfl, rfl⟩ | ⟨blk, off, cap, rfl, _⟩⟩ := h
  · exact ⟨_, _, rfl⟩
  · exact ⟨_, _, rfl⟩
theorem Limbs.take {w : World} {blk off n cap : Nat} {l : List Nat} (hf : Fit l) (h3 : blk < w.heap.size) (h4 : ∀ i, i < l.length → w.cell? ⟨blk, off + i, none⟩ = some (.int .u32 (l.getD i 0 : Nat))) (hn : n ≤ l.length) (hc : n ≤ cap) (hcap : cap ≤ 9223372036854775807) :
    Limbs w (.slice (some ⟨blk, off, none⟩) n cap) (l.take n) := by
  have hl : (l.take n).length = n := by rw [List.length_take]; omega
  refine ⟨fit_take hf n, .inr ⟨blk, off, cap, by rw [hl], by omega, hcap, h3, fun i hi => ?_⟩⟩
  rw [hl] at hi
  rw [h4 i (by omega)]
  congr 3
  rw [List.getD_eq_getElem?_getD, List.getD_eq_getElem?_getD, List.getElem?_take, if_pos hi]
theorem top_of_loop (l : List Nat) (k : Nat) (h : ∀ i, k ≤ i → i < l.length → l.getD i 0 = 0) (h2 : 0 < k → l.getD (k - 1) 0 ≠ 0) : l.take k = trim l := by
  unfold trim; rw [top_eq l k h h2]

set_option maxRecDepth 100000 in
theorem cut_any (w : World) (v : Value) (l : List Nat) (h : Limbs w v l) :
    Calls Tryz.prog 130 #[v] w fun e w' => w' = w ∧ ∃ v', e = .returned v' ∧ Limbs w v' (trim l) := by
  obtain ⟨hf, ⟨rfl, rfl⟩ | ⟨blk, off, cap, rfl, h1, h2, h3, h4⟩⟩ := h
  · go_enter Tryz.func130, Tryz.ntmps130
    go_wp2
    go_loop [3] (fun n => n = .int .i64 0) (fun _ => 0)
    case atStart => rfl
    case round =>
      subst hrel
      go_wp2
      go_ret
      exact ⟨rfl, _, rfl, Limbs.nil w⟩
  · have H4 := Lib.hid h4
    clear h4
    obtain ⟨m, hm⟩ : ∃ m, m = l.length := ⟨_, rfl⟩
    have HM := Lib.hid hm
    rw [← hm] at h1 ⊢
    clear hm
    go_enter Tryz.func130, Tryz.ntmps130
    go_wp2
    go_loop [3] (fun n => ∃ k : Nat, k ≤ m ∧ n = .int .i64 k ∧ Hid (∀ i, k ≤ i → i < l.length → l.getD i 0 = 0)) (fun n => (intOf n).toNat)
    case atStart => exact ⟨m, Nat.le_refl _, rfl, Lib.hid (fun i h5 h6 => by rw [HM.out] at h5; omega)⟩
    case round =>
      obtain ⟨k, hk, rfl, hz⟩ := hrel
      by_cases h0 : k = 0
      · subst h0
        have HR : Hid (Limbs w (.slice (some ⟨blk, off, none⟩) 0 0) (trim l)) := Lib.hid (by
          have := Limbs.take (n := 0) (cap := 0) hf h3 H4.out (by omega) (Nat.le_refl _) (by omega)
          rwa [top_of_loop l 0 hz.out (by omega)] at this)
        go_wp2
        go_ret
        exact ⟨rfl, _, rfl, HR.out⟩
      · have g0 : (0 : Int) < (k : Int) := by omega
        have hc := H4.out (k - 1) (by rw [← HM.out]; omega)
        have g1 : ((k : Int) - 1).toNat = k - 1 := by omega
        have g2 : (0 : Int) ≤ (k : Int) - 1 := by omega
        have g3 : (k : Int) - 1 < (m : Int) := by omega
        have g4 : IntKind.i64.wrap ((k : Int) - 1) = (k : Int) - 1 := IntWalk.i64_in _ (by omega)
        by_cases hx : l.getD (k - 1) 0 = 0
        · rw [hx] at hc
          have HZ : Hid (∀ i, k - 1 ≤ i → i < l.length → l.getD i 0 = 0) := Lib.hid (fun i h5 h6 => by
            rcases Nat.lt_or_ge i k with h7 | h7
            · rw [show i = k - 1 by omega]; exact hx
            · exact hz.out i h7 h6)
          clear hx
          go_wp2
          go_round
          case rel => exact ⟨k - 1, by omega, by congr 1; omega, HZ⟩
          case measure => simp [intOf]; omega
        · have HR : Hid (Limbs w (.slice (some ⟨blk, off, none⟩) k k) (trim l)) := Lib.hid (by
            have := Limbs.take (n := k) (cap := k) hf h3 H4.out (by rw [← HM.out]; omega) (Nat.le_refl _) (by omega)
            rwa [top_of_loop l k hz.out (fun _ => hx)] at this)
          have hq : (((l.getD (k - 1) 0 : Nat) : Int) == 0) = false := beq_eq_false_iff_ne.2 (by omega)
          generalize ((l.getD (k - 1) 0 : Nat) : Int) = q at hc hq
          clear hx
          go_wp2
          go_ret
          exact ⟨rfl, _, rfl, HR.out⟩

/-- Limbs as cells. -/
def uCell (x : Nat) : Value := .int .u32 (x : Int)
def uCells (l : List Nat) : Array Value := (l.map uCell).toArray
theorem uCells_at (l : List Nat) (i : Nat) (h : i < l.length) : (uCells l)[i]? = some (.int .u32 (l.getD i 0 : Nat)) := by
  unfold uCells uCell
  rw [List.getElem?_toArray, List.getElem?_map, List.getD_eq_getElem?_getD, List.getElem?_eq_getElem h]; rfl
theorem uCells_set (l : List Nat) (i : Nat) (x : Nat) : (uCells l).setIfInBounds i (.int .u32 (x : Int)) = uCells (l.set i x) := by
  unfold uCells
  apply Array.ext_getElem?
  intro j
  rw [Array.getElem?_setIfInBounds, List.getElem?_toArray, List.getElem?_toArray, List.getElem?_map, List.getElem?_map, List.getElem?_set]
  by_cases h : i = j
  · subst h
    by_cases h2 : i < l.length <;> simp [h2, uCell]
  · simp [h]
theorem uCells_size (l : List Nat) : (uCells l).size = l.length := by simp [uCells]
theorem uCell_one (l : List Nat) : ∀ v ∈ l.map uCell, v.oneCell' = true := by
  intro v hv
  obtain ⟨c, _, rfl⟩ := List.mem_map.1 hv
  rfl
theorem info32 : (Tryz.prog.info? 140).map (fun i => (i.zero, i.size, i.bytes)) = some (some (.int .u32 0), 1, 4) := by kernel_rfl
theorem info32' : ∃ i, Tryz.prog.info? 140 = some i ∧ i.zero = some (.int .u32 0) ∧ i.size = 1 ∧ i.bytes = 4 := by
  have hinfo := info32
  cases hq : Tryz.prog.info? 140 with
  | none => rw [hq] at hinfo; cases hinfo
  | some i =>
    rw [hq] at hinfo
    simp only [Option.map_some, Option.some.injEq, Prod.mk.injEq] at hinfo
    exact ⟨i, rfl, hinfo⟩
theorem make_nat (w : World) (n : Nat) (hn : n ≤ 34359738368) : (Instr.makeSlice 28 (.int .i64 (n : Int)) (.int .i64 (n : Int))).run Tryz.prog w = .ok (.slice (some ⟨w.heap.size, 0, none⟩) n n) (w.alloc (.cells (uCells (List.replicate n 0)) 140)) := by
  obtain ⟨i, hi, hz, hsz, hby⟩ := info32'
  have := run_make (P := Tryz.prog) w 28 140 i (.int .u32 0) Tryz.underlying28 hi hz .i64 .i64 (n : Int) (n : Int) (by omega) (by omega) (by rw [hby]; omega) (by omega)
  have hc : madeCells (Value.int IntKind.u32 0).cells (n * 1) = uCells (List.replicate n 0) := by
    apply Array.ext_getElem?
    intro j
    have hg : ∀ l : List Nat, (uCells l)[j]? = (l.map uCell)[j]? := fun l => by unfold uCells; rw [List.getElem?_toArray]
    rw [hg, List.getElem?_map, List.getElem?_replicate]
    simp only [madeCells, Value.cells]
    by_cases hj : j < n
    · simp [hj, Nat.mod_one]; rfl
    · simp [hj]
  rw [this, hsz, Int.toNat_natCast, hc]
theorem limbs_of_blk {w : World} {k : Nat} {l : List Nat} (h : Blk w k (uCells l) 140) (hf : Fit l) (n cap : Nat) (hn : n ≤ l.length) (hc : n ≤ cap) (hcap : cap ≤ 9223372036854775807) : Limbs w (.slice (some ⟨k, 0, none⟩) n cap) (l.take n) :=
  Limbs.take hf h.lt (fun i hi => by rw [Nat.zero_add, h.cell, uCells_at l i hi]) hn hc hcap

/-- A slice in a new block, or none. -/
def New (B : Nat) (v : Value) : Prop := ∀ b o k c, v = .slice (some ⟨b, o, none⟩) k c → B ≤ b
theorem New.mono {B B' : Nat} {v : Value} (h : New B v) (hB : B' ≤ B) : New B' v := fun b o k c e => Nat.le_trans hB (h b o k c e)
theorem New.none (B n c : Nat) : New B (.slice none n c) := fun b o k c e => by simp at e
set_option maxRecDepth 100000 in
theorem norm_any (w : World) (v : Value) (l : List Nat) (h : Limbs w v l) (hl : l.length ≤ 34359738368) :
    Calls Tryz.prog 113 #[v] w fun e w' => Below w.heap.size w w' ∧ ∃ v', e = .returned v' ∧ Limbs w' v' (trim l) ∧ New w.heap.size v' := by
  have HC := Lib.hid (cut_any w v l h)
  clear h
  go_enter Tryz.func113, Tryz.ntmps113
  go_wp2_with fail
  refine HC.out.mono ?_
  rintro e w1 ⟨rfl, v1, rfl, h1⟩
  obtain ⟨hf, hv⟩ := h1
  obtain ⟨T, hT⟩ : ∃ T, T = trim l := ⟨_, rfl⟩
  have hn : T.length ≤ 34359738368 := by rw [hT, length_trim]; have := top_le l; omega
  rw [← hT] at hf hv
  have HT := Lib.hid hT
  clear hT hl
  have hmk := make_nat w1 T.length hn
  have hB := Blk.new w1 (uCells (List.replicate T.length 0)) 140
  have hb : Below w1.heap.size w1 (w1.alloc (.cells (uCells (List.replicate T.length 0)) 140)) := (Below.refl _ _).alloc (Nat.le_refl _) _
  obtain ⟨b, cap, rfl⟩ : ∃ b cap, v1 = .slice b T.length cap := by
    rcases hv with ⟨rfl, rfl⟩ | ⟨blk, off, cap, rfl, _⟩ <;> exact ⟨_, _, rfl⟩
  have HV := Lib.hid hv
  clear hv
  go_upto_region 3 with fail
  clear hmk
  generalize w1.alloc (.cells (uCells (List.replicate T.length 0)) 140) = w2 at hB hb ⊢
  refine wp_region_lit ?_
  iterate 6 go_step
  refine wpList_copy_splice rfl (.tmp 9) (.tmp 10) 28 28 rfl 140 Tryz.underlying28 (by kernel_rfl) (some ⟨w1.heap.size, 0, none⟩) b T.length T.length T.length cap rfl rfl w1.heap.size 0 ((List.replicate T.length 0).map uCell) 140 hB (T.map uCell) (by simp) ?_ (by simp) (uCell_one _) w1.heap.size w1 hb (Nat.le_refl _) ?_
  · intro h0
    refine ⟨rfl, ?_⟩
    rcases HV.out with ⟨h, h'⟩ | ⟨blk, off, cap', h, h1, h2, h3, h4⟩
    · rw [h'] at h0; simp at h0
    · simp only [Value.slice.injEq] at h
      obtain ⟨rfl, -, rfl⟩ := h
      refine ⟨_, rfl, fun j u hj => ?_⟩
      rw [List.getElem?_map] at hj
      have hjl : j < T.length := by
        rcases Nat.lt_or_ge j T.length with h | h
        · exact h
        · rw [List.getElem?_eq_none h] at hj; cases hj
      rw [List.getElem?_eq_getElem hjl] at hj
      have hadd : (⟨blk, off, none⟩ : Addr).add j = ⟨blk, off + j, none⟩ := by unfold Addr.add; split <;> simp_all
      rw [hadd, hb.cell (p := ⟨blk, off + j, none⟩) h3, h4 j hjl, List.getD_eq_getElem?_getD, List.getElem?_eq_getElem hjl]
      exact hj
  · intro w3 hB3 hb3
    have hfin : Blk w3 w1.heap.size (uCells T) 140 := by
      have := hB3.out
      have e : splice ((List.replicate T.length 0).map uCell) 0 (T.map uCell) = T.map uCell := by simp [splice]
      rw [e] at this
      exact this
    have HF := Lib.hid (limbs_of_blk hfin hf T.length T.length (Nat.le_refl _) (Nat.le_refl _) (by omega))
    clear hB3 hB hb hfin
    go_wp2
    go_ret
    refine ⟨hb3, _, rfl, ?_, fun b o k c e => by simp at e; omega⟩
    have := HF.out
    rw [List.take_of_length_le (Nat.le_refl _)] at this
    rw [← HT.out]
    exact this
end Go.Proofs.YtbhfoelnoddlkaaGreatDoor.D

