/-
  Three places beside one another: what they are, and how a step leaves them. No walk.
-/
import Derived.Test.YtdchgojnmfoffaaDoorP4
namespace Go.Proofs.YtdchgojnmfoffaaDoor.Sha
open Go Go.RowKit

/-- What the three places hold: the hash, what it has taken, whether it is there; and the hash's block, if it has one. -/
structure PS where
  h : Nat → Value
  T : Nat → List UInt8
  B : Nat → Bool
  own : Nat → Nat
def PS.cells (s : PS) : Array Value := #[s.h 0, .string (strL (s.T 0)), .bool (s.B 0), s.h 1, .string (strL (s.T 1)), .bool (s.B 1), s.h 2, .string (strL (s.T 2)), .bool (s.B 2)]
theorem PS.at0 (s : PS) : ∀ k, k < 3 → s.cells[3 * k]? = some (s.h k)
  | 0, _ => rfl
  | 1, _ => rfl
  | 2, _ => rfl
theorem PS.at1 (s : PS) : ∀ k, k < 3 → s.cells[3 * k + 1]? = some (.string (strL (s.T k)))
  | 0, _ => rfl
  | 1, _ => rfl
  | 2, _ => rfl
theorem PS.at2 (s : PS) : ∀ k, k < 3 → s.cells[3 * k + 2]? = some (.bool (s.B k))
  | 0, _ => rfl
  | 1, _ => rfl
  | 2, _ => rfl
/-- Place k becomes another. -/
def PS.put (s : PS) (k : Nat) (h : Value) (T : List UInt8) (B : Bool) (own : Nat) : PS :=
  { h := fun j => if j = k then h else s.h j, T := fun j => if j = k then T else s.T j, B := fun j => if j = k then B else s.B j, own := fun j => if j = k then own else s.own j }
theorem PS.put_cells (s : PS) (h : Value) (T : List UInt8) (B : Bool) (own : Nat) : ∀ k, k < 3 →
    ((s.cells.setIfInBounds (3 * k) h).setIfInBounds (3 * k + 1) (.string (strL T))).setIfInBounds (3 * k + 2) (.bool B) = (s.put k h T B own).cells
  | 0, _ => by simp [PS.cells, PS.put]
  | 1, _ => by simp [PS.cells, PS.put]
  | 2, _ => by simp [PS.cells, PS.put]
theorem PS.put_taken (s : PS) (T : List UInt8) : ∀ k, k < 3 → s.cells.setIfInBounds (3 * k + 1) (.string (strL T)) = (s.put k (s.h k) T (s.B k) (s.own k)).cells
  | 0, _ => by simp [PS.cells, PS.put]
  | 1, _ => by simp [PS.cells, PS.put]
  | 2, _ => by simp [PS.cells, PS.put]

/-- One place is as it should be: N: where the call's own memory begins; lb: the array's block. -/
def Place (w : World) (N lb bd : Nat) (h : Value) (T : List UInt8) (B : Bool) (own : Nat) : Prop :=
  T.length ≤ bd ∧ ((B = true ∧ h = .pointer (some ⟨own, 0, none⟩) ∧ N ≤ own ∧ own ≠ lb ∧ ∃ x, Took x T ∧ Blk w own x.cells 40) ∨
    (B = false ∧ (h = .pointer none ∨ (h = .pointer (some ⟨own, 0, none⟩) ∧ N ≤ own ∧ own ≠ lb ∧ ∃ c, Blk w own c 40 ∧ c[0]? = some (.bool false) ∧ c[73]? = some (.int .i64 0)))))
/-- That they hold it lies in what block own holds. -/
theorem Place.same {w w' : World} {N lb bd bd' : Nat} {h : Value} {T : List UInt8} {B : Bool} {own : Nat} (k : Place w N lb bd h T B own) (hbd : bd ≤ bd') (hb : h ≠ .pointer none → own < w.heap.size → w'.heap[own]? = w.heap[own]?) : Place w' N lb bd' h T B own := by
  obtain ⟨h0, h1⟩ := k
  refine ⟨by omega, ?_⟩
  rcases h1 with ⟨hB, hh, hN, hl, x, hx, hk⟩ | ⟨hB, hh | ⟨hh, hN, hl, c, hk, hc⟩⟩
  · refine .inl ⟨hB, hh, hN, hl, x, hx, ?_⟩
    unfold Blk at *
    rw [hb (by rw [hh]; simp) (Blk.lt hk)]; exact hk
  · exact .inr ⟨hB, .inl hh⟩
  · refine .inr ⟨hB, .inr ⟨hh, hN, hl, c, ?_, hc⟩⟩
    unfold Blk at *
    rw [hb (by rw [hh]; simp) (Blk.lt hk)]; exact hk
theorem Place.lt {w : World} {N lb bd : Nat} {h : Value} {T : List UInt8} {B : Bool} {own : Nat} (k : Place w N lb bd h T B own) (hn : h ≠ .pointer none) : own < w.heap.size ∧ N ≤ own ∧ own ≠ lb := by
  rcases k.2 with ⟨_, _, hN, hl, x, _, hk⟩ | ⟨_, hh | ⟨_, hN, hl, c, hk, _⟩⟩
  · exact ⟨hk.lt, hN, hl⟩
  · exact absurd hh hn
  · exact ⟨hk.lt, hN, hl⟩

structure PS.ok (s : PS) (w : World) (N lb bd : Nat) : Prop where
  arr : Blk w lb s.cells 29
  each : ∀ j, j < 3 → Place w N lb bd (s.h j) (s.T j) (s.B j) (s.own j)
  apart : ∀ i j, i < 3 → j < 3 → i ≠ j → s.h i ≠ .pointer none → s.h j ≠ .pointer none → s.own i ≠ s.own j
  lb : N ≤ lb
theorem PS.ok.below {s : PS} {w w' : World} {N lb bd : Nat} (h : s.ok w N lb bd) (hb : Below w.heap.size w w') : s.ok w' N lb bd :=
  ⟨h.arr.below hb h.arr.lt, fun j hj => (h.each j hj).same (Nat.le_refl _) (fun _ hl => hb.block _ hl), h.apart, h.lb⟩
theorem PS.ok.drewN {s : PS} {w : World} {N lb bd : Nat} (h : s.ok w N lb bd) (m : Nat) : s.ok (w.drewN m) N lb bd :=
  h.below (below_drewN (Below.refl _ _) m)
theorem PS.ok.mono {s : PS} {w : World} {N lb bd bd' : Nat} (h : s.ok w N lb bd) (hb : bd ≤ bd') : s.ok w N lb bd' :=
  ⟨h.arr, fun j hj => (h.each j hj).same hb (fun _ _ => rfl), h.apart, h.lb⟩
/-- Behind a write at place k, which is there. -/
theorem PS.ok.write {s : PS} {w w' : World} {N lb bd k : Nat} (h : s.ok w N lb bd) (hk : k < 3) (hB : s.B k = true) {l : List UInt8} {bd' : Nat} (hbd : bd + l.length ≤ bd') {x' : HS} (hx : Took x' (s.T k ++ l)) (hp : Blk w' (s.own k) x'.cells 40)
    (hl : Blk w' lb (s.cells.setIfInBounds (3 * k + 1) (.string (strL (s.T k ++ l)))) 29) (hE : Ex (fun q => q = s.own k ∨ q = lb) w.heap.size w w') : (s.put k (s.h k) (s.T k ++ l) (s.B k) (s.own k)).ok w' N lb bd' := by
  have hP := h.each k hk
  have hh : s.h k = .pointer (some ⟨s.own k, 0, none⟩) ∧ N ≤ s.own k ∧ s.own k ≠ lb := by
    rcases hP.2 with ⟨_, h1, h2, h3, _⟩ | ⟨h1, _⟩
    · exact ⟨h1, h2, h3⟩
    · rw [hB] at h1; cases h1
  refine ⟨by rw [← PS.put_taken s _ k hk]; exact hl, fun j hj => ?_, fun i j hi hj hij => ?_, h.lb⟩
  · by_cases hjk : j = k
    · subst hjk
      simp only [PS.put, if_true]
      exact ⟨by rw [List.length_append]; have := hP.1; omega, .inl ⟨hB, hh.1, hh.2.1, hh.2.2, x', hx, hp⟩⟩
    · simp only [PS.put, if_neg hjk]
      refine (h.each j hj).same (by omega) (fun hn hlt => hE.block _ hlt ?_)
      rintro (e | e)
      · exact h.apart j k hj hk hjk hn (by rw [hh.1]; simp) e
      · exact ((h.each j hj).lt hn).2.2 e
  · have eh : ∀ j, (if j = k then s.h k else s.h j) = s.h j := fun j => by split <;> simp_all
    have eo : ∀ j, (if j = k then s.own k else s.own j) = s.own j := fun j => by split <;> simp_all
    simp only [PS.put, eh, eo]
    exact h.apart i j hi hj hij
/-- Behind another place's laying into place k: its hash is nil or lies in a block that no other place has. -/
theorem PS.ok.lay {s : PS} {w w' : World} {N lb bd k : Nat} (h : s.ok w N lb bd) (hk : k < 3) {h0 : Value} {T : List UInt8} {B : Bool} {own : Nat} (hp : Place w' N lb bd h0 T B own) (hfr : h0 ≠ .pointer none → w.heap.size ≤ own)
    (hl : Blk w' lb (((s.cells.setIfInBounds (3 * k) h0).setIfInBounds (3 * k + 1) (.string (strL T))).setIfInBounds (3 * k + 2) (.bool B)) 29) (hE : Ex (fun q => q = lb) w.heap.size w w') : (s.put k h0 T B own).ok w' N lb bd := by
  refine ⟨by rw [← PS.put_cells s h0 T B own k hk]; exact hl, fun j hj => ?_, fun i j hi hj hij => ?_, h.lb⟩
  · by_cases hjk : j = k
    · subst hjk
      simpa [PS.put] using hp
    · simp only [PS.put, if_neg hjk]
      refine (h.each j hj).same (Nat.le_refl _) (fun hn hlt => hE.block _ hlt ?_)
      exact ((h.each j hj).lt hn).2.2
  · simp only [PS.put]
    intro h1 h2
    by_cases e : i = k
    · subst e
      have e2 : ¬ j = i := fun q => hij q.symm
      simp only [if_true, if_neg e2] at h1 h2 ⊢
      have := ((h.each j hj).lt h2).1
      have := hfr h1
      omega
    · by_cases e2 : j = k
      · subst e2
        simp only [if_true, if_neg e] at h1 h2 ⊢
        have := ((h.each i hi).lt h1).1
        have := hfr h2
        omega
      · simp only [if_neg e, if_neg e2] at h1 h2 ⊢
        exact h.apart i j hi hj hij h1 h2
end Go.Proofs.YtdchgojnmfoffaaDoor.Sha
