/-
  What a hash holds when it has taken some bytes, and how it takes more: plain lists. No program in sight.
-/
import Derived.Test.YtdchgojnmfoffaaDoorBits
import Derived.Laws.CopyOwn
namespace Go.Proofs.YtdchgojnmfoffaaDoor.Sha
open Go

theorem run_append (k : Nat) : ∀ (h : St) (l l' : List UInt8), 64 * k ≤ l.length → run k h (l ++ l') = run k h l := by
  induction k with
  | zero => intros; rfl
  | succ k ih =>
    intro h l l' hl
    simp only [run]
    rw [List.take_append_of_le_length (by omega), List.drop_append_of_le_length (by omega)]
    exact ih _ _ _ (by simp; omega)
theorem run_last (k : Nat) : ∀ (h : St) (l : List UInt8), run (k + 1) h l = step (run k h l) ((l.drop (64 * k)).take 64) := by
  induction k with
  | zero => intros; rfl
  | succ k ih =>
    intro h l
    have e : run (k + 1 + 1) h l = run (k + 1) (step h (l.take 64)) (l.drop 64) := rfl
    rw [e, ih, List.drop_drop, show 64 + 64 * k = 64 * (k + 1) by omega]
    rfl

/-- A hash's memory: the words, the bytes that wait, how many were taken. -/
structure HS where
  s : St
  b : List UInt8
  m : Nat
structure Took (x : HS) (L : List UInt8) : Prop where
  m : x.m = L.length
  b : x.b.length = 64
  s : x.s = run (L.length / 64) H0 L
  t : x.b.take (L.length % 64) = L.drop (L.length / 64 * 64)
def hs0 : HS := { s := H0, b := List.replicate 64 0, m := 0 }
theorem took0 : Took hs0 [] := ⟨rfl, rfl, rfl, rfl⟩

theorem Took.more {x : HS} {L : List UInt8} (h : Took x L) (t : List UInt8) (hn : L.length % 64 + t.length < 64) :
    Took { s := x.s, b := splice x.b (L.length % 64) t, m := x.m + t.length } (L ++ t) := by
  have hb := h.b
  have e1 : (L ++ t).length / 64 = L.length / 64 := by rw [List.length_append]; omega
  have e2 : (L ++ t).length % 64 = L.length % 64 + t.length := by rw [List.length_append]; omega
  refine ⟨by simp [h.m], by rw [length_splice _ _ _ (by omega)]; exact hb, ?_, ?_⟩
  · rw [e1, run_append _ _ _ _ (by omega)]; exact h.s
  · rw [e1, e2, List.drop_append_of_le_length (by omega), ← h.t]
    simp only [splice]
    rw [List.take_append, List.take_take, List.length_take, hb, List.take_append, show min (L.length % 64) 64 = L.length % 64 by omega]
    rw [List.take_of_length_le (show t.length ≤ L.length % 64 + t.length - L.length % 64 by omega), show L.length % 64 + t.length - L.length % 64 - t.length = 0 by omega]
    rw [show min (L.length % 64 + t.length) (L.length % 64) = L.length % 64 by omega]
    simp
theorem Took.full {x : HS} {L : List UInt8} (h : Took x L) (t : List UInt8) (hn : L.length % 64 + t.length = 64) :
    Took { s := Sha.step x.s (splice x.b (L.length % 64) t), b := splice x.b (L.length % 64) t, m := x.m + t.length } (L ++ t) := by
  have hb := h.b
  have e1 : (L ++ t).length / 64 = L.length / 64 + 1 := by rw [List.length_append]; omega
  have e2 : (L ++ t).length % 64 = 0 := by rw [List.length_append]; omega
  have e3 : splice x.b (L.length % 64) t = L.drop (L.length / 64 * 64) ++ t := by
    rw [← h.t]; simp only [splice]; rw [List.drop_eq_nil_of_le (by omega)]; simp
  refine ⟨by simp [h.m], by rw [length_splice _ _ _ (by omega)]; exact hb, ?_, ?_⟩
  · have e4 : (L.drop (L.length / 64 * 64) ++ t).length ≤ 64 := by rw [List.length_append, List.length_drop]; omega
    rw [e1, run_last, run_append _ _ _ _ (by omega), List.drop_append_of_le_length (by omega), Nat.mul_comm 64, List.take_of_length_le e4]
    show Sha.step x.s (splice x.b (L.length % 64) t) = _
    rw [e3, h.s]
  · rw [e1, e2, List.drop_eq_nil_of_le (by simp; omega)]; rfl

/-- Padded, the words are the digest's. -/
theorem len_padded (l : List UInt8) : (padded l).length % 64 = 0 := by
  simp [padded, tail, noughts, be8]; omega
end Go.Proofs.YtdchgojnmfoffaaDoor.Sha
