/-
  Of the proof that the law DiagDeep answers true at every row of bytes: a part, without conditions of its own.
-/
import Derived.Test.YtbhfoelnoddlkaaGreatDoorPart06
set_option linter.unusedVariables false
set_option linter.unusedSimpArgs false
/-
  Trees whose blocks are told by a predicate.
-/
namespace Go.Proofs.YtbhfoelnoddlkaaGreatDoor.D
open Go Go.RowKit Limb

/-- As Fine, the limbs' block one of P. -/
def FineP (w : World) (P : Nat → Prop) (kind n : Int) (mag : Value) (bits ext : Int) (text : List UInt8) (m X : Nat) : Prop :=
  Fine w w.heap.size kind n mag bits ext text m X ∧ ∀ b o k c, mag = .slice (some ⟨b, o, none⟩) k c → P b
def TreeP (w : World) (P : Nat → Prop) : F → Nat → Value → Prop
  | .stop, _, _ => False
  | .node t X fs, d, v => ∃ (kind n : Int) (mag : Value) (bits ext : Int) (text : List UInt8) (kids : Value) (m : Nat), v = .agg (vCells kind n false mag bits ext (strL text) kids) ∧ FineP w P kind n mag bits ext text m X ∧ Told kind n X text m t fs ∧
    ((m = 0 ∧ kids = .slice none 0 0 ∧ d = 0) ∨
     (0 < m ∧ ∃ (b o cap : Nat) (xs : Nat → Array Value) (ds : Nat → Nat), kids = .slice (some ⟨b, o, none⟩) m cap ∧ m ≤ cap ∧ cap ≤ 9223372036854775807 ∧ (b < w.heap.size ∧ P b) ∧ VRow w b o m xs ∧ (∀ i, i < m → TreeP w P (fs i) (ds i) (.agg (xs i)) ∧ ds i < d) ∧ ∃ i, i < m ∧ ds i + 1 = d))
theorem Fine.lt {w : World} {N : Nat} {kind n : Int} {mag : Value} {bits ext : Int} {text : List UInt8} {m X : Nat} (h : Fine w N kind n mag bits ext text m X) : ∀ b o k c, mag = .slice (some ⟨b, o, none⟩) k c → b < w.heap.size ∧ b < N := by
  intro b o k c e
  obtain ⟨_, ⟨_, _, h, _⟩ | ⟨_, _, _, _, _, x, _, h, hN⟩ | ⟨_, _, h, _⟩ | ⟨_, _, h, _⟩ | ⟨_, _, h, _⟩ | ⟨_, _, h, _⟩ | ⟨_, _, h, _⟩⟩ := h
  · rw [h] at e; simp at e
  · refine ⟨?_, hN b o k c e⟩
    obtain ⟨_, ⟨h, _⟩ | ⟨blk, off, cap, h, _, _, h3, _⟩⟩ := h
    · rw [h] at e; simp at e
    · rw [h] at e; simp only [Value.slice.injEq, Option.some.injEq, Addr.mk.injEq] at e; obtain ⟨⟨rfl, _⟩, _⟩ := e; exact h3
  all_goals (rw [h] at e; simp at e)
theorem Fine.size {w : World} {N : Nat} {kind n : Int} {mag : Value} {bits ext : Int} {text : List UInt8} {m X : Nat} (h : Fine w N kind n mag bits ext text m X) (N' : Nat) (hN : ∀ b o k c, mag = .slice (some ⟨b, o, none⟩) k c → b < N') : Fine w N' kind n mag bits ext text m X := by
  obtain ⟨h0, h | ⟨a1, a2, a3, a4, a5, x, hx, hl, h1⟩ | h⟩ := h
  · exact ⟨h0, .inl h⟩
  · exact ⟨h0, .inr (.inl ⟨a1, a2, a3, a4, a5, x, hx, hl, hN⟩)⟩
  · exact ⟨h0, .inr (.inr h)⟩
theorem Tree.toP {w : World} {N : Nat} : ∀ (f : F) (d : Nat) (v : Value), Tree w N f d v → N ≤ w.heap.size → TreeP w (· < N) f d v
  | .stop, _, _, h, _ => h
  | .node t X fs, d, v, ⟨kind, n, mag, bits, ext, text, kids, m, hv, hf, ht, h⟩, hN => ⟨kind, n, mag, bits, ext, text, kids, m, hv, ⟨hf.size _ (fun b o k c e => (hf.lt b o k c e).1), fun b o k c e => (hf.lt b o k c e).2⟩, ht, by
    rcases h with h | ⟨h0, b, o, cap, xs, ds, hk, h1, h2, h3, h4, h5, h6⟩
    · exact .inl h
    · exact .inr ⟨h0, b, o, cap, xs, ds, hk, h1, h2, ⟨by omega, h3⟩, h4, fun i hi => ⟨Tree.toP (fs i) _ _ (h5 i hi).1 hN, (h5 i hi).2⟩, h6⟩⟩
theorem TreeP.toN {w : World} {P : Nat → Prop} {N : Nat} (hP : ∀ b, P b → b < w.heap.size → b < N) : ∀ (f : F) (d : Nat) (v : Value), TreeP w P f d v → Tree w N f d v
  | .stop, _, _, h => h
  | .node t X fs, d, v, ⟨kind, n, mag, bits, ext, text, kids, m, hv, hf, ht, h⟩ => ⟨kind, n, mag, bits, ext, text, kids, m, hv, hf.1.size _ (fun b o k c e => hP b (hf.2 b o k c e) (hf.1.lt b o k c e).1), ht, by
    rcases h with h | ⟨h0, b, o, cap, xs, ds, hk, h1, h2, h3, h4, h5, h6⟩
    · exact .inl h
    · exact .inr ⟨h0, b, o, cap, xs, ds, hk, h1, h2, hP b h3.2 h3.1, h4, fun i hi => ⟨TreeP.toN hP (fs i) _ _ (h5 i hi).1, (h5 i hi).2⟩, h6⟩⟩
theorem lt_of_heap {w w' : World} {b : Nat} (hb : b < w.heap.size) (h : w'.heap[b]? = w.heap[b]?) : b < w'.heap.size := by
  rw [Array.getElem?_eq_getElem hb] at h
  exact (Array.getElem?_eq_some_iff.1 h).1
theorem FineP.same {w w' : World} {P Q : Nat → Prop} {kind n : Int} {mag : Value} {bits ext : Int} {text : List UInt8} {m X : Nat} (h : FineP w P kind n mag bits ext text m X) (hs : ∀ b, P b → b < w.heap.size → w'.heap[b]? = w.heap[b]?) (hQ : ∀ b, P b → b < w.heap.size → Q b) : FineP w' Q kind n mag bits ext text m X := by
  obtain ⟨⟨h0, h⟩, hp⟩ := h
  rcases h with h | ⟨a1, a2, a3, a4, a5, x, hx, hl, h1⟩ | ⟨a1, a2, a3, r⟩ | ⟨a1, a2, a3, r⟩ | ⟨a1, a2, a3, r⟩ | ⟨a1, a2, a3, r⟩ | ⟨a1, a2, a3, r⟩
  · exact ⟨⟨h0, .inl h⟩, fun b o k c e => by rw [h.2.2.1] at e; simp at e⟩
  · obtain ⟨hf, ⟨h, h'⟩ | ⟨blk, off, cap, hv, q1, q2, q3, q4⟩⟩ := hl
    · exact ⟨⟨h0, .inr (.inl ⟨a1, a2, a3, a4, a5, x, hx, ⟨hf, .inl ⟨h, h'⟩⟩, fun b o k c e => by rw [h] at e; simp at e⟩)⟩, fun b o k c e => by rw [h] at e; simp at e⟩
    · have hP := hp _ _ _ _ hv
      have he := hs blk hP q3
      refine ⟨⟨h0, .inr (.inl ⟨a1, a2, a3, a4, a5, x, hx, ⟨hf, .inr ⟨blk, off, cap, hv, q1, q2, lt_of_heap q3 he, fun i hi => by rw [World.cell?_of_block (w := w) (a := ⟨blk, off + i, none⟩) he]; exact q4 i hi⟩⟩, fun b o k c e => ?_⟩)⟩, fun b o k c e => ?_⟩
      · rw [hv] at e; simp only [Value.slice.injEq, Option.some.injEq, Addr.mk.injEq] at e; obtain ⟨⟨rfl, _⟩, _⟩ := e; exact lt_of_heap q3 he
      · rw [hv] at e; simp only [Value.slice.injEq, Option.some.injEq, Addr.mk.injEq] at e; obtain ⟨⟨rfl, _⟩, _⟩ := e; exact hQ _ hP q3
  · exact ⟨⟨h0, .inr (.inr (.inl ⟨a1, a2, a3, r⟩))⟩, fun b o k c e => by rw [a3] at e; simp at e⟩
  · exact ⟨⟨h0, .inr (.inr (.inr (.inl ⟨a1, a2, a3, r⟩)))⟩, fun b o k c e => by rw [a3] at e; simp at e⟩
  · exact ⟨⟨h0, .inr (.inr (.inr (.inr (.inl ⟨a1, a2, a3, r⟩))))⟩, fun b o k c e => by rw [a3] at e; simp at e⟩
  · exact ⟨⟨h0, .inr (.inr (.inr (.inr (.inr (.inl ⟨a1, a2, a3, r⟩)))))⟩, fun b o k c e => by rw [a3] at e; simp at e⟩
  · exact ⟨⟨h0, .inr (.inr (.inr (.inr (.inr (.inr ⟨a1, a2, a3, r⟩)))))⟩, fun b o k c e => by rw [a3] at e; simp at e⟩
theorem TreeP.same {w w' : World} {P Q : Nat → Prop} (hs : ∀ b, P b → b < w.heap.size → w'.heap[b]? = w.heap[b]?) (hQ : ∀ b, P b → b < w.heap.size → Q b) : ∀ (f : F) (d : Nat) (v : Value), TreeP w P f d v → TreeP w' Q f d v
  | .stop, _, _, h => h
  | .node t X fs, d, v, ⟨kind, n, mag, bits, ext, text, kids, m, hv, hf, ht, h⟩ => ⟨kind, n, mag, bits, ext, text, kids, m, hv, hf.same hs hQ, ht, by
    rcases h with h | ⟨h0, b, o, cap, xs, ds, hk, h1, h2, h3, h4, h5, h6⟩
    · exact .inl h
    · refine .inr ⟨h0, b, o, cap, xs, ds, hk, h1, h2, ⟨lt_of_heap h3.1 (hs b h3.2 h3.1), hQ b h3.2 h3.1⟩, fun i hi => ⟨(h4 i hi).1, fun j hj => ?_⟩, fun i hi => ⟨TreeP.same hs hQ (fs i) _ _ (h5 i hi).1, (h5 i hi).2⟩, h6⟩
      rw [World.cell?_of_block (w := w) (a := ⟨b, o + i * 8 + j, none⟩) (hs b h3.2 h3.1)]
      exact (h4 i hi).2 j hj⟩
end Go.Proofs.YtbhfoelnoddlkaaGreatDoor.D

