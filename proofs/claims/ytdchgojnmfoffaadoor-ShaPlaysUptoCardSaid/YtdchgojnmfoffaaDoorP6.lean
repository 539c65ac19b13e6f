/-
  Write, Sum, Len at one of three places: what the two contracts of a place come to.
-/
import Derived.Test.YtdchgojnmfoffaaDoorP5
namespace Go.Proofs.YtdchgojnmfoffaaDoor.Sha
open Go Go.RowKit

theorem place_write (W0 w : World) (hG : Glob W0) (hW : Below W0.heap.size W0 w) (s : PS) (lb bd k : Nat) (hs : s.ok w W0.heap.size lb bd) (hk : k < 3) (v : Value) (l : List UInt8) (hv : Inp W0 v l) (hl : l.length ≤ 16777216) (hbd : bd ≤ 1125899906842624) :
    Calls Tryd.prog 13 #[.pointer (some ⟨lb, 3 * k, none⟩), v] w fun e w' => e = .returned (.bool true) ∧ ∃ s', PS.ok s' w' W0.heap.size lb (bd + l.length) ∧ Below W0.heap.size W0 w' := by
  have h1 := hG.size
  have hlb := hs.lb
  rcases hs.each k hk with ⟨hT, ⟨hB, hh, hN, hne, x, hx, hp⟩ | ⟨hB, hh⟩⟩
  · refine (pwrite_there w (hG.below hW h1) lb (3 * k) (s.own k) s.cells hs.arr x (s.T k) (by rw [s.at0 k hk, hh]) (s.at1 k hk) (by rw [s.at2 k hk, hB]) hx hp (by omega) hne (by omega) W0 v l hv hW hN hlb hl (by omega)).mono ?_
    rintro e w' ⟨he, x', hx', hp', hl', hE⟩
    refine ⟨he, _, hs.write hk hB (Nat.le_refl _) hx' hp' hl' hE, hW.trans (hE.below hW.size ?_)⟩
    rintro q (rfl | rfl)
    · exact hN
    · exact hlb
  · have hwr : ∀ w' u, Below w.heap.size w w' → Calls Tryd.prog 17 #[s.h k, u] w' fun e w'' => e = .returned (.tuple #[]) ∧ w'' = w' := fun w' u hb => by
      rcases hh with hh | ⟨hh, hN, hne, c, hc, h0, _⟩
      · rw [hh]; exact write_nil w' u
      · rw [hh]; exact write_zero w' (s.own k) (by rw [(hc.below hb hc.lt).cell]; exact h0) u
    refine (pwrite_gone w lb (3 * k) s.cells hs.arr (s.h k) (s.at0 k hk) (by rw [s.at2 k hk, hB]) hwr v l (hv.below hW) hl).mono ?_
    rintro e w' ⟨he, hb⟩
    exact ⟨he, s, (hs.below hb).mono (by omega), hW.trans (hb.mono hW.size)⟩
theorem place_right (W0 w : World) (hG : Glob W0) (hW : Below W0.heap.size W0 w) (s : PS) (lb bd k : Nat) (hs : s.ok w W0.heap.size lb bd) (hk : k < 3) (hbd : bd ≤ 140737488355200) (q : Int) (hq : q = 2 ∨ q = 3) :
    Calls Tryd.prog 14 #[.pointer (some ⟨lb, 3 * k, none⟩), .int .i64 q] w fun e w' => e = .returned (.bool true) ∧ Below w.heap.size w w' := by
  rcases hs.each k hk with ⟨hT, ⟨hB, hh, hN, hne, x, hx, hp⟩ | ⟨hB, hh⟩⟩
  · exact pright_there w (hG.below hW hG.size) lb (3 * k) (s.own k) s.cells hs.arr x (s.T k) (by rw [s.at0 k hk, hh]) (s.at1 k hk) (by rw [s.at2 k hk, hB]) hx hp (by omega) q hq
  · rcases hh with hh | ⟨hh, hN, hne, c, hc, h0, h73⟩
    · exact pright_gone w lb (3 * k) s.cells hs.arr (s.h k) (s.at0 k hk) (by rw [s.at2 k hk, hB]) (by rw [hh]; exact hsum_nil w) (by rw [hh]; exact len_nil w) q hq
    · exact pright_gone w lb (3 * k) s.cells hs.arr (s.h k) (s.at0 k hk) (by rw [s.at2 k hk, hB]) (by rw [hh]; exact hsum_zero w _ (by rw [hc.cell]; exact h0)) (by rw [hh]; exact len_at w _ 0 (by rw [hc.cell]; exact h73)) q hq
end Go.Proofs.YtdchgojnmfoffaaDoor.Sha
