/-
  A place: a hash, what it has taken, whether it is there: its write.
-/
import Derived.Test.YtdchgojnmfoffaaDoorP0
import Derived.Test.YtdchgojnmfoffaaDoorP1
namespace Go.Proofs.YtdchgojnmfoffaaDoor.Sha
open Go Go.RowKit

set_option maxRecDepth 100000 in
theorem left_any (w : World) (g : Nat) (v : Value) (l : List UInt8) (hg : Blk w g (bCells (l ++ [28])) 5) (hv : Inp w v l) (hl : l.length ≤ 140737488355328) (c : Nat) (hc : c = l.length + 1) :
    Calls Tryd.prog 29 #[.slice (some ⟨g, 0, none⟩) l.length c, v] w fun e w' => e = .returned (.bool true) ∧ ∃ m, w' = w.drewN m := by
  subst hc
  have hI : Inp w (.slice (some ⟨g, 0, none⟩) l.length (l.length + 1)) l := ⟨_, _, rfl, by omega, fun _ => ⟨g, 0, rfl, hg.lt, fun i hi => by
    rw [Nat.zero_add, hg.cell, bCells_at _ _ (by simp; omega)]
    congr 2
    rw [List.getD_eq_getElem?_getD, List.getD_eq_getElem?_getD, List.getElem?_append_left hi]⟩⟩
  have HS := Lib.hid (sameb_any w _ v l hI hv (by omega))
  have cg : w.cell? ⟨g, l.length, none⟩ = some (.int .u8 28) := by
    rw [hg.cell, bCells_at _ _ (by simp)]
    rw [List.getD_eq_getElem?_getD, List.getElem?_append_right (Nat.le_refl _), Nat.sub_self]; rfl
  obtain ⟨base, cap, rfl, hcap, hs⟩ := hv
  clear hs hI hg
  generalize l.length = n at *
  have g0 : IntKind.i64.wrap ((n : Int) + 1) = (n : Int) + 1 := IntWalk.i64_in _ (by omega)
  have g1 : (n : Int) < (n : Int) + 1 := by omega
  have g2 : ((n : Int) + 1).toNat = n + 1 := by omega
  go_enter Tryd.func29, Tryd.ntmps29
  go_wp2_with fail
  refine HS.out.mono ?_
  rintro e w2 ⟨rfl, m, rfl⟩
  go_wp2_with fail
  refine (is_any _).mono ?_
  rintro e w3 ⟨rfl, rfl⟩
  go_wp2
  go_ret
  exact ⟨rfl, m, rfl⟩

/-- Below B all is as it was, but the blocks of S. -/
structure Ex (S : Nat → Prop) (B : Nat) (w w' : World) : Prop where
  os : w'.os = w.os
  tape : w'.tape = w.tape
  output : w'.output = w.output
  size : w.heap.size ≤ w'.heap.size
  block : ∀ k, k < B → ¬ S k → w'.heap[k]? = w.heap[k]?
theorem Ex.refl (S : Nat → Prop) (B : Nat) (w : World) : Ex S B w w := ⟨rfl, rfl, rfl, Nat.le_refl _, fun _ _ _ => rfl⟩
theorem Ex.trans {S : Nat → Prop} {B : Nat} {a b c : World} (h : Ex S B a b) (k : Ex S B b c) : Ex S B a c :=
  ⟨k.os.trans h.os, k.tape.trans h.tape, k.output.trans h.output, Nat.le_trans h.size k.size, fun i hi hp => (k.block i hi hp).trans (h.block i hi hp)⟩
theorem Ex.of_below {S : Nat → Prop} {B : Nat} {w w' : World} (h : Below B w w') : Ex S B w w' := ⟨h.os, h.tape, h.output, h.size, fun k hk _ => h.block k hk⟩
theorem Ex.of_oth {S : Nat → Prop} {B p : Nat} {w w' : World} (h : Oth p B w w') (hp : S p) : Ex S B w w' := ⟨h.os, h.tape, h.output, h.size, fun k hk hs => h.block k hk (fun e => hs (e ▸ hp))⟩
theorem Ex.mono {S T : Nat → Prop} {B B' : Nat} {w w' : World} (h : Ex S B w w') (hB : B' ≤ B) (hS : ∀ k, S k → T k) : Ex T B' w w' := ⟨h.os, h.tape, h.output, h.size, fun k hk hs => h.block k (by omega) (fun e => hs (hS k e))⟩
theorem Ex.drewN {S : Nat → Prop} {B : Nat} {a w : World} (h : Ex S B a w) (m : Nat) : Ex S B a (w.drewN m) := ⟨h.os, h.tape, h.output, h.size, h.block⟩
theorem Ex.setCell {S : Nat → Prop} {B : Nat} {a w : World} (h : Ex S B a w) (p i : Nat) (hp : S p ∨ B ≤ p) (v : Value) : Ex S B a (w.setCell ⟨p, i, none⟩ v) :=
  h.trans ⟨rfl, rfl, rfl, by simp [World.setCell], fun k hk hs => Below.heap_setCell _ _ _ _ (fun e => by subst e; rcases hp with h | h; exact hs h; omega)⟩
theorem Ex.below {S : Nat → Prop} {B B' : Nat} {w w' : World} (h : Ex S B w w') (hB : B' ≤ B) (hS : ∀ k, S k → B' ≤ k) : Below B' w w' :=
  ⟨h.os, h.tape, h.output, h.size, fun k hk => h.block k (by omega) (fun e => by have := hS k e; omega)⟩
theorem Ex.blk {S : Nat → Prop} {B k : Nat} {w w' : World} {c : Array Value} {t : TypeId} (h : Ex S B w w') (hk : Blk w k c t) (hB : k < B) (hp : ¬ S k) : Blk w' k c t := by
  unfold Blk at *; rw [h.block k hB hp]; exact hk

theorem inc_b8 (x : UInt8) : IntKind.u8.wrap (b8 x + 1) = b8 (x + 1) := by
  unfold b8
  rw [IntKind.wrap_u8, UInt8.toNat_add]; simp
theorem inc_b8' (x : UInt8) : (b8 x + 1) % 256 = b8 (x + 1) := by
  rw [← inc_b8, IntKind.wrap_u8]
attribute [local go_sem] inc_b8 inc_b8'

set_option maxRecDepth 100000 in
set_option maxHeartbeats 1000000 in
theorem pwrite_there (w : World) (hG : Glob w) (lb o p : Nat) (c : Array Value) (hlb : Blk w lb c 29) (x : HS) (T : List UInt8) (c0 : c[o]? = some (.pointer (some ⟨p, 0, none⟩))) (c1 : c[o + 1]? = some (.string (strL T))) (c2 : c[o + 2]? = some (.bool true))
    (hx : Took x T) (hB : Blk w p x.cells 40) (hp : 1 < p) (hpl : p ≠ lb) (hl1 : 1 < lb) (W0 : World) (v : Value) (l : List UInt8) (hv : Inp W0 v l) (hW : Below W0.heap.size W0 w) (hWp : W0.heap.size ≤ p) (hWl : W0.heap.size ≤ lb) (hl : l.length ≤ 16777216) (hT : T.length ≤ 1125899906842624) :
    Calls Tryd.prog 13 #[.pointer (some ⟨lb, o, none⟩), v] w fun e w' => e = .returned (.bool true) ∧ ∃ x', Took x' (T ++ l) ∧ Blk w' p x'.cells 40 ∧ Blk w' lb (c.setIfInBounds (o + 1) (.string (strL (T ++ l)))) 29 ∧ Ex (fun k => k = p ∨ k = lb) w.heap.size w w' := by
  have HV := Lib.hid hv
  have hv1 : Inp w v l := hv.below hW
  clear hv
  have HT := Lib.hid hx
  clear hx
  go_enter Tryd.func13, Tryd.ntmps13
  go_wp2_with fail
  refine (twin_any w v l hv1 (by omega)).mono ?_
  rintro e w1 ⟨cc, hcc, rfl, hg, hb1⟩
  have HCC := Lib.hid hcc
  clear hcc
  have hlb1 := hlb.below hb1 hlb.lt
  have hB1 := hB.below hb1 hB.lt
  have hgl := hB.lt
  have hgl2 := hlb.lt
  have a0 := hlb1.cell o
  rw [c0] at a0
  go_wp2_with fail
  refine (write_any w1 (hG.below hb1 hG.size) p hp x T l HT.out hB1 _ ?hsrc (by omega)).mono ?_
  case hsrc => exact ⟨_, cc, rfl, by rw [HCC.out]; omega, fun _ => ⟨w.heap.size, 0, rfl, by omega, hg.lt, fun i hi => by
    rw [Nat.zero_add, hg.cell, bCells_at _ _ (by simp; omega)]
    congr 2
    rw [List.getD_eq_getElem?_getD, List.getD_eq_getElem?_getD, List.getElem?_append_left hi]⟩⟩
  rintro e w2 ⟨rfl, x2, hx2, hB2, hO⟩
  have hlb2 := hO.blk hlb1 hlb1.lt (by omega)
  have hg2 := hO.blk hg hg.lt (by omega)
  have hE2 : Ex (fun k => k = p ∨ k = lb) w.heap.size w w2 := (Ex.of_below hb1).trans (Ex.of_oth (hO.mono hb1.size) (.inl rfl))
  have HX2 := Lib.hid hx2
  clear hx2 hO hb1 hB1 hlb1 hg a0 hB hlb
  have a1 := hlb2.cell (o + 1)
  rw [c1] at a1
  have a2 := hlb2.cell (o + 2)
  rw [c2] at a2
  have f1 : w2.frozen? ⟨lb, o + 1, none⟩ = false := hlb2.free _
  have hW2 : Below W0.heap.size W0 w2 := hW.trans (hE2.below hW.size (by rintro k (rfl | rfl) <;> omega))
  have cv := HV.out.conv (wr := w2.drew) (below_drewN hW2 1)
  have cv' := HV.out.conv hW2
  have j1 := str_app T l
  have s1 : ¬ 9223372036854775807 < (strL T).size + (strL l).size := by rw [strL_size, strL_size]; omega
  go_upto_region 4 with fail
  go_still_tail 10, (by kernel_rfl)
  change wpList _ _ _ _ _ (w2.drewN 1)
  replace hlb2 := hlb2.drewN 1
  replace hB2 := hB2.drewN 1
  replace hg2 := hg2.drewN 1
  replace hE2 := hE2.drewN 1
  replace hW2 := below_drewN hW2 1
  replace f1 : (w2.drewN 1).frozen? ⟨lb, o + 1, none⟩ = false := f1
  replace a1 : (w2.drewN 1).cell? ⟨lb, o + 1, none⟩ = some (.string (strL T)) := a1
  generalize w2.drewN 1 = w3 at hlb2 hB2 hg2 hE2 hW2 f1 a1 ⊢
  clear a2 cv cv' j1 s1
  have hlb4 := hlb2.set (o + 1) (.string (strL (T ++ l)))
  have hB4 := hB2.set_other ⟨lb, o + 1, none⟩ (.string (strL (T ++ l))) hpl
  have hg4 := hg2.set_other ⟨lb, o + 1, none⟩ (.string (strL (T ++ l))) (by simp; omega)
  have hE4 := hE2.setCell lb (o + 1) (.inl (.inr rfl)) (.string (strL (T ++ l)))
  have hW4 : Below W0.heap.size W0 (w3.setCell ⟨lb, o + 1, none⟩ (.string (strL (T ++ l)))) := hW2.setCell (by simpa using hWl) _
  clear hlb2 hB2 hg2 hE2 hW2
  go_wp2_with fail
  generalize w3.setCell ⟨lb, o + 1, none⟩ (.string (strL (T ++ l))) = w4 at hlb4 hB4 hg4 hE4 hW4 ⊢
  clear f1 a1
  have hVw := HV.out.below hW4
  refine (left_any w4 w.heap.size v l hg4 hVw (by omega) cc HCC.out).mono ?_
  clear hVw
  rintro e w5 ⟨rfl, m, rfl⟩
  replace hlb4 := hlb4.drewN m
  replace hB4 := hB4.drewN m
  replace hg4 := hg4.drewN m
  replace hE4 := hE4.drewN m
  generalize w4.drewN m = w5 at hlb4 hB4 hg4 hE4 ⊢
  clear hW4 hW
  go_wp2
  go_loopw [6] (fun i wr => ∃ (t : Nat) (d : List UInt8), t ≤ l.length ∧ i = .int .i64 t ∧ d.length = l.length + 1 ∧ Blk wr w.heap.size (bCells d) 5 ∧ Blk wr p x2.cells 40 ∧ Blk wr lb (c.setIfInBounds (o + 1) (.string (strL (T ++ l)))) 29 ∧ Ex (fun k => k = p ∨ k = lb) w.heap.size w wr) (fun i _ => l.length - (intOf i).toNat)
  case atStart => exact ⟨0, l ++ [28], by omega, rfl, by simp, hg4, hB4, hlb4, hE4⟩
  case round =>
    clear hg4 hB4 hlb4 hE4
    obtain ⟨t, d, ht, rfl, hd, hg, hB, hlb, hE⟩ := hrel
    have HD := Lib.hid hd
    have HRES : Hid (∃ x', Took x' (T ++ l) ∧ Blk wr p x'.cells 40 ∧ Blk wr lb (c.setIfInBounds (o + 1) (.string (strL (T ++ l)))) 29 ∧ Ex (fun k => k = p ∨ k = lb) w.heap.size w wr) := ⟨x2, HX2.out, hB, hlb, hE⟩
    clear hd
    by_cases h1 : t < l.length
    · have c9 : wr.cell? ⟨w.heap.size, t, none⟩ = some (.int .u8 (b8 (d.getD t 0))) := by
        rw [hg.cell, bCells_at _ _ (by rw [HD.out]; omega)]; rfl
      have f9 : wr.frozen? ⟨w.heap.size, t, none⟩ = false := hg.free _
      generalize d.getD t 0 = y at c9
      have hg9 := hg.set t (.int .u8 (b8 (y + 1)))
      have e9 : (bCells d).setIfInBounds t (.int .u8 (b8 (y + 1))) = bCells (d.set t (y + 1)) := bCells_set d t (y + 1)
      rw [e9] at hg9
      have hB9 := hB.set_other ⟨w.heap.size, t, none⟩ (.int .u8 (b8 (y + 1))) (by simp; omega)
      have hlb9 := hlb.set_other ⟨w.heap.size, t, none⟩ (.int .u8 (b8 (y + 1))) (by simp; omega)
      have hE9 := hE.setCell w.heap.size t (.inr (Nat.le_refl _)) (.int .u8 (b8 (y + 1)))
      clear hg hB hlb hE e9 HRES
      have g1 : (t : Int) < (l.length : Int) := by omega
      go_wp2
      go_roundw
      case rel => exact ⟨t + 1, _, by omega, by simp, by rw [List.length_set]; exact HD.out, hg9, hB9, hlb9, hE9⟩
      case measure => simp [intOf]; omega
    · have g1 : ¬ (t : Int) < (l.length : Int) := by omega
      clear hg hB hlb hE
      go_wp2
      go_ret
      exact ⟨rfl, HRES.out⟩
end Go.Proofs.YtdchgojnmfoffaaDoor.Sha
