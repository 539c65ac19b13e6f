/-
  A place that is not there: its write; and what a place tells.
-/
import Derived.Test.YtdchgojnmfoffaaDoorP2
import Derived.Test.YtdchgojnmfoffaaDoorR5
namespace Go.Proofs.YtdchgojnmfoffaaDoor.Sha
open Go Go.RowKit

attribute [local go_sem] inc_b8 inc_b8'

set_option maxRecDepth 100000 in
set_option maxHeartbeats 1000000 in
theorem pwrite_gone (w : World) (lb o : Nat) (c : Array Value) (hlb : Blk w lb c 29) (h : Value) (c0 : c[o]? = some h) (c2 : c[o + 2]? = some (.bool false))
    (hwr : ∀ w' v, Below w.heap.size w w' → Calls Tryd.prog 17 #[h, v] w' fun e w'' => e = .returned (.tuple #[]) ∧ w'' = w')
    (v : Value) (l : List UInt8) (hv : Inp w v l) (hl : l.length ≤ 16777216) :
    Calls Tryd.prog 13 #[.pointer (some ⟨lb, o, none⟩), v] w fun e w' => e = .returned (.bool true) ∧ Below w.heap.size w w' := by
  have HV := Lib.hid hv
  have HW := Lib.hid hwr
  clear hwr
  go_enter Tryd.func13, Tryd.ntmps13
  go_wp2_with fail
  refine (twin_any w v l hv (by omega)).mono ?_
  clear hv
  rintro e w1 ⟨cc, hcc, rfl, hg, hb1⟩
  have HCC := Lib.hid hcc
  clear hcc
  have hgl2 := hlb.lt
  have hlb1 := hlb.below hb1 hlb.lt
  have a0 := hlb1.cell o
  rw [c0] at a0
  have a2 := hlb1.cell (o + 2)
  rw [c2] at a2
  go_wp2_with fail
  refine (HW.out w1 _ hb1).mono ?_
  rintro e w2 ⟨rfl, rfl⟩
  clear a0
  go_wp2_with fail
  refine (left_any w2 w.heap.size v l hg (HV.out.below hb1) (by omega) cc HCC.out).mono ?_
  rintro e w5 ⟨rfl, m, rfl⟩
  replace hg := hg.drewN m
  replace hb1 := below_drewN hb1 m
  generalize w2.drewN m = w5 at hg hb1 ⊢
  clear a2 hlb1 hlb
  go_wp2
  go_loopw [6] (fun i wr => ∃ (t : Nat) (d : List UInt8), t ≤ l.length ∧ i = .int .i64 t ∧ d.length = l.length + 1 ∧ Blk wr w.heap.size (bCells d) 5 ∧ Below w.heap.size w wr) (fun i _ => l.length - (intOf i).toNat)
  case atStart => exact ⟨0, l ++ [28], by omega, rfl, by simp, hg, hb1⟩
  case round =>
    clear hg hb1
    obtain ⟨t, d, ht, rfl, hd, hg, hb⟩ := hrel
    have HD := Lib.hid hd
    have HRES := Lib.hid hb
    clear hd
    by_cases h1 : t < l.length
    · have c9 : wr.cell? ⟨w.heap.size, t, none⟩ = some (.int .u8 (b8 (d.getD t 0))) := by
        rw [hg.cell, bCells_at _ _ (by rw [HD.out]; omega)]; rfl
      have f9 : wr.frozen? ⟨w.heap.size, t, none⟩ = false := hg.free _
      generalize d.getD t 0 = y at c9
      have hg9 := hg.set t (.int .u8 (b8 (y + 1)))
      have e9 : (bCells d).setIfInBounds t (.int .u8 (b8 (y + 1))) = bCells (d.set t (y + 1)) := bCells_set d t (y + 1)
      rw [e9] at hg9
      have hb9 := hb.setCell (p := ⟨w.heap.size, t, none⟩) (Nat.le_refl _) (.int .u8 (b8 (y + 1)))
      clear hg hb e9 HRES
      have g1 : (t : Int) < (l.length : Int) := by omega
      go_wp2
      go_roundw
      case rel => exact ⟨t + 1, _, by omega, by simp, by rw [List.length_set]; exact HD.out, hg9, hb9⟩
      case measure => simp [intOf]; omega
    · have g1 : ¬ (t : Int) < (l.length : Int) := by omega
      clear hg hb
      go_wp2
      go_ret
      exact ⟨rfl, HRES.out⟩

theorem eqz (w : World) : (binOp .eql 22 (.agg (bCells z32)) (.agg #[.int .u8 0, .int .u8 0, .int .u8 0, .int .u8 0, .int .u8 0, .int .u8 0, .int .u8 0, .int .u8 0, .int .u8 0, .int .u8 0, .int .u8 0, .int .u8 0, .int .u8 0, .int .u8 0, .int .u8 0, .int .u8 0, .int .u8 0, .int .u8 0, .int .u8 0, .int .u8 0, .int .u8 0, .int .u8 0, .int .u8 0, .int .u8 0, .int .u8 0, .int .u8 0, .int .u8 0, .int .u8 0, .int .u8 0, .int .u8 0, .int .u8 0, .int .u8 0])).run Tryd.prog w = .ok (.bool true) w := eq22 z32 rfl w

set_option maxRecDepth 100000 in
theorem pright_gone (w : World) (lb o : Nat) (c : Array Value) (hlb : Blk w lb c 29) (h : Value) (c0 : c[o]? = some h) (c2 : c[o + 2]? = some (.bool false))
    (hsum : Calls Tryd.prog 19 #[h] w fun e w' => e = .returned (.agg (bCells z32)) ∧ Below w.heap.size w w')
    (hlen : Calls Tryd.prog 18 #[h] w fun e w' => e = .returned (.int .i64 0) ∧ w' = w) (q : Int) (hq : q = 2 ∨ q = 3) :
    Calls Tryd.prog 14 #[.pointer (some ⟨lb, o, none⟩), .int .i64 q] w fun e w' => e = .returned (.bool true) ∧ Below w.heap.size w w' := by
  have a0 := hlb.cell o
  rw [c0] at a0
  have a2 := hlb.cell (o + 2)
  rw [c2] at a2
  have ez := eqz
  have HS := Lib.hid hsum
  have HN := Lib.hid hlen
  clear hsum hlen
  rcases hq with rfl | rfl
  · go_enter Tryd.func14, Tryd.ntmps14
    go_wp2_with fail
    refine HS.out.mono ?_
    rintro e w1 ⟨rfl, hb⟩
    have HB := Lib.hid hb
    clear hb
    go_wp2
    go_ret
    exact ⟨rfl, HB.out⟩
  · go_enter Tryd.func14, Tryd.ntmps14
    go_wp2_with fail
    refine HN.out.mono ?_
    rintro e w1 ⟨rfl, rfl⟩
    go_wp2
    go_ret
    exact ⟨rfl, Below.refl _ _⟩
end Go.Proofs.YtdchgojnmfoffaaDoor.Sha
