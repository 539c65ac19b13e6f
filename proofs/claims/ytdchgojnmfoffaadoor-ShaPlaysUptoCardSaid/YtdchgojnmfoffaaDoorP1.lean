/-
  A copy of bytes with a mark behind it, and whether both are left.
-/
import Derived.Test.YtdchgojnmfoffaaDoorC1
import Derived.Laws.MakeOwn
namespace Go.Proofs.YtdchgojnmfoffaaDoor.Sha
open Go Go.RowKit

theorem mark_any (w : World) : Calls Tryd.prog 35 #[.int .i64 777777] w fun e w' => e = .returned (.int .u8 28) ∧ w' = w := by
  go_enter Tryd.func35, Tryd.ntmps35
  go_wp2
  go_ret
  exact ⟨rfl, rfl⟩
theorem is_any (w : World) : Calls Tryd.prog 37 #[.int .u8 28, .int .i64 777777] w fun e w' => e = .returned (.bool true) ∧ w' = w := by
  go_enter Tryd.func37, Tryd.ntmps37
  go_wp2
  go_ret
  exact ⟨rfl, rfl⟩

theorem Inp.drewN {w : World} {v : Value} {l : List UInt8} (h : Inp w v l) (m : Nat) : Inp (w.drewN m) v l := h
theorem Inp.below {w wr : World} {v : Value} {l : List UInt8} (h : Inp w v l) (hb : Below w.heap.size w wr) : Inp wr v l := by
  obtain ⟨base, cap, hv, hc, hs⟩ := h
  refine ⟨base, cap, hv, hc, fun h0 => ?_⟩
  obtain ⟨blk, off, h1, h2, h3⟩ := hs h0
  exact ⟨blk, off, h1, by have := hb.size; omega, fun i hi => by rw [hb.cell (p := ⟨blk, off + i, none⟩) h2]; exact h3 i hi⟩

set_option maxRecDepth 100000 in
theorem sameb_any (w : World) (a b : Value) (l : List UInt8) (ha : Inp w a l) (hb : Inp w b l) (hl : l.length ≤ 9223372036854775806) :
    Calls Tryd.prog 36 #[a, b] w fun e w' => e = .returned (.bool true) ∧ ∃ m, w' = w.drewN m := by
  obtain ⟨ba, ca, rfl, hca, hsa⟩ := ha
  obtain ⟨bb, cb, rfl, hcb, hsb⟩ := hb
  have HA := Lib.hid hsa
  have HB := Lib.hid hsb
  clear hsa hsb
  obtain ⟨n, hn⟩ : ∃ n, n = l.length := ⟨_, rfl⟩
  rw [← hn] at hl hca hcb HA HB ⊢
  have HN := Lib.hid hn
  clear hn
  go_enter Tryd.func36, Tryd.ntmps36
  go_wp2
  go_loopw [5] (fun i wr => ∃ t m : Nat, t ≤ n ∧ i = .int .i64 t ∧ wr = w.drewN m) (fun i _ => n - (intOf i).toNat)
  case atStart => exact ⟨0, 0, by omega, rfl, rfl⟩
  case round =>
    obtain ⟨t, m, ht, rfl, rfl⟩ := hrel
    by_cases h1 : t < n
    · obtain ⟨k1, o1, rfl, -, h2⟩ := HA.out (by omega)
      obtain ⟨k2, o2, rfl, -, h3⟩ := HB.out (by omega)
      have c1 : w.cell? ⟨k1, o1 + t, none⟩ = some (.int .u8 ((l.getD t 0).toNat : Int)) := h2 t h1
      have c2 : w.cell? ⟨k2, o2 + t, none⟩ = some (.int .u8 ((l.getD t 0).toNat : Int)) := h3 t h1
      generalize l.getD t 0 = x at c1 c2
      clear h2 h3
      have g1 : (t : Int) < (n : Int) := by omega
      go_wp2
      go_quiet (fail)
      go_wp2
      go_roundw
      case rel => exact ⟨t + 1, _, by omega, by simp, rfl⟩
      case measure => simp [intOf]; omega
    · have g1 : ¬ (t : Int) < (n : Int) := by omega
      go_wp2
      go_ret
      exact ⟨rfl, m, rfl⟩

def twinT (l : List UInt8) (t : Nat) : List UInt8 := l.take t ++ List.replicate (l.length + 1 - t) 0
theorem len_twinT (l : List UInt8) (t : Nat) (h : t ≤ l.length) : (twinT l t).length = l.length + 1 := by simp [twinT]; omega
theorem twinT_set (l : List UInt8) (t : Nat) (h : t < l.length) : (twinT l t).set t (l.getD t 0) = twinT l (t + 1) := by
  have hl2 : (l.take t).length = t := by simp; omega
  have e1 : l[t]? = some (l.getD t 0) := by rw [List.getD_eq_getElem?_getD, List.getElem?_eq_getElem h]; rfl
  obtain ⟨q, hq⟩ : ∃ q, l.length + 1 - t = q + 1 := ⟨l.length - t, by omega⟩
  unfold twinT
  rw [List.set_append, if_neg (by omega), hl2, Nat.sub_self, hq, show l.length + 1 - (t + 1) = q by omega, List.replicate_succ, List.set_cons_zero, List.take_add_one, e1]
  simp
theorem twinT_end (l : List UInt8) : (twinT l l.length).set l.length 28 = l ++ [28] := by
  unfold twinT
  rw [List.take_length, show l.length + 1 - l.length = 1 by omega, List.set_append, if_neg (by omega), Nat.sub_self]
  rfl

set_option maxRecDepth 100000 in
theorem twin_any (w : World) (v : Value) (l : List UInt8) (hv : Inp w v l) (hl : l.length ≤ 140737488355328) :
    Calls Tryd.prog 28 #[v] w fun e w' => ∃ c, c = l.length + 1 ∧ e = .returned (.slice (some ⟨w.heap.size, 0, none⟩) l.length c) ∧ Blk w' w.heap.size (bCells (l ++ [28])) 5 ∧ Below w.heap.size w w' := by
  have HI := Lib.hid hv
  obtain ⟨base, cap, rfl, hcap, hs⟩ := hv
  have HS := Lib.hid hs
  clear hs
  obtain ⟨i, hi⟩ : ∃ i, Tryd.prog.info? 5 = some i := by
    have := info5
    cases hq : Tryd.prog.info? 5 with
    | none => rw [hq] at this; cases this
    | some i => exact ⟨i, rfl⟩
  have hinfo := info5
  rw [hi] at hinfo
  simp only [Option.map_some, Option.some.injEq, Prod.mk.injEq] at hinfo
  obtain ⟨hz, hsz, hby⟩ := hinfo
  obtain ⟨n, hn⟩ : ∃ n, n = l.length := ⟨_, rfl⟩
  have HN := Lib.hid hn
  rw [← hn] at hl hcap HS ⊢
  clear hn
  have hmk : ∀ w, (Instr.makeSlice 31 (.int .i64 ((n : Int) + 1)) (.int .i64 ((n : Int) + 1))).run Tryd.prog w = .ok (.slice (some ⟨w.heap.size, 0, none⟩) (n + 1) (n + 1)) (w.alloc (.cells (bCells (twinT l 0)) 5)) := fun w => by
    have := run_make (P := Tryd.prog) w 31 5 i (.int .u8 0) Tryd.underlying31 hi hz .i64 .i64 ((n : Int) + 1) ((n : Int) + 1) (by omega) (by omega) (by rw [hby]; omega) (by omega)
    rw [this, hsz, show ((n : Int) + 1).toNat = n + 1 by omega]
    congr 3
    have hc : madeCells (Value.int IntKind.u8 0).cells ((n + 1) * 1) = bCells (twinT l 0) := by
      apply Array.ext_getElem?
      intro j
      have hg : ∀ l : List UInt8, (bCells l)[j]? = (l.map by8)[j]? := fun l => by unfold bCells; rw [List.getElem?_toArray]
      rw [hg, List.getElem?_map]
      unfold twinT
      rw [List.take_zero, List.nil_append, List.getElem?_replicate, ← HN.out]
      simp only [madeCells, Value.cells]
      by_cases hj : j < n + 1
      · simp [hj, Nat.mod_one]; rfl
      · simp [hj]
    rw [hc]
  clear hz hsz hby hi
  have g0 : IntKind.i64.wrap ((n : Int) + 1) = (n : Int) + 1 := IntWalk.i64_in _ (by omega)
  go_enter Tryd.func28, Tryd.ntmps28
  go_wp2
  go_loopw [4] (fun i wr => ∃ t : Nat, t ≤ n ∧ i = .int .i64 t ∧ Blk wr w.heap.size (bCells (twinT l t)) 5 ∧ Below w.heap.size w wr) (fun i _ => n - (intOf i).toNat)
  case atStart => exact ⟨0, by omega, rfl, Blk.new _ _ _, (Below.refl _ _).alloc (Nat.le_refl _) _⟩
  case round =>
    clear hmk
    obtain ⟨t, ht, rfl, hk, hb⟩ := hrel
    by_cases h1 : t < n
    · obtain ⟨k1, o1, rfl, hk1, h2⟩ := HS.out (by omega)
      have c1 : wr.cell? ⟨k1, o1 + t, none⟩ = some (.int .u8 ((l.getD t 0).toNat : Int)) := by
        rw [hb.cell (p := ⟨k1, o1 + t, none⟩) hk1]; exact h2 t h1
      have c2 : wr.cell? ⟨w.heap.size, t, none⟩ = some (by8 ((twinT l t).getD t 0)) := by
        rw [hk.cell]; exact bCells_at _ _ (by rw [len_twinT _ _ (by rw [← HN.out]; omega), ← HN.out]; omega)
      unfold by8 at c2
      have f2 : wr.frozen? ⟨w.heap.size, t, none⟩ = false := hk.free _
      have hk2 := hk.set t (.int .u8 ((l.getD t 0).toNat : Int))
      rw [bCells_set, twinT_set _ _ (by rw [← HN.out]; exact h1)] at hk2
      have hb2 := hb.setCell (p := ⟨w.heap.size, t, none⟩) (Nat.le_refl _) (.int .u8 ((l.getD t 0).toNat : Int))
      generalize l.getD t 0 = x at c1 hk2 hb2
      have g1 : (t : Int) < (n : Int) := by omega
      have g2 : (t : Int) < (n : Int) + 1 := by omega
      have g3 : t < n + 1 := by omega
      clear h2
      go_wp2
      go_roundw
      case rel => exact ⟨t + 1, by omega, by simp, hk2, hb2⟩
      case measure => simp [intOf]; omega
    · obtain rfl : t = n := by omega
      have g1 : (t : Int) < (t : Int) + 1 := by omega
      have c2 : wr.cell? ⟨w.heap.size, t, none⟩ = some (by8 ((twinT l t).getD t 0)) := by
        rw [hk.cell]; exact bCells_at _ _ (by rw [len_twinT _ _ (by rw [← HN.out]; omega), ← HN.out]; omega)
      unfold by8 at c2
      have f2 : wr.frozen? ⟨w.heap.size, t, none⟩ = false := hk.free _
      have hk2 := hk.set t (.int .u8 28)
      have e := bCells_set (twinT l t) t 28
      rw [show (((28 : UInt8).toNat : Int)) = 28 from rfl] at e
      rw [e, show (twinT l t).set t 28 = l ++ [28] by rw [HN.out]; exact twinT_end l] at hk2
      have hb2 := hb.setCell (p := ⟨w.heap.size, t, none⟩) (Nat.le_refl _) (.int .u8 28)
      have HK2 := Lib.hid hk2
      have HB2 := Lib.hid hb2
      clear hk2 hb2 e
      go_wp2_with fail
      refine (mark_any wr).mono ?_
      rintro e w2 ⟨rfl, rfl⟩
      go_wp2
      go_ret
      exact ⟨t + 1, rfl, rfl, HK2.out, HB2.out⟩
end Go.Proofs.YtdchgojnmfoffaaDoor.Sha
