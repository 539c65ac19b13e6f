import Derived.Test.YtdchgojnmfoffaaDoorR1
namespace Go.Proofs.YtdchgojnmfoffaaDoor.Sha
open Go Go.RowKit

attribute [local go_sem] xor_n and_n not_n not_wn add2n add3n add4n add5n mod2n mod4n

theorem setRow_alloc_new' (w : World) (c c' : Array Value) (t : TypeId) : (w.alloc (.cells c t)).setRow w.heap.size c' = w.alloc (.cells c' t) := by
  simp only [World.setRow, World.alloc]
  congr 1
  apply Array.ext_getElem?
  intro i
  rw [Array.getElem?_modify]
  by_cases h : w.heap.size = i
  · subst h; simp
  · have h' : ¬ i = w.heap.size := fun e => h e.symm
    simp [h, h', Array.getElem?_push]
/-- Words as cells of int. -/
def nCells (l : List W) : Array Value := (l.map n).toArray
theorem nCells_size (l : List W) : (nCells l).size = l.length := by simp [nCells]
theorem nCells_at (l : List W) (i : Nat) (h : i < l.length) : (nCells l)[i]? = some (.int .i64 (tn (l.getD i 0))) := by
  unfold nCells
  rw [List.getElem?_toArray, List.getElem?_map, List.getD_eq_getElem?_getD, List.getElem?_eq_getElem h]; rfl
theorem nCells_one (l : List W) : (nCells l).all (·.oneCell') = true := by
  unfold nCells
  rw [Array.all_eq_true_iff_forall_mem]
  intro x hx
  simp only [List.mem_toArray, List.mem_map] at hx
  obtain ⟨a, _, rfl⟩ := hx
  rfl
theorem nCells_set (l : List W) (i : Nat) (x : W) : (nCells l).setIfInBounds i (.int .i64 (tn x)) = nCells (l.set i x) := by
  unfold nCells
  rw [List.setIfInBounds_toArray, List.map_set]; rfl

def kList : List W := (List.range 64).map kw
theorem wpList_build_at {P : Program} {ops : Array Oper} {rest : List Oper} {o : Oper} {a : Act} {w : World} {Q : Exit → Act → World → Prop} (hg : o.guard = none) (t : TypeId) (parts : Array (Nat × Operand)) (ho : o.op = .build t parts)
    (cells : Array Value) (h : P.built t (parts.map fun (i, x) => (i, a.eval x)).toList = some cells) (hn : wpList P ops Q rest (a.put o.dst (.agg cells)) w) : wpList P ops Q (o :: rest) a w :=
  wpList_build hg t parts ho (by rw [h]; rfl) (by rw [h]; exact hn)
theorem kList_len : kList.length = 64 := by simp [kList]
set_option maxRecDepth 100000 in
theorem constants_any (w : World) :
    Calls Tryd.prog 33 #[] w fun e w' => e = .returned (.agg (nCells kList)) ∧ Below w.heap.size w w' := by
  go_enter Tryd.func33, Tryd.ntmps33
  go_upto_region 1 with fail
  refine wp_region_lit ?_
  refine wpList_build_at rfl 65 _ rfl (nCells kList) (by kernel_rfl) ?_
  refine wpList_store_row rfl 65 _ _ rfl w.heap.size _ rfl rfl 65 _ (Blk.new _ _ _) (by rw [nCells_size, kList_len]; kernel_rfl) (by rw [nCells_size, kList_len]; rfl) (nCells_one _) ?_
  rw [setRow_alloc_new']
  go_wp2
  refine bodyPost_ret (v := .agg (nCells kList)) (results_cell_row rfl _ _ w.heap.size 65 _ (0, 0) _ rfl (Blk.new _ _ _) Tryd.underlying65 rfl (by rw [nCells_size, kList_len]; kernel_rfl)) rfl ⟨rfl, ?_⟩
  exact (Below.refl _ _).alloc (Nat.le_refl _) _
theorem q_cell {w w' : World} {a : Addr} {v : Value} (hq : ∃ m, w' = w.drewN m) (h : w.cell? a = some v) : w'.cell? a = some v := by
  obtain ⟨m, rfl⟩ := hq; exact h

/-- The schedule's cells behind t words. -/
def sCells (b : List UInt8) (t : Nat) : Array Value := nCells (sched b t ++ List.replicate (64 - t) 0)
theorem sCells_in (b : List UInt8) (t i : Nat) (h : i < t) : (sCells b t)[i]? = some (.int .i64 (tn ((sched b t).getD i 0))) := by
  unfold sCells
  rw [nCells_at _ _ (by simp [len_sched]; omega)]
  congr 3
  rw [List.getD_eq_getElem?_getD, List.getElem?_append_left (by rw [len_sched]; exact h), ← List.getD_eq_getElem?_getD]
theorem sCells_at (b : List UInt8) (t : Nat) (h : t < 64) : ∃ v, (sCells b t)[t]? = some v := by
  unfold sCells
  exact ⟨_, nCells_at _ _ (by simp [len_sched]; omega)⟩
theorem sCells_set (b : List UInt8) (t : Nat) (h : t < 64) : (sCells b t).setIfInBounds t (.int .i64 (tn (next b (sched b t)))) = sCells b (t + 1) := by
  unfold sCells
  rw [nCells_set]
  congr 1
  rw [List.set_append, if_neg (by simp [len_sched])]
  obtain ⟨m, hm⟩ : ∃ m, 64 - t = m + 1 := ⟨63 - t, by omega⟩
  rw [hm, show 64 - (t + 1) = m by omega]
  simp [sched, len_sched, List.replicate_succ]
theorem sCells_all (b : List UInt8) : sCells b 64 = nCells (sched b 64) := by unfold sCells; simp

structure TR (b : List UInt8) (w : World) (t : Nat) (wr : World) : Prop where
  words : Blk wr (w.heap.size + 1) (sCells b t) 65
  out : Blk wr w.heap.size (sCells b 0) 65
  below : Below w.heap.size w wr
theorem TR.quiet {b : List UInt8} {w : World} {t : Nat} {wr wq : World} (hw : TR b w t wr) (hq : ∃ m, wq = wr.drewN m) : TR b w t wq := by
  obtain ⟨m, rfl⟩ := hq; exact ⟨hw.words.drewN m, hw.out.drewN m, below_drewN hw.below m⟩
theorem TR.put {b : List UInt8} {w : World} {t : Nat} {wr : World} (hw : TR b w t wr) (ht : t < 64) :
    TR b w (t + 1) (wr.setCell ⟨w.heap.size + 1, t, none⟩ (.int .i64 (tn (next b (sched b t))))) :=
  ⟨by rw [← sCells_set b t ht]; exact hw.words.set t _, hw.out.set_other _ _ (by simp), hw.below.setCell (by simp) _⟩
theorem TR.start (b : List UInt8) (w : World) (A B : Array Value) (hA : A = sCells b 0) (hB : B = sCells b 0) : TR b w 0 ((w.alloc (.cells A 65)).alloc (.cells B 65)) := by
  subst hA hB
  refine ⟨?_, (Blk.new w _ 65).alloc _, ((Below.refl _ _).alloc (Nat.le_refl _) _).alloc (by simp) _⟩
  have := Blk.new (w.alloc (.cells (sCells b 0) 65)) (sCells b 0) 65
  simpa using this

set_option maxRecDepth 100000 in
set_option maxHeartbeats 1000000 in
theorem schedule_any (b : List UInt8) (blk off cap : Nat) (w : World) (hb : blk < w.heap.size) (hc : ∀ i, i < 64 → w.cell? ⟨blk, off + i, none⟩ = some (by8 (b.getD i 0))) :
    Calls Tryd.prog 32 #[.slice (some ⟨blk, off, none⟩) 64 cap] w fun e w' => e = .returned (.agg (nCells (sched b 64))) ∧ Below w.heap.size w w' := by
  have HC := Lib.hid hc
  clear hc
  go_enter Tryd.func32, Tryd.ntmps32
  go_wp2
  go_loopw [4] (fun i wr => ∃ t : Nat, t ≤ 64 ∧ i = .int .i64 t ∧ TR b w t wr) (fun i _ => 64 - (intOf i).toNat)
  case atStart => exact ⟨0, by omega, rfl, TR.start b w _ _ rfl rfl⟩
  case round =>
    obtain ⟨t, ht, rfl, hw⟩ := hrel
    by_cases h64 : t < 64
    · by_cases h16 : t < 16
      · have hcell : ∀ j, j < 4 → wr.cell? ⟨blk, off + (4 * t + j), none⟩ = some (by8 (b.getD (4 * t + j) 0)) := fun j hj => by
          rw [hw.below.cell (p := ⟨blk, off + (4 * t + j), none⟩) hb]; exact HC.out _ (by omega)
        obtain ⟨y0, f0⟩ : ∃ y : Int, y = ((b.getD (4 * t) 0).toNat : Int) := ⟨_, rfl⟩
        obtain ⟨y1, f1⟩ : ∃ y : Int, y = ((b.getD (4 * t + 1) 0).toNat : Int) := ⟨_, rfl⟩
        obtain ⟨y2, f2⟩ : ∃ y : Int, y = ((b.getD (4 * t + 2) 0).toNat : Int) := ⟨_, rfl⟩
        obtain ⟨y3, f3⟩ : ∃ y : Int, y = ((b.getD (4 * t + 3) 0).toNat : Int) := ⟨_, rfl⟩
        have c0 : wr.cell? ⟨blk, off + 4 * t, none⟩ = some (.int .u8 y0) := by rw [f0]; exact hcell 0 (by omega)
        have c1 : wr.cell? ⟨blk, off + (4 * t + 1), none⟩ = some (.int .u8 y1) := by rw [f1]; exact hcell 1 (by omega)
        have c2 : wr.cell? ⟨blk, off + (4 * t + 2), none⟩ = some (.int .u8 y2) := by rw [f2]; exact hcell 2 (by omega)
        have c3 : wr.cell? ⟨blk, off + (4 * t + 3), none⟩ = some (.int .u8 y3) := by rw [f3]; exact hcell 3 (by omega)
        have b0 : 0 ≤ y0 ∧ y0 ≤ 255 := by have := (b.getD (4 * t) 0).toNat_lt; omega
        have b1 : 0 ≤ y1 ∧ y1 ≤ 255 := by have := (b.getD (4 * t + 1) 0).toNat_lt; omega
        have b2 : 0 ≤ y2 ∧ y2 ≤ 255 := by have := (b.getD (4 * t + 2) 0).toNat_lt; omega
        have b3 : 0 ≤ y3 ∧ y3 ≤ 255 := by have := (b.getD (4 * t + 3) 0).toNat_lt; omega
        have EX : Hid (((y0 * 256 + y1) * 256 + y2) * 256 + y3 = tn (next b (sched b t))) := by
          unfold Hid tn
          rw [next_lo b t h16, wd, BitVec.toNat_ofNat, Nat.mod_eq_of_lt (by omega), f0, f1, f2, f3]
          push_cast; rfl
        clear hcell f0 f1 f2 f3
        go_wp2
        have i0 : IntKind.i64.wrap (4 * (t : Int)) = 4 * (t : Int) := IntWalk.i64_in _ (by omega)
        have i1 : IntKind.i64.wrap (4 * (t : Int) + 1) = 4 * (t : Int) + 1 := IntWalk.i64_in _ (by omega)
        have i2 : IntKind.i64.wrap (4 * (t : Int) + 2) = 4 * (t : Int) + 2 := IntWalk.i64_in _ (by omega)
        have i3 : IntKind.i64.wrap (4 * (t : Int) + 3) = 4 * (t : Int) + 3 := IntWalk.i64_in _ (by omega)
        have j0 : 0 ≤ 4 * (t : Int) := by omega
        have j1 : 0 ≤ 4 * (t : Int) + 1 := by omega
        have j2 : 0 ≤ 4 * (t : Int) + 2 := by omega
        have j3 : 0 ≤ 4 * (t : Int) + 3 := by omega
        have l0 : 4 * (t : Int) < 64 := by omega
        have l1 : 4 * (t : Int) + 1 < 64 := by omega
        have l2 : 4 * (t : Int) + 2 < 64 := by omega
        have l3 : 4 * (t : Int) + 3 < 64 := by omega
        have k0 : (4 * (t : Int)).toNat = 4 * t := by omega
        have k1 : (4 * (t : Int) + 1).toNat = 4 * t + 1 := by omega
        have k2 : (4 * (t : Int) + 2).toNat = 4 * t + 2 := by omega
        have k3 : (4 * (t : Int) + 3).toNat = 4 * t + 3 := by omega
        have v0 : IntKind.i64.wrap y0 = y0 := IntWalk.i64_in _ (by omega)
        have v1 : IntKind.i64.wrap y1 = y1 := IntWalk.i64_in _ (by omega)
        have v2 : IntKind.i64.wrap y2 = y2 := IntWalk.i64_in _ (by omega)
        have v3 : IntKind.i64.wrap y3 = y3 := IntWalk.i64_in _ (by omega)
        have m0 : IntKind.i64.wrap (y0 * 256) = y0 * 256 := IntWalk.i64_in _ (by omega)
        have m1 : IntKind.i64.wrap (y0 * 256 + y1) = y0 * 256 + y1 := IntWalk.i64_in _ (by omega)
        have m2 : IntKind.i64.wrap ((y0 * 256 + y1) * 256) = (y0 * 256 + y1) * 256 := IntWalk.i64_in _ (by omega)
        have m3 : IntKind.i64.wrap ((y0 * 256 + y1) * 256 + y2) = (y0 * 256 + y1) * 256 + y2 := IntWalk.i64_in _ (by omega)
        have m4 : IntKind.i64.wrap (((y0 * 256 + y1) * 256 + y2) * 256) = ((y0 * 256 + y1) * 256 + y2) * 256 := IntWalk.i64_in _ (by omega)
        have m5 : IntKind.i64.wrap (((y0 * 256 + y1) * 256 + y2) * 256 + y3) = ((y0 * 256 + y1) * 256 + y2) * 256 + y3 := IntWalk.i64_in _ (by omega)
        go_still_tail 35, (by kernel_rfl)
        change wpList _ _ _ _ _ (wr.drewN 1)
        have hd := hw.quiet ⟨1, rfl⟩
        generalize wr.drewN 1 = w2 at hd ⊢
        clear c0 c1 c2 c3 hw i0 i1 i2 i3 j0 j1 j2 j3 l0 l1 l2 l3 k0 k1 k2 k3 v0 v1 v2 v3 m0 m1 m2 m3 m4 m5
        obtain ⟨old, hold⟩ := sCells_at b t h64
        have cs : w2.cell? ⟨w.heap.size + 1, t, none⟩ = some old := by rw [hd.words.cell]; exact hold
        have cf : w2.frozen? ⟨w.heap.size + 1, t, none⟩ = false := hd.words.free _
        go_wp2
        go_roundw
        case rel =>
          refine ⟨t + 1, by omega, by simp, ?_⟩
          have := hd.put h64
          rw [← EX.out] at this
          exact this
        case measure => simp [intOf]; omega
      · have hcell : ∀ j, j < t → wr.cell? ⟨w.heap.size + 1, j, none⟩ = some (.int .i64 (tn ((sched b t).getD j 0))) := fun j hj => by
          rw [hw.words.cell]; exact sCells_in b t j hj
        obtain ⟨x2, e2⟩ : ∃ x, x = (sched b t).getD (t - 2) 0 := ⟨_, rfl⟩
        obtain ⟨x7, e7⟩ : ∃ x, x = (sched b t).getD (t - 7) 0 := ⟨_, rfl⟩
        obtain ⟨x15, e15⟩ : ∃ x, x = (sched b t).getD (t - 15) 0 := ⟨_, rfl⟩
        obtain ⟨x16, e16⟩ : ∃ x, x = (sched b t).getD (t - 16) 0 := ⟨_, rfl⟩
        have c2 : wr.cell? ⟨w.heap.size + 1, t - 2, none⟩ = some (.int .i64 (tn x2)) := by rw [e2]; exact hcell _ (by omega)
        have c7 : wr.cell? ⟨w.heap.size + 1, t - 7, none⟩ = some (.int .i64 (tn x7)) := by rw [e7]; exact hcell _ (by omega)
        have c15 : wr.cell? ⟨w.heap.size + 1, t - 15, none⟩ = some (.int .i64 (tn x15)) := by rw [e15]; exact hcell _ (by omega)
        have c16 : wr.cell? ⟨w.heap.size + 1, t - 16, none⟩ = some (.int .i64 (tn x16)) := by rw [e16]; exact hcell _ (by omega)
        have EX : Hid (next b (sched b t) = s1 x2 + x7 + s0 x15 + x16) := by
          rw [Hid, next_hi b t h16, e2, e7, e15, e16]
        clear hcell e2 e7 e15 e16
        have i7 : IntKind.i64.wrap ((t : Int) - 7) = (t : Int) - 7 := IntWalk.i64_in _ (by omega)
        have i16 : IntKind.i64.wrap ((t : Int) - 16) = (t : Int) - 16 := IntWalk.i64_in _ (by omega)
        have j2 : 2 ≤ (t : Int) := by omega
        have j7 : 7 ≤ (t : Int) := by omega
        have j15 : 15 ≤ (t : Int) := by omega
        have j16 : 16 ≤ (t : Int) := by omega
        have l2 : (t : Int) - 2 < 64 := by omega
        have l7 : (t : Int) - 7 < 64 := by omega
        have l15 : (t : Int) - 15 < 64 := by omega
        have l16 : (t : Int) - 16 < 64 := by omega
        have k2 : ((t : Int) - 2).toNat = t - 2 := by omega
        have k7 : ((t : Int) - 7).toNat = t - 7 := by omega
        have k15 : ((t : Int) - 15).toNat = t - 15 := by omega
        have k16 : ((t : Int) - 16).toNat = t - 16 := by omega
        go_wp2_with (first | (go_at_call 34; refine (rotated_any _ _ (by decide) _).mono ?_; rintro e wq ⟨rfl, hq⟩; replace hw := hw.quiet hq; replace c7 := q_cell hq c7; replace c16 := q_cell hq c16; clear hq) | (go_at_call 39; refine (shifted_any _ _ (by decide) _).mono ?_; rintro e wq ⟨rfl, rfl⟩))
        go_still_tail 16, (by kernel_rfl)
        rename_i wq
        change wpList _ _ _ _ _ (wq.drewN 1)
        have hd := hw.quiet ⟨1, rfl⟩
        generalize wq.drewN 1 = w2 at hd ⊢
        clear c7 c16 hw i7 i16 j2 j7 j15 j16 l2 l7 l15 l16 k2 k7 k15 k16
        obtain ⟨old, hold⟩ := sCells_at b t h64
        have cs : w2.cell? ⟨w.heap.size + 1, t, none⟩ = some old := by rw [hd.words.cell]; exact hold
        have cf : w2.frozen? ⟨w.heap.size + 1, t, none⟩ = false := hd.words.free _
        go_wp2
        go_roundw
        case rel =>
          refine ⟨t + 1, by omega, by simp, ?_⟩
          have := hd.put h64
          rw [EX.out] at this
          exact this
        case measure => simp [intOf]; omega
    · obtain rfl : t = 64 := by omega
      clear h64 ht
      rw [show ((64 : Nat) : Int) = 64 from rfl]
      have hs := hw.words
      rw [sCells_all] at hs
      go_upto_region 12 with fail
      refine wp_region_lit ?_
      refine wpList_load_row rfl 65 _ rfl (w.heap.size + 1) rfl 65 _ (0, 0) _ hs Tryd.underlying65 rfl (by rw [nCells_size, len_sched]; kernel_rfl) ?_
      refine wpList_store_row rfl 65 _ _ rfl w.heap.size _ rfl rfl 65 _ hw.out (by rw [nCells_size, len_sched]; kernel_rfl) (by rw [nCells_size, len_sched]; rfl) (nCells_one _) ?_
      go_wp2
      refine bodyPost_ret (v := .agg (nCells (sched b 64))) (results_cell_row rfl _ _ w.heap.size 65 _ (0, 0) _ rfl (setRow_heap _ _ _ _ _ _ hw.out) Tryd.underlying65 rfl (by rw [nCells_size, len_sched]; kernel_rfl)) rfl ⟨rfl, ?_⟩
      exact below_setRow hw.below (Nat.le_refl _) _
end Go.Proofs.YtdchgojnmfoffaaDoor.Sha
