import Derived.Test.YtdchgojnmfoffaaDoorT1
import Derived.StillTailTactics
import Derived.Deep.QuietTactic
import Derived.BigQuiet
import Derived.Deep.Cut
import Derived.Lib.Hide
namespace Go.Proofs.YtdchgojnmfoffaaDoor.Sha
open Go Go.RowKit

attribute [local go_sem] xor_u and_u or_u add_u add_u' shr10 shr3 sgn_u32 not_u

/-- The cells of the schedule behind t words. -/
def wCells (b : List UInt8) (t : Nat) : Array Value := ((sched b t).map u ++ List.replicate (64 - t) (Value.int .u32 0)).toArray

def St.cells (v : St) : Array Value := #[u v.a, u v.b, u v.c, u v.d, u v.e, u v.f, u v.g, u v.h]
def St.val (v : St) : Value := .agg v.cells

/-- Block k holds these cells, none of them frozen. -/
def Blk (w : World) (k : Nat) (c : Array Value) (t : TypeId) : Prop := w.heap[k]? = some (.cells c t (0, 0))
theorem Blk.cell {w : World} {k : Nat} {c : Array Value} {t : TypeId} (h : Blk w k c t) (i : Nat) : w.cell? ⟨k, i, none⟩ = c[i]? := by
  unfold Blk at h; simp [World.cell?, h]
theorem Blk.free {w : World} {k : Nat} {c : Array Value} {t : TypeId} (h : Blk w k c t) (i : Nat) : w.frozen? ⟨k, i, none⟩ = false := by
  unfold Blk at h; simp [World.frozen?, h]
theorem Blk.lt {w : World} {k : Nat} {c : Array Value} {t : TypeId} (h : Blk w k c t) : k < w.heap.size := (Array.getElem?_eq_some_iff.1 h).1
theorem Blk.drew {w : World} {k : Nat} {c : Array Value} {t : TypeId} (h : Blk w k c t) : Blk w.drew k c t := h
theorem Blk.drewN {w : World} {k : Nat} {c : Array Value} {t : TypeId} (h : Blk w k c t) (m : Nat) : Blk (w.drewN m) k c t := h
theorem Blk.alloc {w : World} {k : Nat} {c : Array Value} {t : TypeId} (h : Blk w k c t) (o : Obj) : Blk (w.alloc o) k c t := by
  have := h.lt; unfold Blk at *; rw [Below.heap_alloc w o k this]; exact h
theorem Blk.new (w : World) (c : Array Value) (t : TypeId) : Blk (w.alloc (.cells c t)) w.heap.size c t := by
  show (w.heap.push _)[w.heap.size]? = _; simp
theorem Blk.set {w : World} {k : Nat} {c : Array Value} {t : TypeId} (h : Blk w k c t) (i : Nat) (v : Value) : Blk (w.setCell ⟨k, i, none⟩ v) k (c.setIfInBounds i v) t := by
  rw [setCell_eq_setRow w k i c t (0, 0) v h]; exact setRow_heap w k c _ t (0, 0) h
theorem Blk.set_other {w : World} {k : Nat} {c : Array Value} {t : TypeId} (h : Blk w k c t) (a : Addr) (v : Value) (hne : k ≠ a.block) : Blk (w.setCell a v) k c t := by
  unfold Blk at *; rw [Below.heap_setCell w a v k hne]; exact h
theorem Blk.below {w w' : World} {B k : Nat} {c : Array Value} {t : TypeId} (h : Blk w k c t) (hb : Below B w w') (hk : k < B) : Blk w' k c t := by
  unfold Blk at *; rw [hb.block k hk]; exact h
theorem below_drewN {B : Nat} {a w : World} (h : Below B a w) (m : Nat) : Below B a (w.drewN m) := ⟨h.os, h.tape, h.output, h.size, h.block⟩

theorem below_setRow {B : Nat} {a w : World} (h : Below B a w) {g : Nat} (hg : B ≤ g) (c : Array Value) : Below B a (w.setRow g c) :=
  h.trans ⟨rfl, rfl, rfl, by simp, fun k hk => setRow_other _ _ _ _ (by omega)⟩

theorem wCells_at (b : List UInt8) (t : Nat) (h : t < 64) : (wCells b t)[t]? = some (.int .u32 0) := by
  unfold wCells
  rw [List.getElem?_toArray, List.getElem?_append_right (by simp [len_sched]), List.getElem?_replicate]
  simp [len_sched]; omega
theorem wCells_in (b : List UInt8) (t i : Nat) (h : i < t) : (wCells b t)[i]? = some (.int .u32 (tn ((sched b t).getD i 0))) := by
  unfold wCells
  rw [List.getElem?_toArray, List.getElem?_append_left (by simpa [len_sched] using h), List.getElem?_map]
  rw [List.getD_eq_getElem?_getD, List.getElem?_eq_getElem (by simpa [len_sched] using h)]; rfl
theorem wCells_set (b : List UInt8) (t : Nat) (h : t < 64) : (wCells b t).setIfInBounds t (.int .u32 (tn (next b (sched b t)))) = wCells b (t + 1) := by
  unfold wCells
  rw [List.setIfInBounds_toArray]
  congr 1
  rw [List.set_append, if_neg (by simp [len_sched])]
  obtain ⟨m, hm⟩ : ∃ m, 64 - t = m + 1 := ⟨63 - t, by omega⟩
  rw [hm, show 64 - (t + 1) = m by omega]
  simp [sched, len_sched, u, List.replicate_succ]
theorem next_lo (b : List UInt8) (t : Nat) (h : t < 16) : next b (sched b t) = wd b t := by
  unfold next; rw [len_sched, if_pos h]
theorem next_hi (b : List UInt8) (t : Nat) (h : ¬ t < 16) : next b (sched b t) = s1 ((sched b t).getD (t - 2) 0) + (sched b t).getD (t - 7) 0 + s0 ((sched b t).getD (t - 15) 0) + (sched b t).getD (t - 16) 0 := by
  unfold next; rw [len_sched, if_neg h]

theorem sum4 (a b c d : W) : (tn a + tn b + tn c + tn d) % 4294967296 = tn (a + b + c + d) := by
  rw [← add_u' (a + b + c) d, ← add_u' (a + b) c, ← add_u' a b]; omega

structure WR (h : St) (b : List UInt8) (w : World) (t : Nat) (wr : World) : Prop where
  words : Blk wr (w.heap.size + 1 + 1) (wCells b t) 71
  out : Blk wr (w.heap.size + 1) #[.int .u32 0, .int .u32 0, .int .u32 0, .int .u32 0, .int .u32 0, .int .u32 0, .int .u32 0, .int .u32 0] 37
  state : Blk wr w.heap.size h.cells 37
  size : wr.heap.size = w.heap.size + 3
  below : Below w.heap.size w wr
theorem WR.drewN {h : St} {b : List UInt8} {w : World} {t : Nat} {wr : World} (hw : WR h b w t wr) (m : Nat) : WR h b w t (wr.drewN m) :=
  ⟨hw.words.drewN m, hw.out.drewN m, hw.state.drewN m, hw.size, below_drewN hw.below m⟩
theorem WR.put {h : St} {b : List UInt8} {w : World} {t : Nat} {wr : World} (hw : WR h b w t wr) (ht : t < 64) :
    WR h b w (t + 1) (wr.setCell ⟨w.heap.size + 1 + 1, t, none⟩ (.int .u32 (tn (next b (sched b t))))) :=
  ⟨by rw [← wCells_set b t ht]; exact hw.words.set t _, hw.out.set_other _ _ (by simp), hw.state.set_other _ _ (by simp; omega),
    by simp [World.setCell, hw.size], hw.below.setCell (by simp; omega) _⟩
theorem WR.start (h : St) (b : List UInt8) (w : World) (c : Array Value) (hc : c = wCells b 0) :
    WR h b w 0 (((w.alloc (.cells h.cells 37)).alloc (.cells #[.int .u32 0, .int .u32 0, .int .u32 0, .int .u32 0, .int .u32 0, .int .u32 0, .int .u32 0, .int .u32 0] 37)).alloc (.cells c 71)) := by
  subst hc
  refine ⟨?_, ?_, ?_, by simp, ?_⟩
  · have := Blk.new ((w.alloc (.cells h.cells 37)).alloc (.cells #[.int .u32 0, .int .u32 0, .int .u32 0, .int .u32 0, .int .u32 0, .int .u32 0, .int .u32 0, .int .u32 0] 37)) (wCells b 0) 71
    simpa using this
  · have := Blk.new (w.alloc (.cells h.cells 37)) #[.int .u32 0, .int .u32 0, .int .u32 0, .int .u32 0, .int .u32 0, .int .u32 0, .int .u32 0, .int .u32 0] 37
    exact Blk.alloc (by simpa using this) _
  · exact ((Blk.new w h.cells 37).alloc _).alloc _
  · exact (((Below.refl _ _).alloc (Nat.le_refl _) _).alloc (by simp) _).alloc (by simp; omega) _

structure VR (h : St) (b : List UInt8) (w : World) (t : Nat) (wr : World) : Prop where
  v : Blk wr (w.heap.size + 3) (rnds (sched b 64) h t).cells 37
  words : Blk wr (w.heap.size + 1 + 1) (wCells b 64) 71
  out : Blk wr (w.heap.size + 1) #[.int .u32 0, .int .u32 0, .int .u32 0, .int .u32 0, .int .u32 0, .int .u32 0, .int .u32 0, .int .u32 0] 37
  state : Blk wr w.heap.size h.cells 37
  size : wr.heap.size = w.heap.size + 4
  below : Below w.heap.size w wr
theorem VR.start {h : St} {b : List UInt8} {w wr : World} (hw : WR h b w 64 wr) : VR h b w 0 (wr.alloc (.cells h.cells 37)) :=
  ⟨by rw [← hw.size]; exact Blk.new _ _ _, hw.words.alloc _, hw.out.alloc _, hw.state.alloc _, by simp [hw.size], hw.below.alloc (by rw [hw.size]; omega) _⟩
theorem VR.drewN {h : St} {b : List UInt8} {w : World} {t : Nat} {wr : World} (hw : VR h b w t wr) (m : Nat) : VR h b w t (wr.drewN m) :=
  ⟨hw.v.drewN m, hw.words.drewN m, hw.out.drewN m, hw.state.drewN m, hw.size, below_drewN hw.below m⟩

theorem set8 (v : St) (x0 x1 x2 x3 x4 x5 x6 x7 : Value) :
    ((((((((v.cells.setIfInBounds 0 x0).setIfInBounds 1 x1).setIfInBounds 2 x2).setIfInBounds 3 x3).setIfInBounds 4 x4).setIfInBounds 5 x5).setIfInBounds 6 x6).setIfInBounds 7 x7) = #[x0, x1, x2, x3, x4, x5, x6, x7] := by
  simp [St.cells]
theorem VR.set1 {h : St} {b : List UInt8} {w wr : World} {c : Array Value} (i : Nat) (x : Value) (hw : Blk wr (w.heap.size + 3) c 37 ∧ Blk wr (w.heap.size + 1 + 1) (wCells b 64) 71 ∧
      Blk wr (w.heap.size + 1) #[.int .u32 0, .int .u32 0, .int .u32 0, .int .u32 0, .int .u32 0, .int .u32 0, .int .u32 0, .int .u32 0] 37 ∧ Blk wr w.heap.size h.cells 37 ∧ wr.heap.size = w.heap.size + 4 ∧ Below w.heap.size w wr) :
    Blk (wr.setCell ⟨w.heap.size + 3, i, none⟩ x) (w.heap.size + 3) (c.setIfInBounds i x) 37 ∧ Blk (wr.setCell ⟨w.heap.size + 3, i, none⟩ x) (w.heap.size + 1 + 1) (wCells b 64) 71 ∧
      Blk (wr.setCell ⟨w.heap.size + 3, i, none⟩ x) (w.heap.size + 1) #[.int .u32 0, .int .u32 0, .int .u32 0, .int .u32 0, .int .u32 0, .int .u32 0, .int .u32 0, .int .u32 0] 37 ∧ Blk (wr.setCell ⟨w.heap.size + 3, i, none⟩ x) w.heap.size h.cells 37 ∧ (wr.setCell ⟨w.heap.size + 3, i, none⟩ x).heap.size = w.heap.size + 4 ∧ Below w.heap.size w (wr.setCell ⟨w.heap.size + 3, i, none⟩ x) :=
  ⟨hw.1.set i x, hw.2.1.set_other _ _ (by simp), hw.2.2.1.set_other _ _ (by simp), hw.2.2.2.1.set_other _ _ (by simp), by simp [World.setCell, hw.2.2.2.2.1], hw.2.2.2.2.2.setCell (by simp) _⟩
theorem VR.put8 {h : St} {b : List UInt8} {w : World} {t : Nat} {wr : World} (hw : VR h b w t wr) (x0 x1 x2 x3 x4 x5 x6 x7 : Value) (hc : #[x0, x1, x2, x3, x4, x5, x6, x7] = (rnds (sched b 64) h (t + 1)).cells) :
    VR h b w (t + 1) ((((((((wr.setCell ⟨w.heap.size + 3, 0, none⟩ x0).setCell ⟨w.heap.size + 3, 1, none⟩ x1).setCell ⟨w.heap.size + 3, 2, none⟩ x2).setCell ⟨w.heap.size + 3, 3, none⟩ x3).setCell ⟨w.heap.size + 3, 4, none⟩ x4).setCell ⟨w.heap.size + 3, 5, none⟩ x5).setCell ⟨w.heap.size + 3, 6, none⟩ x6).setCell ⟨w.heap.size + 3, 7, none⟩ x7) := by
  have := VR.set1 7 x7 (VR.set1 6 x6 (VR.set1 5 x5 (VR.set1 4 x4 (VR.set1 3 x3 (VR.set1 2 x2 (VR.set1 1 x1 (VR.set1 0 x0 ⟨hw.v, hw.words, hw.out, hw.state, hw.size, hw.below⟩)))))))
  rw [set8, hc] at this
  exact ⟨this.1, this.2.1, this.2.2.1, this.2.2.2.1, this.2.2.2.2.1, this.2.2.2.2.2⟩

/-- Words as cells of uint32. -/
def cellsL (l : List W) : Array Value := (l.map u).toArray
theorem cellsL_at (l : List W) (i : Nat) (h : i < l.length) : (cellsL l)[i]? = some (.int .u32 (tn (l.getD i 0))) := by
  unfold cellsL
  rw [List.getElem?_toArray, List.getElem?_map, List.getD_eq_getElem?_getD, List.getElem?_eq_getElem h]; rfl
theorem cellsL_one (l : List W) : (cellsL l).all (·.oneCell') = true := by
  unfold cellsL
  rw [Array.all_eq_true_iff_forall_mem]
  intro x hx
  simp only [List.mem_toArray, List.mem_map] at hx
  obtain ⟨a, _, rfl⟩ := hx
  rfl
/-- The sums of the first i words, then the words of x. -/
def mix (x y : List W) (i : Nat) : List W := (x.zipWith (· + ·) y).take i ++ x.drop i
theorem mix_at (x y : List W) (i : Nat) (hx : x.length = 8) (hy : y.length = 8) (h : i < 8) : (cellsL (mix x y i))[i]? = some (.int .u32 (tn (x.getD i 0))) := by
  have hl : ((x.zipWith (· + ·) y).take i).length = i := by simp [hx, hy]; omega
  rw [cellsL_at _ _ (by simp [mix, hx, hy]; omega)]
  congr 3
  unfold mix
  rw [List.getD_eq_getElem?_getD, List.getElem?_append_right (by omega), hl, Nat.sub_self, List.getElem?_drop, Nat.add_zero, ← List.getD_eq_getElem?_getD]
theorem mix_set (x y : List W) (i : Nat) (hx : x.length = 8) (hy : y.length = 8) (h : i < 8) :
    (cellsL (mix x y i)).setIfInBounds i (.int .u32 (tn (x.getD i 0 + y.getD i 0))) = cellsL (mix x y (i + 1)) := by
  have hl : ((x.zipWith (· + ·) y).take i).length = i := by simp [hx, hy]; omega
  unfold cellsL
  rw [List.setIfInBounds_toArray]
  congr 1
  show List.set _ i (u (x.getD i 0 + y.getD i 0)) = _
  rw [← List.map_set]
  congr 1
  unfold mix
  rw [List.set_append, if_neg (by omega), hl, Nat.sub_self, List.take_add_one]
  have e1 : (List.zipWith (fun a b => a + b) x y)[i]? = some (x.getD i 0 + y.getD i 0) := by
    rw [List.getElem?_zipWith, List.getD_eq_getElem?_getD, List.getD_eq_getElem?_getD, List.getElem?_eq_getElem (by omega), List.getElem?_eq_getElem (by omega)]; rfl
  have e2 : x.drop i = x.getD i 0 :: x.drop (i + 1) := by
    rw [List.drop_eq_getElem_cons (by omega : i < x.length), List.getD_eq_getElem?_getD, List.getElem?_eq_getElem (by omega)]; rfl
  rw [e1, e2]
  simp
theorem mix_all (h v : St) : mix h.words v.words 8 = (h.add v).words := rfl

structure XR (h v : St) (w : World) (t : Nat) (wr : World) : Prop where
  vs : Blk wr (w.heap.size + 3) (cellsL v.words) 37
  out : Blk wr (w.heap.size + 1) #[.int .u32 0, .int .u32 0, .int .u32 0, .int .u32 0, .int .u32 0, .int .u32 0, .int .u32 0, .int .u32 0] 37
  state : Blk wr w.heap.size (cellsL (mix h.words v.words t)) 37
  below : Below w.heap.size w wr
theorem XR.start {h : St} {b : List UInt8} {w wr : World} (hw : VR h b w 64 wr) : XR h (rnds (sched b 64) h 64) w 0 wr :=
  ⟨hw.v, hw.out, hw.state, hw.below⟩
theorem XR.drewN {h v : St} {w : World} {t : Nat} {wr : World} (hw : XR h v w t wr) (m : Nat) : XR h v w t (wr.drewN m) :=
  ⟨hw.vs.drewN m, hw.out.drewN m, hw.state.drewN m, below_drewN hw.below m⟩
theorem XR.put {h v : St} {w : World} {t : Nat} {wr : World} (hw : XR h v w t wr) (ht : t < 8) : XR h v w (t + 1) (wr.setCell ⟨w.heap.size, t, none⟩ (.int .u32 (tn (h.words.getD t 0 + v.words.getD t 0)))) :=
  ⟨hw.vs.set_other _ _ (by simp), hw.out.set_other _ _ (by simp), by rw [← mix_set _ _ t rfl rfl ht]; exact hw.state.set t _, hw.below.setCell (by simp) _⟩

set_option maxRecDepth 100000 in
set_option maxHeartbeats 1000000 in
theorem step_any (h : St) (b : List UInt8) (blk off : Nat) (w : World) (hb : blk < w.heap.size) (hg : 1 < w.heap.size)
    (hc : ∀ i, i < 64 → w.cell? ⟨blk, off + i, none⟩ = some (by8 (b.getD i 0)))
    (hk : ∀ i, i < 64 → w.cell? ⟨1, i, none⟩ = some (.int .u32 (tn (kw i)))) :
    Calls Tryd.prog 30 #[h.val, .pointer (some ⟨blk, off, none⟩)] w fun e w' => e = .returned (step h b).val ∧ Below w.heap.size w w' := by
  have HC := Lib.hid hc; clear hc
  have HK := Lib.hid hk; clear hk
  unfold St.val
  go_enter Tryd.func30, Tryd.ntmps30
  go_wp2
  go_loopw [16] (fun i wr => ∃ t : Nat, t ≤ 64 ∧ i = .int .i64 t ∧ WR h b w t wr) (fun i _ => 64 - (intOf i).toNat)
  case atStart => exact ⟨0, by omega, rfl, WR.start h b w _ (by unfold wCells sched; rfl)⟩
  case round =>
    obtain ⟨t, ht, rfl, hw⟩ := hrel
    by_cases h64 : t < 64
    · by_cases h16 : t < 16
      · have hcell : ∀ j, j < 4 → wr.cell? ⟨blk, off + (4 * t + j), none⟩ = some (by8 (b.getD (4 * t + j) 0)) := fun j hj => by
          rw [hw.below.cell (p := ⟨blk, off + (4 * t + j), none⟩) hb]; exact HC.out _ (by omega)
        obtain ⟨x0, e0⟩ : ∃ x, x = b.getD (4 * t) 0 := ⟨_, rfl⟩
        obtain ⟨x1, e1⟩ : ∃ x, x = b.getD (4 * t + 1) 0 := ⟨_, rfl⟩
        obtain ⟨x2, e2⟩ : ∃ x, x = b.getD (4 * t + 2) 0 := ⟨_, rfl⟩
        obtain ⟨x3, e3⟩ : ∃ x, x = b.getD (4 * t + 3) 0 := ⟨_, rfl⟩
        have c0 : wr.cell? ⟨blk, off + 4 * t, none⟩ = some (.int .u8 (x0.toNat : Int)) := by rw [e0]; exact hcell 0 (by omega)
        have c1 : wr.cell? ⟨blk, off + (4 * t + 1), none⟩ = some (.int .u8 (x1.toNat : Int)) := by rw [e1]; exact hcell 1 (by omega)
        have c2 : wr.cell? ⟨blk, off + (4 * t + 2), none⟩ = some (.int .u8 (x2.toNat : Int)) := by rw [e2]; exact hcell 2 (by omega)
        have c3 : wr.cell? ⟨blk, off + (4 * t + 3), none⟩ = some (.int .u8 (x3.toNat : Int)) := by rw [e3]; exact hcell 3 (by omega)
        have EX : Hid (next b (sched b t) = BitVec.ofNat 32 (((x0.toNat * 256 + x1.toNat) * 256 + x2.toNat) * 256 + x3.toNat)) := by
          rw [Hid, next_lo b t h16, wd, e0, e1, e2, e3]
        clear hcell e0 e1 e2 e3
        go_wp2
        have i0 : IntKind.i64.wrap (4 * (t : Int)) = 4 * (t : Int) := IntWalk.i64_in _ (by omega)
        have i1 : IntKind.i64.wrap (4 * (t : Int) + 1) = 4 * (t : Int) + 1 := IntWalk.i64_in _ (by omega)
        have i2 : IntKind.i64.wrap (4 * (t : Int) + 2) = 4 * (t : Int) + 2 := IntWalk.i64_in _ (by omega)
        have i3 : IntKind.i64.wrap (4 * (t : Int) + 3) = 4 * (t : Int) + 3 := IntWalk.i64_in _ (by omega)
        have j0 : 0 ≤ 4 * (t : Int) := by omega
        have j1 : 0 ≤ 4 * (t : Int) + 1 := by omega
        have j2 : 0 ≤ 4 * (t : Int) + 2 := by omega
        have j3 : 0 ≤ 4 * (t : Int) + 3 := by omega
        have l0 : 4 * (t : Int) < 64 := by omega
        have l1 : 4 * (t : Int) + 1 < 64 := by omega
        have l2 : 4 * (t : Int) + 2 < 64 := by omega
        have l3 : 4 * (t : Int) + 3 < 64 := by omega
        have k0 : (4 * (t : Int)).toNat = 4 * t := by omega
        have k1 : (4 * (t : Int) + 1).toNat = 4 * t + 1 := by omega
        have k2 : (4 * (t : Int) + 2).toNat = 4 * t + 2 := by omega
        have k3 : (4 * (t : Int) + 3).toNat = 4 * t + 3 := by omega
        go_still_tail 39, (by kernel_rfl)
        change wpList _ _ _ _ _ (wr.drewN 1)
        have hd := hw.drewN 1
        generalize wr.drewN 1 = w2 at hd ⊢
        clear c0 c1 c2 c3 hw i0 i1 i2 i3 j0 j1 j2 j3 l0 l1 l2 l3 k0 k1 k2 k3
        have cs : w2.cell? ⟨w.heap.size + 1 + 1, t, none⟩ = some (.int .u32 0) := by rw [hd.words.cell]; exact wCells_at b t h64
        have cf : w2.frozen? ⟨w.heap.size + 1 + 1, t, none⟩ = false := hd.words.free _
        go_wp2
        go_roundw
        case rel => 
          refine ⟨t + 1, by omega, by simp, ?_⟩
          have := hd.put h64
          rw [EX.out, ← wd_eq] at this
          exact this
        case measure => simp [intOf]; omega
      · have hcell : ∀ j, j < t → wr.cell? ⟨w.heap.size + 1 + 1, j, none⟩ = some (.int .u32 (tn ((sched b t).getD j 0))) := fun j hj => by
          rw [hw.words.cell]; exact wCells_in b t j hj
        obtain ⟨x2, e2⟩ : ∃ x, x = (sched b t).getD (t - 2) 0 := ⟨_, rfl⟩
        obtain ⟨x7, e7⟩ : ∃ x, x = (sched b t).getD (t - 7) 0 := ⟨_, rfl⟩
        obtain ⟨x15, e15⟩ : ∃ x, x = (sched b t).getD (t - 15) 0 := ⟨_, rfl⟩
        obtain ⟨x16, e16⟩ : ∃ x, x = (sched b t).getD (t - 16) 0 := ⟨_, rfl⟩
        have c2 : wr.cell? ⟨w.heap.size + 1 + 1, t - 2, none⟩ = some (.int .u32 (tn x2)) := by rw [e2]; exact hcell _ (by omega)
        have c7 : wr.cell? ⟨w.heap.size + 1 + 1, t - 7, none⟩ = some (.int .u32 (tn x7)) := by rw [e7]; exact hcell _ (by omega)
        have c15 : wr.cell? ⟨w.heap.size + 1 + 1, t - 15, none⟩ = some (.int .u32 (tn x15)) := by rw [e15]; exact hcell _ (by omega)
        have c16 : wr.cell? ⟨w.heap.size + 1 + 1, t - 16, none⟩ = some (.int .u32 (tn x16)) := by rw [e16]; exact hcell _ (by omega)
        have EX : Hid (next b (sched b t) = s1 x2 + x7 + s0 x15 + x16) := by
          rw [Hid, next_hi b t h16, e2, e7, e15, e16]
        clear hcell e2 e7 e15 e16
        go_wp2
        have i2 : IntKind.i64.wrap ((t : Int) - 2) = (t : Int) - 2 := IntWalk.i64_in _ (by omega)
        have i7 : IntKind.i64.wrap ((t : Int) - 7) = (t : Int) - 7 := IntWalk.i64_in _ (by omega)
        have i15 : IntKind.i64.wrap ((t : Int) - 15) = (t : Int) - 15 := IntWalk.i64_in _ (by omega)
        have i16 : IntKind.i64.wrap ((t : Int) - 16) = (t : Int) - 16 := IntWalk.i64_in _ (by omega)
        have j2 : 2 ≤ (t : Int) := by omega
        have j7 : 7 ≤ (t : Int) := by omega
        have j15 : 15 ≤ (t : Int) := by omega
        have j16 : 16 ≤ (t : Int) := by omega
        have l2 : (t : Int) - 2 < 64 := by omega
        have l7 : (t : Int) - 7 < 64 := by omega
        have l15 : (t : Int) - 15 < 64 := by omega
        have l16 : (t : Int) - 16 < 64 := by omega
        have k2 : ((t : Int) - 2).toNat = t - 2 := by omega
        have k7 : ((t : Int) - 7).toNat = t - 7 := by omega
        have k15 : ((t : Int) - 15).toNat = t - 15 := by omega
        have k16 : ((t : Int) - 16).toNat = t - 16 := by omega
        go_quiet (fail)
        go_wp2
        replace hw := hw.drewN nq
        replace c7 : (wr.drewN nq).cell? ⟨w.heap.size + 1 + 1, t - 7, none⟩ = some (.int .u32 (tn x7)) := c7
        replace c16 : (wr.drewN nq).cell? ⟨w.heap.size + 1 + 1, t - 16, none⟩ = some (.int .u32 (tn x16)) := c16
        clear c2 c15
        generalize wr.drewN nq = w1 at hw c7 c16 ⊢
        refine wp_region_still_tail 29 (by kernel_rfl) (by kernel_rfl) ?_
        simp only [List.take_succ_cons, List.take_zero, List.drop_succ_cons, List.drop_zero]
        repeat still_step
        still_call (right_any x2 17 (by decide) (by decide) _)
        repeat still_step
        still_call (right_any x2 19 (by decide) (by decide) _)
        repeat still_step
        still_call (right_any x15 7 (by decide) (by decide) _)
        repeat still_step
        still_call (right_any x15 18 (by decide) (by decide) _)
        repeat still_step
        refine wpStill_nil ?_
        change wpList _ _ _ _ _ (w1.drewN 1)
        have hd := hw.drewN 1
        generalize w1.drewN 1 = w2 at hd ⊢
        clear c7 c16 hw i2 i7 i15 i16 j2 j7 j15 j16 l2 l7 l15 l16 k2 k7 k15 k16
        have cs : w2.cell? ⟨w.heap.size + 1 + 1, t, none⟩ = some (.int .u32 0) := by rw [hd.words.cell]; exact wCells_at b t h64
        have cf : w2.frozen? ⟨w.heap.size + 1 + 1, t, none⟩ = false := hd.words.free _
        go_wp2
        go_roundw
        case rel => 
          refine ⟨t + 1, by omega, by simp, ?_⟩
          have := hd.put h64
          rw [EX.out] at this
          exact this
        case measure => simp [intOf]; omega
    · obtain rfl : t = 64 := by omega
      clear h64 ht
      rw [show ((64 : Nat) : Int) = 64 from rfl]
      have hcell : ∀ j v, h.cells[j]? = some v → wr.cell? ⟨w.heap.size, j, none⟩ = some v := fun j v hj => by
        rw [hw.state.cell]; exact hj
      have a0 := hcell 0 (.int .u32 (tn h.a)) rfl
      have a1 := hcell 1 (.int .u32 (tn h.b)) rfl
      have a2 := hcell 2 (.int .u32 (tn h.c)) rfl
      have a3 := hcell 3 (.int .u32 (tn h.d)) rfl
      have a4 := hcell 4 (.int .u32 (tn h.e)) rfl
      have a5 := hcell 5 (.int .u32 (tn h.f)) rfl
      have a6 := hcell 6 (.int .u32 (tn h.g)) rfl
      have a7 := hcell 7 (.int .u32 (tn h.h)) rfl
      clear hcell
      go_wp2
      rw [hw.size]
      have hv0 : VR h b w 0 (wr.alloc (Obj.cells #[Value.int IntKind.u32 (tn h.a), Value.int IntKind.u32 (tn h.b), Value.int IntKind.u32 (tn h.c),
        Value.int IntKind.u32 (tn h.d), Value.int IntKind.u32 (tn h.e), Value.int IntKind.u32 (tn h.f), Value.int IntKind.u32 (tn h.g), Value.int IntKind.u32 (tn h.h)] 37)) := VR.start hw
      clear a0 a1 a2 a3 a4 a5 a6 a7
      generalize wr.alloc (Obj.cells #[Value.int IntKind.u32 (tn h.a), Value.int IntKind.u32 (tn h.b), Value.int IntKind.u32 (tn h.c),
        Value.int IntKind.u32 (tn h.d), Value.int IntKind.u32 (tn h.e), Value.int IntKind.u32 (tn h.f), Value.int IntKind.u32 (tn h.g), Value.int IntKind.u32 (tn h.h)] 37) = wq at hv0 ⊢
      clear hw
      go_loopw [99] (fun i wr => ∃ t : Nat, t ≤ 64 ∧ i = .int .i64 t ∧ VR h b w t wr) (fun i _ => 64 - (intOf i).toNat)
      case atStart => exact ⟨0, by omega, rfl, hv0⟩
      case round =>
        clear hv0
        obtain ⟨t, ht, rfl, hw⟩ := hrel
        by_cases h64 : t < 64
        · obtain ⟨v, ev⟩ : ∃ v, v = rnds (sched b 64) h t := ⟨_, rfl⟩
          have hcell : ∀ j x, v.cells[j]? = some x → wr.cell? ⟨w.heap.size + 3, j, none⟩ = some x := fun j v hj => by
            rw [hw.v.cell, ← ev]; exact hj
          have a0 := hcell 0 (.int .u32 (tn v.a)) rfl
          have a1 := hcell 1 (.int .u32 (tn v.b)) rfl
          have a2 := hcell 2 (.int .u32 (tn v.c)) rfl
          have a3 := hcell 3 (.int .u32 (tn v.d)) rfl
          have a4 := hcell 4 (.int .u32 (tn v.e)) rfl
          have a5 := hcell 5 (.int .u32 (tn v.f)) rfl
          have a6 := hcell 6 (.int .u32 (tn v.g)) rfl
          have a7 := hcell 7 (.int .u32 (tn v.h)) rfl
          obtain ⟨xw, ew⟩ : ∃ x, x = (sched b 64).getD t 0 := ⟨_, rfl⟩
          have cw : wr.cell? ⟨w.heap.size + 1 + 1, t, none⟩ = some (.int .u32 (tn xw)) := by
            rw [hw.words.cell, ew]; exact wCells_in b 64 t h64
          obtain ⟨xk, ek⟩ : ∃ x, x = kw t := ⟨_, rfl⟩
          have ck : wr.cell? ⟨1, t, none⟩ = some (.int .u32 (tn xk)) := by
            rw [hw.below.cell (p := ⟨1, t, none⟩) hg, ek]; exact HK.out t h64
          have EX : Hid (rnds (sched b 64) h (t + 1) = rnd v xk xw) := by
            rw [Hid, ev, ek, ew]; rfl
          clear hcell ev ew ek
          go_wp2
          go_quiet (fail)
          go_wp2
          replace a0 : (wr.drewN nq).cell? _ = _ := a0
          replace a1 : (wr.drewN nq).cell? _ = _ := a1
          replace a2 : (wr.drewN nq).cell? _ = _ := a2
          replace a3 : (wr.drewN nq).cell? _ = _ := a3
          replace a4 : (wr.drewN nq).cell? _ = _ := a4
          replace a5 : (wr.drewN nq).cell? _ = _ := a5
          replace a6 : (wr.drewN nq).cell? _ = _ := a6
          replace a7 : (wr.drewN nq).cell? _ = _ := a7
          replace cw : (wr.drewN nq).cell? _ = _ := cw
          replace ck : (wr.drewN nq).cell? _ = _ := ck
          replace hw := hw.drewN nq
          generalize wr.drewN nq = w1 at hw a0 a1 a2 a3 a4 a5 a6 a7 cw ck ⊢
          go_quiet ((go_at_call 38; refine Calls.quiet_of_same (right_int _ _ (by decide) _)))
          go_wp2
          replace a0 : (w1.drewN nq).cell? _ = _ := a0
          replace a1 : (w1.drewN nq).cell? _ = _ := a1
          replace a2 : (w1.drewN nq).cell? _ = _ := a2
          replace a3 : (w1.drewN nq).cell? _ = _ := a3
          replace a4 : (w1.drewN nq).cell? _ = _ := a4
          replace a5 : (w1.drewN nq).cell? _ = _ := a5
          replace a6 : (w1.drewN nq).cell? _ = _ := a6
          replace a7 : (w1.drewN nq).cell? _ = _ := a7
          replace cw : (w1.drewN nq).cell? _ = _ := cw
          replace ck : (w1.drewN nq).cell? _ = _ := ck
          replace hw := hw.drewN nq
          generalize w1.drewN nq = w2 at hw a0 a1 a2 a3 a4 a5 a6 a7 cw ck ⊢
          go_quiet ((go_at_call 38; refine Calls.quiet_of_same (right_int _ _ (by decide) _)))
          replace a0 : (w2.drewN nq).cell? _ = _ := a0
          replace a1 : (w2.drewN nq).cell? _ = _ := a1
          replace a2 : (w2.drewN nq).cell? _ = _ := a2
          replace a3 : (w2.drewN nq).cell? _ = _ := a3
          replace a4 : (w2.drewN nq).cell? _ = _ := a4
          replace a5 : (w2.drewN nq).cell? _ = _ := a5
          replace a6 : (w2.drewN nq).cell? _ = _ := a6
          replace a7 : (w2.drewN nq).cell? _ = _ := a7
          replace cw : (w2.drewN nq).cell? _ = _ := cw
          replace ck : (w2.drewN nq).cell? _ = _ := ck
          replace hw := hw.drewN nq
          generalize w2.drewN nq = w3 at hw a0 a1 a2 a3 a4 a5 a6 a7 cw ck ⊢
          have z0 : w3.frozen? ⟨w.heap.size + 3, 0, none⟩ = false := hw.v.free 0
          have z1 : w3.frozen? ⟨w.heap.size + 3, 1, none⟩ = false := hw.v.free 1
          have z2 : w3.frozen? ⟨w.heap.size + 3, 2, none⟩ = false := hw.v.free 2
          have z3 : w3.frozen? ⟨w.heap.size + 3, 3, none⟩ = false := hw.v.free 3
          have z4 : w3.frozen? ⟨w.heap.size + 3, 4, none⟩ = false := hw.v.free 4
          have z5 : w3.frozen? ⟨w.heap.size + 3, 5, none⟩ = false := hw.v.free 5
          have z6 : w3.frozen? ⟨w.heap.size + 3, 6, none⟩ = false := hw.v.free 6
          have z7 : w3.frozen? ⟨w.heap.size + 3, 7, none⟩ = false := hw.v.free 7
          go_wp2
          go_roundw
          case rel =>
            refine ⟨t + 1, by omega, by simp, ?_⟩
            exact hw.put8 _ _ _ _ _ _ _ _ (by rw [EX.out]; rfl)
          case measure => simp [intOf]; omega
        · obtain rfl : t = 64 := by omega
          clear h64 ht
          rw [show ((64 : Nat) : Int) = 64 from rfl]
          go_wp2
          obtain ⟨v, ev⟩ : ∃ v, v = rnds (sched b 64) h 64 := ⟨_, rfl⟩
          have hx0 := XR.start hw
          rw [← ev] at hx0
          have EV := Lib.hid ev
          clear hw ev
          go_loopw [179] (fun i wr => ∃ t : Nat, t ≤ 8 ∧ i = .int .i64 t ∧ XR h v w t wr) (fun i _ => 8 - (intOf i).toNat)
          case atStart => exact ⟨0, by omega, rfl, hx0⟩
          case round =>
            clear hx0
            obtain ⟨t, ht, rfl, hw⟩ := hrel
            by_cases h8 : t < 8
            · have ch : wr.cell? ⟨w.heap.size, t, none⟩ = some (.int .u32 (tn (h.words.getD t 0))) := by
                rw [hw.state.cell]; exact mix_at h.words v.words t rfl rfl h8
              have cv : wr.cell? ⟨w.heap.size + 3, t, none⟩ = some (.int .u32 (tn (v.words.getD t 0))) := by
                rw [hw.vs.cell]; exact cellsL_at v.words t h8
              obtain ⟨x, ex⟩ : ∃ x, x = h.words.getD t 0 := ⟨_, rfl⟩
              obtain ⟨y, ey⟩ : ∃ y, y = v.words.getD t 0 := ⟨_, rfl⟩
              rw [← ex] at ch
              rw [← ey] at cv
              have EX := Lib.hid ex
              have EY := Lib.hid ey
              clear ex ey
              go_wp2
              go_still_tail 8, (by kernel_rfl)
              change wpList _ _ _ _ _ (wr.drewN 1)
              have hd := hw.drewN 1
              have cs : (wr.drewN 1).cell? ⟨w.heap.size, t, none⟩ = some (.int .u32 (tn x)) := ch
              generalize wr.drewN 1 = w2 at hd cs ⊢
              have cf : w2.frozen? ⟨w.heap.size, t, none⟩ = false := hd.state.free _
              clear ch cv
              go_wp2
              go_roundw
              case rel =>
                refine ⟨t + 1, by omega, by simp, ?_⟩
                have := hd.put h8
                rw [← EX.out, ← EY.out] at this
                exact this
              case measure => simp [intOf]; omega
            · obtain rfl : t = 8 := by omega
              clear h8 ht
              have hs := hw.state
              rw [mix_all] at hs
              have ho := hw.out
              go_upto_region 24 with fail
              refine wp_region_lit ?_
              refine wpList_load_row rfl 37 _ rfl w.heap.size rfl 37 _ (0,0) _ hs Tryd.underlying37 rfl (by kernel_rfl) ?_
              refine wpList_store_row rfl 37 _ _ rfl (w.heap.size+1) _ rfl rfl 37 _ ho (by kernel_rfl) rfl (cellsL_one _) ?_
              go_wp2
              refine bodyPost_ret (v := .agg (cellsL (h.add v).words)) (results_cell_row rfl _ _ (w.heap.size + 1) 37 _ (0, 0) _ rfl (setRow_heap _ _ _ _ _ _ ho) Tryd.underlying37 rfl (by kernel_rfl)) rfl ⟨?_, ?_⟩
              · rw [EV.out]; rfl
              · exact below_setRow hw.below (by omega) _
end Go.Proofs.YtdchgojnmfoffaaDoor.Sha
