import Derived.Test.YtdchgojnmfoffaaDoorT2
import Derived.Test.YtdchgojnmfoffaaDoorTook
namespace Go.Proofs.YtdchgojnmfoffaaDoor.Sha
open Go Go.RowKit

/-- The package's two tables, as they lie in memory. -/
structure Glob (w : World) : Prop where
  size : 1 < w.heap.size
  first : ∀ i, i < 8 → w.cell? ⟨0, i, none⟩ = some (.int .u32 (tn (H0.words.getD i 0)))
  k : ∀ i, i < 64 → w.cell? ⟨1, i, none⟩ = some (.int .u32 (tn (kw i)))
theorem Glob.below {w w' : World} {B : Nat} (h : Glob w) (hb : Below B w w') (hB : 1 < B) : Glob w' :=
  ⟨by have := hb.size; have := h.size; omega, fun i hi => by rw [hb.cell (p := ⟨0, i, none⟩) (by simp; omega)]; exact h.first i hi,
    fun i hi => by rw [hb.cell (p := ⟨1, i, none⟩) (by simp; omega)]; exact h.k i hi⟩
theorem Glob.drewN {w : World} (h : Glob w) (m : Nat) : Glob (w.drewN m) := ⟨h.size, h.first, h.k⟩

def HS.cells (x : HS) : Array Value := ((Value.bool true :: (x.s.words.map u)) ++ (x.b.map by8 ++ [Value.int .i64 (x.m : Int)])).toArray

/-- Below B all is as it was, but block p. -/
structure Oth (p B : Nat) (w w' : World) : Prop where
  os : w'.os = w.os
  tape : w'.tape = w.tape
  output : w'.output = w.output
  size : w.heap.size ≤ w'.heap.size
  block : ∀ k, k < B → k ≠ p → w'.heap[k]? = w.heap[k]?
theorem Oth.refl (p B : Nat) (w : World) : Oth p B w w := ⟨rfl, rfl, rfl, Nat.le_refl _, fun _ _ _ => rfl⟩
theorem Oth.trans {p B : Nat} {a b c : World} (h : Oth p B a b) (k : Oth p B b c) : Oth p B a c :=
  ⟨k.os.trans h.os, k.tape.trans h.tape, k.output.trans h.output, Nat.le_trans h.size k.size, fun i hi hp => (k.block i hi hp).trans (h.block i hi hp)⟩
theorem Oth.of_below {p B : Nat} {w w' : World} (h : Below B w w') : Oth p B w w' := ⟨h.os, h.tape, h.output, h.size, fun k hk _ => h.block k hk⟩
theorem Oth.below {p B B' : Nat} {w w' : World} (h : Oth p B w w') (hB : B' ≤ B) (hp : B' ≤ p) : Below B' w w' :=
  ⟨h.os, h.tape, h.output, h.size, fun k hk => h.block k (by omega) (by omega)⟩
theorem Oth.mono {p B B' : Nat} {w w' : World} (h : Oth p B w w') (hB : B' ≤ B) : Oth p B' w w' := ⟨h.os, h.tape, h.output, h.size, fun k hk => h.block k (by omega)⟩
theorem Oth.drewN {p B : Nat} {a w : World} (h : Oth p B a w) (m : Nat) : Oth p B a (w.drewN m) := ⟨h.os, h.tape, h.output, h.size, h.block⟩
theorem Oth.setRow {p B : Nat} {a w : World} (h : Oth p B a w) (c : Array Value) : Oth p B a (w.setRow p c) :=
  h.trans ⟨rfl, rfl, rfl, by simp, fun k _ hp => setRow_other _ _ _ _ hp⟩
theorem Oth.setCell {p B : Nat} {a w : World} (h : Oth p B a w) (i : Nat) (v : Value) : Oth p B a (w.setCell ⟨p, i, none⟩ v) :=
  h.trans ⟨rfl, rfl, rfl, by simp [World.setCell], fun k _ hp => Below.heap_setCell _ _ _ _ hp⟩
theorem Oth.alloc {p B : Nat} {a w : World} (h : Oth p B a w) (hB : B ≤ w.heap.size) (o : Obj) : Oth p B a (w.alloc o) :=
  h.trans (Oth.of_below ((Below.refl _ _).alloc hB o))
theorem Oth.blk {p B k : Nat} {w w' : World} {c : Array Value} {t : TypeId} (h : Oth p B w w') (hk : Blk w k c t) (hB : k < B) (hp : k ≠ p) : Blk w' k c t := by
  unfold Blk at *; rw [h.block k hB hp]; exact hk
theorem Oth.cell {p B : Nat} {w w' : World} (h : Oth p B w w') {a : Addr} (hB : a.block < B) (hp : a.block ≠ p) : w'.cell? a = w.cell? a :=
  World.cell?_of_block (w := w) (h.block a.block hB hp)
theorem Glob.oth {p B : Nat} {w w' : World} (h : Glob w) (ho : Oth p B w w') (hB : 1 < B) (hp : 1 < p) : Glob w' :=
  ⟨by have := ho.size; have := h.size; omega, fun i hi => by rw [ho.cell (a := ⟨0, i, none⟩) (by simp; omega) (by simp; omega)]; exact h.first i hi,
    fun i hi => by rw [ho.cell (a := ⟨1, i, none⟩) (by simp; omega) (by simp; omega)]; exact h.k i hi⟩

theorem zero40 (w : World) : (zeroValue 40).run Tryd.prog w = .ok (.agg #[.bool false, .int .u32 0, .int .u32 0, .int .u32 0, .int .u32 0, .int .u32 0, .int .u32 0, .int .u32 0, .int .u32 0, .int .u8 0, .int .u8 0, .int .u8 0, .int .u8 0, .int .u8 0, .int .u8 0, .int .u8 0, .int .u8 0, .int .u8 0, .int .u8 0, .int .u8 0, .int .u8 0, .int .u8 0, .int .u8 0, .int .u8 0, .int .u8 0, .int .u8 0, .int .u8 0, .int .u8 0, .int .u8 0, .int .u8 0, .int .u8 0, .int .u8 0, .int .u8 0, .int .u8 0, .int .u8 0, .int .u8 0, .int .u8 0, .int .u8 0, .int .u8 0, .int .u8 0, .int .u8 0, .int .u8 0, .int .u8 0, .int .u8 0, .int .u8 0, .int .u8 0, .int .u8 0, .int .u8 0, .int .u8 0, .int .u8 0, .int .u8 0, .int .u8 0, .int .u8 0, .int .u8 0, .int .u8 0, .int .u8 0, .int .u8 0, .int .u8 0, .int .u8 0, .int .u8 0, .int .u8 0, .int .u8 0, .int .u8 0, .int .u8 0, .int .u8 0, .int .u8 0, .int .u8 0, .int .u8 0, .int .u8 0, .int .u8 0, .int .u8 0, .int .u8 0, .int .u8 0, .int .i64 0]) w := by kernel_rfl

set_option maxRecDepth 100000 in
theorem new_any (w : World) (hG : Glob w) :
    Calls Tryd.prog 12 #[] w fun e w' => e = .returned (.pointer (some ⟨w.heap.size, 0, none⟩)) ∧ w' = w.alloc (.cells hs0.cells 40) := by
  have c0 : w.cell? ⟨0, 0, none⟩ = some (.int .u32 (tn H0.a)) := hG.first 0 (by decide)
  have c1 : w.cell? ⟨0, 1, none⟩ = some (.int .u32 (tn H0.b)) := hG.first 1 (by decide)
  have c2 : w.cell? ⟨0, 2, none⟩ = some (.int .u32 (tn H0.c)) := hG.first 2 (by decide)
  have c3 : w.cell? ⟨0, 3, none⟩ = some (.int .u32 (tn H0.d)) := hG.first 3 (by decide)
  have c4 : w.cell? ⟨0, 4, none⟩ = some (.int .u32 (tn H0.e)) := hG.first 4 (by decide)
  have c5 : w.cell? ⟨0, 5, none⟩ = some (.int .u32 (tn H0.f)) := hG.first 5 (by decide)
  have c6 : w.cell? ⟨0, 6, none⟩ = some (.int .u32 (tn H0.g)) := hG.first 6 (by decide)
  have c7 : w.cell? ⟨0, 7, none⟩ = some (.int .u32 (tn H0.h)) := hG.first 7 (by decide)
  have hz := zero40
  go_enter Tryd.func12, Tryd.ntmps12
  go_wp2
  go_ret
  exact ⟨rfl, rfl⟩
theorem HS.size_cells (x : HS) (hb : x.b.length = 64) : x.cells.size = 74 := by
  simp [HS.cells, St.words, hb]
theorem HS.one_cells (x : HS) : x.cells.all (·.oneCell') = true := by
  rw [Array.all_eq_true_iff_forall_mem]
  intro v hv
  simp only [HS.cells, List.mem_toArray, List.mem_append, List.mem_cons, List.mem_map, List.not_mem_nil, or_false] at hv
  rcases hv with (rfl | ⟨a, _, rfl⟩) | ⟨a, _, rfl⟩ | rfl <;> rfl
theorem HS.made (x : HS) : x.cells[0]? = some (.bool true) := rfl
theorem HS.word (x : HS) (i : Nat) (h : i < 8) : x.cells[1 + i]? = some (.int .u32 (tn (x.s.words.getD i 0))) := by
  have hl : x.s.words.length = 8 := rfl
  unfold HS.cells
  rw [List.getElem?_toArray, List.getElem?_append_left (by simp [hl]; omega), Nat.add_comm 1 i, List.getElem?_cons_succ, List.getElem?_map, List.getD_eq_getElem?_getD, List.getElem?_eq_getElem (by omega)]
  rfl
theorem HS.byte (x : HS) (hb : x.b.length = 64) (i : Nat) (h : i < 64) : x.cells[9 + i]? = some (by8 (x.b.getD i 0)) := by
  have hl : (Value.bool true :: x.s.words.map u).length = 9 := rfl
  unfold HS.cells
  rw [List.getElem?_toArray, List.getElem?_append_right (by omega), hl, show 9 + i - 9 = i by omega, List.getElem?_append_left (by simp [hb]; omega), List.getElem?_map, List.getD_eq_getElem?_getD, List.getElem?_eq_getElem (by omega)]
  rfl
theorem HS.count (x : HS) (hb : x.b.length = 64) : x.cells[73]? = some (.int .i64 (x.m : Int)) := by
  have hl : (Value.bool true :: x.s.words.map u).length = 9 := rfl
  unfold HS.cells
  rw [List.getElem?_toArray, List.getElem?_append_right (by omega), hl, List.getElem?_append_right (by simp [hb])]
  simp [hb]

theorem clone_nil (w : World) : Calls Tryd.prog 15 #[.pointer none] w fun e w' => e = .returned (.pointer none) ∧ w' = w := by
  go_enter Tryd.func15, Tryd.ntmps15
  go_wp2
  go_ret
  exact ⟨rfl, rfl⟩
theorem clone_zero (w : World) (p : Nat) (h : w.cell? ⟨p, 0, none⟩ = some (.bool false)) : Calls Tryd.prog 15 #[.pointer (some ⟨p, 0, none⟩)] w fun e w' => e = .returned (.pointer none) ∧ w' = w := by
  go_enter Tryd.func15, Tryd.ntmps15
  go_wp2
  go_ret
  exact ⟨rfl, rfl⟩
theorem hash_alloc (w : World) (o : Obj) {p : Nat} {c : Array Value} {t : TypeId} (h : Blk w p c t) : Blk (w.alloc o) p c t := h.alloc o
theorem setRow_alloc_new (w : World) (c c' : Array Value) (t : TypeId) : (w.alloc (.cells c t)).setRow w.heap.size c' = w.alloc (.cells c' t) := by
  simp only [World.setRow, World.alloc]
  congr 1
  apply Array.ext_getElem?
  intro i
  rw [Array.getElem?_modify]
  by_cases h : w.heap.size = i
  · subst h; simp
  · have h' : ¬ i = w.heap.size := fun e => h e.symm
    simp [h, h', Array.getElem?_push]
set_option maxRecDepth 100000 in
theorem clone_any (w : World) (p : Nat) (x : HS) (hb : x.b.length = 64) (h : Blk w p x.cells 40) :
    Calls Tryd.prog 15 #[.pointer (some ⟨p, 0, none⟩)] w fun e w' => e = .returned (.pointer (some ⟨w.heap.size, 0, none⟩)) ∧ w' = w.alloc (.cells x.cells 40) := by
  have c0 : w.cell? ⟨p, 0, none⟩ = some (.bool true) := h.cell 0
  have hz := zero40
  have HI := Lib.hid (show (Tryd.prog.info? 40).map (·.size) = some x.cells.size by rw [x.size_cells hb]; kernel_rfl)
  have HS := x.size_cells hb
  have HS' := Lib.hid HS
  clear HS
  go_enter Tryd.func15, Tryd.ntmps15
  go_upto_region 3 with fail
  refine wp_region_lit ?_
  iterate 6 go_step
  refine wpList_load_row rfl 40 _ rfl p rfl 40 _ (0, 0) _ h Tryd.underlying40 rfl HI.out ?_
  iterate 3 go_step

  refine wpList_store_row rfl 40 _ _ rfl w.heap.size _ rfl rfl 40 _ (Blk.new _ _ _) HI.out ?hold x.one_cells ?_
  case hold => rw [HS'.out]; rfl
  rw [setRow_alloc_new]
  go_wp2
  go_ret
  exact ⟨rfl, rfl⟩
end Go.Proofs.YtdchgojnmfoffaaDoor.Sha
