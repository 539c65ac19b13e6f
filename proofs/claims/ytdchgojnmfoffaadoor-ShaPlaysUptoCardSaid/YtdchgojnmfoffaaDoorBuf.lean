import Derived.Test.YtdchgojnmfoffaaDoorT6
import Derived.Test.YtdchgojnmfoffaaDoorR3
import Derived.ArgAppend
namespace Go.Proofs.YtdchgojnmfoffaaDoor.Sha
open Go Go.RowKit

/-- The slice of bytes v, of the call's own, reads as l, and may be written up to its capacity. -/
def Buf (w : World) (B : Nat) (v : Value) (l : List UInt8) : Prop :=
  ∃ g cap, v = .slice (some ⟨g, 0, none⟩) l.length cap ∧ B ≤ g ∧ g < w.heap.size ∧ l.length ≤ cap ∧ (∀ i, i < cap → (w.cell? ⟨g, i, none⟩).isSome = true) ∧ (∀ i, i < cap → w.frozen? ⟨g, i, none⟩ = false) ∧
    ∀ i, i < l.length → w.cell? ⟨g, i, none⟩ = some (by8 (l.getD i 0))

theorem below_setCells {B : Nat} {a : World} {g : Nat} (hg : B ≤ g) : ∀ (vs : List Value) (o : Nat) (w : World), Below B a w → Below B a (w.setCells g o vs)
  | [], _, _, h => h
  | v :: r, o, w, h => below_setCells hg r (o + 1) _ (h.setCell (by simpa using hg) v)
theorem size_setCells (g : Nat) : ∀ (vs : List Value) (o : Nat) (w : World), (w.setCells g o vs).heap.size = w.heap.size
  | [], _, _ => rfl
  | v :: r, o, w => by rw [World.setCells, size_setCells g r]; simp [World.setCell]
theorem heap_setCells (g k : Nat) (h : k ≠ g) : ∀ (vs : List Value) (o : Nat) (w : World), (w.setCells g o vs).heap[k]? = w.heap[k]?
  | [], _, _ => rfl
  | v :: r, o, w => by rw [World.setCells, heap_setCells g k h r, Below.heap_setCell _ _ _ _ h]

theorem bytes_one (t : List UInt8) : ∀ v ∈ t.map by8, v.oneCell' = true := by
  intro v hv
  obtain ⟨c, _, rfl⟩ := List.mem_map.1 hv
  rfl
theorem map_at (t : List UInt8) (j : Nat) (v : Value) (h : (t.map by8)[j]? = some v) : j < t.length ∧ v = by8 (t.getD j 0) := by
  rw [List.getElem?_map] at h
  by_cases hj : j < t.length
  · rw [List.getElem?_eq_getElem hj] at h
    refine ⟨hj, ?_⟩
    rw [List.getD_eq_getElem?_getD, List.getElem?_eq_getElem hj]
    simpa using h.symm
  · rw [List.getElem?_eq_none (by omega)] at h; cases h
theorem info5 : (Tryd.prog.info? 5).map (fun i => (i.zero, i.size, i.bytes)) = some (some (.int .u8 0), 1, 1) := by kernel_rfl

theorem buf_append (w : World) (B : Nat) (v : Value) (l : List UInt8) (h : Buf w B v l) (hB : B ≤ w.heap.size) (ty : TypeId) (b o m c : Nat) (t : List UInt8) (ht : t.length = m)
    (hnews : ∀ i, i < m → w.cell? ⟨b, o + i, none⟩ = some (by8 (t.getD i 0))) (hmax : l.length + m ≤ 140737488355328) :
    ∃ v' w', (Builtin.append_ #[31, 31] ty #[v, .slice (some ⟨b, o, none⟩) m c]).run Tryd.prog w = .ok v' w' ∧ Buf w' B v' (l ++ t) ∧ Below B w w' := by
  obtain ⟨g, cap, rfl, hg, hgs, hcap, hc, hf, hl⟩ := h
  obtain ⟨i, hi⟩ : ∃ i, Tryd.prog.info? 5 = some i := by
    have := info5
    cases hq : Tryd.prog.info? 5 with
    | none => rw [hq] at this; cases this
    | some i => exact ⟨i, rfl⟩
  have hinfo := info5
  rw [hi] at hinfo
  simp only [Option.map_some, Option.some.injEq, Prod.mk.injEq] at hinfo
  obtain ⟨hz, hsz, hby⟩ := hinfo
  have hn : ∀ j u, (t.map by8)[j]? = some u → w.cell? ((⟨b, o, none⟩ : Addr).add j) = some u := by
    intro j u hj
    obtain ⟨h1, rfl⟩ := map_at t j u hj
    have hadd : (⟨b, o, none⟩ : Addr).add j = ⟨b, o + j, none⟩ := by unfold Addr.add; split <;> simp_all
    rw [hadd]; exact hnews j (by omega)
  by_cases hroom : l.length + m ≤ cap
  · have hr := run_append_room_cells (P := Tryd.prog) w 31 ty 5 i Tryd.underlying31 hi g 0 l.length cap ⟨b, o, none⟩ m c (t.map by8) (by simp [ht, hsz]) hn (bytes_one t) hroom
      (fun j hj => by rw [hsz]; exact hc _ (by simp [ht] at hj; omega)) (fun j hj => by rw [hsz]; exact hf _ (by simp [ht] at hj; omega))
    rw [hsz, Nat.zero_add, Nat.mul_one] at hr
    refine ⟨_, _, hr, ⟨g, cap, by simp [ht], hg, by rw [size_setCells]; exact hgs, by simp [ht]; omega, fun k hk => ?_, fun k hk => by rw [World.frozen?_setCells]; exact hf k hk, fun k hk => ?_⟩, below_setCells hg _ _ _ (Below.refl _ _)⟩
    · by_cases hin : l.length ≤ k ∧ k < l.length + m
      · have := World.cell?_setCells_in g (t.map by8) l.length w (fun j hj => hc _ (by simp [ht] at hj; omega)) (k - l.length) (by simp [ht]; omega)
        rw [show l.length + (k - l.length) = k by omega] at this
        rw [this]; rfl
      · rw [World.cell?_setCells_out g (t.map by8) l.length w ⟨g, k, none⟩ (fun _ _ => by simp [ht]; omega)]
        exact hc k hk
    · rw [List.length_append] at hk
      by_cases hin : l.length ≤ k
      · have := World.cell?_setCells_in g (t.map by8) l.length w (fun j hj => hc _ (by simp [ht] at hj; omega)) (k - l.length) (by simp; omega)
        rw [show l.length + (k - l.length) = k by omega] at this
        rw [this]
        congr 1
        rw [List.getElem_map, List.getD_eq_getElem?_getD, List.getElem?_append_right hin, List.getElem?_eq_getElem (by omega)]; rfl
      · rw [World.cell?_setCells_out g (t.map by8) l.length w ⟨g, k, none⟩ (fun _ _ => by simp; omega), hl k (by omega)]
        congr 2
        rw [List.getD_eq_getElem?_getD, List.getD_eq_getElem?_getD, List.getElem?_append_left (by omega)]
  · have hold : ∀ j u, (l.map by8)[j]? = some u → w.cell? ((⟨g, 0, none⟩ : Addr).add j) = some u := by
      intro j u hj
      obtain ⟨h1, rfl⟩ := map_at l j u hj
      have hadd : (⟨g, 0, none⟩ : Addr).add j = ⟨g, j, none⟩ := by unfold Addr.add; split <;> simp_all
      rw [hadd]; exact hl j (by omega)
    have hfit : Builtin.nextslicecap (l.length + m) cap * i.bytes ≤ 281474976710656 := growslice_fits (by omega) (by rw [hby]; omega)
    have hr := run_append_grow (P := Tryd.prog) w 31 ty 5 i (.int .u8 0) Tryd.underlying31 hi hz ⟨g, 0, none⟩ l.length cap (l.map by8) (by simp [hsz]) hold ⟨b, o, none⟩ m c (t.map by8) (by simp [ht, hsz]) hn (by omega) (by omega) hfit
    refine ⟨_, _, hr, ?_, ?_⟩
    · have hge := grownCap_ge w (l.length + m) cap 5
      generalize grownCap w (l.length + m) cap 5 = gc at hge ⊢
      generalize hA : ((l.map by8).toArray ++ (t.map by8).toArray ++ Builtin.zeroCells (Value.int IntKind.u8 0).cells (gc - (l.length + m))) = A
      have hAs : A.size = gc := by
        rw [← hA]
        simp only [Array.size_append, List.size_toArray, List.length_map, size_zeroCells, Value.cells]
        simp [ht]; omega
      have hb : Blk (w.drew.alloc (.cells A 5)) w.heap.size A 5 := Blk.new w.drew A 5
      refine ⟨w.heap.size, gc, by simp [ht], hB, by simp, by simp [ht]; omega, fun k hk => ?_, fun k _ => hb.free k, fun k hk => ?_⟩
      · rw [hb.cell, Array.getElem?_eq_getElem (by omega)]; rfl
      · rw [hb.cell, ← hA]
        rw [List.length_append] at hk
        rw [Array.getElem?_append_left (by simp; omega)]
        rw [List.append_toArray, ← List.map_append]
        exact bCells_at (l ++ t) k (by rw [List.length_append]; exact hk)
    · exact (Below.refl _ _).drew.alloc hB _
theorem wpList_buf {ops : Array Oper} {rest : List Oper} {o : Oper} {a : Act} {w : World} {Q : Exit → Act → World → Prop} (hg : o.guard = none) (x y : Operand)
    (ho : o.op = .call { callee := .builtin .append, args := #[x, y], argTypes := #[31, 31] }) (B : Nat) (v : Value) (l : List UInt8) (hx : a.eval x = v) (h : Buf w B v l) (hB : B ≤ w.heap.size)
    (b off m c : Nat) (t : List UInt8) (hy : a.eval y = .slice (some ⟨b, off, none⟩) m c) (ht : t.length = m)
    (hnews : ∀ i, i < m → w.cell? ⟨b, off + i, none⟩ = some (by8 (t.getD i 0))) (hmax : l.length + m ≤ 140737488355328)
    (hn : ∀ v' w', Buf w' B v' (l ++ t) → Below B w w' → wpList Tryd.prog ops Q rest (a.put o.dst v') w') : wpList Tryd.prog ops Q (o :: rest) a w := by
  refine wpList_plain hg fun K hK => ?_
  obtain ⟨v', w', hr, h1, h2⟩ := buf_append w B v l h hB o.type b off m c t ht hnews hmax
  unfold Oper.wp
  simp [execOp, ho, resolve, invoke, builtin, hx, hy, hr, Result.andThen]
  exact hK _ _ (hn v' w' h1 h2)
theorem buf_bytes {w : World} (s : ByteArray) : Buf (Lib.bytesWorld w 5 s) w.heap.size (.slice (some ⟨w.heap.size, 0, none⟩) s.size (grownCap w s.size 0 5)) s.data.toList := by
  have hl : s.data.toList.length = s.size := Array.length_toList
  have hge := grownCap_ge w s.size 0 5
  have hcs : (Lib.bytesCells w 5 s).size = grownCap w s.size 0 5 := by
    simp only [Lib.bytesCells, Array.size_append, Array.size_map, Array.size_replicate]
    have : s.data.size = s.size := rfl
    omega
  refine ⟨w.heap.size, _, by rw [hl], Nat.le_refl _, by rw [Lib.bytesWorld_size]; omega, by rw [hl]; exact hge, fun i hi => ?_, fun i hi => ?_, fun i hi => ?_⟩
  · simp only [World.cell?, Lib.bytesWorld_at_new]
    rw [← hcs] at hi
    simp [hi]
  · simp only [World.frozen?, Lib.bytesWorld_at_new]
    rw [← hcs] at hi
    simp; omega
  · rw [Lib.bytesWorld_cell w 5 s i (by omega)]; rfl
end Go.Proofs.YtdchgojnmfoffaaDoor.Sha
