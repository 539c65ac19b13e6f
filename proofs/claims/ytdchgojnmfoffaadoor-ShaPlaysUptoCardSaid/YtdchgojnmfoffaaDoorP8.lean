/-
  What the script's argument looks like, where it is of bulk at most 1048576; and that it reads the same in a later world.
-/
import Derived.Test.YtdchgojnmfoffaaDoorC2
import Derived.Test.YtdchgojnmfoffaaDoorP7
import Derived.Test.YtdchgojnmfoffaaDoorRows
import Derived.Deep.Strs
namespace Go.Proofs.YtdchgojnmfoffaaDoor.Sha
open Go Go.RowKit Go.ChangeShapes Go.WideShapes Go.ChangeAt

theorem bulk_one {H : Type} (d : DataW H) : 1 ≤ Rows.uptoBulk d := by
  cases d with
  | lit l => cases l <;> simp [Rows.uptoBulk]
  | nil => simp [Rows.uptoBulk]
  | ptr d => simp [Rows.uptoBulk]
  | slice elems spare => simp [Rows.uptoBulk]
  | agg parts => simp [Rows.uptoBulk]
  | iface t d => simp [Rows.uptoBulk]
  | map entries => simp [Rows.uptoBulk]
  | held h => simp [Rows.uptoBulk]
theorem bulk_part {H : Type} {d : DataW H} {l : List (DataW H)} (h : d ∈ l) : Rows.uptoBulk d ≤ Rows.uptoBulkAll l := by
  induction l with
  | nil => cases h
  | cons x r ih =>
    simp only [Rows.uptoBulkAll]
    cases List.mem_cons.1 h with
    | inl e => subst e; omega
    | inr e => have := ih e; omega
theorem bulk_length {H : Type} (l : List (DataW H)) : l.length ≤ Rows.uptoBulkAll l := by
  induction l with
  | nil => simp [Rows.uptoBulkAll]
  | cons x r ih => have := bulk_one x; simp only [Rows.uptoBulkAll, List.length_cons]; omega

section
variable {H : Type} {enc : TypeId × Value → H} {w : World} {held : Bool}
theorem inp_upto {fuel : Nat} {v : Value} {d : DataW H} {ps : List MemPlace} (h : DataW.trod enc Tryd.prog w 0 (fun _ => true) held fuel 31 [v] = some (d, ps)) (hw : Rows.uptoBulk d ≤ 1048576) :
    ∃ l : List UInt8, Inp w v l ∧ l.length ≤ 1048576 := by
  rcases open_ints Tryd.underlying31 Tryd.underlying5 cells5 h with ⟨hc, -⟩ | ⟨a, len, cap, zs, hc, -, hl, -, hz, hx, hcell, hwf⟩
  · simp only [List.cons.injEq, and_true] at hc
    subst hc
    exact ⟨[], ⟨none, 0, rfl, Nat.le_refl _, fun h => by simp at h⟩, by simp⟩
  · simp only [List.cons.injEq, and_true] at hc
    subst hc
    simp only [if_true] at hz
    simp only [Prod.mk.injEq] at hx
    have hcap : len ≤ 1048576 := by
      rw [hx.1] at hw
      simp only [Rows.uptoBulk] at hw
      have := bulk_length (lits (H := H) .u8 (zs.take len))
      simp only [lits, List.length_map, List.length_take] at this hw
      omega
    have hll : ((zs.take len).map (fun n => UInt8.ofNat n.toNat)).length = len := by simp; omega
    refine ⟨(zs.take len).map (fun n => UInt8.ofNat n.toNat), ⟨some a, cap, by rw [hll], by rw [hll]; exact hl, fun h0 => ?_⟩, by rw [hll]; omega⟩
    rw [hll] at h0
    obtain ⟨b, o, s⟩ := a
    have hc0 := hcell 0 (by omega)
    obtain rfl : s = none := by simpa [Addr.add] using World.cell?_spot hc0
    rw [Addr.add_mid] at hc0
    refine ⟨b, o, rfl, World.block_lt_of_cell? w ⟨b, o + 0, none⟩ hc0, fun i hi => ?_⟩
    rw [hll] at hi
    have hc := hcell i (by omega)
    rw [Addr.add_mid] at hc
    rw [hc]
    congr 1
    have hzi : zs.getD i 0 = zs[i]'(by omega) := by rw [List.getD_eq_getElem?_getD, List.getElem?_eq_getElem (by omega)]; rfl
    have hb := byte_is (hwf (zs[i]'(by omega)) (List.getElem_mem _))
    have hg : ((zs.take len).map (fun n => UInt8.ofNat n.toNat)).getD i 0 = UInt8.ofNat (zs[i]'(by omega)).toNat := by
      rw [List.getD_eq_getElem?_getD, List.getElem?_map, List.getElem?_take, if_pos hi, List.getElem?_eq_getElem (by omega)]; rfl
    rw [hg, hzi]
    show Value.int .u8 _ = Value.int .u8 _
    rw [← hb]

theorem cells33 : Tryd.prog.cellsOf 33 = 3 := by kernel_rfl
theorem cells3 : Tryd.prog.cellsOf 3 = 1 := by kernel_rfl
theorem three_cells {base : Nat} {a : Addr} {cs : List Value} (h : w.cells? base a 3 = some cs) : ∃ x y z, cs = [x, y, z] ∧ w.cell? a = some x ∧ w.cell? (a.add 1) = some y ∧ w.cell? (a.add 2) = some z := by
  unfold World.cells? at h
  have e0 : a.add 0 = a := by simp [Addr.add]
  split at h
  · simp only [List.range_succ, List.range_zero, List.nil_append, List.cons_append, List.mapM_cons, List.mapM_nil, e0] at h
    cases h0 : w.cell? a with
    | none => simp [h0] at h
    | some x =>
      cases h1 : w.cell? (a.add 1) with
      | none => simp [h0, h1] at h
      | some y =>
        cases h2 : w.cell? (a.add 2) with
        | none => simp [h0, h1, h2] at h
        | some z =>
          simp [h0, h1, h2] at h
          exact ⟨x, y, z, h.symm, rfl, rfl, rfl⟩
  · cases h
theorem script_of {fuel : Nat} {v : Value} {d : DataW H} {ps : List MemPlace} (h : DataW.trod enc Tryd.prog w 0 (fun _ => true) held fuel 25 [v] = some (d, ps)) (hw : Rows.uptoBulk d ≤ 1048576) :
    ∃ (sp : Option Addr) (n cap : Nat), v = .slice sp n cap ∧ Script w sp n ∧ n ≤ cap ∧ cap ≤ 9223372036854775807 := by
  rcases DataW.trod_slice Tryd.underlying25 h with ⟨hc, -⟩ | ⟨a, len, cap, elems, rest, m, -, hc, hx, -, hl, hm, hlen, hel, -, -⟩
  · simp only [List.cons.injEq, and_true] at hc
    subst hc
    exact ⟨none, 0, 0, rfl, fun h => by omega, Nat.le_refl _, by omega⟩
  · simp only [List.cons.injEq, and_true] at hc
    subst hc
    simp only [Prod.mk.injEq] at hx
    rw [hx.1] at hw
    simp only [Rows.uptoBulk] at hw
    refine ⟨some a, len, cap, rfl, fun h0 => ?_, hl, hm⟩
    have key : ∀ i, i < len → ∃ (kd on : Int) (v : Value) (l : List UInt8), w.cell? (a.add (i * 3)) = some (.int .i64 kd) ∧ w.cell? ((a.add (i * 3)).add 1) = some (.int .i64 on) ∧ w.cell? ((a.add (i * 3)).add 2) = some v ∧ Inp w v l ∧ l.length ≤ 1048576 := by
      intro i hi
      have h1 := hel i hi
      rw [cells33, List.getElem?_eq_getElem (by omega)] at h1
      simp only [Option.bind_eq_some_iff] at h1
      obtain ⟨c1, hc1, ht⟩ := h1
      obtain ⟨x, y, z, rfl, hx0, hy0, hz0⟩ := three_cells hc1
      have hbk : Rows.uptoBulk (elems[i]'(by omega)).1 ≤ 1048576 := by
        have := bulk_part (List.mem_map.2 ⟨_, List.getElem_mem (l := elems) (n := i) (by omega), rfl⟩ : (elems[i]'(by omega)).1 ∈ elems.map (·.1))
        omega
      obtain ⟨y0, y1, y2, n', he, -, t0, t1, t2⟩ := Go.Deep.trod_struct3 Tryd.underlying33 ht
      rw [he] at hbk
      simp only [Rows.uptoBulk, Rows.uptoBulkAll] at hbk
      dsimp only at t0 t1 t2
      simp only [cells3, cells31, List.drop_zero, List.drop_succ_cons, List.take_succ_cons, List.take_zero] at t0 t1 t2
      obtain ⟨kd, e0, -, -⟩ := DataW.trod_int Tryd.underlying3 t0
      obtain ⟨on, e1, -, -⟩ := DataW.trod_int Tryd.underlying3 t1
      simp only [List.cons.injEq, and_true] at e0 e1
      subst e0 e1
      obtain ⟨l, hI, hll⟩ := inp_upto (d := y2.1) (ps := y2.2) t2 (by omega)
      exact ⟨kd, on, z, l, hx0, hy0, hz0, hI, hll⟩
    obtain ⟨_, _, _, _, hc0, _⟩ := key 0 h0
    obtain ⟨b, o, s⟩ := a
    obtain rfl : s = none := by simpa [Addr.add] using World.cell?_spot hc0
    rw [Addr.add_mid] at hc0
    refine ⟨b, o, rfl, World.block_lt_of_cell? w ⟨b, o + 0 * 3, none⟩ hc0, fun i hi => ?_⟩
    obtain ⟨kd, on, v, l, q0, q1, q2, hI, hll⟩ := key i hi
    rw [Addr.add_mid] at q0 q1 q2
    rw [Addr.add_mid] at q1 q2
    exact ⟨kd, on, v, l, q0, q1, q2, hI, hll⟩

def TS (t : TypeId) : Prop := t = 25 ∨ t = 33 ∨ t = 3 ∨ t = 31 ∨ t = 5
theorem kidsS : Kids Tryd.prog TS where
  pointer := by rintro t e (rfl | rfl | rfl | rfl | rfl) h <;> simp [Tryd.underlying25, Tryd.underlying33, Tryd.underlying3, Tryd.underlying31, Tryd.underlying5] at h
  slice := by
    rintro t e (rfl | rfl | rfl | rfl | rfl) h <;> simp [Tryd.underlying25, Tryd.underlying33, Tryd.underlying3, Tryd.underlying31, Tryd.underlying5] at h
    · exact .inr (.inl h.symm)
    · exact .inr (.inr (.inr (.inr h.symm)))
  array := by rintro t e n (rfl | rfl | rfl | rfl | rfl) h <;> simp [Tryd.underlying25, Tryd.underlying33, Tryd.underlying3, Tryd.underlying31, Tryd.underlying5] at h
  struct := by
    rintro t fs (rfl | rfl | rfl | rfl | rfl) h <;> simp [Tryd.underlying25, Tryd.underlying33, Tryd.underlying3, Tryd.underlying31, Tryd.underlying5] at h
    subst h
    refine ⟨fun f hf => ?_, by kernel_rfl, fun j f hf => ?_⟩
    · simp only [List.mem_cons, List.not_mem_nil, or_false] at hf
      rcases hf with rfl | rfl | rfl
      · exact .inr (.inr (.inl rfl))
      · exact .inr (.inr (.inl rfl))
      · exact .inr (.inr (.inr (.inl rfl)))
    · match j with
      | 0 => simp at hf; subst hf; rfl
      | 1 => simp at hf; subst hf; simp [cells3]
      | 2 => simp at hf; subst hf; simp [cells3]
      | j + 3 => simp at hf
  map := by rintro t k e (rfl | rfl | rfl | rfl | rfl) h <;> simp [Tryd.underlying25, Tryd.underlying33, Tryd.underlying3, Tryd.underlying31, Tryd.underlying5] at h
theorem sizeS : ∀ t e, TS t → Tryd.prog.underlying t = some (.slice e) → 0 < Tryd.prog.cellsOf e := by
  rintro t e (rfl | rfl | rfl | rfl | rfl) h <;> simp [Tryd.underlying25, Tryd.underlying33, Tryd.underlying3, Tryd.underlying31, Tryd.underlying5] at h
  · subst h; rw [cells33]; omega
  · subst h; rw [cells5]; omega
theorem script_again {ts : List TypeId} {vs : List Value} {ds : List (DataW H)} {ps : List MemPlace} {w' : World} (hT : ∀ t ∈ ts, TS t) (h : DataW.TrodAll enc Tryd.prog w 0 (fun _ => true) true ts vs ds ps) (hb : Below w.heap.size w w') :
    DataW.TrodAll enc Tryd.prog w' 0 (fun b => decide (b < w.heap.size)) true ts vs ds ps := by
  have hlt := DataW.TrodAll.lt h
  refine trodAll_below (DataW.TrodAll.respare kidsS sizeS hT h (fun p hp => by simpa using hlt p hp)) (fun p hp => ?_)
  have hl := hlt p hp
  cases p with
  | cell b o => exact hb.cell (p := ⟨b, o, none⟩) hl
  | map b => exact hb.block b hl
end
end Go.Proofs.YtdchgojnmfoffaaDoor.Sha
