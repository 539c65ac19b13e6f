/-
  What an argument that is a slice of bytes, or of such slices, looks like; and that it reads the same in a later world.
-/
import Derived.Test.YtdchgojnmfoffaaDoorC1
import Derived.Test.YtdchgojnmfoffaaDoorA0
import Derived.SizedLaws
import Derived.ReadAgain
namespace Go.Proofs.YtdchgojnmfoffaaDoor.Sha
open Go Go.RowKit Go.ChangeShapes Go.WideShapes Go.ChangeAt

section
variable {H : Type} {enc : TypeId × Value → H} {w : World} {held : Bool}
theorem cells31 : Tryd.prog.cellsOf 31 = 1 := by kernel_rfl
theorem bytes5 : Tryd.prog.bytesOf 5 = 1 := by kernel_rfl
theorem weights_all {P : Program} {e : TypeId} : ∀ {ds : List (DataW H)} {d : DataW H}, d ∈ ds → ∀ n ∈ d.weights P e, n ∈ DataW.weightsAll P e ds
  | d0 :: ds, d, hd, n, hn => by
    simp only [DataW.weightsAll, List.mem_append]
    rcases List.mem_cons.1 hd with rfl | h
    · exact .inl hn
    · exact .inr (weights_all h n hn)
theorem inp_of {fuel : Nat} {v : Value} {d : DataW H} {ps : List MemPlace} (h : DataW.trod enc Tryd.prog w 0 (fun _ => true) held fuel 31 [v] = some (d, ps)) (hw : ∀ m ∈ d.weights Tryd.prog 31, m ≤ reachBytes) :
    ∃ l : List UInt8, Inp w v l ∧ l.length ≤ 140737488355328 := by
  rcases open_ints Tryd.underlying31 Tryd.underlying5 cells5 h with ⟨hc, -⟩ | ⟨a, len, cap, zs, hc, -, hl, -, hz, hx, hcell, hwf⟩
  · simp only [List.cons.injEq, and_true] at hc
    subst hc
    exact ⟨[], ⟨none, 0, rfl, Nat.le_refl _, fun h => by simp at h⟩, by simp⟩
  · simp only [List.cons.injEq, and_true] at hc
    subst hc
    simp only [if_true] at hz
    simp only [Prod.mk.injEq] at hx
    have hcap : cap ≤ reachBytes := by
      have := hw (((lits (H := H) .u8 (zs.take len)).length + (lits (H := H) .u8 (zs.drop len)).length) * Tryd.prog.bytesOf 5) (by rw [hx.1]; simp [DataW.weights, Tryd.underlying31])
      rw [bytes5, Nat.mul_one] at this
      simp only [lits, List.length_map, List.length_take, List.length_drop] at this
      omega
    have hr := reachBytes_lt
    have hll : ((zs.take len).map (fun n => UInt8.ofNat n.toNat)).length = len := by simp; omega
    refine ⟨(zs.take len).map (fun n => UInt8.ofNat n.toNat), ⟨some a, cap, by rw [hll], by rw [hll]; exact hl, fun h0 => ?_⟩, by rw [hll]; omega⟩
    rw [hll] at h0
    obtain ⟨b, o, s⟩ := a
    have hc0 := hcell 0 (by omega)
    obtain rfl : s = none := by simpa [Addr.add] using World.cell?_spot hc0
    rw [Addr.add_mid] at hc0
    refine ⟨b, o, rfl, World.block_lt_of_cell? w ⟨b, o + 0, none⟩ hc0, fun i hi => ?_⟩
    rw [hll] at hi
    have hc := hcell i (by omega)
    rw [Addr.add_mid] at hc
    rw [hc]
    congr 1
    have hzi : zs.getD i 0 = zs[i]'(by omega) := by rw [List.getD_eq_getElem?_getD, List.getElem?_eq_getElem (by omega)]; rfl
    have hb := byte_is (hwf (zs[i]'(by omega)) (List.getElem_mem _))
    have hg : ((zs.take len).map (fun n => UInt8.ofNat n.toNat)).getD i 0 = UInt8.ofNat (zs[i]'(by omega)).toNat := by
      rw [List.getD_eq_getElem?_getD, List.getElem?_map, List.getElem?_take, if_pos hi, List.getElem?_eq_getElem (by omega)]; rfl
    rw [hg, hzi]
    show Value.int .u8 _ = Value.int .u8 _
    rw [← hb]
theorem cuts_of {fuel : Nat} {v : Value} {d : DataW H} {ps : List MemPlace} (h : DataW.trod enc Tryd.prog w 0 (fun _ => true) held fuel 43 [v] = some (d, ps)) (hw : ∀ m ∈ d.weights Tryd.prog 43, m ≤ reachBytes) :
    ∃ (sp : Option Addr) (n cap : Nat) (L : List (List UInt8)), v = .slice sp n cap ∧ Cuts w sp n L ∧ n ≤ cap ∧ cap ≤ 9223372036854775807 := by
  rcases DataW.trod_slice Tryd.underlying43 h with ⟨hc, -⟩ | ⟨a, len, cap, elems, rest, m, -, hc, hx, -, hl, hm, hlen, hel, -, -⟩
  · simp only [List.cons.injEq, and_true] at hc
    subst hc
    exact ⟨none, 0, 0, [], rfl, ⟨rfl, fun l hl => by simp at hl, fun h => by omega⟩, Nat.le_refl _, by omega⟩
  · simp only [List.cons.injEq, and_true] at hc
    subst hc
    simp only [Prod.mk.injEq] at hx
    have key : ∀ i, ∃ l : List UInt8, i < len → l.length ≤ 140737488355328 ∧ ∃ u, w.cell? (a.add i) = some u ∧ Inp w u l := by
      intro i
      by_cases hi : i < len
      · have h1 := hel i hi
        rw [cells31, Nat.mul_one, List.getElem?_eq_getElem (by omega)] at h1
        simp only [Option.bind_eq_some_iff] at h1
        obtain ⟨c1, hc1, ht⟩ := h1
        have e0 : (a.add i).add 0 = a.add i := by simp [Addr.add]
        have : ∃ c, c1 = [c] ∧ w.cell? (a.add i) = some c := by
          unfold World.cells? at hc1
          split at hc1
          · simp only [List.range_succ, List.range_zero, List.nil_append, List.mapM_cons, List.mapM_nil, e0] at hc1
            cases hcc : w.cell? (a.add i) with
            | none => simp [hcc] at hc1
            | some c => simp [hcc] at hc1; exact ⟨c, hc1.symm, rfl⟩
          · cases hc1
        obtain ⟨c, rfl, hcell⟩ := this
        obtain ⟨l, h2, h3⟩ := inp_of (d := (elems[i]'(by omega)).1) (ps := (elems[i]'(by omega)).2) ht (fun q hq => hw q (by
          rw [hx.1]
          simp only [DataW.weights, Tryd.underlying43, List.mem_cons, List.mem_append]
          exact .inr (.inl (weights_all (List.mem_map.2 ⟨_, List.getElem_mem _, rfl⟩) q hq))))
        exact ⟨l, fun _ => ⟨h3, c, hcell, h2⟩⟩
      · exact ⟨[], fun h => absurd h hi⟩
    obtain ⟨f, hf⟩ := Classical.axiomOfChoice key
    refine ⟨some a, len, cap, (List.range len).map f, rfl, ⟨by simp, fun l hl => ?_, fun h0 => ?_⟩, hl, by have : maxLen = 9223372036854775807 := rfl; omega⟩
    · obtain ⟨i, hi, rfl⟩ := List.mem_map.1 hl
      exact (hf i (List.mem_range.1 hi)).1
    · obtain ⟨_, u0, hu0, _⟩ := hf 0 h0
      obtain ⟨b, o, s⟩ := a
      obtain rfl : s = none := by simpa [Addr.add] using World.cell?_spot hu0
      rw [Addr.add_mid] at hu0
      refine ⟨b, o, rfl, World.block_lt_of_cell? w ⟨b, o + 0, none⟩ hu0, fun i hi => ?_⟩
      obtain ⟨_, u, hu, hI⟩ := hf i hi
      rw [Addr.add_mid] at hu
      refine ⟨u, hu, ?_⟩
      rw [List.getD_eq_getElem?_getD, List.getElem?_map, List.getElem?_range hi]
      exact hI

def TB (t : TypeId) : Prop := t = 43 ∨ t = 31 ∨ t = 5
theorem kidsB : Kids Tryd.prog TB where
  pointer := by rintro t e (rfl | rfl | rfl) h <;> simp [Tryd.underlying43, Tryd.underlying31, Tryd.underlying5] at h
  slice := by
    rintro t e (rfl | rfl | rfl) h <;> simp [Tryd.underlying43, Tryd.underlying31, Tryd.underlying5] at h
    · exact .inr (.inl h.symm)
    · exact .inr (.inr h.symm)
  array := by rintro t e n (rfl | rfl | rfl) h <;> simp [Tryd.underlying43, Tryd.underlying31, Tryd.underlying5] at h
  struct := by rintro t fs (rfl | rfl | rfl) h <;> simp [Tryd.underlying43, Tryd.underlying31, Tryd.underlying5] at h
  map := by rintro t k e (rfl | rfl | rfl) h <;> simp [Tryd.underlying43, Tryd.underlying31, Tryd.underlying5] at h
theorem sizeB : ∀ t e, TB t → Tryd.prog.underlying t = some (.slice e) → 0 < Tryd.prog.cellsOf e := by
  rintro t e (rfl | rfl | rfl) h <;> simp [Tryd.underlying43, Tryd.underlying31, Tryd.underlying5] at h
  · subst h; rw [cells31]; omega
  · subst h; rw [cells5]; omega
theorem trodAll_below {base : Nat} {sp : Nat → Bool} {w' : World} : ∀ {ts : List TypeId} {vs : List Value} {ds : List (DataW H)} {ps : List MemPlace}, DataW.TrodAll enc Tryd.prog w base sp held ts vs ds ps → (∀ p ∈ ps, w.sameAt w' p) → DataW.TrodAll enc Tryd.prog w' base sp held ts vs ds ps
  | [], [], [], _, h, _ => h
  | _ :: _, _ :: _, _ :: _, _, ⟨p, q, ⟨n, hn⟩, h2, e⟩, hs => ⟨p, q, ⟨n, DataW.trod_carry n _ _ _ hn (fun x hx => hs x (by rw [e]; exact List.mem_append_left _ hx))⟩, trodAll_below h2 (fun x hx => hs x (by rw [e]; exact List.mem_append_right _ hx)), e⟩
theorem args_again {ts : List TypeId} {vs : List Value} {ds : List (DataW H)} {ps : List MemPlace} {w' : World} (hT : ∀ t ∈ ts, TB t) (h : DataW.TrodAll enc Tryd.prog w 0 (fun _ => true) true ts vs ds ps) (hb : Below w.heap.size w w') :
    DataW.TrodAll enc Tryd.prog w' 0 (fun b => decide (b < w.heap.size)) true ts vs ds ps := by
  have hlt := DataW.TrodAll.lt h
  refine trodAll_below (DataW.TrodAll.respare kidsB sizeB hT h (fun p hp => by simpa using hlt p hp)) (fun p hp => ?_)
  have hl := hlt p hp
  cases p with
  | cell b o => exact hb.cell (p := ⟨b, o, none⟩) hl
  | map b => exact hb.block b hl
end
end Go.Proofs.YtdchgojnmfoffaaDoor.Sha
