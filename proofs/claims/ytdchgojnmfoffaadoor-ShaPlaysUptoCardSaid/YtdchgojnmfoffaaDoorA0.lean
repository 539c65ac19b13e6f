/-
  What an argument that is a byte or a digest looks like; and that its reading does not hang on the world.
-/
import Derived.Test.YtdchgojnmfoffaaDoorL0
import Derived.Test.YtdchgojnmfoffaaDoorT5
namespace Go.Proofs.YtdchgojnmfoffaaDoor.Sha
open Go Go.RowKit Go.ChangeShapes Go.WideShapes Go.ChangeAt

section
variable {H : Type} {enc : TypeId × Value → H} {w : World} {base : Nat} {sp : Nat → Bool} {held : Bool}
theorem cells22 : Tryd.prog.cellsOf 22 = 32 := by kernel_rfl
theorem cells5 : Tryd.prog.cellsOf 5 = 1 := by kernel_rfl
theorem byte_wf {n : Int} (h : (Lit.int .u8 n).wf = true) : 0 ≤ n ∧ n ≤ 255 := by
  simp [Lit.wf, IntKind.min, IntKind.max, IntKind.signed, IntKind.bits] at h
  omega
theorem byte_is {n : Int} (h : (Lit.int .u8 n).wf = true) : n = ((UInt8.ofNat n.toNat).toNat : Int) := by
  have := byte_wf h
  rw [UInt8.toNat_ofNat']; omega
theorem open_byte {r : Reach} {b0 : Nat} {v : Value} {d : DataW H} {ps : List MemPlace} (hval : Value.okWide Tryd.prog w r b0 5 v) (hd : DataW.Trod enc Tryd.prog w base sp held 5 v d ps) : ∃ c : UInt8, v = .int .u8 (c.toNat : Int) := by
  obtain ⟨n, rfl, -, -, hw⟩ := open_int Tryd.underlying5 hval hd
  exact ⟨UInt8.ofNat n.toNat, by rw [← byte_is hw]⟩
theorem bCells_get (l : List UInt8) (i : Nat) : (bCells l)[i]? = (l.map by8)[i]? := by unfold bCells; rw [List.getElem?_toArray]
def byteOf : Option Value → UInt8
  | some (Value.int _ n) => UInt8.ofNat n.toNat
  | _ => 0
theorem open_digest {r : Reach} {b0 : Nat} {v : Value} {d : DataW H} {ps : List MemPlace} (hval : Value.okWide Tryd.prog w r b0 22 v) (hd : DataW.Trod enc Tryd.prog w base sp held 22 v d ps) : ∃ l : List UInt8, l.length = 32 ∧ v = .agg (bCells l) := by
  simp only [Value.okWide, Tryd.underlying22] at hval
  obtain ⟨cs, rfl, hsz, -⟩ := hval
  rw [cells22] at hsz
  obtain ⟨fuel, hf⟩ := hd
  obtain ⟨xs, m, rfl, -, hl, hxl, he⟩ := DataW.trod_array Tryd.underlying22 hf
  refine ⟨(List.range 32).map (fun i => byteOf cs[i]?), by simp, ?_⟩
  congr 1
  apply Array.ext_getElem?
  intro i
  by_cases hi : i < 32
  · have h1 := he i hi
    rw [List.getElem?_eq_getElem (by omega), cells5, Nat.mul_one] at h1
    have h2 : ((Value.agg cs).cells.toList.drop i).take 1 = [cs[i]] := by
      show (cs.toList.drop i).take 1 = _
      rw [List.drop_eq_getElem_cons (by simp; omega)]
      simp
    rw [h2] at h1
    obtain ⟨n, e1, -, hw⟩ := DataW.trod_int Tryd.underlying5 h1
    simp only [List.cons.injEq, and_true] at e1
    rw [bCells_get, List.getElem?_map, List.getElem?_map, List.getElem?_range hi, Option.map_some, Option.map_some, Array.getElem?_eq_getElem (by omega), e1]
    show some (Value.int .u8 n) = some (Value.int .u8 ((UInt8.ofNat n.toNat).toNat : Int))
    rw [← byte_is hw]
  · rw [bCells_get, Array.getElem?_eq_none (by omega), List.getElem?_eq_none (by simp; omega)]
theorem byte_trod (w' : World) (sp' : Nat → Bool) : ∀ (n : Nat) (cs : List Value), DataW.trod enc Tryd.prog w base sp held n 5 cs = DataW.trod enc Tryd.prog w' base sp' held n 5 cs
  | 0, cs => by simp [DataW.trod]
  | n + 1, cs => by
    rw [DataW.trod_step, DataW.trod_step]
    unfold DataW.trodStep
    simp only [Tryd.underlying5]
    rcases cs with _ | ⟨v, _ | ⟨v2, r⟩⟩
    · rfl
    · cases v <;> rfl
    · cases v <;> rfl
theorem digest_trod (w' : World) (sp' : Nat → Bool) : ∀ (n : Nat) (cs : List Value), DataW.trod enc Tryd.prog w base sp held n 22 cs = DataW.trod enc Tryd.prog w' base sp' held n 22 cs
  | 0, cs => by simp [DataW.trod]
  | n + 1, cs => by
    rw [DataW.trod_step, DataW.trod_step]
    unfold DataW.trodStep
    simp only [Tryd.underlying22, byte_trod (w := w) (sp := sp) w' sp' n]
theorem byte_world {v : Value} {d : DataW H} {ps : List MemPlace} (w' : World) (sp' : Nat → Bool) (h : DataW.Trod enc Tryd.prog w base sp held 5 v d ps) : DataW.Trod enc Tryd.prog w' base sp' held 5 v d [] := by
  obtain ⟨n, hn⟩ := h
  obtain ⟨_, _, hx, _⟩ := DataW.trod_int Tryd.underlying5 hn
  simp only [Prod.mk.injEq] at hx
  obtain ⟨_, rfl⟩ := hx
  exact ⟨n, by rw [← byte_trod (w := w) (sp := sp) w' sp' n]; exact hn⟩
theorem digest_world {v : Value} {d : DataW H} {ps : List MemPlace} (w' : World) (sp' : Nat → Bool) (h : DataW.Trod enc Tryd.prog w base sp held 22 v d ps) : DataW.Trod enc Tryd.prog w' base sp' held 22 v d [] := by
  obtain ⟨n, hn⟩ := h
  obtain ⟨xs, m, hf, hx, hl, hxl, he⟩ := DataW.trod_array Tryd.underlying22 hn
  have hp : ps = [] := by
    simp only [Prod.mk.injEq] at hx
    rw [hx.2, List.flatMap_eq_nil_iff]
    intro x hxm
    obtain ⟨i, hi, rfl⟩ := List.getElem_of_mem hxm
    have h1 := he i (by omega)
    rw [List.getElem?_eq_getElem hi] at h1
    obtain ⟨_, _, h2, _⟩ := DataW.trod_int Tryd.underlying5 h1
    rw [h2]
  subst hp
  exact ⟨n, by rw [← digest_trod (w := w) (sp := sp) w' sp' n]; exact hn⟩
end
end Go.Proofs.YtdchgojnmfoffaaDoor.Sha
