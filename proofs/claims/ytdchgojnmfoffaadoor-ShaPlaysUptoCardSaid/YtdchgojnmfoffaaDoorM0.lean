/-
  The code of a message under a key, as plain lists; bytes of an array as a string; a string's bytes copied into an array.
-/
import Derived.Test.YtdchgojnmfoffaaDoorR5
import Derived.Laws.BytesArg
import Derived.Lib.LazyBuf
namespace Go.Proofs.YtdchgojnmfoffaaDoor.Sha
open Go Go.RowKit

def kk (k : List UInt8) : List UInt8 := if 64 < k.length then sum k else k
def kpad (k : List UInt8) : List UInt8 := kk k ++ List.replicate (64 - (kk k).length) 0
def xorL (c : UInt8) (l : List UInt8) : List UInt8 := l.map (· ^^^ c)
def xorT (c : UInt8) (l : List UInt8) (t : Nat) : List UInt8 := xorL c (l.take t) ++ l.drop t
def mac (k m : List UInt8) : List UInt8 := sum (xorL 92 (kpad k) ++ sum (xorL 54 (kpad k) ++ m))
theorem len_kk (k : List UInt8) : (kk k).length ≤ 64 := by
  unfold kk; split
  · rw [len_sum]; omega
  · omega
theorem len_kpad (k : List UInt8) : (kpad k).length = 64 := by have := len_kk k; simp [kpad]; omega
theorem len_xorL (c : UInt8) (l : List UInt8) : (xorL c l).length = l.length := by simp [xorL]
theorem len_xorT (c : UInt8) (l : List UInt8) (t : Nat) : (xorT c l t).length = l.length := by simp [xorT, xorL]; omega
theorem len_mac (k m : List UInt8) : (mac k m).length = 32 := len_sum _
theorem xorT_zero (c : UInt8) (l : List UInt8) : xorT c l 0 = l := by simp [xorT, xorL]
theorem xorT_all (c : UInt8) (l : List UInt8) (h : l.length = 64) : xorT c l 64 = xorL c l := by
  simp [xorT, xorL, List.take_of_length_le (Nat.le_of_eq h), List.drop_eq_nil_of_le (Nat.le_of_eq h)]
theorem xorT_get (c : UInt8) (l : List UInt8) (t : Nat) (h : t < l.length) : (xorT c l t).getD t 0 = l.getD t 0 := by
  have hl : (xorL c (l.take t)).length = t := by simp [xorL]; omega
  rw [List.getD_eq_getElem?_getD, List.getD_eq_getElem?_getD, xorT, List.getElem?_append_right (by omega), hl, Nat.sub_self, List.getElem?_drop, Nat.add_zero]
theorem xorT_set (c : UInt8) (l : List UInt8) (t : Nat) (h : t < l.length) : (xorT c l t).set t (l.getD t 0 ^^^ c) = xorT c l (t + 1) := by
  have hl : (xorL c (l.take t)).length = t := by simp [xorL]; omega
  have e1 : l[t]? = some (l.getD t 0) := by rw [List.getD_eq_getElem?_getD, List.getElem?_eq_getElem h]; rfl
  have e2 : l.drop t = l.getD t 0 :: l.drop (t + 1) := by
    rw [List.drop_eq_getElem_cons h, List.getD_eq_getElem?_getD, List.getElem?_eq_getElem h]; rfl
  unfold xorT
  rw [List.set_append, if_neg (by omega), hl, Nat.sub_self, e2, List.set_cons_zero, List.take_add_one, e1]
  simp [xorL]

theorem wrap8n (x : BitVec 8) : IntKind.u8.wrap (x.toNat : Int) = (x.toNat : Int) := by
  have := x.isLt
  rw [IntKind.wrap_u8]; omega
theorem xor8 (x c : UInt8) : bits .xor .u8 (x.toNat : Int) (c.toNat : Int) = ((x ^^^ c).toNat : Int) := by
  have e := UInt8.toNat_xor x c
  rw [e]
  have h1 := x.toNat_lt; have h2 := c.toNat_lt
  have h3 : x.toNat ^^^ c.toNat < 2 ^ 8 := Nat.xor_lt_two_pow h1 h2
  have : bits .xor .u8 (x.toNat : Int) (c.toNat : Int) = IntKind.u8.wrap (((BitVec.ofInt 8 (x.toNat : Int)) ^^^ (BitVec.ofInt 8 (c.toNat : Int)) : BitVec 8).toNat : Int) := by
    simp only [bits, IntKind.bits]; rfl
  rw [this]
  have e1 : (BitVec.ofInt 8 (x.toNat : Int)) = x.toBitVec := by
    apply BitVec.eq_of_toNat_eq; simp
  have e2 : (BitVec.ofInt 8 (c.toNat : Int)) = c.toBitVec := by
    apply BitVec.eq_of_toNat_eq; simp
  rw [e1, e2, wrap8n, BitVec.toNat_xor]; rfl
theorem xor54 (x : UInt8) : bits .xor .u8 (x.toNat : Int) 54 = ((x ^^^ 54).toNat : Int) := xor8 x 54
theorem xor92 (x : UInt8) : bits .xor .u8 (x.toNat : Int) 92 = ((x ^^^ 92).toNat : Int) := xor8 x 92

/-- Bytes as a string. -/
def strL (l : List UInt8) : ByteArray := ⟨l.toArray⟩
theorem strL_list (l : List UInt8) : (strL l).data.toList = l := rfl
theorem strL_size (l : List UInt8) : (strL l).size = l.length := by simp [strL, ByteArray.size]
theorem strOf_bytes (l : List UInt8) : strOfNums (l.map fun c => (c.toNat : Int)) = strL l := by
  unfold strOfNums strL
  congr 2
  rw [List.map_map]
  conv => rhs; rw [← List.map_id l]
  apply List.map_congr_left
  intro a _
  simp
theorem conv_bytes (w : World) (b off n cap : Nat) (l : List UInt8) (hn : l.length = n) (hc : ∀ i, i < n → w.cell? ⟨b, off + i, none⟩ = some (by8 (l.getD i 0))) :
    (convert 31 9 (.slice (some ⟨b, off, none⟩) n cap)).run Tryd.prog w = .ok (.string (strL l)) w := by
  rw [← strOf_bytes]
  refine run_convert_bytes_arg (P := Tryd.prog) w 31 5 Tryd.underlying31 Tryd.underlying5 b off n cap _ (by simp [hn]) (fun i hi => ?_) 9 Tryd.underlying9
  rw [hc i hi]
  rw [List.getD_eq_getElem?_getD, List.getD_eq_getElem?_getD, List.getElem?_map, List.getElem?_eq_getElem (by omega)]
  rfl
theorem blk_bytes {w : World} {b : Nat} {l : List UInt8} {t : TypeId} (h : Blk w b (bCells l) t) : ∀ i, i < l.length → w.cell? ⟨b, 0 + i, none⟩ = some (by8 (l.getD i 0)) := fun i hi => by
  rw [Nat.zero_add, h.cell]; exact bCells_at _ _ hi

theorem src_blk {w : World} {k p : Nat} {l : List UInt8} {t : TypeId} {n c : Nat} (h : Blk w k (bCells l) t) (hp : k ≠ p) (hn : n = l.length) (hc : n ≤ c) : Src w p (.slice (some ⟨k, 0, none⟩) n c) l :=
  ⟨_, c, by rw [hn], by omega, fun _ => ⟨k, 0, rfl, hp, h.lt, blk_bytes h⟩⟩

set_option maxRecDepth 100000 in
theorem text_any (w : World) (l : List UInt8) (h : l.length = 32) :
    Calls Tryd.prog 24 #[.agg (bCells l)] w fun e w' => e = .returned (.string (strL l)) ∧ Below w.heap.size w w' := by
  go_enter Tryd.func24, Tryd.ntmps24
  have hk := Blk.new w (bCells l) 22
  have hb : Below w.heap.size w (w.alloc (.cells (bCells l) 22)) := (Below.refl _ _).alloc (Nat.le_refl _) _
  have hs := conv_bytes (w.alloc (.cells (bCells l) 22)) w.heap.size 0 32 32 l h (by rw [← h]; exact blk_bytes hk)
  go_wp2
  go_ret
  exact ⟨rfl, hb⟩
set_option maxRecDepth 100000 in
theorem rtext_any (w : World) (l : List UInt8) (h : l.length = 32) :
    Calls Tryd.prog 31 #[.agg (bCells l)] w fun e w' => e = .returned (.string (strL l)) ∧ Below w.heap.size w w' := by
  go_enter Tryd.func31, Tryd.ntmps31
  have hk := Blk.new w (bCells l) 22
  have hb : Below w.heap.size w (w.alloc (.cells (bCells l) 22)) := (Below.refl _ _).alloc (Nat.le_refl _) _
  have hs := conv_bytes (w.alloc (.cells (bCells l) 22)) w.heap.size 0 32 32 l h (by rw [← h]; exact blk_bytes hk)
  go_wp2
  go_ret
  exact ⟨rfl, hb⟩

/-- A string's bytes copied to the front of a row that is known whole. -/
theorem setCells_row {g : Nat} {t : TypeId} : ∀ (vs : List Value) (o : Nat) (w : World) (c : List Value), Blk w g c.toArray t → o + vs.length ≤ c.length → w.setCells g o vs = w.setRow g (splice c o vs).toArray
  | [], o, w, c, h, _ => by
    have : splice c o [] = c := by simp [splice]
    rw [this]
    show w = _
    unfold Blk at h
    cases w
    simp only [World.setRow] at *
    congr 1
    apply Array.ext_getElem?
    intro i
    rw [Array.getElem?_modify]
    by_cases hi : g = i
    · subst hi; rw [h]; simp
    · simp [hi]
  | v :: r, o, w, c, h, hl => by
    have h1 : Blk (w.setCell ⟨g, o, none⟩ v) g (c.set o v).toArray t := by
      have := h.set o v
      rwa [List.setIfInBounds_toArray] at this
    rw [World.setCells, setCells_row r (o + 1) _ (c.set o v) h1 (by simp at hl ⊢; omega), setCell_eq_setRow w g o _ t (0, 0) v h]
    have e : splice (c.set o v) (o + 1) r = splice c o (v :: r) := by
      simp only [List.length_cons] at hl
      unfold splice
      rw [List.take_add_one, List.take_set_of_le (Nat.le_refl _), List.getElem?_set_self (by omega), List.drop_set_of_lt (by omega)]
      simp [Nat.add_assoc, Nat.add_comm 1]
    rw [e]
    simp only [World.setRow]
    congr 1
    apply Array.ext_getElem?
    intro i
    rw [Array.getElem?_modify, Array.getElem?_modify, Array.getElem?_modify]
    by_cases hi : g = i
    · subst hi; simp
      unfold Blk at h; rw [h]; simp
    · simp [hi]
theorem wpList_copy_str {w : World} {ops : Array Oper} {rest : List Oper} {o : Oper} {a : Act} {Q : Exit → Act → World → Prop} (hgd : o.guard = none) (d s : Operand)
    (ho : o.op = .call { callee := .builtin .copy, args := #[d, s], argTypes := #[31, 9] }) 
    (g dLen dCap : Nat) (t : ByteArray) (hd : a.eval d = .slice (some ⟨g, 0, none⟩) dLen dCap) (hs : a.eval s = .string t) (l : List UInt8) (ty : TypeId) (hg : Blk w g (bCells l) ty) (hle : t.size ≤ dLen) (hfit : t.size ≤ l.length)
    (h : wpList Tryd.prog ops Q rest (a.put o.dst (goInt t.size)) (w.setRow g (bCells (splice l 0 t.data.toList)))) : wpList Tryd.prog ops Q (o :: rest) a w := by
  refine wpList_plain hgd fun K hK => ?_
  have hl : t.data.toList.length = t.size := Array.length_toList
  have hrun := run_copy_string (P := Tryd.prog) w 31 9 o.type 5 g 0 dLen dCap t Tryd.underlying31 (fun w => by kernel_rfl) hle
    (fun j hj => by rw [Nat.zero_add, hg.cell, bCells_at _ _ (by omega)]; rfl) (fun j _ => hg.free _)
  have e := setCells_row (t.data.toList.map by8) 0 w (l.map by8) hg (by simp; omega)
  have e2 : (splice (l.map by8) 0 (t.data.toList.map by8)).toArray = bCells (splice l 0 t.data.toList) := by simp [splice, bCells]
  rw [e2] at e
  have e' : w.setCells g 0 (t.data.toList.map fun x => Value.int .u8 (x.toNat : Int)) = w.setRow g (bCells (splice l 0 t.data.toList)) := e
  rw [e'] at hrun
  unfold Oper.wp
  simp [execOp, ho, resolve, invoke, builtin, hd, hs, hrun, Result.andThen]
  exact hK _ _ h
end Go.Proofs.YtdchgojnmfoffaaDoor.Sha
