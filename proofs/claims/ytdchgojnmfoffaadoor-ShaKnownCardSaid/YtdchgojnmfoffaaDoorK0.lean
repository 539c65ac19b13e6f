/-
  A digest in hexadecimal digits; the published answers.
-/
import Derived.Test.YtdchgojnmfoffaaDoorM1
import Derived.Test.YtdchgojnmfoffaaDoorBuf
import Derived.Deep.RegionHeld3
namespace Go.Proofs.YtdchgojnmfoffaaDoor.Sha
open Go Go.RowKit

def digits : List UInt8 := [48, 49, 50, 51, 52, 53, 54, 55, 56, 57, 97, 98, 99, 100, 101, 102]
def hexB (c : UInt8) : List UInt8 := [digits.getD (c.toNat / 16) 0, digits.getD (c.toNat % 16) 0]
def hexL (l : List UInt8) : List UInt8 := l.flatMap hexB
theorem len_hexL (l : List UInt8) : (hexL l).length = 2 * l.length := by
  induction l with
  | nil => rfl
  | cons a l ih => 
    have : hexL (a :: l) = hexB a ++ hexL l := rfl
    rw [this, List.length_append, ih]; simp [hexB]; omega
theorem hexL_take (l : List UInt8) (t : Nat) (h : t < l.length) : hexL (l.take (t + 1)) = hexL (l.take t) ++ hexB (l.getD t 0) := by
  have e1 : l[t]? = some (l.getD t 0) := by rw [List.getD_eq_getElem?_getD, List.getElem?_eq_getElem h]; rfl
  unfold hexL
  rw [List.take_add_one, List.flatMap_append, e1]; simp

/-- A buffer, or nil. -/
def NBuf (w : World) (B : Nat) (v : Value) (l : List UInt8) : Prop := (v = .slice none 0 0 ∧ l = []) ∨ Buf w B v l
theorem Buf.below2 {w w' : World} {B : Nat} {v : Value} {l : List UInt8} (h : Buf w B v l) (hb : Below w.heap.size w w') : Buf w' B v l := by
  obtain ⟨g, cap, hv, hg, hgs, hcap, hc, hf, hl⟩ := h
  refine ⟨g, cap, hv, hg, by have := hb.size; omega, hcap, fun i hi => ?_, fun i hi => ?_, fun i hi => ?_⟩
  · rw [hb.cell (p := ⟨g, i, none⟩) hgs]; exact hc i hi
  · rw [hb.frozen (p := ⟨g, i, none⟩) hgs]; exact hf i hi
  · rw [hb.cell (p := ⟨g, i, none⟩) hgs]; exact hl i hi
theorem NBuf.below {w w' : World} {B : Nat} {v : Value} {l : List UInt8} (h : NBuf w B v l) (hb : Below w.heap.size w w') : NBuf w' B v l :=
  h.imp id (fun h => h.below2 hb)
theorem nbuf_append (w : World) (B : Nat) (v : Value) (l : List UInt8) (h : NBuf w B v l) (hB : B ≤ w.heap.size) (ty : TypeId) (b o m c : Nat) (t : List UInt8) (ht : t.length = m) (h0 : 0 < m)
    (hnews : ∀ i, i < m → w.cell? ⟨b, o + i, none⟩ = some (by8 (t.getD i 0))) (hmax : l.length + m ≤ 140737488355328) :
    ∃ v' w', (Builtin.append_ #[31, 31] ty #[v, .slice (some ⟨b, o, none⟩) m c]).run Tryd.prog w = .ok v' w' ∧ NBuf w' B v' (l ++ t) ∧ Below B w w' := by
  rcases h with ⟨rfl, rfl⟩ | h
  · obtain ⟨i, hi⟩ : ∃ i, Tryd.prog.info? 5 = some i := by
      have := info5
      cases hq : Tryd.prog.info? 5 with
      | none => rw [hq] at this; cases this
      | some i => exact ⟨i, rfl⟩
    have hinfo := info5
    rw [hi] at hinfo
    simp only [Option.map_some, Option.some.injEq, Prod.mk.injEq] at hinfo
    obtain ⟨hz, hsz, hby⟩ := hinfo
    have hn : ∀ j u, (t.map by8)[j]? = some u → w.cell? ((⟨b, o, none⟩ : Addr).add j) = some u := by
      intro j u hj
      obtain ⟨h1, rfl⟩ := map_at t j u hj
      have hadd : (⟨b, o, none⟩ : Addr).add j = ⟨b, o + j, none⟩ := by unfold Addr.add; split <;> simp_all
      rw [hadd]; exact hnews j (by omega)
    simp only [List.length_nil, Nat.zero_add] at hmax
    have hr := run_append_nil (P := Tryd.prog) w 31 ty 5 i (.int .u8 0) Tryd.underlying31 hi hz ⟨b, o, none⟩ m c (t.map by8) (by simp [ht, hsz]) hn h0 (by omega) (by rw [hby]; omega)
    refine ⟨_, _, hr, .inr ?_, (Below.refl _ _).drew.alloc hB _⟩
    have hge := grownCap_ge w m 0 5
    generalize grownCap w m 0 5 = gc at hge ⊢
    generalize hA : ((t.map by8).toArray ++ Builtin.zeroCells (Value.int IntKind.u8 0).cells (gc - m)) = A
    have hAs : A.size = gc := by
      rw [← hA]
      simp only [Array.size_append, List.size_toArray, List.length_map, size_zeroCells, Value.cells]
      simp [ht]; omega
    have hb : Blk (w.drew.alloc (.cells A 5)) w.heap.size A 5 := Blk.new w.drew A 5
    refine ⟨w.heap.size, gc, by simp [ht], hB, by simp, by simp [ht]; omega, fun k hk => ?_, fun k _ => hb.free k, fun k hk => ?_⟩
    · rw [hb.cell, Array.getElem?_eq_getElem (by omega)]; rfl
    · rw [hb.cell, ← hA]
      rw [List.nil_append] at hk ⊢
      rw [Array.getElem?_append_left (by simp; omega)]
      exact bCells_at t k hk
  · obtain ⟨v', w', h1, h2, h3⟩ := buf_append w B v l h hB ty b o m c t ht hnews hmax
    exact ⟨v', w', h1, .inr h2, h3⟩
theorem wpList_nbuf {ops : Array Oper} {rest : List Oper} {o : Oper} {a : Act} {w : World} {Q : Exit → Act → World → Prop} (hg : o.guard = none) (x y : Operand)
    (ho : o.op = .call { callee := .builtin .append, args := #[x, y], argTypes := #[31, 31] }) (B : Nat) (v : Value) (l : List UInt8) (hx : a.eval x = v) (h : NBuf w B v l) (hB : B ≤ w.heap.size)
    (b off m c : Nat) (t : List UInt8) (hy : a.eval y = .slice (some ⟨b, off, none⟩) m c) (ht : t.length = m) (h0 : 0 < m)
    (hnews : ∀ i, i < m → w.cell? ⟨b, off + i, none⟩ = some (by8 (t.getD i 0))) (hmax : l.length + m ≤ 140737488355328)
    (hn : ∀ v' w', NBuf w' B v' (l ++ t) → Below B w w' → wpList Tryd.prog ops Q rest (a.put o.dst v') w') : wpList Tryd.prog ops Q (o :: rest) a w := by
  refine wpList_plain hg fun K hK => ?_
  obtain ⟨v', w', hr, h1, h2⟩ := nbuf_append w B v l h hB o.type b off m c t ht h0 hnews hmax
  unfold Oper.wp
  simp [execOp, ho, resolve, invoke, builtin, hx, hy, hr, Result.andThen]
  exact hK _ _ (hn v' w' h1 h2)

theorem step_nbuf {ops : Array Oper} {o : Oper} {a : Act} {w : World} {K : Act → World → Prop} {Q : Exit → Act → World → Prop} {E : Prop} (hg : o.guard = none) (x y : Operand)
    (ho : o.op = .call { callee := .builtin .append, args := #[x, y], argTypes := #[31, 31] }) (B : Nat) (v : Value) (l : List UInt8) (hx : a.eval x = v) (h : NBuf w B v l) (hB : B ≤ w.heap.size)
    (b off m c : Nat) (t : List UInt8) (hy : a.eval y = .slice (some ⟨b, off, none⟩) m c) (ht : t.length = m) (h0 : 0 < m)
    (hnews : ∀ i, i < m → w.cell? ⟨b, off + i, none⟩ = some (by8 (t.getD i 0))) (hmax : l.length + m ≤ 140737488355328)
    (hn : ∀ v' w', Hid (NBuf w' B v' (l ++ t)) → Hid (Below B w w') → K (a.put o.dst v') w') : if Region.wanted o (yielded ops a.tmps) = true then Oper.wp Tryd.prog o a w K Q else E := by
  have hw : Region.wanted o (yielded ops a.tmps) = true := by simp [Region.wanted, hg]
  rw [if_pos hw]
  obtain ⟨v', w', hr, h1, h2⟩ := nbuf_append w B v l h hB o.type b off m c t ht h0 hnews hmax
  unfold Oper.wp
  simp [execOp, ho, resolve, invoke, builtin, hx, hy, hr, Result.andThen]
  exact hn v' w' h1 h2
def dig (q : Nat) : Int := ((digits.getD q 0).toNat : Int)
theorem run_dig (w : World) (q : Nat) (h : q < 16) : (Instr.index 9 (.string { data := #[48, 49, 50, 51, 52, 53, 54, 55, 56, 57, 97, 98, 99, 100, 101, 102] }) (.int .u8 (q : Int))).run Tryd.prog w = .ok (.int .u8 (dig q)) w := by
  rw [run_index_string w 9 _ .u8 (q : Int) Tryd.underlying9]
  have hs : (({ data := #[48, 49, 50, 51, 52, 53, 54, 55, 56, 57, 97, 98, 99, 100, 101, 102] } : ByteArray)).size = 16 := rfl
  rw [dif_pos ⟨by omega, by rw [hs]; omega⟩]
  congr 2
  have : ∀ q : Fin 16, ((({ data := #[48, 49, 50, 51, 52, 53, 54, 55, 56, 57, 97, 98, 99, 100, 101, 102] } : ByteArray)[q.val]'q.isLt).toNat : Int) = dig q.val := by decide +kernel
  exact this ⟨q, h⟩
attribute [local go_sem high] run_dig

set_option maxRecDepth 100000 in
set_option maxHeartbeats 400000 in
theorem hex_any (w : World) (l : List UInt8) (hl : l.length = 32) :
    Calls Tryd.prog 23 #[.agg (bCells l)] w fun e w' => e = .returned (.string (strL (hexL l))) ∧ Below w.heap.size w w' := by
  have HL := Lib.hid hl
  clear hl
  go_enter Tryd.func23, Tryd.ntmps23
  go_wp2
  go_loopw [3, 4] (fun v i wr => ∃ t : Nat, t ≤ 32 ∧ i = .int .i64 t ∧ NBuf wr (w.heap.size + 1) v (hexL (l.take t)) ∧ Blk wr w.heap.size (bCells l) 22 ∧ Below w.heap.size w wr ∧ w.heap.size + 1 ≤ wr.heap.size) (fun _ i _ => 32 - (intOf i).toNat)
  case atStart => exact ⟨0, by omega, rfl, .inl ⟨rfl, rfl⟩, Blk.new _ _ _, (Below.refl _ _).alloc (Nat.le_refl _) _, by simp⟩
  case round =>
    obtain ⟨t, ht, rfl, hv, hk, hb, hz⟩ := hrel
    by_cases h32 : t < 32
    · obtain ⟨c, hc⟩ : ∃ c, c = l.getD t 0 := ⟨_, rfl⟩
      have ct : wr.cell? ⟨w.heap.size, t, none⟩ = some (.int .u8 (c.toNat : Int)) := by
        rw [hk.cell, bCells_at _ _ (by rw [HL.out]; exact h32), hc]; rfl
      have HC := Lib.hid hc
      clear hc
      have hcl := c.toNat_lt
      obtain ⟨q, hq⟩ : ∃ q, q = c.toNat / 16 := ⟨_, rfl⟩
      obtain ⟨r, hr⟩ : ∃ r, r = c.toNat % 16 := ⟨_, rfl⟩
      have q1 : IntKind.u8.wrap ((c.toNat : Int).tdiv 16) = (q : Int) := by
        rw [Int.tdiv_eq_ediv_of_nonneg (by omega), hq, IntKind.wrap_u8]; omega
      have q2 : (c.toNat : Int).tmod 16 = (r : Int) := by rw [Int.tmod_eq_emod_of_nonneg (by omega), hr]; omega
      have q3 : IntKind.u8.wrap ((c.toNat : Int) / 16) = (q : Int) := by rw [hq, IntKind.wrap_u8]; omega
      have q4 : (c.toNat : Int) % 16 = (r : Int) := by rw [hr]; omega
      have q5 : (c.toNat : Int) / 16 = (q : Int) := by rw [hq]; omega
      have q6 : IntKind.u8.wrap (q : Int) = (q : Int) := by rw [IntKind.wrap_u8]; omega
      have p1 : (q : Int) < 16 := by omega
      have p2 : (r : Int) < 16 := by omega
      have p3 : q < 16 := by omega
      have p4 : r < 16 := by omega
      have HQ := Lib.hid hq
      have HR := Lib.hid hr
      clear hq hr
      go_wp2
      obtain ⟨pre, hpre⟩ : ∃ pre, pre = hexL (l.take t) := ⟨_, rfl⟩
      rw [← hpre] at hv
      have HPL : Hid (pre.length ≤ 64) := by unfold Hid; rw [hpre, len_hexL, List.length_take]; omega
      have HP := Lib.hid hpre
      clear hpre
      have HS0 : Hid (wr.drew.cell? ⟨w.heap.size, t, none⟩ = some (.int .u8 (c.toNat : Int)) ∧ Blk wr.drew w.heap.size (bCells l) 22 ∧ Below w.heap.size w wr.drew ∧ w.heap.size + 1 ≤ wr.drew.heap.size) := ⟨ct, hk.drew, below_drewN hb 1, hz⟩
      have hba : Below wr.heap.size wr (wr.alloc (.cells #[.int .u8 (dig q), .int .u8 (dig r)] 5)).drew := ((Below.refl _ _).alloc (Nat.le_refl _) _).drew
      have HN1 : Hid (NBuf (wr.alloc (.cells #[.int .u8 (dig q), .int .u8 (dig r)] 5)).drew (w.heap.size + 1) _ pre) := hv.below hba
      have hz1 : w.heap.size + 1 ≤ (wr.alloc (.cells #[.int .u8 (dig q), .int .u8 (dig r)] 5)).drew.heap.size := by simp; omega
      have HZ1 := Lib.hid hz1
      have HS1 : Hid ((wr.alloc (.cells #[.int .u8 (dig q), .int .u8 (dig r)] 5)).drew.cell? ⟨w.heap.size, t, none⟩ = some (.int .u8 (c.toNat : Int)) ∧ Blk (wr.alloc (.cells #[.int .u8 (dig q), .int .u8 (dig r)] 5)).drew w.heap.size (bCells l) 22 ∧ Below w.heap.size w (wr.alloc (.cells #[.int .u8 (dig q), .int .u8 (dig r)] 5)).drew ∧ w.heap.size + 1 ≤ (wr.alloc (.cells #[.int .u8 (dig q), .int .u8 (dig r)] 5)).drew.heap.size) :=
        ⟨by rw [hba.cell (p := ⟨w.heap.size, t, none⟩) hk.lt]; exact ct, hk.below hba hk.lt, hb.trans (hba.mono hb.size), hz1⟩
      have HNEW : Hid (∀ i, i < 2 → (wr.alloc (.cells #[.int .u8 (dig q), .int .u8 (dig r)] 5)).drew.cell? ⟨wr.heap.size, 0 + i, none⟩ = some (by8 ([digits.getD q 0, digits.getD r 0].getD i 0))) := fun i hi => by
        have hbk : Blk (wr.alloc (.cells #[.int .u8 (dig q), .int .u8 (dig r)] 5)).drew wr.heap.size #[.int .u8 (dig q), .int .u8 (dig r)] 5 := (Blk.new wr _ 5).drew
        rw [hbk.cell]
        match i, hi with
        | 0, _ => rfl
        | 1, _ => rfl
      have HT : Hid (∀ w' w'', (w'.cell? ⟨w.heap.size, t, none⟩ = some (.int .u8 (c.toNat : Int)) ∧ Blk w' w.heap.size (bCells l) 22 ∧ Below w.heap.size w w' ∧ w.heap.size + 1 ≤ w'.heap.size) → Hid (Below (w.heap.size + 1) w' w'') →
          (w''.cell? ⟨w.heap.size, t, none⟩ = some (.int .u8 (c.toNat : Int)) ∧ Blk w'' w.heap.size (bCells l) 22 ∧ Below w.heap.size w w'' ∧ w.heap.size + 1 ≤ w''.heap.size)) := fun w' w'' h hb =>
        ⟨by rw [hb.out.cell (p := ⟨w.heap.size, t, none⟩) (Nat.lt_succ_self _)]; exact h.1, h.2.1.below hb.out (Nat.lt_succ_self _), h.2.2.1.trans (hb.out.mono (Nat.le_succ _)), Nat.le_trans h.2.2.2 hb.out.size⟩
      have HTT : Hid (∀ w', (w'.cell? ⟨w.heap.size, t, none⟩ = some (.int .u8 (c.toNat : Int)) ∧ Blk w' w.heap.size (bCells l) 22 ∧ Below w.heap.size w w' ∧ w.heap.size + 1 ≤ w'.heap.size) → (Blk w' w.heap.size (bCells l) 22 ∧ Below w.heap.size w w' ∧ w.heap.size + 1 ≤ w'.heap.size)) := fun w' h => h.2
      clear hba hz1 hk hb hz ct
      go_upto_region 5 with fail
      go_region_held3 (fun w' => w'.cell? ⟨w.heap.size, t, none⟩ = some (.int .u8 (c.toNat : Int)) ∧ Blk w' w.heap.size (bCells l) 22 ∧ Below w.heap.size w w' ∧ w.heap.size + 1 ≤ w'.heap.size)
        (first
          | exact HS0.out
          | exact HS1.out
          | (refine HT.out _ _ ?_ hb9; assumption))
        (first
          | (refine step_nbuf rfl (.tmp 9) (.tmp 20) rfl (w.heap.size + 1) _ pre rfl HN1.out HZ1.out wr.heap.size 0 2 2 [digits.getD q 0, digits.getD r 0] rfl rfl (by decide) HNEW.out (by have := HPL.out; omega) ?_; intro v9 w9 hn9 hb9))
      all_goals (
        have hf := Lib.hid (HTT.out w9 (by assumption))
        clear HT HTT HS0 HS1 HNEW HN1 HZ1
        go_wp2
        go_roundw
        case rel =>
          refine ⟨t + 1, by omega, by simp, ?_, hf.out.1, hf.out.2.1, hf.out.2.2⟩
          rw [hexL_take _ _ (by rw [HL.out]; exact h32), ← HP.out, ← HC.out]
          unfold hexB
          rw [← HQ.out, ← HR.out]
          exact hn9.out
        case measure => simp [intOf]; omega)
    · obtain rfl : t = 32 := by omega
      clear ht h32
      rw [show ((32 : Nat) : Int) = 32 from rfl]
      rw [List.take_of_length_le (by rw [HL.out]; exact Nat.le_refl _)] at hv
      rcases hv with ⟨rfl, h0⟩ | ⟨g, cap, rfl, hg, hgs, hcap, -, -, hcell⟩
      · have := len_hexL l
        rw [h0, HL.out] at this; simp at this
      · have hh : (hexL l).length = 64 := by rw [len_hexL, HL.out]
        have hc := conv_bytes wr g 0 64 cap (hexL l) hh (fun i hi => by rw [Nat.zero_add]; exact hcell i (by rw [hh]; exact hi))
        rw [hh]
        have HB := Lib.hid hb
        clear hcell hb hk hz hcap hg hgs hh
        go_wp2
        go_ret
        exact ⟨rfl, HB.out⟩
end Go.Proofs.YtdchgojnmfoffaaDoor.Sha
