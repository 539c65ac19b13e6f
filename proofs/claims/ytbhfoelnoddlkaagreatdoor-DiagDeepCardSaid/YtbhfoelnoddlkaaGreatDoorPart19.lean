/-
  Of the proof that the law DiagDeep answers true at every row of bytes: a part, without conditions of its own.
-/
import Derived.Test.YtbhfoelnoddlkaaGreatDoorPart18
import Derived.Test.YtbhfoelnoddlkaaGreatDoorPart03
import Derived.Laws.BytesArg
import Derived.Laws.EntriesVeiled
set_option linter.unusedVariables false
set_option linter.unusedSimpArgs false
/-
  The writer: put: walked.
-/
namespace Go.Proofs.YtbhfoelnoddlkaaGreatDoor.D
open Go Go.RowKit Limb

theorem bty_w (most : Int) : BTy 67 [.int .i64 most] := ⟨by decide, by kernel_rfl⟩
/-- The writer: a builder with what it holds, and a bound. -/
def Wr (B p : Nat) (most : Int) (L : List UInt8) (w : World) : Prop := BIs 67 [.int .i64 most] B p L w
theorem Wr.at2 {B p : Nat} {most : Int} {L : List UInt8} {w : World} (h : Wr B p most L w) : w.cell? ⟨p, 2, none⟩ = some (.int .i64 most) := by
  obtain ⟨q, hB, v, hbk, hown, hne⟩ := h.at_
  rw [Lib.cell_of_heap hbk]; rfl
theorem Wr.drewN {B p : Nat} {most : Int} {L : List UInt8} {w : World} (h : Wr B p most L w) (n : Nat) : Wr B p most L (w.drewN n) := BIs.below h (below_drewN (Below.refl _ _) n)
/-- The texts of the first so many of a row. -/
def catL (ss : Nat → List UInt8) : Nat → List UInt8
  | 0 => []
  | k + 1 => catL ss k ++ ss k
theorem catL_le (ss : Nat → List UInt8) : ∀ (n k : Nat), k ≤ n → (catL ss k).length ≤ (catL ss n).length
  | 0, k, h => by obtain rfl : k = 0 := by omega
                  exact Nat.le_refl _
  | n + 1, k, h => by
    rcases Nat.lt_or_ge k (n + 1) with h1 | h1
    · have := catL_le ss n k (by omega)
      rw [catL, List.length_append]; omega
    · obtain rfl : k = n + 1 := by omega
      exact Nat.le_refl _

set_option maxRecDepth 100000 in
set_option maxHeartbeats 1000000 in
theorem put_any (B p : Nat) (most : Int) (L : List UInt8) (w : World) (h : Wr B p most L w) (k n cap : Nat) (ss : Nat → List UInt8) (c : Array Value) (fr : Nat × Nat) (hk : w.heap[k]? = some (.cells c 9 fr)) (hkp : k ≠ p) (hc : ∀ i, i < n → c[i]? = some (.string (strL (ss i)))) (hn : n ≤ 1000) (hm : (((L ++ catL ss n).length : Nat) : Int) ≤ most) (hlen : (L ++ catL ss n).length ≤ 140737488355328) (hB : B ≤ w.heap.size) :
    Calls Tryz.prog 46 #[.pointer (some ⟨p, 0, none⟩), .slice (some ⟨k, 0, none⟩) n cap] w fun e w' => e = .returned (.tuple #[]) ∧ Wr B p most (L ++ catL ss n) w' ∧ Wk B p w w' := by
  have HW := Lib.hid h
  have HC := Lib.hid hc
  have HK := Lib.hid hk
  have HM := Lib.hid hm
  have HL := Lib.hid hlen
  clear h hc hk hm hlen
  go_enter Tryz.func46, Tryz.ntmps46
  go_wp2
  go_loopw [5, 8] (fun _ i wr => ∃ j : Nat, j ≤ n ∧ i = .int .i64 j ∧ Hid (Wr B p most (L ++ catL ss j) wr) ∧ Hid (Wk B p w wr)) (fun _ i _ => n - (intOf i).toNat)
  case atStart => exact ⟨0, by omega, rfl, by rw [catL, List.append_nil]; exact HW, Lib.hid (Wk.refl _ _ _)⟩
  case round =>
    obtain ⟨j, hj, rfl, HWr, HF⟩ := hrel
    clear HW
    by_cases h1 : j < n
    · have g1 : (j : Int) < (n : Int) := by omega
      have hcell : wr.cell? ⟨k, j, none⟩ = some (.string (strL (ss j))) := by
        have e := HF.out.2.2 k (Array.getElem?_eq_some_iff.1 HK.out).1 hkp (fun c' fr' he => by rw [HK.out] at he; simp at he)
        rw [HK.out] at e
        rw [Lib.cell_of_heap e]; exact HC.out j h1
      have hlj := catL_le ss n j hj
      have hlj1 := catL_le ss n (j + 1) (by omega)
      have hsum : (L ++ catL ss (j + 1)).length = (L ++ catL ss j).length + (ss j).length := by rw [catL, ← List.append_assoc, List.length_append (bs := ss j)]
      have HLl := Lib.hid (blen_any (T := 67) (r := [.int .i64 most]) B p (L ++ catL ss j) (wr.drew) (BIs.below HWr.out (below_drewN (Below.refl _ _) 1)))
      have c2 := HWr.out.at2
      have g2 : (((L ++ catL ss j).length : Nat) : Int) ≤ most := by
        have := HM.out
        rw [List.length_append] at this ⊢
        omega
      have h47 : (L ++ catL ss j).length + (ss j).length ≤ 140737488355328 := by
        have := HL.out
        rw [← hsum]
        rw [List.length_append] at this ⊢
        omega
      have HQ : Hid (∀ w', Wr B p most (L ++ catL ss j) w' → Calls Tryz.prog 23 #[.pointer (some ⟨p, 0, none⟩)] w' fun e w'' => e = .returned (.int .i64 (L ++ catL ss j).length) ∧ w'' = w') := Lib.hid (fun w' h => blen_any B p _ w' h)
      have HE : Hid (L ++ catL ss (j + 1) = (L ++ catL ss j) ++ ss j) := Lib.hid (by rw [catL, List.append_assoc])
      clear HLl hlj hlj1 hsum
      generalize hT : L ++ catL ss j = T at HWr g2 h47 HQ HE
      clear hT
      go_upto_region 3 with fail
      go_quiet ((go_at_call 23; exact Calls.quiet_of_same (HQ.out _ (HWr.out.drewN _))))
      have HWq := Lib.hid (HWr.out.drewN nq)
      have HFq := Lib.hid (HF.out.drewN nq)
      clear HWr HF c2 hcell
      generalize wr.drewN nq = w1 at HWq HFq ⊢
      go_wp2_with fail
      refine (wstr_any (bty_w most) B p T (ss j) w1 HWq.out h47 (by have := HFq.out.1.size; omega)).mono ?_
      rintro e w2 ⟨rfl, hb2, hk2⟩
      have HW2 : Hid (Wr B p most (L ++ catL ss (j + 1)) w2) := Lib.hid (by rw [HE.out]; exact .inr hb2)
      have HF2 := Lib.hid (HFq.out.trans hk2)
      clear hb2 hk2 HWq HFq
      go_wp2
      go_roundw
      case rel => exact ⟨j + 1, by omega, by simp, HW2, HF2⟩
      case measure => simp [intOf]; omega
    · obtain rfl : j = n := by omega
      have g1 : ¬ (j : Int) < (j : Int) := by omega
      go_wp2
      go_end0
      exact ⟨rfl, HWr.out, HF.out⟩
end Go.Proofs.YtbhfoelnoddlkaaGreatDoor.D

/-
  quot.Digits of a number of one digit; whole.Show, numeral: walked.
-/
namespace Go.Proofs.YtbhfoelnoddlkaaGreatDoor.D
open Go Go.RowKit Limb

theorem strOf_bytes (l : List UInt8) : strOfNums (l.map fun b => (b.toNat : Int)) = strL l := by
  apply ByteArray.ext
  apply Array.ext'
  show (strOfNums _).data.toList = l
  rw [strOfNums_data, List.map_map]
  conv => rhs; rw [← List.map_id l]
  apply List.map_congr_left
  intro a _
  simp
/-- Bytes in memory, turned to a text. -/
theorem conv_bytes (w : World) (b off n cap : Nat) (l : List UInt8) (hn : l.length = n) (hc : ∀ i, i < n → w.cell? ⟨b, off + i, none⟩ = some (.int .u8 ((l.getD i 0).toNat : Int))) :
    (convert 22 9 (.slice (some ⟨b, off, none⟩) n cap)).run Tryz.prog w = .ok (.string (strL l)) w := by
  rw [← strOf_bytes]
  refine run_convert_bytes_arg (P := Tryz.prog) w 22 5 Tryz.underlying22 Tryz.underlying5 b off n cap _ (by simp [hn]) (fun i hi => ?_) 9 Tryz.underlying9
  rw [hc i hi]
  rw [List.getD_eq_getElem?_getD, List.getD_eq_getElem?_getD, List.getElem?_map, List.getElem?_eq_getElem (by omega)]
  rfl

set_option maxRecDepth 100000 in
theorem reverse_one (w : World) (a : Option Addr) (c : Nat) :
    Calls Tryz.prog 137 #[.slice a 1 c] w fun e w' => e = .returned (.tuple #[]) ∧ w' = w := by
  go_enter Tryz.func137, Tryz.ntmps137
  go_wp2
  go_loop [2, 3] (fun i j => i = .int .i64 0 ∧ j = .int .i64 0) (fun _ _ => 0)
  case atStart => exact ⟨rfl, rfl⟩
  case round =>
    obtain ⟨rfl, rfl⟩ := hrel
    go_wp2
    go_end0
    exact ⟨rfl, rfl⟩

set_option maxRecDepth 100000 in
set_option maxHeartbeats 1000000 in
theorem take_one (w : World) (R : Nat) (v : Value) (x : Nat) (h : Limbs w v (limbs x)) (hx : x < 1000000000) (hR : Blk w R #[v] 28) :
    Calls Tryz.prog 191 #[.pointer (some ⟨R, 0, none⟩)] w fun e w' => e = .returned (.int .u32 (x : Int)) ∧ ∃ w1 b c, Below w.heap.size w w1 ∧ w' = w1.setCell ⟨R, 0, none⟩ (.slice b 0 c) := by
  have hl1 : (limbs x).length ≤ 1 := limbs_length_le (by omega)
  have HS := Lib.hid (small_any w v _ 1000000000 h (by omega) (by decide) (by decide))
  rw [val_limbs, Nat.mod_eq_of_lt hx, Nat.div_eq_of_lt hx, limbs_zero] at HS
  have c0 := hR.cell 0
  simp only [List.getElem?_toArray, List.getElem?_cons_zero] at c0
  have HR := Lib.hid hR
  clear h hR hl1
  go_enter Tryz.func191, Tryz.ntmps191
  go_wp2_with fail
  refine HS.out.mono ?_
  rintro e w1 ⟨hb1, v1, rfl, h1⟩
  obtain ⟨b, c, rfl⟩ := h1.slice
  have hR1 := HR.out.below hb1 HR.out.lt
  have f0 := hR1.free 0
  have d0 := hR1.cell 0
  simp only [List.getElem?_toArray, List.getElem?_cons_zero] at d0
  have HB := Lib.hid hb1
  clear hb1 h1 hR1 HS c0
  go_wp2
  go_ret
  exact ⟨rfl, w1, b, c, HB.out, rfl⟩

set_option maxRecDepth 100000 in
set_option maxHeartbeats 1000000 in
theorem digits_one (w : World) (v : Value) (x : Nat) (h : Limbs w v (limbs x)) (h1 : 1 ≤ x) (h9 : x < 10) :
    Calls Tryz.prog 132 #[v] w fun e w' => e = .returned (.string (strL [dig x])) ∧ Below w.heap.size w w' := by
  have hmf : ∀ (fn : Fn) (first cap : Array Value) (w : World), (Instr.makeFunc fn first cap).run Tryz.prog w = .ok (.func fn first cap) w := fun _ _ _ _ => rfl
  have hfw : ∀ (args : Array Value) (w : World), (callFunc 191 args).run Tryz.prog w = .ok (.enter 191 args) w := fun _ _ => by simp [callFunc, go_sem, Tryz.func191]; rfl
  have hlx : limbs x = [x] := limbs_small (by omega) (by omega)
  have HNM := Lib.hid (norm_any w v _ h (by rw [hlx]; simp))
  rw [trim_limbs, hlx] at HNM
  clear h
  obtain ⟨y, hy⟩ : ∃ y : UInt8, y = dig x := ⟨_, rfl⟩
  have HY : Hid (48 + (x : Int) = (y.toNat : Int)) := Lib.hid (by rw [hy]; unfold dig; simp; omega)
  rw [← hy]
  clear hy
  go_enter Tryz.func132, Tryz.ntmps132
  go_wp2_with fail
  refine HNM.out.mono ?_
  rintro e w1 ⟨hb1, v1, rfl, h1', _⟩
  obtain ⟨b1, c1, rfl⟩ := h1'.slice
  simp only [List.length_singleton] at h1' ⊢
  have hb2 : Below w1.heap.size w1 (w1.alloc (.cells #[.slice b1 1 c1] 28)) := (Below.refl _ _).alloc (Nat.le_refl _) _
  have hR := Blk.new w1 #[.slice b1 1 c1] 28
  have HT := Lib.hid (take_one (w1.alloc (.cells #[.slice b1 1 c1] 28)) w1.heap.size (.slice b1 1 c1) x (by rw [hlx]; exact h1'.below hb2) (by omega) hR)
  have HB2 := Lib.hid (hb1.trans (hb2.mono hb1.size))
  have HR := Lib.hid hR
  have hs1 : w.heap.size ≤ w1.heap.size := hb1.size
  have hs2 : (w1.alloc (.cells #[.slice b1 1 c1] 28)).heap.size = w1.heap.size + 1 := by simp
  have HS2 := Lib.hid hs2
  clear hb1 hb2 h1' hR HNM hs2
  go_upto_region 4 with fail
  change Code.wp _ _ _ _ (w1.alloc (.cells #[.slice b1 1 c1] 28))
  generalize w1.alloc (.cells #[.slice b1 1 c1] 28) = w2 at HT HB2 HR HS2 ⊢
  have c0 := HR.out.cell 0
  simp only [List.getElem?_toArray, List.getElem?_cons_zero] at c0
  go_loopw [5, 6, 7] (fun bk _ _ wr => (bk = .slice none 0 0 ∧ wr = w2) ∨ (∃ g c b' c', bk = .slice (some ⟨g, 0, none⟩) 1 c ∧ wr.cell? ⟨w1.heap.size, 0, none⟩ = some (.slice b' 0 c') ∧ wr.cell? ⟨g, 0, none⟩ = some (.int .u8 (y.toNat : Int)) ∧ Hid (Below w.heap.size w wr))) (fun bk _ _ _ => match bk with | .slice none _ _ => 1 | _ => 0)
  case atStart => exact .inl ⟨rfl, rfl⟩
  case round =>
    rcases hrel with ⟨rfl, rfl⟩ | ⟨g, c, b', c', rfl, k0, kg, HB⟩
    · go_wp2_with fail
      refine HT.out.mono ?_
      rintro e w3 ⟨rfl, w4, b', c', hb4, rfl⟩
      have hR4 := HR.out.below hb4 HR.out.lt
      have hR5 := hR4.set 0 (.slice b' 0 c')
      have d0 := hR5.cell 0
      simp only [List.setIfInBounds_toArray, List.set_cons_zero, List.getElem?_toArray, List.getElem?_cons_zero] at d0
      have hB5 : Below w.heap.size w (w4.setCell ⟨w1.heap.size, 0, none⟩ (.slice b' 0 c')) := (HB2.out.trans (hb4.mono (by have := HS2.out; omega))).setCell (p := ⟨w1.heap.size, 0, none⟩) hs1 _
      have HB5 := Lib.hid hB5
      have HR5 := Lib.hid hR5
      generalize w4.setCell ⟨w1.heap.size, 0, none⟩ (.slice b' 0 c') = w5 at d0 HB5 HR5 ⊢
      clear hb4 hR4 hR5 hB5 HT c0 HR HB2 HS2
      go_wp2
      go_loopw [5, 6, 7] (fun bk n k wr => (k = .int .i64 0 ∧ n = .int .u32 (x : Int) ∧ bk = .slice none 0 0 ∧ wr = w5) ∨ (k = .int .i64 1 ∧ n = .int .u32 0 ∧ ∃ g c b' c', bk = .slice (some ⟨g, 0, none⟩) 1 c ∧ wr.cell? ⟨w1.heap.size, 0, none⟩ = some (.slice b' 0 c') ∧ wr.cell? ⟨g, 0, none⟩ = some (.int .u8 (y.toNat : Int)) ∧ Hid (Below w.heap.size w wr))) (fun _ _ k _ => 1 - (intOf k).toNat)
      case atStart => exact .inl ⟨rfl, rfl, rfl, rfl⟩
      case round =>
        rcases hrel with ⟨rfl, rfl, rfl, rfl⟩ | ⟨rfl, rfl, g, c, b'', c'', rfl, k0, kg, HB⟩
        · have g1 : (0 : Int) < (x : Int) := by omega
          go_upto_region 8 with fail
          obtain ⟨i0, hi, hz0, hz1, hz2⟩ := info5'
          have HI := Lib.hid hi
          have g2 : (x : Int) % 10 = (x : Int) := by omega
          have g3 : (x : Int) / 10 = 0 := by omega
          have g4 : (x : Int).tdiv 10 = 0 := by rw [Int.tdiv_eq_ediv_of_nonneg (by omega)]; omega
          have g5 : (x : Int).tmod 10 = (x : Int) := by rw [Int.tmod_eq_emod_of_nonneg (by omega)]; omega
          clear hi
          go_wp2_with (at_builtin; refine wpList_append_own _ rfl _ _ 22 rfl wr.heap.size 5 i0 (.int .u8 0) 1 1 Tryz.underlying22 HI.out hz0 hz1 hz2 rfl (by decide) _ _ _ rfl (World.ownsRow_nil _ _ _ _) ⟨wr.heap.size, 0, none⟩ 1 1 [.int .u8 (y.toNat : Int)] rfl rfl ?c1 ?c2 ?c3 ?c4 ?c5 ?_)
          case c1 =>
            intro j u hj
            match j, hj with
            | 0, hj => simp at hj; subst hj; rw [add_plain]; simp; rw [← HY.out]
          case c2 => intro u hu; simp at hu; subst hu; rfl
          case c3 => decide
          case c4 => decide
          case c5 => simp
          intro v' w7 hown hgrow hnn
          have hfin : ∃ g c, v' = .slice (some ⟨g, 0, none⟩) 1 c ∧ w7.cell? ⟨g, 0, none⟩ = some (.int .u8 (y.toNat : Int)) := by
            obtain ⟨hlen, ⟨rfl, h0⟩ | ⟨g, cp, cur, rfl, hg, hc, hle, hm, hsz, htk⟩⟩ := hown
            · simp at h0
            · refine ⟨g, cp, rfl, ?_⟩
              have e : w7.cell? ⟨g, 0, none⟩ = cur[0]? := by simp [World.cell?, hc]
              have h9 : (cur.toList.take (1 * 1))[0]? = some (.int .u8 (y.toNat : Int)) := by rw [htk]; rfl
              rw [e, ← Array.getElem?_toList]
              rw [List.getElem?_take, if_pos (by omega)] at h9
              exact h9
          obtain ⟨g, c, rfl, kg⟩ := hfin
          have hb7 : Below wr.heap.size wr w7 := ((Below.refl _ _).alloc (Nat.le_refl _) _).trans ⟨hgrow.os, hgrow.tape, hgrow.output, hgrow.size, fun k hk => hgrow.block k (by simp; omega) (fun e => by simp [Value.ownBlock] at e)⟩
          have hk0 : w7.cell? ⟨w1.heap.size, 0, none⟩ = some (.slice b' 0 c') := by rw [hb7.cell (p := ⟨w1.heap.size, 0, none⟩) HR5.out.lt]; exact d0
          have HB7 := Lib.hid (HB5.out.trans (hb7.mono HB5.out.size))
          clear hown hgrow hnn hb7 HI
          go_wp2
          go_roundw
          case rel => exact .inr ⟨rfl, rfl, g, c, b', c', rfl, hk0, kg, HB7⟩
          case measure => simp [intOf]
        · have g1 : ¬ (0 : Int) < 0 := by omega
          go_wp2
          go_roundw
          case rel => exact .inr ⟨g, c, b'', c'', rfl, k0, kg, HB⟩
          case measure => simp
    · have hs := conv_bytes wr g 0 1 c [y] rfl (fun i hi => by
      have h0 : i = 0 := by omega
      subst h0
      exact kg)
      go_wp2_with fail
      refine (reverse_one wr _ _).mono ?_
      rintro e w3 ⟨rfl, rfl⟩
      go_wp2
      go_ret
      exact ⟨rfl, HB.out⟩

set_option maxRecDepth 100000 in
set_option maxHeartbeats 1000000 in
theorem wshow_one (w : World) (v : Value) (x : Nat) (h : Limbs w v (limbs x)) (h1 : 1 ≤ x) (h9 : x < 10) :
    Calls Tryz.prog 91 #[.agg #[.bool false, v]] w fun e w' => e = .returned (.string (strL [dig x])) ∧ Below w.heap.size w w' := by
  obtain ⟨b, c, rfl⟩ := h.slice
  have hb : Below w.heap.size w (w.alloc (.cells #[.bool false, .slice b (limbs x).length c] 30)) := (Below.refl _ _).alloc (Nat.le_refl _) _
  have hlx : limbs x = [x] := limbs_small (by omega) (by omega)
  have HC := Lib.hid (signed_any _ _ _ (h.below hb) (by rw [hlx]; simp))
  have HB := Lib.hid hb
  rw [val_limbs] at HC
  rw [hlx] at HB HC ⊢
  clear h hb
  go_enter Tryz.func91, Tryz.ntmps91
  go_wp2_with fail
  refine HC.out.mono ?_
  rintro e w1 ⟨hb1, s, v1, rfl, hs, hl1, _⟩
  have HB1 := Lib.hid (HB.out.trans (hb1.mono HB.out.size))
  have HD := Lib.hid (digits_one w1 v1 x (by rw [hlx]; exact hl1) h1 h9)
  have g0 : (s == -1) = false := beq_eq_false_iff_ne.2 (by omega)
  clear hb1 hl1 hlx
  go_wp2_with fail
  refine HD.out.mono ?_
  rintro e w2 ⟨rfl, hb2⟩
  have HB2 := Lib.hid (HB1.out.trans (hb2.mono HB1.out.size))
  clear hb2
  go_wp2
  go_ret
  exact ⟨rfl, HB2.out⟩

set_option maxRecDepth 100000 in
set_option maxHeartbeats 1000000 in
theorem numeral_one (w : World) (v : Value) (x : Nat) (h : Limbs w v (limbs x)) (h1 : 1 ≤ x) (h9 : x < 10) :
    Calls Tryz.prog 47 #[.agg #[.bool false, v]] w fun e w' => e = .returned (.string (strL [dig x])) ∧ Below w.heap.size w w' := by
  obtain ⟨b, c, rfl⟩ := h.slice
  have hb : Below w.heap.size w (w.alloc (.cells #[.bool false, .slice b (limbs x).length c] 30)) := (Below.refl _ _).alloc (Nat.le_refl _) _
  have hlx : limbs x = [x] := limbs_small (by omega) (by omega)
  have HL := Lib.hid (len_any _ _ _ (h.below hb) (by rw [hlx]; simp))
  have HS := Lib.hid (wshow_one _ _ x (h.below hb) h1 h9)
  have HB := Lib.hid hb
  rw [val_limbs] at HL
  have hbl : blen x ≤ 4 := blen_le (by omega)
  rw [hlx] at HB HL HS ⊢
  generalize blen x = q at HL hbl
  have g0 : (q : Int) ≤ 4096 := by omega
  clear h hb hlx
  go_enter Tryz.func47, Tryz.ntmps47
  go_wp2_with fail
  refine HL.out.mono ?_
  rintro e w1 ⟨rfl, rfl⟩
  go_wp2_with fail
  refine HS.out.mono ?_
  rintro e w2 ⟨rfl, hb2⟩
  have HB2 := Lib.hid (HB.out.trans (hb2.mono HB.out.size))
  clear hb2
  go_wp2
  go_ret
  exact ⟨rfl, HB2.out⟩
end Go.Proofs.YtbhfoelnoddlkaaGreatDoor.D

/-
  base.Hex, strconv.FormatUint of a tag's number: walked.
-/
namespace Go.Proofs.YtbhfoelnoddlkaaGreatDoor.D
open Go Go.RowKit Limb

theorem bty_b : BTy 65 [] := ⟨by decide, by kernel_rfl⟩
theorem hexL_snoc (l : List UInt8) (t : Nat) (h : t < l.length) : hexL (l.take (t + 1)) = hexL (l.take t) ++ [hexD ((l.getD t 0).toNat / 16)] ++ [hexD ((l.getD t 0).toNat % 16)] := by
  rw [List.take_succ_eq_append_getElem h]
  unfold hexL
  rw [List.flatMap_append, List.getD_eq_getElem?_getD, List.getElem?_eq_getElem h]
  simp
theorem hexL_length (l : List UInt8) : (hexL l).length = 2 * l.length := by
  unfold hexL
  induction l with
  | nil => rfl
  | cons x t ih => rw [List.flatMap_cons, List.length_append, ih]; simp; omega
theorem and15 (c : UInt8) : bits .and .u8 (c.toNat : Int) 15 = ((c.toNat % 16 : Nat) : Int) := by
  have : ∀ q : Fin 256, bits .and .u8 (q.val : Int) 15 = ((q.val % 16 : Nat) : Int) := by decide +kernel
  exact this ⟨c.toNat, c.toNat_lt⟩
/-- A digit in base 16, as a number closed to the walk. -/
def hexI (q : Nat) : Int := ((hexD q).toNat : Int)
theorem run_hexd (w : World) (q : Nat) (h : q < 16) : (Instr.index 9 (.string { data := #[48, 49, 50, 51, 52, 53, 54, 55, 56, 57, 97, 98, 99, 100, 101, 102] }) (.int .u8 (q : Int))).run Tryz.prog w = .ok (.int .u8 (hexI q)) w := by
  rw [run_index_string w 9 _ .u8 (q : Int) Tryz.underlying9]
  have hs : (({ data := #[48, 49, 50, 51, 52, 53, 54, 55, 56, 57, 97, 98, 99, 100, 101, 102] } : ByteArray)).size = 16 := rfl
  rw [dif_pos ⟨by omega, by rw [hs]; omega⟩]
  congr 2
  have : ∀ q : Fin 16, ((({ data := #[48, 49, 50, 51, 52, 53, 54, 55, 56, 57, 97, 98, 99, 100, 101, 102] } : ByteArray)[q.val]'q.isLt).toNat : Int) = hexI q.val := by decide +kernel
  exact this ⟨q, h⟩

set_option maxRecDepth 100000 in
set_option maxHeartbeats 1000000 in
theorem hex_any (w : World) (k n cap : Nat) (l : List UInt8) (hn : n = l.length) (h0 : l ≠ []) (hl : l.length ≤ 1048576) (hk : k < w.heap.size) (hc : ∀ i, i < n → w.cell? ⟨k, i, none⟩ = some (.int .u8 ((l.getD i 0).toNat : Int))) :
    Calls Tryz.prog 53 #[.slice (some ⟨k, 0, none⟩) n cap] w fun e w' => e = .returned (.string (strL (hexL l))) ∧ Below w.heap.size w w' := by
  have HC := Lib.hid hc
  have HN := Lib.hid hn
  have hn2 : n ≤ 1048576 := by omega
  have hb : Below w.heap.size w (w.alloc (.cells #[.pointer none, .slice none 0 0] 65)) := (Below.refl _ _).alloc (Nat.le_refl _) _
  have hB := Blk.new w #[.pointer none, .slice none 0 0] 65
  have hI : BIs 65 [] w.heap.size w.heap.size [] (w.alloc (.cells #[.pointer none, .slice none 0 0] 65)) := .inl ⟨Nat.le_refl _, _, hB, World.ownsRow_nil _ _ _ _, by simp [Value.ownBlock]⟩
  have HB := Lib.hid hb
  have HI := Lib.hid hI
  clear hc hn hb hB hI
  go_enter Tryz.func53, Tryz.ntmps53
  go_upto_region 2 with fail
  change Code.wp _ _ _ _ (w.alloc (.cells #[.pointer none, .slice none 0 0] 65))
  generalize w.alloc (.cells #[.pointer none, .slice none 0 0] 65) = w1 at HB HI ⊢
  go_wp2
  go_loopw [5, 8] (fun _ i wr => ∃ t : Nat, t ≤ n ∧ i = .int .i64 t ∧ Hid (BIs 65 [] w.heap.size w.heap.size (hexL (l.take t)) wr) ∧ Hid (Below w.heap.size w wr)) (fun _ i _ => n - (intOf i).toNat)
  case atStart => exact ⟨0, by omega, rfl, HI, HB⟩
  case round =>
    clear HB HI
    obtain ⟨t, ht, rfl, HI, HB⟩ := hrel
    by_cases h1 : t < n
    · have g1 : (t : Int) < (n : Int) := by omega
      have hcell : wr.cell? ⟨k, t, none⟩ = some (.int .u8 ((l.getD t 0).toNat : Int)) := by rw [HB.out.cell (p := ⟨k, t, none⟩) hk]; exact HC.out t h1
      have HS := Lib.hid (hexL_snoc l t (by rw [← HN.out]; exact h1))
      have HLE : Hid ((hexL (l.take t)).length + 2 ≤ 140737488355328) := Lib.hid (by rw [hexL_length, List.length_take]; omega)
      generalize l.getD t 0 = c at hcell HS
      generalize hexL (l.take t) = pre at HI HS HLE
      have hcl := c.toNat_lt
      have ha := and15 c
      obtain ⟨q, hq⟩ : ∃ q, q = c.toNat / 16 := ⟨_, rfl⟩
      obtain ⟨r, hr⟩ : ∃ r, r = c.toNat % 16 := ⟨_, rfl⟩
      rw [← hr] at ha
      have q3 : IntKind.u8.wrap ((c.toNat : Int) / 16) = (q : Int) := by rw [hq, IntKind.wrap_u8]; omega
      have q5 : (c.toNat : Int) / 16 = (q : Int) := by rw [hq]; omega
      have q6 : IntKind.u8.wrap (q : Int) = (q : Int) := by rw [IntKind.wrap_u8]; omega
      have hxq := fun w => run_hexd w q (by omega)
      have hxr := fun w => run_hexd w r (by omega)
      rw [← hq, ← hr] at HS
      clear hq hr
      generalize (c.toNat : Int) = C at *
      go_wp2_with fail
      refine (wbyte_any bty_b w.heap.size w.heap.size pre (hexD q) wr HI.out (by have := HLE.out; omega) HB.out.size).mono ?_
      rintro e w2 ⟨rfl, hb2, hw2⟩
      have HI2 := Lib.hid hb2
      have HB2 := Lib.hid (HB.out.trans hw2.1)
      clear hb2 hw2 HI HB hcell
      go_wp2_with fail
      refine (wbyte_any bty_b w.heap.size w.heap.size (pre ++ [hexD q]) (hexD r) w2 (.inr HI2.out) (by have := HLE.out; simp; omega) HB2.out.size).mono ?_
      rintro e w3 ⟨rfl, hb3, hw3⟩
      have HI3 : Hid (BIs 65 [] w.heap.size w.heap.size (hexL (l.take (t + 1))) w3) := Lib.hid (by rw [HS.out]; exact .inr hb3)
      have HB3 := Lib.hid (HB2.out.trans hw3.1)
      clear hb3 hw3 HI2 HB2
      go_wp2
      go_roundw
      case rel => exact ⟨t + 1, by omega, by simp, HI3, HB3⟩
      case measure => simp [intOf]; omega
    · obtain rfl : t = n := by omega
      have g1 : ¬ (t : Int) < (t : Int) := by omega
      have HH : Hid (BHas w.heap.size w.heap.size (hexL l) wr) := Lib.hid (by
        have := HI.out
        rw [List.take_of_length_le (by rw [← HN.out]; exact Nat.le_refl _)] at this
        exact this.has (by intro e; have := congrArg List.length e; rw [hexL_length] at this; cases l with | nil => exact h0 rfl | cons a b => simp at this))
      clear HI
      go_wp2_with fail
      refine (bstr_any w.heap.size w.heap.size (hexL l) wr HH.out).mono ?_
      rintro e w2 ⟨rfl, _, hb2⟩
      have HB2 := Lib.hid (HB.out.trans hb2)
      clear hb2
      go_wp2
      go_ret
      exact ⟨rfl, HB2.out⟩

set_option maxRecDepth 100000 in
theorem fmt_one (w : World) :
    Calls Tryz.prog 51 #[.int .u64 1, .int .i64 10] w fun e w' => e = .returned (.string (strL [49])) ∧ w' = w := by
  go_enter Tryz.func51, Tryz.ntmps51
  go_wp2
  go_ret
  exact ⟨rfl, rfl⟩
set_option maxRecDepth 100000 in
theorem fmt_ten (w : World) :
    Calls Tryz.prog 51 #[.int .u64 10, .int .i64 10] w fun e w' => e = .returned (.string (strL [49, 48])) ∧ w' = w := by
  go_enter Tryz.func51, Tryz.ntmps51
  go_wp2
  go_ret
  exact ⟨rfl, rfl⟩
end Go.Proofs.YtbhfoelnoddlkaaGreatDoor.D

