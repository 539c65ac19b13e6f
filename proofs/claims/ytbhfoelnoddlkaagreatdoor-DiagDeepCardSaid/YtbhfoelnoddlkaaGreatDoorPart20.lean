/-
  Of the proof that the law DiagDeep answers true at every row of bytes: a part, without conditions of its own.
-/
import Derived.Test.YtbhfoelnoddlkaaGreatDoorPart19
import Derived.Test.YtbhfoelnoddlkaaGreatDoorPart04
import Derived.Test.YtbhfoelnoddlkaaGreatDoorPart06
import Derived.Test.YtbhfoelnoddlkaaGreatDoorPart18
set_option linter.unusedVariables false
set_option linter.unusedSimpArgs false
/-
  The writer: kids: walked, its kids by hypothesis.
-/
namespace Go.Proofs.YtbhfoelnoddlkaaGreatDoor.D
open Go Go.RowKit Limb

theorem Wk.alloc {B p : Nat} {w : World} (hB : B ≤ w.heap.size) (o : Obj) : Wk B p w (w.alloc o) := Wk.of_below ((Below.refl _ _).alloc (Nat.le_refl _) _) hB
theorem Wr.alloc {B p : Nat} {most : Int} {L : List UInt8} {w : World} (h : Wr B p most L w) (o : Obj) : Wr B p most L (w.alloc o) := BIs.below h ((Below.refl _ _).alloc (Nat.le_refl _) _)
theorem Wr.lt {B p : Nat} {most : Int} {L : List UInt8} {w : World} (h : Wr B p most L w) : p < w.heap.size := by
  obtain ⟨q, hb⟩ := h.at_
  exact hb.lt
theorem put_one (B p : Nat) (most : Int) (L s : List UInt8) (w : World) (h : Wr B p most L w) (hm : (((L ++ s).length : Nat) : Int) ≤ most) (hl : (L ++ s).length ≤ 140737488355328) (hB : B ≤ w.heap.size) :
    Calls Tryz.prog 46 #[.pointer (some ⟨p, 0, none⟩), .slice (some ⟨w.heap.size, 0, none⟩) 1 1] (w.alloc (.cells #[.string (strL s)] 9)) fun e w' => e = .returned (.tuple #[]) ∧ Wr B p most (L ++ s) w' ∧ Wk B p w w' := by
  have hc : catL (fun _ => s) 1 = s := rfl
  refine (put_any B p most L _ (h.alloc _) w.heap.size 1 1 (fun _ => s) _ _ (Blk.new w #[.string (strL s)] 9) (by have := h.lt; omega) (fun i hi => by
    have h0 : i = 0 := by omega
    subst h0
    rfl) (by omega) (by rw [hc]; exact hm) (by rw [hc]; exact hl) (by simp; omega)).mono ?_
  rintro e w' ⟨rfl, h1, h2⟩
  rw [hc] at h1
  exact ⟨rfl, h1, (Wk.alloc hB _).trans h2⟩
theorem put_three (B p : Nat) (most : Int) (L s0 s1 s2 : List UInt8) (w : World) (h : Wr B p most L w) (hm : (((L ++ (s0 ++ s1 ++ s2)).length : Nat) : Int) ≤ most) (hl : (L ++ (s0 ++ s1 ++ s2)).length ≤ 140737488355328) (hB : B ≤ w.heap.size) :
    Calls Tryz.prog 46 #[.pointer (some ⟨p, 0, none⟩), .slice (some ⟨w.heap.size, 0, none⟩) 3 3] (w.alloc (.cells #[.string (strL s0), .string (strL s1), .string (strL s2)] 9)) fun e w' => e = .returned (.tuple #[]) ∧ Wr B p most (L ++ (s0 ++ s1 ++ s2)) w' ∧ Wk B p w w' := by
  have hc : catL (fun i => if i = 0 then s0 else if i = 1 then s1 else s2) 3 = s0 ++ s1 ++ s2 := rfl
  refine (put_any B p most L _ (h.alloc _) w.heap.size 3 3 (fun i => if i = 0 then s0 else if i = 1 then s1 else s2) _ _ (Blk.new w #[.string (strL s0), .string (strL s1), .string (strL s2)] 9) (by have := h.lt; omega) (fun i hi => by
    match i, hi with
    | 0, _ => rfl
    | 1, _ => rfl
    | 2, _ => rfl) (by omega) (by rw [hc]; exact hm) (by rw [hc]; exact hl) (by simp; omega)).mono ?_
  rintro e w' ⟨rfl, h1, h2⟩
  rw [hc] at h1
  exact ⟨rfl, h1, (Wk.alloc hB _).trans h2⟩

theorem pick0 (w : World) (a b : Value) : (Instr.index 90 (.agg #[a, b]) (.int .i64 0)).run Tryz.prog w = .ok a w := by kernel_rfl
theorem pick1 (w : World) (a b : Value) : (Instr.index 90 (.agg #[a, b]) (.int .i64 1)).run Tryz.prog w = .ok b w := by kernel_rfl
/-- What writer.value does with a value of this shape. -/
def WV (most : Int) (f : F) : Prop := ∀ (d : Nat) (v : Value) (w : World) (B p N : Nat) (L : List UInt8), N ≤ B → B ≤ w.heap.size → 21 < B → GW w → Tree w N f d v → Wr B p most L w → (((L ++ f.txt).length : Nat) : Int) ≤ most → (L ++ f.txt).length ≤ 140737488355328 →
  Calls Tryz.prog 22 #[.pointer (some ⟨p, 0, none⟩), v] w fun e w' => e = .returned (.tuple #[]) ∧ Wr B p most (L ++ f.txt) w' ∧ Wk B p w w'
theorem kidsT_le (one two : List UInt8) (m : Nat) (fs : Nat → F) : ∀ (n k : Nat), k ≤ n → (kidsT one two m fs k).length ≤ (kidsT one two m fs n).length
  | 0, k, h => by obtain rfl : k = 0 := by omega
                  exact Nat.le_refl _
  | n + 1, k, h => by
    rcases Nat.lt_or_ge k (n + 1) with h1 | h1
    · have := kidsT_le one two m fs n k (by omega)
      rw [kidsT, List.length_append, List.length_append]; omega
    · obtain rfl : k = n + 1 := by omega
      exact Nat.le_refl _

set_option maxRecDepth 100000 in
set_option maxHeartbeats 2000000 in
theorem kids_any (most : Int) (N B p m b o cap : Nat) (xs : Nat → Array Value) (ds : Nat → Nat) (fs : Nat → F) (one two opn sht L : List UInt8) (w : World) (hNB : N ≤ B) (hB : B ≤ w.heap.size) (hB2 : 21 < B) (hG : GW w) (hW : Wr B p most L w) (hrow : VRow w b o m xs) (hbN : b < N) (hm3 : m ≤ 3)
    (hkid : ∀ i, i < m → Tree w N (fs i) (ds i) (.agg (xs i))) (hIH : ∀ i, i < m → WV most (fs i)) (hm : (((L ++ opn ++ kidsT one two m fs m ++ sht).length : Nat) : Int) ≤ most) (hl : (L ++ opn ++ kidsT one two m fs m ++ sht).length ≤ 140737488355328) :
    Calls Tryz.prog 50 #[.pointer (some ⟨p, 0, none⟩), .string (strL opn), .string (strL sht), .slice (some ⟨b, o, none⟩) m cap, .string (strL one), .string (strL two)] w fun e w' => e = .returned (.tuple #[]) ∧ Wr B p most (L ++ opn ++ kidsT one two m fs m ++ sht) w' ∧ Wk B p w w' := by
  have HROW := Lib.hid hrow
  have HKID := Lib.hid hkid
  have HIH := Lib.hid hIH
  have HG := Lib.hid hG
  have HM := Lib.hid hm
  have HL := Lib.hid hl
  have hsum : (L ++ opn ++ kidsT one two m fs m ++ sht).length = L.length + opn.length + (kidsT one two m fs m).length + sht.length := by simp only [List.length_append]
  have HSUM := Lib.hid hsum
  have HP := Lib.hid (put_one B p most L opn w hW (by rw [hsum] at hm; rw [List.length_append]; omega) (by rw [hsum] at hl; rw [List.length_append]; omega) hB)
  clear hrow hkid hIH hG hm hl hsum hW
  go_enter Tryz.func50, Tryz.ntmps50
  go_wp2_with fail
  refine HP.out.mono ?_
  rintro e w1 ⟨rfl, hw1, hk1⟩
  have HW1 := Lib.hid hw1
  have HK1 := Lib.hid hk1
  clear hw1 hk1 HP
  go_wp2
  go_loopw [12, 13, 20] (fun _ _ i wr => ∃ k : Nat, k ≤ m ∧ i = .int .i64 k ∧ Hid (Wr B p most (L ++ opn ++ kidsT one two m fs k) wr) ∧ Hid (Wk B p w wr)) (fun _ _ i _ => m - (intOf i).toNat)
  case atStart => exact ⟨0, by omega, rfl, by rw [kidsT, List.append_nil]; exact HW1, HK1⟩
  case round =>
    clear HW1 HK1
    obtain ⟨k, hkm, rfl, HWr, HKr⟩ := hrel
    have hsz := HKr.out.2.1
    have HBe := Lib.hid HKr.out.1
    by_cases h1 : k < m
    · have hTk := Tree.below (HBe.out.mono hNB) _ _ _ (HKID.out k h1)
      obtain ⟨hx8, hxc⟩ := (HROW.out.below (HBe.out.mono hNB) hbN) k h1
      obtain ⟨kind', nn', mb', mn', mc', bits', ext', text', kb', kn', kc', hxk⟩ := hTk.cells
      have HTK := Lib.hid hTk
      simp only [Value.agg.injEq] at hxk
      rw [hxk] at hxc HTK
      have d0 := hxc 0 (by omega)
      have d1 := hxc 1 (by omega)
      have d2 := hxc 2 (by omega)
      have d3 := hxc 3 (by omega)
      have d4 := hxc 4 (by omega)
      have d5 := hxc 5 (by omega)
      have d6 := hxc 6 (by omega)
      have d7 := hxc 7 (by omega)
      simp only [vCells, List.getElem?_toArray, List.getElem?_cons_zero, List.getElem?_cons_succ, Nat.add_zero] at d0 d1 d2 d3 d4 d5 d6 d7
      clear hx8 hxc hxk hTk
      have g1 : (k : Int) < (m : Int) := by omega
      have hby : Below wr.heap.size wr (wr.alloc (.cells (vCells kind' nn' false (.slice mb' mn' mc') bits' ext' (strL text') (.slice kb' kn' kc')) 33)) := (Below.refl _ _).alloc (Nat.le_refl _) _
      have hbl := Blk.new wr (vCells kind' nn' false (.slice mb' mn' mc') bits' ext' (strL text') (.slice kb' kn' kc')) 33
      have hNr : N ≤ wr.heap.size := by omega
      have hle1 := kidsT_le one two m fs m (k + 1) h1
      have hks : (kidsT one two m fs (k + 1)).length = (kidsT one two m fs k).length + (fs k).txt.length + (if k + 1 < m then (if k % 2 = 1 then two else one) else []).length := by rw [kidsT, List.length_append, List.length_append]
      have hgw := (HG.out.below HBe.out hB2).step hby
      have HQ := Lib.hid (HIH.out k h1 (ds k) _ _ B p N (L ++ opn ++ kidsT one two m fs k) hNB (Nat.le_trans (Nat.le_trans hB hsz) hby.size) hB2 hgw (Tree.below (hby.mono hNr) _ _ _ HTK.out) (HWr.out.alloc _) (by
        have := HM.out; rw [HSUM.out] at this
        rw [List.length_append, List.length_append, List.length_append]; omega) (by
        have := HL.out; rw [HSUM.out] at this
        rw [List.length_append, List.length_append, List.length_append]; omega))
      have HS1 : Hid (L ++ opn ++ kidsT one two m fs (k + 1) = L ++ opn ++ kidsT one two m fs k ++ (fs k).txt ++ (if k + 1 < m then (if k % 2 = 1 then two else one) else [])) := Lib.hid (by rw [kidsT]; simp only [List.append_assoc])
      have HLE : Hid ((L ++ opn ++ kidsT one two m fs (k + 1)).length ≤ (L ++ opn ++ kidsT one two m fs m ++ sht).length) := Lib.hid (by rw [HSUM.out, List.length_append, List.length_append]; omega)
      have HBY := Lib.hid hby
      have HBL := Lib.hid hbl
      clear hby hbl hgw hle1 hks
      go_upto_region 4 with fail
      change Code.wp _ _ _ _ (wr.alloc (.cells (vCells kind' nn' false (.slice mb' mn' mc') bits' ext' (strL text') (.slice kb' kn' kc')) 33))
      clear d0 d1 d2 d3 d4 d5 d6 d7
      refine wp_region_lit ?_
      iterate 3 go_step
      refine wpList_load_row rfl 33 _ rfl wr.heap.size rfl 33 _ (0, 0) _ HBL.out Tryz.underlying33 rfl (by kernel_rfl) ?_
      go_wp2_with fail
      refine HQ.out.mono ?_
      rintro e w5 ⟨rfl, hw5, hk5⟩
      have HW5 := Lib.hid hw5
      have HK5 := Lib.hid (HKr.out.trans ((Wk.alloc (by omega) _).trans hk5))
      clear hw5 hk5 HQ HTK HBY HBL HWr HKr
      by_cases h2 : k + 1 < m
      · have g2 : (k : Int) + 1 < (m : Int) := by omega
        have hB5 : B ≤ w5.heap.size := Nat.le_trans hB HK5.out.2.1
        rw [if_pos h2] at HS1
        have HL1 : Hid ((((L ++ opn ++ kidsT one two m fs (k + 1)).length : Nat) : Int) ≤ most ∧ (L ++ opn ++ kidsT one two m fs (k + 1)).length ≤ 140737488355328) := Lib.hid ⟨by have := HLE.out; have := HM.out; omega, by have := HLE.out; have := HL.out; omega⟩
        rw [HS1.out] at HL1
        rcases (by omega : k = 0 ∨ k = 1) with rfl | rfl
        · rw [if_neg (by decide)] at HS1 HL1
          have HP := Lib.hid (put_one B p most _ one w5 HW5.out HL1.out.1 HL1.out.2 hB5)
          have ha : bits .and .i64 0 1 = 0 := by decide
          have hi := fun w => pick0 w (.string (strL one)) (.string (strL two))
          clear HL1 HLE
          go_wp2_with fail
          refine HP.out.mono ?_
          rintro e w6 ⟨rfl, hw6, hk6⟩
          rw [← HS1.out] at hw6
          have HW6 := Lib.hid hw6
          have HK6 := Lib.hid (HK5.out.trans hk6)
          clear hw6 hk6 HP HW5 HK5
          go_wp2
          go_roundw
          case rel => exact ⟨1, by omega, by simp, HW6, HK6⟩
          case measure => simp [intOf]; omega
        · rw [if_pos (by decide)] at HS1 HL1
          have HP := Lib.hid (put_one B p most _ two w5 HW5.out HL1.out.1 HL1.out.2 hB5)
          have ha : bits .and .i64 1 1 = 1 := by decide
          have hi := fun w => pick1 w (.string (strL one)) (.string (strL two))
          clear HL1 HLE
          go_wp2_with fail
          refine HP.out.mono ?_
          rintro e w6 ⟨rfl, hw6, hk6⟩
          rw [← HS1.out] at hw6
          have HW6 := Lib.hid hw6
          have HK6 := Lib.hid (HK5.out.trans hk6)
          clear hw6 hk6 HP HW5 HK5
          go_wp2
          go_roundw
          case rel => exact ⟨2, by omega, by simp, HW6, HK6⟩
          case measure => simp [intOf]; omega
      · have g2 : ¬ (k : Int) + 1 < (m : Int) := by omega
        rw [if_neg h2, List.append_nil] at HS1
        rw [← HS1.out] at HW5
        clear HLE
        go_wp2
        go_roundw
        case rel => exact ⟨k + 1, by omega, by simp, HW5, HK5⟩
        case measure => simp [intOf]; omega
    · obtain rfl : k = m := by omega
      have g1 : ¬ (k : Int) < (k : Int) := by omega
      have HP := Lib.hid (put_one B p most _ sht wr HWr.out HM.out HL.out (Nat.le_trans hB hsz))
      clear HWr
      go_wp2_with fail
      refine HP.out.mono ?_
      rintro e w2 ⟨rfl, hw2, hk2⟩
      have HW2 := Lib.hid hw2
      have HK2 := Lib.hid (HKr.out.trans hk2)
      clear hw2 hk2 HP HKr
      go_wp2
      go_end0
      exact ⟨rfl, HW2.out, HK2.out⟩
end Go.Proofs.YtbhfoelnoddlkaaGreatDoor.D

/-
  nat.Mul of two numbers of one limb each, their product of one limb: walked.
-/
namespace Go.Proofs.YtbhfoelnoddlkaaGreatDoor.D
open Go Go.RowKit Limb

theorem Limbs.one {w : World} {v : Value} {a : Nat} (h : Limbs w v [a]) : ∃ b off cap, v = .slice (some ⟨b, off, none⟩) 1 cap ∧ b < w.heap.size ∧ 1 ≤ cap ∧ a < 4294967296 ∧ w.cell? ⟨b, off, none⟩ = some (.int .u32 (a : Nat)) := by
  obtain ⟨hf, ⟨_, h0⟩ | ⟨blk, off, cap, hv, h1, h2, h3, h4⟩⟩ := h
  · simp at h0
  · exact ⟨blk, off, cap, hv, h3, h1, hf a (by simp), h4 0 (by simp)⟩
theorem Blk.limbs {w : World} {g n : Nat} {l : List Nat} (h : Blk w g (uCells l) 140) (hf : Fit l) (hn : n = l.length) (hn2 : n ≤ 9223372036854775807) : Limbs w (.slice (some ⟨g, 0, none⟩) n n) l := by
  subst hn
  exact ⟨hf, .inr ⟨g, 0, l.length, rfl, Nat.le_refl _, hn2, h.lt, fun i hi => by rw [h.cell, Nat.zero_add, uCells_at l i hi]⟩⟩
theorem trim_one (a : Nat) (h : 0 < a) : trim [a] = [a] := by
  have : a ≠ 0 := by omega
  simp [trim, top, this]
theorem trim_two0 (a : Nat) (h : 0 < a) : trim [a, 0] = [a] := by
  have : a ≠ 0 := by omega
  simp [trim, top, this]
set_option maxRecDepth 100000 in
theorem mul_one (w : World) (v v2 : Value) (a b : Nat) (h : Limbs w v [a]) (h2 : Limbs w v2 [b]) (ha : 0 < a) (hb : 0 < b) (hab : a * b < 4294967296) :
    Calls Tryz.prog 177 #[v, v2] w fun e w' => Below w.heap.size w w' ∧ ∃ v', e = .returned v' ∧ Limbs w' v' [a * b] := by
  have HC1 := Lib.hid (cut_any w v [a] h)
  have HC2 := Lib.hid (cut_any w v2 [b] h2)
  have hmk := make_nat w 2 (by decide)
  have hmk : (Instr.makeSlice 28 (.int .i64 2) (.int .i64 2)).run Tryz.prog w = .ok (.slice (some ⟨w.heap.size, 0, none⟩) 2 2) (w.alloc (.cells (uCells (List.replicate 2 0)) 140)) := hmk
  obtain ⟨w1, hw1⟩ : ∃ w1, w1 = w.alloc (.cells (uCells (List.replicate 2 0)) 140) := ⟨_, rfl⟩
  have hb1 : Below w.heap.size w w1 := by rw [hw1]; exact (Below.refl _ _).alloc (Nat.le_refl _) _
  have hB1 : Blk w1 w.heap.size #[.int .u32 0, .int .u32 0] 140 := by rw [hw1]; exact Blk.new _ _ _
  rw [← hw1] at hmk
  have HB1 := Lib.hid hb1
  have HBL1 := Lib.hid hB1
  have hp0 : 0 < a * b := Nat.mul_pos ha hb
  have HP := Lib.hid hab
  obtain ⟨P, hP⟩ : ∃ P, P = a * b := ⟨_, rfl⟩
  rw [← hP] at hp0 HP ⊢
  have hPI : (a : Int) * (b : Int) = (P : Int) := by rw [hP]; simp
  have ha2 : a < 4294967296 := h.1 a (by simp)
  have hb2 : b < 4294967296 := h2.1 b (by simp)
  have HA := Lib.hid ha
  have HBB := Lib.hid hb
  clear h h2 hw1 hb1 hB1 hP hab ha hb
  go_enter Tryz.func177, Tryz.ntmps177
  go_wp2_with fail
  refine HC1.out.mono ?_
  rintro r w2 ⟨rfl, u, rfl, hu⟩
  have HU := Lib.hid hu
  clear hu
  go_wp2_with fail
  refine HC2.out.mono ?_
  rintro r w3 ⟨rfl, u2, rfl, hu2⟩
  have hu := HU.out
  rw [trim_one a HA.out] at hu
  rw [trim_one b HBB.out] at hu2
  obtain ⟨b1, o1, k1, rfl, hlt1, hk1, _, hc1⟩ := hu.one
  obtain ⟨b2, o2, k2, rfl, hlt2, hk2, _, hc2⟩ := hu2.one
  have d1 := (HB1.out.cell (p := ⟨b1, o1, none⟩) hlt1).trans hc1
  have d2 := (HB1.out.cell (p := ⟨b2, o2, none⟩) hlt2).trans hc2
  have e0 : w1.cell? ⟨w3.heap.size, 0, none⟩ = some (.int .u32 0) := HBL1.out.cell 0
  have e1 : w1.cell? ⟨w3.heap.size, 1, none⟩ = some (.int .u32 0) := HBL1.out.cell 1
  have f0 := HBL1.out.free 0
  have f1 := HBL1.out.free 1
  clear hc1 hc2 hu hu2 HU HC1 HC2
  have g1 : IntKind.u64.wrap (P : Int) = (P : Int) := by have := HP.out; rw [IntKind.wrap_u64]; omega
  have g2 : (P : Int) % 4294967296 = (P : Int) := by have := HP.out; omega
  have g3 : (P : Int) / 4294967296 = 0 := by have := HP.out; omega
  go_upto_region 4 with fail
  refine wp_loop_rounds 2 ?_
  rw [rounds_succ]
  go_upto_region 8 with fail
  refine wp_loop_rounds 2 ?_
  rw [rounds_succ]
  go_upto_region 10 with fail
  go_quiet (fail)
  go_wp2
  rw [rounds_succ]
  go_wp2
  rw [rounds_succ]
  go_wp2_with fail
  have hfin : Blk (((w1.drewN nq).setCell ⟨w3.heap.size, 0, none⟩ (.int .u32 (P : Int))).setCell ⟨w3.heap.size, 1, none⟩ (.int .u32 0)) w3.heap.size (uCells [P, 0]) 140 := ((HBL1.out.drewN nq).set 0 _).set 1 _
  have hbf : Below w3.heap.size w3 (((w1.drewN nq).setCell ⟨w3.heap.size, 0, none⟩ (.int .u32 (P : Int))).setCell ⟨w3.heap.size, 1, none⟩ (.int .u32 0)) := ((below_drewN HB1.out nq).setCell (Nat.le_refl _) _).setCell (Nat.le_refl _) _
  have hlf := hfin.limbs (n := 2) (fun x hx => by have := HP.out; simp at hx; omega) rfl (by decide)
  have HBF := Lib.hid hbf
  have HCF := Lib.hid (cut_any _ _ _ hlf)
  rw [trim_two0 P hp0] at HCF
  clear hfin hbf hlf
  refine HCF.out.mono ?_
  rintro r w5 ⟨rfl, v', rfl, hl'⟩
  have HLL := Lib.hid hl'
  clear hl'
  go_wp2
  go_ret
  exact ⟨HBF.out, _, rfl, HLL.out⟩
end Go.Proofs.YtbhfoelnoddlkaaGreatDoor.D

/-
  Sums and products of lists of limbs, by their steps: plain Lean.
-/
namespace Go.Proofs.YtbhfoelnoddlkaaGreatDoor.D
open Limb

theorem val_set (o : List Nat) (j x : Nat) (h : j < o.length) : val (o.set j x) + 4294967296 ^ j * o.getD j 0 = val o + 4294967296 ^ j * x := by
  induction o generalizing j with
  | nil => simp at h
  | cons y r ih =>
    cases j with
    | zero => simp [val]; omega
    | succ j =>
      have := ih j (by simpa using h)
      rw [List.set_cons_succ, val, val, List.getD_cons_succ, Nat.pow_succ, Nat.mul_comm (4294967296 ^ j) 4294967296, Nat.mul_assoc, Nat.mul_assoc]
      omega
theorem fit_set {o : List Nat} (h : Fit o) (j x : Nat) (hx : x < 4294967296) : Fit (o.set j x) := by
  intro y hy
  rcases List.mem_or_eq_of_mem_set hy with h1 | h1
  · exact h y h1
  · omega
theorem val_split (l : List Nat) (k : Nat) (h : k ≤ l.length) : val l = val (l.take k) + 4294967296 ^ k * val (l.drop k) := by
  have := val_append (l.take k) (l.drop k)
  rw [List.take_append_drop, List.length_take, Nat.min_eq_left h] at this
  exact this
theorem getD_le_val (l : List Nat) (k : Nat) (h : k < l.length) : 4294967296 ^ k * l.getD k 0 ≤ val l := by
  rw [val_split l k (by omega), drop_at l k h, val, Nat.mul_add]
  omega
theorem getD_zero_of_val {l : List Nat} {k : Nat} (h : k < l.length) (hv : val l < 4294967296 ^ k) : l.getD k 0 = 0 := by
  have := getD_le_val l k h
  rcases Nat.eq_zero_or_pos (l.getD k 0) with h0 | h0
  · exact h0
  · have : 4294967296 ^ k * 1 ≤ 4294967296 ^ k * l.getD k 0 := Nat.mul_le_mul_left _ h0
    omega
theorem val_lt_of_top {a b : List Nat} (ha : Fit a) (k : Nat) (h1 : k < a.length) (h2 : k < b.length) (hd : a.drop (k + 1) = b.drop (k + 1)) (hk : a.getD k 0 < b.getD k 0) : val a < val b := by
  rw [val_split a k (by omega), val_split b k (by omega), drop_at a k h1, drop_at b k h2, hd, val, val]
  have h3 := val_lt (fit_take ha k)
  rw [List.length_take, Nat.min_eq_left (by omega)] at h3
  generalize val (a.take k) = x at *
  generalize val (b.take k) = y at *
  generalize val (b.drop (k + 1)) = z at *
  have : 4294967296 ^ k * (a.getD k 0 + 4294967296 * z) + 4294967296 ^ k ≤ 4294967296 ^ k * (b.getD k 0 + 4294967296 * z) := by
    rw [← Nat.mul_succ]
    exact Nat.mul_le_mul_left _ (by omega)
  omega
/-- One step of the inner loop of the product. -/
theorem mul_step (o a b : List Nat) (i k carry P : Nat) (hk : k < b.length) (ho : i + k < o.length) (hv : val o + 4294967296 ^ (i + k) * carry = P + a.getD i 0 * val (b.take k) * 4294967296 ^ i) :
    val (o.set (i + k) ((carry + (a.getD i 0 * b.getD k 0 + o.getD (i + k) 0)) % 4294967296)) + 4294967296 ^ (i + (k + 1)) * ((carry + (a.getD i 0 * b.getD k 0 + o.getD (i + k) 0)) / 4294967296) = P + a.getD i 0 * val (b.take (k + 1)) * 4294967296 ^ i := by
  have h1 := val_set o (i + k) ((carry + (a.getD i 0 * b.getD k 0 + o.getD (i + k) 0)) % 4294967296) ho
  have h2 := val_snoc b k hk
  have h3 := Nat.div_add_mod (carry + (a.getD i 0 * b.getD k 0 + o.getD (i + k) 0)) 4294967296
  rw [h2]
  rw [show i + (k + 1) = (i + k) + 1 by omega, Nat.pow_succ, Nat.pow_add] at *
  generalize (carry + (a.getD i 0 * b.getD k 0 + o.getD (i + k) 0)) % 4294967296 = m at *
  generalize (carry + (a.getD i 0 * b.getD k 0 + o.getD (i + k) 0)) / 4294967296 = q at *
  generalize val (o.set (i + k) m) = V at *
  generalize 4294967296 ^ i = A at *
  generalize 4294967296 ^ k = K at *
  generalize val (b.take k) = vb at *
  generalize o.getD (i + k) 0 = ok at *
  generalize a.getD i 0 = ai at *
  generalize b.getD k 0 = bk at *
  grind
theorem mul_last (o a b : List Nat) (i carry P : Nat) (ho : i + b.length < o.length) (hz : o.getD (i + b.length) 0 = 0) (hi : i < a.length)
    (hP : P = val (a.take i) * val b) (hv : val o + 4294967296 ^ (i + b.length) * carry = P + a.getD i 0 * val (b.take b.length) * 4294967296 ^ i) :
    val (o.set (i + b.length) carry) = val (a.take (i + 1)) * val b := by
  have h1 := val_set o (i + b.length) carry ho
  rw [hz] at h1
  rw [List.take_length] at hv
  rw [val_snoc a i hi]
  generalize val (o.set (i + b.length) carry) = V at *
  grind
theorem carry_lt {c x y o : Nat} (hc : c < 4294967296) (hx : x < 4294967296) (hy : y < 4294967296) (ho : o < 4294967296) : c + (x * y + o) < 18446744073709551616 := by
  have : x * y ≤ 4294967295 * 4294967295 := Nat.mul_le_mul (by omega) (by omega)
  omega
theorem mul_zero_at (o a b : List Nat) (i : Nat) (hb : Fit b) (ha : Fit a) (hi : i + b.length < o.length) (hi2 : i < a.length) (hv : val o = val (a.take i) * val b) : o.getD (i + b.length) 0 = 0 := by
  apply getD_zero_of_val hi
  rw [hv, Nat.pow_add]
  have h1 := val_lt (fit_take ha i)
  rw [List.length_take, Nat.min_eq_left (by omega)] at h1
  exact Nat.mul_lt_mul'' h1 (val_lt hb)
theorem val_take_succ (b : List Nat) (i : Nat) : val (b.take (i + 1)) = val (b.take i) + 4294967296 ^ i * b.getD i 0 := by
  rcases Nat.lt_or_ge i b.length with h | h
  · exact val_snoc b i h
  · rw [List.take_of_length_le (by omega), List.take_of_length_le h, List.getD_eq_getElem?_getD, List.getElem?_eq_none h]
    simp
theorem take_set_succ (o : List Nat) (i x : Nat) (h : i < o.length) : val ((o.set i x).take (i + 1)) = val (o.take i) + 4294967296 ^ i * x := by
  rw [val_take_succ, List.take_set_of_le (Nat.le_refl i), List.getD_eq_getElem?_getD, List.getElem?_set_self h]
  rfl
theorem add_step (o a b : List Nat) (i c : Nat) (ho : i < o.length) (hv : val (o.take i) + 4294967296 ^ i * c = val (a.take i) + val (b.take i)) :
    val ((o.set i ((a.getD i 0 + b.getD i 0 + c) % 4294967296)).take (i + 1)) + 4294967296 ^ (i + 1) * ((a.getD i 0 + b.getD i 0 + c) / 4294967296) = val (a.take (i + 1)) + val (b.take (i + 1)) := by
  rw [take_set_succ o i _ ho, val_take_succ a, val_take_succ b]
  have h3 := Nat.div_add_mod (a.getD i 0 + b.getD i 0 + c) 4294967296
  rw [Nat.pow_succ]
  generalize (a.getD i 0 + b.getD i 0 + c) % 4294967296 = m at *
  generalize (a.getD i 0 + b.getD i 0 + c) / 4294967296 = q at *
  grind
theorem add_last (o a b : List Nat) (n c : Nat) (ho : o.length = n + 1) (ha : a.length = n) (hb : b.length ≤ n) (hv : val (o.take n) + 4294967296 ^ n * c = val (a.take n) + val (b.take n)) :
    val (o.set n c) = val a + val b := by
  have h1 := take_set_succ o n c (by omega)
  rw [List.take_of_length_le (by simp; omega)] at h1
  rw [h1, hv, List.take_of_length_le (by omega), List.take_of_length_le hb]
/-- A list of limbs moved up by r digits, r below 32; p: the limb ahead of it. -/
def shL (r : Nat) : Nat → List Nat → List Nat
  | _, [] => []
  | p, x :: t => ((x * 2 ^ r) % 4294967296 + p / 2 ^ (32 - r)) :: shL r x t
theorem shL_length (r p : Nat) (l : List Nat) : (shL r p l).length = l.length := by
  induction l generalizing p with
  | nil => rfl
  | cons x t ih => simp [shL, ih]
theorem shl_limb (r x : Nat) (hr : r ≤ 32) : x * 2 ^ r = 4294967296 * (x / 2 ^ (32 - r)) + x * 2 ^ r % 4294967296 := by
  have h1 : (4294967296 : Nat) = 2 ^ (32 - r) * 2 ^ r := by rw [← Nat.pow_add, show 32 - r + r = 32 by omega]
  have h2 : x * 2 ^ r / 4294967296 = x / 2 ^ (32 - r) := by rw [h1, Nat.mul_div_mul_right _ _ (Nat.two_pow_pos r)]
  rw [← h2]
  exact (Nat.div_add_mod _ _).symm
theorem shL_val (r p : Nat) (l : List Nat) (hr : r ≤ 32) (hl : (p :: l).getLast? = some 0) : val (shL r p l) = 2 ^ r * val l + p / 2 ^ (32 - r) := by
  induction l generalizing p with
  | nil =>
    simp at hl
    subst hl
    simp [shL, val]
  | cons x t ih =>
    rw [shL, val, val, ih x (by simpa using hl)]
    have := shl_limb r x hr
    generalize x * 2 ^ r % 4294967296 = m at *
    generalize x / 2 ^ (32 - r) = q at *
    grind
theorem shL_getD (r p : Nat) (l : List Nat) (k : Nat) (h : k < l.length) : (shL r p l).getD k 0 = (l.getD k 0 * 2 ^ r) % 4294967296 + (if k = 0 then p else l.getD (k - 1) 0) / 2 ^ (32 - r) := by
  induction l generalizing p k with
  | nil => simp at h
  | cons x t ih =>
    cases k with
    | zero => simp [shL]
    | succ k =>
      rw [shL, List.getD_cons_succ, ih x k (by simpa using h), List.getD_cons_succ]
      cases k with
      | zero => simp
      | succ k => simp
theorem shl_low (r x : Nat) (hr : r ≤ 32) : ∃ m, (x * 2 ^ r) % 4294967296 = m * 2 ^ r := by
  have h1 : (4294967296 : Nat) = 2 ^ (32 - r) * 2 ^ r := by rw [← Nat.pow_add, show 32 - r + r = 32 by omega]
  rw [h1, Nat.mul_mod_mul_right]
  exact ⟨_, rfl⟩
theorem shr_high (r y : Nat) (hr : r ≤ 32) (hy : y < 4294967296) : y / 2 ^ (32 - r) < 2 ^ r := by
  apply Nat.div_lt_of_lt_mul
  rw [← Nat.pow_add, show 32 - r + r = 32 by omega]
  exact hy
theorem shL_fit (r p : Nat) (l : List Nat) (hr : r ≤ 32) (hp : p < 4294967296) (hf : Fit l) : Fit (shL r p l) := by
  induction l generalizing p with
  | nil => intro x hx; simp [shL] at hx
  | cons x t ih =>
    intro y hy
    simp only [shL, List.mem_cons] at hy
    rcases hy with rfl | hy
    · have h1 := Nat.mod_lt (x * 2 ^ r) (show 4294967296 > 0 by decide)
      have h2 := shr_high r p hr hp
      obtain ⟨m, hm⟩ := shl_low r x hr
      rw [hm] at h1 ⊢
      have h3 : (4294967296 : Nat) = 2 ^ (32 - r) * 2 ^ r := by rw [← Nat.pow_add, show 32 - r + r = 32 by omega]
      have h4 : m < 2 ^ (32 - r) := by
        rw [h3] at h1
        exact Nat.lt_of_mul_lt_mul_right h1
      have h5 : m * 2 ^ r + 2 ^ r ≤ 2 ^ (32 - r) * 2 ^ r := by
        rw [← Nat.succ_mul]
        exact Nat.mul_le_mul_right _ h4
      rw [← h3] at h5
      omega
    · exact ih x (hf x (by simp)) (fun z hz => hf z (by simp [hz])) y hy
theorem set_mid (o S : List Nat) (k y : Nat) (h : k < o.length) : (o.take (k + 1) ++ S).set k y = o.take k ++ y :: S := by
  rw [List.set_append_left _ _ (by simp; omega), List.take_succ_eq_append_getElem h, List.set_append_right _ _ (by simp; omega)]
  simp [Nat.min_eq_left (Nat.le_of_lt h)]
theorem val_zeros (d : Nat) (a : List Nat) : val (List.replicate d 0 ++ (a ++ [0])) = 4294967296 ^ d * val a := by
  have h0 : ∀ d, val (List.replicate d 0) = 0 := by
    intro d
    induction d with
    | zero => rfl
    | succ d ih => rw [List.replicate_succ, val, ih]
  rw [val_append, val_append, h0]
  simp [val]
theorem shl_total (n : Nat) (a : List Nat) : 2 ^ (n % 32) * (4294967296 ^ (n / 32) * val a) = val a * 2 ^ n := by
  rw [show (4294967296 : Nat) = 2 ^ 32 from rfl, ← Nat.pow_mul, ← Nat.mul_assoc, ← Nat.pow_add, show n % 32 + 32 * (n / 32) = n by omega, Nat.mul_comm]
end Go.Proofs.YtbhfoelnoddlkaaGreatDoor.D

