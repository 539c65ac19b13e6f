/-
  Of the proof that the law DiagDeep answers true at every row of bytes: a part, without conditions of its own.
-/
import Derived.Test.YtbhfoelnoddlkaaGreatDoorPart10
import Derived.Test.YtbhfoelnoddlkaaGreatDoorPart12
set_option linter.unusedVariables false
set_option linter.unusedSimpArgs false
/-
  quot.Read of up to nine digits: walked.
-/
namespace Go.Proofs.YtbhfoelnoddlkaaGreatDoor.D
open Go Go.RowKit Limb

attribute [local go_sem high] run_str strL_size run_sub run_sub_from

/-- The number that the first k of these digits say. -/
def dec (S : List UInt8) : Nat → Nat
  | 0 => 0
  | k + 1 => dec S k * 10 + ((S.getD k 0).toNat - 48)
set_option maxRecDepth 100000 in
set_option maxHeartbeats 1000000 in
theorem quot_read (w : World) (S : List UInt8) (h1 : 1 ≤ S.length) (h9 : S.length ≤ 9) (hd : ∀ i, i < S.length → 48 ≤ (S.getD i 0).toNat ∧ (S.getD i 0).toNat ≤ 57) (h0 : (S.getD 0 0).toNat ≠ 48) :
    Calls Tryz.prog 66 #[.string (strL S)] w fun e w' => Below w.heap.size w w' ∧ ∃ v, e = .returned (.tuple #[v, .bool true]) ∧ Limbs w' v (limbs (dec S S.length)) := by
  have HD := Lib.hid hd
  clear hd
  go_enter Tryz.func66, Tryz.ntmps66
  go_upto_region 1 with fail
  have hi0 := fun w => run_str w S 0 (by omega)
  simp only [Int.ofNat_zero] at hi0
  have HDL : Hid (∀ k, k ≤ S.length → dec S k < 10 ^ k) := Lib.hid (by
    intro k
    induction k with
    | zero => intro _; simp [dec]
    | succ k ih =>
      intro h
      have := ih (by omega)
      have hc := HD.out k (by omega)
      rw [dec, Nat.pow_succ]
      omega)
  have HDP : Hid (∀ k, 1 ≤ k → k ≤ S.length → 0 < dec S k) := Lib.hid (by
    intro k
    induction k with
    | zero => intro h; omega
    | succ k ih =>
      intro _ h
      have hc := HD.out 0 (by omega)
      rw [dec]
      rcases Nat.eq_zero_or_pos k with rfl | hk
      · omega
      · have := ih hk (by omega)
        omega)
  have htl : (strL S).toList = S := ByteArray.toList_eq _
  have hemp : S.isEmpty = false := by cases S with | nil => simp at h1 | cons => rfl
  have hz : ¬ ch S 0 = 48 := fun h => h0 (by unfold ch b8 at h; omega)
  go_wp2_with fail
  clear hi0 hemp hz htl
  go_loopw [24] (fun i wr => ∃ k : Nat, k ≤ S.length ∧ i = .int .i64 k ∧ wr = w) (fun i _ => S.length - (intOf i).toNat)
  case atStart => exact ⟨0, by omega, rfl, rfl⟩
  case round =>
    obtain ⟨k, hk, rfl, rfl⟩ := hrel
    by_cases h1 : k < S.length
    · have hc := HD.out k h1
      have g1 : (k : Int) < (S.length : Int) := by omega
      have g2 : ¬ ch S k < 48 := by unfold ch b8; omega
      have g3 : ¬ 57 < ch S k := by unfold ch b8; omega
      have hix := fun w => run_str w S k h1
      go_wp2_with fail
      exact ⟨⟨k + 1, by omega, by simp, trivial⟩, by simp [intOf]; omega⟩
    · obtain rfl : k = S.length := by omega
      have g1 : ¬ (S.length : Int) < (S.length : Int) := by omega
      go_wp2_with fail
      clear g1 h1
      go_loopw [5, 6] (fun v i w2 => (i = .int .i64 0 ∧ v = .slice none 0 0 ∧ w2 = wr) ∨ (i = .int .i64 S.length ∧ Hid (Below wr.heap.size wr w2) ∧ ∃ b n c l, v = .slice b n c ∧ Hid (Limbs w2 (.slice b n c) l ∧ l.length ≤ 1 ∧ val l = dec S S.length))) (fun _ i _ => S.length - (intOf i).toNat)
      case atStart => exact .inl ⟨rfl, rfl, rfl⟩
      case round =>
        rcases hrel with ⟨rfl, rfl, rfl⟩ | ⟨rfl, HB, b, n, c, l, rfl, HV⟩
        · have g1 : (0 : Int) < (S.length : Int) := by omega
          go_wp2_with fail
          go_loopw [6, 7, 8] (fun i t m w3 => ∃ k : Nat, k ≤ S.length ∧ i = .int .i64 k ∧ t = .int .u32 (dec S k : Nat) ∧ m = .int .u32 ((10 ^ k : Nat) : Int) ∧ w3 = wr) (fun i _ _ _ => S.length - (intOf i).toNat)
          case atStart => exact ⟨0, by omega, rfl, rfl, rfl, rfl⟩
          case round =>
            obtain ⟨k, hk, rfl, rfl, rfl, rfl⟩ := hrel
            by_cases h1 : k < S.length
            · have hc := HD.out k h1
              have g1 : (k : Int) < (S.length : Int) := by omega
              have hp : 10 ^ k ≤ 10 ^ 8 := Nat.pow_le_pow_right (by omega) (by omega)
              have hdk : dec S k < 10 ^ k := HDL.out k (by omega)
              have hix := fun w => run_str w S k h1
              generalize hP : (10 ^ k : Nat) = P at *
              have g2 : (P : Int) < 1000000000 := by omega
              go_wp2_with fail
              refine ⟨⟨k + 1, by omega, by simp, ?_, ?_, trivial⟩, by simp [intOf]; omega⟩
              · congr 1
                rw [dec]
                unfold ch b8
                omega
              · congr 1
                rw [Nat.pow_succ, hP]
                omega
            · obtain rfl : k = S.length := by omega
              have g1 : ¬ (S.length : Int) < (S.length : Int) := by omega
              go_wp2_with fail
              clear g1 h1
              go_loopw [9, 66] (fun r i w3 => r = .int .u64 (dec S S.length : Nat) ∧ i = .int .i64 0 ∧ w3 = wr) (fun _ _ _ => 0)
              case atStart =>
                have hdl := HDL.out S.length (Nat.le_refl _)
                have hp : 10 ^ S.length ≤ 10 ^ 9 := Nat.pow_le_pow_right (by omega) (by omega)
                exact ⟨by congr 1; exact IntWalk.u64_in _ (by omega), rfl, rfl⟩
              case round =>
                obtain ⟨rfl, rfl, rfl⟩ := hrel
                have hdp := HDP.out S.length (by omega) (Nat.le_refl _)
                have hdl := HDL.out S.length (Nat.le_refl _)
                have hp : 10 ^ S.length ≤ 10 ^ 9 := Nat.pow_le_pow_right (by omega) (by omega)
                generalize hx : dec S S.length = x at hdp hdl ⊢
                have HX := Lib.hid hx
                clear hx
                have g1 : (0 : Int) < (x : Int) := by omega
                go_upto_region 26 with fail
                have g2 : IntKind.u32.wrap (x : Int) = (x : Int) := IntWalk.u32_in _ (by omega)
                obtain ⟨i0, hi0, hz0, hs0, hb0⟩ := info32'
                refine wp_region_lit ?_
                iterate 12 go_step
                have hal := (Below.refl wr.heap.size wr).alloc (Nat.le_refl _) (.cells #[.int .u32 (x : Int)] 140)
                have hnw := Blk.new wr #[.int .u32 (x : Int)] 140
                generalize hWa : wr.alloc (.cells #[.int .u32 (x : Int)] 140) = wa at hal hnw ⊢
                have hlt : wr.heap.size < wa.heap.size := hnw.lt
                refine wpList_append_own _ rfl (.tmp 89) (.tmp 92) 28 rfl wr.heap.size 140 i0 _ 1 4 Tryz.underlying28 hi0 hz0 hs0 hb0 rfl (by decide) (.slice none 0 0) 0 [] rfl (World.ownsRow_nil _ _ _ _) ⟨wr.heap.size, 0, none⟩ 1 1 [.int .u32 (x : Int)] rfl rfl ?c1 ?c2 ?c3 ?c4 ?c5 ?_
                case c1 =>
                  intro j u hj
                  rw [add_plain', Nat.zero_add, hnw.cell j]
                  simpa using hj
                case c2 => intro u hu; simp at hu; subst hu; rfl
                case c3 => decide
                case c4 => decide
                case c5 => omega
                intro v' w7 hown hgrow hnn
                have hb7 : Below wr.heap.size wr w7 := hal.trans ⟨hgrow.os, hgrow.tape, hgrow.output, hgrow.size, fun k hk => hgrow.block k (by omega) (fun e => by simp [Value.ownBlock] at e)⟩
                have hfin : ∃ g c, v' = .slice (some ⟨g, 0, none⟩) 1 c ∧ Limbs w7 (.slice (some ⟨g, 0, none⟩) 1 c) [x] := by
                  obtain ⟨hlen, ⟨rfl, h0⟩ | ⟨g, cp, cur, rfl, hg, hc, hle, hm, hsz, htk⟩⟩ := hown
                  · have := (hnn.1 rfl).2; simp at this
                  · rw [Nat.zero_add] at hle htk
                    refine ⟨g, cp, by rw [Nat.zero_add], ?_⟩
                    refine ⟨fun y hy => by simp at hy; omega, .inr ⟨g, 0, cp, rfl, by simpa using hle, by unfold maxLen at hm; omega, (Array.getElem?_eq_some_iff.1 hc).1, fun i hi => ?_⟩⟩
                    have : i = 0 := by simp at hi; omega
                    subst this
                    have e : w7.cell? ⟨g, 0 + 0, none⟩ = cur[0]? := by simp [World.cell?, hc]
                    have h9 : (cur.toList.take (1 * 1))[0]? = some (.int .u32 (x : Int)) := by rw [htk]; rfl
                    rw [e, ← Array.getElem?_toList]
                    rw [List.getElem?_take, if_pos (by omega)] at h9
                    exact h9
                obtain ⟨g, c, rfl, hL⟩ := hfin
                have HL := Lib.hid hL
                have HB7 := Lib.hid hb7
                clear hown hgrow hnn hL hb7 hal hnw hi0 hz0 hs0 hb0 hlt hWa
                go_wp2
                go_roundw
                case rel => exact .inr ⟨rfl, HB7, _, _, _, [x], rfl, Lib.hid ⟨HL.out, by simp, by rw [HX.out]; simp [val]⟩⟩
                case measure => simp [intOf]; omega
        · have g1 : ¬ (S.length : Int) < (S.length : Int) := by omega
          go_wp2_with fail
          refine (norm_any wr (.slice b n c) l HV.out.1 (by have := HV.out.2.1; omega)).mono ?_
          rintro e w1 ⟨hb1, v1, rfl, hl1, _⟩
          rw [trim_eq HV.out.1.fit, HV.out.2.2] at hl1
          have HB1 := Lib.hid (HB.out.trans (hb1.mono HB.out.size))
          have HL1 := Lib.hid hl1
          clear hb1 hl1
          go_wp2
          refine bodyPost_ret (v := .tuple #[v1, .bool true]) (by simp [results, Tryz.results66, go_sem]) rfl ⟨HB1.out, _, rfl, HL1.out⟩
end Go.Proofs.YtbhfoelnoddlkaaGreatDoor.D

/-
  The reader: tagged; number at one digit: walked.
-/
namespace Go.Proofs.YtbhfoelnoddlkaaGreatDoor.D
open Go Go.RowKit Limb
attribute [local go_sem high] run_str strL_size run_sub run_sub_from

/-- Digits, so few that they say a number below 10^9, no nought ahead. -/
structure Dg (D : List UInt8) : Prop where
  h1 : 1 ≤ D.length
  h9 : D.length ≤ 9
  hd : ∀ i, i < D.length → 48 ≤ (D.getD i 0).toNat ∧ (D.getD i 0).toNat ≤ 57
  h0 : (D.getD 0 0).toNat ≠ 48

theorem dec_lt {D : List UInt8} (h : Dg D) : ∀ k, k ≤ D.length → dec D k < 10 ^ k := by
  intro k
  induction k with
  | zero => intro _; simp [dec]
  | succ k ih =>
    intro hk
    have := ih (by omega)
    have hc := h.hd k (by omega)
    rw [dec, Nat.pow_succ]
    omega
set_option maxRecDepth 100000 in
set_option maxHeartbeats 1000000 in
theorem tagged_any (w : World) (D : List UInt8) (hD : Dg D) (hn : dec D D.length ≠ 2 ∧ dec D D.length ≠ 3) :
    Calls Tryz.prog 64 #[.string (strL D)] w fun e w' => e = .returned (.tuple #[.int .u64 (dec D D.length : Nat), .bool true]) ∧ Below w.heap.size w w' := by
  have HQ := Lib.hid (quot_read w D hD.h1 hD.h9 hD.hd hD.h0)
  have hlt := dec_lt hD D.length (Nat.le_refl _)
  have hp : 10 ^ D.length ≤ 10 ^ 9 := Nat.pow_le_pow_right (by omega) hD.h9
  have h9 := hD.h9
  obtain ⟨n, hn'⟩ : ∃ n, n = dec D D.length := ⟨_, rfl⟩
  rw [← hn'] at HQ hlt hn ⊢
  have g1 : ¬ (20 : Int) < (D.length : Int) := by omega
  have g2 : ((n : Int) != 2) = true := by rw [bne_iff_ne]; omega
  have g3 : ((n : Int) != 3) = true := by rw [bne_iff_ne]; omega
  clear hn' hn hD
  go_enter Tryz.func64, Tryz.ntmps64
  go_wp2_with fail
  refine HQ.out.mono ?_
  rintro e w1 ⟨hb1, v1, rfl, hl1⟩
  have HB := Lib.hid hb1
  have HU := Lib.hid (uint_any w1 v1 _ hl1 (by rw [val_limbs]; omega))
  rw [val_limbs] at HU
  obtain ⟨b, c, rfl⟩ := hl1.slice
  clear hb1 hl1 HQ
  go_wp2_with fail
  refine HU.out.mono ?_
  rintro e w2 ⟨rfl, rfl⟩
  clear HU
  go_wp2
  refine bodyPost_ret (v := .tuple #[.int .u64 (n : Int), .bool true]) (by simp [results, Tryz.results64, go_sem]) rfl ⟨rfl, HB.out⟩

def tenL : List UInt8 := [48, 49, 50, 51, 52, 53, 54, 55, 56, 57]
theorem dig_nat (x : Nat) (h : x < 10) : (dig x).toNat = 48 + x := by unfold dig; simp; omega
theorem ch_ne {S : List UInt8} {a : Nat} {c : UInt8} (h : S.getD a 0 ≠ c) : ch S a ≠ b8 c := by
  intro e
  apply h
  unfold ch b8 at e
  apply UInt8.toNat_inj.1
  omega
theorem dig_ten (x : Nat) (h : x < 10) : dig x ∈ tenL := by
  have : ∀ x : Fin 10, dig x.val ∈ tenL := by decide
  exact this ⟨x, h⟩
theorem dig_dg (x : Nat) (h1 : 1 ≤ x) (h9 : x < 10) : Dg [dig x] ∧ dec [dig x] 1 = x := by
  have hn := dig_nat x h9
  refine ⟨⟨by simp, by simp, fun i hi => ?_, ?_⟩, ?_⟩
  · obtain rfl : i = 0 := by simpa using hi
    simp only [List.getD_cons_zero]; omega
  · simp only [List.getD_cons_zero]; omega
  · simp only [dec, List.getD_cons_zero]; omega
/-- Behind a whole number stands none of these. -/
def numEnd : List UInt8 := [48, 49, 50, 51, 52, 53, 54, 55, 56, 57, 40, 46, 101, 69]
theorem ten_end {c : UInt8} (h : c ∈ tenL) : c ∈ numEnd := by
  have : tenL ⊆ numEnd := by decide
  exact this h
theorem sub_one (S : List UInt8) (a : Nat) (h : a < S.length) : sub S a (a + 1) = [S.getD a 0] := by
  unfold sub
  rw [show a + 1 - a = 1 by omega, List.drop_eq_getElem_cons h, List.take_succ_cons, List.take_zero, List.getD_eq_getElem?_getD, List.getElem?_eq_getElem h]
  rfl

theorem leaf_int (w : World) (B x : Nat) (m1 : Option Addr) (n m3 : Nat) (fs : Nat → F) (h : Limbs w (.slice m1 n m3) (limbs x)) (hn : New B (.slice m1 n m3)) (h1 : 1 ≤ x) (h9 : x < 10) : TreeP w (fun k => B ≤ k) (.node [dig x] x fs) 0 (.agg (vCells 3 0 false (.slice m1 n m3) 0 0 (strL []) (.slice none 0 0))) := by
  refine ⟨3, 0, _, 0, 0, [], _, 0, rfl, ⟨⟨rfl, .inr (.inl ⟨rfl, rfl, rfl, rfl, rfl, x, ⟨by omega, rfl⟩, h, ?_⟩)⟩, hn⟩, ?_, .inl ⟨rfl, rfl, rfl⟩⟩
  · intro b o k c e
    obtain ⟨_, ⟨h, _⟩ | ⟨blk, off, cap, h, _, _, h3, _⟩⟩ := h
    · rw [h] at e; simp at e
    · rw [h] at e; simp only [Value.slice.injEq, Option.some.injEq, Addr.mk.injEq] at e; obtain ⟨⟨rfl, _⟩, _⟩ := e; exact h3
  · exact ⟨fun e => by omega, fun _ => ⟨h1, h9, rfl⟩, fun e => by omega, fun e => by omega, fun e => by omega, fun e => by omega, fun e => by omega⟩
set_option maxRecDepth 100000 in
set_option maxHeartbeats 1000000 in
theorem number_one (S : List UInt8) (a b ar x : Nat) (fs : Nat → F) (hab : b = a + 1) (ha : a < S.length) (hS : S.length ≤ 1099511627776) (h1 : 1 ≤ x) (h9 : x < 10) (h2 : x ≠ 2 ∧ x ≠ 3) (hc : S.getD a 0 = dig x) (hnx : b < S.length → S.getD b 0 ∉ numEnd) :
    RdsF 34 [.int .i64 (ar : Int)] S a b (.node [dig x] x fs) 0 false true := by
  intro w p hG hp hr
  obtain ⟨hdg, hdec⟩ := dig_dg x h1 h9
  have hdn := dig_nat x h9
  obtain ⟨w0, hw0⟩ : ∃ w0, w0 = w.alloc (.cells zeroV 33) := ⟨_, rfl⟩
  have hb : Below w.heap.size w w0 := by rw [hw0]; exact (Below.refl _ _).alloc (Nat.le_refl _) _
  have hX : Blk w0 w.heap.size zeroV 33 := by rw [hw0]; exact Blk.new _ _ _
  have hr0 : Rd w0 p S a false := Blk.below hr hb (Blk.lt hr)
  have hpX : w.heap.size ≠ p := by have := Blk.lt hr; omega
  have hE0 : Ex (fun k => k = p) w.heap.size w w0 := Ex.of_below hb
  have hsz0 : w.heap.size < w0.heap.size := hX.lt
  have c1 := hr0.at1
  have HG := Lib.hid (hG.step hb)
  have HW0 := Lib.hid hw0
  have HR0 := Lib.hid hr0
  have HX0 := Lib.hid hX
  have HE0 := Lib.hid hE0
  have hl1 : b ≤ S.length := by omega
  have hle : a ≤ b := by omega
  have HSUB : Hid (sub S a b = [dig x]) := Lib.hid (by rw [hab, sub_one S a ha, hc])
  have HAB := Lib.hid hab
  clear hG hw0 hb hX hr0 hr hE0
  show Calls _ _ #[_, _] _ _
  go_enter Tryz.func34, Tryz.ntmps34
  go_upto_region 1 with fail
  change Code.wp _ _ _ _ (w.alloc (.cells zeroV 33))
  rw [← HW0.out]
  go_wp2_with fail
  refine (is_no w0 p S a false HR0.out 45 (fun _ => ch_ne (c := 45) (by rw [hc]; intro e; rw [e] at hdn; exact absurd hdn (by simp; omega)))).mono ?_
  rintro e w1 ⟨rfl, n1, rfl⟩
  have HR1 := Lib.hid (HR0.out.drewN n1)
  have HX1 := Lib.hid (HX0.out.drewN n1)
  have HE1 := Lib.hid (HE0.out.drewN n1)
  have hsz1 : w.heap.size < (w0.drewN n1).heap.size := hsz0
  generalize w0.drewN n1 = w1 at HR1 HX1 HE1 hsz1 ⊢
  clear HR0 HX0 HE0 hsz0 HW0 c1
  have c1 := HR1.out.at1
  go_wp2_with fail
  clear c1
  refine (is_no w1 p S a false HR1.out 48 (fun _ => ch_ne (c := 48) (by rw [hc]; intro e; rw [e] at hdn; exact absurd hdn (by simp; omega)))).mono ?_
  rintro e w2 ⟨rfl, n2, rfl⟩
  have HR2 := Lib.hid (HR1.out.drewN n2)
  have HX2 := Lib.hid (HX1.out.drewN n2)
  have HE2 := Lib.hid (HE1.out.drewN n2)
  have hsz2 : w.heap.size < (w1.drewN n2).heap.size := hsz1
  generalize w1.drewN n2 = w2 at HR2 HX2 HE2 hsz2 ⊢
  clear HR1 HX1 HE1 hsz1
  go_wp2_with fail
  refine (digits_any w2 p S a b false HR2.out tenL hle hl1 hS (fun i h1 h2 => by
    obtain rfl : i = a := by omega
    rw [hc]; exact dig_ten x h9) (fun h h' => hnx h (ten_end h')) 1 (by omega)).mono ?_
  rintro e w3 ⟨rfl, hr3⟩
  have HR3 := Lib.hid hr3.1
  have HX3 := Lib.hid (hr3.2.blk HX2.out hsz2 hpX)
  have HE3 := Lib.hid (HE2.out.trans (hr3.2.mono (by omega) (fun _ h => h)))
  have hsz3 : w.heap.size < w3.heap.size := HX3.out.lt
  clear hr3 HR2 HX2 HE2 hsz2
  have c0 := HR3.out.at0
  have c1 := HR3.out.at1
  clear hab
  go_upto_region 11 with fail
  have HT : Hid (∀ w, Calls Tryz.prog 64 #[.string (strL (sub S a b))] w fun e w' => e = .returned (.tuple #[.int .u64 (x : Nat), .bool true]) ∧ Below w.heap.size w w') := Lib.hid (by
    intro w
    rw [HSUB.out]
    have := tagged_any w [dig x] hdg (by rw [show [dig x].length = 1 from rfl, hdec]; exact h2)
    rwa [show [dig x].length = 1 from rfl, hdec] at this)
  go_region_with (go_at_call 64; go_must (refine (HT.out _).mono ?_; rintro e w9 ⟨rfl, hb9⟩; have HB9 := Lib.hid hb9; clear hb9))
  all_goals (
    have hb : Below w3.heap.size w3 w9 := (below_drewN (Below.refl w3.heap.size w3) 1).trans HB9.out
    have HR9 : Hid (Rd w9 p S b false) := Lib.hid (Blk.below HR3.out hb (Blk.lt HR3.out))
    have HX9 := Lib.hid (HX3.out.below hb hsz3)
    have HE9 := Lib.hid (HE3.out.trans (Ex.of_below (hb.mono (Nat.le_of_lt hsz3))))
    have hsz9 : w.heap.size < w9.heap.size := HX9.out.lt
    clear hb HB9 HR3 HX3 HE3 hsz3 c0 c1 HT
    go_wp2_with fail
    refine (see_no w9 p S b false HR9.out [40] (fun h h' => hnx h (by
      have : ([40] : List UInt8) ⊆ numEnd := by decide
      exact this h'))).mono ?_
    rintro e wa ⟨rfl, na, rfl⟩
    have HRa := Lib.hid (HR9.out.drewN na)
    have HXa := Lib.hid (HX9.out.drewN na)
    have HEa := Lib.hid (HE9.out.drewN na)
    have hsza : w.heap.size < (w9.drewN na).heap.size := hsz9
    generalize w9.drewN na = wa at HRa HXa HEa hsza ⊢
    clear HR9 HX9 HE9 hsz9
    go_wp2_with fail
    refine (is_no wa p S b false HRa.out 46 (fun h => ch_ne (c := 46) (fun e => hnx h (by rw [e]; decide)))).mono ?_
    rintro e wb ⟨rfl, nb, rfl⟩
    have HRb := Lib.hid (HRa.out.drewN nb)
    have HXb := Lib.hid (HXa.out.drewN nb)
    have HEb := Lib.hid (HEa.out.drewN nb)
    have hszb : w.heap.size < (wa.drewN nb).heap.size := hsza
    generalize wa.drewN nb = wb at HRb HXb HEb hszb ⊢
    clear HRa HXa HEa hsza
    go_wp2_with fail
    refine (see_no wb p S b false HRb.out [101, 69] (fun h h' => hnx h (by
      have : ([101, 69] : List UInt8) ⊆ numEnd := by decide
      exact this h'))).mono ?_
    rintro e wc ⟨rfl, nc, rfl⟩
    have hrc := HRb.out.drewN nc
    have hxc := HXb.out.drewN nc
    have hec := HEb.out.drewN nc
    have hszc : w.heap.size < (wb.drewN nc).heap.size := hszb
    generalize wb.drewN nc = wc at hrc hxc hec hszc ⊢
    clear HRb HXb HEb hszb
    have c2 := hrc.at2
    have f2 : wc.frozen? ⟨p, 2, none⟩ = false := Blk.free hrc 2
    have hrd := hrc.set2 true
    have hxd := hxc.set_other ⟨p, 2, none⟩ (.bool true) hpX
    have hed := hec.setCell p 2 (.inl rfl) (.bool true)
    have hszd : w.heap.size < (wc.setCell ⟨p, 2, none⟩ (.bool true)).heap.size := hxd.lt
    go_upto_region 25 with fail
    generalize wc.setCell ⟨p, 2, none⟩ (.bool true) = wd at hrd hxd hed hszd ⊢
    clear c2 f2 hrc hxc hec hszc
    have HRd := Lib.hid hrd
    have HXd := Lib.hid hxd
    have HEd := Lib.hid hed
    clear hrd hxd hed
    have c0 := HRd.out.at0
    have c1 := HRd.out.at1
    go_upto_region 26 with fail
    have HT2 : Hid (∀ w, Calls Tryz.prog 66 #[.string (strL (sub S a b))] w fun e w' => Below w.heap.size w w' ∧ ∃ v, e = .returned (.tuple #[v, .bool true]) ∧ Limbs w' v (limbs x)) := Lib.hid (by
      intro w
      rw [HSUB.out]
      have := quot_read w [dig x] hdg.h1 hdg.h9 hdg.hd hdg.h0
      rwa [show [dig x].length = 1 from rfl, hdec] at this)
    go_region_with (go_at_call 66; go_must (refine (HT2.out _).mono ?_; rintro e w8 ⟨hb8, v8, rfl, hl8⟩; have HB8 := Lib.hid hb8; have HL8 := Lib.hid hl8; obtain ⟨l1, l3, rfl⟩ := hl8.slice; clear hb8 hl8))
    all_goals (
      have hb : Below wd.heap.size wd w8 := (below_drewN (Below.refl wd.heap.size wd) 1).trans HB8.out
      have HR8 : Hid (Rd w8 p S b true) := Lib.hid (Blk.below HRd.out hb (Blk.lt HRd.out))
      have HX8 := Lib.hid (HXd.out.below hb hszd)
      have HE8 := Lib.hid (HEd.out.trans (Ex.of_below (hb.mono (Nat.le_of_lt hszd))))
      have hsz8 : w.heap.size < w8.heap.size := HX8.out.lt
      have hlx : limbs x = [x] := limbs_small (by omega) (by omega)
      have HNM := Lib.hid (wnorm_any w8 _ _ HL8.out (by rw [hlx]; simp))
      rw [val_limbs] at HNM
      rw [hlx] at HNM ⊢
      clear hb HB8 HRd HXd HEd hszd c0 c1 HT2 HL8
      go_wp2_with fail
      refine HNM.out.mono ?_
      rintro e w7 ⟨hb7, v7, rfl, hl7, _⟩
      have HR7 : Hid (Rd w7 p S b true) := Lib.hid (Blk.below HR8.out hb7 (Blk.lt HR8.out))
      have HX7 := Lib.hid (HX8.out.below hb7 hsz8)
      have HE7 := Lib.hid (HE8.out.trans (Ex.of_below (hb7.mono (Nat.le_of_lt hsz8))))
      have hsz7 : w.heap.size < w7.heap.size := HX7.out.lt
      have HOI := Lib.hid (ofint_any w7 v7 _ hl7 (by simp))
      rw [← hlx, val_limbs, hlx] at HOI
      clear hb7 hl7 HNM HR8 HX8 HE8 hsz8
      go_wp2_with fail
      refine HOI.out.mono ?_
      rintro e w6 ⟨hb6, v6, rfl, hl6, hn6⟩
      obtain ⟨m1, m3, rfl⟩ := hl6.slice
      have hX4 := HX7.out.below hb6 hsz7
      have HE6 := Lib.hid (HE7.out.trans (Ex.of_below (hb6.mono (Nat.le_of_lt hsz7))))
      have HR6 : Hid (Rd w6 p S b true) := Lib.hid (Blk.below HR7.out hb6 (Blk.lt HR7.out))
      have HX4 := Lib.hid hX4
      have HL6 := Lib.hid hl6
      have HN6 := Lib.hid (hn6.mono (Nat.le_of_lt hsz7))
      clear hX4 hl6 hn6 hb6 HOI HR7 HX7 HE7
      dsimp only
      go_step
      refine wpList_store_row rfl 33 _ _ rfl w.heap.size (vCells 3 0 false (.slice m1 [x].length m3) 0 0 ⟨#[]⟩ (.slice none 0 0)) rfl rfl 33 _ HX4.out (by kernel_rfl) rfl (vCells_one _ _ _ _ _ _ _ _ rfl rfl) ?_
      have HFIN : Hid (Blk (w6.setRow w.heap.size (vCells 3 0 false (.slice m1 [x].length m3) 0 0 ⟨#[]⟩ (.slice none 0 0))) w.heap.size (vCells 3 0 false (.slice m1 [x].length m3) 0 0 ⟨#[]⟩ (.slice none 0 0)) 33) := Lib.hid (setRow_heap _ _ _ _ _ _ HX4.out)
      have hlf : Limbs (w6.setRow w.heap.size (vCells 3 0 false (.slice m1 [x].length m3) 0 0 ⟨#[]⟩ (.slice none 0 0))) (.slice m1 [x].length m3) [x] := HL6.out.setRow HX4.out (by intro i x; match i with | 0 | 1 | 2 | 3 | 4 | 5 | 6 | 7 => simp [zeroV] | i + 8 => simp [zeroV]) _
      have HLF := Lib.hid hlf
      have HLX := Lib.hid hlx
      clear hlf hlx
      go_wp2
      refine bodyPost_ret (v := .agg (vCells 3 0 false (.slice m1 [x].length m3) 0 0 (strL []) (.slice none 0 0))) (results_cell_row rfl _ _ w.heap.size 33 _ (0, 0) _ rfl HFIN.out Tryz.underlying33 rfl (by kernel_rfl)) rfl ⟨Rs.setRow ⟨HR6.out, HE6.out⟩ (Nat.le_refl _) hpX _, _, rfl, leaf_int _ _ x _ _ _ _ (by rw [HLX.out]; exact HLF.out) HN6.out h1 h9⟩))
end Go.Proofs.YtbhfoelnoddlkaaGreatDoor.D

/-
  The reader: number at a tag: walked, the tag by hypothesis.
-/
namespace Go.Proofs.YtbhfoelnoddlkaaGreatDoor.D
open Go Go.RowKit Limb
attribute [local go_sem high] run_str strL_size run_sub run_sub_from

theorem in_ten {c : UInt8} (h : 48 ≤ c.toNat ∧ c.toNat ≤ 57) : c ∈ tenL := by
  have h2 : dig (c.toNat - 48) = c := by
    unfold dig
    rw [show 48 + (c.toNat - 48) = c.toNat by omega]
    exact UInt8.ofNat_toNat
  rw [← h2]
  exact dig_ten _ (by omega)

set_option maxRecDepth 100000 in
set_option maxHeartbeats 1000000 in
theorem number_tag (S : List UInt8) (a b e0 ar : Nat) (D : List UInt8) (f : F) (d : Nat) (hD : Dg D) (hDS : sub S a b = D) (hn : dec D D.length ≠ 2 ∧ dec D D.length ≠ 3) (hab : b = a + D.length) (hb1 : b < S.length) (hS : S.length ≤ 1099511627776) (hcb : S.getD b 0 = 40) (hL : RdsF 65 [.int .u64 (dec D D.length : Nat), .int .i64 (a : Int), .int .i64 (ar : Int)] S b e0 f d false false) :
    RdsF 34 [.int .i64 (ar : Int)] S a e0 f d false false := by
  intro w p hG hp hr
  have HC0 : Hid (S.getD a 0 ≠ 45 ∧ S.getD a 0 ≠ 48) := Lib.hid (by
    have hdn := hD.hd 0 (by have := hD.h1; omega)
    have hd0 := hD.h0
    have hc : S.getD a 0 = D.getD 0 0 := by rw [← hDS, sub_at S a b 0 (by have := hD.h1; omega)]; rfl
    rw [hc]
    constructor <;> (intro e; rw [e] at hdn hd0; simp at hdn hd0))
  obtain ⟨w0, hw0⟩ : ∃ w0, w0 = w.alloc (.cells zeroV 33) := ⟨_, rfl⟩
  have hb : Below w.heap.size w w0 := by rw [hw0]; exact (Below.refl _ _).alloc (Nat.le_refl _) _
  have hX : Blk w0 w.heap.size zeroV 33 := by rw [hw0]; exact Blk.new _ _ _
  have hr0 : Rd w0 p S a false := Blk.below hr hb (Blk.lt hr)
  have hpX : w.heap.size ≠ p := by have := Blk.lt hr; omega
  have hE0 : Ex (fun k => k = p) w.heap.size w w0 := Ex.of_below hb
  have hsz0 : w.heap.size < w0.heap.size := hX.lt
  have c1 := hr0.at1
  have HG0 := Lib.hid hG
  have HW0 := Lib.hid hw0
  have HR0 := Lib.hid hr0
  have HX0 := Lib.hid hX
  have HE0 := Lib.hid hE0
  have hle : a ≤ b := by omega
  have HAB := Lib.hid hab
  have hl1 : b ≤ S.length := Nat.le_of_lt hb1
  have HSUB := Lib.hid hDS
  have HDG := Lib.hid hD
  have HL := Lib.hid hL
  have HHN := Lib.hid hn
  have HCB := Lib.hid hcb
  clear hG hw0 hb hX hr0 hr hE0 hD hDS hL hn hcb hab
  show Calls _ _ #[_, _] _ _
  go_enter Tryz.func34, Tryz.ntmps34
  go_upto_region 1 with fail
  change Code.wp _ _ _ _ (w.alloc (.cells zeroV 33))
  rw [← HW0.out]
  go_wp2_with fail
  refine (is_no w0 p S a false HR0.out 45 (fun _ => ch_ne (c := 45) HC0.out.1)).mono ?_
  rintro e w1 ⟨rfl, n1, rfl⟩
  have HR1 := Lib.hid (HR0.out.drewN n1)
  have HX1 := Lib.hid (HX0.out.drewN n1)
  have HE1 := Lib.hid (HE0.out.drewN n1)
  have hsz1 : w.heap.size < (w0.drewN n1).heap.size := hsz0
  generalize w0.drewN n1 = w1 at HR1 HX1 HE1 hsz1 ⊢
  clear HR0 HX0 HE0 hsz0 HW0 c1
  have c1 := HR1.out.at1
  go_wp2_with fail
  clear c1
  refine (is_no w1 p S a false HR1.out 48 (fun _ => ch_ne (c := 48) HC0.out.2)).mono ?_
  rintro e w2 ⟨rfl, n2, rfl⟩
  have HR2 := Lib.hid (HR1.out.drewN n2)
  have HX2 := Lib.hid (HX1.out.drewN n2)
  have HE2 := Lib.hid (HE1.out.drewN n2)
  have hsz2 : w.heap.size < (w1.drewN n2).heap.size := hsz1
  generalize w1.drewN n2 = w2 at HR2 HX2 HE2 hsz2 ⊢
  clear HR1 HX1 HE1 hsz1
  go_wp2_with fail
  refine (digits_any w2 p S a b false HR2.out tenL hle hl1 hS (fun i h1 h2 => by
    have h3 := HDG.out.hd (i - a) (by have := HAB.out; omega)
    rw [← HSUB.out, sub_at S a b (i - a) (by have := HAB.out; omega), show a + (i - a) = i by omega] at h3
    exact in_ten h3) (fun h h' => by rw [HCB.out] at h'; revert h'; decide) 1 (by have := HAB.out; have := HDG.out.h1; omega)).mono ?_
  rintro e w3 ⟨rfl, hr3⟩
  have HR3 := Lib.hid hr3.1
  have HX3 := Lib.hid (hr3.2.blk HX2.out hsz2 hpX)
  have HE3 := Lib.hid (HE2.out.trans (hr3.2.mono (by omega) (fun _ h => h)))
  have hsz3 : w.heap.size < w3.heap.size := HX3.out.lt
  clear hr3 HR2 HX2 HE2 hsz2
  have c0 := HR3.out.at0
  have c1 := HR3.out.at1
  go_upto_region 11 with fail
  have HT : Hid (∀ w, Calls Tryz.prog 64 #[.string (strL (sub S a b))] w fun e w' => e = .returned (.tuple #[.int .u64 (dec D D.length : Nat), .bool true]) ∧ Below w.heap.size w w') := Lib.hid (by
    intro w
    rw [HSUB.out]
    exact tagged_any w D HDG.out HHN.out)
  generalize dec D D.length = n at HT HL
  go_region_with (go_at_call 64; go_must (refine (HT.out _).mono ?_; rintro e w9 ⟨rfl, hb9⟩; have HB9 := Lib.hid hb9; clear hb9))
  all_goals (
    have hb : Below w3.heap.size w3 w9 := (below_drewN (Below.refl w3.heap.size w3) 1).trans HB9.out
    have HR9 : Hid (Rd w9 p S b false) := Lib.hid (Blk.below HR3.out hb (Blk.lt HR3.out))
    have HX9 := Lib.hid (HX3.out.below hb hsz3)
    have HE9 := Lib.hid (HE3.out.trans (Ex.of_below (hb.mono (Nat.le_of_lt hsz3))))
    have hsz9 : w.heap.size < w9.heap.size := HX9.out.lt
    clear hb HB9 HR3 HX3 HE3 hsz3 c0 c1 HT
    go_wp2_with fail
    refine (see_yes w9 p S b false HR9.out [40] hb1 (by rw [HCB.out]; decide)).mono ?_
    rintro e wa ⟨rfl, na, rfl⟩
    have HRa := Lib.hid (HR9.out.drewN na)
    have HXa := Lib.hid (HX9.out.drewN na)
    have HEa := Lib.hid (HE9.out.drewN na)
    have hsza : w.heap.size < (w9.drewN na).heap.size := hsz9
    generalize w9.drewN na = wa at HRa HXa HEa hsza ⊢
    clear HR9 HX9 HE9 hsz9
    have HQ := Lib.hid (HL.out wa p (HG0.out.ex HEa.out hp) hp HRa.out)
    clear HL
    go_wp2_with fail
    refine HQ.out.mono ?_
    rintro e w4 ⟨hr4, v4, rfl, hT4⟩
    obtain ⟨k1, k2, k3, k4, k5, k6, k7, k8, k9, k10, k11, rfl⟩ := hT4.row
    have hX4 := hr4.2.blk HXa.out hsza hpX
    have HE4 := Lib.hid (HEa.out.trans (hr4.2.mono (by omega) (fun _ h => h)))
    have hlt4 : w.heap.size < w4.heap.size := hX4.lt
    have hsz3 : wa.heap.size ≤ w4.heap.size := hr4.2.size
    have HX4 := Lib.hid hX4
    have HR4 := Lib.hid hr4.1
    have HT4 := Lib.hid hT4
    clear hr4 hX4 hT4 HQ HRa HXa HEa
    dsimp only
    go_step
    refine wpList_store_row rfl 33 _ _ rfl w.heap.size (vCells k1 k2 false (.slice k3 k4 k5) k6 k7 (strL k8) (.slice k9 k10 k11)) rfl rfl 33 _ HX4.out (by kernel_rfl) rfl (vCells_one _ _ _ _ _ _ _ _ rfl rfl) ?_
    have hfin : Blk (w4.setRow w.heap.size (vCells k1 k2 false (.slice k3 k4 k5) k6 k7 (strL k8) (.slice k9 k10 k11))) w.heap.size (vCells k1 k2 false (.slice k3 k4 k5) k6 k7 (strL k8) (.slice k9 k10 k11)) 33 := setRow_heap _ _ _ _ _ _ HX4.out
    have HFIN := Lib.hid hfin
    clear hfin
    go_wp2
    refine bodyPost_ret (v := .agg (vCells k1 k2 false (.slice k3 k4 k5) k6 k7 (strL k8) (.slice k9 k10 k11))) (results_cell_row rfl _ _ w.heap.size 33 _ (0, 0) _ rfl HFIN.out Tryz.underlying33 rfl (by kernel_rfl)) rfl ⟨Rs.setRow ⟨HR4.out, HE4.out⟩ (Nat.le_refl _) hpX _, _, rfl, TreeP.same (fun k hk _ => setRow_other _ _ _ _ (by omega)) (fun k hk _ => by omega) _ _ _ HT4.out⟩)

set_option maxRecDepth 100000 in
set_option maxHeartbeats 1000000 in
theorem number_tag_fails (S : List UInt8) (a b ar code at_ : Nat) (D : List UInt8) (hD : Dg D) (hDS : sub S a b = D) (hn : dec D D.length ≠ 2 ∧ dec D D.length ≠ 3) (hab : b = a + D.length) (hb1 : b < S.length) (hS : S.length ≤ 1099511627776) (hcb : S.getD b 0 = 40) (hL : FlsF 65 [.int .u64 (dec D D.length : Nat), .int .i64 (a : Int), .int .i64 (ar : Int)] S b false code at_) :
    FlsF 34 [.int .i64 (ar : Int)] S a false code at_ := by
  intro w p hG hp hr
  have HC0 : Hid (S.getD a 0 ≠ 45 ∧ S.getD a 0 ≠ 48) := Lib.hid (by
    have hdn := hD.hd 0 (by have := hD.h1; omega)
    have hd0 := hD.h0
    have hc : S.getD a 0 = D.getD 0 0 := by rw [← hDS, sub_at S a b 0 (by have := hD.h1; omega)]; rfl
    rw [hc]
    constructor <;> (intro e; rw [e] at hdn hd0; simp at hdn hd0))
  obtain ⟨w0, hw0⟩ : ∃ w0, w0 = w.alloc (.cells zeroV 33) := ⟨_, rfl⟩
  have hb : Below w.heap.size w w0 := by rw [hw0]; exact (Below.refl _ _).alloc (Nat.le_refl _) _
  have hX : Blk w0 w.heap.size zeroV 33 := by rw [hw0]; exact Blk.new _ _ _
  have hr0 : Rd w0 p S a false := Blk.below hr hb (Blk.lt hr)
  have hpX : w.heap.size ≠ p := by have := Blk.lt hr; omega
  have hE0 : Ex (fun k => k = p) w.heap.size w w0 := Ex.of_below hb
  have hsz0 : w.heap.size < w0.heap.size := hX.lt
  have c1 := hr0.at1
  have HG0 := Lib.hid hG
  have HW0 := Lib.hid hw0
  have HR0 := Lib.hid hr0
  have HX0 := Lib.hid hX
  have HE0 := Lib.hid hE0
  have hle : a ≤ b := by omega
  have HAB := Lib.hid hab
  have hl1 : b ≤ S.length := Nat.le_of_lt hb1
  have HSUB := Lib.hid hDS
  have HDG := Lib.hid hD
  have HL := Lib.hid hL
  have HHN := Lib.hid hn
  have HCB := Lib.hid hcb
  clear hG hw0 hb hX hr0 hr hE0 hD hDS hL hn hcb hab
  show Calls _ _ #[_, _] _ _
  go_enter Tryz.func34, Tryz.ntmps34
  go_upto_region 1 with fail
  change Code.wp _ _ _ _ (w.alloc (.cells zeroV 33))
  rw [← HW0.out]
  go_wp2_with fail
  refine (is_no w0 p S a false HR0.out 45 (fun _ => ch_ne (c := 45) HC0.out.1)).mono ?_
  rintro e w1 ⟨rfl, n1, rfl⟩
  have HR1 := Lib.hid (HR0.out.drewN n1)
  have HX1 := Lib.hid (HX0.out.drewN n1)
  have HE1 := Lib.hid (HE0.out.drewN n1)
  have hsz1 : w.heap.size < (w0.drewN n1).heap.size := hsz0
  generalize w0.drewN n1 = w1 at HR1 HX1 HE1 hsz1 ⊢
  clear HR0 HX0 HE0 hsz0 HW0 c1
  have c1 := HR1.out.at1
  go_wp2_with fail
  clear c1
  refine (is_no w1 p S a false HR1.out 48 (fun _ => ch_ne (c := 48) HC0.out.2)).mono ?_
  rintro e w2 ⟨rfl, n2, rfl⟩
  have HR2 := Lib.hid (HR1.out.drewN n2)
  have HX2 := Lib.hid (HX1.out.drewN n2)
  have HE2 := Lib.hid (HE1.out.drewN n2)
  have hsz2 : w.heap.size < (w1.drewN n2).heap.size := hsz1
  generalize w1.drewN n2 = w2 at HR2 HX2 HE2 hsz2 ⊢
  clear HR1 HX1 HE1 hsz1
  go_wp2_with fail
  refine (digits_any w2 p S a b false HR2.out tenL hle hl1 hS (fun i h1 h2 => by
    have h3 := HDG.out.hd (i - a) (by have := HAB.out; omega)
    rw [← HSUB.out, sub_at S a b (i - a) (by have := HAB.out; omega), show a + (i - a) = i by omega] at h3
    exact in_ten h3) (fun h h' => by rw [HCB.out] at h'; revert h'; decide) 1 (by have := HAB.out; have := HDG.out.h1; omega)).mono ?_
  rintro e w3 ⟨rfl, hr3⟩
  have HR3 := Lib.hid hr3.1
  have HX3 := Lib.hid (hr3.2.blk HX2.out hsz2 hpX)
  have HE3 := Lib.hid (HE2.out.trans (hr3.2.mono (by omega) (fun _ h => h)))
  have hsz3 : w.heap.size < w3.heap.size := HX3.out.lt
  clear hr3 HR2 HX2 HE2 hsz2
  have c0 := HR3.out.at0
  have c1 := HR3.out.at1
  go_upto_region 11 with fail
  have HT : Hid (∀ w, Calls Tryz.prog 64 #[.string (strL (sub S a b))] w fun e w' => e = .returned (.tuple #[.int .u64 (dec D D.length : Nat), .bool true]) ∧ Below w.heap.size w w') := Lib.hid (by
    intro w
    rw [HSUB.out]
    exact tagged_any w D HDG.out HHN.out)
  generalize dec D D.length = n at HT HL
  go_region_with (go_at_call 64; go_must (refine (HT.out _).mono ?_; rintro e w9 ⟨rfl, hb9⟩; have HB9 := Lib.hid hb9; clear hb9))
  all_goals (
    have hb : Below w3.heap.size w3 w9 := (below_drewN (Below.refl w3.heap.size w3) 1).trans HB9.out
    have HR9 : Hid (Rd w9 p S b false) := Lib.hid (Blk.below HR3.out hb (Blk.lt HR3.out))
    have HX9 := Lib.hid (HX3.out.below hb hsz3)
    have HE9 := Lib.hid (HE3.out.trans (Ex.of_below (hb.mono (Nat.le_of_lt hsz3))))
    have hsz9 : w.heap.size < w9.heap.size := HX9.out.lt
    clear hb HB9 HR3 HX3 HE3 hsz3 c0 c1 HT
    go_wp2_with fail
    refine (see_yes w9 p S b false HR9.out [40] hb1 (by rw [HCB.out]; decide)).mono ?_
    rintro e wa ⟨rfl, na, rfl⟩
    have HRa := Lib.hid (HR9.out.drewN na)
    have HXa := Lib.hid (HX9.out.drewN na)
    have HEa := Lib.hid (HE9.out.drewN na)
    have hsza : w.heap.size < (w9.drewN na).heap.size := hsz9
    generalize w9.drewN na = wa at HRa HXa HEa hsza ⊢
    clear HR9 HX9 HE9 hsz9
    have HQ := Lib.hid (HL.out wa p (HG0.out.ex HEa.out hp) hp HRa.out)
    clear HL
    go_wp2_with fail
    refine HQ.out.mono ?_
    rintro e w4 ⟨hb4, rfl⟩
    have HE8 := Lib.hid (HEa.out.trans (hb4.mono (by omega) (fun _ h => h)))
    clear hb4 HQ HRa HXa HEa
    go_wp2
    exact ⟨rfl, HE8.out, rfl⟩)
end Go.Proofs.YtbhfoelnoddlkaaGreatDoor.D

