/-
  Of the proof that the law DiagDeep answers true at every row of bytes: a part, without conditions of its own.
-/
import Derived.Test.YtbhfoelnoddlkaaGreatDoorPart08
import Derived.Test.YtbhfoelnoddlkaaGreatDoorPart02
import Derived.Laws.EntriesVeiled
set_option linter.unusedVariables false
set_option linter.unusedSimpArgs false
/-
  order.Sort of one number: walked.
-/
namespace Go.Proofs.YtbhfoelnoddlkaaGreatDoor.D
open Go Go.RowKit Limb

theorem eql_f206 (w : World) (fn : Fn) (fi ca : Array Value) : (binOp .eql 255 (.func fn fi ca) .nilFunc).run Tryz.prog w = .ok (.bool false) w := by kernel_rfl

theorem infoInt : ∃ i, Tryz.prog.info? 3 = some i ∧ i.zero = some (.int .i64 0) ∧ i.size = 1 ∧ i.bytes = 8 := by
  have hinfo : (Tryz.prog.info? 3).map (fun i => (i.zero, i.size, i.bytes)) = some (some (.int .i64 0), 1, 8) := by kernel_rfl
  cases hq : Tryz.prog.info? 3 with
  | none => rw [hq] at hinfo; cases hinfo
  | some i =>
    rw [hq] at hinfo
    simp only [Option.map_some, Option.some.injEq, Prod.mk.injEq] at hinfo
    exact ⟨i, rfl, hinfo⟩
theorem make_int1 (w : World) : (Instr.makeSlice 141 (.int .i64 1) (.int .i64 1)).run Tryz.prog w = .ok (.slice (some ⟨w.heap.size, 0, none⟩) 1 1) (w.alloc (.cells #[.int .i64 0] 3)) := by
  obtain ⟨i, hi, hz, hsz, hby⟩ := infoInt
  have := run_make (P := Tryz.prog) w 141 3 i (.int .i64 0) Tryz.underlying141 hi hz .i64 .i64 1 1 (by omega) (by omega) (by rw [hby]; omega) (by omega)
  have hc : madeCells (Value.int IntKind.i64 0).cells (Int.toNat 1 * 1) = #[.int .i64 0] := by kernel_rfl
  rw [this, hsz, hc]
  rfl

set_option maxRecDepth 100000 in
set_option maxHeartbeats 1000000 in
theorem sort_int1 (w : World) (g cp : Nat) (x : Int) (hg : w.cell? ⟨g, 0, none⟩ = some (.int .i64 x)) (fn : Fn) (fi ca : Array Value) :
    Calls Tryz.prog 164 #[.slice (some ⟨g, 0, none⟩) 1 cp, .func fn fi ca] w fun e w' => Below w.heap.size w w' ∧ ∃ b c, e = .returned (.slice (some ⟨b, 0, none⟩) 1 c) ∧ w.heap.size ≤ b ∧ w'.cell? ⟨b, 0, none⟩ = some (.int .i64 x) := by
  have HE := fun (w : World) => eql_f206 w fn fi ca
  have hgl : g < w.heap.size := by
    rcases Nat.lt_or_ge g w.heap.size with h | h
    · exact h
    · simp [World.cell?, Array.getElem?_eq_none h] at hg
  have hb : Below w.heap.size w (w.alloc (.cells #[.func fn fi ca] 255)) := (Below.refl _ _).alloc (Nat.le_refl _) _
  have HC := Lib.hid (Tryz.slices_Clone_int g 0 1 cp [x] (w.alloc (.cells #[.func fn fi ca] 255)) (by simp) (by omega) (by
    intro j hj
    have : j = 0 := by simp at hj; omega
    subst this
    rw [hb.cell (p := ⟨g, 0 + 0, none⟩) hgl]
    exact hg))
  clear hg
  have HB := Lib.hid hb
  clear hb
  go_enter Tryz.func164, Tryz.ntmps164
  go_wp2_with fail
  refine HC.out.mono ?_
  rintro e w1 ⟨v1, rfl, how, hne, hb1⟩
  obtain ⟨-, ⟨rfl, h0⟩ | ⟨b, c, cur, rfl, hbb, hbk, hle, hm, hsz, htk⟩⟩ := how
  · exact absurd rfl hne
  have hcell : w1.cell? ⟨b, 0, none⟩ = some (.int .i64 x) := by
    have h9 : (cur.toList.take (1 * 1))[0]? = some (.int .i64 x) := by rw [htk]; rfl
    have : w1.cell? ⟨b, 0, none⟩ = cur[0]? := by simp [World.cell?, hbk]
    rw [this, ← Array.getElem?_toList, ← h9, List.getElem?_take, if_pos (by omega)]
  have hbl : b < w1.heap.size := (Array.getElem?_eq_some_iff.1 hbk).1
  have HB1 := Lib.hid (HB.out.trans (hb1.mono (by simp)))
  have HW : w.heap.size ≤ w1.heap.size := HB1.out.size
  have HCell := Lib.hid hcell
  have HBB := Lib.hid hbb
  clear HB HC hb1 hne hbk hle hm hsz htk hcell hbb
  have HM := make_int1
  obtain ⟨W, hW⟩ : ∃ W, W = (((w1.alloc (.cells #[.slice (some ⟨b, 0, none⟩) 1 c] 141)).alloc (.cells #[.int .i64 0] 3)).alloc (.cells #[.slice (some ⟨w1.heap.size + 1, 0, none⟩) 1 1] 141)).alloc (.cells #[.int .i64 1] 3) := ⟨_, rfl⟩
  have hb4 : Below w1.heap.size w1 W := by rw [hW]; exact (((((Below.refl _ _).alloc (Nat.le_refl _) _).alloc (by simp) _).alloc (by simp; omega) _).alloc (by simp; omega) _)
  have hk0 := Blk.new w1 #[.slice (some ⟨b, 0, none⟩) 1 c] 141
  have hk3 := Blk.new ((((w1.alloc (.cells #[.slice (some ⟨b, 0, none⟩) 1 c] 141)).alloc (.cells #[.int .i64 0] 3)).alloc (.cells #[.slice (some ⟨w1.heap.size + 1, 0, none⟩) 1 1] 141))) #[.int .i64 1] 3
  rw [← hW] at hk3
  have c3 : W.cell? ⟨w1.heap.size + 1 + 1 + 1, 0, none⟩ = some (.int .i64 1) := by
    have h := hk3.cell 0
    simp only [World.size_alloc] at h
    exact h
  have hk0' : Blk W w1.heap.size #[.slice (some ⟨b, 0, none⟩) 1 c] 141 := by rw [hW]; exact ((hk0.alloc _).alloc _).alloc _
  have c0 : W.cell? ⟨w1.heap.size, 0, none⟩ = some (.slice (some ⟨b, 0, none⟩) 1 c) := hk0'.cell 0
  have HB4 := Lib.hid hb4
  clear hb4 hk0 hk3 hk0'
  go_wp2_with fail
  rw [← hW]
  go_loopw [7] (fun p wr => wr = W ∧ p = .pointer (some ⟨w1.heap.size + 1 + 1 + 1, 0, none⟩)) (fun _ _ => 0)
  case atStart => exact ⟨rfl, rfl⟩
  case round =>
    obtain ⟨rfl, rfl⟩ := hrel
    clear hW
    go_wp2
    go_ret
    refine ⟨HB1.out.trans (HB4.out.mono (by omega)), b, c, rfl, ?_, ?_⟩
    · have := HBB.out; simp at this; omega
    · rw [HB4.out.cell (p := ⟨b, 0, none⟩) hbl]; exact HCell.out
end Go.Proofs.YtbhfoelnoddlkaaGreatDoor.D

/-
  order.Twice of one pair: walked.
-/
namespace Go.Proofs.YtbhfoelnoddlkaaGreatDoor.D
open Go Go.RowKit Limb

theorem eql_f247 (w : World) (fn : Fn) (fi ca : Array Value) : (binOp .eql 172 (.func fn fi ca) .nilFunc).run Tryz.prog w = .ok (.bool false) w := by kernel_rfl

set_option maxRecDepth 100000 in
set_option maxHeartbeats 1000000 in
theorem twice_pair1 (w : World) (ga : Option Addr) (cp : Nat) (fn : Fn) (fi ca : Array Value) :
    Calls Tryz.prog 106 #[.slice ga 1 cp, .func fn fi ca] w fun e w' => Below w.heap.size w w' ∧ e = .returned (.int .i64 (-1)) := by
  have HE := fun (w : World) => eql_f247 w fn fi ca
  have HM := make_int1
  go_enter Tryz.func106, Tryz.ntmps106
  go_wp2_with fail
  obtain ⟨W, hW⟩ : ∃ W, W = ((w.alloc (.cells #[.slice ga 1 cp] 165)).alloc (.cells #[.func fn fi ca] 172)).alloc (.cells #[.int .i64 0] 3) := ⟨_, rfl⟩
  have hb : Below w.heap.size w W := by rw [hW]; exact (((Below.refl _ _).alloc (Nat.le_refl _) _).alloc (by simp) _).alloc (by simp; omega) _
  have hk := Blk.new ((w.alloc (.cells #[.slice ga 1 cp] 165)).alloc (.cells #[.func fn fi ca] 172)) #[.int .i64 0] 3
  rw [← hW] at hk ⊢
  have hk2 : Blk W (w.heap.size + 1 + 1) #[.int .i64 0] 3 := by simpa using hk
  clear hW hk
  have hs : w.heap.size + 1 + 1 ≤ W.heap.size := Nat.le_of_lt hk2.lt
  go_loopw [16] (fun i wr => ∃ k : Nat, k ≤ 1 ∧ i = .int .i64 k ∧ Blk wr (w.heap.size + 1 + 1) #[.int .i64 0] 3 ∧ Hid (Below w.heap.size w wr)) (fun i _ => 1 - (intOf i).toNat)
  case atStart => exact ⟨0, by omega, rfl, hk2, Lib.hid hb⟩
  case round =>
    obtain ⟨k, hk1, rfl, hB, hBl⟩ := hrel
    clear hk2 hb HE
    have c0 := hB.cell 0
    have c1 := hB.free 0
    rcases (by omega : k = 0 ∨ k = 1) with rfl | rfl
    · go_wp2_with fail
      refine ⟨⟨1, by omega, rfl, hB.set 0 _, Lib.hid (hBl.out.setCell (by simp; omega) _)⟩, by simp [intOf]⟩
    · go_wp2_with fail
      refine (sort_int1 wr (w.heap.size + 1 + 1) 1 0 c0 _ _ _).mono ?_
      rintro e w1 ⟨hb1, b, c, rfl, hbb, hc⟩
      have HB1 := Lib.hid (hBl.out.trans (hb1.mono hBl.out.size))
      clear hb1 hB hBl c0 c1 hc hbb hs
      go_wp2_with fail
      go_loopw [7, 8] (fun q i wr => q = .int .i64 (-1) ∧ i = .int .i64 1 ∧ wr = w1) (fun _ _ _ => 0)
      case atStart => exact ⟨rfl, rfl, rfl⟩
      case round =>
        obtain ⟨rfl, rfl, rfl⟩ := hrel
        go_wp2
        go_ret
        exact ⟨HB1.out, rfl⟩
end Go.Proofs.YtbhfoelnoddlkaaGreatDoor.D

/-
  slices.Clone and order.Sort of one pair: walked.
-/
namespace Go.Proofs.YtbhfoelnoddlkaaGreatDoor.D
open Go Go.RowKit Limb

/-- A pair's cells when none are set. -/
def zeroP : Array Value := #[.int .i8 0, .int .u64 0, .bool false, .slice none 0 0, .int .u64 0, .int .i8 0, .string ⟨#[]⟩, .slice none 0 0, .int .i8 0, .int .u64 0, .bool false, .slice none 0 0, .int .u64 0, .int .i8 0, .string ⟨#[]⟩, .slice none 0 0, .int .i64 0]
theorem infoP : (Tryz.prog.info? 170).map (fun i => (i.zero, i.size, i.bytes)) = some (some (.agg zeroP), 17, 216) := by kernel_rfl
theorem infoP' : ∃ i, Tryz.prog.info? 170 = some i ∧ i.zero = some (.agg zeroP) ∧ i.size = 17 ∧ i.bytes = 216 := by
  have hinfo := infoP
  cases hq : Tryz.prog.info? 170 with
  | none => rw [hq] at hinfo; cases hinfo
  | some i =>
    rw [hq] at hinfo
    simp only [Option.map_some, Option.some.injEq, Prod.mk.injEq] at hinfo
    exact ⟨i, rfl, hinfo⟩
/-- One pair lies there: its 17 cells. -/
def PairAt (w : World) (b o : Nat) (l : List Value) : Prop := ∀ j u, l[j]? = some u → w.cell? ⟨b, o + j, none⟩ = some u
theorem PairAt.below {w w' : World} {B b o : Nat} {l : List Value} (h : PairAt w b o l) (hb : Below B w w') (hk : b < B) : PairAt w' b o l := fun j u hj => by
  rw [hb.cell (p := ⟨b, o + j, none⟩) hk]; exact h j u hj

set_option maxRecDepth 100000 in
theorem clone_pair1 (w : World) (b o cap : Nat) (l : List Value) (hl : l.length = 17) (h3 : b < w.heap.size) (h : PairAt w b o l) (h1 : ∀ u ∈ l, u.oneCell' = true) :
    Calls Tryz.prog 166 #[.slice (some ⟨b, o, none⟩) 1 cap] w fun e w' => Below w.heap.size w w' ∧ ∃ g cp, e = .returned (.slice (some ⟨g, 0, none⟩) 1 cp) ∧ w.heap.size ≤ g ∧ g < w'.heap.size ∧ PairAt w' g 0 l := by
  have hnil := fun (w : World) (a : Option Addr) (n c : Nat) => Go.run_eql_slice_nil (P := Tryz.prog) w 165 170 a n c Tryz.underlying165
  obtain ⟨i0, hi0, hz0, hs0, hb0⟩ := infoP'
  have HI0 := Lib.hid hi0
  have HZ0 := Lib.hid hz0
  have HS0 := Lib.hid hs0
  have HB0 := Lib.hid hb0
  have H := Lib.hid h
  have H1 := Lib.hid h1
  clear hi0 hz0 hs0 hb0 h h1
  go_enter Tryz.func166, Tryz.ntmps166
  go_upto_region 3 with fail
  refine wp_region_lit ?_
  iterate 6 go_step
  refine wpList_append_own _ rfl (.tmp 5) (.tmp 6) 165 rfl w.heap.size 170 i0 _ 17 216 Tryz.underlying165 HI0.out HZ0.out HS0.out HB0.out rfl (by decide) (.slice (some ⟨w.heap.size, 0, none⟩) 0 0) 0 [] rfl (World.ownsRow_made w #[] 0 (Nat.le_refl _) (by decide) (by rfl)) ⟨b, o, none⟩ 1 cap l rfl (by rw [hl]) ?c1 H1.out ?c3 ?c4 ?c5 ?_
  case c1 =>
    intro j u hj
    rw [add_plain', ((Below.refl w.heap.size w).alloc (Nat.le_refl _) (.cells #[] 170)).cell (p := ⟨b, o + j, none⟩) h3]
    exact H.out j u hj
  case c3 => unfold maxLen; omega
  case c4 => omega
  case c5 => simp
  intro v' w1 hown hgrow hnn
  have hb : Below w.heap.size w w1 := ((Below.refl w.heap.size w).alloc (Nat.le_refl _) (.cells #[] 170)).trans
    ⟨hgrow.os, hgrow.tape, hgrow.output, hgrow.size, fun k hk => hgrow.block k (by simp; omega) (fun e => by simp [Value.ownBlock] at e; omega)⟩
  have hfin : ∃ g cp, v' = .slice (some ⟨g, 0, none⟩) 1 cp ∧ w.heap.size ≤ g ∧ g < w1.heap.size ∧ PairAt w1 g 0 l := by
    obtain ⟨hlen, ⟨rfl, h0⟩ | ⟨g, cp, cur, rfl, hg, hc, hle, hm, hsz, htk⟩⟩ := hown
    · have := (hnn.1 rfl).1; simp at this
    · rw [Nat.zero_add] at hle htk
      refine ⟨g, cp, by rw [Nat.zero_add], hg, (Array.getElem?_eq_some_iff.1 hc).1, fun j u hj => ?_⟩
      have hj17 : j < 17 := by
        rcases Nat.lt_or_ge j 17 with h | h
        · exact h
        · rw [List.getElem?_eq_none (by omega)] at hj; cases hj
      have e : w1.cell? ⟨g, 0 + j, none⟩ = cur[j]? := by rw [Nat.zero_add]; simp [World.cell?, hc]
      have h9 : (cur.toList.take (1 * 17))[j]? = l[j]? := by rw [htk]; rfl
      rw [e, ← Array.getElem?_toList, ← hj, ← h9, List.getElem?_take, if_pos (by omega)]
  have HF := Lib.hid hfin
  have HB := Lib.hid hb
  clear hown hgrow hfin hb hnil hnn
  go_wp2
  go_ret
  obtain ⟨g, cp, rfl, h1, h2, h3⟩ := HF.out
  exact ⟨HB.out, g, cp, rfl, h1, h2, h3⟩
theorem make_pair1 (w : World) : (Instr.makeSlice 165 (.int .i64 1) (.int .i64 1)).run Tryz.prog w = .ok (.slice (some ⟨w.heap.size, 0, none⟩) 1 1) (w.alloc (.cells zeroP 170)) := by
  obtain ⟨i, hi, hz, hsz, hby⟩ := infoP'
  have := run_make (P := Tryz.prog) w 165 170 i _ Tryz.underlying165 hi hz .i64 .i64 1 1 (by omega) (by omega) (by rw [hby]; omega) (by omega)
  have hc : madeCells (Value.agg zeroP).cells (Int.toNat 1 * 17) = zeroP := by kernel_rfl
  rw [this, hsz, hc]
  rfl

set_option maxRecDepth 100000 in
set_option maxHeartbeats 1000000 in
theorem sort_pair1 (w : World) (b o cp : Nat) (l : List Value) (hl : l.length = 17) (h3 : b < w.heap.size) (hp : PairAt w b o l) (h1 : ∀ u ∈ l, u.oneCell' = true) (fn : Fn) (fi ca : Array Value) :
    Calls Tryz.prog 107 #[.slice (some ⟨b, o, none⟩) 1 cp, .func fn fi ca] w fun e w' => Below w.heap.size w w' ∧ ∃ g c, e = .returned (.slice (some ⟨g, 0, none⟩) 1 c) ∧ w.heap.size ≤ g ∧ g < w'.heap.size ∧ PairAt w' g 0 l := by
  have HE := fun (w : World) => eql_f247 w fn fi ca
  have hb : Below w.heap.size w (w.alloc (.cells #[.func fn fi ca] 172)) := (Below.refl _ _).alloc (Nat.le_refl _) _
  have HC := Lib.hid (clone_pair1 (w.alloc (.cells #[.func fn fi ca] 172)) b o cp l hl (by simp; omega) (hp.below hb h3) h1)
  clear hp h1
  have HB := Lib.hid hb
  clear hb
  go_enter Tryz.func107, Tryz.ntmps107
  go_wp2_with fail
  refine HC.out.mono ?_
  rintro e w1 ⟨hb1, g, c, rfl, hg, hgl, hP⟩
  have HB1 := Lib.hid (HB.out.trans (hb1.mono (by simp)))
  have HP := Lib.hid hP
  have HG := Lib.hid hg
  have HW : w.heap.size ≤ w1.heap.size := HB1.out.size
  clear HB HC hb1 hP hg
  have HM := make_pair1
  obtain ⟨W, hW⟩ : ∃ W, W = (((w1.alloc (.cells #[.slice (some ⟨g, 0, none⟩) 1 c] 165)).alloc (.cells zeroP 170)).alloc (.cells #[.slice (some ⟨w1.heap.size + 1, 0, none⟩) 1 1] 165)).alloc (.cells #[.int .i64 1] 3) := ⟨_, rfl⟩
  have hb4 : Below w1.heap.size w1 W := by rw [hW]; exact (((((Below.refl _ _).alloc (Nat.le_refl _) _).alloc (by simp) _).alloc (by simp; omega) _).alloc (by simp; omega) _)
  have hk0 := Blk.new w1 #[.slice (some ⟨g, 0, none⟩) 1 c] 165
  have hk3 := Blk.new ((((w1.alloc (.cells #[.slice (some ⟨g, 0, none⟩) 1 c] 165)).alloc (.cells zeroP 170)).alloc (.cells #[.slice (some ⟨w1.heap.size + 1, 0, none⟩) 1 1] 165))) #[.int .i64 1] 3
  rw [← hW] at hk3
  have c3 : W.cell? ⟨w1.heap.size + 1 + 1 + 1, 0, none⟩ = some (.int .i64 1) := by
    have h := hk3.cell 0
    simp only [World.size_alloc] at h
    exact h
  have hk0' : Blk W w1.heap.size #[.slice (some ⟨g, 0, none⟩) 1 c] 165 := by rw [hW]; exact ((hk0.alloc _).alloc _).alloc _
  have c0 : W.cell? ⟨w1.heap.size, 0, none⟩ = some (.slice (some ⟨g, 0, none⟩) 1 c) := hk0'.cell 0
  have HB4 := Lib.hid hb4
  clear hb4 hk0 hk3 hk0'
  go_wp2_with fail
  rw [← hW]
  go_loopw [7] (fun p wr => wr = W ∧ p = .pointer (some ⟨w1.heap.size + 1 + 1 + 1, 0, none⟩)) (fun _ _ => 0)
  case atStart => exact ⟨rfl, rfl⟩
  case round =>
    obtain ⟨rfl, rfl⟩ := hrel
    clear hW
    go_wp2
    go_ret
    refine ⟨HB1.out.trans (HB4.out.mono (by omega)), g, c, rfl, ?_, ?_, HP.out.below HB4.out hgl⟩
    · have := HG.out; simp at this; omega
    · have := HB4.out.size; omega
end Go.Proofs.YtbhfoelnoddlkaaGreatDoor.D

