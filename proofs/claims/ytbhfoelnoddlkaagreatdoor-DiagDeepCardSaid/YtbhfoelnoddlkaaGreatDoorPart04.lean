/-
  Of the proof that the law DiagDeep answers true at every row of bytes: a part, without conditions of its own.
-/
import Derived.Test.YtbhfoelnoddlkaaGreatDoorPart03
import Derived.Test.YtbhfoelnoddlkaaGreatDoorPart02
set_option linter.unusedVariables false
set_option linter.unusedSimpArgs false
/-
  ieee.of, sign, inf, split, Class at 64 bits: walked.
-/
namespace Go.Proofs.YtbhfoelnoddlkaaGreatDoor.D
open Go Go.RowKit Limb

/-- The rows of widths, as they lie in memory. -/
structure GShape (w : World) : Prop where
  size : 21 < w.heap.size
  c6 : w.cell? ⟨14, 6, none⟩ = some (.int .i64 52)
  c7 : w.cell? ⟨14, 7, none⟩ = some (.int .i64 (-1074))
  c8 : w.cell? ⟨14, 8, none⟩ = some (.int .i64 11)
theorem GShape.below {w w' : World} {B : Nat} (h : GShape w) (hb : Below B w w') (hB : 21 < B) : GShape w' :=
  ⟨by have := hb.size; have := h.size; omega, by rw [hb.cell (p := ⟨14, 6, none⟩) (by simp; omega)]; exact h.c6, by rw [hb.cell (p := ⟨14, 7, none⟩) (by simp; omega)]; exact h.c7, by rw [hb.cell (p := ⟨14, 8, none⟩) (by simp; omega)]; exact h.c8⟩

/-- 2 to the power of 63; the pattern of plus infinity. -/
def sgn63 : Int := 9223372036854775808
def inf64 : Int := 9218868437227405312

set_option maxRecDepth 100000 in
theorem of_any (w : World) (hG : GShape w) :
    Calls Tryz.prog 138 #[] w fun e w' => e = .returned (.agg #[.int .i64 52, .int .i64 (-1074), .int .i64 11]) ∧ Below w.heap.size w w' := by
  have hb : Below w.heap.size w (w.alloc (.cells #[.int .i64 0, .int .i64 0, .int .i64 0] 228)) := (Below.refl _ _).alloc (Nat.le_refl _) _
  have hG1 := hG.below hb hG.size
  have c6 := hG1.c6
  have c7 := hG1.c7
  have c8 := hG1.c8
  clear hG1
  have e1 : (bits BinOp.xor IntKind.u64 IntKind.u64.max 0 == 65535) = false := by decide
  have e2 : (bits BinOp.xor IntKind.u64 IntKind.u64.max 0 == 4294967295) = false := by decide
  have e3 : (bits BinOp.xor IntKind.u64 (if IntKind.u64.signed = true then -1 else IntKind.u64.max) 0 == 65535) = false := by decide
  have e4 : (bits BinOp.xor IntKind.u64 (if IntKind.u64.signed = true then -1 else IntKind.u64.max) 0 == 4294967295) = false := by decide
  go_enter Tryz.func138, Tryz.ntmps138
  go_wp2
  exact bodyPost_ret (v := .agg #[.int .i64 52, .int .i64 (-1074), .int .i64 11]) (by simp [results, Tryz.results138, go_sem]) rfl ⟨rfl, (Below.refl _ _).alloc (Nat.le_refl _) _⟩

set_option maxRecDepth 100000 in
theorem sign_any (w : World) :
    Calls Tryz.prog 195 #[.agg #[.int .i64 52, .int .i64 (-1074), .int .i64 11]] w fun e w' => e = .returned (.int .u64 sgn63) ∧ Below w.heap.size w w' := by
  go_enter Tryz.func195, Tryz.ntmps195
  go_wp2
  go_ret
  exact ⟨rfl, (Below.refl _ _).alloc (Nat.le_refl _) _⟩
set_option maxRecDepth 100000 in
theorem inf_any (w : World) :
    Calls Tryz.prog 140 #[.agg #[.int .i64 52, .int .i64 (-1074), .int .i64 11]] w fun e w' => e = .returned (.int .u64 inf64) ∧ Below w.heap.size w w' := by
  have hB := Blk.new w #[.int .i64 52, .int .i64 (-1074), .int .i64 11] 228
  have hb : Below w.heap.size w (w.alloc (.cells #[.int .i64 52, .int .i64 (-1074), .int .i64 11] 228)) := (Below.refl _ _).alloc (Nat.le_refl _) _
  have HS : ∀ w', Blk w' w.heap.size #[.int .i64 52, .int .i64 (-1074), .int .i64 11] 228 → Below w.heap.size w w' → (w'.cell? ⟨w.heap.size, 0, none⟩ = some (.int .i64 52) ∧ w'.cell? ⟨w.heap.size, 1, none⟩ = some (.int .i64 (-1074)) ∧ w'.cell? ⟨w.heap.size, 2, none⟩ = some (.int .i64 11) ∧ Blk w' w.heap.size #[.int .i64 52, .int .i64 (-1074), .int .i64 11] 228 ∧ Below w.heap.size w w') := fun w' h1 h2 => ⟨h1.cell 0, h1.cell 1, h1.cell 2, h1, h2⟩
  have HS0 := Lib.hid (HS (w.alloc (.cells #[.int .i64 52, .int .i64 (-1074), .int .i64 11] 228)).drew hB.drew (below_drewN hb 1))
  have HT : Hid (∀ w' w'', (w'.cell? ⟨w.heap.size, 0, none⟩ = some (.int .i64 52) ∧ w'.cell? ⟨w.heap.size, 1, none⟩ = some (.int .i64 (-1074)) ∧ w'.cell? ⟨w.heap.size, 2, none⟩ = some (.int .i64 11) ∧ Blk w' w.heap.size #[.int .i64 52, .int .i64 (-1074), .int .i64 11] 228 ∧ Below w.heap.size w w') → Hid (Below w'.heap.size w' w'') → (w''.cell? ⟨w.heap.size, 0, none⟩ = some (.int .i64 52) ∧ w''.cell? ⟨w.heap.size, 1, none⟩ = some (.int .i64 (-1074)) ∧ w''.cell? ⟨w.heap.size, 2, none⟩ = some (.int .i64 11) ∧ Blk w'' w.heap.size #[.int .i64 52, .int .i64 (-1074), .int .i64 11] 228 ∧ Below w.heap.size w w'')) := Lib.hid (fun w' w'' h hk => by
    obtain ⟨-, -, -, h1, h2⟩ := h
    exact HS w'' (h1.below hk.out h1.lt) (h2.trans (hk.out.mono (by have := h1.lt; omega))))
  have HX : Hid (∀ w', (w'.cell? ⟨w.heap.size, 0, none⟩ = some (.int .i64 52) ∧ w'.cell? ⟨w.heap.size, 1, none⟩ = some (.int .i64 (-1074)) ∧ w'.cell? ⟨w.heap.size, 2, none⟩ = some (.int .i64 11) ∧ Blk w' w.heap.size #[.int .i64 52, .int .i64 (-1074), .int .i64 11] 228 ∧ Below w.heap.size w w') → Below w.heap.size w w') := Lib.hid (fun w' h => h.2.2.2.2)
  clear HS hB hb
  go_enter Tryz.func140, Tryz.ntmps140
  go_upto_region 1 with fail
  go_region_held3 (fun w' => (w'.cell? ⟨w.heap.size, 0, none⟩ = some (.int .i64 52) ∧ w'.cell? ⟨w.heap.size, 1, none⟩ = some (.int .i64 (-1074)) ∧ w'.cell? ⟨w.heap.size, 2, none⟩ = some (.int .i64 11) ∧ Blk w' w.heap.size #[.int .i64 52, .int .i64 (-1074), .int .i64 11] 228 ∧ Below w.heap.size w w'))
    (first
      | exact HS0.out
      | assumption
      | (refine HT.out _ _ ?_ hb9; assumption))
    ((go_at_call 195; refine (sign_any _).mono ?_; rintro e w9 ⟨rfl, hb9⟩; replace hb9 := Lib.hid hb9))
  have hbz := Lib.hid (HX.out w9 (by assumption))
  go_wp2
  go_ret
  exact ⟨rfl, hbz.out⟩
set_option maxRecDepth 100000 in
theorem split_any (w : World) (hG : GShape w) (b : Int) (h1 : bits .and .u64 b sgn63 = 0) (h2 : bits .andNot .u64 b sgn63 = b) :
    Calls Tryz.prog 139 #[.int .u64 b] w fun e w' => e = .returned (.tuple #[.bool false, .int .u64 b]) ∧ Below w.heap.size w w' := by
  go_enter Tryz.func139, Tryz.ntmps139
  go_wp2_with fail
  refine (of_any w hG).mono ?_
  rintro e w1 ⟨rfl, hb1⟩
  go_wp2_with fail
  refine (sign_any w1).mono ?_
  rintro e w2 ⟨rfl, hb2⟩
  have HB := Lib.hid (hb1.trans (hb2.mono hb1.size))
  clear hb1 hb2
  go_wp2
  refine bodyPost_ret (v := .tuple #[.bool false, .int .u64 b]) (by simp [results, Tryz.results139, go_sem]) rfl ⟨rfl, HB.out⟩
end Go.Proofs.YtbhfoelnoddlkaaGreatDoor.D

/-
  ieee.Class at a normal pattern, Parts: walked.
-/
namespace Go.Proofs.YtbhfoelnoddlkaaGreatDoor.D
open Go Go.RowKit Limb

/-- A pattern of a normal number not below 0. -/
structure Norm64 (b : Int) : Prop where
  a1 : bits .and .u64 b sgn63 = 0
  a2 : bits .andNot .u64 b sgn63 = b
  lt : ¬ inf64 < b
  le : ¬ inf64 ≤ b
  ne : (b == inf64) = false
  nz : (b == 0) = false
  sh : (b / 4503599627370496 == 0) = false
  lo : 0 ≤ b
  hi : b < 18446744073709551616
set_option maxRecDepth 100000 in
theorem class_norm (w : World) (hG : GShape w) (b : Int) (hb : Norm64 b) :
    Calls Tryz.prog 94 #[.int .u64 b] w fun e w' => e = .returned (.int .i8 3) ∧ Below w.heap.size w w' := by
  have HN := Lib.hid hb
  have HG := Lib.hid hG
  clear hb hG
  go_enter Tryz.func94, Tryz.ntmps94
  go_wp2_with fail
  refine (of_any w HG.out).mono ?_
  rintro e w1 ⟨rfl, hb1⟩
  have hG1 := HG.out.below hb1 HG.out.size
  go_upto_region 2 with fail
  have hbx : Below w1.heap.size w1 (w1.alloc (.cells #[.int .i64 52, .int .i64 (-1074), .int .i64 11] 228)) := (Below.refl _ _).alloc (Nat.le_refl _) _
  have hB := Blk.new w1 #[.int .i64 52, .int .i64 (-1074), .int .i64 11] 228
  have hG2 := hG1.below hbx hG1.size
  have hbb := hb1.trans (hbx.mono hb1.size)
  obtain ⟨X, hX⟩ : ∃ X, X = w1.heap.size := ⟨_, rfl⟩
  rw [← hX] at hB ⊢
  clear hb1 hG1 hbx hX
  generalize w1.alloc (.cells #[.int .i64 52, .int .i64 (-1074), .int .i64 11] 228) = w2 at hB hG2 hbb ⊢
  go_wp2_with fail
  refine (split_any w2 hG2 b HN.out.a1 HN.out.a2).mono ?_
  rintro e w3 ⟨rfl, hb3⟩
  have hB3 := hB.below hb3 hB.lt
  have hbb3 := hbb.trans (hb3.mono hbb.size)
  have d0 := hB3.cell 0
  have d1 := hB3.cell 1
  have d2 := hB3.cell 2
  simp only [List.getElem?_toArray, List.getElem?_cons_zero, List.getElem?_cons_succ] at d0 d1 d2
  clear hb3 hB hbb hG2
  have hlt := HN.out.lt
  have hne := HN.out.ne
  go_wp2_with fail
  refine (inf_any w3).mono ?_
  rintro e w4 ⟨rfl, hb4⟩
  have hB4 := hB3.below hb4 hB3.lt
  have hbb4 := hbb3.trans (hb4.mono hbb3.size)
  clear d0 d1 d2 hb4 hbb3 hB3
  have d0 := hB4.cell 0
  have d1 := hB4.cell 1
  have d2 := hB4.cell 2
  simp only [List.getElem?_toArray, List.getElem?_cons_zero, List.getElem?_cons_succ] at d0 d1 d2
  go_wp2_with fail
  refine (inf_any w4).mono ?_
  rintro e w5 ⟨rfl, hb5⟩
  have hB5 := hB4.below hb5 hB4.lt
  have HB := Lib.hid (hbb4.trans (hb5.mono hbb4.size))
  clear d0 d1 d2 hb5 hbb4 hB4
  have d0 := hB5.cell 0
  simp only [List.getElem?_toArray, List.getElem?_cons_zero, List.getElem?_cons_succ] at d0
  have hnz := HN.out.nz
  have hsh := HN.out.sh
  clear hB5
  go_wp2
  go_ret
  exact ⟨rfl, HB.out⟩
theorem norm_half3 : Norm64 half3 := ⟨by decide, by decide, by decide, by decide, by decide, by decide, by decide, by decide, by decide⟩
/-- The pattern of 1. -/
def one1 : Int := 4607182418800017408
theorem norm_one1 : Norm64 one1 := ⟨by decide, by decide, by decide, by decide, by decide, by decide, by decide, by decide, by decide⟩
end Go.Proofs.YtbhfoelnoddlkaaGreatDoor.D

/-
  TrailingZeros64 at two patterns; ieee.Parts, Int: walked.
-/
namespace Go.Proofs.YtbhfoelnoddlkaaGreatDoor.D
open Go Go.RowKit Limb

set_option maxRecDepth 100000 in
theorem ctz_any (w : World) (x : Int) (i : Nat) (v : Int) (hx : (x == 0) = false) (hi : i < 64) (hv : 0 ≤ v ∧ v < 64) (h : w.cell? ⟨18, i, none⟩ = some (.int .u8 v))
    (h1 : IntKind.u64.wrap (bits BinOp.and IntKind.u64 x (IntKind.u64.wrap (-x)) * 285870213051353865) / 288230376151711744 = (i : Int)) :
    Calls Tryz.prog 222 #[.int .u64 x] w fun e w' => e = .returned (.int .i64 v) ∧ w' = w := by
  obtain ⟨hv1, hv2⟩ := hv
  have g1 : (i : Int) < 64 := by omega
  have g2 : (0 : Int) ≤ (i : Int) := by omega
  have g3 : IntKind.i64.wrap v = v := IntWalk.i64_in _ (by omega)
  go_enter Tryz.func222, Tryz.ntmps222
  go_wp2
  go_ret
  exact ⟨rfl, rfl⟩

/-- The two cells of the table that are read here. -/
structure GCtz (w : World) : Prop where
  size : 21 < w.heap.size
  c22 : w.cell? ⟨18, 22, none⟩ = some (.int .u8 51)
  c44 : w.cell? ⟨18, 44, none⟩ = some (.int .u8 52)
theorem GCtz.below {w w' : World} {B : Nat} (h : GCtz w) (hb : Below B w w') (hB : 21 < B) : GCtz w' :=
  ⟨by have := hb.size; have := h.size; omega, by rw [hb.cell (p := ⟨18, 22, none⟩) (by simp; omega)]; exact h.c22, by rw [hb.cell (p := ⟨18, 44, none⟩) (by simp; omega)]; exact h.c44⟩
/-- What Parts comes to at a pattern: the size with the hidden digit, its noughts, the number and the power left. -/
structure Parts64 (b mm : Int) (n : Nat) (m e : Int) (ex : Int) : Prop extends Norm64 b where
  ex1 : b / 4503599627370496 = ex
  ex0 : 0 < ex ∧ ex < 2047
  fr : bits .or .u64 (bits .and .u64 b 4503599627370495) 4503599627370496 = mm
  tz : IntKind.u64.wrap (bits BinOp.and IntKind.u64 mm (IntKind.u64.wrap (-mm)) * 285870213051353865) / 288230376151711744 = (if n = 51 then 22 else 44)
  n1 : n = 51 ∨ n = 52
  mz : (mm == 0) = false
  m1 : mm / 2 ^ n = m
  e1 : -1074 + (ex - 1) + n = e

set_option maxRecDepth 100000 in
set_option maxHeartbeats 1000000 in
theorem parts_any (w : World) (hG : GShape w) (hC : GCtz w) (b mm : Int) (n : Nat) (m e ex : Int) (hb : Parts64 b mm n m e ex) :
    Calls Tryz.prog 180 #[.int .u64 b] w fun e' w' => e' = .returned (.tuple #[.bool false, .int .u64 m, .int .i64 e, .bool true]) ∧ Below w.heap.size w w' := by
  have HN := Lib.hid hb
  have HG := Lib.hid hG
  have HC := Lib.hid hC
  clear hb hG hC
  go_enter Tryz.func180, Tryz.ntmps180
  go_wp2_with fail
  refine (of_any w HG.out).mono ?_
  rintro e' w1 ⟨rfl, hb1⟩
  have hG1 := HG.out.below hb1 HG.out.size
  go_upto_region 2 with fail
  have hbx : Below w1.heap.size w1 (w1.alloc (.cells #[.int .i64 52, .int .i64 (-1074), .int .i64 11] 228)) := (Below.refl _ _).alloc (Nat.le_refl _) _
  have hB := Blk.new w1 #[.int .i64 52, .int .i64 (-1074), .int .i64 11] 228
  have hG2 := hG1.below hbx hG1.size
  have hbb := hb1.trans (hbx.mono hb1.size)
  obtain ⟨X, hX⟩ : ∃ X, X = w1.heap.size := ⟨_, rfl⟩
  rw [← hX] at hB ⊢
  clear hb1 hG1 hbx hX
  generalize w1.alloc (.cells #[.int .i64 52, .int .i64 (-1074), .int .i64 11] 228) = w2 at hB hG2 hbb ⊢
  go_wp2_with fail
  refine (split_any w2 hG2 b HN.out.a1 HN.out.a2).mono ?_
  rintro e' w3 ⟨rfl, hb3⟩
  have hB3 := hB.below hb3 hB.lt
  have hbb3 := hbb.trans (hb3.mono hbb.size)
  have d0 := hB3.cell 0
  have d1 := hB3.cell 1
  have d2 := hB3.cell 2
  simp only [List.getElem?_toArray, List.getElem?_cons_zero, List.getElem?_cons_succ] at d0 d1 d2
  clear hb3 hB hbb hG2
  have hle := HN.out.le
  go_wp2_with fail
  refine (inf_any w3).mono ?_
  rintro e' w4 ⟨rfl, hb4⟩
  have hB4 := hB3.below hb4 hB3.lt
  have hbb4 := hbb3.trans (hb4.mono hbb3.size)
  clear d0 d1 d2 hb4 hbb3 hB3
  have HB4 := Lib.hid hB4
  have HBB := Lib.hid hbb4
  have d0 := hB4.cell 0
  have d1 := hB4.cell 1
  have d2 := hB4.cell 2
  simp only [List.getElem?_toArray, List.getElem?_cons_zero, List.getElem?_cons_succ] at d0 d1 d2
  have hnz := HN.out.nz
  have hex := HN.out.ex1
  have hfr := HN.out.fr
  obtain ⟨x1, x2⟩ := HN.out.ex0
  have x3 : IntKind.i64.wrap ex = ex := IntWalk.i64_in _ (by omega)
  clear hB4 hbb4 HG
  have HCz : Hid (∀ q, Calls Tryz.prog 222 #[.int .u64 mm] (w4.drewN q) fun e w' => e = .returned (.int .i64 (n : Int)) ∧ w' = w4.drewN q) := Lib.hid (fun q => by
    have hc4 := HC.out.below HBB.out HC.out.size
    have htz := HN.out.tz
    rcases HN.out.n1 with h | h
    · subst h
      exact ctz_any (w4.drewN q) mm 22 51 HN.out.mz (by omega) (by omega) hc4.c22 (by simpa using htz)
    · subst h
      exact ctz_any (w4.drewN q) mm 44 52 HN.out.mz (by omega) (by omega) hc4.c44 (by simpa using htz))
  go_wp2
  go_quiet (fail)
  go_wp2
  go_quiet (fail)
  have x4 : IntKind.i64.wrap (ex - 1) = ex - 1 := IntWalk.i64_in _ (by omega)
  have x5 : IntKind.i64.wrap (-1074 + (ex - 1)) = -1074 + (ex - 1) := IntWalk.i64_in _ (by omega)
  go_wp2_with fail
  refine (HCz.out _).mono ?_
  rintro e' w5 ⟨rfl, rfl⟩
  have hn1 : n ≤ 52 := by rcases HN.out.n1 with h | h <;> omega
  have x6 : IntKind.i64.wrap (-1074 + (ex - 1) + (n : Int)) = -1074 + (ex - 1) + (n : Int) := IntWalk.i64_in _ (by omega)
  have hm1 := HN.out.m1
  have HE := Lib.hid HN.out.e1
  go_wp2
  go_quiet (fail)
  go_wp2
  refine bodyPost_ret (v := .tuple #[.bool false, .int .u64 m, .int .i64 (-1074 + (ex - 1) + (n : Int)), .bool true]) (by simp [results, Tryz.results180, go_sem]) rfl ⟨?_, below_drewN (below_drewN HBB.out _) _⟩
  rw [HE.out]
theorem parts_half3 : Parts64 half3 6755399441055744 51 3 (-1) 1023 := ⟨norm_half3, by decide, by decide, by decide, by decide, by decide, by decide, by decide, by decide⟩
theorem parts_one1 : Parts64 one1 4503599627370496 52 1 0 1023 := ⟨norm_one1, by decide, by decide, by decide, by decide, by decide, by decide, by decide, by decide⟩
end Go.Proofs.YtbhfoelnoddlkaaGreatDoor.D

/-
  What is read of the program's tables; TrailingZeros32 of 10.
-/
namespace Go.Proofs.YtbhfoelnoddlkaaGreatDoor.D
open Go Go.RowKit Limb

/-- The tables' cells that are read. -/
structure GW (w : World) : Prop where
  s : GShape w
  c : GCtz w
  t1 : w.cell? ⟨17, 1, none⟩ = some (.int .u8 1)
theorem GW.below {w w' : World} {B : Nat} (h : GW w) (hb : Below B w w') (hB : 21 < B) : GW w' :=
  ⟨h.s.below hb hB, h.c.below hb hB, by rw [hb.cell (p := ⟨17, 1, none⟩) (by simp; omega)]; exact h.t1⟩
theorem GW.size {w : World} (h : GW w) : 21 < w.heap.size := h.s.size
theorem GW.step {w w' : World} (h : GW w) (hb : Below w.heap.size w w') : GW w' := h.below hb h.size

set_option maxRecDepth 100000 in
theorem ctz10 (w : World) (hG : GW w) :
    Calls Tryz.prog 220 #[.int .u32 10] w fun e w' => e = .returned (.int .i64 1) ∧ w' = w := by
  have h := hG.t1
  have h1 : bits .and .u32 10 4294967286 = 2 := by decide
  clear hG
  go_enter Tryz.func220, Tryz.ntmps220
  go_wp2
  go_ret
  exact ⟨rfl, rfl⟩
end Go.Proofs.YtbhfoelnoddlkaaGreatDoor.D

/-
  value.alone at the kinds that need no callee: walked.
-/
namespace Go.Proofs.YtbhfoelnoddlkaaGreatDoor.D
open Go Go.RowKit Limb

set_option maxRecDepth 100000 in
set_option maxHeartbeats 1000000 in
theorem alone_null (w : World) :
    Calls Tryz.prog 44 #[.agg #[.int .i8 1, .int .u64 0, .bool false, .slice none 0 0, .int .u64 0, .int .i8 0, .string ⟨#[]⟩, .slice none 0 0]] w fun e w' => e = .returned (.bool true) ∧ Below w.heap.size w w' := by
  go_enter Tryz.func44, Tryz.ntmps44
  go_wp2
  go_ret
  exact ⟨rfl, (Below.refl _ _).alloc (Nat.le_refl _) _⟩
set_option maxRecDepth 100000 in
set_option maxHeartbeats 1000000 in
theorem alone_bytes (w : World) (text : List UInt8) :
    Calls Tryz.prog 44 #[.agg #[.int .i8 6, .int .u64 0, .bool false, .slice none 0 0, .int .u64 0, .int .i8 0, .string (strL text), .slice none 0 0]] w fun e w' => e = .returned (.bool true) ∧ Below w.heap.size w w' := by
  go_enter Tryz.func44, Tryz.ntmps44
  go_wp2
  go_ret
  exact ⟨rfl, (Below.refl _ _).alloc (Nat.le_refl _) _⟩
set_option maxRecDepth 100000 in
set_option maxHeartbeats 1000000 in
theorem alone_list (w : World) (b : Option Addr) (m c : Nat) :
    Calls Tryz.prog 44 #[.agg #[.int .i8 7, .int .u64 0, .bool false, .slice none 0 0, .int .u64 0, .int .i8 0, .string ⟨#[]⟩, .slice b m c]] w fun e w' => e = .returned (.bool true) ∧ Below w.heap.size w w' := by
  go_enter Tryz.func44, Tryz.ntmps44
  go_wp2
  go_ret
  exact ⟨rfl, (Below.refl _ _).alloc (Nat.le_refl _) _⟩
set_option maxRecDepth 100000 in
set_option maxHeartbeats 1000000 in
theorem alone_tag (w : World) (n : Int) (hn : n = 1 ∨ n = 10) (b : Option Addr) (c : Nat) :
    Calls Tryz.prog 44 #[.agg #[.int .i8 9, .int .u64 n, .bool false, .slice none 0 0, .int .u64 0, .int .i8 0, .string ⟨#[]⟩, .slice b 1 c]] w fun e w' => e = .returned (.bool true) ∧ Below w.heap.size w w' := by
  rcases hn with rfl | rfl
  · go_enter Tryz.func44, Tryz.ntmps44
    go_wp2
    go_ret
    exact ⟨rfl, (Below.refl _ _).alloc (Nat.le_refl _) _⟩
  · go_enter Tryz.func44, Tryz.ntmps44
    go_wp2
    go_ret
    exact ⟨rfl, (Below.refl _ _).alloc (Nat.le_refl _) _⟩
end Go.Proofs.YtbhfoelnoddlkaaGreatDoor.D

/-
  value.normal, rising, and alone at whole numbers and maps: walked.
-/
namespace Go.Proofs.YtbhfoelnoddlkaaGreatDoor.D
open Go Go.RowKit Limb

set_option maxRecDepth 100000 in
theorem normal_any (w : World) (v : Value) (x : Nat) (h : Limbs w v (limbs x)) :
    Calls Tryz.prog 85 #[.agg #[.bool false, v]] w fun e w' => e = .returned (.bool true) ∧ Below w.heap.size w w' := by
  have hb : Below w.heap.size w (w.alloc (.cells #[.bool false, v] 30)) := (Below.refl _ _).alloc (Nat.le_refl _) _
  have h' := h.below hb
  by_cases hx : x = 0
  · subst hx
    rw [limbs_zero] at h
    obtain ⟨_, ⟨rfl, _⟩ | ⟨blk, off, cap, rfl, _⟩⟩ := h
    · go_enter Tryz.func85, Tryz.ntmps85
      go_wp2
      go_ret
      exact ⟨rfl, hb⟩
    · go_enter Tryz.func85, Tryz.ntmps85
      go_wp2
      go_ret
      exact ⟨rfl, hb⟩
  · have hp := limbs_length_pos hx
    have hla := limbs_last hx
    obtain ⟨hf, ⟨h1, h2⟩ | ⟨blk, off, cap, rfl, h1, h2, h3, h4⟩⟩ := h'
    · rw [h2] at hp; simp at hp
    · have hc := h4 ((limbs x).length - 1) (by omega)
      have g0 : ((((limbs x).getD ((limbs x).length - 1) 0 : Nat) : Int) != 0) = true := by rw [bne_iff_ne]; omega
      generalize ((((limbs x).getD ((limbs x).length - 1) 0 : Nat) : Int)) = q at hc g0
      clear h4 hf h hla
      have HB := Lib.hid hb
      clear hb
      generalize (limbs x).length = n at *
      have g1 : ((n : Int) - 1).toNat = n - 1 := by omega
      have g2 : (0 : Int) ≤ (n : Int) - 1 := by omega
      have g3 : (n : Int) - 1 < (n : Int) := by omega
      have g4 : IntKind.i64.wrap ((n : Int) - 1) = (n : Int) - 1 := IntWalk.i64_in _ (by omega)
      have g5 : ((n : Int) == 0) = false := beq_eq_false_iff_ne.2 (by omega)
      have g6 : (0 : Int) < (n : Int) := by omega
      go_enter Tryz.func85, Tryz.ntmps85
      go_wp2
      go_ret
      exact ⟨rfl, HB.out⟩
set_option maxRecDepth 100000 in
theorem rising_two (w : World) (b : Option Addr) (c : Nat) :
    Calls Tryz.prog 88 #[.slice b 2 c] w fun e w' => e = .returned (.bool true) ∧ w' = w := by
  go_enter Tryz.func88, Tryz.ntmps88
  go_wp2
  go_loop [3] (fun i => i = .int .i64 2) (fun _ => 0)
  case atStart => rfl
  case round =>
    subst hrel
    go_wp2
    go_ret
    exact ⟨rfl, rfl⟩
set_option maxRecDepth 100000 in
set_option maxHeartbeats 1000000 in
theorem alone_map (w : World) (b : Option Addr) (c : Nat) :
    Calls Tryz.prog 44 #[.agg #[.int .i8 8, .int .u64 0, .bool false, .slice none 0 0, .int .u64 0, .int .i8 0, .string ⟨#[]⟩, .slice b 2 c]] w fun e w' => e = .returned (.bool true) ∧ Below w.heap.size w w' := by
  go_enter Tryz.func44, Tryz.ntmps44
  go_wp2_with fail
  refine (rising_two _ b c).mono ?_
  rintro e w1 ⟨rfl, rfl⟩
  go_wp2
  go_ret
  exact ⟨rfl, (Below.refl _ _).alloc (Nat.le_refl _) _⟩
set_option maxRecDepth 100000 in
set_option maxHeartbeats 1000000 in
theorem alone_int (w : World) (v : Value) (x : Nat) (h : Limbs w v (limbs x)) :
    Calls Tryz.prog 44 #[.agg #[.int .i8 3, .int .u64 0, .bool false, v, .int .u64 0, .int .i8 0, .string ⟨#[]⟩, .slice none 0 0]] w fun e w' => e = .returned (.bool true) ∧ Below w.heap.size w w' := by
  have hb : Below w.heap.size w (w.alloc (.cells #[.int .i8 3, .int .u64 0, .bool false, v, .int .u64 0, .int .i8 0, .string ⟨#[]⟩, .slice none 0 0] 33)) := (Below.refl _ _).alloc (Nat.le_refl _) _
  have hB := Blk.new w #[.int .i8 3, .int .u64 0, .bool false, v, .int .u64 0, .int .i8 0, .string ⟨#[]⟩, .slice none 0 0] 33
  have HC := Lib.hid (normal_any _ v x (h.below hb))
  have HBl := Lib.hid hB
  have HB := Lib.hid hb
  clear h hb hB
  go_enter Tryz.func44, Tryz.ntmps44
  go_wp2_with fail
  refine HC.out.mono ?_
  rintro e w1 ⟨rfl, hb1⟩
  have hB1 := HBl.out.below hb1 HBl.out.lt
  have HB1 := Lib.hid (HB.out.trans (hb1.mono (by simp)))
  have c0 := hB1.cell 0
  have c1 := hB1.cell 1
  have c2 := hB1.cell 2
  have c3 := hB1.cell 3
  have c4 := hB1.cell 4
  have c5 := hB1.cell 5
  have c6 := hB1.cell 6
  have c7 := hB1.cell 7
  have f2 := hB1.free 2
  have f3 := hB1.free 3
  simp only [List.getElem?_toArray, List.getElem?_cons_zero, List.getElem?_cons_succ] at c0 c1 c2 c3 c4 c5 c6 c7
  clear hb1 hB1 HBl HB HC
  go_wp2
  go_ret
  exact ⟨rfl, (HB1.out.setCell (by simp) _).setCell (by simp) _⟩
end Go.Proofs.YtbhfoelnoddlkaaGreatDoor.D

