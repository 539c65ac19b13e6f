/-
  Of the proof that the law DiagDeep answers true at every row of bytes: a part, without conditions of its own.
-/
import Derived.Test.YtbhfoelnoddlkaaGreatDoorPart24
set_option linter.unusedVariables false
set_option linter.unusedSimpArgs false
/-
  nat.Shr by less than 32: walked.
-/
namespace Go.Proofs.YtbhfoelnoddlkaaGreatDoor.D
open Go Go.RowKit Limb

/-- A list of limbs moved down by r digits, r below 32. -/
def srL (r : Nat) : List Nat → List Nat
  | [] => []
  | x :: t => (x / 2 ^ r + (t.headD 0 * 2 ^ (32 - r)) % 4294967296) :: srL r t
theorem srL_length (r : Nat) (l : List Nat) : (srL r l).length = l.length := by
  induction l with
  | nil => rfl
  | cons x t ih => simp [srL, ih]
theorem sr_high (r y : Nat) (hr : r ≤ 32) : (y * 2 ^ (32 - r)) % 4294967296 = (y % 2 ^ r) * 2 ^ (32 - r) := by
  have h1 : (4294967296 : Nat) = 2 ^ r * 2 ^ (32 - r) := by rw [← Nat.pow_add, show r + (32 - r) = 32 by omega]
  rw [h1, Nat.mul_mod_mul_right]
theorem srL_val (r : Nat) (l : List Nat) (hr : r ≤ 32) : 2 ^ r * val (srL r l) + l.headD 0 % 2 ^ r = val l := by
  induction l with
  | nil => simp [srL, val]
  | cons x t ih =>
    rw [srL, val, val, sr_high r _ hr, ← ih, List.headD_cons]
    have h1 : (4294967296 : Nat) = 2 ^ r * 2 ^ (32 - r) := by rw [← Nat.pow_add, show r + (32 - r) = 32 by omega]
    have h2 := Nat.div_add_mod x (2 ^ r)
    rw [h1]
    generalize x / 2 ^ r = q at *
    generalize x % 2 ^ r = m at *
    generalize t.headD 0 % 2 ^ r = y at *
    generalize val (srL r t) = S at *
    generalize 2 ^ r = R at *
    generalize 2 ^ (32 - r) = T at *
    grind
theorem srL_div (r : Nat) (l : List Nat) (hr : r ≤ 32) : val (srL r l) = val l / 2 ^ r := by
  have h := srL_val r l hr
  have h2 := Nat.mod_lt (l.headD 0) (Nat.two_pow_pos r)
  rw [← h, Nat.mul_add_div (Nat.two_pow_pos r), Nat.div_eq_of_lt h2, Nat.add_zero]
theorem sr_low (r x : Nat) (hr : r ≤ 32) (hx : x < 4294967296) : x / 2 ^ r < 2 ^ (32 - r) := by
  apply Nat.div_lt_of_lt_mul
  rw [← Nat.pow_add, show r + (32 - r) = 32 by omega]
  exact hx
theorem sr_lt (r x y : Nat) (hr : r ≤ 32) (hx : x < 4294967296) : x / 2 ^ r + (y * 2 ^ (32 - r)) % 4294967296 < 4294967296 := by
  rw [sr_high r y hr]
  have h1 : (4294967296 : Nat) = 2 ^ r * 2 ^ (32 - r) := by rw [← Nat.pow_add, show r + (32 - r) = 32 by omega]
  have h2 := sr_low r x hr hx
  have h3 := Nat.mod_lt y (Nat.two_pow_pos r)
  have h4 : (y % 2 ^ r) * 2 ^ (32 - r) + 2 ^ (32 - r) ≤ 2 ^ r * 2 ^ (32 - r) := by
    rw [← Nat.succ_mul]; exact Nat.mul_le_mul_right _ h3
  rw [← h1] at h4
  omega
theorem srL_fit (r : Nat) (l : List Nat) (hr : r ≤ 32) (hf : Fit l) : Fit (srL r l) := by
  induction l with
  | nil => intro x hx; simp [srL] at hx
  | cons x t ih =>
    intro y hy
    simp only [srL, List.mem_cons] at hy
    rcases hy with rfl | hy
    · exact sr_lt r x _ hr (hf x (by simp))
    · exact ih (fun z hz => hf z (by simp [hz])) y hy
theorem srL_getD (r : Nat) (l : List Nat) (k : Nat) (h : k < l.length) : (srL r l).getD k 0 = l.getD k 0 / 2 ^ r + (l.getD (k + 1) 0 * 2 ^ (32 - r)) % 4294967296 := by
  induction l generalizing k with
  | nil => simp at h
  | cons x t ih =>
    cases k with
    | zero => cases t <;> simp [srL]
    | succ k => rw [srL, List.getD_cons_succ, ih k (by simpa using h), List.getD_cons_succ, List.getD_cons_succ]
theorem take_drop_set (S o : List Nat) (i y : Nat) (h : i < o.length) (hS : S.length = o.length) : (S.take i ++ o.drop i).set i y = S.take i ++ y :: o.drop (i + 1) := by
  rw [List.set_append_right _ _ (by simp; omega), List.length_take, Nat.min_eq_left (by omega), Nat.sub_self, List.drop_eq_getElem_cons h, List.set_cons_zero]
theorem take_drop_next (S o : List Nat) (i : Nat) (h : i < o.length) (hS : S.length = o.length) : S.take i ++ S.getD i 0 :: o.drop (i + 1) = S.take (i + 1) ++ o.drop (i + 1) := by
  rw [List.take_succ_eq_append_getElem (by omega), List.append_assoc, List.getD_eq_getElem?_getD, List.getElem?_eq_getElem (by omega)]
  rfl
theorem mid_at (A B : List Nat) (x i : Nat) (h : A.length = i) : (A ++ x :: B).getD i 0 = x := by
  rw [List.getD_eq_getElem?_getD, List.getElem?_append_right (by omega), h, Nat.sub_self]
  rfl
theorem mid_next (A o : List Nat) (x i : Nat) (h : A.length = i) : (A ++ x :: o.drop (i + 1)).getD (i + 1) 0 = o.getD (i + 1) 0 := by
  rw [List.getD_eq_getElem?_getD, List.getElem?_append_right (by omega), h, show i + 1 - i = 0 + 1 by omega, List.getElem?_cons_succ, List.getElem?_drop, Nat.add_zero, ← List.getD_eq_getElem?_getD]

set_option maxRecDepth 100000 in
set_option maxHeartbeats 1000000 in
theorem shr_any (w : World) (v : Value) (l : List Nat) (r : Nat) (h : Limbs w v l) (hl : l.length ≤ 8600000000) (hr : r < 32) :
    Calls Tryz.prog 219 #[v, .int .i64 (r : Int)] w fun e w' => Below w.heap.size w w' ∧ ∃ v' more, e = .returned (.tuple #[v', .bool more, .bool true]) ∧ Limbs w' v' (limbs (val l / 2 ^ r)) := by
  have HC1 := Lib.hid (cut_any w v l h)
  rw [trim_eq h.fit] at HC1
  have hm1 : (limbs (val l)).length ≤ 8600000000 := by rw [← trim_eq h.fit, length_trim]; have := top_le l; omega
  have g0 : ¬ (r : Int) < 0 := by omega
  have q3 : (r : Int).tdiv 32 = 0 := by rw [Int.tdiv_eq_ediv_of_nonneg (by omega)]; omega
  have q4 : (r : Int) / 32 = 0 := by omega
  clear h hl
  generalize val l = x at *
  by_cases hx : x = 0
  · subst hx
    rw [Nat.zero_div, limbs_zero] at *
    go_enter Tryz.func219, Tryz.ntmps219
    go_wp2_with fail
    refine HC1.out.mono ?_
    rintro e w1 ⟨rfl, u1, rfl, hu1⟩
    obtain ⟨b1, c1, rfl⟩ := hu1.slice
    clear hu1
    go_wp2
    refine bodyPost_ret (v := .tuple #[.slice none 0 0, .bool false, .bool true]) (by simp [results, Tryz.results219, go_sem]) rfl ⟨Below.refl _ _, _, _, rfl, Limbs.nil _⟩
  · have hp := limbs_length_pos hx
    go_enter Tryz.func219, Tryz.ntmps219
    go_wp2_with fail
    refine HC1.out.mono ?_
    rintro e w ⟨rfl, u1, rfl, hu1⟩
    obtain ⟨hf, ⟨_, hy⟩ | ⟨bk1, of1, c1, rfl, h1, h2, h3, h4⟩⟩ := hu1
    · rw [hy] at hp; simp at hp
    obtain ⟨m, hm⟩ : ∃ m, m = (limbs x).length := ⟨_, rfl⟩
    have HM := Lib.hid hm
    have HH4 := Lib.hid h4
    rw [← hm] at hp hm1 h1 ⊢
    clear h4 hf HC1 hm
    have q0 : ¬ (m : Int) ≤ 0 := by omega
    have q5 : IntKind.i64.wrap (m : Int) = (m : Int) := IntWalk.i64_in _ (by omega)
    have q8 : (r : Int).tmod 32 = (r : Int) := by rw [Int.tmod_eq_emod_of_nonneg (by omega)]; omega
    have q9 : (r : Int) % 32 = (r : Int) := by omega
    have hmk := make_nat w m (by omega)
    have hB := Blk.new w (uCells (List.replicate m 0)) 140
    have hb : Below w.heap.size w (w.alloc (.cells (uCells (List.replicate m 0)) 140)) := (Below.refl _ _).alloc (Nat.le_refl _) _
    go_upto_region 7 with fail
    refine wp_loop_rounds 1 ?_
    rw [rounds_succ]
    go_upto_region 12 with fail
    clear hmk
    generalize w.alloc (.cells (uCells (List.replicate m 0)) 140) = w3 at hB hb ⊢
    have hc0 : ¬ c1 = 0 := by omega
    refine wp_region_lit ?_
    iterate 15 go_step
    refine wpList_copy_splice rfl (.tmp 44) (.tmp 48) 28 28 rfl 140 Tryz.underlying28 (by kernel_rfl) (some ⟨w.heap.size, 0, none⟩) (some ⟨bk1, of1, none⟩) m m m c1 rfl rfl w.heap.size 0 ((List.replicate m 0).map uCell) 140 hB ((limbs x).map uCell) (by rw [List.length_map, HM.out.symm]; exact (Nat.min_eq_left (Nat.le_refl _)).symm) ?_ (by rw [List.length_map, ← HM.out, List.length_map, List.length_replicate]; omega) (uCell_one _) w.heap.size w hb (Nat.le_refl _) ?_
    · intro _
      refine ⟨rfl, _, rfl, fun j u hj => ?_⟩
      rw [List.getElem?_map] at hj
      have hjl : j < (limbs x).length := by
        rcases Nat.lt_or_ge j (limbs x).length with h | h
        · exact h
        · rw [List.getElem?_eq_none h] at hj; cases hj
      rw [List.getElem?_eq_getElem hjl] at hj
      rw [addr_at, hb.cell (p := ⟨bk1, of1 + j, none⟩) h3, HH4.out j hjl, List.getD_eq_getElem?_getD, List.getElem?_eq_getElem hjl]
      exact hj
    · intro w4 hB4 hb4
      obtain ⟨o, ho⟩ : ∃ o, o = limbs x := ⟨_, rfl⟩
      have hB5 : Blk w4 w.heap.size (uCells o) 140 := by
        have := hB4.out
        have e : splice ((List.replicate m 0).map uCell) 0 ((limbs x).map uCell) = o.map uCell := by
          rw [ho, splice, ← List.map_drop, List.drop_of_length_le (by rw [List.length_replicate, List.length_map, HM.out]; omega)]
          simp
        rw [e] at this
        exact this
      have HOL : Hid (o.length = m) := Lib.hid (by rw [ho, HM.out])
      have HOF : Hid (Fit o) := Lib.hid (by rw [ho]; exact fit_limbs x)
      have HOV : Hid (val o = x) := Lib.hid (by rw [ho, val_limbs])
      have HB5 := Lib.hid hB5
      have HX5 := Lib.hid hb4
      clear hB hb hB4 hb4 ho hB5 HH4 HM
      go_upto_region 14 with fail
      by_cases hr0 : r = 0
      · subst hr0
        have hlim := Blk.limbs HB5.out (n := m) HOF.out HOL.out.symm (by omega)
        have HCT := Lib.hid (cut_any _ _ _ hlim)
        rw [trim_eq HOF.out, HOV.out, show x = x / 2 ^ 0 by simp] at HCT
        clear hlim HB5
        go_wp2_with fail
        refine HCT.out.mono ?_
        rintro e w5 ⟨rfl, v3, rfl, h3⟩
        have H3 := Lib.hid h3
        clear h3
        go_wp2
        refine bodyPost_ret (v := .tuple #[v3, .bool false, .bool true]) (by simp [results, Tryz.results219, go_sem]) rfl ⟨HX5.out, _, _, rfl, H3.out⟩
      · have hr1 : (0 : Int) < (r : Int) := by omega
        obtain ⟨t, ht⟩ : ∃ t, t = 32 - r := ⟨_, rfl⟩
        have wt : IntKind.i64.wrap (32 - (r : Int)) = (t : Int) := by rw [IntWalk.i64_in _ (by omega)]; omega
        have ht1 : t ≤ 32 := by omega
        have HT := Lib.hid ht
        have qm : min r 32 = r := by omega
        have cc := HB5.out.cell 0
        rw [uCells_at o 0 (by have := HOL.out; omega)] at cc
        clear ht
        generalize (o.getD 0 0 : Nat) = X0 at cc
        have g00 : (0 : Int) < (m : Int) := by omega
        go_upto_region 16 with fail
        generalize ((X0 : Int) * 2 ^ t % 4294967296 != 0) = more
        clear cc g00
        go_upto_region 17 with fail
        go_loopw [10, 66] (fun _ iv wr => ∃ i : Nat, i ≤ m ∧ iv = .int .i64 i ∧ Hid (Blk wr w.heap.size (uCells ((srL r o).take i ++ o.drop i)) 140) ∧ Hid (Below w.heap.size w wr)) (fun _ iv _ => m - (intOf iv).toNat)
        case atStart => exact ⟨0, by omega, rfl, Lib.hid (by rw [List.take_zero, List.drop_zero, List.nil_append]; exact HB5.out), HX5⟩
        case round =>
          clear HB5 HX5
          obtain ⟨i, hi, rfl, HB, HX⟩ := hrel
          have HSL := Lib.hid (srL_length r o)
          by_cases h1 : i < m
          · have g1 : (i : Int) < (m : Int) := by omega
            have hio : i < o.length := by have := HOL.out; omega
            have hcell : wr.cell? ⟨w.heap.size, i, none⟩ = some (.int .u32 ((o.getD i 0 : Nat) : Int)) := by
              rw [HB.out.cell, uCells_at _ _ (by simp [srL_length]; omega), drop_at o i hio, mid_at _ _ _ _ (by simp [srL_length]; omega)]
            have f0 : wr.frozen? ⟨w.heap.size, i, none⟩ = false := HB.out.free i
            obtain ⟨A, hA⟩ : ∃ A, A = o.getD i 0 / 2 ^ r := ⟨_, rfl⟩
            have hSk := srL_getD r o i hio
            rw [← hA] at hSk
            have hxf := getD_fit HOF.out i hio
            have qa : ((o.getD i 0 : Nat) : Int) / 2 ^ r = (A : Int) := by rw [hA]; simp
            have hA2 := sr_low r (o.getD i 0) (by omega) hxf
            rw [← hA] at hA2
            have hA3 : A < 4294967296 := by rw [hA]; exact Nat.lt_of_le_of_lt (Nat.div_le_self _ _) hxf
            have hB6 := HB.out.set i (.int .u32 (A : Int))
            rw [uCells_set, take_drop_set _ _ _ _ hio HSL.out] at hB6
            have HB6 := Lib.hid hB6
            have HX6 := Lib.hid (HX.out.setCell (p := ⟨w.heap.size, i, none⟩) (Nat.le_refl _) (.int .u32 (A : Int)))
            clear hB6
            have wi : IntKind.i64.wrap ((i : Int) + 1) = (i : Int) + 1 := IntWalk.i64_in _ (by omega)
            by_cases h2 : i + 1 < m
            · have g2 : (i : Int) + 1 < (m : Int) := by omega
              have hyf := getD_fit HOF.out (i + 1) (by have := HOL.out; omega)
              obtain ⟨Z, hZ⟩ : ∃ Z, Z = o.getD (i + 1) 0 * 2 ^ (32 - r) % 4294967296 := ⟨_, rfl⟩
              have hZ2 := sr_high r (o.getD (i + 1) 0) (by omega)
              rw [← hZ] at hZ2 hSk
              have qz : ((o.getD (i + 1) 0 : Nat) : Int) * 2 ^ t % 4294967296 = (Z : Int) := by rw [hZ, HT.out]; simp
              have hZ3 : Z < 4294967296 := by rw [hZ]; exact Nat.mod_lt _ (by decide)
              have qo : bits .or .u32 (A : Int) (Z : Int) = ((A + Z : Nat) : Int) := by
                rw [or_u32 _ _ hA3 hZ3, hZ2, or_add _ _ (32 - r) hA2]
              obtain ⟨V, hV⟩ : ∃ V, V = A + Z := ⟨_, rfl⟩
              rw [← hV] at qo hSk
              have hc0 : (wr.setCell ⟨w.heap.size, i, none⟩ (.int .u32 (A : Int))).cell? ⟨w.heap.size, i, none⟩ = some (.int .u32 (A : Int)) := by
                rw [HB6.out.cell, uCells_at _ _ (by simp [srL_length]; omega), mid_at _ _ _ _ (by simp [srL_length]; omega)]
              have hc1 : (wr.setCell ⟨w.heap.size, i, none⟩ (.int .u32 (A : Int))).cell? ⟨w.heap.size, i + 1, none⟩ = some (.int .u32 ((o.getD (i + 1) 0 : Nat) : Int)) := by
                rw [HB6.out.cell, uCells_at _ _ (by have := HOL.out; simp [srL_length]; omega), mid_next _ _ _ _ (by simp [srL_length]; omega)]
              have f6 : (wr.setCell ⟨w.heap.size, i, none⟩ (.int .u32 (A : Int))).frozen? ⟨w.heap.size, i, none⟩ = false := HB6.out.free i
              have hB7 := HB6.out.set i (.int .u32 (V : Int))
              rw [uCells_set, List.set_append_right _ _ (by simp [srL_length]; omega), List.length_take, Nat.min_eq_left (by rw [srL_length]; omega), Nat.sub_self, List.set_cons_zero, ← hSk, take_drop_next _ _ _ hio HSL.out] at hB7
              have hB8 : Blk ((wr.setCell ⟨w.heap.size, i, none⟩ (.int .u32 (A : Int))).setCell ⟨w.heap.size, i, none⟩ (.int .u32 (V : Int))).drew w.heap.size (uCells ((srL r o).take (i + 1) ++ o.drop (i + 1))) 140 := by rw [hSk] at hB7; exact hB7.drew
              have HB8 := Lib.hid hB8
              have HX8 := Lib.hid ((HX6.out.setCell (p := ⟨w.heap.size, i, none⟩) (Nat.le_refl _) (.int .u32 (V : Int))).drew)
              generalize (o.getD i 0 : Nat) = X at hcell qa
              generalize (o.getD (i + 1) 0 : Nat) = Y at hc1 qz
              clear hSk hA hA2 hA3 HB hZ hZ2 hZ3 hV hyf hB7 hB8 HX h2 hio hxf
              go_upto_region 21 with fail
              clear hcell f0
              generalize (wr.setCell ⟨w.heap.size, i, none⟩ (.int .u32 (A : Int))) = w6 at hc1 hc0 f6 HB8 HX8 ⊢
              go_region
              go_wp2
              go_roundw
              case rel => exact ⟨i + 1, by omega, by simp, HB8, HX8⟩
              case measure => simp [intOf]; omega
            · have g2 : ¬ (i : Int) + 1 < (m : Int) := by omega
              have e1 : o.getD (i + 1) 0 = 0 := by rw [List.getD_eq_getElem?_getD, List.getElem?_eq_none (by have := HOL.out; omega)]; rfl
              rw [e1, Nat.zero_mul, Nat.zero_mod, Nat.add_zero] at hSk
              have HB8 : Hid (Blk (wr.setCell ⟨w.heap.size, i, none⟩ (.int .u32 (A : Int))) w.heap.size (uCells ((srL r o).take (i + 1) ++ o.drop (i + 1))) 140) := Lib.hid (by rw [← take_drop_next _ _ _ hio HSL.out, hSk]; exact HB6.out)
              generalize (o.getD i 0 : Nat) = X at hcell qa
              clear hSk hA hA2 hA3 HB h2 hio hxf e1 HB6 HX
              go_wp2
              go_roundw
              case rel => exact ⟨i + 1, by omega, by simp, HB8, HX6⟩
              case measure => simp [intOf]; omega
          · obtain rfl : i = m := by omega
            have g1 : ¬ (i : Int) < (i : Int) := by omega
            have hBf := HB.out
            rw [List.drop_of_length_le (by rw [HOL.out]; exact Nat.le_refl _), List.append_nil, List.take_of_length_le (by rw [srL_length, HOL.out]; exact Nat.le_refl _)] at hBf
            have hF := srL_fit r o (by omega) HOF.out
            have hlim := Blk.limbs hBf (n := i) hF (by rw [srL_length]; exact HOL.out.symm) (by omega)
            have HCT := Lib.hid (cut_any _ _ _ hlim)
            rw [trim_eq hF, srL_div r o (by omega), HOV.out] at HCT
            clear hBf hF hlim HB
            go_wp2_with fail
            refine HCT.out.mono ?_
            rintro e w5 ⟨rfl, v3, rfl, h3⟩
            have H3 := Lib.hid h3
            clear h3
            go_wp2
            refine bodyPost_ret (v := .tuple #[v3, .bool more, .bool true]) (by simp [results, Tryz.results219, go_sem]) rfl ⟨HX.out, _, _, rfl, H3.out⟩
end Go.Proofs.YtbhfoelnoddlkaaGreatDoor.D

/-
  Long division of lists of limbs, a digit at a time: plain Lean.
-/
namespace Go.Proofs.YtbhfoelnoddlkaaGreatDoor.D
open Limb

/-- What is said of a divisor with its highest bit set, its two highest limbs V1 and V2 above K; and of a window w0, w1, w2 with what is below them. -/
structure Kn (K y0 V1 V2 Yv w' w0 w1 w2 Wv top : Nat) : Prop where
  k : 0 < K
  y0l : y0 < K
  y : Yv = y0 + K * (V2 + 4294967296 * V1)
  v1 : 2147483648 ≤ V1
  v1l : V1 < 4294967296
  v2 : V2 < 4294967296
  wl : w' < K
  w : Wv = w' + K * (w2 + 4294967296 * top)
  t : top = w0 * 4294967296 + w1
  w0l : w0 < 4294967296
  w1l : w1 < 4294967296
  w2l : w2 < 4294967296
  lt : Wv < 4294967296 * Yv
variable {K y0 V1 V2 Yv w' w0 w1 w2 Wv top : Nat}
theorem Kn.top_le (h : Kn K y0 V1 V2 Yv w' w0 w1 w2 Wv top) : w0 ≤ V1 := by
  rcases Nat.lt_or_ge V1 w0 with h1 | h1
  · exfalso
    have h2 := h.lt
    rw [h.w, h.y, h.t] at h2
    have h3 : K * (V2 + 4294967296 * V1 + 1) ≤ K * (4294967296 * w0) := Nat.mul_le_mul_left _ (by have := h.v2; omega)
    have h4 : K * (w2 + 4294967296 * (w0 * 4294967296 + w1)) = K * (w2 + 4294967296 * w1) + 4294967296 * (K * (4294967296 * w0)) := by grind
    have h5 := h.y0l
    rw [h4] at h2
    have h6 : K * (V2 + 4294967296 * V1 + 1) = K * (V2 + 4294967296 * V1) + K := by grind
    omega
  · exact h1
theorem Kn.guess0 (h : Kn K y0 V1 V2 Yv w' w0 w1 w2 Wv top) : Wv < (top / V1 + 1) * Yv := by
  have h1 := Nat.lt_div_mul_add (a := top) (b := V1) (by have := h.v1; omega)
  have h2 : top + 1 ≤ (top / V1 + 1) * V1 := by rw [Nat.add_mul, Nat.one_mul]; exact h1
  generalize top / V1 + 1 = g at *
  rw [h.w, h.y]
  have h3 : K * (4294967296 * (top + 1)) ≤ K * (4294967296 * (g * V1)) := Nat.mul_le_mul_left _ (Nat.mul_le_mul_left _ h2)
  have h4 : K * (w2 + 1) ≤ K * 4294967296 := Nat.mul_le_mul_left _ (by have := h.w2l; omega)
  have h5 := h.wl
  have h6 : g * (y0 + K * (V2 + 4294967296 * V1)) = g * y0 + g * (K * V2) + K * (4294967296 * (g * V1)) := by grind
  have h7 : K * (4294967296 * (top + 1)) = K * (4294967296 * top) + K * 4294967296 := by grind
  have h8 : K * (w2 + 4294967296 * top) = K * w2 + K * (4294967296 * top) := by grind
  have h9 : K * (w2 + 1) = K * w2 + K := by grind
  rw [h6, h8]
  omega
theorem Kn.too_big (h : Kn K y0 V1 V2 Yv w' w0 w1 w2 Wv top) (g : Nat) (hg : 4294967296 ≤ g) : Wv < g * Yv :=
  Nat.lt_of_lt_of_le h.lt (Nat.mul_le_mul_right _ hg)
theorem Kn.too_much (h : Kn K y0 V1 V2 Yv w' w0 w1 w2 Wv top) (g rest : Nat) (hr : g * V1 + rest = top) (hc : rest * 4294967296 + w2 < g * V2) : Wv < g * Yv := by
  rw [h.w, h.y]
  have h5 := h.wl
  have h1 : K * (rest * 4294967296 + w2 + 1) ≤ K * (g * V2) := Nat.mul_le_mul_left _ hc
  have h6 : g * (y0 + K * (V2 + 4294967296 * V1)) = g * y0 + K * (g * V2) + K * (4294967296 * (g * V1)) := by grind
  have h7 : K * (w2 + 4294967296 * top) = K * w2 + K * (4294967296 * (g * V1)) + K * (4294967296 * rest) := by rw [← hr]; grind
  have h8 : K * (rest * 4294967296 + w2 + 1) = K * (4294967296 * rest) + K * w2 + K := by grind
  rw [h6, h7]
  omega
/-- What a guess is where the correction stops. -/
def Good (g Yv Wv : Nat) : Prop := g < 4294967296 ∧ Wv < (g + 1) * Yv ∧ g * Yv < Wv + Yv
theorem Kn.good (h : Kn K y0 V1 V2 Yv w' w0 w1 w2 Wv top) (g rest : Nat) (hr : g * V1 + rest = top) (hg : g < 4294967296) (hc : g * V2 ≤ rest * 4294967296 + w2) (hq : Wv < (g + 1) * Yv) : Good g Yv Wv := by
  refine ⟨hg, hq, ?_⟩
  have h1 : K * (g * V2) ≤ K * (rest * 4294967296 + w2) := Nat.mul_le_mul_left _ hc
  have h2 : g * y0 ≤ g * K := Nat.mul_le_mul_left _ (Nat.le_of_lt h.y0l)
  have h3 : (g + 1) * K ≤ 4294967296 * K := Nat.mul_le_mul_right _ hg
  have h4 : K * (4294967296 * 1) ≤ K * (4294967296 * V1) := Nat.mul_le_mul_left _ (Nat.mul_le_mul_left _ (by have := h.v1; omega))
  have h6 : g * Yv = g * y0 + K * (g * V2) + K * (4294967296 * (g * V1)) := by rw [h.y]; grind
  have h7 : Wv = w' + K * w2 + K * (4294967296 * (g * V1)) + K * (4294967296 * rest) := by rw [h.w, ← hr]; grind
  have h8 : K * (rest * 4294967296 + w2) = K * (4294967296 * rest) + K * w2 := by grind
  have h9 : Yv = y0 + K * V2 + K * (4294967296 * V1) := by rw [h.y]; grind
  have h10 : (g + 1) * K = g * K + K := by grind
  have h11 : K * (4294967296 * 1) = 4294967296 * K := by grind
  have h12 := h.k
  have h13 : 0 ≤ K * V2 := Nat.zero_le _
  rw [h6, h7, h9]
  omega
theorem Kn.stop (h : Kn K y0 V1 V2 Yv w' w0 w1 w2 Wv top) (g rest : Nat) (hr : g * V1 + rest = top) (hb : 4294967296 ≤ rest) (hq : Wv < (g + 1) * Yv) : Good g Yv Wv := by
  have h1 := h.top_le
  have h2 := h.v1
  have hg : g < 4294967296 := by
    rcases Nat.lt_or_ge g 4294967296 with h3 | h3
    · exact h3
    · exfalso
      have h4 : 4294967296 * V1 ≤ g * V1 := Nat.mul_le_mul_right _ h3
      have h5 := h.t
      have h6 := h.w1l
      omega
  refine h.good g rest hr hg ?_ hq
  have h7 : g * V2 ≤ 4294967295 * 4294967295 := Nat.mul_le_mul (by omega) (by have := h.v2; omega)
  have h8 : 4294967296 * 4294967296 ≤ rest * 4294967296 := Nat.mul_le_mul_right _ hb
  omega
theorem Kn.guess_lt (h : Kn K y0 V1 V2 Yv w' w0 w1 w2 Wv top) : top / V1 < 8589934592 := by
  apply Nat.div_lt_of_lt_mul
  have h1 := h.top_le
  have h2 := h.v1
  have h3 := h.t
  have h4 := h.w1l
  omega
/-- The digit and the rest, where nothing was taken too much. -/
theorem digit_fits {g Yv Wv Z E : Nat} (h : Good g Yv Wv) (hz : Z + g * Yv = Wv + E * 0) : Wv = g * Yv + Z ∧ Z < Yv := by
  have h1 := h.2.1
  have h2 : (g + 1) * Yv = g * Yv + Yv := by grind
  omega
/-- .. and where y was put back once. -/
theorem digit_back {g Yv Wv Z Z2 E co : Nat} (h : Good g Yv Wv) (hZ : Z < E) (hz : Z + g * Yv = Wv + E * 1) (hZ2 : Z2 < E) (hE : Yv ≤ E) (hb : Z2 + E * co = Z + Yv) : 1 ≤ g ∧ Wv = (g - 1) * Yv + Z2 ∧ Z2 < Yv := by
  have h1 := h.2.2
  have hg : 1 ≤ g := by
    rcases Nat.eq_zero_or_pos g with h0 | h0
    · exfalso; subst h0; simp at hz; omega
    · exact h0
  obtain ⟨k, rfl⟩ : ∃ k, g = k + 1 := ⟨g - 1, by omega⟩
  have h2 : (k + 1) * Yv = k * Yv + Yv := by grind
  have hco : co = 1 := by
    rcases (by omega : co = 0 ∨ co = 1 ∨ 2 ≤ co) with h3 | h3 | h3
    · subst h3; exfalso; omega
    · exact h3
    · exfalso
      have h4 : E * 2 ≤ E * co := Nat.mul_le_mul_left _ h3
      omega
  subst hco
  rw [Nat.add_sub_cancel]
  omega

theorem kn_lists (X Y : List Nat) (j k : Nat) (hX : Fit X) (hY : Fit Y) (hYn : k + 2 ≤ Y.length) (hXn : j + (k + 2) + 1 ≤ X.length) (hv : 2147483648 ≤ Y.getD (k + 1) 0) (hlt : val ((X.drop j).take (k + 3)) < 4294967296 * val (Y.take (k + 2))) :
    Kn (4294967296 ^ k) (val (Y.take k)) (Y.getD (k + 1) 0) (Y.getD k 0) (val (Y.take (k + 2))) (val ((X.drop j).take k)) (X.getD (j + (k + 2)) 0) (X.getD (j + (k + 1)) 0) (X.getD (j + k) 0) (val ((X.drop j).take (k + 3))) (X.getD (j + (k + 2)) 0 * 4294967296 + X.getD (j + (k + 1)) 0) where
  k := Nat.pow_pos (by decide)
  y0l := by
    have := val_lt (fit_take hY k)
    rwa [List.length_take, Nat.min_eq_left (by omega)] at this
  y := by
    rw [val_take_succ, val_take_succ, Nat.pow_succ]
    generalize 4294967296 ^ k = K
    grind
  v1 := hv
  v1l := getD_fit hY _ (by omega)
  v2 := getD_fit hY _ (by omega)
  wl := by
    have := val_lt (fit_take (l := X.drop j) (fun x hx => hX x (List.mem_of_mem_drop hx)) k)
    rwa [List.length_take, List.length_drop, Nat.min_eq_left (by omega)] at this
  w := by
    rw [show k + 3 = k + 1 + 1 + 1 by omega, val_take_succ, val_take_succ, val_take_succ, getD_drop, getD_drop, getD_drop, Nat.pow_succ, Nat.pow_succ, Nat.pow_succ]
    rw [show k + 1 + 1 = k + 2 by omega]
    clear hlt hv hXn hYn hX hY
    generalize 4294967296 ^ k = K
    generalize X.getD (j + (k + 2)) 0 = a
    generalize X.getD (j + (k + 1)) 0 = b
    generalize X.getD (j + k) 0 = c
    grind
  t := rfl
  w0l := getD_fit hX _ (by omega)
  w1l := getD_fit hX _ (by omega)
  w2l := getD_fit hX _ (by omega)
  lt := hlt

theorem fit_drop {X : List Nat} (h : Fit X) (j : Nat) : Fit (X.drop j) := fun x hx => h x (List.mem_of_mem_drop hx)
theorem fit_cons {R : List Nat} (h : Fit R) (d : Nat) (hd : d < 4294967296) : Fit (d :: R) := by
  intro y hy
  rcases List.mem_cons.1 hy with rfl | h1
  · exact hd
  · exact h y h1
/-- How far a long division is: t digits are still to be told. -/
structure LongI (A Yv n lx : Nat) (X R : List Nat) (t : Nat) : Prop where
  len : X.length = lx
  lenR : R.length + t + n = lx
  fit : Fit X
  fitR : Fit R
  eq : A = val X + Yv * (4294967296 ^ t * val R)
  lt : val (X.drop t) < Yv
theorem LongI.window {A Yv n lx : Nat} {X R : List Nat} {j : Nat} (h : LongI A Yv n lx X R (j + 1)) (hY : Yv < 4294967296 ^ n) :
    val (X.drop j) = val ((X.drop j).take (n + 1)) ∧ val ((X.drop j).take (n + 1)) < 4294967296 * Yv ∧ val ((X.drop j).drop (n + 1)) = 0 := by
  have hl := h.len
  have hr := h.lenR
  have h1 := drop_at X j (by omega)
  have h2 : val (X.drop j) < 4294967296 * Yv := by
    rw [h1, val]
    have := getD_fit h.fit j (by omega)
    have := h.lt
    omega
  have h3 := val_split (X.drop j) (n + 1) (by simp; omega)
  have h4 : val ((X.drop j).drop (n + 1)) = 0 := by
    rcases Nat.eq_zero_or_pos (val ((X.drop j).drop (n + 1))) with h5 | h5
    · exact h5
    · exfalso
      have h6 : 4294967296 ^ (n + 1) * 1 ≤ 4294967296 ^ (n + 1) * val ((X.drop j).drop (n + 1)) := Nat.mul_le_mul_left _ h5
      rw [Nat.pow_succ] at h6 h3
      omega
  rw [h4, Nat.mul_zero, Nat.add_zero] at h3
  exact ⟨h3, by rw [← h3]; exact h2, h4⟩
theorem LongI.zero {A Yv n lx : Nat} {X R : List Nat} {j : Nat} (h : LongI A Yv n lx X R (j + 1)) (hY : Yv < 4294967296 ^ n) (hw : val ((X.drop j).take (n + 1)) < Yv) : LongI A Yv n lx X (0 :: R) j where
  len := h.len
  lenR := by have := h.lenR; simp; omega
  fit := h.fit
  fitR := fit_cons h.fitR 0 (by decide)
  eq := by
    rw [h.eq, val, Nat.pow_succ]
    generalize 4294967296 ^ j = K
    grind
  lt := by rw [(h.window hY).1]; exact hw
theorem LongI.step {A Yv n lx : Nat} {X R Z : List Nat} {j d : Nat} (h : LongI A Yv n lx X R (j + 1)) (hY : Yv < 4294967296 ^ n) (hZ : Z.length = n + 1) (hf : Fit Z) (hd : d < 4294967296) (hw : val ((X.drop j).take (n + 1)) = d * Yv + val Z) (hz : val Z < Yv) : LongI A Yv n lx (win X Z j) (d :: R) j := by
  have hl := h.len
  have hr := h.lenR
  obtain ⟨h1, h2, h3⟩ := h.window hY
  have hwin : val (win X Z j) = val (X.take j) + 4294967296 ^ j * val Z := by
    unfold win
    rw [val_append, List.length_take, Nat.min_eq_left (by omega), val_append, hZ, ← List.drop_drop, h3, Nat.mul_zero, Nat.add_zero]
  refine ⟨by rw [win_length X Z j (by omega)]; exact hl, by simp; omega, fit_win h.fit hf j, fit_cons h.fitR d hd, ?_, ?_⟩
  · rw [h.eq, hwin, val, val_split X j (by omega), h1, hw, Nat.pow_succ]
    generalize 4294967296 ^ j = K
    grind
  · have : (win X Z j).drop j = Z ++ X.drop (j + Z.length) := by
      unfold win
      rw [List.drop_append_of_le_length (by simp; omega), List.drop_of_length_le (by simp; omega), List.nil_append]
    rw [this, val_append, hZ, ← List.drop_drop, h3, Nat.mul_zero, Nat.add_zero]
    exact hz
/-- The quotient and what is left. -/
theorem LongI.done {a b u n lx : Nat} {X R : List Nat} (h : LongI (2 ^ u * a) (2 ^ u * b) n lx X R 0) : val R = a / b ∧ val X / 2 ^ u = a % b := by
  have h1 := h.eq
  have h2 := h.lt
  rw [List.drop_zero] at h2
  rw [Nat.pow_zero, Nat.one_mul] at h1
  have hu := Nat.two_pow_pos u
  have h3 : val X = 2 ^ u * (a - b * val R) := by rw [Nat.mul_sub]; rw [Nat.mul_assoc] at h1; omega
  have hle : b * val R ≤ a := by
    have : 2 ^ u * (b * val R) ≤ 2 ^ u * a := by rw [Nat.mul_assoc] at h1; omega
    exact Nat.le_of_mul_le_mul_left this hu
  rw [h3] at h2 ⊢
  rw [Nat.mul_div_cancel_left _ hu]
  have h4 : a - b * val R < b := Nat.lt_of_mul_lt_mul_left h2
  have h5 : a = b * val R + (a - b * val R) := by omega
  generalize a - b * val R = r at *
  constructor
  · rw [h5, Nat.mul_add_div (by omega), Nat.div_eq_of_lt h4, Nat.add_zero]
  · rw [h5, Nat.mul_add_mod, Nat.mod_eq_of_lt h4]
end Go.Proofs.YtbhfoelnoddlkaaGreatDoor.D

