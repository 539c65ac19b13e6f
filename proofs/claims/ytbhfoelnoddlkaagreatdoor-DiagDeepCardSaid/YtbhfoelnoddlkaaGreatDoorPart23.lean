/-
  Of the proof that the law DiagDeep answers true at every row of bytes: a part, without conditions of its own.
-/
import Derived.Test.YtbhfoelnoddlkaaGreatDoorPart22
set_option linter.unusedVariables false
set_option linter.unusedSimpArgs false
/-
  A row of limbs at a block; quot.moved: walked.
-/
namespace Go.Proofs.YtbhfoelnoddlkaaGreatDoor.D
open Go Go.RowKit Limb

/-- These limbs stand at the head of a block. -/
def RowU (w : World) (g : Nat) (l : List Nat) : Prop := ∃ ex : List Value, Blk w g (l.map uCell ++ ex).toArray 140
theorem RowU.cell {w : World} {g : Nat} {l : List Nat} (h : RowU w g l) (i : Nat) (hi : i < l.length) : w.cell? ⟨g, i, none⟩ = some (.int .u32 (l.getD i 0 : Nat)) := by
  obtain ⟨ex, h⟩ := h
  rw [h.cell, List.getElem?_toArray, List.getElem?_append_left (by simpa using hi), List.getElem?_map, List.getD_eq_getElem?_getD, List.getElem?_eq_getElem hi]
  rfl
theorem RowU.free {w : World} {g : Nat} {l : List Nat} (h : RowU w g l) (i : Nat) : w.frozen? ⟨g, i, none⟩ = false := by
  obtain ⟨ex, h⟩ := h
  exact h.free i
theorem RowU.lt {w : World} {g : Nat} {l : List Nat} (h : RowU w g l) : g < w.heap.size := by
  obtain ⟨ex, h⟩ := h
  exact h.lt
theorem RowU.drewN {w : World} {g : Nat} {l : List Nat} (h : RowU w g l) (m : Nat) : RowU (w.drewN m) g l := h
theorem RowU.set {w : World} {g : Nat} {l : List Nat} (h : RowU w g l) (i x : Nat) (hi : i < l.length) : RowU (w.setCell ⟨g, i, none⟩ (.int .u32 (x : Int))) g (l.set i x) := by
  obtain ⟨ex, h⟩ := h
  refine ⟨ex, ?_⟩
  have := h.set i (.int .u32 (x : Int))
  rw [List.setIfInBounds_toArray, List.set_append_left _ _ (by simpa using hi)] at this
  rw [List.map_set]
  exact this
theorem RowU.below {w w' : World} {B g : Nat} {l : List Nat} (h : RowU w g l) (hb : Below B w w') (hB : g < B) : RowU w' g l := by
  obtain ⟨ex, h⟩ := h
  exact ⟨ex, h.below hb hB⟩
theorem RowU.ex {S : Nat → Prop} {B g : Nat} {w w' : World} {l : List Nat} (h : RowU w g l) (hE : Ex S B w w') (hB : g < B) (hp : ¬ S g) : RowU w' g l := by
  obtain ⟨ex, h⟩ := h
  exact ⟨ex, hE.blk h hB hp⟩
theorem RowU.limbs {w : World} {g : Nat} {l : List Nat} (h : RowU w g l) (hf : Fit l) (off n cap : Nat) (hn : off + n ≤ l.length) (hc : n ≤ cap) (hcap : cap ≤ 9223372036854775807) : Limbs w (.slice (some ⟨g, off, none⟩) n cap) ((l.drop off).take n) := by
  have hl : ((l.drop off).take n).length = n := by simp; omega
  refine ⟨fit_take (fun x hx => hf x (List.mem_of_mem_drop hx)) n, .inr ⟨g, off, cap, by rw [hl], by omega, hcap, h.lt, fun i hi => ?_⟩⟩
  rw [hl] at hi
  rw [h.cell _ (by omega)]
  congr 3
  rw [List.getD_eq_getElem?_getD, List.getD_eq_getElem?_getD, List.getElem?_take, if_pos hi, List.getElem?_drop]
/-- A row of limbs of one's own, or none. -/
def OwnU (B : Nat) (w : World) (v : Value) (L : List Nat) : Prop := w.ownsRow B 140 1 v L.length (L.map uCell)
theorem OwnU.row {B : Nat} {w : World} {v : Value} {L : List Nat} (h : OwnU B w v L) (h0 : L ≠ []) : ∃ g cap, v = .slice (some ⟨g, 0, none⟩) L.length cap ∧ B ≤ g ∧ L.length ≤ cap ∧ cap ≤ 9223372036854775807 ∧ RowU w g L := by
  obtain ⟨_, ⟨_, hz⟩ | ⟨g, cap, cur, hv, hg, hc, hn, hm, hs, ht⟩⟩ := h
  · exact absurd (List.eq_nil_of_length_eq_zero hz) h0
  · refine ⟨g, cap, hv, hg, hn, by unfold maxLen at hm; omega, cur.toList.drop L.length, ?_⟩
    rw [Nat.mul_one] at ht
    rw [← ht, List.take_append_drop]
    exact hc

theorem madeU (c : Nat) (x : Nat) (hx : x = c) : madeCells (Value.int IntKind.u32 0).cells x = uCells (List.replicate c 0) := by
  subst hx
  apply Array.ext_getElem?
  intro j
  have hg : ∀ l : List Nat, (uCells l)[j]? = (l.map uCell)[j]? := fun l => by unfold uCells; rw [List.getElem?_toArray]
  rw [hg, List.getElem?_map, List.getElem?_replicate]
  simp only [madeCells, Value.cells]
  by_cases hj : j < x
  · simp [hj, Nat.mod_one]; rfl
  · simp [hj]
theorem make_cap (w : World) (n : Nat) (hn : n ≤ 34359738368) : (Instr.makeSlice 28 (.int .i64 0) (.int .i64 (n : Int))).run Tryz.prog w = .ok (.slice (some ⟨w.heap.size, 0, none⟩) 0 n) (w.alloc (.cells (uCells (List.replicate n 0)) 140)) := by
  obtain ⟨i, hi, hz, hsz, hby⟩ := info32'
  have := run_make (P := Tryz.prog) w 28 140 i (.int .u32 0) Tryz.underlying28 hi hz .i64 .i64 0 (n : Int) (by omega) (by omega) (by rw [hby]; omega) (by omega)
  rw [this, hsz, Int.toNat_natCast, madeU n (n * 1) (by omega)]
  rfl

theorem shL_app (r p : Nat) (a b : List Nat) : shL r p (a ++ b) = shL r p a ++ shL r (a.getLastD p) b := by
  induction a generalizing p with
  | nil => simp [shL]
  | cons x t ih => rw [List.cons_append, shL, ih, shL, List.cons_append, List.getLastD_cons]
theorem last_take (p : Nat) (a : List Nat) (j : Nat) (h : j < a.length) : (a.take (j + 1)).getLastD p = a.getD j 0 := by
  rw [List.take_succ_eq_append_getElem h, List.getD_eq_getElem?_getD, List.getElem?_eq_getElem h]
  generalize a.take j = q
  simp
theorem shL_take_succ (r : Nat) (a : List Nat) (j : Nat) (h : j < a.length) : shL r 0 (a.take (j + 1)) = shL r 0 (a.take j) ++ [(a.getD j 0 * 2 ^ r) % 4294967296 + (if j = 0 then 0 else a.getD (j - 1) 0) / 2 ^ (32 - r)] := by
  rw [List.take_succ_eq_append_getElem h, shL_app, shL, shL]
  congr 3
  · rw [List.getD_eq_getElem?_getD, List.getElem?_eq_getElem h]; rfl
  · congr 1
    cases j with
    | zero => simp
    | succ j => rw [last_take 0 a j (by omega)]; simp
/-- What is carried behind j limbs. -/
def carryL (r : Nat) (a : List Nat) (j : Nat) : Nat := (if j = 0 then 0 else a.getD (j - 1) 0) / 2 ^ (32 - r)
theorem carry_succ (r : Nat) (a : List Nat) (j : Nat) : carryL r a (j + 1) = a.getD j 0 / 2 ^ (32 - r) := by simp [carryL]
theorem carryL_lt (r : Nat) (a : List Nat) (hf : Fit a) (hr : r ≤ 32) (j : Nat) (hj : j ≤ a.length) : carryL r a j < 2 ^ r := by
  unfold carryL
  split
  · rw [Nat.zero_div]; exact Nat.two_pow_pos r
  · exact shr_high r _ hr (getD_fit hf _ (by omega))
theorem shL_snoc0 (r : Nat) (a : List Nat) : shL r 0 (a ++ [0]) = shL r 0 a ++ [carryL r a a.length] := by
  rw [shL_app, shL, shL]
  congr 2
  rw [Nat.zero_mul, Nat.zero_mod, Nat.zero_add]
  unfold carryL
  congr 1
  cases a with
  | nil => simp
  | cons x t =>
    have := last_take 0 (x :: t) t.length (by simp)
    rw [List.take_of_length_le (by simp)] at this
    rw [this]
    simp
/-- One limb moved up with what is carried: the limb and the next carry. -/
theorem moved_step (r x c : Nat) (hr : r < 32) (hx : x < 4294967296) (hc : c < 2 ^ r) : x * 2 ^ r + c < 18446744073709551616 ∧ (x * 2 ^ r + c) % 4294967296 = x * 2 ^ r % 4294967296 + c ∧ (x * 2 ^ r + c) / 4294967296 = x / 2 ^ (32 - r) ∧ x * 2 ^ r < 18446744073709551616 ∧ x * 2 ^ r ||| c = x * 2 ^ r + c ∧ c < 4294967296 := by
  have h1 := shl_limb r x (by omega)
  have h2 : 2 ^ r ≤ 2 ^ 31 := Nat.pow_le_pow_right (by omega) (by omega)
  have h3 : x * 2 ^ r ≤ 4294967295 * 2 ^ 31 := Nat.mul_le_mul (by omega) h2
  obtain ⟨m, hm⟩ := shl_low r x (by omega)
  have h4 := Nat.mod_lt (x * 2 ^ r) (show 4294967296 > 0 by decide)
  have h5 : (4294967296 : Nat) = 2 ^ (32 - r) * 2 ^ r := by rw [← Nat.pow_add, show 32 - r + r = 32 by omega]
  have h6 : x * 2 ^ r % 4294967296 + c < 4294967296 := by
    rw [hm] at h4 ⊢
    have h7 : m < 2 ^ (32 - r) := by rw [h5] at h4; exact Nat.lt_of_mul_lt_mul_right h4
    have h8 : m * 2 ^ r + 2 ^ r ≤ 2 ^ (32 - r) * 2 ^ r := by rw [← Nat.succ_mul]; exact Nat.mul_le_mul_right _ h7
    rw [← h5] at h8
    omega
  have h9 : x * 2 ^ r ||| c = x * 2 ^ r + c := by rw [Nat.or_comm, or_add _ _ r hc, Nat.add_comm]
  have h10 : (2 : Nat) ^ 31 = 2147483648 := rfl
  refine ⟨by omega, by omega, by omega, by omega, h9, by omega⟩

set_option maxRecDepth 100000 in
set_option maxHeartbeats 1000000 in
theorem moved_any (w : World) (v : Value) (a : List Nat) (r : Nat) (h : Limbs w v a) (hl : a.length ≤ 8600000000) (hr : r < 32) :
    Calls Tryz.prog 239 #[v, .int .i64 (r : Int)] w fun e w' => Below w.heap.size w w' ∧ ∃ g cap, e = .returned (.slice (some ⟨g, 0, none⟩) (a.length + 1) cap) ∧ w.heap.size ≤ g ∧ a.length + 1 ≤ cap ∧ cap ≤ 9223372036854775807 ∧ RowU w' g (shL r 0 (a ++ [0])) := by
  obtain ⟨i0, hi0, hz0, hs0, hb0⟩ := info32'
  have HI0 := Lib.hid hi0
  have HZ0 := Lib.hid hz0
  have HS0 := Lib.hid hs0
  have HB0 := Lib.hid hb0
  clear hi0 hz0 hs0 hb0
  have HF := Lib.hid h.fit
  obtain ⟨b1, c1, rfl⟩ := h.slice
  have HL := Lib.hid h
  obtain ⟨n, hn⟩ : ∃ n, n = a.length := ⟨_, rfl⟩
  have HN := Lib.hid hn
  rw [← hn] at hl ⊢
  clear h hn
  have gw : IntKind.i64.wrap ((n : Int) + 1) = (n : Int) + 1 := IntWalk.i64_in _ (by omega)
  have hmk := make_cap w (n + 1) (by omega)
  rw [show ((n + 1 : Nat) : Int) = (n : Int) + 1 by omega] at hmk
  have hB := Blk.new w (uCells (List.replicate (n + 1) 0)) 140
  have hb : Below w.heap.size w (w.alloc (.cells (uCells (List.replicate (n + 1) 0)) 140)) := (Below.refl _ _).alloc (Nat.le_refl _) _
  go_enter Tryz.func239, Tryz.ntmps239
  go_upto_region 2 with fail
  clear hmk
  generalize w.alloc (.cells (uCells (List.replicate (n + 1) 0)) 140) = w1 at hB hb ⊢
  have HO1 : Hid (OwnU w.heap.size w1 (.slice (some ⟨w.heap.size, 0, none⟩) 0 (n + 1)) (shL r 0 (a.take 0))) := Lib.hid ⟨by simp [shL], .inr ⟨w.heap.size, n + 1, _, rfl, Nat.le_refl _, hB, by simp [shL], by unfold maxLen; omega, by simp [uCells_size], by simp [shL]⟩⟩
  have HX1 := Lib.hid hb
  clear hB hb
  go_upto_region 4 with fail
  go_loopw [5, 6, 8, 9, 16] (fun v c _ _ i wr => ∃ j : Nat, j ≤ n ∧ i = .int .i64 j ∧ c = .int .u64 (carryL r a j : Nat) ∧ (∃ bb cc, v = .slice bb j cc) ∧ Hid (OwnU w.heap.size wr v (shL r 0 (a.take j))) ∧ Hid (Below w.heap.size w wr)) (fun _ _ _ _ i _ => n - (intOf i).toNat)
  case atStart => exact ⟨0, by omega, rfl, by simp [carryL], ⟨_, _, rfl⟩, HO1, HX1⟩
  case round =>
    clear HO1 HX1
    obtain ⟨j, hj, rfl, rfl, ⟨bb, cc, rfl⟩, HO, HX⟩ := hrel
    have hcl := carryL_lt r a HF.out (by omega) j (by rw [← HN.out]; exact hj)
    by_cases h1 : j < n
    · have g1 : (j : Int) < (n : Int) := by omega
      obtain ⟨_, ⟨_, hy⟩ | ⟨bk1, of1, cp1, hv1, _, _, _, p1⟩⟩ := HL.out.below HX.out
      · have := HN.out; rw [hy] at this; simp at this; omega
      simp only [Value.slice.injEq] at hv1
      obtain ⟨rfl, -, rfl⟩ := hv1
      have hcA := p1 j (by have := HN.out; omega)
      have hxf := getD_fit HF.out j (by have := HN.out; omega)
      obtain ⟨m1, m2, m3, m4, m5, m6⟩ := moved_step r (a.getD j 0) (carryL r a j) hr hxf hcl
      have HST := Lib.hid (shL_take_succ r a j (by have := HN.out; omega))
      have HCA := Lib.hid (carry_succ r a j)
      rw [← m3] at HCA
      have e0 : (if j = 0 then 0 else a.getD (j - 1) 0) / 2 ^ (32 - r) = carryL r a j := rfl
      rw [e0, ← m2] at HST
      clear e0 m2 m3 p1 hcl
      generalize a.getD j 0 = X at *
      generalize carryL r a j = C at *
      obtain ⟨P, hP⟩ : ∃ P, P = X * 2 ^ r := ⟨_, rfl⟩
      have q1 : IntKind.u64.wrap (X : Int) = (X : Int) := by rw [IntKind.wrap_u64]; omega
      have q2 : IntKind.u64.wrap ((X : Int) * 2 ^ r) = (P : Int) := by
        have : (X : Int) * 2 ^ r = (P : Int) := by rw [hP]; simp
        rw [this, IntKind.wrap_u64]; rw [← hP] at m4; omega
      rw [← hP] at m1 m4 m5 HST HCA
      have q3 : bits .or .u64 (P : Int) (C : Int) = ((P + C : Nat) : Int) := by rw [or_u64 _ _ m4 (by omega), m5]
      obtain ⟨T, hT⟩ : ∃ T, T = P + C := ⟨_, rfl⟩
      rw [← hT] at m1 q3 HST HCA
      have q4 : IntKind.u32.wrap (T : Int) = ((T % 4294967296 : Nat) : Int) := by rw [IntKind.wrap_u32]; omega
      have q5 : (T : Int) % 4294967296 = ((T % 4294967296 : Nat) : Int) := by omega
      have q6 : (T : Int) / 4294967296 = ((T / 4294967296 : Nat) : Int) := by omega
      generalize T % 4294967296 = R at q4 q5 HST
      generalize T / 4294967296 = Q at q6 HCA
      clear hP hT m1 m4 m5 m6 hxf
      have hO := HO.out
      have hlt := World.ownsRow.lt hO
      go_wp2_with (at_builtin; refine wpList_append_own _ rfl _ _ 28 rfl w.heap.size 140 i0 (.int .u32 0) 1 4 Tryz.underlying28 HI0.out HZ0.out HS0.out HB0.out rfl (by decide) _ _ _ rfl (World.ownsRow.alloc hO _) ⟨wr.heap.size, 0, none⟩ 1 1 [.int .u32 (R : Int)] rfl rfl ?c1 ?c2 ?c3 ?c4 ?c5 ?_)
      case c1 =>
        intro j u hj
        match j, hj with
        | 0, hj => simp at hj; subst hj; simp [Addr.add]
      case c2 => intro u hu; simp at hu; subst hu; rfl
      case c3 => unfold maxLen; rw [shL_length, List.length_take]; omega
      case c4 => rw [shL_length, List.length_take]; omega
      case c5 => have := HX.out.size; simp; omega
      intro v' w2 hown' hgrow _
      have hb2 : Below w.heap.size w w2 := (HX.out.alloc HX.out.size _).grown hgrow (by have := HX.out.size; simp; omega) (fun k hk => (hlt k hk).1)
      have HO2 : Hid (OwnU w.heap.size w2 v' (shL r 0 (a.take (j + 1)))) := Lib.hid (by
        unfold OwnU
        rw [HST.out, List.length_append, List.map_append]
        exact hown')
      have HB2 := Lib.hid hb2
      have hsl : ∃ bb cc, v' = .slice bb (j + 1) cc := by
        have hle : (shL r 0 (a.take j)).length = j := by rw [shL_length, List.length_take]; have := HN.out; omega
        rw [hle] at hown'
        rcases hown'.2 with ⟨_, h0⟩ | ⟨g, cap, cur, hv, _⟩
        · omega
        · exact ⟨_, _, hv⟩
      obtain ⟨bb2, cc2, rfl⟩ := hsl
      clear hown' hgrow hb2 hO hlt
      rw [← HCA.out] at q6
      go_wp2
      go_roundw
      case rel => exact ⟨j + 1, by omega, by simp, rfl, ⟨_, _, rfl⟩, HO2, HB2⟩
      case measure => simp [intOf]; omega
    · obtain rfl : j = n := by omega
      have g1 : ¬ (j : Int) < (j : Int) := by omega
      have HS0' : Hid (shL r 0 (a ++ [0]) = shL r 0 (a.take j) ++ [carryL r a j]) := Lib.hid (by rw [shL_snoc0, ← HN.out, List.take_of_length_le (by rw [← HN.out]; exact Nat.le_refl _)])
      have h2 : 2 ^ r ≤ 2 ^ 31 := Nat.pow_le_pow_right (by omega) (by omega)
      have h10 : (2 : Nat) ^ 31 = 2147483648 := rfl
      have hle : Hid ((shL r 0 (a.take j)).length = j) := Lib.hid (by rw [shL_length, List.length_take]; have := HN.out; omega)
      generalize carryL r a j = C at *
      have q4 : IntKind.u32.wrap (C : Int) = (C : Int) := by rw [IntKind.wrap_u32]; omega
      have q5 : (C : Int) % 4294967296 = (C : Int) := by omega
      clear h2 h10 hcl
      have hO := HO.out
      have hlt := World.ownsRow.lt hO
      go_wp2_with (at_builtin; refine wpList_append_own _ rfl _ _ 28 rfl w.heap.size 140 i0 (.int .u32 0) 1 4 Tryz.underlying28 HI0.out HZ0.out HS0.out HB0.out rfl (by decide) _ _ _ rfl (World.ownsRow.alloc hO _) ⟨wr.heap.size, 0, none⟩ 1 1 [.int .u32 (C : Int)] rfl rfl ?c1 ?c2 ?c3 ?c4 ?c5 ?_)
      case c2 => rfl
      case c3 => unfold maxLen; rw [shL_length, List.length_take]; omega
      case c4 => rw [shL_length, List.length_take]; omega
      case c5 => have := HX.out.size; simp; omega
      intro v' w2 hown' hgrow _
      have hb2 : Below w.heap.size w w2 := (HX.out.alloc HX.out.size _).grown hgrow (by have := HX.out.size; simp; omega) (fun k hk => (hlt k hk).1)
      have hO2 : OwnU w.heap.size w2 v' (shL r 0 (a ++ [0])) := by
        unfold OwnU
        rw [HS0'.out, List.length_append, List.map_append]
        exact hown'
      obtain ⟨g, cap, hv, hg, hn, hcap, hrow⟩ := hO2.row (by intro e; have := congrArg List.length e; rw [shL_length] at this; simp at this)
      rw [shL_length, List.length_append, ← HN.out] at hv hn
      subst hv
      have HB2 := Lib.hid hb2
      have HG := Lib.hid hg
      have HNN := Lib.hid hn
      have HCP := Lib.hid hcap
      have HRW := Lib.hid hrow
      clear hown' hgrow hb2 hO hlt hO2 hg hn hcap hrow
      go_wp2
      go_ret
      exact ⟨HB2.out, _, _, rfl, HG.out, HNN.out, HCP.out, HRW.out⟩
end Go.Proofs.YtbhfoelnoddlkaaGreatDoor.D

