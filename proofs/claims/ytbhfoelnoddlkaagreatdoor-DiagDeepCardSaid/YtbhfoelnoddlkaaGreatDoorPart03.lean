/-
  Of the proof that the law DiagDeep answers true at every row of bytes: a part, without conditions of its own.
-/
import Derived.Test.YtbhfoelnoddlkaaGreatDoorPart02
import Derived.WalkLawsBesides
import Derived.WalkSpells
set_option linter.unusedVariables false
set_option linter.unusedSimpArgs false
/-
  number.OfInt: walked; the eight cells of a value.
-/
namespace Go.Proofs.YtbhfoelnoddlkaaGreatDoor.D
open Go Go.RowKit Limb

/-- A value's cells. -/
def vCells (kind n : Int) (neg : Bool) (mag : Value) (bits ext : Int) (text : ByteArray) (kids : Value) : Array Value :=
  #[.int .i8 kind, .int .u64 n, .bool neg, mag, .int .u64 bits, .int .i8 ext, .string text, kids]

theorem vCells_one (kind n : Int) (neg : Bool) (mag : Value) (bits ext : Int) (text : ByteArray) (kids : Value) (hm : mag.oneCell' = true) (hk : kids.oneCell' = true) : (vCells kind n neg mag bits ext text kids).all (·.oneCell') = true := by
  unfold vCells
  rw [Array.all_eq_true_iff_forall_mem]
  intro v hv
  simp only [List.mem_toArray, List.mem_cons, List.not_mem_nil, or_false] at hv
  rcases hv with rfl | rfl | rfl | rfl | rfl | rfl | rfl | rfl <;> first | rfl | assumption

set_option maxRecDepth 100000 in
theorem ofint_any (w : World) (v : Value) (l : List Nat) (h : Limbs w v l) (hl : l.length ≤ 34359738368) :
    Calls Tryz.prog 67 #[.agg #[.bool false, v]] w fun e w' => Below w.heap.size w w' ∧ ∃ v' : Value, e = .returned (.agg #[.int .i8 3, .int .u64 0, .bool false, v', .int .u64 0, .int .i8 0, .string ⟨#[]⟩, .slice none 0 0]) ∧ Limbs w' v' (limbs (val l)) ∧ New w.heap.size v' := by
  obtain ⟨W, hW⟩ : ∃ W, W = (w.alloc (.cells #[.bool false, v] 30)).alloc (.cells #[.int .i8 0, .int .u64 0, .bool false, .slice none 0 0, .int .u64 0, .int .i8 0, .string ⟨#[]⟩, .slice none 0 0] 33) := ⟨_, rfl⟩
  have hb : Below w.heap.size w W := by rw [hW]; exact ((Below.refl _ _).alloc (Nat.le_refl _) _).alloc (by simp) _
  have hWs : W.heap.size = w.heap.size + 2 := by rw [hW]; simp
  have hres := Blk.new (w.alloc (.cells #[.bool false, v] 30)) #[.int .i8 0, .int .u64 0, .bool false, .slice none 0 0, .int .u64 0, .int .i8 0, .string ⟨#[]⟩, .slice none 0 0] 33
  rw [← hW] at hres
  have HRES := Lib.hid hres
  have HWS := Lib.hid hWs
  have HC := Lib.hid (wnorm_any W v l (h.below hb) hl)
  have HB := Lib.hid hb
  have HW := Lib.hid hW
  clear h hb hW hres hWs
  go_enter Tryz.func67, Tryz.ntmps67
  go_wp2_with fail
  rw [← HW.out]
  refine HC.out.mono ?_
  rintro e w1 ⟨hb1, v1, rfl, h1, hn1⟩
  have HN1 := Lib.hid (hn1.mono (B' := w.heap.size) HB.out.size)
  clear hn1
  have hr2 := HRES.out.below hb1 (by rw [HWS.out]; simp)
  rw [show (w.alloc (Obj.cells #[Value.bool false, v] 30)).heap.size = w.heap.size + 1 by simp] at hr2
  have HB3 := Lib.hid (HB.out.trans (hb1.mono HB.out.size))
  have HLIM := Lib.hid h1
  have HR2 := Lib.hid hr2
  obtain ⟨b, c, rfl⟩ := h1.slice
  clear hr2 hb1 h1 HRES HB
  obtain ⟨m, hm⟩ : ∃ m, m = (limbs (val l)).length := ⟨_, rfl⟩
  rw [← hm] at HLIM HN1 ⊢
  clear hm
  dsimp only
  iterate 4 go_step
  refine wpList_store_row rfl 33 _ _ rfl (w.heap.size + 1) (vCells 3 0 false (.slice b m c) 0 0 ⟨#[]⟩ (.slice none 0 0)) rfl rfl 33 _ HR2.out (by kernel_rfl) rfl (vCells_one _ _ _ _ _ _ _ _ rfl rfl) ?_
  have hfin : Blk (w1.setRow (w.heap.size + 1) (vCells 3 0 false (.slice b m c) 0 0 ⟨#[]⟩ (.slice none 0 0))) (w.heap.size + 1) (vCells 3 0 false (.slice b m c) 0 0 ⟨#[]⟩ (.slice none 0 0)) 33 := setRow_heap _ _ _ _ _ _ HR2.out
  go_wp2
  refine bodyPost_ret (v := .agg (vCells 3 0 false (.slice b m c) 0 0 ⟨#[]⟩ (.slice none 0 0))) (results_cell_row rfl _ _ (w.heap.size + 1) 33 _ (0, 0) _ rfl hfin Tryz.underlying33 rfl (by kernel_rfl)) rfl ⟨?_, _, rfl, ?_, HN1.out⟩
  · exact below_setRow HB3.out (by simp) _
  · exact HLIM.out.setRow HR2.out (by intro i x; match i with | 0 | 1 | 2 | 3 | 4 | 5 | 6 | 7 => simp | i + 8 => simp) _
end Go.Proofs.YtbhfoelnoddlkaaGreatDoor.D

/-
  The reader: is, see, bad, word: walked.
-/
namespace Go.Proofs.YtbhfoelnoddlkaaGreatDoor.D
open Go Go.RowKit Limb

/-- The reader's cells. -/
def rCells (S : List UInt8) (at_ : Nat) (op : Bool) : Array Value := #[.string (strL S), .int .i64 (at_ : Int), .bool op]
def Rd (w : World) (p : Nat) (S : List UInt8) (at_ : Nat) (op : Bool) : Prop := Blk w p (rCells S at_ op) 50
/-- Behind a step of the reader: it stands there, all else below is as it was. -/
def Rs (p : Nat) (S : List UInt8) (at_ : Nat) (op : Bool) (w w' : World) : Prop := Rd w' p S at_ op ∧ Ex (fun k => k = p) w.heap.size w w'
theorem Rd.at0 {w : World} {p : Nat} {S : List UInt8} {a : Nat} {op : Bool} (h : Rd w p S a op) : w.cell? ⟨p, 0, none⟩ = some (.string (strL S)) := h.cell 0
theorem Rd.at1 {w : World} {p : Nat} {S : List UInt8} {a : Nat} {op : Bool} (h : Rd w p S a op) : w.cell? ⟨p, 1, none⟩ = some (.int .i64 (a : Int)) := h.cell 1
theorem Rd.at2 {w : World} {p : Nat} {S : List UInt8} {a : Nat} {op : Bool} (h : Rd w p S a op) : w.cell? ⟨p, 2, none⟩ = some (.bool op) := h.cell 2
theorem Rd.set1 {w : World} {p : Nat} {S : List UInt8} {a : Nat} {op : Bool} (h : Rd w p S a op) (n : Nat) : Rd (w.setCell ⟨p, 1, none⟩ (.int .i64 (n : Int))) p S n op := Blk.set h 1 _
theorem Rd.set2 {w : World} {p : Nat} {S : List UInt8} {a : Nat} {op : Bool} (h : Rd w p S a op) (b : Bool) : Rd (w.setCell ⟨p, 2, none⟩ (.bool b)) p S a b := Blk.set h 2 _
theorem Rd.drewN {w : World} {p : Nat} {S : List UInt8} {a : Nat} {op : Bool} (h : Rd w p S a op) (n : Nat) : Rd (w.drewN n) p S a op := h

attribute [local go_sem high] run_str strL_size

theorem rs_quiet {w : World} {p : Nat} {S : List UInt8} {a : Nat} {op : Bool} (h : Rd w p S a op) (n : Nat) : Rs p S a op w (w.drewN n) := ⟨h, (Ex.refl _ _ _).drewN n⟩
theorem Rs.refl {w : World} {p : Nat} {S : List UInt8} {a : Nat} {op : Bool} (h : Rd w p S a op) : Rs p S a op w w := ⟨h, Ex.refl _ _ _⟩
theorem Rs.trans {w w1 w2 : World} {p : Nat} {S : List UInt8} {a b : Nat} {op op' : Bool} (h : Rs p S a op w w1) (k : Rs p S b op' w1 w2) : Rs p S b op' w w2 := ⟨k.1, h.2.trans (k.2.mono h.2.size (fun _ h => h))⟩

set_option maxRecDepth 100000 in
theorem is_yes (w : World) (p : Nat) (S : List UInt8) (a : Nat) (op : Bool) (h : Rd w p S a op) (ha : a < S.length) (hS : S.length ≤ 1099511627776) (c : Int) (hc : ch S a = c) :
    Calls Tryz.prog 27 #[.pointer (some ⟨p, 0, none⟩), .int .u8 c] w fun e w' => e = .returned (.bool true) ∧ Rs p S (a + 1) op w w' := by
  have HR := Lib.hid h
  have c0 := h.at0
  have c1 := h.at1
  have g1 : (a : Int) < (S.length : Int) := by omega
  subst hc
  clear h
  go_enter Tryz.func27, Tryz.ntmps27
  go_wp2
  go_quiet (fail)
  have hr := HR.out.drewN nq
  have hx : Ex (fun k => k = p) w.heap.size w (w.drewN nq) := (Ex.refl _ _ _).drewN nq
  generalize w.drewN nq = w1 at hr hx ⊢
  clear c0 c1 g1
  have c1 := hr.at1
  have f1 : w1.frozen? ⟨p, 1, none⟩ = false := Blk.free hr 1
  have HR1 := Lib.hid (hr.set1 (a + 1))
  have HX := Lib.hid (hx.setCell p 1 (.inl rfl) (.int .i64 ((a + 1 : Nat) : Int)))
  clear hr hx
  have g3 : IntKind.i64.wrap ((a : Int) + 1) = (a : Int) + 1 := IntWalk.i64_in _ (by omega)
  go_wp2
  go_ret
  rw [show ((a : Int) + 1) = ((a + 1 : Nat) : Int) by simp]
  exact ⟨rfl, HR1.out, HX.out⟩
set_option maxRecDepth 100000 in
theorem is_no (w : World) (p : Nat) (S : List UInt8) (a : Nat) (op : Bool) (h : Rd w p S a op) (c : Int) (hc : a < S.length → ch S a ≠ c) :
    Calls Tryz.prog 27 #[.pointer (some ⟨p, 0, none⟩), .int .u8 c] w fun e w' => e = .returned (.bool false) ∧ ∃ n, w' = w.drewN n := by
  have c0 := h.at0
  have c1 := h.at1
  clear h
  by_cases ha : a < S.length
  · have g1 : (a : Int) < (S.length : Int) := by omega
    have g2 : (ch S a == c) = false := beq_eq_false_iff_ne.2 (hc ha)
    clear hc
    go_enter Tryz.func27, Tryz.ntmps27
    go_wp2
    go_quiet (fail)
    go_wp2
    go_ret
    exact ⟨rfl, _, rfl⟩
  · have g1 : decide ((a : Int) < (S.length : Int)) = false := by simp; omega
    have g2 : decide (a < S.length) = false := by simp; omega
    have g3 : S.length ≤ a := by omega
    clear hc
    go_enter Tryz.func27, Tryz.ntmps27
    go_wp2
    go_quiet (fail)
    go_wp2
    go_ret
    exact ⟨rfl, _, rfl⟩
end Go.Proofs.YtbhfoelnoddlkaaGreatDoor.D

/-
  The reader: see, bad: walked.
-/
namespace Go.Proofs.YtbhfoelnoddlkaaGreatDoor.D
open Go Go.RowKit Limb
attribute [local go_sem high] run_str strL_size

theorem ch_u8 (S : List UInt8) (a : Nat) : (ch S a).toNat.toUInt8 = S.getD a 0 := by
  unfold ch b8
  rw [Int.toNat_natCast]
  simp
theorem ib_yes : ∀ (L : List UInt8) (c : UInt8), c ∈ L → 0 ≤ Lib.indexByte L c := by
  intro L
  induction L with
  | nil => intro c h; cases h
  | cons b r ih =>
    intro c h
    simp only [Lib.indexByte]
    split
    · omega
    · rename_i hb
      have hm : c ∈ r := by
        rcases List.mem_cons.1 h with e | e
        · subst e; simp at hb
        · exact e
      have := ih c hm
      split
      · rename_i h1; simp at h1; omega
      · omega
theorem ib_no : ∀ (L : List UInt8) (c : UInt8), c ∉ L → Lib.indexByte L c = -1 := by
  intro L
  induction L with
  | nil => intro c _; rfl
  | cons b r ih =>
    intro c h
    have hb : (b == c) = false := by
      rw [beq_eq_false_iff_ne]
      rintro rfl
      exact h (by simp)
    have := ih c (fun e => h (by simp [e]))
    simp [Lib.indexByte, hb, this]
theorem ix_yes (L S : List UInt8) (a : Nat) (h : S.getD a 0 ∈ L) : ∃ q : Int, 0 ≤ q ∧ ∀ w, Calls Tryz.prog 28 #[.string (strL L), .int .u8 (ch S a)] w fun e w' => e = .returned (.int .i64 q) ∧ w' = w :=
  ⟨_, ib_yes L _ h, fun w => by have := Tryz.strings_IndexByte (strL L) (ch S a) w; rwa [ch_u8] at this⟩
theorem ix_no (L S : List UInt8) (a : Nat) (h : S.getD a 0 ∉ L) (w : World) : Calls Tryz.prog 28 #[.string (strL L), .int .u8 (ch S a)] w fun e w' => e = .returned (.int .i64 (-1)) ∧ w' = w := by
  have := Tryz.strings_IndexByte (strL L) (ch S a) w
  rw [ch_u8] at this
  have e : (strL L).data.toList = L := rfl
  rw [e, ib_no L _ h] at this
  exact this

set_option maxRecDepth 100000 in
theorem see_yes (w : World) (p : Nat) (S : List UInt8) (a : Nat) (op : Bool) (h : Rd w p S a op) (L : List UInt8) (ha : a < S.length) (hc : S.getD a 0 ∈ L) :
    Calls Tryz.prog 26 #[.pointer (some ⟨p, 0, none⟩), .string (strL L)] w fun e w' => e = .returned (.bool true) ∧ ∃ n, w' = w.drewN n := by
  have c0 := h.at0
  have c1 := h.at1
  have g1 : (a : Int) < (S.length : Int) := by omega
  obtain ⟨q, hq, hC⟩ := ix_yes L S a hc
  have HC := Lib.hid hC
  have g2 : decide (0 ≤ q) = true := by simpa using hq
  clear h hc hC
  go_enter Tryz.func26, Tryz.ntmps26
  go_wp2
  go_quiet ((go_at_call 28; exact Calls.quiet_of_same (HC.out _)))
  go_wp2
  go_ret
  exact ⟨rfl, _, rfl⟩
set_option maxRecDepth 100000 in
theorem see_no (w : World) (p : Nat) (S : List UInt8) (a : Nat) (op : Bool) (h : Rd w p S a op) (L : List UInt8) (hc : a < S.length → S.getD a 0 ∉ L) :
    Calls Tryz.prog 26 #[.pointer (some ⟨p, 0, none⟩), .string (strL L)] w fun e w' => e = .returned (.bool false) ∧ ∃ n, w' = w.drewN n := by
  have c0 := h.at0
  have c1 := h.at1
  clear h
  by_cases ha : a < S.length
  · have g1 : (a : Int) < (S.length : Int) := by omega
    have HC := Lib.hid (ix_no L S a (hc ha))
    clear hc
    go_enter Tryz.func26, Tryz.ntmps26
    go_wp2
    go_quiet ((go_at_call 28; exact Calls.quiet_of_same (HC.out _)))
    go_wp2
    go_ret
    exact ⟨rfl, _, rfl⟩
  · have g1 : decide ((a : Int) < (S.length : Int)) = false := by simp; omega
    have g2 : decide (a < S.length) = false := by simp; omega
    have g3 : S.length ≤ a := by omega
    clear hc
    go_enter Tryz.func26, Tryz.ntmps26
    go_wp2
    go_quiet (fail)
    go_wp2
    go_ret
    exact ⟨rfl, _, rfl⟩

set_option maxRecDepth 100000 in
theorem bad_any (w : World) (p : Value) (a : Int) :
    Calls Tryz.prog 14 #[p, .int .i64 a] w fun e w' => w' = w ∧ e = .panicked [{ v := .iface 46 (.agg #[.int .i64 3, .int .i64 a]), recovered := false }] := by
  go_enter Tryz.func14, Tryz.ntmps14
  go_wp2
  exact ⟨rfl, rfl, rfl⟩
end Go.Proofs.YtbhfoelnoddlkaaGreatDoor.D

/-
  The reader: word, between, digits; deep: walked.
-/
namespace Go.Proofs.YtbhfoelnoddlkaaGreatDoor.D
open Go Go.RowKit Limb
attribute [local go_sem high] run_str strL_size

theorem ch_eq {S W : List UInt8} {a i : Nat} (h : S.getD a 0 = W.getD i 0) : ch S a = ch W i := by unfold ch; rw [h]
theorem Rs.drewN {w w1 : World} {p : Nat} {S : List UInt8} {a : Nat} {op : Bool} (h : Rs p S a op w w1) (n : Nat) : Rs p S a op w (w1.drewN n) := ⟨h.1.drewN n, h.2.drewN n⟩

set_option maxRecDepth 100000 in
theorem word_ok (w : World) (p : Nat) (S : List UInt8) (a : Nat) (op : Bool) (h : Rd w p S a op) (W : List UInt8) (hl : a + W.length ≤ S.length) (hS : S.length ≤ 1099511627776) (hW : ∀ i, i < W.length → S.getD (a + i) 0 = W.getD i 0) :
    Calls Tryz.prog 55 #[.pointer (some ⟨p, 0, none⟩), .string (strL W)] w fun e w' => e = .returned (.tuple #[]) ∧ Rs p S (a + W.length) op w w' := by
  have HW := Lib.hid hW
  have HR := Lib.hid h
  clear hW h
  go_enter Tryz.func55, Tryz.ntmps55
  go_wp2
  go_loopw [4, 7] (fun _ i wr => ∃ k : Nat, k ≤ W.length ∧ i = .int .i64 k ∧ Rs p S (a + k) op w wr) (fun _ i _ => W.length - (intOf i).toNat)
  case atStart => exact ⟨0, by omega, rfl, Rs.refl HR.out⟩
  case round =>
    obtain ⟨k, hk, rfl, hr⟩ := hrel
    have HRs := Lib.hid hr
    clear hr
    by_cases h1 : k < W.length
    · have g1 : (k : Int) < (W.length : Int) := by omega
      go_wp2_with fail
      refine (is_yes wr p S (a + k) op HRs.out.1 (by omega) hS (ch W k) (ch_eq (HW.out k h1))).mono ?_
      rintro e w1 ⟨rfl, h2⟩
      have H2 := Lib.hid (HRs.out.trans h2)
      clear h2
      go_wp2
      go_roundw
      case rel => exact ⟨k + 1, by omega, by simp, H2.out⟩
      case measure => simp [intOf]; omega
    · obtain rfl : k = W.length := by omega
      go_wp2
      go_end0
      exact ⟨rfl, HRs.out⟩

/-- What a stop carries. -/
def stopAt (code a : Int) : Value := .iface 46 (.agg #[.int .i64 code, .int .i64 a])
set_option maxRecDepth 100000 in
theorem word_bad (w : World) (p : Nat) (S : List UInt8) (a : Nat) (op : Bool) (h : Rd w p S a op) (c : UInt8) (r : List UInt8) (hc : a < S.length → S.getD a 0 ≠ c) :
    Calls Tryz.prog 55 #[.pointer (some ⟨p, 0, none⟩), .string (strL (c :: r))] w fun e w' => e = .panicked [{ v := stopAt 3 a, recovered := false }] ∧ Rs p S a op w w' := by
  have HR := Lib.hid h
  have hx : a < S.length → ch S a ≠ ch (c :: r) 0 := by
    intro h1 h2
    apply hc h1
    unfold ch b8 at h2
    apply UInt8.toNat_inj.1
    rw [List.getD_cons_zero] at h2
    omega
  have HX := Lib.hid hx
  clear h hc hx
  have g1 : (0 : Int) < ((c :: r).length : Int) := by simp
  have g0 : (0 : Nat) < (c :: r).length := by simp
  generalize (c :: r) = W at g0 g1 HX ⊢
  go_enter Tryz.func55, Tryz.ntmps55
  go_wp2
  go_loopw [4, 7] (fun _ i wr => i = .int .i64 ((0 : Nat) : Int) ∧ wr = w) (fun _ i _ => 0)
  case atStart => exact ⟨rfl, rfl⟩
  case round =>
    obtain ⟨rfl, rfl⟩ := hrel
    have g2 : (Instr.index 9 (.string (strL W)) (.int .i64 0)).run Tryz.prog wr = .ok (.int .u8 (ch W 0)) wr := run_str wr W 0 g0
    go_wp2_with fail
    refine (is_no wr p S a op HR.out (ch W 0) HX.out).mono ?_
    rintro e w1 ⟨rfl, n, rfl⟩
    have hr := HR.out.drewN n
    have c1 := hr.at1
    have HRs := Lib.hid (rs_quiet HR.out n)
    clear hr g2
    generalize wr.drewN n = w1 at c1 HRs ⊢
    go_wp2_with fail
    refine (bad_any w1 _ (a : Int)).mono ?_
    rintro e w2 ⟨rfl, rfl⟩
    go_wp2
    exact ⟨rfl, rfl, HRs.out⟩

set_option maxRecDepth 100000 in
theorem deep_ok (w : World) (k : Int) (a : Int) (hk : k < 128) :
    Calls Tryz.prog 29 #[.int .i64 k, .int .i64 a] w fun e w' => e = .returned (.tuple #[]) ∧ w' = w := by
  go_enter Tryz.func29, Tryz.ntmps29
  go_wp2
  go_end0
  exact ⟨rfl, rfl⟩
set_option maxRecDepth 100000 in
theorem deep_bad (w : World) (k : Int) (a : Int) (hk : 128 ≤ k) :
    Calls Tryz.prog 29 #[.int .i64 k, .int .i64 a] w fun e w' => e = .panicked [{ v := stopAt 5 a, recovered := false }] ∧ w' = w := by
  go_enter Tryz.func29, Tryz.ntmps29
  go_wp2
  exact ⟨rfl, rfl, rfl⟩
end Go.Proofs.YtbhfoelnoddlkaaGreatDoor.D

/-
  The reader: digits, between: walked.
-/
namespace Go.Proofs.YtbhfoelnoddlkaaGreatDoor.D
open Go Go.RowKit Limb

attribute [local go_sem high] run_str strL_size run_sub run_sub_from

/-- The place that a reader in memory stands at. -/
def atOf (w : World) (p : Nat) : Nat := match w.cell? ⟨p, 1, none⟩ with | some (.int _ n) => n.toNat | _ => 0
theorem Rd.atOf {w : World} {p : Nat} {S : List UInt8} {a : Nat} {op : Bool} (h : Rd w p S a op) : atOf w p = a := by
  unfold D.atOf; rw [h.at1]; simp

set_option maxRecDepth 100000 in
theorem digits_any (w : World) (p : Nat) (S : List UInt8) (a b : Nat) (op : Bool) (h : Rd w p S a op) (L : List UInt8) (hab : a ≤ b) (hb : b ≤ S.length) (hS : S.length ≤ 1099511627776)
    (hin : ∀ i, a ≤ i → i < b → S.getD i 0 ∈ L) (hout : b < S.length → S.getD b 0 ∉ L) (least : Int) (hle : least ≤ (b : Int) - a) :
    Calls Tryz.prog 63 #[.pointer (some ⟨p, 0, none⟩), .string (strL L), .int .i64 least] w fun e w' => e = .returned (.string (strL (sub S a b))) ∧ Rs p S b op w w' := by
  have HIN := Lib.hid hin
  have HR := Lib.hid h
  have c1 := h.at1
  clear hin h
  go_enter Tryz.func63, Tryz.ntmps63
  go_wp2
  clear c1
  go_loopw [] (fun wr => ∃ k : Nat, a ≤ k ∧ k ≤ b ∧ Rs p S k op w wr) (fun wr => S.length - atOf wr p)
  case atStart => exact ⟨a, by omega, hab, Rs.refl HR.out⟩
  case round =>
    obtain ⟨k, hk1, hk2, hr⟩ := hrel
    have HRs := Lib.hid hr
    clear hr
    by_cases h1 : k < b
    · go_wp2_with fail
      refine (see_yes wr p S k op HRs.out.1 L (by omega) (HIN.out k hk1 h1)).mono ?_
      rintro e w1 ⟨rfl, n, rfl⟩
      have hr1 := HRs.out.drewN n
      have HA := Lib.hid HRs.out.1.atOf
      clear HRs
      generalize wr.drewN n = w1 at hr1 ⊢
      have c1 := hr1.1.at1
      have f1 : w1.frozen? ⟨p, 1, none⟩ = false := Blk.free hr1.1 1
      have hr2 : Rs p S (k + 1) op w (w1.setCell ⟨p, 1, none⟩ (.int .i64 ((k + 1 : Nat) : Int))) := ⟨hr1.1.set1 (k + 1), hr1.2.setCell p 1 (.inl rfl) _⟩
      have HR2 := Lib.hid hr2
      have HA2 := Lib.hid hr2.1.atOf
      clear hr1 hr2
      have g3 : IntKind.i64.wrap ((k : Int) + 1) = (k : Int) + 1 := IntWalk.i64_in _ (by omega)
      go_wp2
      rw [show ((k : Int) + 1) = ((k + 1 : Nat) : Int) by simp]
      go_roundw
      case rel => exact ⟨k + 1, by omega, by omega, HR2.out⟩
      case measure => rw [HA.out, HA2.out]; omega
    · obtain rfl : k = b := by omega
      go_wp2_with fail
      refine (see_no wr p S k op HRs.out.1 L hout).mono ?_
      rintro e w1 ⟨rfl, n, rfl⟩
      have hr1 := HRs.out.drewN n
      clear HRs
      generalize wr.drewN n = w1 at hr1 ⊢
      have c1 := hr1.1.at1
      have c0 := hr1.1.at0
      have HR1 := Lib.hid hr1
      clear hr1
      have g3 : IntKind.i64.wrap ((k : Int) - (a : Int)) = (k : Int) - a := IntWalk.i64_in _ (by omega)
      have g4 : ¬ ((k : Int) - (a : Int) < least) := by omega
      go_wp2
      go_quiet (fail)
      go_wp2
      go_ret
      exact ⟨rfl, HR1.out.drewN _⟩
end Go.Proofs.YtbhfoelnoddlkaaGreatDoor.D

/-
  The reader: between: walked.
-/
namespace Go.Proofs.YtbhfoelnoddlkaaGreatDoor.D
open Go Go.RowKit Limb
attribute [local go_sem high] run_str strL_size run_sub run_sub_from

def blanks : List UInt8 := [32, 9, 10, 13, 47]
/-- Where the blanks and remarks that begin at a place end. -/
def btw (S : List UInt8) : Nat → Nat → Nat
  | 0, a => a
  | f + 1, a => if S.getD a 0 = 47 then (let q := Lib.indexByte (sub S (a + 1) S.length) 47; if 0 ≤ q then btw S f (a + 1 + q.toNat + 1) else a)
      else if a < S.length ∧ S.getD a 0 ∈ blanks then btw S f (a + 1) else a
theorem ib_lt : ∀ (L : List UInt8) (c : UInt8), Lib.indexByte L c < L.length := by
  intro L
  induction L with
  | nil => intro c; simp [Lib.indexByte]
  | cons b r ih =>
    intro c
    have := ih c
    simp only [Lib.indexByte, List.length_cons]
    split
    · omega
    · split <;> omega
theorem ib_ge : ∀ (L : List UInt8) (c : UInt8), -1 ≤ Lib.indexByte L c := Lib.indexByte_ge

set_option maxRecDepth 100000 in
set_option maxHeartbeats 400000 in
theorem between_any (w : World) (p : Nat) (S : List UInt8) (a b : Nat) (op : Bool) (h : Rd w p S a op) (hS : S.length ≤ 1099511627776) (f0 : Nat) (hb : btw S f0 a = b) (hout : b < S.length → S.getD b 0 ∉ blanks) (ha : a ≤ S.length) :
    Calls Tryz.prog 12 #[.pointer (some ⟨p, 0, none⟩)] w fun e w' => e = .returned (.tuple #[]) ∧ Rs p S b op w w' := by
  have HR := Lib.hid h
  have HB := Lib.hid hb
  clear h hb
  go_enter Tryz.func12, Tryz.ntmps12
  go_wp2_with fail
  go_loopw [2] (fun _ wr => ∃ f k : Nat, k ≤ S.length ∧ Hid (btw S f k = b) ∧ Rs p S k op w wr) (fun _ wr => S.length - atOf wr p)
  case atStart => exact ⟨f0, a, ha, HB, Rs.refl HR.out⟩
  case round =>
    obtain ⟨f, k, hk, hbt, hr⟩ := hrel
    have HRs := Lib.hid hr
    clear hr HB
    by_cases h1 : k < S.length ∧ S.getD k 0 ∈ blanks
    · cases f with
      | zero =>
        have : k = b := hbt.out
        subst this
        exact absurd h1.2 (hout h1.1)
      | succ f =>
        obtain ⟨h1, h2⟩ := h1
        go_wp2_with fail
        refine (see_yes wr p S k op HRs.out.1 blanks h1 h2).mono ?_
        rintro e w1 ⟨rfl, n, rfl⟩
        have hr1 := HRs.out.drewN n
        have HA := Lib.hid HRs.out.1.atOf
        clear HRs
        generalize wr.drewN n = w1 at hr1 ⊢
        have HR1 := Lib.hid hr1
        clear hr1
        by_cases h3 : S.getD k 0 = 47
        · go_wp2_with fail
          refine (is_yes w1 p S k op HR1.out.1 h1 hS 47 (by unfold ch b8; rw [h3]; rfl)).mono ?_
          rintro e w2 ⟨rfl, hr2⟩
          have hr3 := HR1.out.trans hr2
          have hbt2 := hbt.out
          simp only [btw] at hbt2
          rw [if_pos h3] at hbt2
          obtain ⟨k1, hk1⟩ : ∃ k1, k1 = k + 1 := ⟨_, rfl⟩
          have hk2 : k1 ≤ S.length := by omega
          have hk3 : k < k1 := by omega
          rw [← hk1] at hr3 hbt2
          clear hk1
          have c0 := hr3.1.at0
          have c1 := hr3.1.at1
          have HR3 := Lib.hid hr3
          clear hr2 hr3 HR1
          have HI := Lib.hid (Tryz.strings_IndexByte (strL (sub S k1 S.length)) 47)
          have e47 : ((47 : Int).toNat.toUInt8) = 47 := by decide
          obtain ⟨q, hq⟩ : ∃ q, q = Lib.indexByte (sub S k1 S.length) 47 := ⟨_, rfl⟩
          have hqlt : q < ((S.length - k1 : Nat) : Int) := by
            rw [hq]
            have := ib_lt (sub S k1 S.length) 47
            rwa [len_sub _ _ _ (Nat.le_refl _)] at this
          rw [← hq] at hbt2
          have el : (strL (sub S k1 S.length)).data.toList = sub S k1 S.length := rfl
          rw [e47, el, ← hq] at HI
          clear hq el e47
          have hq0 : 0 ≤ q := by
            rcases Int.lt_or_le q 0 with h | h
            · rw [if_neg (by omega)] at hbt2
              subst hbt2
              exact absurd h2 (hout h1)
            · exact h
          rw [if_pos hq0] at hbt2
          obtain ⟨m, rfl⟩ := Int.eq_ofNat_of_zero_le hq0
          rw [Int.toNat_natCast] at hbt2
          have HBT := Lib.hid hbt2
          clear hbt hbt2 h2 h3
          go_wp2
          go_quiet ((go_at_call 28; exact Calls.quiet_of_same (HI.out _)))
          have hr4 := HR3.out.drewN nq
          clear HR3 c0 c1
          generalize w2.drewN nq = w3 at hr4 ⊢
          have c1 := hr4.1.at1
          have f1 : w3.frozen? ⟨p, 1, none⟩ = false := Blk.free hr4.1 1
          have hr5 : Rs p S (k1 + m + 1) op w (w3.setCell ⟨p, 1, none⟩ (.int .i64 ((k1 + m + 1 : Nat) : Int))) := ⟨hr4.1.set1 _, hr4.2.setCell p 1 (.inl rfl) _⟩
          have HR5 := Lib.hid hr5
          have HA5 := Lib.hid hr5.1.atOf
          clear hr4 hr5
          have g3 : IntKind.i64.wrap ((m : Int) + 1) = (m : Int) + 1 := IntWalk.i64_in _ (by omega)
          have g4 : IntKind.i64.wrap ((k1 : Int) + ((m : Int) + 1)) = (k1 : Int) + ((m : Int) + 1) := IntWalk.i64_in _ (by omega)
          go_wp2
          rw [show ((k1 : Int) + ((m : Int) + 1)) = ((k1 + m + 1 : Nat) : Int) by simp; omega]
          go_roundw
          case rel => exact ⟨f, k1 + m + 1, by omega, HBT, HR5.out⟩
          case measure => rw [HA.out, HA5.out]; omega
        · have hbt2 := hbt.out
          simp only [btw] at hbt2
          rw [if_neg h3, if_pos ⟨h1, h2⟩] at hbt2
          have HBT := Lib.hid hbt2
          clear hbt hbt2
          go_wp2_with fail
          refine (is_no w1 p S k op HR1.out.1 47 (fun _ h => h3 ?_)).mono ?_
          · unfold ch b8 at h
            apply UInt8.toNat_inj.1
            have e : (47 : UInt8).toNat = 47 := rfl
            rw [e]; omega
          rintro e w2 ⟨rfl, n2, rfl⟩
          have hr4 := HR1.out.drewN n2
          clear HR1
          generalize w1.drewN n2 = w3 at hr4 ⊢
          have c1 := hr4.1.at1
          have f1 : w3.frozen? ⟨p, 1, none⟩ = false := Blk.free hr4.1 1
          have hr5 : Rs p S (k + 1) op w (w3.setCell ⟨p, 1, none⟩ (.int .i64 ((k + 1 : Nat) : Int))) := ⟨hr4.1.set1 _, hr4.2.setCell p 1 (.inl rfl) _⟩
          have HR5 := Lib.hid hr5
          have HA5 := Lib.hid hr5.1.atOf
          clear hr4 hr5 h3 h2
          have g3 : IntKind.i64.wrap ((k : Int) + 1) = (k : Int) + 1 := IntWalk.i64_in _ (by omega)
          go_wp2
          rw [show ((k : Int) + 1) = ((k + 1 : Nat) : Int) by simp]
          go_roundw
          case rel => exact ⟨f, k + 1, by omega, HBT, HR5.out⟩
          case measure => rw [HA.out, HA5.out]; omega
    · have hkb : k = b := by
        have hbt2 := hbt.out
        cases f with
        | zero => exact hbt2
        | succ f =>
          simp only [btw] at hbt2
          have h47 : ¬ S.getD k 0 = 47 := by
            intro h47
            apply h1
            refine ⟨?_, by rw [h47]; decide⟩
            rcases Nat.lt_or_ge k S.length with h | h
            · exact h
            · rw [List.getD_eq_getElem?_getD, List.getElem?_eq_none h] at h47
              exact absurd h47 (by decide)
          rw [if_neg h47, if_neg h1] at hbt2
          exact hbt2
      subst hkb
      clear h1 hbt
      go_wp2_with fail
      refine (see_no wr p S k op HRs.out.1 blanks hout).mono ?_
      rintro e w1 ⟨rfl, n, rfl⟩
      have HR1 := Lib.hid (HRs.out.drewN n)
      clear HRs
      go_wp2
      go_end0
      exact ⟨rfl, HR1.out⟩
end Go.Proofs.YtbhfoelnoddlkaaGreatDoor.D

/-
  Values in memory: trees. The functions container, normal, rising: walked.
-/
namespace Go.Proofs.YtbhfoelnoddlkaaGreatDoor.D
open Go Go.RowKit Limb

/-- The pattern of one and a half. -/
def half3 : Int := 4609434218613702656
/-- The shape of a value: its text, its number, its Kids. -/
inductive F where
  | stop : F
  | node (t : List UInt8) (x : Nat) (fs : Nat → F) : F
def F.txt : F → List UInt8
  | .stop => []
  | .node t _ _ => t
/-- The texts of the first Kids of m, with what stands between them. -/
def kidsT (one two : List UInt8) (m : Nat) (fs : Nat → F) : Nat → List UInt8
  | 0 => []
  | k + 1 => kidsT one two m fs k ++ (fs k).txt ++ (if k + 1 < m then (if k % 2 = 1 then two else one) else [])
def hexD (x : Nat) : UInt8 := if x < 10 then UInt8.ofNat (48 + x) else UInt8.ofNat (87 + x)
def hexL (l : List UInt8) : List UInt8 := l.flatMap (fun b => [hexD (b.toNat / 16), hexD (b.toNat % 16)])
/-- A digit. -/
def dig (x : Nat) : UInt8 := UInt8.ofNat (48 + x)
/-- Is this the text of a node whose Kids are told? -/
def Told (kind n : Int) (X : Nat) (text : List UInt8) (m : Nat) (t : List UInt8) (fs : Nat → F) : Prop :=
  (kind = 1 → t = [110, 117, 108, 108]) ∧ (kind = 3 → 1 ≤ X ∧ X < 10 ∧ t = [dig X]) ∧ (kind = 4 → t = [49, 46, 53]) ∧ (kind = 6 → text ≠ [] ∧ t = [104, 39] ++ hexL text ++ [39]) ∧
  (kind = 7 → t = [91] ++ kidsT [44, 32] [44, 32] m fs m ++ [93]) ∧ (kind = 8 → t = [123] ++ kidsT [58, 32] [44, 32] m fs m ++ [125]) ∧
  (kind = 9 → t = (if n = 1 then [49] else [49, 48]) ++ [40] ++ kidsT [] [] m fs m ++ [41])
/-- A node by itself, of the kinds that are met here; m: how many Kids; X: the whole number that it is. -/
def Fine (w : World) (N : Nat) (kind n : Int) (mag : Value) (bits ext : Int) (text : List UInt8) (m X : Nat) : Prop :=
  ext = 0 ∧
  ((kind = 1 ∧ n = 0 ∧ mag = .slice none 0 0 ∧ bits = 0 ∧ text = [] ∧ m = 0) ∨
   (kind = 3 ∧ n = 0 ∧ bits = 0 ∧ text = [] ∧ m = 0 ∧ ∃ x, (x < 1000000000 ∧ x = X) ∧ Limbs w mag (limbs x) ∧ ∀ b o k c, mag = .slice (some ⟨b, o, none⟩) k c → b < N) ∨
   (kind = 4 ∧ n = 0 ∧ mag = .slice none 0 0 ∧ bits = half3 ∧ text = [] ∧ m = 0) ∨
   (kind = 6 ∧ n = 0 ∧ mag = .slice none 0 0 ∧ bits = 0 ∧ text.length ≤ 1048576 ∧ m = 0) ∨
   (kind = 7 ∧ n = 0 ∧ mag = .slice none 0 0 ∧ bits = 0 ∧ text = [] ∧ 1 ≤ m ∧ m ≤ 3) ∨
   (kind = 8 ∧ n = 0 ∧ mag = .slice none 0 0 ∧ bits = 0 ∧ text = [] ∧ m = 2) ∨
   (kind = 9 ∧ (n = 1 ∨ n = 10) ∧ mag = .slice none 0 0 ∧ bits = 0 ∧ text = [] ∧ m = 1))
/-- A row of values' cells. -/
def VRow (w : World) (b o m : Nat) (xs : Nat → Array Value) : Prop := ∀ i, i < m → (xs i).size = 8 ∧ ∀ j, j < 8 → w.cell? ⟨b, o + i * 8 + j, none⟩ = (xs i)[j]?
/-- A value and all within it, below block N; d: how deep it is nested. -/
def Tree (w : World) (N : Nat) : F → Nat → Value → Prop
  | .stop, _, _ => False
  | .node t X fs, d, v => ∃ (kind n : Int) (mag : Value) (bits ext : Int) (text : List UInt8) (kids : Value) (m : Nat), v = .agg (vCells kind n false mag bits ext (strL text) kids) ∧ Fine w N kind n mag bits ext text m X ∧ Told kind n X text m t fs ∧
    ((m = 0 ∧ kids = .slice none 0 0 ∧ d = 0) ∨
     (0 < m ∧ ∃ (b o cap : Nat) (xs : Nat → Array Value) (ds : Nat → Nat), kids = .slice (some ⟨b, o, none⟩) m cap ∧ m ≤ cap ∧ cap ≤ 9223372036854775807 ∧ b < N ∧ VRow w b o m xs ∧ (∀ i, i < m → Tree w N (fs i) (ds i) (.agg (xs i)) ∧ ds i < d) ∧ ∃ i, i < m ∧ ds i + 1 = d))
theorem Fine.below {w w' : World} {N : Nat} {kind n : Int} {mag : Value} {bits ext : Int} {text : List UInt8} {m X : Nat} (h : Fine w N kind n mag bits ext text m X) (hb : Below N w w') : Fine w' N kind n mag bits ext text m X := by
  obtain ⟨h0, h | ⟨a1, a2, a3, a4, a5, x, hx, hl, hN⟩ | h⟩ := h
  · exact ⟨h0, .inl h⟩
  · refine ⟨h0, .inr (.inl ⟨a1, a2, a3, a4, a5, x, hx, ?_, hN⟩)⟩
    obtain ⟨hf, h | ⟨blk, off, cap, hv, h1, h2, h3, h4⟩⟩ := hl
    · exact ⟨hf, .inl h⟩
    · have hbN := hN _ _ _ _ hv
      exact ⟨hf, .inr ⟨blk, off, cap, hv, h1, h2, by have := hb.size; omega, fun i hi => by rw [hb.cell (p := ⟨blk, off + i, none⟩) hbN]; exact h4 i hi⟩⟩
  · exact ⟨h0, .inr (.inr h)⟩
theorem Fine.mono {w : World} {N N' : Nat} {kind n : Int} {mag : Value} {bits ext : Int} {text : List UInt8} {m X : Nat} (h : Fine w N kind n mag bits ext text m X) (hN : N ≤ N') : Fine w N' kind n mag bits ext text m X := by
  obtain ⟨h0, h | ⟨a1, a2, a3, a4, a5, x, hx, hl, h1⟩ | h⟩ := h
  · exact ⟨h0, .inl h⟩
  · exact ⟨h0, .inr (.inl ⟨a1, a2, a3, a4, a5, x, hx, hl, fun b o k c e => by have := h1 b o k c e; omega⟩)⟩
  · exact ⟨h0, .inr (.inr h)⟩
theorem VRow.below {w w' : World} {N b o m : Nat} {xs : Nat → Array Value} (h : VRow w b o m xs) (hb : Below N w w') (hN : b < N) : VRow w' b o m xs := fun i hi =>
  ⟨(h i hi).1, fun j hj => by rw [hb.cell (p := ⟨b, o + i * 8 + j, none⟩) hN]; exact (h i hi).2 j hj⟩
theorem Tree.below {w w' : World} {N : Nat} (hb : Below N w w') : ∀ (f : F) (d : Nat) (v : Value), Tree w N f d v → Tree w' N f d v
  | .stop, _, _, h => h
  | .node t X fs, d, v, ⟨kind, n, mag, bits, ext, text, kids, m, hv, hf, ht, h⟩ => ⟨kind, n, mag, bits, ext, text, kids, m, hv, hf.below hb, ht, by
    rcases h with h | ⟨h0, b, o, cap, xs, ds, hk, h1, h2, h3, h4, h5, h6⟩
    · exact .inl h
    · exact .inr ⟨h0, b, o, cap, xs, ds, hk, h1, h2, h3, h4.below hb h3, fun i hi => ⟨Tree.below hb (fs i) _ _ (h5 i hi).1, (h5 i hi).2⟩, h6⟩⟩
theorem Tree.mono {w : World} {N N' : Nat} (hN : N ≤ N') : ∀ (f : F) (d : Nat) (v : Value), Tree w N f d v → Tree w N' f d v
  | .stop, _, _, h => h
  | .node t X fs, d, v, ⟨kind, n, mag, bits, ext, text, kids, m, hv, hf, ht, h⟩ => ⟨kind, n, mag, bits, ext, text, kids, m, hv, hf.mono hN, ht, by
    rcases h with h | ⟨h0, b, o, cap, xs, ds, hk, h1, h2, h3, h4, h5, h6⟩
    · exact .inl h
    · exact .inr ⟨h0, b, o, cap, xs, ds, hk, h1, h2, by omega, h4, fun i hi => ⟨Tree.mono hN (fs i) _ _ (h5 i hi).1, (h5 i hi).2⟩, h6⟩⟩
set_option maxRecDepth 100000 in
theorem container_yes (w : World) (kind n : Int) (neg : Bool) (mag : Value) (bits ext : Int) (text : ByteArray) (kids : Value) (h : kind = 7 ∨ kind = 8 ∨ kind = 9) :
    Calls Tryz.prog 20 #[.agg (vCells kind n neg mag bits ext text kids)] w fun e w' => e = .returned (.bool true) ∧ Below w.heap.size w w' := by
  unfold vCells
  rcases h with rfl | rfl | rfl <;>
  · go_enter Tryz.func20, Tryz.ntmps20
    go_wp2
    go_ret
    exact ⟨rfl, (Below.refl _ _).alloc (Nat.le_refl _) _⟩
set_option maxRecDepth 100000 in
theorem container_no (w : World) (kind n : Int) (neg : Bool) (mag : Value) (bits ext : Int) (text : ByteArray) (kids : Value) (h7 : kind ≠ 7) (h8 : kind ≠ 8) (h9 : kind ≠ 9) :
    Calls Tryz.prog 20 #[.agg (vCells kind n neg mag bits ext text kids)] w fun e w' => e = .returned (.bool false) ∧ Below w.heap.size w w' := by
  unfold vCells
  have g7 : (kind == 7) = false := beq_eq_false_iff_ne.2 h7
  have g8 : (kind == 8) = false := beq_eq_false_iff_ne.2 h8
  have g9 : (kind == 9) = false := beq_eq_false_iff_ne.2 h9
  clear h7 h8 h9
  go_enter Tryz.func20, Tryz.ntmps20
  go_wp2
  go_ret
  exact ⟨rfl, (Below.refl _ _).alloc (Nat.le_refl _) _⟩
end Go.Proofs.YtbhfoelnoddlkaaGreatDoor.D

