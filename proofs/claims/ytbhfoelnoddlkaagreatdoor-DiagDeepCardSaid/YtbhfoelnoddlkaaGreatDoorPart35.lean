/-
  Of the proof that the law DiagDeep answers true at every row of bytes: a part, without conditions of its own.
-/
import Derived.Test.YtbhfoelnoddlkaaGreatDoorPart34
import Derived.Stop.IfaceNil
import Derived.Test.YtbhfoelnoddlkaaGreatDoorPart03
import Derived.Test.YtbhfoelnoddlkaaGreatDoorPart15
import Derived.Tactics
import Derived.Tactics2
import Derived.Defers
import Derived.Recover
import Derived.Laws.Pointers
import Derived.Test.YtbhfoelnoddlkaaGreatDoorPart14
set_option linter.unusedVariables false
set_option linter.unusedSimpArgs false
/-
  The eleven errors in their variables; fault.sentinel, fault.New, cruciblelaw01.Code at a Fault of code 3 or 5: walked (printed by wip/tools/gene3.py).
-/
namespace Go.Proofs.YtbhfoelnoddlkaaGreatDoor.D
open Go Go.RowKit Go.Extern.Stop Go.Stop Go.Extern Limb

abbrev ev (e : Nat → Addr) (i : Nat) : Value := .iface 338 (.pointer (some (e i)))
/-- The eleven errors, each at an address of its own, in their variables; errors.As's own variable. -/
structure Sents (e : Nat → Addr) (w : World) : Prop where
  c0 : w.cell? ⟨1, 0, none⟩ = some (ev e 0)
  c1 : w.cell? ⟨2, 0, none⟩ = some (ev e 1)
  c2 : w.cell? ⟨3, 0, none⟩ = some (ev e 2)
  c3 : w.cell? ⟨4, 0, none⟩ = some (ev e 3)
  c4 : w.cell? ⟨0, 0, none⟩ = some (ev e 4)
  c5 : w.cell? ⟨5, 0, none⟩ = some (ev e 5)
  c6 : w.cell? ⟨6, 0, none⟩ = some (ev e 6)
  c7 : w.cell? ⟨7, 0, none⟩ = some (ev e 7)
  c8 : w.cell? ⟨8, 0, none⟩ = some (ev e 8)
  c9 : w.cell? ⟨9, 0, none⟩ = some (ev e 9)
  c10 : w.cell? ⟨10, 0, none⟩ = some (ev e 10)
  inj : ∀ i j, i < 11 → j < 11 → i ≠ j → e i ≠ e j
  row : ∀ i, i < 11 → ∃ c t, w.heap[(e i).block]? = some (.cells c t (0, 0))
  ty : w.cell? ⟨11, 0, none⟩ = some (.iface 202 (.agg #[.pointer (some ⟨22, 35, none⟩)]))
theorem Sents.step {e : Nat → Addr} {w w' : World} (h : Sents e w) (hb : Below w.heap.size w w') (hs : 21 < w.heap.size) : Sents e w' := by
  have hc : ∀ k, k < 21 → w'.cell? ⟨k, 0, none⟩ = w.cell? ⟨k, 0, none⟩ := fun k hk => hb.cell (p := ⟨k, 0, none⟩) (by simp; omega)
  refine ⟨(hc _ (by decide)).trans h.c0, (hc _ (by decide)).trans h.c1, (hc _ (by decide)).trans h.c2, (hc _ (by decide)).trans h.c3, (hc _ (by decide)).trans h.c4, (hc _ (by decide)).trans h.c5, (hc _ (by decide)).trans h.c6, (hc _ (by decide)).trans h.c7, (hc _ (by decide)).trans h.c8, (hc _ (by decide)).trans h.c9, (hc _ (by decide)).trans h.c10, h.inj, ?_, (hc _ (by decide)).trans h.ty⟩
  intro i hi
  obtain ⟨c, t, hr⟩ := h.row i hi
  have hl := (Array.getElem?_eq_some_iff.1 hr).1
  exact ⟨c, t, (hb.block _ hl).trans hr⟩
abbrev eRow (e : Nat → Addr) : Array Value := #[ev e 0, ev e 1, ev e 2, ev e 3, ev e 4, ev e 5, ev e 6, ev e 7, ev e 8, ev e 9, ev e 10]
/-- An error that is a Fault of a code at a place. -/
def FaultIs (e : Nat → Addr) (w : World) (code at_ : Nat) (v : Value) : Prop :=
  ∃ b, v = .iface 72 (.pointer (some ⟨b, 0, none⟩)) ∧ Blk w b #[ev e (code - 1), .int .i64 (at_ : Int), .string (strL [])] 74
theorem FaultIs.step {e : Nat → Addr} {w w' : World} {code at_ : Nat} {v : Value} (h : FaultIs e w code at_ v) (hb : Below w.heap.size w w') : FaultIs e w' code at_ v := by
  obtain ⟨b, hv, hB⟩ := h
  exact ⟨b, hv, hB.below hb hB.lt⟩

set_option maxRecDepth 100000 in
theorem sentinel_3 (e : Nat → Addr) (w : World) (hE : Sents e w) :
    Calls Tryz.prog 25 #[.int .i64 3] w fun r w' => r = .returned (ev e 2) ∧ w' = w.alloc (.cells (eRow e) 82) := by
  have hB := Blk.new w (eRow e) 82
  have hc := hB.cell 2
  clear hB
  have h0 := hE.c0
  have h1 := hE.c1
  have h2 := hE.c2
  have h3 := hE.c3
  have h4 := hE.c4
  have h5 := hE.c5
  have h6 := hE.c6
  have h7 := hE.c7
  have h8 := hE.c8
  have h9 := hE.c9
  have h10 := hE.c10
  clear hE
  go_enter Tryz.func25, Tryz.ntmps25
  go_wp2
  go_ret
  exact ⟨rfl, rfl⟩
set_option maxRecDepth 100000 in
theorem new_3 (e : Nat → Addr) (w : World) (hE : Sents e w) (at_ : Nat) :
    Calls Tryz.prog 10 #[.int .i64 3, .int .i64 (at_ : Int), .string (strL [])] w fun r w' => ∃ v, r = .returned v ∧ Below w.heap.size w w' ∧ FaultIs e w' 3 at_ v := by
  have hS := Lib.hid (sentinel_3 e w hE)
  clear hE
  go_enter Tryz.func10, Tryz.ntmps10
  go_wp2_with fail
  refine hS.out.mono ?_
  rintro r w1 ⟨rfl, rfl⟩
  go_wp2
  go_ret
  exact ⟨_, rfl, ((Below.refl _ _).alloc (Nat.le_refl _) _).alloc (by simp) _, _, rfl, by have h := Blk.new (w.alloc (.cells (eRow e) 82)) #[ev e (3 - 1), .int .i64 (at_ : Int), .string (strL [])] 74; rw [show (w.alloc (.cells (eRow e) 82)).heap.size = w.heap.size + 1 by simp] at h; exact h⟩
set_option maxRecDepth 100000 in
set_option maxHeartbeats 2000000 in
theorem code_3 (e : Nat → Addr) (w : World) (hE : Sents e w) (hs : 21 < w.heap.size) (at_ : Nat) (v : Value) (hv : FaultIs e w 3 at_ v) :
    Calls Tryz.prog 15 #[v] w fun r w' => r = .returned (.int .i64 3) ∧ Below w.heap.size w w' := by
  obtain ⟨b, rfl, hB⟩ := hv
  obtain ⟨w1, hw1⟩ : ∃ w1, w1 = w.alloc (.cells (eRow e) 82) := ⟨_, rfl⟩
  have hb1 : Below w.heap.size w w1 := by rw [hw1]; exact (Below.refl _ _).alloc (Nat.le_refl _) _
  have hR : Blk w1 w.heap.size (eRow e) 82 := by rw [hw1]; exact Blk.new _ _ _
  have hE1 := hE.step hb1 hs
  have hB1 := hB.below hb1 hB.lt
  have hf := hB1.cell 0
  have ho : ∀ i, i < 11 → i ≠ 2 → Calls Tryz.prog 39 #[.iface 72 (.pointer (some ⟨b, 0, none⟩)), ev e i] w1 fun e w' => e = .returned (.bool false) ∧ w' = w1 := by
    intro i hi hne
    obtain ⟨ca, ta, ha⟩ := hE1.row 2 (by decide)
    obtain ⟨cb, tb, hb⟩ := hE1.row i hi
    exact is_fault_other b (e i) (e 2) ca cb ta tb w1 hf (hE1.inj _ _ (by decide) hi (Ne.symm hne)) ha hb
  have hO := Lib.hid ho
  have hY := Lib.hid (is_fault_same b (e 2) w1 hf)
  have h0 := hE.c0
  have h1 := hE.c1
  have h2 := hE.c2
  have h3 := hE.c3
  have h4 := hE.c4
  have h5 := hE.c5
  have h6 := hE.c6
  have h7 := hE.c7
  have h8 := hE.c8
  have h9 := hE.c9
  have h10 := hE.c10
  have r0 := hR.cell 0
  have r1 := hR.cell 1
  have r2 := hR.cell 2
  have r3 := hR.cell 3
  have r4 := hR.cell 4
  have r5 := hR.cell 5
  have r6 := hR.cell 6
  have r7 := hR.cell 7
  have r8 := hR.cell 8
  have r9 := hR.cell 9
  have r10 := hR.cell 10
  have HW := Lib.hid hw1
  have HB := Lib.hid hb1
  clear hE hE1 hB hB1 hf hR ho hb1
  clear hs hw1
  go_enter Tryz.func15, Tryz.ntmps15
  go_wp2
  rw [← HW.out]
  refine wp_loop_rounds 12 ?_

  rw [rounds_succ]
  go_wp2_with fail
  refine (hO.out 0 (by decide) (by decide)).mono ?_
  rintro r w2 ⟨rfl, rfl⟩
  go_wp2
  rw [rounds_succ]
  go_wp2_with fail
  refine (hO.out 1 (by decide) (by decide)).mono ?_
  rintro r w2 ⟨rfl, rfl⟩
  go_wp2
  rw [rounds_succ]
  go_wp2_with fail
  refine hY.out.mono ?_
  rintro r w2 ⟨rfl, rfl⟩
  go_wp2
  rw [rounds_succ]
  go_wp2_with fail
  refine (hO.out 3 (by decide) (by decide)).mono ?_
  rintro r w2 ⟨rfl, rfl⟩
  go_wp2
  rw [rounds_succ]
  go_wp2_with fail
  refine (hO.out 4 (by decide) (by decide)).mono ?_
  rintro r w2 ⟨rfl, rfl⟩
  go_wp2
  rw [rounds_succ]
  go_wp2_with fail
  refine (hO.out 5 (by decide) (by decide)).mono ?_
  rintro r w2 ⟨rfl, rfl⟩
  go_wp2
  rw [rounds_succ]
  go_wp2_with fail
  refine (hO.out 6 (by decide) (by decide)).mono ?_
  rintro r w2 ⟨rfl, rfl⟩
  go_wp2
  rw [rounds_succ]
  go_wp2_with fail
  refine (hO.out 7 (by decide) (by decide)).mono ?_
  rintro r w2 ⟨rfl, rfl⟩
  go_wp2
  rw [rounds_succ]
  go_wp2_with fail
  refine (hO.out 8 (by decide) (by decide)).mono ?_
  rintro r w2 ⟨rfl, rfl⟩
  go_wp2
  rw [rounds_succ]
  go_wp2_with fail
  refine (hO.out 9 (by decide) (by decide)).mono ?_
  rintro r w2 ⟨rfl, rfl⟩
  go_wp2
  rw [rounds_succ]
  go_wp2_with fail
  refine (hO.out 10 (by decide) (by decide)).mono ?_
  rintro r w2 ⟨rfl, rfl⟩
  go_wp2
  rw [rounds_succ]
  go_wp2
  go_ret
  exact ⟨rfl, HB.out⟩

set_option maxRecDepth 100000 in
theorem sentinel_5 (e : Nat → Addr) (w : World) (hE : Sents e w) :
    Calls Tryz.prog 25 #[.int .i64 5] w fun r w' => r = .returned (ev e 4) ∧ w' = w.alloc (.cells (eRow e) 82) := by
  have hB := Blk.new w (eRow e) 82
  have hc := hB.cell 4
  clear hB
  have h0 := hE.c0
  have h1 := hE.c1
  have h2 := hE.c2
  have h3 := hE.c3
  have h4 := hE.c4
  have h5 := hE.c5
  have h6 := hE.c6
  have h7 := hE.c7
  have h8 := hE.c8
  have h9 := hE.c9
  have h10 := hE.c10
  clear hE
  go_enter Tryz.func25, Tryz.ntmps25
  go_wp2
  go_ret
  exact ⟨rfl, rfl⟩
set_option maxRecDepth 100000 in
theorem new_5 (e : Nat → Addr) (w : World) (hE : Sents e w) (at_ : Nat) :
    Calls Tryz.prog 10 #[.int .i64 5, .int .i64 (at_ : Int), .string (strL [])] w fun r w' => ∃ v, r = .returned v ∧ Below w.heap.size w w' ∧ FaultIs e w' 5 at_ v := by
  have hS := Lib.hid (sentinel_5 e w hE)
  clear hE
  go_enter Tryz.func10, Tryz.ntmps10
  go_wp2_with fail
  refine hS.out.mono ?_
  rintro r w1 ⟨rfl, rfl⟩
  go_wp2
  go_ret
  exact ⟨_, rfl, ((Below.refl _ _).alloc (Nat.le_refl _) _).alloc (by simp) _, _, rfl, by have h := Blk.new (w.alloc (.cells (eRow e) 82)) #[ev e (5 - 1), .int .i64 (at_ : Int), .string (strL [])] 74; rw [show (w.alloc (.cells (eRow e) 82)).heap.size = w.heap.size + 1 by simp] at h; exact h⟩
set_option maxRecDepth 100000 in
set_option maxHeartbeats 2000000 in
theorem code_5 (e : Nat → Addr) (w : World) (hE : Sents e w) (hs : 21 < w.heap.size) (at_ : Nat) (v : Value) (hv : FaultIs e w 5 at_ v) :
    Calls Tryz.prog 15 #[v] w fun r w' => r = .returned (.int .i64 5) ∧ Below w.heap.size w w' := by
  obtain ⟨b, rfl, hB⟩ := hv
  obtain ⟨w1, hw1⟩ : ∃ w1, w1 = w.alloc (.cells (eRow e) 82) := ⟨_, rfl⟩
  have hb1 : Below w.heap.size w w1 := by rw [hw1]; exact (Below.refl _ _).alloc (Nat.le_refl _) _
  have hR : Blk w1 w.heap.size (eRow e) 82 := by rw [hw1]; exact Blk.new _ _ _
  have hE1 := hE.step hb1 hs
  have hB1 := hB.below hb1 hB.lt
  have hf := hB1.cell 0
  have ho : ∀ i, i < 11 → i ≠ 4 → Calls Tryz.prog 39 #[.iface 72 (.pointer (some ⟨b, 0, none⟩)), ev e i] w1 fun e w' => e = .returned (.bool false) ∧ w' = w1 := by
    intro i hi hne
    obtain ⟨ca, ta, ha⟩ := hE1.row 4 (by decide)
    obtain ⟨cb, tb, hb⟩ := hE1.row i hi
    exact is_fault_other b (e i) (e 4) ca cb ta tb w1 hf (hE1.inj _ _ (by decide) hi (Ne.symm hne)) ha hb
  have hO := Lib.hid ho
  have hY := Lib.hid (is_fault_same b (e 4) w1 hf)
  have h0 := hE.c0
  have h1 := hE.c1
  have h2 := hE.c2
  have h3 := hE.c3
  have h4 := hE.c4
  have h5 := hE.c5
  have h6 := hE.c6
  have h7 := hE.c7
  have h8 := hE.c8
  have h9 := hE.c9
  have h10 := hE.c10
  have r0 := hR.cell 0
  have r1 := hR.cell 1
  have r2 := hR.cell 2
  have r3 := hR.cell 3
  have r4 := hR.cell 4
  have r5 := hR.cell 5
  have r6 := hR.cell 6
  have r7 := hR.cell 7
  have r8 := hR.cell 8
  have r9 := hR.cell 9
  have r10 := hR.cell 10
  have HW := Lib.hid hw1
  have HB := Lib.hid hb1
  clear hE hE1 hB hB1 hf hR ho hb1
  clear hs hw1
  go_enter Tryz.func15, Tryz.ntmps15
  go_wp2
  rw [← HW.out]
  refine wp_loop_rounds 12 ?_

  rw [rounds_succ]
  go_wp2_with fail
  refine (hO.out 0 (by decide) (by decide)).mono ?_
  rintro r w2 ⟨rfl, rfl⟩
  go_wp2
  rw [rounds_succ]
  go_wp2_with fail
  refine (hO.out 1 (by decide) (by decide)).mono ?_
  rintro r w2 ⟨rfl, rfl⟩
  go_wp2
  rw [rounds_succ]
  go_wp2_with fail
  refine (hO.out 2 (by decide) (by decide)).mono ?_
  rintro r w2 ⟨rfl, rfl⟩
  go_wp2
  rw [rounds_succ]
  go_wp2_with fail
  refine (hO.out 3 (by decide) (by decide)).mono ?_
  rintro r w2 ⟨rfl, rfl⟩
  go_wp2
  rw [rounds_succ]
  go_wp2_with fail
  refine hY.out.mono ?_
  rintro r w2 ⟨rfl, rfl⟩
  go_wp2
  rw [rounds_succ]
  go_wp2_with fail
  refine (hO.out 5 (by decide) (by decide)).mono ?_
  rintro r w2 ⟨rfl, rfl⟩
  go_wp2
  rw [rounds_succ]
  go_wp2_with fail
  refine (hO.out 6 (by decide) (by decide)).mono ?_
  rintro r w2 ⟨rfl, rfl⟩
  go_wp2
  rw [rounds_succ]
  go_wp2_with fail
  refine (hO.out 7 (by decide) (by decide)).mono ?_
  rintro r w2 ⟨rfl, rfl⟩
  go_wp2
  rw [rounds_succ]
  go_wp2_with fail
  refine (hO.out 8 (by decide) (by decide)).mono ?_
  rintro r w2 ⟨rfl, rfl⟩
  go_wp2
  rw [rounds_succ]
  go_wp2_with fail
  refine (hO.out 9 (by decide) (by decide)).mono ?_
  rintro r w2 ⟨rfl, rfl⟩
  go_wp2
  rw [rounds_succ]
  go_wp2_with fail
  refine (hO.out 10 (by decide) (by decide)).mono ?_
  rintro r w2 ⟨rfl, rfl⟩
  go_wp2
  rw [rounds_succ]
  go_wp2
  go_ret
  exact ⟨rfl, HB.out⟩
end Go.Proofs.YtbhfoelnoddlkaaGreatDoor.D

/-
  cruciblelaw01.At, Path, IsAt at a Fault of code 3 or 5, IsAt at nil: walked.
-/
namespace Go.Proofs.YtbhfoelnoddlkaaGreatDoor.D
open Go Go.RowKit Go.Extern.Stop Go.Stop Go.Extern Limb

theorem as_own (e : Nat → Addr) (w : World) (hE : Sents e w) (b : Addr) (t : Nat) (ht : Blk w t #[.pointer none] 72) :
    Calls Tryz.prog 40 #[.iface 72 (.pointer (some b)), .iface 85 (.pointer (some ⟨t, 0, none⟩))] w fun r w' => r = .returned (.bool true) ∧ Below t w w' ∧ Blk w' t #[.pointer (some b)] 72 := by
  have hl := ht.lt
  refine (as_hit b ⟨t, 0, none⟩ _ w hE.ty (ht.cell 0) (ht.free 0)).mono ?_
  rintro r w' ⟨rfl, rfl⟩
  refine ⟨rfl, ?_, ?_⟩
  · have h1 := (Below.refl t w).alloc (Nat.le_of_lt hl) (.cells #[.pointer (some ⟨t, 0, none⟩)] 85)
    have h2 := h1.alloc (by simp; omega) (.cells #[.pointer (some ⟨22, 85, none⟩), .pointer (some ⟨w.heap.size, 0, none⟩), .int .u64 150] 133)
    have h3 := h2.alloc (by simp; omega) (.cells #[.pointer (some ⟨22, 85, none⟩), .pointer (some ⟨w.heap.size, 0, none⟩), .int .u64 150] 133)
    have h4 := h3.alloc (by simp; omega) (.cells #[.pointer (some b)] 72)
    exact h4.setCell (p := ⟨t, 0, none⟩) (Nat.le_refl _) _
  · exact (((((ht.alloc _).alloc _).alloc _).alloc _).set 0 _)

set_option maxRecDepth 100000 in
theorem at_fault (e : Nat → Addr) (w : World) (hE : Sents e w) (hs : 21 < w.heap.size) (code at_ : Nat) (v : Value) (hv : FaultIs e w code at_ v) :
    Calls Tryz.prog 16 #[v] w fun r w' => r = .returned (.tuple #[.int .i64 (at_ : Int), .bool true]) ∧ Below w.heap.size w w' := by
  obtain ⟨b, rfl, hB⟩ := hv
  obtain ⟨w1, hw1⟩ : ∃ w1, w1 = w.alloc (.cells #[.pointer none] 72) := ⟨_, rfl⟩
  have hb1 : Below w.heap.size w w1 := by rw [hw1]; exact (Below.refl _ _).alloc (Nat.le_refl _) _
  have ht : Blk w1 w.heap.size #[.pointer none] 72 := by rw [hw1]; exact Blk.new _ _ _
  have HA := Lib.hid (as_own e w1 (hE.step hb1 hs) ⟨b, 0, none⟩ w.heap.size ht)
  have HBl := Lib.hid (hB.below hb1 hB.lt)
  have HL := Lib.hid hB.lt
  have HB := Lib.hid hb1
  have HW := Lib.hid hw1
  clear hE hs hB ht hb1 hw1
  go_enter Tryz.func16, Tryz.ntmps16
  go_wp2_with fail
  rw [← HW.out]
  refine HA.out.mono ?_
  rintro r w2 ⟨rfl, hb2, hBl2⟩
  have c0 := hBl2.cell 0
  have c1 := (HBl.out.below hb2 HL.out).cell 1
  have HB2 := Lib.hid (HB.out.trans hb2)
  clear hBl2 hb2
  go_wp2
  exact bodyPost_ret (v := .tuple #[.int .i64 (at_ : Int), .bool true]) (by simp [results, Tryz.results16, go_sem]) rfl ⟨rfl, HB2.out⟩
set_option maxRecDepth 100000 in
theorem path_fault (e : Nat → Addr) (w : World) (hE : Sents e w) (hs : 21 < w.heap.size) (code at_ : Nat) (v : Value) (hv : FaultIs e w code at_ v) :
    Calls Tryz.prog 17 #[v] w fun r w' => r = .returned (.tuple #[.string (strL []), .bool true]) ∧ Below w.heap.size w w' := by
  obtain ⟨b, rfl, hB⟩ := hv
  obtain ⟨w1, hw1⟩ : ∃ w1, w1 = w.alloc (.cells #[.pointer none] 72) := ⟨_, rfl⟩
  have hb1 : Below w.heap.size w w1 := by rw [hw1]; exact (Below.refl _ _).alloc (Nat.le_refl _) _
  have ht : Blk w1 w.heap.size #[.pointer none] 72 := by rw [hw1]; exact Blk.new _ _ _
  have HA := Lib.hid (as_own e w1 (hE.step hb1 hs) ⟨b, 0, none⟩ w.heap.size ht)
  have HBl := Lib.hid (hB.below hb1 hB.lt)
  have HL := Lib.hid hB.lt
  have HB := Lib.hid hb1
  have HW := Lib.hid hw1
  clear hE hs hB ht hb1 hw1
  go_enter Tryz.func17, Tryz.ntmps17
  go_wp2_with fail
  rw [← HW.out]
  refine HA.out.mono ?_
  rintro r w2 ⟨rfl, hb2, hBl2⟩
  have c0 := hBl2.cell 0
  have c1 := (HBl.out.below hb2 HL.out).cell 2
  have HB2 := Lib.hid (HB.out.trans hb2)
  clear hBl2 hb2
  go_wp2
  exact bodyPost_ret (v := .tuple #[.string (strL []), .bool true]) (by simp [results, Tryz.results17, go_sem]) rfl ⟨rfl, HB2.out⟩
/-- a Fault of a code at a place is just that. -/
theorem isAt_fault (e : Nat → Addr) (w : World) (hE : Sents e w) (hs : 21 < w.heap.size) (code at_ : Nat) (hc : code = 3 ∨ code = 5) (v : Value) (hv : FaultIs e w code at_ v) :
    Calls Tryz.prog 6 #[v, .int .i64 (code : Int), .int .i64 (at_ : Int)] w fun r w' => r = .returned (.bool true) ∧ Below w.heap.size w w' := by
  have hC : Calls Tryz.prog 15 #[v] w fun r w' => r = .returned (.int .i64 (code : Int)) ∧ Below w.heap.size w w' := by
    rcases hc with rfl | rfl
    · exact code_3 e w hE hs at_ v hv
    · exact code_5 e w hE hs at_ v hv
  have HC := Lib.hid hC
  have hc0 : (code : Int) ≠ 0 := by omega
  have hse : (strL []).toList.isEmpty = true := by rw [show (strL []).toList = [] by rw [ByteArray.toList]; unfold ByteArray.toList.loop; rfl]; rfl
  have HE := Lib.hid hE
  have HS := Lib.hid hs
  have HV := Lib.hid hv
  clear hC hc hE hs hv
  go_enter Tryz.func6, Tryz.ntmps6
  go_wp2_with fail
  refine HC.out.mono ?_
  rintro r w1 ⟨rfl, hb1⟩
  have HB1 := Lib.hid hb1
  have HE1 := Lib.hid (HE.out.step hb1 HS.out)
  have HS1 := Lib.hid (Nat.lt_of_lt_of_le HS.out hb1.size)
  have HV1 := Lib.hid (HV.out.step hb1)
  clear hb1
  go_wp2_with fail
  refine (at_fault e w1 HE1.out HS1.out code at_ v HV1.out).mono ?_
  rintro r w2 ⟨rfl, hb2⟩
  have HB2 := Lib.hid (HB1.out.trans (hb2.mono HB1.out.size))
  have HE2 := Lib.hid (HE1.out.step hb2 HS1.out)
  have HS2 := Lib.hid (Nat.lt_of_lt_of_le HS1.out hb2.size)
  have HV2 := Lib.hid (HV1.out.step hb2)
  clear hb2
  go_wp2_with fail
  refine (path_fault e w2 HE2.out HS2.out code at_ v HV2.out).mono ?_
  rintro r w3 ⟨rfl, hb3⟩
  have HB3 := Lib.hid (HB2.out.trans (hb3.mono HB2.out.size))
  clear hb3
  go_wp2
  go_ret
  exact ⟨rfl, HB3.out⟩
end Go.Proofs.YtbhfoelnoddlkaaGreatDoor.D

/-
  The closure that Read defers: where its frame panics with a stop, and where it returns: walked.
-/
namespace Go.Proofs.YtbhfoelnoddlkaaGreatDoor.D
open Go Go.RowKit Go.Extern.Stop Go.Stop Go.Extern Limb

theorem assert_stop (v : Value) (xT : TypeId) (w : World) : (Instr.typeAssert (.iface 46 v) xT 46 true).run Tryz.prog w = .ok (.tuple #[v, .bool true]) w := by
  simp [Instr.typeAssert, run_underlying Tryz.underlying46, go_sem, Result.andThen]
theorem arr22 (a b x : Value) : #[a, b] ++ ((Array.replicate 20 undef).setIfInBounds 3 x).setIfInBounds 0 x = #[a, b, x, undef, undef, x, undef, undef, undef, undef, undef, undef, undef, undef, undef, undef, undef, undef, undef, undef, undef, undef] := by kernel_rfl

set_option maxRecDepth 100000 in
set_option maxHeartbeats 200000 in
theorem catch_stop (e : Nat → Addr) (w : World) (hE : Sents e w) (hs : 21 < w.heap.size) (code at_ : Nat) (hc : code = 3 ∨ code = 5) (pv pe : Nat) (hne : pv ≠ pe) 
    (hv : Blk w pv zeroV 33) (he : Blk w pe #[.nilIface] 35) (older : List PanicEntry) :
    CallsD Tryz.prog 11 #[.pointer (some ⟨pv, 0, none⟩), .pointer (some ⟨pe, 0, none⟩)] (.panicking ({ v := stopAt code at_, recovered := false } :: older)) w fun r u' w' =>
      r = .returned (.tuple #[]) ∧ u' = .panicking ({ v := stopAt code at_, recovered := true } :: older) ∧ Ex (fun k => k = pv ∨ k = pe) w.heap.size w w' ∧ Blk w' pv zeroV 33 ∧ ∃ v, Blk w' pe #[v] 35 ∧ FaultIs e w' code at_ v := by
  obtain ⟨p', hp'⟩ : ∃ p', p' = pv := ⟨_, rfl⟩
  have HE := Lib.hid hE
  have HV := Lib.hid hv
  have HP := Lib.hid he
  have HC := Lib.hid hc
  have HS := Lib.hid hs
  have HN := Lib.hid hne
  clear hE hv he hc hs hne hp'
  unfold stopAt
  refine callsD_of_wpS Tryz.func11 rfl fun c₀ cs hu => ?_
  apply wpS_seq
  apply wpS_region
  simp [wpOpsS, go_sem, recoverD, hu, Tryz.ntmps11, Exit.thenS]
  clear hu
  refine wpS_of_wp ?_
  rw [arr22]
  obtain ⟨w1, hw1⟩ : ∃ w1, w1 = w.alloc (.cells #[.int .i64 (code : Int), .int .i64 (at_ : Int)] 46) := ⟨_, rfl⟩
  have hb1 : Below w.heap.size w w1 := by rw [hw1]; exact (Below.refl _ _).alloc (Nat.le_refl _) _
  have hE1 := HE.out.step hb1 HS.out
  have hNew : Calls Tryz.prog 10 #[.int .i64 (code : Int), .int .i64 (at_ : Int), .string ⟨#[]⟩] w1 fun r w' => ∃ v, r = .returned v ∧ Below w1.heap.size w1 w' ∧ FaultIs e w' code at_ v := by
    rcases HC.out with rfl | rfl
    · exact new_3 e w1 hE1 at_
    · exact new_5 e w1 hE1 at_
  have HNEW := Lib.hid hNew
  have HST : Hid (Blk w1 w.heap.size #[.int .i64 (code : Int), .int .i64 (at_ : Int)] 46) := Lib.hid (by rw [hw1]; exact Blk.new _ _ _)
  have HB1 := Lib.hid hb1
  have HW := Lib.hid hw1
  clear hE1 hNew hb1 hw1
  have has := assert_stop
  go_upto_region 5 with fail
  rw [← HW.out]
  have c0 := HST.out.cell 0
  have c1 := HST.out.cell 1
  refine wp_region_lit ?_
  iterate 17 go_step
  refine HNEW.out.mono ?_
  rintro r w2 ⟨v, rfl, hb2, hF⟩
  obtain ⟨b, rfl, hBF⟩ := hF
  have hv2 := (HV.out.below HB1.out HV.out.lt).below hb2 (by have := HB1.out.size; have := HV.out.lt; omega)
  have he2 := (HP.out.below HB1.out HP.out.lt).below hb2 (by have := HB1.out.size; have := HP.out.lt; omega)
  have hb := HB1.out.trans (hb2.mono HB1.out.size)
  have HV2 := Lib.hid hv2
  have HP2 := Lib.hid he2
  have HB2 := Lib.hid hb
  have HF2 := Lib.hid hBF
  clear hv2 he2 hb hBF hb2
  dsimp only
  go_step
  refine wpList_store_row rfl 33 _ _ rfl pv zeroV rfl rfl 33 _ HV2.out (by kernel_rfl) rfl (vCells_one 0 0 false (.slice none 0 0) 0 0 ⟨#[]⟩ (.slice none 0 0) rfl rfl) ?_
  have hne := HN.out
  have hE3 : Blk (w2.setRow pv zeroV) pe #[.nilIface] 35 := by
    have := HP2.out
    unfold Blk at *
    rw [setRow_other _ _ _ _ hne.symm]
    exact this
  have e0 := hE3.cell 0
  have e1 := hE3.free 0
  have hV3 : Blk (w2.setRow pv zeroV) pv zeroV 33 := setRow_heap w2 pv _ _ _ _ HV2.out
  have hB3 : Ex (fun k => k = pv ∨ k = pe) w.heap.size w (w2.setRow pv zeroV) := (Ex.of_below HB2.out).trans ⟨rfl, rfl, rfl, by simp, fun k _ hk => setRow_other _ _ _ _ (fun h => hk (.inl h))⟩
  have HE3 := Lib.hid hE3
  have HV3 := Lib.hid hV3
  have HB3 := Lib.hid hB3
  clear hE3 hV3 hB3
  go_wp2
  simp [bodyPostS, results, Tryz.results11]
  have hbv : b ≠ pv := by
    rintro rfl
    have h1 := HF2.out; have h2 := HV2.out
    unfold Blk at h1 h2
    rw [h1] at h2
    simp at h2
  have hbe : b ≠ pe := by
    rintro rfl
    have h1 := HF2.out; have h2 := HP2.out
    unfold Blk at h1 h2
    rw [h1] at h2
    simp at h2
  refine ⟨HB3.out.setCell pe 0 (.inl (.inr rfl)) _, HV3.out.set_other ⟨pe, 0, none⟩ _ hne, _, HE3.out.set 0 _, b, rfl, ?_⟩
  refine Blk.set_other ?_ ⟨pe, 0, none⟩ _ hbe
  have h1 := HF2.out
  unfold Blk at *
  rw [setRow_other _ _ _ _ hbv]
  exact h1

theorem catch_idle (pv pe : Nat) (w : World) :
    CallsD Tryz.prog 11 #[.pointer (some ⟨pv, 0, none⟩), .pointer (some ⟨pe, 0, none⟩)] .returning w fun r u' w' => r = .returned (.tuple #[]) ∧ u' = .returning ∧ w' = w := by
  refine callsD_of_wpS Tryz.func11 rfl fun c₀ cs hu => ?_
  apply wpS_seq
  apply wpS_region
  simp [wpOpsS, go_sem, recoverD, hu, Tryz.ntmps11, Exit.thenS]
  refine wpS_of_wp ?_
  rw [arr22]
  go_wp2
  cases c₀
  simp_all [bodyPostS, results, Tryz.results11]
end Go.Proofs.YtbhfoelnoddlkaaGreatDoor.D

/-
  diag.Read, where its reader stops: walked.
-/
namespace Go.Proofs.YtbhfoelnoddlkaaGreatDoor.D
open Go Go.RowKit Go.Extern.Stop Go.Stop Go.Extern Limb

/-- The world at Read's start: two results' cells and the reader. -/
structure RdStart (S : List UInt8) (w w3 : World) : Prop where
  b3 : Below w.heap.size w w3
  v : Blk w3 w.heap.size zeroV 33
  e : Blk w3 (w.heap.size + 1) #[.nilIface] 35
  r : Rd w3 (w.heap.size + 2) S 0 false
  s3 : w3.heap.size = w.heap.size + 3
theorem rdStart (S : List UInt8) (w : World) : RdStart S w (((w.alloc (.cells zeroV 33)).alloc (.cells #[.nilIface] 35)).alloc (.cells #[.string (strL S), .int .i64 0, .bool false] 50)) := by
  have s1 : (w.alloc (.cells zeroV 33)).heap.size = w.heap.size + 1 := by simp
  have s2 : ((w.alloc (.cells zeroV 33)).alloc (.cells #[.nilIface] 35)).heap.size = w.heap.size + 2 := by simp
  refine ⟨(((Below.refl _ _).alloc (Nat.le_refl _) _).alloc (by omega) _).alloc (by omega) _, ((Blk.new _ _ _).alloc _).alloc _, ?_, ?_, by simp⟩
  · have := Blk.new (w.alloc (.cells zeroV 33)) #[.nilIface] 35
    rw [s1] at this
    exact this.alloc _
  · have := Blk.new ((w.alloc (.cells zeroV 33)).alloc (.cells #[.nilIface] 35)) #[.string (strL S), .int .i64 0, .bool false] 50
    rw [s2] at this
    exact this

set_option maxRecDepth 100000 in
theorem read_stop (e : Nat → Addr) (S : List UInt8) (a : Nat) (code at_ : Nat) (hc : code = 3 ∨ code = 5) (hS : S.length ≤ 1048576) (hB : Btw S 0 a) (hF : Fails S a 0 code at_) (w : World) (hG : GW w) (hE : Sents e w) :
    Calls Tryz.prog 5 #[.string (strL S)] w fun r w' => ∃ v, r = .returned (.tuple #[.agg zeroV, v]) ∧ Below w.heap.size w w' ∧ FaultIs e w' code at_ v := by
  have hmf : ∀ (fn : Fn) (first cap : Array Value) (w : World), (Instr.makeFunc fn first cap).run Tryz.prog w = .ok (.func fn first cap) w := fun _ _ _ _ => rfl
  have hlen : ¬ (1048576 < ((strL S).size : Int)) := by rw [strL_size]; omega
  have hst := rdStart S w
  obtain ⟨w3, hw3⟩ : ∃ w3, w3 = ((w.alloc (.cells zeroV 33)).alloc (.cells #[.nilIface] 35)).alloc (.cells #[.string (strL S), .int .i64 0, .bool false] 50) := ⟨_, rfl⟩
  rw [← hw3] at hst
  have HW3 := Lib.hid hw3
  have HST := Lib.hid hst
  have HS40 : Hid (S.length ≤ 1099511627776) := Lib.hid (by omega)
  have HC := Lib.hid hc
  have HB := Lib.hid hB
  have HF := Lib.hid hF
  have HG := Lib.hid hG
  have HE := Lib.hid hE
  clear hw3 hst hc hS hB hF hG hE
  go_enter_defers Tryz.func5, Tryz.ntmps5
  go_upto_region 5 with fail
  change Code.wp _ _ _ _ (((w.alloc (.cells zeroV 33)).alloc (.cells #[.nilIface] 35)).alloc (.cells #[.string (strL S), .int .i64 0, .bool false] 50))
  rw [← HW3.out]
  go_wp2_with fail
  refine (HB.out.call HS40.out w3 (w.heap.size + 2) false HST.out.r).mono ?_
  rintro r w4 ⟨rfl, hr4, hx4⟩
  have hv4 := hx4.blk HST.out.v (by have := HST.out.s3; omega) (by omega)
  have he4 := hx4.blk HST.out.e (by have := HST.out.s3; omega) (by omega)
  have hsz4 : w3.heap.size ≤ w4.heap.size := hx4.size
  have hb4 : Below w.heap.size w w4 := HST.out.b3.trans (hx4.below (by have := HST.out.s3; omega) (fun k hk => by omega))
  have hG4 := HG.out.step hb4
  have hFF := HF.out false w4 (w.heap.size + 2) hG4 (by have := HG.out.size; omega) hr4
  have HV4 := Lib.hid hv4
  have HE4 := Lib.hid he4
  have HB4 := Lib.hid hb4
  have HFF := Lib.hid hFF
  have HS4 := Lib.hid hsz4
  clear hr4 hx4 hv4 he4 hb4 hG4 hFF hsz4
  go_wp2_with fail
  refine HFF.out.mono ?_
  rintro r w5 ⟨hx5, rfl⟩
  have hb5 : Below w.heap.size w w5 := HB4.out.trans (hx5.below (by have := HS4.out; have := HST.out.s3; omega) (fun k hk => by omega))
  have hv5 := hx5.blk HV4.out (by have := HS4.out; have := HST.out.s3; omega) (by omega)
  have he5 := hx5.blk HE4.out (by have := HS4.out; have := HST.out.s3; omega) (by omega)
  have HB5 := Lib.hid hb5
  have HV5 := Lib.hid hv5
  have HE5 := Lib.hid he5
  have HX5 : Hid (w4.heap.size ≤ w5.heap.size) := Lib.hid hx5.size
  clear hb5 hv5 he5 hx5
  go_wp2
  refine leaves_cons (f := 11) (args := #[.pointer (some ⟨w.heap.size, 0, none⟩), .pointer (some ⟨w.heap.size + 1, 0, none⟩)]) (by simp) (by simp [go_sem]) ?_
  refine (catch_stop e w5 (HE.out.step HB5.out HG.out.size) (Nat.lt_of_lt_of_le HG.out.size HB5.out.size) code at_ HC.out w.heap.size (w.heap.size + 1) (by omega) HV5.out HE5.out []).mono ?_
  rintro r u w6 ⟨rfl, rfl, hx6, hv6, v, he6, hF6⟩
  have c0 : w6.cell? ⟨w.heap.size, 0, none⟩ = some (.int .i8 0) := hv6.cell 0
  have c1 : w6.cell? ⟨w.heap.size, 1, none⟩ = some (.int .u64 0) := hv6.cell 1
  have c2 : w6.cell? ⟨w.heap.size, 2, none⟩ = some (.bool false) := hv6.cell 2
  have c3 : w6.cell? ⟨w.heap.size, 3, none⟩ = some (.slice none 0 0) := hv6.cell 3
  have c4 : w6.cell? ⟨w.heap.size, 4, none⟩ = some (.int .u64 0) := hv6.cell 4
  have c5 : w6.cell? ⟨w.heap.size, 5, none⟩ = some (.int .i8 0) := hv6.cell 5
  have c6 : w6.cell? ⟨w.heap.size, 6, none⟩ = some (.string ⟨#[]⟩) := hv6.cell 6
  have c7 : w6.cell? ⟨w.heap.size, 7, none⟩ = some (.slice none 0 0) := hv6.cell 7
  have d0 : w6.cell? ⟨w.heap.size + 1, 0, none⟩ = some v := he6.cell 0
  simp [Leaves, settle, results, Tryz.results5, go_sem, c0, c1, c2, c3, c4, c5, c6, c7, d0]
  exact ⟨v, ⟨rfl, rfl⟩, HB5.out.trans (hx6.below HB5.out.size (fun k hk => by omega)), hF6⟩
end Go.Proofs.YtbhfoelnoddlkaaGreatDoor.D

