/-
  Of the proof that the law DiagDeep answers true at every row of bytes: a part, without conditions of its own.
-/
import Derived.Test.YtbhfoelnoddlkaaGreatDoorPart03
import Derived.Test.YtbhfoelnoddlkaaGreatDoorPart04
import Derived.Test.YtbhfoelnoddlkaaGreatDoorPart10
set_option linter.unusedVariables false
set_option linter.unusedSimpArgs false
/-
  The reader: value at a list, a map, a number, bytes, a word: walked, what is read there by hypothesis.
-/
namespace Go.Proofs.YtbhfoelnoddlkaaGreatDoor.D
open Go Go.RowKit Limb

theorem Ex.low {p B : Nat} {w w' : World} (h : Ex (fun k => k = p) B w w') (hp : 21 < p) (hB : 21 < B) : Below 22 w w' := h.below (by omega) (fun k hk => by omega)
theorem GW.ex {p : Nat} {w w' : World} (h : GW w) (he : Ex (fun k => k = p) w.heap.size w w') (hp : 21 < p) : GW w' := h.below (he.low hp h.size) (by omega)
/-- A reader's function, asked at a place of a text: what it reads there, and where it stands then. -/
def RdsF (fn : FuncId) (args : List Value) (S : List UInt8) (a b : Nat) (f : F) (d : Nat) (op op' : Bool) : Prop :=
  ∀ (w : World) (p : Nat), GW w → 21 < p → Rd w p S a op → Calls Tryz.prog fn (.pointer (some ⟨p, 0, none⟩) :: args).toArray w fun e w' => Rs p S b op' w w' ∧ ∃ v, e = .returned v ∧ TreeP w' (fun k => w.heap.size ≤ k) f d v
/-- .. or with what it stops. -/
def FlsF (fn : FuncId) (args : List Value) (S : List UInt8) (a : Nat) (op : Bool) (code at_ : Nat) : Prop :=
  ∀ (w : World) (p : Nat), GW w → 21 < p → Rd w p S a op → Calls Tryz.prog fn (.pointer (some ⟨p, 0, none⟩) :: args).toArray w fun e w' => Ex (fun k => k = p) w.heap.size w w' ∧ e = .panicked [{ v := stopAt code at_, recovered := false }]
def Reads (S : List UInt8) (a b ar : Nat) (f : F) (d : Nat) (op' : Bool) : Prop := ∀ op, RdsF 13 [.int .i64 (ar : Int)] S a b f d op op'
def Fails (S : List UInt8) (a ar : Nat) (code at_ : Nat) : Prop := ∀ op, FlsF 13 [.int .i64 (ar : Int)] S a op code at_

theorem Rs.setRow {p : Nat} {S : List UInt8} {b : Nat} {op : Bool} {w w4 : World} (h : Rs p S b op w w4) {X : Nat} (hX : w.heap.size ≤ X) (hp : X ≠ p) (c : Array Value) : Rs p S b op w (w4.setRow X c) :=
  ⟨by have := h.1; unfold Rd Blk at *; rw [setRow_other _ _ _ _ (Ne.symm hp)]; exact this, h.2.trans ⟨rfl, rfl, rfl, by simp, fun k hk _ => setRow_other _ _ _ _ (by omega)⟩⟩
theorem TreeP.row {w : World} {P : Nat → Prop} {f : F} {d : Nat} {v : Value} (h : TreeP w P f d v) : ∃ (kind n : Int) (mb : Option Addr) (mn mc : Nat) (bits ext : Int) (text : List UInt8) (kb : Option Addr) (kn kc : Nat), v = .agg (vCells kind n false (.slice mb mn mc) bits ext (strL text) (.slice kb kn kc)) :=
  (TreeP.toN (N := w.heap.size) (fun b _ h => h) _ _ _ h).cells

set_option maxRecDepth 100000 in
set_option maxHeartbeats 1000000 in
theorem value_list (S : List UInt8) (a b ar : Nat) (f : F) (d : Nat) (ha : a < S.length) (hc : S.getD a 0 = 91) (har : ar < 128)
    (hL : RdsF 30 [.int .i64 ((ar + 1 : Nat) : Int)] S a b f d false false) : Reads S a b ar f d false := by
  intro op w p hG hp hr
  obtain ⟨w0, hw0⟩ : ∃ w0, w0 = w.alloc (.cells zeroV 33) := ⟨_, rfl⟩
  have hb : Below w.heap.size w w0 := by rw [hw0]; exact (Below.refl _ _).alloc (Nat.le_refl _) _
  have hX : Blk w0 w.heap.size zeroV 33 := by rw [hw0]; exact Blk.new _ _ _
  have hr0 : Rd w0 p S a op := Blk.below hr hb (Blk.lt hr)
  have hpX : w.heap.size ≠ p := by have := Blk.lt hr; omega
  have c2 := hr0.at2
  have f2 : w0.frozen? ⟨p, 2, none⟩ = false := Blk.free hr0 2
  obtain ⟨w1, hw1⟩ : ∃ w1, w1 = w0.setCell ⟨p, 2, none⟩ (.bool false) := ⟨_, rfl⟩
  have hr1 : Rd w1 p S a false := by rw [hw1]; exact hr0.set2 false
  have hX1 : Blk w1 w.heap.size zeroV 33 := by rw [hw1]; exact hX.set_other _ _ hpX
  have hE1 : Ex (fun k => k = p) w.heap.size w w1 := by rw [hw1]; exact (Ex.of_below (S := fun k => k = p) hb).setCell p 2 (.inl rfl) _
  have HG := Lib.hid hG
  have HW0 := Lib.hid hw0
  have HW1 := Lib.hid hw1
  have HR1 := Lib.hid hr1
  have HX1 := Lib.hid hX1
  have HE1 := Lib.hid hE1
  have HL := Lib.hid hL
  have hsz0 : w.heap.size < w1.heap.size := hX1.lt
  clear hG hw0 hw1 hr1 hX1 hE1 hb hX hr0 hr hL
  show Calls _ _ #[_, _] _ _
  go_enter Tryz.func13, Tryz.ntmps13
  go_upto_region 1 with fail
  change Code.wp _ _ _ _ (w.alloc (.cells zeroV 33))
  rw [← HW0.out]
  go_upto_region 2 with fail
  rw [← HW1.out]
  clear c2 f2
  have c1 := HR1.out.at1
  go_wp2_with fail
  clear c1
  refine (see_yes w1 p S a false HR1.out [91] ha (by rw [hc]; decide)).mono ?_
  rintro e w2 ⟨rfl, n2, rfl⟩
  have HR2 := Lib.hid (HR1.out.drewN n2)
  have HX2 := Lib.hid (HX1.out.drewN n2)
  have HE2 := Lib.hid (HE1.out.drewN n2)
  have hsz2 : w.heap.size < (w1.drewN n2).heap.size := hsz0
  generalize w1.drewN n2 = w2 at HR2 HX2 HE2 hsz2 ⊢
  clear HR1 HX1 HE1 HW0 HW1 hsz0
  go_wp2_with fail
  refine (deep_ok w2 (ar : Int) (a : Int) (by omega)).mono ?_
  rintro e w3 ⟨rfl, rfl⟩
  have g3 : IntKind.i64.wrap ((ar : Int) + 1) = (ar : Int) + 1 := IntWalk.i64_in _ (by omega)
  have HQ : Hid (Calls Tryz.prog 30 #[.pointer (some ⟨p, 0, none⟩), .int .i64 ((ar : Int) + 1)] w3 fun e w' => Rs p S b false w3 w' ∧ ∃ v, e = .returned v ∧ TreeP w' (fun k => w3.heap.size ≤ k) f d v) := Lib.hid (by
    have := HL.out w3 p (HG.out.ex HE2.out hp) hp HR2.out
    simpa using this)
  go_wp2_with fail
  refine HQ.out.mono ?_
  rintro e w4 ⟨hr4, v4, rfl, hT4⟩
  obtain ⟨k1, k2, k3, k4, k5, k6, k7, k8, k9, k10, k11, rfl⟩ := hT4.row
  have hX4 := hr4.2.blk HX2.out hsz2 hpX
  have HE4 := Lib.hid (HE2.out.trans (hr4.2.mono (by omega) (fun _ h => h)))
  have hlt4 : w.heap.size < w4.heap.size := hX4.lt
  have hsz3 : w3.heap.size ≤ w4.heap.size := hr4.2.size
  have HX4 := Lib.hid hX4
  have HR4 := Lib.hid hr4.1
  have HT4 := Lib.hid hT4
  clear hr4 hX4 hT4 HQ HR2 HX2 HE2
  dsimp only
  go_step
  refine wpList_store_row rfl 33 _ _ rfl w.heap.size (vCells k1 k2 false (.slice k3 k4 k5) k6 k7 (strL k8) (.slice k9 k10 k11)) rfl rfl 33 _ HX4.out (by kernel_rfl) rfl (vCells_one _ _ _ _ _ _ _ _ rfl rfl) ?_
  have hfin : Blk (w4.setRow w.heap.size (vCells k1 k2 false (.slice k3 k4 k5) k6 k7 (strL k8) (.slice k9 k10 k11))) w.heap.size (vCells k1 k2 false (.slice k3 k4 k5) k6 k7 (strL k8) (.slice k9 k10 k11)) 33 := setRow_heap _ _ _ _ _ _ HX4.out
  have HFIN := Lib.hid hfin
  clear hfin
  go_wp2
  refine bodyPost_ret (v := .agg (vCells k1 k2 false (.slice k3 k4 k5) k6 k7 (strL k8) (.slice k9 k10 k11))) (results_cell_row rfl _ _ w.heap.size 33 _ (0, 0) _ rfl HFIN.out Tryz.underlying33 rfl (by kernel_rfl)) rfl ⟨Rs.setRow ⟨HR4.out, HE4.out⟩ (Nat.le_refl _) hpX _, _, rfl, TreeP.same (fun k hk _ => setRow_other _ _ _ _ (by omega)) (fun k hk _ => by omega) _ _ _ HT4.out⟩
end Go.Proofs.YtbhfoelnoddlkaaGreatDoor.D

