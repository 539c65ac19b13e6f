/-
  Of the proof that the law DiagDeep answers true at every row of bytes: a part, without conditions of its own.
-/
import Derived.Test.YtbhfoelnoddlkaaGreatDoorPart14
set_option linter.unusedVariables false
set_option linter.unusedSimpArgs false
/-
  The reader: list: walked.
-/
namespace Go.Proofs.YtbhfoelnoddlkaaGreatDoor.D
open Go Go.RowKit Limb
attribute [local go_sem high] run_str strL_size run_sub run_sub_from

/-- How a list stands in a text: where its elements begin (ps), end (qs), and what stands behind them (rs). -/
structure ListAt (S : List UInt8) (a ar m : Nat) (ps qs rs : Nat → Nat) (fs : Nat → F) (ds : Nat → Nat) (ops : Nat → Bool) : Prop where
  m1 : 1 ≤ m
  m3 : m ≤ 3
  b0 : Btw S (a + 1) (ps 0)
  lt : ∀ i, i < m → ps i < S.length ∧ S.getD (ps i) 0 ≠ 93
  rd : ∀ i, i < m → Reads S (ps i) (qs i) ar (fs i) (ds i) (ops i)
  bt : ∀ i, i < m → Btw S (qs i) (rs i)
  rl : ∀ i, i < m → rs i < S.length
  com : ∀ i, i + 1 < m → S.getD (rs i) 0 = 44 ∧ Btw S (rs i + 1) (ps (i + 1)) ∧ ps i < ps (i + 1)
  fin : S.getD (rs (m - 1)) 0 = 93

def lCells (kv : Value) : Array Value := vCells 7 0 false (.slice none 0 0) 0 0 ⟨#[]⟩ kv
theorem lCells_set (kv kv' : Value) : (lCells kv).setIfInBounds 7 kv' = lCells kv' := by simp [lCells, vCells]

set_option maxRecDepth 100000 in
set_option maxHeartbeats 2000000 in
theorem list_any (S : List UInt8) (a ar m : Nat) (ps qs rs : Nat → Nat) (fs : Nat → F) (ds : Nat → Nat) (ops : Nat → Bool) (d : Nat) (ha : a < S.length) (hS : S.length ≤ 1099511627776) (hA : ListAt S a ar m ps qs rs fs ds ops) (hd : ∀ i, i < m → ds i < d) (hd1 : ∃ i, i < m ∧ ds i + 1 = d) :
    RdsF 30 [.int .i64 (ar : Int)] S a (rs (m - 1) + 1) (.node ([91] ++ kidsT [44, 32] [44, 32] m fs m ++ [93]) 0 fs) d false false := by
  obtain ⟨T, hTT⟩ : ∃ T, T = [91] ++ kidsT [44, 32] [44, 32] m fs m ++ [93] := ⟨_, rfl⟩
  rw [← hTT]
  have HTT := Lib.hid hTT
  have HA := Lib.hid hA
  have HD := Lib.hid hd
  have HD1 := Lib.hid hd1
  have hm1 := hA.m1
  have hm3 := hA.m3
  clear hTT hA hd hd1
  intro w p hG hp hr
  obtain ⟨w0, hw0⟩ : ∃ w0, w0 = w.alloc (.cells zeroV 33) := ⟨_, rfl⟩
  obtain ⟨w1, hw1⟩ : ∃ w1, w1 = w0.alloc (.cells (lCells (.slice none 0 0)) 33) := ⟨_, rfl⟩
  have hb0 : Below w.heap.size w w0 := by rw [hw0]; exact (Below.refl _ _).alloc (Nat.le_refl _) _
  have hX : Blk w0 w.heap.size zeroV 33 := by rw [hw0]; exact Blk.new _ _ _
  have hb1 : Below w0.heap.size w0 w1 := by rw [hw1]; exact (Below.refl _ _).alloc (Nat.le_refl _) _
  have hs0 : w0.heap.size = w.heap.size + 1 := by rw [hw0]; simp
  have hs1 : w1.heap.size = w.heap.size + 2 := by rw [hw1]; simp; omega
  have hY : Blk w1 (w.heap.size + 1) (lCells (.slice none 0 0)) 33 := by rw [hw1, ← hs0]; exact Blk.new _ _ _
  have hpw : p < w.heap.size := Blk.lt hr
  have hpX : w.heap.size ≠ p := by omega
  have hpY : w.heap.size + 1 ≠ p := by omega
  have hr1 : Rd w1 p S a false := Blk.below (Blk.below hr hb0 hpw) hb1 (by omega)
  have hX1 := hX.below hb1 (by omega)
  have hE1 : Ex (fun k => k = p) w.heap.size w w1 := Ex.of_below (hb0.trans (hb1.mono (by omega)))
  have c1 := hr1.at1
  have f1 : w1.frozen? ⟨p, 1, none⟩ = false := Blk.free hr1 1
  obtain ⟨a', ha'⟩ : ∃ a', a' = a + 1 := ⟨_, rfl⟩
  have g3 : IntKind.i64.wrap ((a : Int) + 1) = (a' : Int) := by rw [IntWalk.i64_in _ (by omega), ha']; simp
  have hr2 : Rd (w1.setCell ⟨p, 1, none⟩ (.int .i64 (a' : Int))) p S a' false := hr1.set1 a'
  have hX2 := hX1.set_other ⟨p, 1, none⟩ (.int .i64 (a' : Int)) hpX
  have hY2 := hY.set_other ⟨p, 1, none⟩ (.int .i64 (a' : Int)) hpY
  have hE2 := hE1.setCell p 1 (.inl rfl) (.int .i64 (a' : Int))
  have HB0 : Hid (Btw S a' (ps 0)) := Lib.hid (by rw [ha']; exact HA.out.b0)
  have HG := Lib.hid hG
  have HW0 := Lib.hid hw0
  have HW1 := Lib.hid hw1
  have HR2 := Lib.hid hr2
  have HX2 := Lib.hid hX2
  have HY2 := Lib.hid hY2
  have HE2 := Lib.hid hE2
  clear hG hw0 hw1 hb0 hb1 hX hY hr hr1 hX1 hE1 hr2 hX2 hY2 hE2 ha' hs0 hs1
  show Calls _ _ #[_, _] _ _
  go_enter Tryz.func30, Tryz.ntmps30
  go_upto_region 2 with fail
  change Code.wp _ _ _ _ ((w.alloc (.cells zeroV 33)).alloc (.cells (lCells (.slice none 0 0)) 33))
  rw [← HW0.out, ← HW1.out]
  go_upto_region 3 with fail
  clear c1 f1 g3
  generalize w1.setCell ⟨p, 1, none⟩ (.int .i64 (a' : Int)) = w2 at HR2 HX2 HY2 HE2 ⊢
  have hsz2 : w.heap.size + 1 < w2.heap.size := HY2.out.lt
  go_wp2_with fail
  refine (HB0.out.call hS w2 p false HR2.out).mono ?_
  rintro e w3 ⟨rfl, hr3⟩
  have HX3 := Lib.hid (hr3.2.blk HX2.out (by omega) hpX)
  have HY3 := Lib.hid (hr3.2.blk HY2.out hsz2 hpY)
  have HE3 := Lib.hid (HE2.out.trans (hr3.2.mono (by omega) (fun _ h => h)))
  have HR3 := Lib.hid hr3.1
  clear hr3 HX2 HY2 HE2 HR2 HW0 HW1 hsz2
  go_wp2_with fail
  go_loopw [] (fun wr => ∃ (k : Nat) (op : Bool) (kv : Value) (ys : Nat → Array Value), k < m ∧ Hid (Blk wr w.heap.size zeroV 33) ∧ Hid (Blk wr (w.heap.size + 1) (lCells kv) 33) ∧ Hid (Ex (fun k => k = p) w.heap.size w wr) ∧ Hid (Rd wr p S (ps k) op) ∧ Hid (KS (w.heap.size + 2) wr kv k ys fs ds)) (fun wr => S.length - atOf wr p)
  case atStart => exact ⟨0, false, _, fun _ => #[], by omega, HX3, HY3, HE3, HR3, Lib.hid (KS.nil _ _ _ _ _)⟩
  case round =>
    clear HX3 HY3 HE3 HR3
    obtain ⟨k, op, kv, ys, hkm, HXr, HYr, HEr, HRr, HKr⟩ := hrel
    have hlt := HA.out.lt k hkm
    have HAT := Lib.hid HRr.out.atOf
    obtain ⟨kb, kc, hkv⟩ : ∃ kb kc, kv = .slice kb k kc := by
      rcases HKr.out.own.2 with ⟨rfl, rfl⟩ | ⟨g, cap, cur, hv, _⟩
      · exact ⟨none, 0, rfl⟩
      · exact ⟨_, _, hv⟩
    subst hkv
    have HLT := Lib.hid hlt
    clear hlt
    go_wp2_with fail
    refine (see_no wr p S (ps k) op HRr.out [93] (fun _ => by simpa using HLT.out.2)).mono ?_
    rintro e w4 ⟨rfl, n4, rfl⟩
    have HR4 := Lib.hid (HRr.out.drewN n4)
    have HX4 := Lib.hid (HXr.out.drewN n4)
    have HY4 := Lib.hid (HYr.out.drewN n4)
    have HE4 := Lib.hid (HEr.out.drewN n4)
    have HK4 : Hid (KS (w.heap.size + 2) (wr.drewN n4) (.slice kb k kc) k ys fs ds) := Lib.hid (HKr.out.same (fun b _ _ => rfl))
    generalize wr.drewN n4 = w4 at HR4 HX4 HY4 HE4 HK4 ⊢
    clear HXr HYr HEr HRr HKr
    go_upto_region 5 with fail
    have hsz4 : w.heap.size + 1 < w4.heap.size := HY4.out.lt
    have HQ : Hid (∀ w', Rd w' p S (ps k) op → GW w' → Calls Tryz.prog 13 #[.pointer (some ⟨p, 0, none⟩), .int .i64 (ar : Int)] w' fun e w'' => Rs p S (qs k) (ops k) w' w'' ∧ ∃ v, e = .returned v ∧ TreeP w'' (fun b => w'.heap.size ≤ b) (fs k) (ds k) v) := Lib.hid (fun w' h hg => HA.out.rd k hkm op w' p hg hp h)
    have c7 : ∀ w', Blk w' (w.heap.size + 1) (lCells (.slice kb k kc)) 33 → w'.cell? ⟨w.heap.size + 1, 7, none⟩ = some (.slice kb k kc) := fun w' h => h.cell 7
    have HC7 := Lib.hid c7
    clear c7
    refine wp_region_noPanic ?_
    refine wp_region_held_drew (S := fun w' => True) (by kernel_rfl) trivial (fun hH => ?_)
    refine take_at (d := some 25) (hd := by rfl) (i := 0) (oi := _) (v := .pointer (some ⟨w.heap.size + 1, 7, none⟩)) rfl (by kernel_rfl) (by kernel_rfl) (by kernel_rfl) (fun _ _ _ h => h) (Or.inl ⟨by rfl, fun w' hSw => ?_⟩) hH ?_
    · clear hH hSw
      go_simp
    try simp only [Act.put, List.setIfInBounds_toArray, List.set_cons_zero, List.set_cons_succ]
    refine take_at (d := some 27) (hd := by rfl) (i := 2) (oi := _) (v := .pointer (some ⟨p, 0, none⟩)) rfl (by kernel_rfl) (by kernel_rfl) (by kernel_rfl) (fun _ _ _ h => h) (Or.inl ⟨by rfl, fun w' hSw => ?_⟩) hH ?_
    · clear hH hSw
      go_simp
    try simp only [Act.put, List.setIfInBounds_toArray, List.set_cons_zero, List.set_cons_succ]
    refine take_at (d := some 28) (hd := by rfl) (i := 3) (oi := _) (v := .int .i64 (ar : Int)) rfl (by kernel_rfl) (by kernel_rfl) (by kernel_rfl) (fun _ _ _ h => h) (Or.inl ⟨by rfl, fun w' hSw => ?_⟩) hH ?_
    · clear hH hSw
      go_simp
    try simp only [Act.put, List.setIfInBounds_toArray, List.set_cons_zero, List.set_cons_succ]
    have hgx : GW w4.drew := HG.out.ex (p := p) (HE4.out.drewN 1) hp
    have HGx := Lib.hid hgx
    have HRx : Hid (Rd w4.drew p S (ps k) op) := Lib.hid (HR4.out.drewN 1)
    have HYx : Hid (Blk w4.drew (w.heap.size + 1) (lCells (.slice kb k kc)) 33) := Lib.hid (HY4.out.drewN 1)
    clear hgx
    refine wpAnyH_ready (rs := [1, 4]) (by kernel_rfl) (by simp) ?_
    refine AllReadyH.cons (o := _) rfl (fun K hK => ?_) (AllReadyH.cons (o := _) rfl (fun K hK => ?_) AllReadyH.nil)
    rotate_left
    · go_simp
      refine (HQ.out _ HRx.out HGx.out).mono ?_
      rintro e w5 ⟨hr5, v5, rfl, hT5⟩
      obtain ⟨k1, k2, k3, k4, k5, k6, k7, k8, k9, k10, k11, rfl⟩ := hT5.row
      have HR5 := Lib.hid hr5
      have HT5 := Lib.hid hT5
      clear hr5 hT5
      simp only [vCells]
      go_wp2_with fail
      refine hK.out _ _ trivial (fun hH => ?_)
      clear hK K
      try simp only [Act.put, List.setIfInBounds_toArray, List.set_cons_zero, List.set_cons_succ]
      have HYx5 : Hid (Blk w5 (w.heap.size + 1) (lCells (.slice kb k kc)) 33) := Lib.hid (HR5.out.2.blk HYx.out (Blk.lt HYx.out) hpY)
      have hw6 : Below w5.heap.size w5 (w5.alloc (.cells #[.int .i8 k1, .int .u64 k2, .bool false, .slice k3 k4 k5, .int .u64 k6, .int .i8 k7, .string (strL k8), .slice k9 k10 k11] 33)) := (Below.refl _ _).alloc (Nat.le_refl _) _
      have hZ6 := Blk.new w5 #[.int .i8 k1, .int .u64 k2, .bool false, .slice k3 k4 k5, .int .u64 k6, .int .i8 k7, .string (strL k8), .slice k9 k10 k11] 33
      have HYx6 : Hid (Blk (w5.alloc (.cells #[.int .i8 k1, .int .u64 k2, .bool false, .slice k3 k4 k5, .int .u64 k6, .int .i8 k7, .string (strL k8), .slice k9 k10 k11] 33)) (w.heap.size + 1) (lCells (.slice kb k kc)) 33) := Lib.hid (HYx5.out.below hw6 HYx5.out.lt)
      refine wpAnyH_ready (rs := [1, 5]) (by kernel_rfl) (by simp) ?_
      refine AllReadyH.cons (o := _) rfl (fun K hK => ?_) (AllReadyH.cons (o := _) rfl (fun K hK => ?_) AllReadyH.nil)
      · skip
        have c7 := HC7.out w5 HYx5.out
        go_simp
        refine hK.out _ _ trivial (fun hH => ?_)
        clear hK K c7
        try simp only [Act.put, List.setIfInBounds_toArray, List.set_cons_zero, List.set_cons_succ]
        refine wpAnyH_ready (rs := [5]) (by kernel_rfl) (by simp) ?_
        refine AllReadyH.cons (o := _) rfl (fun K hK => ?_) AllReadyH.nil
        go_simp
        refine hK.out _ _ trivial (fun hH => ?_)
        clear hK K
        try simp only [Act.put, List.setIfInBounds_toArray, List.set_cons_zero, List.set_cons_succ]
        refine wpAnyH_ready (rs := [6]) (by kernel_rfl) (by simp) ?_
        refine AllReadyH.cons (o := _) rfl (fun K hK => ?_) AllReadyH.nil
        rw [if_pos (by rfl)]
        have hsz45 : w4.heap.size ≤ w5.heap.size := HR5.out.2.size
        have hks6 : KS (w.heap.size + 2) (w5.alloc (.cells #[.int .i8 k1, .int .u64 k2, .bool false, .slice k3 k4 k5, .int .u64 k6, .int .i8 k7, .string (strL k8), .slice k9 k10 k11] 33)) (.slice kb k kc) k ys fs ds := HK4.out.same (fun b hb hl => (hw6.block b (by omega)).trans (HR5.out.2.block b hl (fun e => by omega)))
        have hone6 : (#[.int .i8 k1, .int .u64 k2, .bool false, .slice k3 k4 k5, .int .u64 k6, .int .i8 k7, .string (strL k8), .slice k9 k10 k11] : Array Value).all (·.oneCell') = true := vCells_one k1 k2 false (.slice k3 k4 k5) k6 k7 (strL k8) (.slice k9 k10 k11) rfl rfl
        have HONE := Lib.hid hone6
        refine wp_append_kids (.tmp 26) (.tmp 30) rfl (w.heap.size + 2) (.slice kb k kc) k (rowL k ys) rfl hks6.own ⟨w5.heap.size, 0, none⟩ 1 1 (by omega) (#[.int .i8 k1, .int .u64 k2, .bool false, .slice k3 k4 k5, .int .u64 k6, .int .i8 k7, .string (strL k8), .slice k9 k10 k11] : Array Value).toList rfl rfl ?c1 ?c2 (by omega) ?c5 ?_
        case c1 =>
          intro j u hj
          rw [add_plain', Nat.zero_add, hZ6.cell j]
          simpa using hj
        case c2 =>
          intro u hu
          have := HONE.out
          rw [Array.all_eq_true_iff_forall_mem] at this
          exact this u (by simpa using hu)
        case c5 => simp; omega
        intro v7 w7 hown7 hgrow7 hg7
        have hlt7 : ∀ g, (Value.slice kb k kc).ownBlock = some g → g < w4.heap.size := fun g hg => (HK4.out.own.lt g hg).2
        have hge7 : ∀ g, (Value.slice kb k kc).ownBlock = some g → w.heap.size + 2 ≤ g := fun g hg => (HK4.out.own.lt g hg).1
        have HKS7 := Lib.hid (hks6.snoc (z := #[.int .i8 k1, .int .u64 k2, .bool false, .slice k3 k4 k5, .int .u64 k6, .int .i8 k7, .string (strL k8), .slice k9 k10 k11]) rfl hone6 (wa := w4.heap.size) (TreeP.same (fun b _ hl => hw6.block b hl) (fun b hb _ => hb) _ _ _ HT5.out) (by omega) hlt7 hown7 hgrow7 hg7)
        obtain ⟨g7, cp7, rfl, _⟩ := hg7
        have hlow : ∀ b, b < w.heap.size + 2 → w7.heap[b]? = w5.heap[b]? := fun b hb => (hgrow7.block b (by simp; omega) (fun e => by have := hge7 b e.symm; omega)).trans (hw6.block b (by omega))
        have hx5 := HR5.out.2.blk (HX4.out.drewN 1) (by show w.heap.size < w4.heap.size; omega) hpX
        have hy5 := HYx5.out
        have HX7 : Hid (Blk w7 w.heap.size zeroV 33) := Lib.hid (by unfold Blk at hx5 ⊢; rw [hlow _ (by omega)]; exact hx5)
        have hy7 : Blk w7 (w.heap.size + 1) (lCells (.slice kb k kc)) 33 := by unfold Blk at hy5 ⊢; rw [hlow _ (by omega)]; exact hy5
        have hr7 : Rd w7 p S (qs k) (ops k) := by have := HR5.out.1; unfold Rd Blk at this ⊢; rw [hlow _ (by omega)]; exact this
        have he7 : Ex (fun k => k = p) w.heap.size w w7 := ((HE4.out.drewN 1).trans (HR5.out.2.mono (by show w.heap.size ≤ w4.heap.size; omega) (fun _ h => h))).trans ⟨hgrow7.os.trans hw6.os, hgrow7.tape.trans hw6.tape, hgrow7.output.trans hw6.output, Nat.le_trans hw6.size hgrow7.size, fun b hb _ => hlow b (by omega)⟩
        have e7 : w7.cell? ⟨w.heap.size + 1, 7, none⟩ = some (.slice kb k kc) := hy7.cell 7
        have f7 : w7.frozen? ⟨w.heap.size + 1, 7, none⟩ = false := hy7.free 7
        have hsz7 : w.heap.size + 1 < w7.heap.size := hy7.lt
        have HY8 : Hid (Blk (w7.setCell ⟨w.heap.size + 1, 7, none⟩ (.slice (some ⟨g7, 0, none⟩) (k + 1) cp7)) (w.heap.size + 1) (lCells (.slice (some ⟨g7, 0, none⟩) (k + 1) cp7)) 33) := Lib.hid (by rw [← lCells_set]; exact hy7.set 7 _)
        have HX8 := Lib.hid (HX7.out.set_other ⟨w.heap.size + 1, 7, none⟩ (.slice (some ⟨g7, 0, none⟩) (k + 1) cp7) (by simp))
        have HR8 : Hid (Rd (w7.setCell ⟨w.heap.size + 1, 7, none⟩ (.slice (some ⟨g7, 0, none⟩) (k + 1) cp7)) p S (qs k) (ops k)) := Lib.hid (Blk.set_other hr7 _ _ (by show p ≠ w.heap.size + 1; omega))
        have HE8 := Lib.hid (he7.setCell (w.heap.size + 1) 7 (.inr (by omega)) (.slice (some ⟨g7, 0, none⟩) (k + 1) cp7))
        have HK8 : Hid (KS (w.heap.size + 2) (w7.setCell ⟨w.heap.size + 1, 7, none⟩ (.slice (some ⟨g7, 0, none⟩) (k + 1) cp7)) (.slice (some ⟨g7, 0, none⟩) (k + 1) cp7) (k + 1) (fun i => if i = k then #[.int .i8 k1, .int .u64 k2, .bool false, .slice k3 k4 k5, .int .u64 k6, .int .i8 k7, .string (strL k8), .slice k9 k10 k11] else ys i) fs ds) := Lib.hid (HKS7.out.same (fun b hb _ => Below.heap_setCell _ _ _ _ (by show b ≠ w.heap.size + 1; omega)))
        clear hown7 hgrow7 hlt7 hge7 hks6 hone6 hlow hx5 hy5 hy7 hr7 he7 hw6 hZ6 HKS7 HX7 HYx5 HYx6 HT5 HR5 HX4 HY4 HE4 HK4 HR4 HGx HRx HYx HQ HC7 hsz45 hsz4 HONE
        refine hK.out _ _ trivial (fun hH => ?_)
        clear hK K
        try simp only [Act.put, List.setIfInBounds_toArray, List.set_cons_zero, List.set_cons_succ]
        refine take_at (d := some 32) (hd := by rfl) (i := 7) (oi := _) (v := .pointer (some ⟨w.heap.size + 1, 7, none⟩)) rfl (by kernel_rfl) (by kernel_rfl) (by kernel_rfl) (fun _ _ _ h => h) (Or.inl ⟨by rfl, fun w' hSw => ?_⟩) hH ?_
        · clear hH hSw
          go_simp
        try simp only [Act.put, List.setIfInBounds_toArray, List.set_cons_zero, List.set_cons_succ]
        refine wpAnyH_ready (rs := [8]) (by kernel_rfl) (by simp) ?_
        refine AllReadyH.cons (o := _) rfl (fun K hK => ?_) AllReadyH.nil
        go_simp
        refine hK.out _ _ trivial (fun hH => ?_)
        clear hK K e7 f7
        try simp only [Act.put, List.setIfInBounds_toArray, List.set_cons_zero, List.set_cons_succ]
        refine wpAnyH_done (by kernel_rfl) ?_ _
        refine NoPanic.normal ?_
        clear hH
        generalize w7.setCell ⟨w.heap.size + 1, 7, none⟩ (.slice (some ⟨g7, 0, none⟩) (k + 1) cp7) = w8 at HX8 HY8 HR8 HE8 HK8 ⊢
        clear hsz7
        have HBT := Lib.hid (HA.out.bt k hkm)
        have hsz8 : w.heap.size + 1 < w8.heap.size := HY8.out.lt
        go_wp2_with fail
        refine (HBT.out.call hS w8 p (ops k) HR8.out).mono ?_
        rintro e w9 ⟨rfl, hr9⟩
        have HX9 := Lib.hid (hr9.2.blk HX8.out (by omega) hpX)
        have HY9 := Lib.hid (hr9.2.blk HY8.out hsz8 hpY)
        have HE9 := Lib.hid (HE8.out.trans (hr9.2.mono (by omega) (fun _ h => h)))
        have HK9 := Lib.hid (HK8.out.same (fun b hb hl => hr9.2.block b hl (fun e => by omega)))
        have HR9 := Lib.hid hr9.1
        have hsz9 : w.heap.size + 1 < w9.heap.size := HY9.out.lt
        clear hr9 HX8 HY8 HE8 HK8 HR8 hsz8 HBT
        by_cases hk1 : k + 1 < m
        · obtain ⟨hcm, hbt2, hinc⟩ := HA.out.com k hk1
          have HCM := Lib.hid hcm
          have HBT2 := Lib.hid hbt2
          have HINC := Lib.hid hinc
          have hrl := HA.out.rl k hkm
          clear hcm hbt2 hinc
          go_wp2_with fail
          refine (see_no w9 p S (rs k) (ops k) HR9.out [93] (fun _ => by rw [HCM.out]; decide)).mono ?_
          rintro e wa ⟨rfl, na, rfl⟩
          have HRa := Lib.hid (HR9.out.drewN na)
          have HXa := Lib.hid (HX9.out.drewN na)
          have HYa := Lib.hid (HY9.out.drewN na)
          have HEa := Lib.hid (HE9.out.drewN na)
          have HKa : Hid (KS _ (w9.drewN na) _ _ _ _ _) := Lib.hid (HK9.out.same (fun b _ _ => rfl))
          have hsza : w.heap.size + 1 < (w9.drewN na).heap.size := hsz9
          generalize w9.drewN na = wa at HRa HXa HYa HEa HKa hsza ⊢
          clear HR9 HX9 HY9 HE9 HK9 hsz9
          go_wp2_with fail
          refine (word_ok wa p S (rs k) (ops k) HRa.out [44] (by show rs k + 1 ≤ S.length; omega) hS (fun i hi => by
            have h0 : i = 0 := by simpa using hi
            subst h0
            exact HCM.out)).mono ?_
          rintro e wb ⟨rfl, hrb⟩
          have HXb := Lib.hid (hrb.2.blk HXa.out (by omega) hpX)
          have HYb := Lib.hid (hrb.2.blk HYa.out hsza hpY)
          have HEb := Lib.hid (HEa.out.trans (hrb.2.mono (by omega) (fun _ h => h)))
          have HKb := Lib.hid (HKa.out.same (fun b hb hl => hrb.2.block b hl (fun e => by omega)))
          have HRb : Hid (Rd wb p S (rs k + 1) (ops k)) := Lib.hid hrb.1
          have hszb : w.heap.size + 1 < wb.heap.size := HYb.out.lt
          clear hrb HRa HXa HYa HEa HKa hsza
          go_wp2_with fail
          refine (HBT2.out.call hS wb p (ops k) HRb.out).mono ?_
          rintro e wc ⟨rfl, hrc⟩
          have HXc := Lib.hid (hrc.2.blk HXb.out (by omega) hpX)
          have HYc := Lib.hid (hrc.2.blk HYb.out hszb hpY)
          have HEc := Lib.hid (HEb.out.trans (hrc.2.mono (by omega) (fun _ h => h)))
          have HKc := Lib.hid (HKb.out.same (fun b hb hl => hrc.2.block b hl (fun e => by omega)))
          have HRc := Lib.hid hrc.1
          clear hrc HRb HXb HYb HEb HKb hszb
          go_wp2
          go_roundw
          case rel => exact ⟨k + 1, ops k, _, _, hk1, HXc, HYc, HEc, HRc, HKc⟩
          case measure =>
            rw [HAT.out, HRc.out.atOf]
            have h1 := HINC.out
            have h2 := (HA.out.lt (k + 1) hk1).1
            omega
        · obtain rfl : m = k + 1 := by omega
          have HFIN := Lib.hid HA.out.fin
          simp only [Nat.add_sub_cancel] at HFIN
          have hrl := HA.out.rl k hkm
          go_wp2_with fail
          refine (see_yes w9 p S (rs k) (ops k) HR9.out [93] hrl (by rw [HFIN.out]; decide)).mono ?_
          rintro e wa ⟨rfl, na, rfl⟩
          have hra := HR9.out.drewN na
          have hxa := HX9.out.drewN na
          have hya := HY9.out.drewN na
          have hea := HE9.out.drewN na
          have hka : KS _ (w9.drewN na) _ _ _ _ _ := HK9.out.same (fun b _ _ => rfl)
          generalize w9.drewN na = wa at hra hxa hya hea hka ⊢
          clear HR9 HX9 HY9 HE9 HK9 hsz9
          obtain ⟨r', hr'⟩ : ∃ r', r' = rs k + 1 := ⟨_, rfl⟩
          have g3 : IntKind.i64.wrap ((rs k : Int) + 1) = (r' : Int) := by rw [IntWalk.i64_in _ (by omega), hr']; simp
          have c1 := hra.at1
          have f1 : wa.frozen? ⟨p, 1, none⟩ = false := Blk.free hra 1
          have hrb : Rd (wa.setCell ⟨p, 1, none⟩ (.int .i64 (r' : Int))) p S r' (ops k) := hra.set1 r'
          have hxb := hxa.set_other ⟨p, 1, none⟩ (.int .i64 (r' : Int)) hpX
          have hyb := hya.set_other ⟨p, 1, none⟩ (.int .i64 (r' : Int)) hpY
          have heb := hea.setCell p 1 (.inl rfl) (.int .i64 (r' : Int))
          have hkb := hka.same (w' := wa.setCell ⟨p, 1, none⟩ (.int .i64 (r' : Int))) (fun b hb _ => Below.heap_setCell _ _ _ _ (by show b ≠ p; omega))
          have HRP := Lib.hid hr'
          clear hr' hra hxa hya hea hka
          go_upto_region 11 with fail
          clear c1 f1 g3
          generalize wa.setCell ⟨p, 1, none⟩ (.int .i64 (r' : Int)) = wb at hrb hxb hyb heb hkb ⊢
          have c2 := hrb.at2
          have f2 : wb.frozen? ⟨p, 2, none⟩ = false := Blk.free hrb 2
          have hrc : Rd (wb.setCell ⟨p, 2, none⟩ (.bool false)) p S r' false := hrb.set2 false
          have hxc := hxb.set_other ⟨p, 2, none⟩ (.bool false) hpX
          have hyc := hyb.set_other ⟨p, 2, none⟩ (.bool false) hpY
          have hec := heb.setCell p 2 (.inl rfl) (.bool false)
          have hkc := hkb.same (w' := wb.setCell ⟨p, 2, none⟩ (.bool false)) (fun b hb _ => Below.heap_setCell _ _ _ _ (by show b ≠ p; omega))
          clear hrb hxb hyb heb hkb
          go_upto_region 12 with fail
          clear c2 f2
          generalize wb.setCell ⟨p, 2, none⟩ (.bool false) = wc at hrc hxc hyc hec hkc ⊢
          have HRc := Lib.hid hrc
          have HXc := Lib.hid hxc
          have HYc := Lib.hid hyc
          have HEc := Lib.hid hec
          have HKc := Lib.hid hkc
          clear hrc hxc hyc hec hkc
          refine wp_region_lit ?_
          refine wpList_load_row rfl 33 _ rfl (w.heap.size + 1) rfl 33 _ (0, 0) _ HYc.out Tryz.underlying33 rfl (by kernel_rfl) ?_
          unfold lCells
          refine wpList_store_row rfl 33 _ _ rfl w.heap.size (vCells 7 0 false (.slice none 0 0) 0 0 ⟨#[]⟩ (.slice (some ⟨g7, 0, none⟩) (k + 1) cp7)) rfl rfl 33 _ HXc.out (by kernel_rfl) rfl (vCells_one _ _ _ _ _ _ _ _ rfl rfl) ?_
          have HFN : Hid (Blk (wc.setRow w.heap.size (vCells 7 0 false (.slice none 0 0) 0 0 ⟨#[]⟩ (.slice (some ⟨g7, 0, none⟩) (k + 1) cp7))) w.heap.size (vCells 7 0 false (.slice none 0 0) 0 0 ⟨#[]⟩ (.slice (some ⟨g7, 0, none⟩) (k + 1) cp7)) 33) := Lib.hid (setRow_heap _ _ _ _ _ _ HXc.out)
          go_wp2
          refine bodyPost_ret (v := .agg (vCells 7 0 false (.slice none 0 0) 0 0 (strL []) (.slice (some ⟨g7, 0, none⟩) (k + 1) cp7))) (results_cell_row rfl _ _ w.heap.size 33 _ (0, 0) _ rfl HFN.out Tryz.underlying33 rfl (by kernel_rfl)) rfl ⟨?_, _, rfl, ?_⟩
          · have hh := Rs.setRow ⟨HRc.out, HEc.out⟩ (Nat.le_refl w.heap.size) hpX (vCells 7 0 false (.slice none 0 0) 0 0 ⟨#[]⟩ (.slice (some ⟨g7, 0, none⟩) (k + 1) cp7))
            rw [HRP.out] at hh
            exact hh
          · exact (HKc.out.same (fun b hb _ => setRow_other _ _ _ _ (by omega))).list (by omega) (by omega) hm3 T HTT.out d HD.out HD1.out
      · skip
        go_simp
        refine hK.out _ _ trivial (fun hH => ?_)
        clear hK K
        try simp only [Act.put, List.setIfInBounds_toArray, List.set_cons_zero, List.set_cons_succ]
        refine wpAnyH_ready (rs := [1]) (by kernel_rfl) (by simp) ?_
        refine AllReadyH.cons (o := _) rfl (fun K hK => ?_) AllReadyH.nil
        have c7 := HC7.out (w5.alloc (.cells #[.int .i8 k1, .int .u64 k2, .bool false, .slice k3 k4 k5, .int .u64 k6, .int .i8 k7, .string (strL k8), .slice k9 k10 k11] 33)) HYx6.out
        go_simp
        refine hK.out _ _ trivial (fun hH => ?_)
        clear hK K c7
        try simp only [Act.put, List.setIfInBounds_toArray, List.set_cons_zero, List.set_cons_succ]
        refine wpAnyH_ready (rs := [6]) (by kernel_rfl) (by simp) ?_
        refine AllReadyH.cons (o := _) rfl (fun K hK => ?_) AllReadyH.nil
        rw [if_pos (by rfl)]
        have hsz45 : w4.heap.size ≤ w5.heap.size := HR5.out.2.size
        have hks6 : KS (w.heap.size + 2) (w5.alloc (.cells #[.int .i8 k1, .int .u64 k2, .bool false, .slice k3 k4 k5, .int .u64 k6, .int .i8 k7, .string (strL k8), .slice k9 k10 k11] 33)) (.slice kb k kc) k ys fs ds := HK4.out.same (fun b hb hl => (hw6.block b (by omega)).trans (HR5.out.2.block b hl (fun e => by omega)))
        have hone6 : (#[.int .i8 k1, .int .u64 k2, .bool false, .slice k3 k4 k5, .int .u64 k6, .int .i8 k7, .string (strL k8), .slice k9 k10 k11] : Array Value).all (·.oneCell') = true := vCells_one k1 k2 false (.slice k3 k4 k5) k6 k7 (strL k8) (.slice k9 k10 k11) rfl rfl
        have HONE := Lib.hid hone6
        refine wp_append_kids (.tmp 26) (.tmp 30) rfl (w.heap.size + 2) (.slice kb k kc) k (rowL k ys) rfl hks6.own ⟨w5.heap.size, 0, none⟩ 1 1 (by omega) (#[.int .i8 k1, .int .u64 k2, .bool false, .slice k3 k4 k5, .int .u64 k6, .int .i8 k7, .string (strL k8), .slice k9 k10 k11] : Array Value).toList rfl rfl ?c1 ?c2 (by omega) ?c5 ?_
        case c1 =>
          intro j u hj
          rw [add_plain', Nat.zero_add, hZ6.cell j]
          simpa using hj
        case c2 =>
          intro u hu
          have := HONE.out
          rw [Array.all_eq_true_iff_forall_mem] at this
          exact this u (by simpa using hu)
        case c5 => simp; omega
        intro v7 w7 hown7 hgrow7 hg7
        have hlt7 : ∀ g, (Value.slice kb k kc).ownBlock = some g → g < w4.heap.size := fun g hg => (HK4.out.own.lt g hg).2
        have hge7 : ∀ g, (Value.slice kb k kc).ownBlock = some g → w.heap.size + 2 ≤ g := fun g hg => (HK4.out.own.lt g hg).1
        have HKS7 := Lib.hid (hks6.snoc (z := #[.int .i8 k1, .int .u64 k2, .bool false, .slice k3 k4 k5, .int .u64 k6, .int .i8 k7, .string (strL k8), .slice k9 k10 k11]) rfl hone6 (wa := w4.heap.size) (TreeP.same (fun b _ hl => hw6.block b hl) (fun b hb _ => hb) _ _ _ HT5.out) (by omega) hlt7 hown7 hgrow7 hg7)
        obtain ⟨g7, cp7, rfl, _⟩ := hg7
        have hlow : ∀ b, b < w.heap.size + 2 → w7.heap[b]? = w5.heap[b]? := fun b hb => (hgrow7.block b (by simp; omega) (fun e => by have := hge7 b e.symm; omega)).trans (hw6.block b (by omega))
        have hx5 := HR5.out.2.blk (HX4.out.drewN 1) (by show w.heap.size < w4.heap.size; omega) hpX
        have hy5 := HYx5.out
        have HX7 : Hid (Blk w7 w.heap.size zeroV 33) := Lib.hid (by unfold Blk at hx5 ⊢; rw [hlow _ (by omega)]; exact hx5)
        have hy7 : Blk w7 (w.heap.size + 1) (lCells (.slice kb k kc)) 33 := by unfold Blk at hy5 ⊢; rw [hlow _ (by omega)]; exact hy5
        have hr7 : Rd w7 p S (qs k) (ops k) := by have := HR5.out.1; unfold Rd Blk at this ⊢; rw [hlow _ (by omega)]; exact this
        have he7 : Ex (fun k => k = p) w.heap.size w w7 := ((HE4.out.drewN 1).trans (HR5.out.2.mono (by show w.heap.size ≤ w4.heap.size; omega) (fun _ h => h))).trans ⟨hgrow7.os.trans hw6.os, hgrow7.tape.trans hw6.tape, hgrow7.output.trans hw6.output, Nat.le_trans hw6.size hgrow7.size, fun b hb _ => hlow b (by omega)⟩
        have e7 : w7.cell? ⟨w.heap.size + 1, 7, none⟩ = some (.slice kb k kc) := hy7.cell 7
        have f7 : w7.frozen? ⟨w.heap.size + 1, 7, none⟩ = false := hy7.free 7
        have hsz7 : w.heap.size + 1 < w7.heap.size := hy7.lt
        have HY8 : Hid (Blk (w7.setCell ⟨w.heap.size + 1, 7, none⟩ (.slice (some ⟨g7, 0, none⟩) (k + 1) cp7)) (w.heap.size + 1) (lCells (.slice (some ⟨g7, 0, none⟩) (k + 1) cp7)) 33) := Lib.hid (by rw [← lCells_set]; exact hy7.set 7 _)
        have HX8 := Lib.hid (HX7.out.set_other ⟨w.heap.size + 1, 7, none⟩ (.slice (some ⟨g7, 0, none⟩) (k + 1) cp7) (by simp))
        have HR8 : Hid (Rd (w7.setCell ⟨w.heap.size + 1, 7, none⟩ (.slice (some ⟨g7, 0, none⟩) (k + 1) cp7)) p S (qs k) (ops k)) := Lib.hid (Blk.set_other hr7 _ _ (by show p ≠ w.heap.size + 1; omega))
        have HE8 := Lib.hid (he7.setCell (w.heap.size + 1) 7 (.inr (by omega)) (.slice (some ⟨g7, 0, none⟩) (k + 1) cp7))
        have HK8 : Hid (KS (w.heap.size + 2) (w7.setCell ⟨w.heap.size + 1, 7, none⟩ (.slice (some ⟨g7, 0, none⟩) (k + 1) cp7)) (.slice (some ⟨g7, 0, none⟩) (k + 1) cp7) (k + 1) (fun i => if i = k then #[.int .i8 k1, .int .u64 k2, .bool false, .slice k3 k4 k5, .int .u64 k6, .int .i8 k7, .string (strL k8), .slice k9 k10 k11] else ys i) fs ds) := Lib.hid (HKS7.out.same (fun b hb _ => Below.heap_setCell _ _ _ _ (by show b ≠ w.heap.size + 1; omega)))
        clear hown7 hgrow7 hlt7 hge7 hks6 hone6 hlow hx5 hy5 hy7 hr7 he7 hw6 hZ6 HKS7 HX7 HYx5 HYx6 HT5 HR5 HX4 HY4 HE4 HK4 HR4 HGx HRx HYx HQ HC7 hsz45 hsz4 HONE
        refine hK.out _ _ trivial (fun hH => ?_)
        clear hK K
        try simp only [Act.put, List.setIfInBounds_toArray, List.set_cons_zero, List.set_cons_succ]
        refine take_at (d := some 32) (hd := by rfl) (i := 7) (oi := _) (v := .pointer (some ⟨w.heap.size + 1, 7, none⟩)) rfl (by kernel_rfl) (by kernel_rfl) (by kernel_rfl) (fun _ _ _ h => h) (Or.inl ⟨by rfl, fun w' hSw => ?_⟩) hH ?_
        · clear hH hSw
          go_simp
        try simp only [Act.put, List.setIfInBounds_toArray, List.set_cons_zero, List.set_cons_succ]
        refine wpAnyH_ready (rs := [8]) (by kernel_rfl) (by simp) ?_
        refine AllReadyH.cons (o := _) rfl (fun K hK => ?_) AllReadyH.nil
        go_simp
        refine hK.out _ _ trivial (fun hH => ?_)
        clear hK K e7 f7
        try simp only [Act.put, List.setIfInBounds_toArray, List.set_cons_zero, List.set_cons_succ]
        refine wpAnyH_done (by kernel_rfl) ?_ _
        refine NoPanic.normal ?_
        clear hH
        generalize w7.setCell ⟨w.heap.size + 1, 7, none⟩ (.slice (some ⟨g7, 0, none⟩) (k + 1) cp7) = w8 at HX8 HY8 HR8 HE8 HK8 ⊢
        clear hsz7
        have HBT := Lib.hid (HA.out.bt k hkm)
        have hsz8 : w.heap.size + 1 < w8.heap.size := HY8.out.lt
        go_wp2_with fail
        refine (HBT.out.call hS w8 p (ops k) HR8.out).mono ?_
        rintro e w9 ⟨rfl, hr9⟩
        have HX9 := Lib.hid (hr9.2.blk HX8.out (by omega) hpX)
        have HY9 := Lib.hid (hr9.2.blk HY8.out hsz8 hpY)
        have HE9 := Lib.hid (HE8.out.trans (hr9.2.mono (by omega) (fun _ h => h)))
        have HK9 := Lib.hid (HK8.out.same (fun b hb hl => hr9.2.block b hl (fun e => by omega)))
        have HR9 := Lib.hid hr9.1
        have hsz9 : w.heap.size + 1 < w9.heap.size := HY9.out.lt
        clear hr9 HX8 HY8 HE8 HK8 HR8 hsz8 HBT
        by_cases hk1 : k + 1 < m
        · obtain ⟨hcm, hbt2, hinc⟩ := HA.out.com k hk1
          have HCM := Lib.hid hcm
          have HBT2 := Lib.hid hbt2
          have HINC := Lib.hid hinc
          have hrl := HA.out.rl k hkm
          clear hcm hbt2 hinc
          go_wp2_with fail
          refine (see_no w9 p S (rs k) (ops k) HR9.out [93] (fun _ => by rw [HCM.out]; decide)).mono ?_
          rintro e wa ⟨rfl, na, rfl⟩
          have HRa := Lib.hid (HR9.out.drewN na)
          have HXa := Lib.hid (HX9.out.drewN na)
          have HYa := Lib.hid (HY9.out.drewN na)
          have HEa := Lib.hid (HE9.out.drewN na)
          have HKa : Hid (KS _ (w9.drewN na) _ _ _ _ _) := Lib.hid (HK9.out.same (fun b _ _ => rfl))
          have hsza : w.heap.size + 1 < (w9.drewN na).heap.size := hsz9
          generalize w9.drewN na = wa at HRa HXa HYa HEa HKa hsza ⊢
          clear HR9 HX9 HY9 HE9 HK9 hsz9
          go_wp2_with fail
          refine (word_ok wa p S (rs k) (ops k) HRa.out [44] (by show rs k + 1 ≤ S.length; omega) hS (fun i hi => by
            have h0 : i = 0 := by simpa using hi
            subst h0
            exact HCM.out)).mono ?_
          rintro e wb ⟨rfl, hrb⟩
          have HXb := Lib.hid (hrb.2.blk HXa.out (by omega) hpX)
          have HYb := Lib.hid (hrb.2.blk HYa.out hsza hpY)
          have HEb := Lib.hid (HEa.out.trans (hrb.2.mono (by omega) (fun _ h => h)))
          have HKb := Lib.hid (HKa.out.same (fun b hb hl => hrb.2.block b hl (fun e => by omega)))
          have HRb : Hid (Rd wb p S (rs k + 1) (ops k)) := Lib.hid hrb.1
          have hszb : w.heap.size + 1 < wb.heap.size := HYb.out.lt
          clear hrb HRa HXa HYa HEa HKa hsza
          go_wp2_with fail
          refine (HBT2.out.call hS wb p (ops k) HRb.out).mono ?_
          rintro e wc ⟨rfl, hrc⟩
          have HXc := Lib.hid (hrc.2.blk HXb.out (by omega) hpX)
          have HYc := Lib.hid (hrc.2.blk HYb.out hszb hpY)
          have HEc := Lib.hid (HEb.out.trans (hrc.2.mono (by omega) (fun _ h => h)))
          have HKc := Lib.hid (HKb.out.same (fun b hb hl => hrc.2.block b hl (fun e => by omega)))
          have HRc := Lib.hid hrc.1
          clear hrc HRb HXb HYb HEb HKb hszb
          go_wp2
          go_roundw
          case rel => exact ⟨k + 1, ops k, _, _, hk1, HXc, HYc, HEc, HRc, HKc⟩
          case measure =>
            rw [HAT.out, HRc.out.atOf]
            have h1 := HINC.out
            have h2 := (HA.out.lt (k + 1) hk1).1
            omega
        · obtain rfl : m = k + 1 := by omega
          have HFIN := Lib.hid HA.out.fin
          simp only [Nat.add_sub_cancel] at HFIN
          have hrl := HA.out.rl k hkm
          go_wp2_with fail
          refine (see_yes w9 p S (rs k) (ops k) HR9.out [93] hrl (by rw [HFIN.out]; decide)).mono ?_
          rintro e wa ⟨rfl, na, rfl⟩
          have hra := HR9.out.drewN na
          have hxa := HX9.out.drewN na
          have hya := HY9.out.drewN na
          have hea := HE9.out.drewN na
          have hka : KS _ (w9.drewN na) _ _ _ _ _ := HK9.out.same (fun b _ _ => rfl)
          generalize w9.drewN na = wa at hra hxa hya hea hka ⊢
          clear HR9 HX9 HY9 HE9 HK9 hsz9
          obtain ⟨r', hr'⟩ : ∃ r', r' = rs k + 1 := ⟨_, rfl⟩
          have g3 : IntKind.i64.wrap ((rs k : Int) + 1) = (r' : Int) := by rw [IntWalk.i64_in _ (by omega), hr']; simp
          have c1 := hra.at1
          have f1 : wa.frozen? ⟨p, 1, none⟩ = false := Blk.free hra 1
          have hrb : Rd (wa.setCell ⟨p, 1, none⟩ (.int .i64 (r' : Int))) p S r' (ops k) := hra.set1 r'
          have hxb := hxa.set_other ⟨p, 1, none⟩ (.int .i64 (r' : Int)) hpX
          have hyb := hya.set_other ⟨p, 1, none⟩ (.int .i64 (r' : Int)) hpY
          have heb := hea.setCell p 1 (.inl rfl) (.int .i64 (r' : Int))
          have hkb := hka.same (w' := wa.setCell ⟨p, 1, none⟩ (.int .i64 (r' : Int))) (fun b hb _ => Below.heap_setCell _ _ _ _ (by show b ≠ p; omega))
          have HRP := Lib.hid hr'
          clear hr' hra hxa hya hea hka
          go_upto_region 11 with fail
          clear c1 f1 g3
          generalize wa.setCell ⟨p, 1, none⟩ (.int .i64 (r' : Int)) = wb at hrb hxb hyb heb hkb ⊢
          have c2 := hrb.at2
          have f2 : wb.frozen? ⟨p, 2, none⟩ = false := Blk.free hrb 2
          have hrc : Rd (wb.setCell ⟨p, 2, none⟩ (.bool false)) p S r' false := hrb.set2 false
          have hxc := hxb.set_other ⟨p, 2, none⟩ (.bool false) hpX
          have hyc := hyb.set_other ⟨p, 2, none⟩ (.bool false) hpY
          have hec := heb.setCell p 2 (.inl rfl) (.bool false)
          have hkc := hkb.same (w' := wb.setCell ⟨p, 2, none⟩ (.bool false)) (fun b hb _ => Below.heap_setCell _ _ _ _ (by show b ≠ p; omega))
          clear hrb hxb hyb heb hkb
          go_upto_region 12 with fail
          clear c2 f2
          generalize wb.setCell ⟨p, 2, none⟩ (.bool false) = wc at hrc hxc hyc hec hkc ⊢
          have HRc := Lib.hid hrc
          have HXc := Lib.hid hxc
          have HYc := Lib.hid hyc
          have HEc := Lib.hid hec
          have HKc := Lib.hid hkc
          clear hrc hxc hyc hec hkc
          refine wp_region_lit ?_
          refine wpList_load_row rfl 33 _ rfl (w.heap.size + 1) rfl 33 _ (0, 0) _ HYc.out Tryz.underlying33 rfl (by kernel_rfl) ?_
          unfold lCells
          refine wpList_store_row rfl 33 _ _ rfl w.heap.size (vCells 7 0 false (.slice none 0 0) 0 0 ⟨#[]⟩ (.slice (some ⟨g7, 0, none⟩) (k + 1) cp7)) rfl rfl 33 _ HXc.out (by kernel_rfl) rfl (vCells_one _ _ _ _ _ _ _ _ rfl rfl) ?_
          have HFN : Hid (Blk (wc.setRow w.heap.size (vCells 7 0 false (.slice none 0 0) 0 0 ⟨#[]⟩ (.slice (some ⟨g7, 0, none⟩) (k + 1) cp7))) w.heap.size (vCells 7 0 false (.slice none 0 0) 0 0 ⟨#[]⟩ (.slice (some ⟨g7, 0, none⟩) (k + 1) cp7)) 33) := Lib.hid (setRow_heap _ _ _ _ _ _ HXc.out)
          go_wp2
          refine bodyPost_ret (v := .agg (vCells 7 0 false (.slice none 0 0) 0 0 (strL []) (.slice (some ⟨g7, 0, none⟩) (k + 1) cp7))) (results_cell_row rfl _ _ w.heap.size 33 _ (0, 0) _ rfl HFN.out Tryz.underlying33 rfl (by kernel_rfl)) rfl ⟨?_, _, rfl, ?_⟩
          · have hh := Rs.setRow ⟨HRc.out, HEc.out⟩ (Nat.le_refl w.heap.size) hpX (vCells 7 0 false (.slice none 0 0) 0 0 ⟨#[]⟩ (.slice (some ⟨g7, 0, none⟩) (k + 1) cp7))
            rw [HRP.out] at hh
            exact hh
          · exact (HKc.out.same (fun b hb _ => setRow_other _ _ _ _ (by omega))).list (by omega) (by omega) hm3 T HTT.out d HD.out HD1.out
    · have c7 := HC7.out w4.drew HYx.out
      go_simp
      refine hK.out _ _ trivial (fun hH => ?_)
      clear hK K c7
      try simp only [Act.put, List.setIfInBounds_toArray, List.set_cons_zero, List.set_cons_succ]
      refine wpAnyH_ready (rs := [4]) (by kernel_rfl) (by simp) ?_
      refine AllReadyH.cons (o := _) rfl (fun K hK => ?_) AllReadyH.nil
      go_simp
      refine (HQ.out _ HRx.out HGx.out).mono ?_
      rintro e w5 ⟨hr5, v5, rfl, hT5⟩
      obtain ⟨k1, k2, k3, k4, k5, k6, k7, k8, k9, k10, k11, rfl⟩ := hT5.row
      have HR5 := Lib.hid hr5
      have HT5 := Lib.hid hT5
      clear hr5 hT5
      simp only [vCells]
      go_wp2_with fail
      refine hK.out _ _ trivial (fun hH => ?_)
      clear hK K
      try simp only [Act.put, List.setIfInBounds_toArray, List.set_cons_zero, List.set_cons_succ]
      have HYx5 : Hid (Blk w5 (w.heap.size + 1) (lCells (.slice kb k kc)) 33) := Lib.hid (HR5.out.2.blk HYx.out (Blk.lt HYx.out) hpY)
      have hw6 : Below w5.heap.size w5 (w5.alloc (.cells #[.int .i8 k1, .int .u64 k2, .bool false, .slice k3 k4 k5, .int .u64 k6, .int .i8 k7, .string (strL k8), .slice k9 k10 k11] 33)) := (Below.refl _ _).alloc (Nat.le_refl _) _
      have hZ6 := Blk.new w5 #[.int .i8 k1, .int .u64 k2, .bool false, .slice k3 k4 k5, .int .u64 k6, .int .i8 k7, .string (strL k8), .slice k9 k10 k11] 33
      have HYx6 : Hid (Blk (w5.alloc (.cells #[.int .i8 k1, .int .u64 k2, .bool false, .slice k3 k4 k5, .int .u64 k6, .int .i8 k7, .string (strL k8), .slice k9 k10 k11] 33)) (w.heap.size + 1) (lCells (.slice kb k kc)) 33) := Lib.hid (HYx5.out.below hw6 HYx5.out.lt)
      refine wpAnyH_ready (rs := [5]) (by kernel_rfl) (by simp) ?_
      refine AllReadyH.cons (o := _) rfl (fun K hK => ?_) AllReadyH.nil
      go_simp
      refine hK.out _ _ trivial (fun hH => ?_)
      clear hK K
      try simp only [Act.put, List.setIfInBounds_toArray, List.set_cons_zero, List.set_cons_succ]
      refine wpAnyH_ready (rs := [6]) (by kernel_rfl) (by simp) ?_
      refine AllReadyH.cons (o := _) rfl (fun K hK => ?_) AllReadyH.nil
      rw [if_pos (by rfl)]
      have hsz45 : w4.heap.size ≤ w5.heap.size := HR5.out.2.size
      have hks6 : KS (w.heap.size + 2) (w5.alloc (.cells #[.int .i8 k1, .int .u64 k2, .bool false, .slice k3 k4 k5, .int .u64 k6, .int .i8 k7, .string (strL k8), .slice k9 k10 k11] 33)) (.slice kb k kc) k ys fs ds := HK4.out.same (fun b hb hl => (hw6.block b (by omega)).trans (HR5.out.2.block b hl (fun e => by omega)))
      have hone6 : (#[.int .i8 k1, .int .u64 k2, .bool false, .slice k3 k4 k5, .int .u64 k6, .int .i8 k7, .string (strL k8), .slice k9 k10 k11] : Array Value).all (·.oneCell') = true := vCells_one k1 k2 false (.slice k3 k4 k5) k6 k7 (strL k8) (.slice k9 k10 k11) rfl rfl
      have HONE := Lib.hid hone6
      refine wp_append_kids (.tmp 26) (.tmp 30) rfl (w.heap.size + 2) (.slice kb k kc) k (rowL k ys) rfl hks6.own ⟨w5.heap.size, 0, none⟩ 1 1 (by omega) (#[.int .i8 k1, .int .u64 k2, .bool false, .slice k3 k4 k5, .int .u64 k6, .int .i8 k7, .string (strL k8), .slice k9 k10 k11] : Array Value).toList rfl rfl ?c1 ?c2 (by omega) ?c5 ?_
      case c1 =>
        intro j u hj
        rw [add_plain', Nat.zero_add, hZ6.cell j]
        simpa using hj
      case c2 =>
        intro u hu
        have := HONE.out
        rw [Array.all_eq_true_iff_forall_mem] at this
        exact this u (by simpa using hu)
      case c5 => simp; omega
      intro v7 w7 hown7 hgrow7 hg7
      have hlt7 : ∀ g, (Value.slice kb k kc).ownBlock = some g → g < w4.heap.size := fun g hg => (HK4.out.own.lt g hg).2
      have hge7 : ∀ g, (Value.slice kb k kc).ownBlock = some g → w.heap.size + 2 ≤ g := fun g hg => (HK4.out.own.lt g hg).1
      have HKS7 := Lib.hid (hks6.snoc (z := #[.int .i8 k1, .int .u64 k2, .bool false, .slice k3 k4 k5, .int .u64 k6, .int .i8 k7, .string (strL k8), .slice k9 k10 k11]) rfl hone6 (wa := w4.heap.size) (TreeP.same (fun b _ hl => hw6.block b hl) (fun b hb _ => hb) _ _ _ HT5.out) (by omega) hlt7 hown7 hgrow7 hg7)
      obtain ⟨g7, cp7, rfl, _⟩ := hg7
      have hlow : ∀ b, b < w.heap.size + 2 → w7.heap[b]? = w5.heap[b]? := fun b hb => (hgrow7.block b (by simp; omega) (fun e => by have := hge7 b e.symm; omega)).trans (hw6.block b (by omega))
      have hx5 := HR5.out.2.blk (HX4.out.drewN 1) (by show w.heap.size < w4.heap.size; omega) hpX
      have hy5 := HYx5.out
      have HX7 : Hid (Blk w7 w.heap.size zeroV 33) := Lib.hid (by unfold Blk at hx5 ⊢; rw [hlow _ (by omega)]; exact hx5)
      have hy7 : Blk w7 (w.heap.size + 1) (lCells (.slice kb k kc)) 33 := by unfold Blk at hy5 ⊢; rw [hlow _ (by omega)]; exact hy5
      have hr7 : Rd w7 p S (qs k) (ops k) := by have := HR5.out.1; unfold Rd Blk at this ⊢; rw [hlow _ (by omega)]; exact this
      have he7 : Ex (fun k => k = p) w.heap.size w w7 := ((HE4.out.drewN 1).trans (HR5.out.2.mono (by show w.heap.size ≤ w4.heap.size; omega) (fun _ h => h))).trans ⟨hgrow7.os.trans hw6.os, hgrow7.tape.trans hw6.tape, hgrow7.output.trans hw6.output, Nat.le_trans hw6.size hgrow7.size, fun b hb _ => hlow b (by omega)⟩
      have e7 : w7.cell? ⟨w.heap.size + 1, 7, none⟩ = some (.slice kb k kc) := hy7.cell 7
      have f7 : w7.frozen? ⟨w.heap.size + 1, 7, none⟩ = false := hy7.free 7
      have hsz7 : w.heap.size + 1 < w7.heap.size := hy7.lt
      have HY8 : Hid (Blk (w7.setCell ⟨w.heap.size + 1, 7, none⟩ (.slice (some ⟨g7, 0, none⟩) (k + 1) cp7)) (w.heap.size + 1) (lCells (.slice (some ⟨g7, 0, none⟩) (k + 1) cp7)) 33) := Lib.hid (by rw [← lCells_set]; exact hy7.set 7 _)
      have HX8 := Lib.hid (HX7.out.set_other ⟨w.heap.size + 1, 7, none⟩ (.slice (some ⟨g7, 0, none⟩) (k + 1) cp7) (by simp))
      have HR8 : Hid (Rd (w7.setCell ⟨w.heap.size + 1, 7, none⟩ (.slice (some ⟨g7, 0, none⟩) (k + 1) cp7)) p S (qs k) (ops k)) := Lib.hid (Blk.set_other hr7 _ _ (by show p ≠ w.heap.size + 1; omega))
      have HE8 := Lib.hid (he7.setCell (w.heap.size + 1) 7 (.inr (by omega)) (.slice (some ⟨g7, 0, none⟩) (k + 1) cp7))
      have HK8 : Hid (KS (w.heap.size + 2) (w7.setCell ⟨w.heap.size + 1, 7, none⟩ (.slice (some ⟨g7, 0, none⟩) (k + 1) cp7)) (.slice (some ⟨g7, 0, none⟩) (k + 1) cp7) (k + 1) (fun i => if i = k then #[.int .i8 k1, .int .u64 k2, .bool false, .slice k3 k4 k5, .int .u64 k6, .int .i8 k7, .string (strL k8), .slice k9 k10 k11] else ys i) fs ds) := Lib.hid (HKS7.out.same (fun b hb _ => Below.heap_setCell _ _ _ _ (by show b ≠ w.heap.size + 1; omega)))
      clear hown7 hgrow7 hlt7 hge7 hks6 hone6 hlow hx5 hy5 hy7 hr7 he7 hw6 hZ6 HKS7 HX7 HYx5 HYx6 HT5 HR5 HX4 HY4 HE4 HK4 HR4 HGx HRx HYx HQ HC7 hsz45 hsz4 HONE
      refine hK.out _ _ trivial (fun hH => ?_)
      clear hK K
      try simp only [Act.put, List.setIfInBounds_toArray, List.set_cons_zero, List.set_cons_succ]
      refine take_at (d := some 32) (hd := by rfl) (i := 7) (oi := _) (v := .pointer (some ⟨w.heap.size + 1, 7, none⟩)) rfl (by kernel_rfl) (by kernel_rfl) (by kernel_rfl) (fun _ _ _ h => h) (Or.inl ⟨by rfl, fun w' hSw => ?_⟩) hH ?_
      · clear hH hSw
        go_simp
      try simp only [Act.put, List.setIfInBounds_toArray, List.set_cons_zero, List.set_cons_succ]
      refine wpAnyH_ready (rs := [8]) (by kernel_rfl) (by simp) ?_
      refine AllReadyH.cons (o := _) rfl (fun K hK => ?_) AllReadyH.nil
      go_simp
      refine hK.out _ _ trivial (fun hH => ?_)
      clear hK K e7 f7
      try simp only [Act.put, List.setIfInBounds_toArray, List.set_cons_zero, List.set_cons_succ]
      refine wpAnyH_done (by kernel_rfl) ?_ _
      refine NoPanic.normal ?_
      clear hH
      generalize w7.setCell ⟨w.heap.size + 1, 7, none⟩ (.slice (some ⟨g7, 0, none⟩) (k + 1) cp7) = w8 at HX8 HY8 HR8 HE8 HK8 ⊢
      clear hsz7
      have HBT := Lib.hid (HA.out.bt k hkm)
      have hsz8 : w.heap.size + 1 < w8.heap.size := HY8.out.lt
      go_wp2_with fail
      refine (HBT.out.call hS w8 p (ops k) HR8.out).mono ?_
      rintro e w9 ⟨rfl, hr9⟩
      have HX9 := Lib.hid (hr9.2.blk HX8.out (by omega) hpX)
      have HY9 := Lib.hid (hr9.2.blk HY8.out hsz8 hpY)
      have HE9 := Lib.hid (HE8.out.trans (hr9.2.mono (by omega) (fun _ h => h)))
      have HK9 := Lib.hid (HK8.out.same (fun b hb hl => hr9.2.block b hl (fun e => by omega)))
      have HR9 := Lib.hid hr9.1
      have hsz9 : w.heap.size + 1 < w9.heap.size := HY9.out.lt
      clear hr9 HX8 HY8 HE8 HK8 HR8 hsz8 HBT
      by_cases hk1 : k + 1 < m
      · obtain ⟨hcm, hbt2, hinc⟩ := HA.out.com k hk1
        have HCM := Lib.hid hcm
        have HBT2 := Lib.hid hbt2
        have HINC := Lib.hid hinc
        have hrl := HA.out.rl k hkm
        clear hcm hbt2 hinc
        go_wp2_with fail
        refine (see_no w9 p S (rs k) (ops k) HR9.out [93] (fun _ => by rw [HCM.out]; decide)).mono ?_
        rintro e wa ⟨rfl, na, rfl⟩
        have HRa := Lib.hid (HR9.out.drewN na)
        have HXa := Lib.hid (HX9.out.drewN na)
        have HYa := Lib.hid (HY9.out.drewN na)
        have HEa := Lib.hid (HE9.out.drewN na)
        have HKa : Hid (KS _ (w9.drewN na) _ _ _ _ _) := Lib.hid (HK9.out.same (fun b _ _ => rfl))
        have hsza : w.heap.size + 1 < (w9.drewN na).heap.size := hsz9
        generalize w9.drewN na = wa at HRa HXa HYa HEa HKa hsza ⊢
        clear HR9 HX9 HY9 HE9 HK9 hsz9
        go_wp2_with fail
        refine (word_ok wa p S (rs k) (ops k) HRa.out [44] (by show rs k + 1 ≤ S.length; omega) hS (fun i hi => by
          have h0 : i = 0 := by simpa using hi
          subst h0
          exact HCM.out)).mono ?_
        rintro e wb ⟨rfl, hrb⟩
        have HXb := Lib.hid (hrb.2.blk HXa.out (by omega) hpX)
        have HYb := Lib.hid (hrb.2.blk HYa.out hsza hpY)
        have HEb := Lib.hid (HEa.out.trans (hrb.2.mono (by omega) (fun _ h => h)))
        have HKb := Lib.hid (HKa.out.same (fun b hb hl => hrb.2.block b hl (fun e => by omega)))
        have HRb : Hid (Rd wb p S (rs k + 1) (ops k)) := Lib.hid hrb.1
        have hszb : w.heap.size + 1 < wb.heap.size := HYb.out.lt
        clear hrb HRa HXa HYa HEa HKa hsza
        go_wp2_with fail
        refine (HBT2.out.call hS wb p (ops k) HRb.out).mono ?_
        rintro e wc ⟨rfl, hrc⟩
        have HXc := Lib.hid (hrc.2.blk HXb.out (by omega) hpX)
        have HYc := Lib.hid (hrc.2.blk HYb.out hszb hpY)
        have HEc := Lib.hid (HEb.out.trans (hrc.2.mono (by omega) (fun _ h => h)))
        have HKc := Lib.hid (HKb.out.same (fun b hb hl => hrc.2.block b hl (fun e => by omega)))
        have HRc := Lib.hid hrc.1
        clear hrc HRb HXb HYb HEb HKb hszb
        go_wp2
        go_roundw
        case rel => exact ⟨k + 1, ops k, _, _, hk1, HXc, HYc, HEc, HRc, HKc⟩
        case measure =>
          rw [HAT.out, HRc.out.atOf]
          have h1 := HINC.out
          have h2 := (HA.out.lt (k + 1) hk1).1
          omega
      · obtain rfl : m = k + 1 := by omega
        have HFIN := Lib.hid HA.out.fin
        simp only [Nat.add_sub_cancel] at HFIN
        have hrl := HA.out.rl k hkm
        go_wp2_with fail
        refine (see_yes w9 p S (rs k) (ops k) HR9.out [93] hrl (by rw [HFIN.out]; decide)).mono ?_
        rintro e wa ⟨rfl, na, rfl⟩
        have hra := HR9.out.drewN na
        have hxa := HX9.out.drewN na
        have hya := HY9.out.drewN na
        have hea := HE9.out.drewN na
        have hka : KS _ (w9.drewN na) _ _ _ _ _ := HK9.out.same (fun b _ _ => rfl)
        generalize w9.drewN na = wa at hra hxa hya hea hka ⊢
        clear HR9 HX9 HY9 HE9 HK9 hsz9
        obtain ⟨r', hr'⟩ : ∃ r', r' = rs k + 1 := ⟨_, rfl⟩
        have g3 : IntKind.i64.wrap ((rs k : Int) + 1) = (r' : Int) := by rw [IntWalk.i64_in _ (by omega), hr']; simp
        have c1 := hra.at1
        have f1 : wa.frozen? ⟨p, 1, none⟩ = false := Blk.free hra 1
        have hrb : Rd (wa.setCell ⟨p, 1, none⟩ (.int .i64 (r' : Int))) p S r' (ops k) := hra.set1 r'
        have hxb := hxa.set_other ⟨p, 1, none⟩ (.int .i64 (r' : Int)) hpX
        have hyb := hya.set_other ⟨p, 1, none⟩ (.int .i64 (r' : Int)) hpY
        have heb := hea.setCell p 1 (.inl rfl) (.int .i64 (r' : Int))
        have hkb := hka.same (w' := wa.setCell ⟨p, 1, none⟩ (.int .i64 (r' : Int))) (fun b hb _ => Below.heap_setCell _ _ _ _ (by show b ≠ p; omega))
        have HRP := Lib.hid hr'
        clear hr' hra hxa hya hea hka
        go_upto_region 11 with fail
        clear c1 f1 g3
        generalize wa.setCell ⟨p, 1, none⟩ (.int .i64 (r' : Int)) = wb at hrb hxb hyb heb hkb ⊢
        have c2 := hrb.at2
        have f2 : wb.frozen? ⟨p, 2, none⟩ = false := Blk.free hrb 2
        have hrc : Rd (wb.setCell ⟨p, 2, none⟩ (.bool false)) p S r' false := hrb.set2 false
        have hxc := hxb.set_other ⟨p, 2, none⟩ (.bool false) hpX
        have hyc := hyb.set_other ⟨p, 2, none⟩ (.bool false) hpY
        have hec := heb.setCell p 2 (.inl rfl) (.bool false)
        have hkc := hkb.same (w' := wb.setCell ⟨p, 2, none⟩ (.bool false)) (fun b hb _ => Below.heap_setCell _ _ _ _ (by show b ≠ p; omega))
        clear hrb hxb hyb heb hkb
        go_upto_region 12 with fail
        clear c2 f2
        generalize wb.setCell ⟨p, 2, none⟩ (.bool false) = wc at hrc hxc hyc hec hkc ⊢
        have HRc := Lib.hid hrc
        have HXc := Lib.hid hxc
        have HYc := Lib.hid hyc
        have HEc := Lib.hid hec
        have HKc := Lib.hid hkc
        clear hrc hxc hyc hec hkc
        refine wp_region_lit ?_
        refine wpList_load_row rfl 33 _ rfl (w.heap.size + 1) rfl 33 _ (0, 0) _ HYc.out Tryz.underlying33 rfl (by kernel_rfl) ?_
        unfold lCells
        refine wpList_store_row rfl 33 _ _ rfl w.heap.size (vCells 7 0 false (.slice none 0 0) 0 0 ⟨#[]⟩ (.slice (some ⟨g7, 0, none⟩) (k + 1) cp7)) rfl rfl 33 _ HXc.out (by kernel_rfl) rfl (vCells_one _ _ _ _ _ _ _ _ rfl rfl) ?_
        have HFN : Hid (Blk (wc.setRow w.heap.size (vCells 7 0 false (.slice none 0 0) 0 0 ⟨#[]⟩ (.slice (some ⟨g7, 0, none⟩) (k + 1) cp7))) w.heap.size (vCells 7 0 false (.slice none 0 0) 0 0 ⟨#[]⟩ (.slice (some ⟨g7, 0, none⟩) (k + 1) cp7)) 33) := Lib.hid (setRow_heap _ _ _ _ _ _ HXc.out)
        go_wp2
        refine bodyPost_ret (v := .agg (vCells 7 0 false (.slice none 0 0) 0 0 (strL []) (.slice (some ⟨g7, 0, none⟩) (k + 1) cp7))) (results_cell_row rfl _ _ w.heap.size 33 _ (0, 0) _ rfl HFN.out Tryz.underlying33 rfl (by kernel_rfl)) rfl ⟨?_, _, rfl, ?_⟩
        · have hh := Rs.setRow ⟨HRc.out, HEc.out⟩ (Nat.le_refl w.heap.size) hpX (vCells 7 0 false (.slice none 0 0) 0 0 ⟨#[]⟩ (.slice (some ⟨g7, 0, none⟩) (k + 1) cp7))
          rw [HRP.out] at hh
          exact hh
        · exact (HKc.out.same (fun b hb _ => setRow_other _ _ _ _ (by omega))).list (by omega) (by omega) hm3 T HTT.out d HD.out HD1.out

end Go.Proofs.YtbhfoelnoddlkaaGreatDoor.D

