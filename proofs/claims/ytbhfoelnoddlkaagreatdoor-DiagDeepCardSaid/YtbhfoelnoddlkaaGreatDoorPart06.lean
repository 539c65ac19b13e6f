/-
  Of the proof that the law DiagDeep answers true at every row of bytes: a part, without conditions of its own.
-/
import Derived.Test.YtbhfoelnoddlkaaGreatDoorPart05
import Derived.Lib.LazyBuf
set_option linter.unusedVariables false
set_option linter.unusedSimpArgs false
/-
  The closures of value.Check and value.Map; Check; Depth: walked.
-/
namespace Go.Proofs.YtbhfoelnoddlkaaGreatDoor.D
open Go Go.RowKit Limb

theorem Tree.kind {w : World} {N : Nat} {f : F} {d : Nat} {kind n : Int} {mag : Value} {bits ext : Int} {text : ByteArray} {kids : Value} (h : Tree w N f d (.agg (vCells kind n false mag bits ext text kids))) : (d = 0 ∧ kind ≠ 7 ∧ kind ≠ 8 ∧ kind ≠ 9) ∨ (0 < d ∧ (kind = 7 ∨ kind = 8 ∨ kind = 9)) := by
  cases f with
  | stop => exact h.elim
  | node t X fs =>
    obtain ⟨kind', n', mag', bits', ext', text', kids', m, hv, hf, _, hk⟩ := h
    simp only [vCells, Value.agg.injEq] at hv
    have hv0 := congrArg (fun a : Array Value => a[0]?) hv
    simp at hv0
    subst hv0
    rcases hk with ⟨rfl, rfl, rfl⟩ | ⟨h0, b, o, cap, xs, ds, _, _, _, _, _, _, i, _, hi⟩
    · exact .inl ⟨rfl, hf.leaf⟩
    · exact .inr ⟨by omega, hf.cont h0⟩

set_option maxRecDepth 100000 in
theorem check1_any (w : World) (hG : GShape w) (hC : GCtz w) (N : Nat) (f : F) (d : Nat) (v : Value) (ar : Int) (hN : N ≤ w.heap.size) (hT : Tree w N f d v) :
    Calls Tryz.prog 43 #[v, .int .i64 ar] w fun e w' => e = .returned (.bool false) ∧ Below w.heap.size w w' := by
  obtain ⟨kind, nn, mb, mn, mc, bits, ext, text, kb, kn, kc, rfl⟩ := hT.cells
  have hb : Below w.heap.size w (w.alloc (.cells (vCells kind nn false (.slice mb mn mc) bits ext (strL text) (.slice kb kn kc)) 33)) := (Below.refl _ _).alloc (Nat.le_refl _) _
  have hB := Blk.new w (vCells kind nn false (.slice mb mn mc) bits ext (strL text) (.slice kb kn kc)) 33
  have HA := Lib.hid (alone_any _ (hG.below hb hG.size) (hC.below hb hC.size) N f d _ (Tree.below (hb.mono hN) _ _ _ hT))
  have HB := Lib.hid hb
  have HBl := Lib.hid hB
  clear hG hC hT hb hB
  go_enter Tryz.func43, Tryz.ntmps43
  go_upto_region 1 with fail
  refine wp_region_lit ?_
  refine wpList_load_row rfl 33 _ rfl w.heap.size rfl 33 _ (0, 0) _ HBl.out Tryz.underlying33 rfl (by kernel_rfl) ?_
  go_wp2_with fail
  refine HA.out.mono ?_
  rintro e w1 ⟨rfl, hb1⟩
  have HB1 := Lib.hid (HB.out.trans (hb1.mono HB.out.size))
  clear hb1
  go_wp2
  go_ret
  exact ⟨rfl, HB1.out⟩
set_option maxRecDepth 100000 in
theorem map1_any (w : World) (hG : GShape w) (hC : GCtz w) (N : Nat) (f : F) (d : Nat) (v : Value) (ar : Int) (hN : N ≤ w.heap.size) (hT : Tree w N f d v) :
    Calls Tryz.prog 101 #[v, .int .i64 ar] w fun e w' => e = .returned (.bool false) ∧ Below w.heap.size w w' := by
  obtain ⟨kind, nn, mb, mn, mc, bits, ext, text, kb, kn, kc, rfl⟩ := hT.cells
  have hb : Below w.heap.size w (w.alloc (.cells (vCells kind nn false (.slice mb mn mc) bits ext (strL text) (.slice kb kn kc)) 33)) := (Below.refl _ _).alloc (Nat.le_refl _) _
  have hB := Blk.new w (vCells kind nn false (.slice mb mn mc) bits ext (strL text) (.slice kb kn kc)) 33
  have HA := Lib.hid (alone_any _ (hG.below hb hG.size) (hC.below hb hC.size) N f d _ (Tree.below (hb.mono hN) _ _ _ hT))
  have HB := Lib.hid hb
  have HBl := Lib.hid hB
  clear hG hC hT hb hB
  go_enter Tryz.func101, Tryz.ntmps101
  go_upto_region 1 with fail
  refine wp_region_lit ?_
  refine wpList_load_row rfl 33 _ rfl w.heap.size rfl 33 _ (0, 0) _ HBl.out Tryz.underlying33 rfl (by kernel_rfl) ?_
  go_wp2_with fail
  refine HA.out.mono ?_
  rintro e w1 ⟨rfl, hb1⟩
  have HB1 := Lib.hid (HB.out.trans (hb1.mono HB.out.size))
  clear hb1
  go_wp2
  go_ret
  exact ⟨rfl, HB1.out⟩
set_option maxRecDepth 100000 in
theorem check2_any (w : World) (N : Nat) (f : F) (d : Nat) (v : Value) (ar : Nat) (hT : Tree w N f d v) (hd : ar + d ≤ 128) :
    Calls Tryz.prog 45 #[v, .int .i64 (ar : Int)] w fun e w' => e = .returned (.bool false) ∧ Below w.heap.size w w' := by
  obtain ⟨kind, nn, mb, mn, mc, bits, ext, text, kb, kn, kc, rfl⟩ := hT.cells
  have hb : Below w.heap.size w (w.alloc (.cells (vCells kind nn false (.slice mb mn mc) bits ext (strL text) (.slice kb kn kc)) 33)) := (Below.refl _ _).alloc (Nat.le_refl _) _
  have hB := Blk.new w (vCells kind nn false (.slice mb mn mc) bits ext (strL text) (.slice kb kn kc)) 33
  have HB := Lib.hid hb
  have HBl := Lib.hid hB
  clear hb hB
  rcases hT.kind with ⟨_, k7, k8, k9⟩ | ⟨h0, hk⟩
  · clear hT
    have HK := Lib.hid (container_no (w.alloc (.cells (vCells kind nn false (.slice mb mn mc) bits ext (strL text) (.slice kb kn kc)) 33)) kind nn false (.slice mb mn mc) bits ext (strL text) (.slice kb kn kc) k7 k8 k9)
    clear k7 k8 k9
    go_enter Tryz.func45, Tryz.ntmps45
    go_upto_region 1 with fail
    refine wp_region_lit ?_
    refine wpList_load_row rfl 33 _ rfl w.heap.size rfl 33 _ (0, 0) _ HBl.out Tryz.underlying33 rfl (by kernel_rfl) ?_
    go_wp2_with fail
    refine HK.out.mono ?_
    rintro e w1 ⟨rfl, hb1⟩
    have HB1 := Lib.hid (HB.out.trans (hb1.mono HB.out.size))
    clear hb1
    go_wp2
    go_ret
    exact ⟨rfl, HB1.out⟩
  · clear hT
    have HK := Lib.hid (container_yes (w.alloc (.cells (vCells kind nn false (.slice mb mn mc) bits ext (strL text) (.slice kb kn kc)) 33)) kind nn false (.slice mb mn mc) bits ext (strL text) (.slice kb kn kc) hk)
    have g1 : decide ((128 : Int) ≤ (ar : Int)) = false := by simp; omega
    have g2 : decide (128 ≤ ar) = false := by simp; omega
    have g3 : ¬ (128 : Int) ≤ (ar : Int) := by omega
    clear hk
    go_enter Tryz.func45, Tryz.ntmps45
    go_upto_region 1 with fail
    refine wp_region_lit ?_
    refine wpList_load_row rfl 33 _ rfl w.heap.size rfl 33 _ (0, 0) _ HBl.out Tryz.underlying33 rfl (by kernel_rfl) ?_
    go_wp2_with fail
    refine HK.out.mono ?_
    rintro e w1 ⟨rfl, hb1⟩
    have HB1 := Lib.hid (HB.out.trans (hb1.mono HB.out.size))
    clear hb1
    go_wp2
    go_ret
    exact ⟨rfl, HB1.out⟩
set_option maxRecDepth 100000 in
theorem map2_any (w : World) (N : Nat) (f : F) (d : Nat) (v : Value) (ar : Nat) (hT : Tree w N f d v) (hd : ar + d ≤ 128) :
    Calls Tryz.prog 102 #[v, .int .i64 (ar : Int)] w fun e w' => e = .returned (.bool false) ∧ Below w.heap.size w w' := by
  obtain ⟨kind, nn, mb, mn, mc, bits, ext, text, kb, kn, kc, rfl⟩ := hT.cells
  have hb : Below w.heap.size w (w.alloc (.cells (vCells kind nn false (.slice mb mn mc) bits ext (strL text) (.slice kb kn kc)) 33)) := (Below.refl _ _).alloc (Nat.le_refl _) _
  have hB := Blk.new w (vCells kind nn false (.slice mb mn mc) bits ext (strL text) (.slice kb kn kc)) 33
  have HB := Lib.hid hb
  have HBl := Lib.hid hB
  clear hb hB
  rcases hT.kind with ⟨_, k7, k8, k9⟩ | ⟨h0, hk⟩
  · clear hT
    have HK := Lib.hid (container_no (w.alloc (.cells (vCells kind nn false (.slice mb mn mc) bits ext (strL text) (.slice kb kn kc)) 33)) kind nn false (.slice mb mn mc) bits ext (strL text) (.slice kb kn kc) k7 k8 k9)
    clear k7 k8 k9
    go_enter Tryz.func102, Tryz.ntmps102
    go_upto_region 1 with fail
    refine wp_region_lit ?_
    refine wpList_load_row rfl 33 _ rfl w.heap.size rfl 33 _ (0, 0) _ HBl.out Tryz.underlying33 rfl (by kernel_rfl) ?_
    go_wp2_with fail
    refine HK.out.mono ?_
    rintro e w1 ⟨rfl, hb1⟩
    have HB1 := Lib.hid (HB.out.trans (hb1.mono HB.out.size))
    clear hb1
    go_wp2
    go_ret
    exact ⟨rfl, HB1.out⟩
  · clear hT
    have HK := Lib.hid (container_yes (w.alloc (.cells (vCells kind nn false (.slice mb mn mc) bits ext (strL text) (.slice kb kn kc)) 33)) kind nn false (.slice mb mn mc) bits ext (strL text) (.slice kb kn kc) hk)
    have g1 : decide ((128 : Int) ≤ (ar : Int)) = false := by simp; omega
    have g2 : decide (128 ≤ ar) = false := by simp; omega
    have g3 : ¬ (128 : Int) ≤ (ar : Int) := by omega
    clear hk
    go_enter Tryz.func102, Tryz.ntmps102
    go_upto_region 1 with fail
    refine wp_region_lit ?_
    refine wpList_load_row rfl 33 _ rfl w.heap.size rfl 33 _ (0, 0) _ HBl.out Tryz.underlying33 rfl (by kernel_rfl) ?_
    go_wp2_with fail
    refine HK.out.mono ?_
    rintro e w1 ⟨rfl, hb1⟩
    have HB1 := Lib.hid (HB.out.trans (hb1.mono HB.out.size))
    clear hb1
    go_wp2
    go_ret
    exact ⟨rfl, HB1.out⟩
theorem walk_check1 (w : World) (hG : GShape w) (hC : GCtz w) (N : Nat) (f : F) (d : Nat) (v : Value) (hN : N ≤ w.heap.size) (hT : Tree w N f d v) (hd : d ≤ 128) :
    Calls Tryz.prog 42 #[v, .func (.func 43) #[] #[]] w fun e w' => e = .returned (.tuple #[.string ⟨#[]⟩, .bool false]) ∧ Below w.heap.size w w' :=
  walk_any 43 (fun _ _ => by simp [callFunc, go_sem, Tryz.func43]; rfl) w (fun f d v ar w' hb hT _ => check1_any w' (hG.below hb hG.size) (hC.below hb hC.size) w.heap.size f d v ar hb.size hT) N f d v hN hT hd
theorem walk_check2 (w : World) (N : Nat) (f : F) (d : Nat) (v : Value) (hN : N ≤ w.heap.size) (hT : Tree w N f d v) (hd : d ≤ 128) :
    Calls Tryz.prog 42 #[v, .func (.func 45) #[] #[]] w fun e w' => e = .returned (.tuple #[.string ⟨#[]⟩, .bool false]) ∧ Below w.heap.size w w' :=
  walk_any 45 (fun _ _ => by simp [callFunc, go_sem, Tryz.func45]; rfl) w (fun f d v ar w' _ hT hd => check2_any w' w.heap.size f d v ar hT hd) N f d v hN hT hd
theorem walk_map1 (w : World) (hG : GShape w) (hC : GCtz w) (N : Nat) (f : F) (d : Nat) (v : Value) (hN : N ≤ w.heap.size) (hT : Tree w N f d v) (hd : d ≤ 128) :
    Calls Tryz.prog 42 #[v, .func (.func 101) #[] #[]] w fun e w' => e = .returned (.tuple #[.string ⟨#[]⟩, .bool false]) ∧ Below w.heap.size w w' :=
  walk_any 101 (fun _ _ => by simp [callFunc, go_sem, Tryz.func101]; rfl) w (fun f d v ar w' hb hT _ => map1_any w' (hG.below hb hG.size) (hC.below hb hC.size) w.heap.size f d v ar hb.size hT) N f d v hN hT hd
theorem walk_map2 (w : World) (N : Nat) (f : F) (d : Nat) (v : Value) (hN : N ≤ w.heap.size) (hT : Tree w N f d v) (hd : d ≤ 128) :
    Calls Tryz.prog 42 #[v, .func (.func 102) #[] #[]] w fun e w' => e = .returned (.tuple #[.string ⟨#[]⟩, .bool false]) ∧ Below w.heap.size w w' :=
  walk_any 102 (fun _ _ => by simp [callFunc, go_sem, Tryz.func102]; rfl) w (fun f d v ar w' _ hT hd => map2_any w' w.heap.size f d v ar hT hd) N f d v hN hT hd
end Go.Proofs.YtbhfoelnoddlkaaGreatDoor.D

/-
  value.Check, Depth: walked.
-/
namespace Go.Proofs.YtbhfoelnoddlkaaGreatDoor.D
open Go Go.RowKit Limb

set_option maxRecDepth 100000 in
theorem check_any (w : World) (hG : GShape w) (hC : GCtz w) (N : Nat) (f : F) (d : Nat) (v : Value) (hN : N ≤ w.heap.size) (hT : Tree w N f d v) (hd : d ≤ 128) :
    Calls Tryz.prog 21 #[v] w fun e w' => e = .returned .nilIface ∧ Below w.heap.size w w' := by
  obtain ⟨kind, nn, mb, mn, mc, bits, ext, text, kb, kn, kc, rfl⟩ := hT.cells
  have hb : Below w.heap.size w (w.alloc (.cells (vCells kind nn false (.slice mb mn mc) bits ext (strL text) (.slice kb kn kc)) 33)) := (Below.refl _ _).alloc (Nat.le_refl _) _
  have hB := Blk.new w (vCells kind nn false (.slice mb mn mc) bits ext (strL text) (.slice kb kn kc)) 33
  have hG1 := hG.below hb hG.size
  have hC1 := hC.below hb hC.size
  have hT1 := Tree.below (hb.mono hN) _ _ _ hT
  have HW1 := Lib.hid (walk_check1 _ hG1 hC1 N f d _ (Nat.le_trans hN hb.size) hT1 hd)
  have HT1 := Lib.hid hT1
  have HB := Lib.hid hb
  have HBl := Lib.hid hB
  have HN := Lib.hid hN
  clear hG hC hT hb hB hG1 hC1 hT1 hN
  go_enter Tryz.func21, Tryz.ntmps21
  go_upto_region 1 with fail
  refine wp_region_lit ?_
  refine wpList_load_row rfl 33 _ rfl w.heap.size rfl 33 _ (0, 0) _ HBl.out Tryz.underlying33 rfl (by kernel_rfl) ?_
  go_wp2_with fail
  refine HW1.out.mono ?_
  rintro e w2 ⟨rfl, hb2⟩
  have HBl2 := Lib.hid (HBl.out.below hb2 HBl.out.lt)
  have HB2 := Lib.hid (HB.out.trans (hb2.mono HB.out.size))
  have HW2 := Lib.hid (walk_check2 w2 N f d _ (Nat.le_trans HN.out HB2.out.size) (Tree.below (hb2.mono (Nat.le_trans HN.out HB.out.size)) _ _ _ HT1.out) hd)
  clear hb2 HBl HB HW1
  go_upto_region 4 with fail
  refine wp_region_lit ?_
  refine wpList_load_row rfl 33 _ rfl w.heap.size rfl 33 _ (0, 0) _ HBl2.out Tryz.underlying33 rfl (by kernel_rfl) ?_
  go_wp2_with fail
  refine HW2.out.mono ?_
  rintro e w3 ⟨rfl, hb3⟩
  have HB3 := Lib.hid (HB2.out.trans (hb3.mono HB2.out.size))
  clear hb3 HW2
  go_wp2
  go_ret
  exact ⟨rfl, HB3.out⟩

set_option maxRecDepth 100000 in
set_option maxHeartbeats 1000000 in
theorem depth_any (N : Nat) : ∀ (f : F) (d : Nat) (v : Value) (w : World), N ≤ w.heap.size → d ≤ 1000 → Tree w N f d v → Calls Tryz.prog 8 #[v] w fun e w' => e = .returned (.int .i64 (d : Int)) ∧ Below w.heap.size w w' := by
  intro f
  induction f with
  | stop => intro d v w _ _ h; exact h.elim
  | node t X fs ih =>
    intro d v w hN hd hT
    have HIH := Lib.hid ih
    clear ih
    obtain ⟨kind, nn, mb, mn, mc, bits, ext, text, kb, kn, kc, rfl⟩ := hT.cells
    have hb : Below w.heap.size w (w.alloc (.cells (vCells kind nn false (.slice mb mn mc) bits ext (strL text) (.slice kb kn kc)) 33)) := (Below.refl _ _).alloc (Nat.le_refl _) _
    have hB := Blk.new w (vCells kind nn false (.slice mb mn mc) bits ext (strL text) (.slice kb kn kc)) 33
    have HB := Lib.hid hb
    have HBl := Lib.hid hB
    have HN := Lib.hid hN
    clear hb hB hN
    rcases hT.kind with ⟨rfl, k7, k8, k9⟩ | ⟨h0, hk⟩
    · clear hT
      have HK := Lib.hid (container_no (w.alloc (.cells (vCells kind nn false (.slice mb mn mc) bits ext (strL text) (.slice kb kn kc)) 33)) kind nn false (.slice mb mn mc) bits ext (strL text) (.slice kb kn kc) k7 k8 k9)
      clear k7 k8 k9
      go_enter Tryz.func8, Tryz.ntmps8
      go_upto_region 1 with fail
      refine wp_region_lit ?_
      refine wpList_load_row rfl 33 _ rfl w.heap.size rfl 33 _ (0, 0) _ HBl.out Tryz.underlying33 rfl (by kernel_rfl) ?_
      go_wp2_with fail
      refine HK.out.mono ?_
      rintro e w1 ⟨rfl, hb1⟩
      have HB1 := Lib.hid (HB.out.trans (hb1.mono HB.out.size))
      clear hb1
      go_wp2
      go_ret
      exact ⟨rfl, HB1.out⟩
    · have HK := Lib.hid (container_yes (w.alloc (.cells (vCells kind nn false (.slice mb mn mc) bits ext (strL text) (.slice kb kn kc)) 33)) kind nn false (.slice mb mn mc) bits ext (strL text) (.slice kb kn kc) hk)
      obtain ⟨kind', n', mag', bits', ext', text', kids', m, hv, hf, _, hkk⟩ := hT
      have hkids : kids' = .slice kb kn kc := by
        simp only [vCells, Value.agg.injEq] at hv
        have := congrArg (fun a : Array Value => a[7]?) hv
        simp at this
        exact this.symm
      subst hkids
      rcases hkk with ⟨_, _, rfl⟩ | ⟨hm0, b, o, cap, xs, ds, hks, hmc, hcap, hbN, hrow, hkid, hex⟩
      · omega
      · simp only [Value.slice.injEq] at hks
        obtain ⟨rfl, rfl, rfl⟩ := hks
        have HROW := Lib.hid hrow
        have HKID := Lib.hid hkid
        have HEX := Lib.hid hex
        clear hv hf hk hrow hkid hex
        go_enter Tryz.func8, Tryz.ntmps8
        go_upto_region 1 with fail
        refine wp_region_lit ?_
        refine wpList_load_row rfl 33 _ rfl w.heap.size rfl 33 _ (0, 0) _ HBl.out Tryz.underlying33 rfl (by kernel_rfl) ?_
        go_wp2_with fail
        refine HK.out.mono ?_
        rintro e w1 ⟨rfl, hb1⟩
        have hBl1 := HBl.out.below hb1 HBl.out.lt
        have HB1 := Lib.hid (HB.out.trans (hb1.mono HB.out.size))
        have c7 := hBl1.cell 7
        simp only [vCells, List.getElem?_toArray, List.getElem?_cons_zero, List.getElem?_cons_succ] at c7
        clear hb1 hBl1 HBl HB HK
        go_wp2
        go_loopw [3, 5, 12] (fun q _ i wr => ∃ (k qn : Nat), k ≤ kn ∧ i = .int .i64 k ∧ q = .int .i64 (qn : Int) ∧ qn < d ∧ Hid (∀ i, i < k → ds i ≤ qn) ∧ Hid (Below w.heap.size w wr)) (fun _ _ i _ => kn - (intOf i).toNat)
        case atStart => exact ⟨0, 0, by omega, rfl, rfl, h0, Lib.hid (fun i hi => by omega), HB1⟩
        case round =>
          clear c7
          obtain ⟨k, qn, hkm, rfl, rfl, hqd, HQ, HBr⟩ := hrel
          by_cases h1 : k < kn
          · have hTk := Tree.below (HBr.out.mono HN.out) _ _ _ (HKID.out k h1).1
            have hdk := (HKID.out k h1).2
            obtain ⟨hx8, hxc⟩ := (HROW.out.below (HBr.out.mono HN.out) hbN) k h1
            obtain ⟨kind', nn', mb', mn', mc', bits', ext', text', kb', kn', kc', hxk⟩ := hTk.cells
            have HTK := Lib.hid hTk
            simp only [Value.agg.injEq] at hxk
            rw [hxk] at hxc HTK
            have d0 := hxc 0 (by omega)
            have d1 := hxc 1 (by omega)
            have d2 := hxc 2 (by omega)
            have d3 := hxc 3 (by omega)
            have d4 := hxc 4 (by omega)
            have d5 := hxc 5 (by omega)
            have d6 := hxc 6 (by omega)
            have d7 := hxc 7 (by omega)
            simp only [vCells, List.getElem?_toArray, List.getElem?_cons_zero, List.getElem?_cons_succ, Nat.add_zero] at d0 d1 d2 d3 d4 d5 d6 d7
            clear hx8 hxc hxk hTk
            have g1 : (k : Int) < (kn : Int) := by omega
            have hby : Below wr.heap.size wr (wr.alloc (.cells (vCells kind' nn' false (.slice mb' mn' mc') bits' ext' (strL text') (.slice kb' kn' kc')) 33)) := (Below.refl _ _).alloc (Nat.le_refl _) _
            have hbl := Blk.new wr (vCells kind' nn' false (.slice mb' mn' mc') bits' ext' (strL text') (.slice kb' kn' kc')) 33
            have hNr : N ≤ wr.heap.size := Nat.le_trans HN.out HBr.out.size
            have HC := Lib.hid (HIH.out k (ds k) _ _ (Nat.le_trans hNr hby.size) (by omega) (Tree.below (hby.mono hNr) _ _ _ HTK.out))
            have HBY := Lib.hid hby
            have HBL := Lib.hid hbl
            clear hby hbl
            go_upto_region 7 with fail
            change Code.wp _ _ _ _ (wr.alloc (.cells (vCells kind' nn' false (.slice mb' mn' mc') bits' ext' (strL text') (.slice kb' kn' kc')) 33))
            clear d0 d1 d2 d3 d4 d5 d6 d7
            refine wp_region_lit ?_
            iterate 3 go_step
            refine wpList_load_row rfl 33 _ rfl wr.heap.size rfl 33 _ (0, 0) _ HBL.out Tryz.underlying33 rfl (by kernel_rfl) ?_
            go_wp2_with fail
            refine HC.out.mono ?_
            rintro e w5 ⟨rfl, hb5⟩
            have HB5 := Lib.hid (HBr.out.trans ((HBY.out.trans (hb5.mono HBY.out.size)).mono HBr.out.size))
            clear hb5 HC
            go_wp2
            go_roundw
            case rel => exact ⟨k + 1, max qn (ds k), by omega, by simp, by congr 1; omega, by omega, Lib.hid (fun i hi => by
              rcases Nat.lt_or_ge i k with h | h
              · have := HQ.out i h; omega
              · rw [show i = k by omega]; omega), HB5⟩
            case measure => simp [intOf]; omega
          · obtain rfl : k = kn := by omega
            have g1 : ¬ (k : Int) < (k : Int) := by omega
            have hqe : qn + 1 = d := by
              obtain ⟨i, hi, he⟩ := HEX.out
              have := HQ.out i hi
              omega
            have g2 : IntKind.i64.wrap ((qn : Int) + 1) = (qn : Int) + 1 := IntWalk.i64_in _ (by omega)
            have HQE := Lib.hid hqe
            clear hqe
            go_wp2
            go_ret
            refine ⟨?_, HBr.out⟩
            rw [← HQE.out]; simp
end Go.Proofs.YtbhfoelnoddlkaaGreatDoor.D

/-
  slices.Clone of limbs and of values: walked.
-/
namespace Go.Proofs.YtbhfoelnoddlkaaGreatDoor.D
open Go Go.RowKit Limb

theorem add_plain' (b o j : Nat) : (⟨b, o, none⟩ : Addr).add j = ⟨b, o + j, none⟩ := by unfold Addr.add; split <;> simp_all
theorem ucell_at (l : List Nat) (j : Nat) (u : Value) (h : (l.map uCell)[j]? = some u) : j < l.length ∧ u = .int .u32 (l.getD j 0 : Nat) := by
  rw [List.getElem?_map] at h
  rcases Nat.lt_or_ge j l.length with h1 | h1
  · rw [List.getElem?_eq_getElem h1] at h
    refine ⟨h1, ?_⟩
    rw [List.getD_eq_getElem?_getD, List.getElem?_eq_getElem h1]
    exact (by simpa [uCell] using h.symm)
  · rw [List.getElem?_eq_none h1] at h; cases h

/-- What a new slice of limbs is. -/
def NewLimbs (B : Nat) (w : World) (v : Value) (l : List Nat) : Prop := Limbs w v l ∧ ∀ b o k c, v = .slice (some ⟨b, o, none⟩) k c → B ≤ b
set_option maxRecDepth 100000 in
theorem clone_nat (w : World) (v : Value) (l : List Nat) (h : Limbs w v l) (hl : l.length ≤ 34359738368) :
    Calls Tryz.prog 154 #[v] w fun e w' => Below w.heap.size w w' ∧ ∃ v', e = .returned v' ∧ NewLimbs w.heap.size w' v' l ∧ (v = .slice none 0 0 → v' = .slice none 0 0) := by
  have hnil := fun (w : World) (a : Option Addr) (n c : Nat) => Go.run_eql_slice_nil (P := Tryz.prog) w 28 140 a n c Tryz.underlying28
  obtain ⟨hf, ⟨rfl, rfl⟩ | ⟨blk, off, cap, rfl, h1, h2, h3, h4⟩⟩ := h
  · go_enter Tryz.func154, Tryz.ntmps154
    go_wp2
    go_ret
    exact ⟨Below.refl _ _, _, rfl, ⟨Limbs.nil _, fun b o k c e => by simp at e⟩, fun _ => rfl⟩
  · obtain ⟨i0, hi0, hz0, hs0, hb0⟩ := info32'
    have HI0 := Lib.hid hi0
    have HZ0 := Lib.hid hz0
    have HS0 := Lib.hid hs0
    have HB0 := Lib.hid hb0
    have H4 := Lib.hid h4
    clear hi0 hz0 hs0 hb0 h4
    go_enter Tryz.func154, Tryz.ntmps154
    go_upto_region 3 with fail
    refine wp_region_lit ?_
    iterate 6 go_step
    refine wpList_append_own _ rfl (.tmp 5) (.tmp 6) 28 rfl w.heap.size 140 i0 (.int .u32 0) 1 4 Tryz.underlying28 HI0.out HZ0.out HS0.out HB0.out rfl (by decide) (.slice (some ⟨w.heap.size, 0, none⟩) 0 0) 0 [] rfl (World.ownsRow_made w #[] 0 (Nat.le_refl _) (by decide) (by rfl)) ⟨blk, off, none⟩ l.length cap (l.map uCell) rfl (by simp) ?c1 (uCell_one l) ?c3 ?c4 ?c5 ?_
    case c1 =>
      intro j u hj
      obtain ⟨hjl, rfl⟩ := ucell_at l j u hj
      rw [add_plain']
      have := ((Below.refl w.heap.size w).alloc (Nat.le_refl _) (.cells #[] 140)).cell (p := ⟨blk, off + j, none⟩) h3
      rw [this]
      exact H4.out j hjl
    case c3 => unfold maxLen; omega
    case c4 => omega
    case c5 => simp
    intro v' w1 hown hgrow _
    have hb : Below w.heap.size w w1 := ((Below.refl w.heap.size w).alloc (Nat.le_refl _) (.cells #[] 140)).trans
      ⟨hgrow.os, hgrow.tape, hgrow.output, hgrow.size, fun k hk => hgrow.block k (by simp; omega) (fun e => by simp [Value.ownBlock] at e; omega)⟩
    have hfin : NewLimbs w.heap.size w1 v' l := by
      obtain ⟨hlen, ⟨rfl, h0⟩ | ⟨g, cp, cur, rfl, hg, hc, hle, hm, hsz, htk⟩⟩ := hown
      · rw [Nat.zero_add] at h0
        have : l = [] := List.eq_nil_of_length_eq_zero h0
        subst this
        exact ⟨Limbs.nil _, fun b o k c e => by simp at e⟩
      · refine ⟨⟨hf, .inr ⟨g, 0, cp, by rw [Nat.zero_add], by omega, by unfold maxLen at hm; omega, (Array.getElem?_eq_some_iff.1 hc).1, fun i hi => ?_⟩⟩, fun b o k c e => by simp only [Value.slice.injEq, Option.some.injEq, Addr.mk.injEq] at e; omega⟩
        have : w1.cell? ⟨g, 0 + i, none⟩ = cur[i]? := by rw [Nat.zero_add]; simp [World.cell?, hc]
        rw [this, ← Array.getElem?_toList]
        have h9 : (cur.toList.take ((0 + l.length) * 1))[i]? = (l.map uCell)[i]? := by rw [htk]; rfl
        rw [List.getElem?_take, if_pos (by omega)] at h9
        rw [h9, List.getElem?_map, List.getElem?_eq_getElem hi, List.getD_eq_getElem?_getD, List.getElem?_eq_getElem hi]
        rfl
    have HF := Lib.hid hfin
    have HB := Lib.hid hb
    clear hown hgrow hfin hb hnil
    go_wp2
    go_ret
    exact ⟨HB.out, v', rfl, HF.out, fun e => by simp at e⟩
end Go.Proofs.YtbhfoelnoddlkaaGreatDoor.D

/-
  slices.Clone of values: walked.
-/
namespace Go.Proofs.YtbhfoelnoddlkaaGreatDoor.D
open Go Go.RowKit Limb

theorem info31 : (Tryz.prog.info? 33).map (fun i => (i.zero, i.size, i.bytes)) = some (some (.agg #[.int .i8 0, .int .u64 0, .bool false, .slice none 0 0, .int .u64 0, .int .i8 0, .string ⟨#[]⟩, .slice none 0 0]), 8, 104) := by kernel_rfl
theorem info31' : ∃ i, Tryz.prog.info? 33 = some i ∧ i.zero = some (.agg #[.int .i8 0, .int .u64 0, .bool false, .slice none 0 0, .int .u64 0, .int .i8 0, .string ⟨#[]⟩, .slice none 0 0]) ∧ i.size = 8 ∧ i.bytes = 104 := by
  have hinfo := info31
  cases hq : Tryz.prog.info? 33 with
  | none => rw [hq] at hinfo; cases hinfo
  | some i =>
    rw [hq] at hinfo
    simp only [Option.map_some, Option.some.injEq, Prod.mk.injEq] at hinfo
    exact ⟨i, rfl, hinfo⟩
/-- The cells of m values, one behind the other. -/
def rowL (m : Nat) (xs : Nat → Array Value) : List Value := (List.range (m * 8)).map (fun j => (xs (j / 8)).getD (j % 8) undef)
theorem rowL_at (m : Nat) (xs : Nat → Array Value) (j : Nat) (h : j < m * 8) : (rowL m xs)[j]? = some ((xs (j / 8)).getD (j % 8) undef) := by
  unfold rowL; rw [List.getElem?_map, List.getElem?_range h]; rfl
theorem rowL_length (m : Nat) (xs : Nat → Array Value) : (rowL m xs).length = m * 8 := by simp [rowL]
theorem getD_some (c : Array Value) (j : Nat) (h : j < c.size) : c[j]? = some (c.getD j undef) := by
  rw [Array.getElem?_eq_getElem h]; simp [Array.getD, h]
def OneRow (m : Nat) (xs : Nat → Array Value) : Prop := ∀ i, i < m → ∀ j, j < 8 → ((xs i).getD j undef).oneCell' = true
theorem rowL_one {m : Nat} {xs : Nat → Array Value} (h : OneRow m xs) : ∀ u ∈ rowL m xs, u.oneCell' = true := by
  intro u hu
  unfold rowL at hu
  obtain ⟨j, hj, rfl⟩ := List.mem_map.1 hu
  have := List.mem_range.1 hj
  exact h (j / 8) (by omega) (j % 8) (by omega)
theorem VRow.cell {w : World} {b o m : Nat} {xs : Nat → Array Value} (h : VRow w b o m xs) (j : Nat) (hj : j < m * 8) : w.cell? ⟨b, o + j, none⟩ = some ((xs (j / 8)).getD (j % 8) undef) := by
  obtain ⟨h8, hc⟩ := h (j / 8) (by omega)
  have := hc (j % 8) (by omega)
  rw [show o + j / 8 * 8 + j % 8 = o + j by omega] at this
  rw [this, getD_some _ _ (by omega)]
theorem vrow_of {w : World} {g m : Nat} {cur : Array Value} {t : TypeId} {xs : Nat → Array Value} (hc : w.heap[g]? = some (.cells cur t (0, 0))) (hx : ∀ i, i < m → (xs i).size = 8) (h : cur.toList.take (m * 8) = rowL m xs) : VRow w g 0 m xs := by
  intro i hi
  refine ⟨hx i hi, fun j hj => ?_⟩
  have e : w.cell? ⟨g, 0 + i * 8 + j, none⟩ = cur[i * 8 + j]? := by rw [Nat.zero_add]; simp [World.cell?, hc]
  rw [e, ← Array.getElem?_toList]
  have h9 : (cur.toList.take (m * 8))[i * 8 + j]? = (rowL m xs)[i * 8 + j]? := by rw [h]
  rw [List.getElem?_take, if_pos (by omega), rowL_at _ _ _ (by omega)] at h9
  rw [h9, show (i * 8 + j) / 8 = i by omega, show (i * 8 + j) % 8 = j by omega, getD_some _ _ (by rw [hx i hi]; exact hj)]

/-- A new row of values, which may be written. -/
def NewRow (B : Nat) (w : World) (v : Value) (m : Nat) (xs : Nat → Array Value) : Prop := ∃ g cp cur, v = .slice (some ⟨g, 0, none⟩) m cp ∧ B ≤ g ∧ Blk w g cur 33 ∧ m ≤ cp ∧ cp ≤ maxLen ∧ cur.size = cp * 8 ∧ cur.toList.take (m * 8) = rowL m xs
set_option maxRecDepth 100000 in
theorem clone_vals (w : World) (b o m cap : Nat) (xs : Nat → Array Value) (h3 : b < w.heap.size) (hm : m ≤ 1048576) (h : VRow w b o m xs) (h1 : OneRow m xs) :
    Calls Tryz.prog 155 #[.slice (some ⟨b, o, none⟩) m cap] w fun e w' => Below w.heap.size w w' ∧ ∃ v', e = .returned v' ∧ NewRow w.heap.size w' v' m xs := by
  have hnil := fun (w : World) (a : Option Addr) (n c : Nat) => Go.run_eql_slice_nil (P := Tryz.prog) w 31 33 a n c Tryz.underlying31
  obtain ⟨i0, hi0, hz0, hs0, hb0⟩ := info31'
  have HI0 := Lib.hid hi0
  have HZ0 := Lib.hid hz0
  have HS0 := Lib.hid hs0
  have HB0 := Lib.hid hb0
  have H := Lib.hid h
  have H1 := Lib.hid h1
  clear hi0 hz0 hs0 hb0 h h1
  go_enter Tryz.func155, Tryz.ntmps155
  go_upto_region 3 with fail
  refine wp_region_lit ?_
  iterate 6 go_step
  refine wpList_append_own _ rfl (.tmp 5) (.tmp 6) 31 rfl w.heap.size 33 i0 _ 8 104 Tryz.underlying31 HI0.out HZ0.out HS0.out HB0.out rfl (by decide) (.slice (some ⟨w.heap.size, 0, none⟩) 0 0) 0 [] rfl (World.ownsRow_made w #[] 0 (Nat.le_refl _) (by decide) (by rfl)) ⟨b, o, none⟩ m cap (rowL m xs) rfl (rowL_length m xs) ?c1 (rowL_one H1.out) ?c3 ?c4 ?c5 ?_
  case c1 =>
    intro j u hj
    have hjl : j < m * 8 := by
      rcases Nat.lt_or_ge j (m * 8) with h | h
      · exact h
      · rw [List.getElem?_eq_none (by rw [rowL_length]; exact h)] at hj; cases hj
    rw [rowL_at _ _ _ hjl] at hj
    rw [add_plain', ((Below.refl w.heap.size w).alloc (Nat.le_refl _) (.cells #[] 33)).cell (p := ⟨b, o + j, none⟩) h3, H.out.cell j hjl]
    exact hj
  case c3 => unfold maxLen; omega
  case c4 => omega
  case c5 => simp
  intro v' w1 hown hgrow hnn
  have hb : Below w.heap.size w w1 := ((Below.refl w.heap.size w).alloc (Nat.le_refl _) (.cells #[] 33)).trans
    ⟨hgrow.os, hgrow.tape, hgrow.output, hgrow.size, fun k hk => hgrow.block k (by simp; omega) (fun e => by simp [Value.ownBlock] at e; omega)⟩
  have hfin : NewRow w.heap.size w1 v' m xs := by
    obtain ⟨hlen, ⟨rfl, h0⟩ | ⟨g, cp, cur, rfl, hg, hc, hle, hm, hsz, htk⟩⟩ := hown
    · have := (hnn.1 rfl).1; simp at this
    · rw [Nat.zero_add] at hle htk
      exact ⟨g, cp, cur, by rw [Nat.zero_add], hg, hc, hle, hm, hsz, htk⟩
  have HF := Lib.hid hfin
  have HB := Lib.hid hb
  clear hown hgrow hfin hb hnil hnn
  go_wp2
  go_ret
  exact ⟨HB.out, v', rfl, HF.out⟩
end Go.Proofs.YtbhfoelnoddlkaaGreatDoor.D

