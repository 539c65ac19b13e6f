/-
  Of the proof that the law DiagDeep answers true at every row of bytes: a part, without conditions of its own.
-/
import Derived.Test.YtbhfoelnoddlkaaGreatDoorPart04
import Derived.Laws.AppendOwn
import Derived.Laws.EntriesVeiled
set_option linter.unusedVariables false
set_option linter.unusedSimpArgs false
/-
  value.walk: what is gone through: the closure visit.
-/
namespace Go.Proofs.YtbhfoelnoddlkaaGreatDoor.D
open Go Go.RowKit Limb

/-- The steps' variable holds a list of so many numbers, which the call owns. -/
def Steps (w : World) (N n : Nat) : Prop := ∃ v xs, w.cell? ⟨N + 2, 0, none⟩ = some v ∧ w.frozen? ⟨N + 2, 0, none⟩ = false ∧ w.ownsRow (N + 4) 3 1 v n xs
/-- The memory of a walk: from block N on: the value, what is asked, the steps, the closure. -/
structure WM (w : World) (N : Nat) (fw : FuncId) (n : Nat) : Prop where
  size : N + 4 ≤ w.heap.size
  wrong : w.cell? ⟨N + 1, 0, none⟩ = some (.func (.func fw) #[] #[])
  visit : w.cell? ⟨N + 3, 0, none⟩ = some (.func (.func 83) #[] #[.pointer (some ⟨N + 1, 0, none⟩), .pointer (some ⟨N + 2, 0, none⟩), .pointer (some ⟨N + 3, 0, none⟩)])
  steps : Steps w N n

theorem Steps.below {w w' : World} {N n : Nat} (h : Steps w N n) (hb : Below w.heap.size w w') (hs : N + 2 < w.heap.size) : Steps w' N n := by
  obtain ⟨v, xs, h1, h2, h3⟩ := h
  refine ⟨v, xs, ?_, ?_, ?_⟩
  · rw [hb.cell (p := ⟨N + 2, 0, none⟩) hs]; exact h1
  · rw [hb.frozen (p := ⟨N + 2, 0, none⟩) hs]; exact h2
  · obtain ⟨hl, h | ⟨g, cap, cur, hv, hg, hc, r⟩⟩ := h3
    · exact ⟨hl, .inl h⟩
    · exact ⟨hl, .inr ⟨g, cap, cur, hv, hg, by rw [hb.block g (Array.getElem?_eq_some_iff.1 hc).1]; exact hc, r⟩⟩
theorem info3 : (Tryz.prog.info? 3).map (fun i => (i.zero, i.size, i.bytes)) = some (some (.int .i64 0), 1, 8) := by kernel_rfl
theorem info3' : ∃ i, Tryz.prog.info? 3 = some i ∧ i.zero = some (.int .i64 0) ∧ i.size = 1 ∧ i.bytes = 8 := by
  have hinfo := info3
  cases hq : Tryz.prog.info? 3 with
  | none => rw [hq] at hinfo; cases hinfo
  | some i =>
    rw [hq] at hinfo
    simp only [Option.map_some, Option.some.injEq, Prod.mk.injEq] at hinfo
    exact ⟨i, rfl, hinfo⟩
theorem grown_ex {w w' : World} {N : Nat} {row : Option Nat} (h : w.grownBy w' row) (hs : N + 4 ≤ w.heap.size) (hr : ∀ k, row = some k → N + 4 ≤ k) : Ex (fun k => k = N + 2) (N + 4) w w' :=
  ⟨h.os, h.tape, h.output, h.size, fun k hk _ => h.block k (by omega) (fun e => by have := hr k e.symm; omega)⟩
theorem owns_slice {w : World} {base size n : Nat} {e : TypeId} {v : Value} {xs : List Value} (h : w.ownsRow base e size v n xs) : ∃ b c, v = .slice b n c := by
  obtain ⟨_, ⟨rfl, rfl⟩ | ⟨g, cap, cur, rfl, _⟩⟩ := h <;> exact ⟨_, _, rfl⟩
theorem owns_set {w : World} {base n : Nat} {e : TypeId} {v : Value} {xs : List Value} (h : w.ownsRow base e 1 v n xs) (k i : Nat) (hk : k < base) (u : Value) : (w.setCell ⟨k, i, none⟩ u).ownsRow base e 1 v n xs := by
  obtain ⟨hl, h | ⟨g, cap, cur, hv, hg, hc, r⟩⟩ := h
  · exact ⟨hl, .inl h⟩
  · refine ⟨hl, .inr ⟨g, cap, cur, hv, hg, ?_, r⟩⟩
    rw [Below.heap_setCell _ _ _ _ (by simp; omega)]; exact hc
theorem owns_drop {w : World} {base n : Nat} {e : TypeId} {b : Option Addr} {c : Nat} {xs : List Value} (h : w.ownsRow base e 1 (.slice b (n + 1) c) (n + 1) xs) : n ≤ c ∧ c ≤ maxLen ∧ (∃ g, b = some ⟨g, 0, none⟩) ∧ ∃ ys, w.ownsRow base e 1 (.slice b n c) n ys := by
  obtain ⟨hl, ⟨h, _⟩ | ⟨g, cap, cur, hv, hg, hc, h1, h2, h3, h4⟩⟩ := h
  · simp only [Value.slice.injEq] at h; omega
  · simp only [Value.slice.injEq] at hv
    obtain ⟨rfl, -, rfl⟩ := hv
    refine ⟨by omega, h2, ⟨g, rfl⟩, cur.toList.take (n * 1), ?_, .inr ⟨g, c, cur, rfl, hg, hc, by omega, h2, h3, rfl⟩⟩
    rw [List.length_take]
    have : cur.toList.length = cur.size := by simp
    omega
theorem WM.below {w w' : World} {N n : Nat} {fw : FuncId} (h : WM w N fw n) (hb : Below w.heap.size w w') : WM w' N fw n :=
  ⟨Nat.le_trans h.size hb.size, by rw [hb.cell (p := ⟨N + 1, 0, none⟩) (by have := h.size; simp; omega)]; exact h.wrong, by rw [hb.cell (p := ⟨N + 3, 0, none⟩) (by have := h.size; simp; omega)]; exact h.visit, h.steps.below hb (by have := h.size; omega)⟩

theorem Fine.mag {w : World} {N : Nat} {kind n : Int} {mag : Value} {bits ext : Int} {text : List UInt8} {m X : Nat} (h : Fine w N kind n mag bits ext text m X) : ∃ b k c, mag = .slice b k c := by
  obtain ⟨_, ⟨_, _, h, _⟩ | ⟨_, _, _, _, _, x, _, h, _⟩ | ⟨_, _, h, _⟩ | ⟨_, _, h, _⟩ | ⟨_, _, h, _⟩ | ⟨_, _, h, _⟩ | ⟨_, _, h, _⟩⟩ := h
  · exact ⟨_, _, _, h⟩
  · obtain ⟨b, c, h⟩ := h.slice; exact ⟨_, _, _, h⟩
  all_goals exact ⟨_, _, _, h⟩
/-- The cells of a tree's top, its slices told. -/
theorem Tree.cells {w : World} {N : Nat} {f : F} {d : Nat} {v : Value} (h : Tree w N f d v) : ∃ (kind n : Int) (mb : Option Addr) (mn mc : Nat) (bits ext : Int) (text : List UInt8) (kb : Option Addr) (kn kc : Nat), v = .agg (vCells kind n false (.slice mb mn mc) bits ext (strL text) (.slice kb kn kc)) := by
  cases f with
  | stop => exact h.elim
  | node t X fs =>
    obtain ⟨kind, n, mag, bits, ext, text, kids, m, rfl, hf, _, hk⟩ := h
    obtain ⟨mb, mn, mc, rfl⟩ := hf.mag
    rcases hk with ⟨_, rfl, _⟩ | ⟨_, b, o, cap, xs, ds, rfl, _⟩
    · exact ⟨_, _, _, _, _, _, _, _, _, _, _, rfl⟩
    · exact ⟨_, _, _, _, _, _, _, _, _, _, _, rfl⟩
theorem Fine.leaf {w : World} {N : Nat} {kind n : Int} {mag : Value} {bits ext : Int} {text : List UInt8} {X : Nat} (h : Fine w N kind n mag bits ext text 0 X) : kind ≠ 7 ∧ kind ≠ 8 ∧ kind ≠ 9 := by
  obtain ⟨_, h | h | h | h | h | h | h⟩ := h <;> obtain ⟨rfl, h⟩ := h <;> first | (refine ⟨?_, ?_, ?_⟩ <;> decide) | (exfalso; omega) | skip
  all_goals (exfalso; obtain ⟨_, _, _, _, h⟩ := h; omega)
theorem Fine.cont {w : World} {N : Nat} {kind n : Int} {mag : Value} {bits ext : Int} {text : List UInt8} {m X : Nat} (h : Fine w N kind n mag bits ext text m X) (hm : 0 < m) : kind = 7 ∨ kind = 8 ∨ kind = 9 := by
  obtain ⟨_, ⟨_, _, _, _, _, h⟩ | ⟨_, _, _, _, h, _⟩ | ⟨_, _, _, _, _, h⟩ | ⟨_, _, _, _, _, h⟩ | ⟨h, _⟩ | ⟨h, _⟩ | ⟨h, _⟩⟩ := h
  · omega
  · omega
  · omega
  · omega
  · exact .inl h
  · exact .inr (.inl h)
  · exact .inr (.inr h)

set_option maxRecDepth 100000 in
set_option maxHeartbeats 2000000 in
theorem visit_any (N : Nat) (fw : FuncId) (hfw : ∀ (args : Array Value) (w : World), (callFunc fw args).run Tryz.prog w = .ok (.enter fw args) w) (w0 : World) (hw : ∀ (f : F) (d : Nat) (v : Value) (ar : Nat) (w : World), Below N w0 w → Tree w N f d v → ar + d ≤ 128 → Calls Tryz.prog fw #[v, .int .i64 (ar : Int)] w fun e w' => e = .returned (.bool false) ∧ Below w.heap.size w w') :
    ∀ (f : F) (d : Nat) (v : Value) (ar : Nat) (w : World) (n : Nat), Below N w0 w → Tree w N f d v → ar + d ≤ 128 → n + d ≤ 128 → WM w N fw n →
      Calls Tryz.prog 83 #[v, .int .i64 (ar : Int), .pointer (some ⟨N + 1, 0, none⟩), .pointer (some ⟨N + 2, 0, none⟩), .pointer (some ⟨N + 3, 0, none⟩)] w fun e w' => e = .returned (.bool false) ∧ WM w' N fw n ∧ Ex (fun k => k = N + 2) (N + 4) w w' := by
  intro f
  induction f with
  | stop => intro d v ar w n _ h; exact h.elim
  | node t X0 fs ih =>
    intro d v ar w n h00 hT hd hn hM
    have H00 := Lib.hid h00
    clear h00
    have HIH := Lib.hid ih
    have HW := Lib.hid (hw (.node t X0 fs) d v ar)
    have HT := Lib.hid hT
    clear ih hw
    obtain ⟨kind, nn, mag, bits, ext, text, kids, m, rfl, hf, _, hk⟩ := hT
    have HF := Lib.hid hf
    have HK := Lib.hid hk
    have HM := Lib.hid hM
    clear hf hk hM
    obtain ⟨X, hX⟩ : ∃ X, X = w.heap.size := ⟨_, rfl⟩
    have hXs : N + 4 ≤ X := by rw [hX]; exact HM.out.size
    have hbx : Below w.heap.size w (w.alloc (.cells (vCells kind nn false mag bits ext (strL text) kids) 33)) := (Below.refl _ _).alloc (Nat.le_refl _) _
    have hbl := Blk.new w (vCells kind nn false mag bits ext (strL text) kids) 33
    have hsz : (w.alloc (.cells (vCells kind nn false mag bits ext (strL text) kids) 33)).heap.size = X + 1 := by rw [hX]; simp
    rw [← hX] at hbl
    have HX := Lib.hid hX
    have hM1 := HM.out.below hbx
    have HBX := Lib.hid hbx
    have HT1 := Lib.hid (Tree.below (hbx.mono (by have := HM.out.size; omega)) _ _ _ HT.out)
    clear hX hbx HM HT
    go_enter Tryz.func83, Tryz.ntmps83
    go_upto_region 1 with fail
    change Code.wp _ _ _ _ (w.alloc (.cells (vCells kind nn false mag bits ext (strL text) kids) 33))
    rw [← HX.out]
    generalize w.alloc (.cells (vCells kind nn false mag bits ext (strL text) kids) 33) = w1 at hbl hsz hM1 HBX HT1 ⊢
    have c1 := hM1.wrong
    have HM1 := Lib.hid hM1
    have HSZ := Lib.hid hsz
    have HBL := Lib.hid hbl
    clear hM1 hsz hbl
    go_upto_region 1 with fail
    refine wp_region_lit ?_
    iterate 3 go_step
    refine wpList_load_row rfl 33 _ rfl X rfl 33 _ (0, 0) _ HBL.out Tryz.underlying33 rfl (by kernel_rfl) ?_
    go_wp2_with fail
    refine (HW.out _ (H00.out.trans (HBX.out.mono (by rw [← HX.out]; omega))) HT1.out hd).mono ?_
    rintro e w2 ⟨rfl, hb2⟩
    have HM2 := Lib.hid (HM1.out.below hb2)
    have HBL2 := Lib.hid (HBL.out.below hb2 HBL.out.lt)
    have HT2 := Lib.hid (Tree.below (hb2.mono (by rw [HSZ.out]; omega)) _ _ _ HT1.out)
    have HB2 := Lib.hid (HBX.out.trans (hb2.mono HBX.out.size))
    have HK2 : Hid (Ex (fun k => k = N + 2) (N + 4) w w2) := Lib.hid ((Ex.of_below HB2.out).mono (by rw [← HX.out]; exact hXs) (fun _ h => h))
    clear hb2 HM1 HBL HT1 HSZ HBX c1 HW
    rcases HK.out with ⟨rfl, rfl, rfl⟩ | ⟨h0, b, o, cap, xs, ds, rfl, hmc, hcap, hbN, hrow, hkid, hex⟩
    · obtain ⟨k7, k8, k9⟩ := HF.out.leaf
      clear HK
      go_upto_region 3 with fail
      refine wp_region_lit ?_
      refine wpList_load_row rfl 33 _ rfl X rfl 33 _ (0, 0) _ HBL2.out Tryz.underlying33 rfl (by kernel_rfl) ?_
      go_wp2_with fail
      refine (container_no w2 kind nn false mag bits ext (strL text) _ k7 k8 k9).mono ?_
      rintro e w3 ⟨rfl, hb3⟩
      have hBL3 := HBL2.out.below hb3 HBL2.out.lt
      have HM3 := Lib.hid (HM2.out.below hb3)
      have HK3 : Hid (Ex (fun k => k = N + 2) (N + 4) w w3) := Lib.hid (HK2.out.trans ((Ex.of_below hb3).mono (by have := HM2.out.size; omega) (fun _ h => h)))
      have c7 := hBL3.cell 7
      simp only [vCells, List.getElem?_toArray, List.getElem?_cons_zero, List.getElem?_cons_succ] at c7
      clear hb3 hBL3 HM2 HBL2 HT2 HB2 HK2 k7 k8 k9
      go_wp2
      go_loopw [8, 9, 21] (fun _ _ i wr => i = .int .i64 0 ∧ wr = w3) (fun _ _ _ _ => 0)
      case atStart => exact ⟨rfl, rfl⟩
      case round =>
        obtain ⟨rfl, rfl⟩ := hrel
        go_wp2
        go_ret
        exact ⟨rfl, HM3.out, HK3.out⟩
    · have hcont := HF.out.cont h0
      clear hex
      have HROW : Hid (VRow w2 b o m xs) := Lib.hid (hrow.below (N := N) (HB2.out.mono (by rw [← HX.out]; omega)) hbN)
      have HKID : Hid (∀ i, i < m → Tree w2 N (fs i) (ds i) (.agg (xs i)) ∧ ds i < d) := Lib.hid (fun i hi => ⟨Tree.below (HB2.out.mono (by rw [← HX.out]; omega)) _ _ _ (hkid i hi).1, (hkid i hi).2⟩)
      clear HK hrow hkid
      go_upto_region 3 with fail
      refine wp_region_lit ?_
      refine wpList_load_row rfl 33 _ rfl X rfl 33 _ (0, 0) _ HBL2.out Tryz.underlying33 rfl (by kernel_rfl) ?_
      go_wp2_with fail
      refine (container_yes w2 kind nn false mag bits ext (strL text) _ hcont).mono ?_
      rintro e w3 ⟨rfl, hb3⟩
      have hBL3 := HBL2.out.below hb3 HBL2.out.lt
      have HM3 := Lib.hid (HM2.out.below hb3)
      have hs2 := HM2.out.size
      have HK3 : Hid (Ex (fun k => k = N + 2) (N + 4) w w3) := Lib.hid (HK2.out.trans ((Ex.of_below hb3).mono (by omega) (fun _ h => h)))
      have HROW3 := Lib.hid (HROW.out.below (hb3.mono (show N ≤ _ by omega)) hbN)
      have HKID3 : Hid (∀ i, i < m → Tree w3 N (fs i) (ds i) (.agg (xs i)) ∧ ds i < d) := Lib.hid (fun i hi => ⟨Tree.below (hb3.mono (by omega)) _ _ _ (HKID.out i hi).1, (HKID.out i hi).2⟩)
      have c7 := hBL3.cell 7
      simp only [vCells, List.getElem?_toArray, List.getElem?_cons_zero, List.getElem?_cons_succ] at c7
      have gar : IntKind.i64.wrap ((ar : Int) + 1) = (ar : Int) + 1 := IntWalk.i64_in _ (by omega)
      clear hb3 hBL3 HM2 HBL2 HT2 HB2 HK2 hcont HF HROW HKID
      go_wp2
      go_loopw [8, 9, 21] (fun _ _ i wr => ∃ k : Nat, k ≤ m ∧ i = .int .i64 k ∧ Hid (WM wr N fw n) ∧ Hid (Ex (fun k => k = N + 2) (N + 4) w3 wr)) (fun _ _ i _ => m - (intOf i).toNat)
      case atStart => exact ⟨0, by omega, rfl, HM3, Lib.hid (Ex.refl _ _ _)⟩
      case round =>
        clear c7 gar
        obtain ⟨k, hkm, rfl, HMr, HEr⟩ := hrel
        by_cases h1 : k < m
        · have hbb : Below N w3 wr := HEr.out.below (by omega) (fun j (hj : j = N + 2) => by omega)
          have hTk := Tree.below hbb _ _ _ (HKID3.out k h1).1
          have hdk := (HKID3.out k h1).2
          obtain ⟨hx8, hxc⟩ := (HROW3.out.below hbb hbN) k h1
          have HTK := Lib.hid hTk
          obtain ⟨kind', nn', mb', mn', mc', bits', ext', text', kb', kn', kc', hxk⟩ := hTk.cells
          simp only [Value.agg.injEq] at hxk
          rw [hxk] at hxc HTK
          have d0 := hxc 0 (by omega)
          have d1 := hxc 1 (by omega)
          have d2 := hxc 2 (by omega)
          have d3 := hxc 3 (by omega)
          have d4 := hxc 4 (by omega)
          have d5 := hxc 5 (by omega)
          have d6 := hxc 6 (by omega)
          have d7 := hxc 7 (by omega)
          simp only [vCells, List.getElem?_toArray, List.getElem?_cons_zero, List.getElem?_cons_succ, Nat.add_zero] at d0 d1 d2 d3 d4 d5 d6 d7
          clear hx8 hxc hxk hbb hTk
          have g1 : (k : Int) < (m : Int) := by omega
          go_upto_region 8 with fail
          obtain ⟨Y, hY⟩ : ∃ Y, Y = wr.heap.size := ⟨_, rfl⟩
          have hby : Below wr.heap.size wr (wr.alloc (.cells (vCells kind' nn' false (.slice mb' mn' mc') bits' ext' (strL text') (.slice kb' kn' kc')) 33)) := (Below.refl _ _).alloc (Nat.le_refl _) _
          have hbl := Blk.new wr (vCells kind' nn' false (.slice mb' mn' mc') bits' ext' (strL text') (.slice kb' kn' kc')) 33
          have hsr := HMr.out.size
          have HM4 := Lib.hid (HMr.out.below hby)
          have HE4 : Hid (Ex (fun k => k = N + 2) (N + 4) w3 (wr.alloc (.cells (vCells kind' nn' false (.slice mb' mn' mc') bits' ext' (strL text') (.slice kb' kn' kc')) 33))) := Lib.hid (HEr.out.trans ((Ex.of_below hby).mono (by omega) (fun _ h => h)))
          have HT4 := Lib.hid (Tree.below (hby.mono (by omega)) _ _ _ HTK.out)
          rw [← hY] at hbl hsr
          have HBl4 := Lib.hid hbl
          have hs4 : (wr.alloc (.cells (vCells kind' nn' false (.slice mb' mn' mc') bits' ext' (strL text') (.slice kb' kn' kc')) 33)).heap.size = Y + 1 := by rw [hY]; simp
          have HS4 := Lib.hid hs4
          have HY := Lib.hid hY
          clear hby hbl hY hs4 HMr HEr HTK d0 d1 d2 d3 d4 d5 d6 d7
          change Code.wp _ _ _ _ (wr.alloc (.cells (vCells kind' nn' false (.slice mb' mn' mc') bits' ext' (strL text') (.slice kb' kn' kc')) 33))
          rw [← HY.out]
          generalize wr.alloc (.cells (vCells kind' nn' false (.slice mb' mn' mc') bits' ext' (strL text') (.slice kb' kn' kc')) 33) = w4 at HM4 HE4 HT4 HBl4 HS4 ⊢
          obtain ⟨v, ys, hv1, hv2, hv3⟩ := HM4.out.steps
          have HOWN := Lib.hid hv3
          obtain ⟨i0, hi0, hz0, hs0, hb0⟩ := info3'
          have HI0 := Lib.hid hi0
          have HZ0 := Lib.hid hz0
          have HS0 := Lib.hid hs0
          have HB0 := Lib.hid hb0
          clear hv3 hi0 hz0 hs0 hb0
          refine wp_region_lit ?_
          iterate 9 go_step
          refine wpList_append_own _ rfl (.tmp 26) (.tmp 28) 141 rfl (N + 4) 3 i0 (.int .i64 0) 1 8 Tryz.underlying141 HI0.out HZ0.out HS0.out HB0.out rfl (by decide) v n ys rfl (HOWN.out.alloc _) ⟨w4.heap.size, 0, none⟩ 1 1 [.int .i64 (k : Int)] rfl rfl ?c1 ?c2 ?c3 ?c4 ?c5 ?_
          case c1 =>
            intro j u hj
            cases j with
            | zero =>
              have e : u = .int .i64 (k : Int) := by simpa using hj.symm
              subst e
              have := (Blk.new w4 #[.int .i64 (k : Int)] 3).cell 0
              simp [Addr.add, this]
            | succ j => simp at hj
          case c2 => intro u hu; simp only [List.mem_cons, List.not_mem_nil, or_false] at hu; subst hu; rfl
          case c3 => unfold maxLen; omega
          case c4 => omega
          case c5 => have := HM4.out.size; simp; omega
          intro v' w5 hown' hgrow _
          obtain ⟨b', c', rfl⟩ := owns_slice hown'
          have hneY : v.ownBlock ≠ some Y := by
            intro e
            obtain ⟨_, ⟨rfl, _⟩ | ⟨g, cap', cur, rfl, _, hc, _⟩⟩ := HOWN.out
            · simp [Value.ownBlock] at e
            · simp only [Value.ownBlock, Option.some.injEq] at e
              subst e
              have := HBl4.out
              unfold Blk at this
              rw [hc] at this
              simp at this
          have hrowN : ∀ j, v.ownBlock = some j → N + 4 ≤ j := fun j hj => (HOWN.out.lt j hj).1
          have hE45 : Ex (fun k => k = N + 2) (N + 4) w4 w5 :=
            ((Ex.refl _ _ _).alloc (by have := HM4.out.size; omega) _).trans (grown_ex hgrow (by have := HM4.out.size; simp; omega) hrowN)
          have hk2 : some (N + 2) ≠ v.ownBlock := fun e => by have := hrowN _ e.symm; omega
          have hlt4 := HM4.out.size
          have e2 : w5.heap[N + 2]? = w4.heap[N + 2]? := by rw [hgrow.block (N + 2) (by simp; omega) hk2]; exact Below.heap_alloc w4 _ _ (by omega)
          have c2 : w5.cell? ⟨N + 2, 0, none⟩ = some v := by rw [World.cell?_of_block (w := w4) e2]; exact hv1
          have f2 : w5.frozen? ⟨N + 2, 0, none⟩ = false := by rw [World.frozen?_of_block (w := w4) e2]; exact hv2
          have hBl5 : Blk w5 Y (vCells kind' nn' false (.slice mb' mn' mc') bits' ext' (strL text') (.slice kb' kn' kc')) 33 := by
            unfold Blk
            rw [hgrow.block Y (by simp; have := HS4.out; omega) (fun e => hneY e.symm), Below.heap_alloc w4 _ _ HBl4.out.lt]
            exact HBl4.out
          have hT5 := Tree.below (hE45.below (B' := N) (by omega) (fun j (hj : j = N + 2) => by omega)) _ _ _ HT4.out
          have hM5 : WM (w5.setCell ⟨N + 2, 0, none⟩ (.slice b' (n + 1) c')) N fw (n + 1) := by
            refine ⟨?_, ?_, ?_, _, _, ?_, ?_, owns_set hown' _ _ (by omega) _⟩
            · have := hE45.size; simp; omega
            · rw [World.cell?_of_block (w := w5) (Below.heap_setCell _ _ _ _ (by simp)), hE45.cell (a := ⟨N + 1, 0, none⟩) (by simp) (by simp)]; exact HM4.out.wrong
            · rw [World.cell?_of_block (w := w5) (Below.heap_setCell _ _ _ _ (by simp)), hE45.cell (a := ⟨N + 3, 0, none⟩) (by simp) (by simp)]; exact HM4.out.visit
            · exact World.cell?_setCell_same _ _ _ c2
            · simpa using f2
          have hE5 : Ex (fun k => k = N + 2) (N + 4) w3 (w5.setCell ⟨N + 2, 0, none⟩ (.slice b' (n + 1) c')) := (HE4.out.trans hE45).setCell (N + 2) 0 (.inl rfl) _
          have hBl6 := hBl5.set_other ⟨N + 2, 0, none⟩ (.slice b' (n + 1) c') (by simp; omega)
          have hT6 := Tree.below (((Below.refl N w5)).setCell (p := ⟨N + 2, 0, none⟩) (by simp) (.slice b' (n + 1) c')) _ _ _ hT5
          have HM5 := Lib.hid hM5
          have HE5 := Lib.hid hE5
          have HB6 := Lib.hid hBl6
          have HT6 := Lib.hid hT6
          clear hM5 hE5 hBl6 hT6 hT5 hBl5 hE45 hgrow hown' HOWN HM4 HE4 HT4 HBl4 hneY hrowN hk2 e2 hv1 hv2
          go_upto_region 9 with fail
          clear c2 f2
          generalize w5.setCell ⟨N + 2, 0, none⟩ (.slice b' (n + 1) c') = w6 at HM5 HE5 HB6 HT6 ⊢
          have c3 := HM5.out.visit
          refine wp_region_lit ?_
          iterate 3 go_step
          refine wpList_load_row rfl 33 _ rfl Y rfl 33 _ (0, 0) _ HB6.out Tryz.underlying33 rfl (by kernel_rfl) ?_
          go_wp2_with fail
          rw [show ((ar : Int) + 1) = ((ar + 1 : Nat) : Int) by simp]
          refine (HIH.out k (ds k) _ (ar + 1) w6 (n + 1) (H00.out.trans ((HK3.out.trans HE5.out).below (by omega) (fun j (hj : j = N + 2) => by omega))) HT6.out (by omega) (by omega) HM5.out).mono ?_
          clear c3
          rintro e w7 ⟨rfl, hM7, hE7⟩
          have hlt7 := hM7.size
          obtain ⟨v7, ys7, q1, q2, q3⟩ := hM7.steps
          obtain ⟨b7, c7, rfl⟩ := owns_slice q3
          obtain ⟨r1, r2, ⟨g7, rfl⟩, zs, r3⟩ := owns_drop q3
          unfold maxLen at r2
          have hM8 : WM (w7.setCell ⟨N + 2, 0, none⟩ (.slice (some ⟨g7, 0, none⟩) n c7)) N fw n := by
            refine ⟨?_, ?_, ?_, _, _, ?_, ?_, owns_set r3 _ _ (by omega) _⟩
            · simpa using hlt7
            · rw [World.cell?_of_block (w := w7) (Below.heap_setCell _ _ _ _ (by simp))]; exact hM7.wrong
            · rw [World.cell?_of_block (w := w7) (Below.heap_setCell _ _ _ _ (by simp))]; exact hM7.visit
            · exact World.cell?_setCell_same _ _ _ q1
            · simpa using q2
          have HM8 := Lib.hid hM8
          have HE8 : Hid (Ex (fun k => k = N + 2) (N + 4) w3 (w7.setCell ⟨N + 2, 0, none⟩ (.slice (some ⟨g7, 0, none⟩) n c7))) := Lib.hid ((HE5.out.trans hE7).setCell (N + 2) 0 (.inl rfl) _)
          clear hM8 hM7 hE7 q3 r3 HM5 HE5 HB6 HT6
          have g7 : IntKind.i64.wrap ((n : Int) + 1 - 1) = (n : Int) := by rw [IntWalk.i64_in _ (by omega)]; omega
          have g8 : (n : Int) + 1 - 1 = (n : Int) := by omega
          go_wp2
          go_roundw
          case rel => exact ⟨k + 1, by omega, by simp, HM8, HE8⟩
          case measure => simp [intOf]; omega
        · have g1 : ¬ (k : Int) < (m : Int) := by omega
          go_wp2
          go_ret
          exact ⟨rfl, HMr.out, HK3.out.trans HEr.out⟩
end Go.Proofs.YtbhfoelnoddlkaaGreatDoor.D

/-
  value.walk: walked; value.Check's two.
-/
namespace Go.Proofs.YtbhfoelnoddlkaaGreatDoor.D
open Go Go.RowKit Limb

set_option maxRecDepth 100000 in
set_option maxHeartbeats 1000000 in
theorem walk_any (fw : FuncId) (hfw : ∀ (args : Array Value) (w : World), (callFunc fw args).run Tryz.prog w = .ok (.enter fw args) w) (w : World) (hw : ∀ (f : F) (d : Nat) (v : Value) (ar : Nat) (w' : World), Below w.heap.size w w' → Tree w' w.heap.size f d v → ar + d ≤ 128 → Calls Tryz.prog fw #[v, .int .i64 (ar : Int)] w' fun e w'' => e = .returned (.bool false) ∧ Below w'.heap.size w' w'')
    (N : Nat) (f : F) (d : Nat) (v : Value) (hN : N ≤ w.heap.size) (hT : Tree w N f d v) (hd : d ≤ 128) :
    Calls Tryz.prog 42 #[v, .func (.func fw) #[] #[]] w fun e w' => e = .returned (.tuple #[.string ⟨#[]⟩, .bool false]) ∧ Below w.heap.size w w' := by
  obtain ⟨kind, nn, mb, mn, mc, bits, ext, text, kb, kn, kc, rfl⟩ := hT.cells
  obtain ⟨M, hM⟩ : ∃ M, M = w.heap.size := ⟨_, rfl⟩
  have HV := Lib.hid (visit_any w.heap.size fw hfw w hw)
  clear hw
  have HT := Lib.hid (Tree.mono hN _ _ _ hT)
  have HM := Lib.hid hM
  clear hT hM hN
  have hmf : ∀ (fn : Fn) (first cap : Array Value) (w : World), (Instr.makeFunc fn first cap).run Tryz.prog w = .ok (.func fn first cap) w := fun _ _ _ _ => rfl
  go_enter Tryz.func42, Tryz.ntmps42
  go_upto_region 4 with fail
  clear hmf
  obtain ⟨W1, hW1⟩ : ∃ W1, W1 = w.alloc (.cells (vCells kind nn false (.slice mb mn mc) bits ext (strL text) (.slice kb kn kc)) 33) := ⟨_, rfl⟩
  obtain ⟨W2, hW2⟩ : ∃ W2, W2 = W1.alloc (.cells #[.func (.func fw) #[] #[]] 88) := ⟨_, rfl⟩
  obtain ⟨W3, hW3⟩ : ∃ W3, W3 = W2.alloc (.cells #[.slice none 0 0] 141) := ⟨_, rfl⟩
  obtain ⟨W4, hW4⟩ : ∃ W4, W4 = W3.alloc (.cells #[.func (.func 83) #[] #[.pointer (some ⟨w.heap.size + 1, 0, none⟩), .pointer (some ⟨w.heap.size + 1 + 1, 0, none⟩), .pointer (some ⟨w.heap.size + 1 + 1 + 1, 0, none⟩)]] 88) := ⟨_, rfl⟩
  rw [← hW1, ← hW2, ← hW3, ← hW4]
  have s1 : W1.heap.size = w.heap.size + 1 := by rw [hW1]; simp
  have s2 : W2.heap.size = w.heap.size + 2 := by rw [hW2]; simp; omega
  have s3 : W3.heap.size = w.heap.size + 3 := by rw [hW3]; simp; omega
  have s4 : W4.heap.size = w.heap.size + 4 := by rw [hW4]; simp; omega
  have k1 : Blk W1 w.heap.size (vCells kind nn false (.slice mb mn mc) bits ext (strL text) (.slice kb kn kc)) 33 := by rw [hW1]; exact Blk.new _ _ _
  have k2 : Blk W2 (w.heap.size + 1) #[.func (.func fw) #[] #[]] 88 := by rw [hW2, ← s1]; exact Blk.new _ _ _
  have k3 : Blk W3 (w.heap.size + 2) #[.slice none 0 0] 141 := by rw [hW3, ← s2]; exact Blk.new _ _ _
  have k4 : Blk W4 (w.heap.size + 3) #[.func (.func 83) #[] #[.pointer (some ⟨w.heap.size + 1, 0, none⟩), .pointer (some ⟨w.heap.size + 1 + 1, 0, none⟩), .pointer (some ⟨w.heap.size + 1 + 1 + 1, 0, none⟩)]] 88 := by rw [hW4, ← s3]; exact Blk.new _ _ _
  have b4 : Below w.heap.size w W4 := by
    rw [hW4, hW3, hW2, hW1]
    exact ((((Below.refl _ _).alloc (Nat.le_refl _) _).alloc (by simp) _).alloc (by simp; omega) _).alloc (by simp; omega) _
  have k1' : Blk W4 w.heap.size (vCells kind nn false (.slice mb mn mc) bits ext (strL text) (.slice kb kn kc)) 33 := by
    rw [hW4, hW3, hW2]; exact ((k1.alloc _).alloc _).alloc _
  have k2' : Blk W4 (w.heap.size + 1) #[.func (.func fw) #[] #[]] 88 := by
    rw [hW4, hW3]; exact (k2.alloc _).alloc _
  have k3' : Blk W4 (w.heap.size + 2) #[.slice none 0 0] 141 := by rw [hW4]; exact k3.alloc _
  have hM4 : WM W4 w.heap.size fw 0 := ⟨by omega, k2'.cell 0, k4.cell 0, _, [], k3'.cell 0, k3'.free 0, World.ownsRow_nil _ _ _ _⟩
  have HT4 := Lib.hid (Tree.below b4 _ _ _ HT.out)
  have HM4 := Lib.hid hM4
  have HB4 := Lib.hid b4
  have HK1 := Lib.hid k1'
  have HS4 := Lib.hid s4
  have c3 : W4.cell? ⟨w.heap.size + 1 + 1 + 1, 0, none⟩ = some (.func (.func 83) #[] #[.pointer (some ⟨w.heap.size + 1, 0, none⟩), .pointer (some ⟨w.heap.size + 1 + 1, 0, none⟩), .pointer (some ⟨w.heap.size + 1 + 1 + 1, 0, none⟩)]) := hM4.visit
  clear hM4 b4 k1 k2 k3 k4 k1' k2' k3' s1 s2 s3 s4 hW1 hW2 hW3 hW4 HT
  refine wp_region_lit ?_
  iterate 3 go_step
  refine wpList_load_row rfl 33 _ rfl w.heap.size rfl 33 _ (0, 0) _ HK1.out Tryz.underlying33 rfl (by kernel_rfl) ?_
  go_wp2_with fail
  refine (HV.out f d _ 0 W4 0 HB4.out HT4.out (by omega) (by omega) HM4.out).mono ?_
  rintro e w7 ⟨rfl, hM7, hE7⟩
  have HB7 := Lib.hid (HB4.out.trans (hE7.below (B' := w.heap.size) (by omega) (fun j (hj : j = w.heap.size + 2) => by omega)))
  clear hM7 hE7 c3
  go_wp2
  refine bodyPost_ret (v := .tuple #[.string ⟨#[]⟩, .bool false]) (by simp [results, Tryz.results42, go_sem]) rfl ⟨rfl, HB7.out⟩
end Go.Proofs.YtbhfoelnoddlkaaGreatDoor.D

/-
  ieee.Int at a pattern that is no whole number; value.float; value.alone at every node: walked.
-/
namespace Go.Proofs.YtbhfoelnoddlkaaGreatDoor.D
open Go Go.RowKit Limb

set_option maxRecDepth 100000 in
theorem int_no (w : World) (hG : GShape w) (hC : GCtz w) (b mm : Int) (n : Nat) (m e ex : Int) (hb : Parts64 b mm n m e ex) (he : e < 0) :
    Calls Tryz.prog 119 #[.int .u64 b] w fun e' w' => e' = .returned (.tuple #[.agg #[.bool false, .slice none 0 0], .bool false]) ∧ Below w.heap.size w w' := by
  have hbx : Below w.heap.size w (w.alloc (.cells #[.bool false, .slice none 0 0] 30)) := (Below.refl _ _).alloc (Nat.le_refl _) _
  have hB := Blk.new w #[.bool false, .slice none 0 0] 30
  have HP := Lib.hid (parts_any _ (hG.below hbx hG.size) (hC.below hbx hC.size) b mm n m e ex hb)
  have HB := Lib.hid hB
  have HX := Lib.hid hbx
  clear hb hG hC hbx hB
  go_enter Tryz.func119, Tryz.ntmps119
  go_wp2_with fail
  refine HP.out.mono ?_
  rintro e' w1 ⟨rfl, hb1⟩
  have hB1 := HB.out.below hb1 HB.out.lt
  have c0 := hB1.cell 0
  have c1 := hB1.cell 1
  have f0 := hB1.free 0
  have f1 := hB1.free 1
  simp only [List.getElem?_toArray, List.getElem?_cons_zero, List.getElem?_cons_succ] at c0 c1
  have HB1 := Lib.hid (HX.out.trans (hb1.mono HX.out.size))
  clear hb1 hB1 HB HX HP
  go_wp2
  refine bodyPost_ret (v := .tuple #[.agg #[.bool false, .slice none 0 0], .bool false]) (by simp [results, Tryz.results119, go_sem, c0, c1]) rfl ⟨rfl, ?_⟩
  exact (HB1.out.setCell (by simp) _).setCell (by simp) _

set_option maxRecDepth 100000 in
theorem float_half (w : World) (hG : GShape w) (hC : GCtz w) :
    Calls Tryz.prog 86 #[.int .u64 half3] w fun e' w' => e' = .returned (.bool true) ∧ Below w.heap.size w w' := by
  have HG := Lib.hid hG
  have HC := Lib.hid hC
  clear hG hC
  go_enter Tryz.func86, Tryz.ntmps86
  go_wp2_with fail
  refine (class_norm w HG.out half3 norm_half3).mono ?_
  rintro e' w1 ⟨rfl, hb1⟩
  have HB1 := Lib.hid hb1
  clear hb1
  go_wp2_with fail
  refine (int_no w1 (HG.out.below HB1.out HG.out.size) (HC.out.below HB1.out HC.out.size) half3 _ _ _ _ _ parts_half3 (by decide)).mono ?_
  rintro e' w2 ⟨rfl, hb2⟩
  have HB2 := Lib.hid ((HB1.out.trans (hb2.mono HB1.out.size)).alloc (Nat.le_trans HB1.out.size hb2.size) (.cells #[.bool false, .slice none 0 0] 30))
  clear hb2
  go_wp2
  go_ret
  exact ⟨rfl, HB2.out⟩

set_option maxRecDepth 100000 in
set_option maxHeartbeats 1000000 in
theorem alone_float (w : World) (hG : GShape w) (hC : GCtz w) :
    Calls Tryz.prog 44 #[.agg #[.int .i8 4, .int .u64 0, .bool false, .slice none 0 0, .int .u64 half3, .int .i8 0, .string ⟨#[]⟩, .slice none 0 0]] w fun e w' => e = .returned (.bool true) ∧ Below w.heap.size w w' := by
  have hb : Below w.heap.size w (w.alloc (.cells #[.int .i8 4, .int .u64 0, .bool false, .slice none 0 0, .int .u64 half3, .int .i8 0, .string ⟨#[]⟩, .slice none 0 0] 33)) := (Below.refl _ _).alloc (Nat.le_refl _) _
  have hB := Blk.new w #[.int .i8 4, .int .u64 0, .bool false, .slice none 0 0, .int .u64 half3, .int .i8 0, .string ⟨#[]⟩, .slice none 0 0] 33
  have HC := Lib.hid (float_half _ (hG.below hb hG.size) (hC.below hb hC.size))
  have HBl := Lib.hid hB
  have HB := Lib.hid hb
  clear hb hB hG hC
  go_enter Tryz.func44, Tryz.ntmps44
  go_wp2_with fail
  refine HC.out.mono ?_
  rintro e w1 ⟨rfl, hb1⟩
  have hB1 := HBl.out.below hb1 HBl.out.lt
  have HB1 := Lib.hid (HB.out.trans (hb1.mono (by simp)))
  have c0 := hB1.cell 0
  have c1 := hB1.cell 1
  have c2 := hB1.cell 2
  have c3 := hB1.cell 3
  have c4 := hB1.cell 4
  have c5 := hB1.cell 5
  have c6 := hB1.cell 6
  have c7 := hB1.cell 7
  have f4 := hB1.free 4
  simp only [List.getElem?_toArray, List.getElem?_cons_zero, List.getElem?_cons_succ] at c0 c1 c2 c3 c4 c5 c6 c7
  clear hb1 hB1 HBl HB HC
  go_wp2
  go_ret
  exact ⟨rfl, HB1.out.setCell (by simp) _⟩

theorem alone_any (w : World) (hG : GShape w) (hC : GCtz w) (N : Nat) (f : F) (d : Nat) (v : Value) (h : Tree w N f d v) :
    Calls Tryz.prog 44 #[v] w fun e w' => e = .returned (.bool true) ∧ Below w.heap.size w w' := by
  cases f with
  | stop => exact h.elim
  | node t X fs =>
    obtain ⟨kind, n, mag, bits, ext, text, kids, m, rfl, ⟨rfl, hf⟩, _, hk⟩ := h
    have hkids : ∃ b c, kids = .slice b m c := by
      rcases hk with ⟨rfl, rfl, _⟩ | ⟨_, b, o, cap, xs, ds, rfl, _⟩ <;> exact ⟨_, _, rfl⟩
    have hz : m = 0 → kids = .slice none 0 0 := by
      rintro rfl
      rcases hk with ⟨_, rfl, _⟩ | ⟨h, _⟩
      · rfl
      · omega
    clear hk
    unfold vCells
    rcases hf with ⟨rfl, rfl, rfl, rfl, rfl, rfl⟩ | ⟨rfl, rfl, rfl, rfl, rfl, x, hx, hl, _⟩ | ⟨rfl, rfl, rfl, rfl, rfl, rfl⟩ | ⟨rfl, rfl, rfl, rfl, ht, rfl⟩ | ⟨rfl, rfl, rfl, rfl, rfl, h1, h2⟩ | ⟨rfl, rfl, rfl, rfl, rfl, rfl⟩ | ⟨rfl, hn, rfl, rfl, rfl, rfl⟩
    · rw [hz rfl]; exact alone_null w
    · rw [hz rfl]; exact alone_int w mag x hl
    · rw [hz rfl]; exact alone_float w hG hC
    · rw [hz rfl]; exact alone_bytes w text
    · obtain ⟨b, c, rfl⟩ := hkids; exact alone_list w b m c
    · obtain ⟨b, c, rfl⟩ := hkids; exact alone_map w b c
    · obtain ⟨b, c, rfl⟩ := hkids; exact alone_tag w n hn b c
end Go.Proofs.YtbhfoelnoddlkaaGreatDoor.D

