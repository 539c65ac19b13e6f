import Derived.Test.YtdchgojnmfoffaaDoorR2
namespace Go.Proofs.YtdchgojnmfoffaaDoor.Sha
open Go Go.RowKit

attribute [local go_sem] xor_n and_n not_n not_wn add2n add3n add4n add5n mod2n mod4n add52 mod52 mod52' add15 mod15 mod15' wrap1n

theorem mix_list_set (x y : List W) (i : Nat) (hx : x.length = 8) (hy : y.length = 8) (h : i < 8) : (mix x y i).set i (x.getD i 0 + y.getD i 0) = mix x y (i + 1) := by
  have hl : ((x.zipWith (· + ·) y).take i).length = i := by simp [hx, hy]; omega
  unfold mix
  rw [List.set_append, if_neg (by omega), hl, Nat.sub_self, List.take_add_one]
  have e1 : (List.zipWith (fun a b => a + b) x y)[i]? = some (x.getD i 0 + y.getD i 0) := by
    rw [List.getElem?_zipWith, List.getD_eq_getElem?_getD, List.getD_eq_getElem?_getD, List.getElem?_eq_getElem (by omega), List.getElem?_eq_getElem (by omega)]; rfl
  have e2 : x.drop i = x.getD i 0 :: x.drop (i + 1) := by
    rw [List.drop_eq_getElem_cons (by omega : i < x.length), List.getD_eq_getElem?_getD, List.getElem?_eq_getElem (by omega)]; rfl
  rw [e1, e2]
  simp
theorem mix_getD (x y : List W) (i : Nat) (hx : x.length = 8) (hy : y.length = 8) (h : i < 8) : (mix x y i).getD i 0 = x.getD i 0 := by
  have hl : ((x.zipWith (· + ·) y).take i).length = i := by simp [hx, hy]; omega
  unfold mix
  rw [List.getD_eq_getElem?_getD, List.getElem?_append_right (by omega), hl, Nat.sub_self, List.getElem?_drop, Nat.add_zero, ← List.getD_eq_getElem?_getD]
theorem mix_len (x y : List W) (i : Nat) (hx : x.length = 8) (hy : y.length = 8) (h : i ≤ 8) : (mix x y i).length = 8 := by
  unfold mix; simp [hx, hy]; omega

def z8 : List W := List.replicate 8 0
structure NR (h : St) (b : List UInt8) (w : World) (nb kb vb t : Nat) (wr : World) : Prop where
  st : Blk wr w.heap.size (nCells h.words) 54
  out : Blk wr (w.heap.size + 1) (nCells z8) 54
  ws : Blk wr nb (nCells (sched b 64)) 65
  ks : Blk wr kb (nCells kList) 65
  vs : Blk wr vb (nCells (rnds (sched b 64) h t).words) 54
  below : Below w.heap.size w wr
  order : w.heap.size + 1 < nb ∧ nb < kb ∧ kb < vb
theorem NR.quiet {h : St} {b : List UInt8} {w : World} {nb kb vb t : Nat} {wr wq : World} (hw : NR h b w nb kb vb t wr) (hq : ∃ m, wq = wr.drewN m) : NR h b w nb kb vb t wq := by
  obtain ⟨m, rfl⟩ := hq
  exact ⟨hw.st.drewN m, hw.out.drewN m, hw.ws.drewN m, hw.ks.drewN m, hw.vs.drewN m, below_drewN hw.below m, hw.order⟩

theorem nset8 (v : St) (x0 x1 x2 x3 x4 x5 x6 x7 : Value) :
    (((((((((nCells v.words).setIfInBounds 0 x0).setIfInBounds 1 x1).setIfInBounds 2 x2).setIfInBounds 3 x3).setIfInBounds 4 x4).setIfInBounds 5 x5).setIfInBounds 6 x6).setIfInBounds 7 x7) = #[x0, x1, x2, x3, x4, x5, x6, x7] := by
  simp [nCells, St.words]
/-- All that a store into the block of v leaves. -/
structure NX (h : St) (b : List UInt8) (w : World) (nb kb vb : Nat) (c : Array Value) (wr : World) : Prop where
  st : Blk wr w.heap.size (nCells h.words) 54
  out : Blk wr (w.heap.size + 1) (nCells z8) 54
  ws : Blk wr nb (nCells (sched b 64)) 65
  ks : Blk wr kb (nCells kList) 65
  vs : Blk wr vb c 54
  below : Below w.heap.size w wr
  order : w.heap.size + 1 < nb ∧ nb < kb ∧ kb < vb
theorem NX.set {h : St} {b : List UInt8} {w wr : World} {nb kb vb : Nat} {c : Array Value} (hw : NX h b w nb kb vb c wr) (i : Nat) (x : Value) : NX h b w nb kb vb (c.setIfInBounds i x) (wr.setCell ⟨vb, i, none⟩ x) := by
  have o := hw.order
  exact ⟨hw.st.set_other _ _ (by simp; omega), hw.out.set_other _ _ (by simp; omega), hw.ws.set_other _ _ (by simp; omega), hw.ks.set_other _ _ (by simp; omega), hw.vs.set i x, hw.below.setCell (by simp; omega) _, o⟩
theorem NR.put8 {h : St} {b : List UInt8} {w : World} {nb kb vb t : Nat} {wr : World} (hw : NR h b w nb kb vb t wr) (x0 x1 x2 x3 x4 x5 x6 x7 : Value) (hc : #[x0, x1, x2, x3, x4, x5, x6, x7] = nCells (rnds (sched b 64) h (t + 1)).words) :
    NR h b w nb kb vb (t + 1) ((((((((wr.setCell ⟨vb, 0, none⟩ x0).setCell ⟨vb, 1, none⟩ x1).setCell ⟨vb, 2, none⟩ x2).setCell ⟨vb, 3, none⟩ x3).setCell ⟨vb, 4, none⟩ x4).setCell ⟨vb, 5, none⟩ x5).setCell ⟨vb, 6, none⟩ x6).setCell ⟨vb, 7, none⟩ x7) := by
  have h0 : NX h b w nb kb vb (nCells (rnds (sched b 64) h t).words) wr := ⟨hw.st, hw.out, hw.ws, hw.ks, hw.vs, hw.below, hw.order⟩
  have := (((((((h0.set 0 x0).set 1 x1).set 2 x2).set 3 x3).set 4 x4).set 5 x5).set 6 x6).set 7 x7
  rw [nset8, hc] at this
  exact ⟨this.st, this.out, this.ws, this.ks, this.vs, this.below, this.order⟩
structure MR (h v : St) (w : World) (vb t : Nat) (wr : World) : Prop where
  st : Blk wr w.heap.size (nCells (mix h.words v.words t)) 54
  out : Blk wr (w.heap.size + 1) (nCells z8) 54
  vs : Blk wr vb (nCells v.words) 54
  below : Below w.heap.size w wr
  order : w.heap.size + 1 < vb
theorem MR.start {h : St} {b : List UInt8} {w : World} {nb kb vb : Nat} {wr : World} (hw : NR h b w nb kb vb 64 wr) : MR h (rnds (sched b 64) h 64) w vb 0 wr :=
  ⟨hw.st, hw.out, hw.vs, hw.below, by have := hw.order; omega⟩
theorem MR.quiet {h v : St} {w : World} {vb t : Nat} {wr wq : World} (hw : MR h v w vb t wr) (hq : ∃ m, wq = wr.drewN m) : MR h v w vb t wq := by
  obtain ⟨m, rfl⟩ := hq
  exact ⟨hw.st.drewN m, hw.out.drewN m, hw.vs.drewN m, below_drewN hw.below m, hw.order⟩
theorem MR.put {h v : St} {w : World} {vb t : Nat} {wr : World} (hw : MR h v w vb t wr) (ht : t < 8) : MR h v w vb (t + 1) (wr.setCell ⟨w.heap.size, t, none⟩ (.int .i64 (tn (h.words.getD t 0 + v.words.getD t 0)))) :=
  ⟨by rw [← mix_list_set _ _ t rfl rfl ht, ← nCells_set]; exact hw.st.set t _, hw.out.set_other _ _ (by simp), hw.vs.set_other _ _ (by have := hw.order; simp; omega), hw.below.setCell (by simp) _, hw.order⟩

set_option maxRecDepth 100000 in
set_option maxHeartbeats 1000000 in
theorem rstep_any (h : St) (b : List UInt8) (blk off cap : Nat) (w : World) (hb : blk < w.heap.size) (hc : ∀ i, i < 64 → w.cell? ⟨blk, off + i, none⟩ = some (by8 (b.getD i 0))) :
    Calls Tryd.prog 26 #[.agg (nCells h.words), .slice (some ⟨blk, off, none⟩) 64 cap] w fun e w' => e = .returned (.agg (nCells (Sha.step h b).words)) ∧ Below w.heap.size w w' := by
  go_enter Tryd.func26, Tryd.ntmps26
  go_wp2_with fail
  have hs0 : Blk ((w.alloc (.cells (nCells h.words) 54)).alloc (.cells (nCells z8) 54)) w.heap.size (nCells h.words) 54 := (Blk.new w _ 54).alloc _
  have ho0 : Blk ((w.alloc (.cells (nCells h.words) 54)).alloc (.cells (nCells z8) 54)) (w.heap.size + 1) (nCells z8) 54 := by
    have := Blk.new (w.alloc (.cells (nCells h.words) 54)) (nCells z8) 54
    simpa using this
  have hb0 : Below w.heap.size w ((w.alloc (.cells (nCells h.words) 54)).alloc (.cells (nCells z8) 54)) := ((Below.refl _ _).alloc (Nat.le_refl _) _).alloc (by simp) _
  have hz0 : ((w.alloc (.cells (nCells h.words) 54)).alloc (.cells (nCells z8) 54)).heap.size = w.heap.size + 2 := by simp
  change Calls Tryd.prog 32 _ ((w.alloc (.cells (nCells h.words) 54)).alloc (.cells (nCells z8) 54)) _
  generalize (w.alloc (.cells (nCells h.words) 54)).alloc (.cells (nCells z8) 54) = w0 at hs0 ho0 hb0 hz0 ⊢
  refine (schedule_any b blk off cap w0 (by omega) (fun i hi => by rw [hb0.cell (p := ⟨blk, off + i, none⟩) hb]; exact hc i hi)).mono ?_
  rintro e w1 ⟨rfl, hb1⟩
  clear hc
  have hs1 := hs0.below hb1 hs0.lt
  have ho1 := ho0.below hb1 ho0.lt
  have hw1 := hb0.trans (hb1.mono hb0.size)
  have hz1 : w.heap.size + 2 ≤ w1.heap.size := by have := hb1.size; omega
  clear hs0 ho0 hb0 hz0 hb1
  dsimp only
  iterate 4 go_step
  refine wpList_store_row rfl 65 _ _ rfl w1.heap.size _ rfl rfl 65 _ (Blk.new _ _ _) (by rw [nCells_size, len_sched]; kernel_rfl) (by rw [nCells_size, len_sched]; rfl) (nCells_one _) ?_
  rw [setRow_alloc_new']
  go_wp2_with fail
  have hs2 := hs1.alloc (.cells (nCells (sched b 64)) 65)
  have ho2 := ho1.alloc (.cells (nCells (sched b 64)) 65)
  have hw2 := hw1.alloc (by omega) (.cells (nCells (sched b 64)) 65)
  have hn2 := Blk.new w1 (nCells (sched b 64)) 65
  have hz2 : (w1.alloc (.cells (nCells (sched b 64)) 65)).heap.size = w1.heap.size + 1 := by simp
  obtain ⟨nb, hnb⟩ : ∃ nb, nb = w1.heap.size := ⟨_, rfl⟩
  rw [← hnb] at hn2 hz2 hz1 ⊢
  generalize w1.alloc (.cells (nCells (sched b 64)) 65) = w2 at hs2 ho2 hw2 hn2 hz2 ⊢
  clear hs1 ho1 hw1 hnb
  refine (constants_any w2).mono ?_
  rintro e w3 ⟨rfl, hb3⟩
  have hs3 := hs2.below hb3 hs2.lt
  have ho3 := ho2.below hb3 ho2.lt
  have hn3 := hn2.below hb3 hn2.lt
  have hw3 := hw2.trans (hb3.mono hw2.size)
  have hz3 : nb < w3.heap.size := by have := hb3.size; omega
  clear hs2 ho2 hw2 hn2 hz2 hb3
  dsimp only
  iterate 4 go_step
  refine wpList_store_row rfl 65 _ _ rfl w3.heap.size _ rfl rfl 65 _ (Blk.new _ _ _) (by rw [nCells_size, kList_len]; kernel_rfl) (by rw [nCells_size, kList_len]; rfl) (nCells_one _) ?_
  rw [setRow_alloc_new']
  have hs4 := hs3.alloc (.cells (nCells kList) 65)
  have ho4 := ho3.alloc (.cells (nCells kList) 65)
  have hn4 := hn3.alloc (.cells (nCells kList) 65)
  have hw4 := hw3.alloc (by omega) (.cells (nCells kList) 65)
  have hk4 := Blk.new w3 (nCells kList) 65
  have hz4 : (w3.alloc (.cells (nCells kList) 65)).heap.size = w3.heap.size + 1 := by simp
  obtain ⟨kb, hkb⟩ : ∃ kb, kb = w3.heap.size := ⟨_, rfl⟩
  rw [← hkb] at hk4 hz4 hz3 ⊢
  generalize w3.alloc (.cells (nCells kList) 65) = w4 at hs4 ho4 hw4 hn4 hk4 hz4 ⊢
  clear hs3 ho3 hw3 hn3 hkb
  have HZ4 := Lib.hid hz4
  clear hz4
  go_upto_region 3 with fail
  refine wp_region_lit ?_
  refine wpList_load_row rfl 54 _ rfl w.heap.size rfl 54 _ (0, 0) _ hs4 Tryd.underlying54 rfl (by kernel_rfl) ?_
  iterate 3 go_step
  refine wpList_store_row rfl 54 _ _ rfl w4.heap.size _ rfl rfl 54 _ (Blk.new _ _ _) (by kernel_rfl) rfl (nCells_one _) ?_
  rw [setRow_alloc_new']
  have h0 : NR h b w nb kb w4.heap.size 0 (w4.alloc (.cells (nCells h.words) 54)) :=
    ⟨hs4.alloc _, ho4.alloc _, hn4.alloc _, hk4.alloc _, Blk.new _ _ _, hw4.alloc (by have := HZ4.out; omega) _, ⟨by omega, by omega, by have := HZ4.out; omega⟩⟩
  clear HZ4
  generalize w4.heap.size = vb at h0 ⊢
  generalize w4.alloc (.cells (nCells h.words) 54) = w5 at h0 ⊢
  clear hs4 ho4 hw4 hn4 hk4 hz3 hz1
  go_wp2
  go_loopw [8] (fun i wr => ∃ t : Nat, t ≤ 64 ∧ i = .int .i64 t ∧ NR h b w nb kb vb t wr) (fun i _ => 64 - (intOf i).toNat)
  case atStart => exact ⟨0, by omega, rfl, h0⟩
  case round =>
    clear h0
    obtain ⟨t, ht, rfl, hw⟩ := hrel
    by_cases h64 : t < 64
    · obtain ⟨v, ev⟩ : ∃ v, v = rnds (sched b 64) h t := ⟨_, rfl⟩
      have hcell : ∀ j x, (nCells v.words)[j]? = some x → wr.cell? ⟨vb, j, none⟩ = some x := fun j v hj => by
        rw [hw.vs.cell, ← ev]; exact hj
      have a0 := hcell 0 (.int .i64 (tn v.a)) rfl
      have a1 := hcell 1 (.int .i64 (tn v.b)) rfl
      have a2 := hcell 2 (.int .i64 (tn v.c)) rfl
      have a3 := hcell 3 (.int .i64 (tn v.d)) rfl
      have a4 := hcell 4 (.int .i64 (tn v.e)) rfl
      have a5 := hcell 5 (.int .i64 (tn v.f)) rfl
      have a6 := hcell 6 (.int .i64 (tn v.g)) rfl
      have a7 := hcell 7 (.int .i64 (tn v.h)) rfl
      obtain ⟨xw, ew⟩ : ∃ x, x = (sched b 64).getD t 0 := ⟨_, rfl⟩
      have cw : wr.cell? ⟨nb, t, none⟩ = some (.int .i64 (tn xw)) := by
        rw [hw.ws.cell, ew]; exact nCells_at _ _ (by rw [len_sched]; exact h64)
      obtain ⟨xk, ek⟩ : ∃ x, x = kw t := ⟨_, rfl⟩
      have ck : wr.cell? ⟨kb, t, none⟩ = some (.int .i64 (tn xk)) := by
        rw [hw.ks.cell, nCells_at _ _ (by rw [kList_len]; exact h64), ek]
        congr 3
        simp [kList, h64]
      have EX : Hid (rnds (sched b 64) h (t + 1) = rnd v xk xw) := by
        rw [Hid, ev, ek, ew]; rfl
      clear hcell ev ew ek
      go_wp2
      go_quiet ((go_at_call 34; refine Calls.quiet_of (rotated_any _ _ (by decide) _)))
      replace a0 : (wr.drewN nq).cell? _ = _ := a0
      replace a1 : (wr.drewN nq).cell? _ = _ := a1
      replace a2 : (wr.drewN nq).cell? _ = _ := a2
      replace a3 : (wr.drewN nq).cell? _ = _ := a3
      replace a4 : (wr.drewN nq).cell? _ = _ := a4
      replace a5 : (wr.drewN nq).cell? _ = _ := a5
      replace a6 : (wr.drewN nq).cell? _ = _ := a6
      replace a7 : (wr.drewN nq).cell? _ = _ := a7
      replace cw : (wr.drewN nq).cell? _ = _ := cw
      replace ck : (wr.drewN nq).cell? _ = _ := ck
      replace hw := hw.quiet ⟨nq, rfl⟩
      generalize wr.drewN nq = w1 at hw a0 a1 a2 a3 a4 a5 a6 a7 cw ck ⊢
      go_wp2
      go_quiet ((go_at_call 34; refine Calls.quiet_of (rotated_any _ _ (by decide) _)))
      replace a0 : (w1.drewN nq).cell? _ = _ := a0
      replace a1 : (w1.drewN nq).cell? _ = _ := a1
      replace a2 : (w1.drewN nq).cell? _ = _ := a2
      replace a3 : (w1.drewN nq).cell? _ = _ := a3
      replace a4 : (w1.drewN nq).cell? _ = _ := a4
      replace a5 : (w1.drewN nq).cell? _ = _ := a5
      replace a6 : (w1.drewN nq).cell? _ = _ := a6
      replace a7 : (w1.drewN nq).cell? _ = _ := a7
      replace cw : (w1.drewN nq).cell? _ = _ := cw
      replace ck : (w1.drewN nq).cell? _ = _ := ck
      replace hw := hw.quiet ⟨nq, rfl⟩
      generalize w1.drewN nq = w2 at hw a0 a1 a2 a3 a4 a5 a6 a7 cw ck ⊢
      have z0 : w2.frozen? ⟨vb, 0, none⟩ = false := hw.vs.free 0
      have z1 : w2.frozen? ⟨vb, 1, none⟩ = false := hw.vs.free 1
      have z2 : w2.frozen? ⟨vb, 2, none⟩ = false := hw.vs.free 2
      have z3 : w2.frozen? ⟨vb, 3, none⟩ = false := hw.vs.free 3
      have z4 : w2.frozen? ⟨vb, 4, none⟩ = false := hw.vs.free 4
      have z5 : w2.frozen? ⟨vb, 5, none⟩ = false := hw.vs.free 5
      have z6 : w2.frozen? ⟨vb, 6, none⟩ = false := hw.vs.free 6
      have z7 : w2.frozen? ⟨vb, 7, none⟩ = false := hw.vs.free 7
      go_wp2
      go_roundw
      case rel =>
        refine ⟨t + 1, by omega, by simp, ?_⟩
        exact hw.put8 _ _ _ _ _ _ _ _ (by rw [EX.out]; rfl)
      case measure => simp [intOf]; omega
    · obtain rfl : t = 64 := by omega
      clear h64 ht
      rw [show ((64 : Nat) : Int) = 64 from rfl]
      go_wp2
      obtain ⟨v, ev⟩ : ∃ v, v = rnds (sched b 64) h 64 := ⟨_, rfl⟩
      have hx0 := MR.start hw
      rw [← ev] at hx0
      have EV := Lib.hid ev
      clear hw ev
      go_loopw [13] (fun i wr => ∃ t : Nat, t ≤ 8 ∧ i = .int .i64 t ∧ MR h v w vb t wr) (fun i _ => 8 - (intOf i).toNat)
      case atStart => exact ⟨0, by omega, rfl, hx0⟩
      case round =>
        clear hx0
        obtain ⟨t, ht, rfl, hw⟩ := hrel
        by_cases h8 : t < 8
        · have ch : wr.cell? ⟨w.heap.size, t, none⟩ = some (.int .i64 (tn (h.words.getD t 0))) := by
            rw [hw.st.cell, nCells_at _ _ (by rw [mix_len _ _ _ rfl rfl ht]; exact h8), mix_getD _ _ _ rfl rfl h8]
          have cv : wr.cell? ⟨vb, t, none⟩ = some (.int .i64 (tn (v.words.getD t 0))) := by
            rw [hw.vs.cell]; exact nCells_at v.words t h8
          obtain ⟨x, ex⟩ : ∃ x, x = h.words.getD t 0 := ⟨_, rfl⟩
          obtain ⟨y, ey⟩ : ∃ y, y = v.words.getD t 0 := ⟨_, rfl⟩
          rw [← ex] at ch
          rw [← ey] at cv
          have EX := Lib.hid ex
          have EY := Lib.hid ey
          clear ex ey
          go_wp2
          go_still_tail 10, (by kernel_rfl)
          change wpList _ _ _ _ _ (wr.drewN 1)
          have hd := hw.quiet ⟨1, rfl⟩
          have cs : (wr.drewN 1).cell? ⟨w.heap.size, t, none⟩ = some (.int .i64 (tn x)) := ch
          generalize wr.drewN 1 = w2 at hd cs ⊢
          have cf : w2.frozen? ⟨w.heap.size, t, none⟩ = false := hd.st.free _
          clear ch cv
          go_wp2
          go_roundw
          case rel =>
            refine ⟨t + 1, by omega, by simp, ?_⟩
            have := hd.put h8
            rw [← EX.out, ← EY.out] at this
            exact this
          case measure => simp [intOf]; omega
        · obtain rfl : t = 8 := by omega
          clear h8 ht
          rw [show ((8 : Nat) : Int) = 8 from rfl]
          have hs := hw.st
          rw [mix_all] at hs
          have ho := hw.out
          go_upto_region 16 with fail
          refine wp_region_lit ?_
          refine wpList_load_row rfl 54 _ rfl w.heap.size rfl 54 _ (0,0) _ hs Tryd.underlying54 rfl (by kernel_rfl) ?_
          refine wpList_store_row rfl 54 _ _ rfl (w.heap.size+1) _ rfl rfl 54 _ ho (by kernel_rfl) rfl (nCells_one _) ?_
          go_wp2
          refine bodyPost_ret (v := .agg (nCells (h.add v).words)) (results_cell_row rfl _ _ (w.heap.size + 1) 54 _ (0, 0) _ rfl (setRow_heap _ _ _ _ _ _ ho) Tryd.underlying54 rfl (by kernel_rfl)) rfl ⟨?_, ?_⟩
          · rw [EV.out]; rfl
          · exact below_setRow hw.below (by omega) _
end Go.Proofs.YtdchgojnmfoffaaDoor.Sha
