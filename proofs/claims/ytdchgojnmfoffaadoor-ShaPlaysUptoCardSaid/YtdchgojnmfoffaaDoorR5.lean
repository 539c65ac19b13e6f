import Derived.Test.YtdchgojnmfoffaaDoorR4
namespace Go.Proofs.YtdchgojnmfoffaaDoor.Sha
open Go Go.RowKit

theorem len_pad64 (l : List UInt8) : ∃ q, (padded l).length = 64 * q := ⟨(padded l).length / 64, by have := len_padded l; omega⟩

theorem out_wrap (y : W) (k : Nat) (d : Int) (hd : d = 2 ^ k) : IntKind.u8.wrap ((IntKind.i64.wrap ((tn y).tdiv d)).tmod 256) = (y.toNat : Int) / 2 ^ k % 256 := by
  subst hd
  have a := tn_lo y; have b := tn_hi y
  have p1 := pow_pos2 k
  have q1 : 0 ≤ tn y / 2 ^ k := Int.ediv_nonneg a (by omega)
  have q2 : tn y / 2 ^ k ≤ tn y := Int.ediv_le_self _ a
  rw [Int.tdiv_eq_ediv_of_nonneg a, IntWalk.i64_in (tn y / 2 ^ k) (by omega), Int.tmod_eq_emod_of_nonneg q1, IntKind.wrap_u8]
  show tn y / 2 ^ k % 256 % 256 = _
  rw [Int.emod_emod_of_dvd _ (Int.dvd_refl _)]; rfl
structure OU (st : St) (w : World) (ob i : Nat) (wr : World) : Prop where
  res : Blk wr w.heap.size (bCells z32) 22
  out : Blk wr ob (bCells (outL st i)) 22
  st : Blk wr (w.heap.size + 1) (nCells st.words) 54
  below : Below w.heap.size w wr
  order : w.heap.size + 1 < ob
theorem OU.drewN {st : St} {w : World} {ob i : Nat} {wr : World} (h : OU st w ob i wr) (m : Nat) : OU st w ob i (wr.drewN m) :=
  ⟨h.res.drewN m, h.out.drewN m, h.st.drewN m, below_drewN h.below m, h.order⟩
theorem OU.put {st : St} {w : World} {ob i : Nat} {wr : World} (h : OU st w ob i wr) (hi : i < 32) : OU st w ob (i + 1) (wr.setCell ⟨ob, i, none⟩ (.int .u8 ((outB st i).toNat : Int))) :=
  ⟨h.res.set_other _ _ (by have := h.order; simp; omega), by rw [← outL_set st i hi, ← bCells_set]; exact h.out.set _ _, h.st.set_other _ _ (by have := h.order; simp; omega), h.below.setCell (by have := h.order; simp; omega) _, h.order⟩

set_option maxRecDepth 100000 in
set_option maxHeartbeats 400000 in
theorem rsum_any (s : ByteArray) (w : World) (hs : s.size ≤ 140737488355200) :
    Calls Tryd.prog 11 #[.string s] w fun e w' => e = .returned (.agg (bCells (sum s.data.toList))) ∧ Below w.heap.size w w' := by
  go_enter Tryd.func11, Tryd.ntmps11
  go_upto_region 1 with fail
  refine wp_region_lit ?_
  refine wpList_build_at rfl 54 _ rfl (nCells H0.words) (by kernel_rfl) ?_
  iterate 3 go_step
  have ho0 : Blk ((w.alloc (.cells (bCells z32) 22)).alloc (.cells (nCells z8) 54)) w.heap.size (bCells z32) 22 := (Blk.new w _ 22).alloc _
  have hh0 : Blk ((w.alloc (.cells (bCells z32) 22)).alloc (.cells (nCells z8) 54)) (w.heap.size + 1) (nCells z8) 54 := by
    have := Blk.new (w.alloc (.cells (bCells z32) 22)) (nCells z8) 54
    simpa using this
  have hb0 : Below w.heap.size w ((w.alloc (.cells (bCells z32) 22)).alloc (.cells (nCells z8) 54)) := ((Below.refl _ _).alloc (Nat.le_refl _) _).alloc (by simp) _
  have hz0 : ((w.alloc (.cells (bCells z32) 22)).alloc (.cells (nCells z8) 54)).heap.size = w.heap.size + 2 := by simp
  change wpList _ _ _ _ _ ((w.alloc (.cells (bCells z32) 22)).alloc (.cells (nCells z8) 54))
  generalize (w.alloc (.cells (bCells z32) 22)).alloc (.cells (nCells z8) 54) = w0 at ho0 hh0 hb0 hz0 ⊢
  refine wpList_store_row rfl 54 _ _ rfl (w.heap.size + 1) _ rfl rfl 54 _ hh0 (by kernel_rfl) rfl (nCells_one _) ?_
  have ho1 : Blk (w0.setRow (w.heap.size + 1) (nCells H0.words)) w.heap.size (bCells z32) 22 := by unfold Blk; rw [setRow_other _ _ _ _ (by omega)]; exact ho0
  have hh1 : Blk (w0.setRow (w.heap.size + 1) (nCells H0.words)) (w.heap.size + 1) (nCells H0.words) 54 := setRow_heap _ _ _ _ _ _ hh0
  have hb1 : Below w.heap.size w (w0.setRow (w.heap.size + 1) (nCells H0.words)) := below_setRow hb0 (by omega) _
  have hz1 : (w0.setRow (w.heap.size + 1) (nCells H0.words)).heap.size = w.heap.size + 2 := by simp [hz0]
  generalize w0.setRow (w.heap.size + 1) (nCells H0.words) = w1 at ho1 hh1 hb1 hz1 ⊢
  clear ho0 hh0 hb0 hz0
  go_wp2_with fail
  refine (full_any s w1 hs).mono ?_
  rintro e w2 ⟨v, rfl, hbuf, hb2⟩
  have ho2 := ho1.below hb2 ho1.lt
  have hh2 := hh1.below hb2 hh1.lt
  have hb3 := hb1.trans (hb2.mono hb1.size)
  obtain ⟨g, cap, rfl, hg, hgs, hcap, -, -, hcell⟩ := hbuf
  have HG := Lib.hid (show w.heap.size + 2 ≤ g by omega)
  obtain ⟨L, hL⟩ : ∃ L, L = padded s.data.toList := ⟨_, rfl⟩
  rw [← hL] at hcell hcap ⊢
  obtain ⟨q, hq⟩ := len_pad64 s.data.toList
  rw [← hL] at hq
  have hqs : 64 * q ≤ 140737488355328 := by
    rw [← hq, hL]
    have := noughts_lt s.size
    have hsl : s.data.toList.length = s.size := Array.length_toList
    simp [padded, tail, len_be8, hsl]; omega
  rw [hq]
  rw [hq] at hcap hcell
  have HC := Lib.hid hcell
  have HQ := Lib.hid hq
  have HL := Lib.hid hL
  have HZ : Hid (w.heap.size + 1 < w1.heap.size) := by unfold Hid; omega
  clear hcell hq hL hb1 ho1 hh1 hz1 hb2 hg
  go_wp2
  go_loopw [5] (fun i wr => ∃ j : Nat, j ≤ q ∧ i = .int .i64 (64 * (j : Int)) ∧ Blk wr w.heap.size (bCells z32) 22 ∧ Blk wr (w.heap.size + 1) (nCells (run j H0 L).words) 54 ∧ (∀ k, k < w2.heap.size → k ≠ w.heap.size + 1 → wr.heap[k]? = w2.heap[k]?) ∧ Below w.heap.size w wr ∧ w2.heap.size ≤ wr.heap.size) (fun i _ => 64 * q - (intOf i).toNat)
  case atStart => exact ⟨0, by omega, by simp, ho2, hh2, fun _ _ _ => rfl, hb3, Nat.le_refl _⟩
  case round =>
    clear ho2 hh2 hb3
    obtain ⟨j, hj, rfl, ho, hh, hk, hb, hz⟩ := hrel
    have HK := Lib.hid hk
    clear hk
    by_cases hlt : j < q
    · obtain ⟨st, est⟩ : ∃ st, st = run j H0 L := ⟨_, rfl⟩
      rw [← est] at hh
      have hcell : ∀ i x, (nCells st.words)[i]? = some x → wr.cell? ⟨w.heap.size + 1, i, none⟩ = some x := fun i v hi => by
        rw [hh.cell]; exact hi
      have a0 := hcell 0 (.int .i64 (tn st.a)) rfl
      have a1 := hcell 1 (.int .i64 (tn st.b)) rfl
      have a2 := hcell 2 (.int .i64 (tn st.c)) rfl
      have a3 := hcell 3 (.int .i64 (tn st.d)) rfl
      have a4 := hcell 4 (.int .i64 (tn st.e)) rfl
      have a5 := hcell 5 (.int .i64 (tn st.f)) rfl
      have a6 := hcell 6 (.int .i64 (tn st.g)) rfl
      have a7 := hcell 7 (.int .i64 (tn st.h)) rfl
      have EX : Hid (run (j + 1) H0 L = Sha.step st ((L.drop (64 * j)).take 64)) := by rw [Hid, run_last, est]
      clear hcell est
      have i1 : IntKind.i64.wrap (64 * (j : Int) + 64) = 64 * (j : Int) + 64 := IntWalk.i64_in _ (by omega)
      have g1 : 0 ≤ 64 * (j : Int) := by omega
      have g2 : 64 * (j : Int) ≤ 64 * (j : Int) + 64 := by omega
      have g3 : 64 * (j : Int) + 64 ≤ (cap : Int) := by omega
      have k1 : (64 * (j : Int)).toNat = 64 * j := by omega
      have k2 : (64 * (j : Int) + 64).toNat = 64 * j + 64 := by omega
      have k3 : ¬ cap = 64 * j := by omega
      have k4 : 64 * j + 64 - 64 * j = 64 := by omega
      go_wp2
      go_still_tail 6, (by kernel_rfl)
      change wpList _ _ _ _ _ (wr.drewN 1)
      replace ho := ho.drewN 1
      replace hh := hh.drewN 1
      replace hb := below_drewN hb 1
      have hk2 : ∀ k, k < w2.heap.size → k ≠ w.heap.size + 1 → (wr.drewN 1).heap[k]? = w2.heap[k]? := HK.out
      have hz2 : w2.heap.size ≤ (wr.drewN 1).heap.size := hz
      generalize wr.drewN 1 = w3 at ho hh hb hk2 hz2 ⊢
      clear hz HK a0 a1 a2 a3 a4 a5 a6 a7 i1 g1 g2 g3 k1 k2 k3 k4
      go_wp2_with fail
      refine (rstep_any st ((L.drop (64 * j)).take 64) g (64 * j) (cap - 64 * j) w3 (by omega) (fun i hi => ?_)).mono ?_
      · have e : w3.cell? ⟨g, 64 * j + i, none⟩ = w2.cell? ⟨g, 64 * j + i, none⟩ := World.cell?_of_block (w := w2) (hk2 g hgs (by have := HG.out; omega))
        rw [e, HC.out (64 * j + i) (by omega)]
        congr 2
        rw [List.getD_eq_getElem?_getD, List.getD_eq_getElem?_getD, List.getElem?_take, if_pos hi, List.getElem?_drop]
      rintro e w4 ⟨rfl, hb4⟩
      have ho4 := ho.below hb4 ho.lt
      have hh4 := hh.below hb4 hh.lt
      have hb5 := hb.trans (hb4.mono hb.size)
      have hk4 : ∀ k, k < w2.heap.size → k ≠ w.heap.size + 1 → w4.heap[k]? = w2.heap[k]? := fun k hk hne => by rw [hb4.block k (by omega)]; exact hk2 k hk hne
      have hz4 : w2.heap.size ≤ w4.heap.size := by have := hb4.size; omega
      clear ho hh hb hk2 hz2 hb4
      rw [← EX.out]
      dsimp only
      go_step
      refine wpList_store_row rfl 54 _ _ rfl (w.heap.size + 1) _ rfl rfl 54 _ hh4 (by kernel_rfl) rfl (nCells_one _) ?_
      have ho5 : Blk (w4.setRow (w.heap.size + 1) (nCells (run (j + 1) H0 L).words)) w.heap.size (bCells z32) 22 := by unfold Blk; rw [setRow_other _ _ _ _ (by omega)]; exact ho4
      have hh5 : Blk (w4.setRow (w.heap.size + 1) (nCells (run (j + 1) H0 L).words)) (w.heap.size + 1) (nCells (run (j + 1) H0 L).words) 54 := setRow_heap _ _ _ _ _ _ hh4
      have hb6 : Below w.heap.size w (w4.setRow (w.heap.size + 1) (nCells (run (j + 1) H0 L).words)) := below_setRow hb5 (by omega) _
      have hk5 : ∀ k, k < w2.heap.size → k ≠ w.heap.size + 1 → (w4.setRow (w.heap.size + 1) (nCells (run (j + 1) H0 L).words)).heap[k]? = w2.heap[k]? := fun k hk hne => by rw [setRow_other _ _ _ _ hne]; exact hk4 k hk hne
      have hz5 : w2.heap.size ≤ (w4.setRow (w.heap.size + 1) (nCells (run (j + 1) H0 L).words)).heap.size := by simp; exact hz4
      generalize w4.setRow (w.heap.size + 1) (nCells (run (j + 1) H0 L).words) = w5 at ho5 hh5 hb6 hk5 hz5 ⊢
      have HK5 := Lib.hid hk5
      clear hk5 hk4 ho4 hh4 hb5 hz4
      go_wp2
      go_roundw
      case rel => exact ⟨j + 1, by omega, by congr 1, ho5, hh5, HK5.out, hb6, hz5⟩
      case measure => simp [intOf]; omega
    · obtain rfl : j = q := by omega
      have HS : Hid (sum s.data.toList = out (run j H0 L)) := by
        have := HQ.out
        unfold Hid sum
        rw [← HL.out, this, Nat.mul_div_cancel_left _ (by decide)]
      obtain ⟨st, est⟩ : ∃ st, st = run j H0 L := ⟨_, rfl⟩
      rw [← est] at hh HS
      clear hlt hj HK hgs HC hcap hqs est HQ
      have hob : w.heap.size + 1 < wr.heap.size := hh.lt
      have h2 : OU st w wr.heap.size 0 (wr.alloc (.cells (bCells z32) 22)) :=
        ⟨ho.alloc _, Blk.new _ _ _, hh.alloc _, hb.alloc hb.size _, hob⟩
      go_wp2
      change Code.wp _ _ _ _ (wr.alloc (.cells (bCells z32) 22))
      generalize wr.heap.size = ob at h2 ⊢
      generalize wr.alloc (.cells (bCells z32) 22) = w6 at h2 ⊢
      clear ho hh hb hz hob
      go_loopw [7] (fun i wr => ∃ t : Nat, t ≤ 32 ∧ i = .int .i64 t ∧ OU st w ob t wr) (fun i _ => 32 - (intOf i).toNat)
      case atStart => exact ⟨0, by omega, rfl, h2⟩
      case round =>
        clear h2
        obtain ⟨t, ht, rfl, hw⟩ := hrel
        by_cases h32 : t < 32
        · obtain ⟨a, ha⟩ : ∃ a, a = t / 4 := ⟨_, rfl⟩
          obtain ⟨c, hc⟩ : ∃ c, c = t % 4 := ⟨_, rfl⟩
          have cw : wr.cell? ⟨w.heap.size + 1, a, none⟩ = some (.int .i64 (tn (st.words.getD a 0))) := by
            rw [hw.st.cell]; exact nCells_at _ _ (by show a < 8; omega)
          obtain ⟨y, hy⟩ : ∃ y, y = st.words.getD a 0 := ⟨_, rfl⟩
          rw [← hy] at cw
          have ct : wr.cell? ⟨ob, t, none⟩ = some (by8 ((outL st t).getD t 0)) := by
            rw [hw.out.cell]; exact bCells_at _ _ (by rw [len_outL _ _ (by omega)]; omega)
          have cf : wr.frozen? ⟨ob, t, none⟩ = false := hw.out.free _
          unfold by8 at ct
          have q1 : IntKind.i64.wrap ((t : Int).tdiv 4) = (a : Int) := by
            rw [Int.tdiv_eq_ediv_of_nonneg (by omega), ha]; exact IntWalk.i64_in _ (by omega)
          have q2 : (t : Int).tmod 4 = (c : Int) := by rw [Int.tmod_eq_emod_of_nonneg (by omega), hc]; omega
          have p1 : IntKind.i64.wrap ((t : Int) / 4) = (a : Int) := by rw [ha]; exact IntWalk.i64_in _ (by omega)
          have p2 : (t : Int) % 4 = (c : Int) := by rw [hc]; omega
          have q3 : IntKind.i64.wrap ((c : Int) * 8) = (c : Int) * 8 := IntWalk.i64_in _ (by omega)
          have q4 : IntKind.i64.wrap (24 - (c : Int) * 8) = 24 - (c : Int) * 8 := IntWalk.i64_in _ (by omega)
          have q5 : (a : Int) < 8 := by omega
          have hdp : 1 ≤ tw (24 - (c : Int) * 8) := pow_pos2 _
          have hd0 : tw (24 - (c : Int) * 8) ≠ 0 := by omega
          have hdb : (tw (24 - (c : Int) * 8) == 0) = false := by simpa using hd0
          have HB : Hid (IntKind.u8.wrap ((IntKind.i64.wrap ((tn y).tdiv (tw (24 - (c : Int) * 8)))).tmod 256) = ((outB st t).toNat : Int)) := by
            unfold Hid outB
            rw [byte_of, ← hc, ← ha, ← hy]
            exact out_wrap y _ _ (by unfold tw; congr 1; omega)
          have hc3 : c ≤ 3 := by omega
          clear ha hc hy
          go_wp2
          refine wp_region_still_tail 14 (by kernel_rfl) (by kernel_rfl) ?_
          simp only [List.take_succ_cons, List.take_zero, List.drop_succ_cons, List.drop_zero]
          repeat still_step
          still_call (two_tw _ (by omega) _)
          repeat still_step
          refine wpStill_nil ?_
          change wpList _ _ _ _ _ (wr.drewN 1)
          have hd := hw.drewN 1
          replace ct : (wr.drewN 1).cell? ⟨ob, t, none⟩ = _ := ct
          replace cf : (wr.drewN 1).frozen? ⟨ob, t, none⟩ = _ := cf
          generalize wr.drewN 1 = w7 at hd ct cf ⊢
          clear hw cw p1 p2 q1 q2 q3 q4 q5 hdp hd0 hdb
          go_wp2
          go_roundw
          case rel =>
            refine ⟨t + 1, by omega, by simp, ?_⟩
            have := hd.put h32
            rw [← HB.out] at this
            rw [IntKind.wrap_u8, IntWalk.i64_left] at this
            exact this
          case measure => simp [intOf]; omega
        · obtain rfl : t = 32 := by omega
          clear ht h32
          rw [show ((32 : Nat) : Int) = 32 from rfl]
          have ho := hw.out
          rw [outL_all] at ho
          go_upto_region 12 with fail
          refine wp_region_lit ?_
          refine wpList_load_row rfl 22 _ rfl ob rfl 22 _ (0, 0) _ ho Tryd.underlying22 rfl (by rw [bCells_size, len_out]; kernel_rfl) ?_
          refine wpList_store_row rfl 22 _ _ rfl w.heap.size _ rfl rfl 22 _ hw.res (by rw [bCells_size, len_out]; kernel_rfl) (by rw [bCells_size, bCells_size, len_out]; rfl) (bCells_one _) ?_
          go_wp2
          refine bodyPost_ret (v := .agg (bCells (out st))) (results_cell_row rfl _ _ w.heap.size 22 _ (0, 0) _ rfl (setRow_heap _ _ _ _ _ _ hw.res) Tryd.underlying22 rfl (by rw [bCells_size, len_out]; kernel_rfl)) rfl ⟨?_, ?_⟩
          · rw [HS.out]
          · exact below_setRow hw.below (Nat.le_refl _) _
end Go.Proofs.YtdchgojnmfoffaaDoor.Sha
