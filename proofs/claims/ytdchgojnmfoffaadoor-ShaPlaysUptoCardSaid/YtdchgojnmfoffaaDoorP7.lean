/-
  The walk of ShaPlays.
-/
import Derived.Test.YtdchgojnmfoffaaDoorP6
namespace Go.Proofs.YtdchgojnmfoffaaDoor.Sha
open Go Go.RowKit

def ps0 : PS := { h := fun _ => .pointer none, T := fun _ => [], B := fun _ => false, own := fun _ => 0 }
theorem PS.ok.setCells3 {s : PS} {w : World} {N lb bd k : Nat} (h : s.ok w N lb bd) (hk : k < 3) (h0 : Value) (T : List UInt8) (B : Bool) (own : Nat) (w1 : World) (hb : Below w.heap.size w w1) (hp : Place w1 N lb bd h0 T B own) (hfr : h0 ≠ .pointer none → w.heap.size ≤ own) (hne : h0 ≠ .pointer none → own ≠ lb) :
    (s.put k h0 T B own).ok (((w1.setCell ⟨lb, 3 * k, none⟩ h0).setCell ⟨lb, 3 * k + 1, none⟩ (.string (strL T))).setCell ⟨lb, 3 * k + 2, none⟩ (.bool B)) N lb bd := by
  have hl := ((((h.arr.below hb h.arr.lt).set (3 * k) h0).set (3 * k + 1) (.string (strL T))).set (3 * k + 2) (.bool B))
  have hE : Ex (fun q => q = lb) w.heap.size w (((w1.setCell ⟨lb, 3 * k, none⟩ h0).setCell ⟨lb, 3 * k + 1, none⟩ (.string (strL T))).setCell ⟨lb, 3 * k + 2, none⟩ (.bool B)) :=
    Ex.setCell (S := fun q => q = lb) (Ex.setCell (S := fun q => q = lb) (Ex.setCell (S := fun q => q = lb) (Ex.of_below hb) lb (3 * k) (.inl rfl) h0) lb (3 * k + 1) (.inl rfl) _) lb (3 * k + 2) (.inl rfl) _
  refine h.lay hk (hp.same (Nat.le_refl _) (fun hn _ => ?_)) hfr hl hE
  rw [Below.heap_setCell _ _ _ _ (hne hn), Below.heap_setCell _ _ _ _ (hne hn), Below.heap_setCell _ _ _ _ (hne hn)]

/-- The cells of a zero hash. -/
def z40 : Array Value := #[.bool false, .int .u32 0, .int .u32 0, .int .u32 0, .int .u32 0, .int .u32 0, .int .u32 0, .int .u32 0, .int .u32 0, .int .u8 0, .int .u8 0, .int .u8 0, .int .u8 0, .int .u8 0, .int .u8 0, .int .u8 0, .int .u8 0, .int .u8 0, .int .u8 0, .int .u8 0, .int .u8 0, .int .u8 0, .int .u8 0, .int .u8 0, .int .u8 0, .int .u8 0, .int .u8 0, .int .u8 0, .int .u8 0, .int .u8 0, .int .u8 0, .int .u8 0, .int .u8 0, .int .u8 0, .int .u8 0, .int .u8 0, .int .u8 0, .int .u8 0, .int .u8 0, .int .u8 0, .int .u8 0, .int .u8 0, .int .u8 0, .int .u8 0, .int .u8 0, .int .u8 0, .int .u8 0, .int .u8 0, .int .u8 0, .int .u8 0, .int .u8 0, .int .u8 0, .int .u8 0, .int .u8 0, .int .u8 0, .int .u8 0, .int .u8 0, .int .u8 0, .int .u8 0, .int .u8 0, .int .u8 0, .int .u8 0, .int .u8 0, .int .u8 0, .int .u8 0, .int .u8 0, .int .u8 0, .int .u8 0, .int .u8 0, .int .u8 0, .int .u8 0, .int .u8 0, .int .u8 0, .int .i64 0]
/-- The script, as it lies in memory. -/
def Script (w : World) (sp : Option Addr) (n : Nat) : Prop :=
  0 < n → ∃ blk off, sp = some ⟨blk, off, none⟩ ∧ blk < w.heap.size ∧ ∀ i, i < n → ∃ (kd on : Int) (v : Value) (l : List UInt8),
    w.cell? ⟨blk, off + i * 3, none⟩ = some (.int .i64 kd) ∧ w.cell? ⟨blk, off + i * 3 + 1, none⟩ = some (.int .i64 on) ∧ w.cell? ⟨blk, off + i * 3 + 2, none⟩ = some v ∧ Inp w v l ∧ l.length ≤ 1048576
theorem mod3 (on : Int) : ∃ k : Nat, k < 3 ∧ ((0 ≤ on.tmod 3 ∧ on.tmod 3 = (k : Int)) ∨ (on.tmod 3 < 0 ∧ on.tmod 3 + 3 = (k : Int))) := by
  have h1 := Int.tmod_lt_of_pos on (show (0 : Int) < 3 by decide)
  have h2 : -3 < on.tmod 3 := by
    rw [Int.tmod_eq_emod]
    split <;> simp <;> omega
  by_cases h : 0 ≤ on.tmod 3
  · exact ⟨(on.tmod 3).toNat, by omega, .inl ⟨h, by omega⟩⟩
  · exact ⟨(on.tmod 3 + 3).toNat, by omega, .inr ⟨by omega, by omega⟩⟩

set_option maxRecDepth 100000 in
set_option maxHeartbeats 2000000 in
theorem plays_walk (w : World) (hG : Glob w) (sp : Option Addr) (n cap : Nat) (hSc : Script w sp n) (hn : n ≤ cap) (hcap : cap ≤ 9223372036854775807) :
    Calls Tryd.prog 4 #[.slice sp n cap] w fun e w' => e = .returned (.bool true) ∧ Below w.heap.size w w' := by
  go_enter Tryd.func4, Tryd.ntmps4
  go_wp2
  go_loopw [4] (fun i wr => ∃ (t : Nat) (s : PS), t ≤ 3 ∧ i = .int .i64 t ∧ s.ok wr w.heap.size w.heap.size 0 ∧ Below w.heap.size w wr) (fun i _ => 3 - (intOf i).toNat)
  case atStart =>
    refine ⟨0, ps0, by omega, rfl, ⟨Blk.new _ _ _, fun j hj => ⟨by simp [ps0], .inr ⟨rfl, .inl rfl⟩⟩, fun i j _ _ _ h _ => absurd rfl h, Nat.le_refl _⟩, (Below.refl _ _).alloc (Nat.le_refl _) _⟩
  case round =>
    obtain ⟨t, s, ht, rfl, hs, hb⟩ := hrel
    by_cases h3 : t < 3
    · have g1 : (t : Int) < 3 := by omega
      have HS := Lib.hid hs
      have HB := Lib.hid hb
      clear hs hb
      go_wp2_with fail
      refine (new_any wr (hG.below HB.out hG.size)).mono ?_
      rintro e w1 ⟨rfl, rfl⟩
      have hal : Below wr.heap.size wr (wr.alloc (.cells hs0.cells 40)) := (Below.refl _ _).alloc (Nat.le_refl _) _
      have hnb := Blk.new wr hs0.cells 40
      have ha := HS.out.arr.below hal HS.out.arr.lt
      have hlt := HS.out.arr.lt
      have hNe : wr.heap.size ≠ w.heap.size := by omega
      have a0 : (wr.alloc (.cells hs0.cells 40)).cell? ⟨w.heap.size, t * 3, none⟩ = some (s.h t) := by rw [Nat.mul_comm, ha.cell]; exact s.at0 t h3
      have a1 : (wr.alloc (.cells hs0.cells 40)).cell? ⟨w.heap.size, t * 3 + 1, none⟩ = some (.string (strL (s.T t))) := by rw [Nat.mul_comm, ha.cell]; exact s.at1 t h3
      have a2 : (wr.alloc (.cells hs0.cells 40)).cell? ⟨w.heap.size, t * 3 + 2, none⟩ = some (.bool (s.B t)) := by rw [Nat.mul_comm, ha.cell]; exact s.at2 t h3
      have f0 : (wr.alloc (.cells hs0.cells 40)).frozen? ⟨w.heap.size, t * 3, none⟩ = false := ha.free _
      have f1 : (wr.alloc (.cells hs0.cells 40)).frozen? ⟨w.heap.size, t * 3 + 1, none⟩ = false := ha.free _
      have f2 : (wr.alloc (.cells hs0.cells 40)).frozen? ⟨w.heap.size, t * 3 + 2, none⟩ = false := ha.free _
      have hnew := HS.out.setCells3 h3 (.pointer (some ⟨wr.heap.size, 0, none⟩)) [] true wr.heap.size (wr.alloc (.cells hs0.cells 40)) hal ⟨by simp, .inl ⟨rfl, rfl, HB.out.size, hNe, hs0, took0, hnb⟩⟩ (fun _ => Nat.le_refl _) (fun _ => hNe)
      rw [Nat.mul_comm] at hnew
      have HNEW := Lib.hid hnew
      have HBB : Hid (Below w.heap.size w ((((wr.alloc (.cells hs0.cells 40)).setCell ⟨w.heap.size, t * 3, none⟩ (.pointer (some ⟨wr.heap.size, 0, none⟩))).setCell ⟨w.heap.size, t * 3 + 1, none⟩ (.string (strL []))).setCell ⟨w.heap.size, t * 3 + 2, none⟩ (.bool true))) :=
        (((HB.out.trans (hal.mono HB.out.size)).setCell (by simp) _).setCell (by simp) _).setCell (by simp) _
      clear hal hnb ha hnew hlt hNe
      generalize wr.alloc (.cells hs0.cells 40) = w1 at a0 a1 a2 f0 f1 f2 HNEW HBB ⊢
      go_wp2
      go_roundw
      case rel => exact ⟨t + 1, _, by omega, by simp, HNEW.out, HBB.out⟩
      case measure => simp [intOf]; omega
    · obtain rfl : t = 3 := by omega
      clear ht h3
      rw [show ((3 : Nat) : Int) = 3 from rfl]
      have HSC := Lib.hid hSc
      clear hSc
      go_upto_block 2 with fail
      go_cut [5] from 10 (fun s5 wx => ∃ s2 : PS, s2.ok wx w.heap.size w.heap.size 314572800 ∧ Below w.heap.size w wx)
      case first =>
        go_wp2_with fail
        go_loopw [5] (fun i wr => ∃ (t : Nat) (s : PS), t ≤ n ∧ t ≤ 300 ∧ i = .int .i64 t ∧ s.ok wr w.heap.size w.heap.size (t * 1048576) ∧ Below w.heap.size w wr) (fun i _ => n - (intOf i).toNat)
        case atStart => exact ⟨0, s, by omega, by omega, rfl, by simpa using hs, hb⟩
        case round =>
        clear hs hb
        obtain ⟨t, s, ht, ht3, rfl, hs, hb⟩ := hrel
        by_cases h1 : t < n
        · by_cases h2 : t < 300
          · obtain ⟨blk, off, rfl, hblk, hall⟩ := HSC.out (by omega)
            obtain ⟨kd, on, v, l, d0, d1, d2, hI, hl⟩ := hall t h1
            obtain ⟨vb, vc, hvv⟩ : ∃ b c, v = .slice b l.length c := by
              obtain ⟨b, c, h, _⟩ := hI
              exact ⟨b, c, h⟩
            subst hvv
            have c0 : wr.cell? ⟨blk, off + t * 3, none⟩ = some (.int .i64 kd) := by rw [hb.cell (p := ⟨blk, _, none⟩) hblk]; exact d0
            have c1 : wr.cell? ⟨blk, off + t * 3 + 1, none⟩ = some (.int .i64 on) := by rw [hb.cell (p := ⟨blk, _, none⟩) hblk]; exact d1
            have c2 : wr.cell? ⟨blk, off + t * 3 + 2, none⟩ = some (.slice vb l.length vc) := by rw [hb.cell (p := ⟨blk, _, none⟩) hblk]; exact d2
            have HI := Lib.hid hI
            obtain ⟨k, hk3, hk⟩ := mod3 on
            have HK := Lib.hid hk
            have HS := Lib.hid hs
            have HB := Lib.hid hb
            clear hall d0 d1 d2 hI hk hs hb
            have g1 : (t : Int) < (n : Int) := by omega
            have g2 : (t : Int) < 300 := by omega
            go_upto_region 10 with fail
            have hal : Below wr.heap.size wr (wr.alloc (.cells #[.int .i64 kd, .int .i64 on, .slice vb l.length vc] 33)) := (Below.refl _ _).alloc (Nat.le_refl _) _
            have hob := Blk.new wr #[.int .i64 kd, .int .i64 on, .slice vb l.length vc] 33
            have HS2 := Lib.hid (HS.out.below hal)
            have HB2 := Lib.hid (HB.out.trans (hal.mono HB.out.size))
            have HQ : Hid (w.heap.size < wr.heap.size) := HS.out.arr.lt
            clear hal HS HB c0 c1 c2
            generalize wr.alloc (.cells #[.int .i64 kd, .int .i64 on, .slice vb l.length vc] 33) = w1 at hob HS2 HB2 ⊢
            generalize wr.heap.size = q at hob HQ ⊢
            have o0 := hob.cell 0
            have o1 := hob.cell 1
            have o2 := hob.cell 2
            simp only [List.getElem?_toArray, List.getElem?_cons_zero, List.getElem?_cons_succ] at o0 o1 o2
            clear hob
            go_upto_if 36 with fail
            go_cut [7] from 32 to 38 (fun s7 wx => s7 = .int .i64 (k : Int) ∧ wx = w1)
            case first =>
              rcases HK.out with ⟨hk1, hk2⟩ | ⟨hk1, hk2⟩
              · have hk3 : ¬ on.tmod 3 < 0 := by omega
                go_wp2
                go_meet
                exact ⟨by first | rfl | rw [hk2], rfl⟩
              · have hk3 : IntKind.i64.wrap (on.tmod 3 + 3) = on.tmod 3 + 3 := IntWalk.i64_in _ (by omega)
                go_wp2
                go_meet
                exact ⟨by first | rfl | rw [← hk2], rfl⟩
            case rest =>
            obtain ⟨rfl, rfl⟩ := hcut
            have hk4 : (k : Int) < 3 := by omega
            have p0 := HS2.out.arr.cell (k * 3)
            have p2 := HS2.out.arr.cell (k * 3 + 2)
            rw [Nat.mul_comm, s.at0 k hk3] at p0
            rw [Nat.mul_comm, s.at2 k hk3] at p2
            rw [Nat.mul_comm] at p0 p2
            go_upto_region 13 with fail
            go_cut [49] from 39 to 48 (fun s49 wx => s49 = .bool false ∧ Hid (s.ok wx w.heap.size w.heap.size (t * 1048576)) ∧ Hid (Below w.heap.size w wx) ∧ wx.cell? ⟨q, 0, none⟩ = some (.int .i64 kd) ∧ wx.cell? ⟨q, 1, none⟩ = some (.int .i64 on) ∧ wx.cell? ⟨q, 2, none⟩ = some (.slice vb l.length vc))
            case first =>
              rcases (HS2.out.each k hk3).2 with ⟨hB, hh, _⟩ | ⟨hB, _⟩
              · rw [hB] at p2
                rw [hh] at p0
                go_wp2
                go_meet
                exact ⟨rfl, HS2, HB2, o0, o1, o2⟩
              · rw [hB] at p2
                go_wp2
                go_meet
                exact ⟨rfl, HS2, HB2, o0, o1, o2⟩
            case rest =>
            clear p0 p2 HS2 HB2 o0 o1 o2
            obtain ⟨rfl, HS2, HB2, o0, o1, o2⟩ := hcut
            by_cases k1 : kd = 1
            · subst k1
              have hc := place_write w wc.drew hG (below_drewN HB2.out 1) s w.heap.size (t * 1048576) k (HS2.out.drewN 1) hk3 (.slice vb l.length vc) l HI.out (by omega) (by omega)
              rw [Nat.mul_comm 3 k] at hc
              have HC := Lib.hid hc
              clear hc
              go_upto_region 17 with fail
              go_cut [59] from 54 to 58 (fun s59 wx => s59 = .bool false ∧ ∃ s' : PS, Hid (s'.ok wx w.heap.size w.heap.size (t * 1048576 + l.length)) ∧ Hid (Below w.heap.size w wx))
              case first =>
                go_region_with (go_at_call 13; go_must (refine HC.out.mono ?_; rintro e w9 ⟨rfl, s', hs9, hb9⟩; have HS8 := Lib.hid hs9; have HB8 := Lib.hid hb9; clear hs9 hb9))
                all_goals (
                  go_wp2_with fail
                  go_meet
                  exact ⟨rfl, s', HS8, HB8⟩)
              case rest =>
                obtain ⟨rfl, s', HS8, HB8⟩ := hcut
                go_wp2
                go_roundw
                case rel => exact ⟨t + 1, s', by omega, by omega, by simp, HS8.out.mono (by omega), HB8.out⟩
                case measure => simp [intOf]; omega
            by_cases k2 : kd = 2
            · subst k2
              have hc := place_right w wc.drew hG (below_drewN HB2.out 1) s w.heap.size _ k (HS2.out.drewN 1) hk3 (by omega) 2 (.inl rfl)
              rw [Nat.mul_comm] at hc
              have HC := Lib.hid hc
              clear hc
              go_upto_region 21 with fail
              go_cut [68] from 63 to 67 (fun s68 wx => s68 = .bool false ∧ Hid (s.ok wx w.heap.size w.heap.size (t * 1048576)) ∧ Hid (Below w.heap.size w wx))
              case first =>
                go_region_with (go_at_call 14; go_must (refine HC.out.mono ?_; rintro e w9 ⟨rfl, hb9⟩; have hb8 : Below wc.heap.size wc w9 := (below_drewN (Below.refl _ wc) 1).trans hb9; have HS8 := Lib.hid (HS2.out.below hb8); have HB8 := Lib.hid (HB2.out.trans (hb8.mono HB2.out.size)); clear hb8 hb9))
                all_goals (
                  go_wp2_with fail
                  go_meet
                  exact ⟨rfl, HS8, HB8⟩)
              case rest =>
                obtain ⟨rfl, HS8, HB8⟩ := hcut
                go_wp2
                go_roundw
                case rel => exact ⟨t + 1, s, by omega, by omega, by simp, HS8.out.mono (by omega), HB8.out⟩
                case measure => simp [intOf]; omega
            by_cases k3 : kd = 3
            · subst k3
              have hc := place_right w wc.drew hG (below_drewN HB2.out 1) s w.heap.size _ k (HS2.out.drewN 1) hk3 (by omega) 3 (.inr rfl)
              rw [Nat.mul_comm] at hc
              have HC := Lib.hid hc
              clear hc
              go_upto_region 21 with fail
              go_cut [68] from 63 to 67 (fun s68 wx => s68 = .bool false ∧ Hid (s.ok wx w.heap.size w.heap.size (t * 1048576)) ∧ Hid (Below w.heap.size w wx))
              case first =>
                go_region_with (go_at_call 14; go_must (refine HC.out.mono ?_; rintro e w9 ⟨rfl, hb9⟩; have hb8 : Below wc.heap.size wc w9 := (below_drewN (Below.refl _ wc) 1).trans hb9; have HS8 := Lib.hid (HS2.out.below hb8); have HB8 := Lib.hid (HB2.out.trans (hb8.mono HB2.out.size)); clear hb8 hb9))
                all_goals (
                  go_wp2_with fail
                  go_meet
                  exact ⟨rfl, HS8, HB8⟩)
              case rest =>
                obtain ⟨rfl, HS8, HB8⟩ := hcut
                go_wp2
                go_roundw
                case rel => exact ⟨t + 1, s, by omega, by omega, by simp, HS8.out.mono (by omega), HB8.out⟩
                case measure => simp [intOf]; omega
            by_cases k4 : kd = 4
            · subst k4
              have hA := HS2.out.arr
              have p0 := hA.cell (k * 3)
              have p1 := hA.cell (k * 3 + 1)
              have p2 := hA.cell (k * 3 + 2)
              rw [Nat.mul_comm, s.at0 k hk3] at p0
              rw [Nat.mul_comm, s.at1 k hk3] at p1
              rw [Nat.mul_comm, s.at2 k hk3] at p2
              rw [Nat.mul_comm] at p0 p1 p2
              clear hA
              go_upto_region 24 with fail
              go_cut [8] from 71 to 75 (fun s8 wx => ∃ (own : Nat) (w0 : World), ((s8 = .pointer (some ⟨own, 0, none⟩) ∧ s.B k = true) ∨ (s8 = .pointer none ∧ s.B k = false)) ∧ Hid (s.ok w0 w.heap.size w.heap.size (t * 1048576)) ∧ Hid (Below w.heap.size w w0) ∧ Hid (Below w0.heap.size w0 wx) ∧ Hid (Place wx w.heap.size w.heap.size (t * 1048576) s8 (s.T k) (s.B k) own) ∧ Hid (s8 ≠ .pointer none → w0.heap.size ≤ own ∧ own ≠ w.heap.size))
              case first =>
                have hPl := HS2.out.each k hk3
                rcases hPl.2 with ⟨hB, hh, hN, hne, x, hx, hp⟩ | ⟨hB, hh | ⟨hh, hN, hne, c, hc, hc0, hc73⟩⟩
                · rw [hh] at p0
                  go_wp2_with fail
                  refine (clone_any wc (s.own k) x hx.b hp).mono ?_
                  rintro e w9 ⟨rfl, rfl⟩
                  have hal : Below wc.heap.size wc (wc.alloc (.cells x.cells 40)) := (Below.refl _ _).alloc (Nat.le_refl _) _
                  have hnb := Blk.new wc x.cells 40
                  have hlt := HS2.out.arr.lt
                  have hNe : wc.heap.size ≠ w.heap.size := by omega
                  have HP9 : Hid (Place (wc.alloc (.cells x.cells 40)) w.heap.size w.heap.size (t * 1048576) (.pointer (some ⟨wc.heap.size, 0, none⟩)) (s.T k) (s.B k) wc.heap.size) := Lib.hid ⟨hPl.1, .inl ⟨hB, rfl, HB2.out.size, hNe, x, hx, hnb⟩⟩
                  have HF9 : Hid (Value.pointer (some ⟨wc.heap.size, 0, none⟩) ≠ .pointer none → wc.heap.size ≤ wc.heap.size ∧ wc.heap.size ≠ w.heap.size) := Lib.hid (fun _ => ⟨Nat.le_refl _, hNe⟩)
                  have HC9 := Lib.hid hal
                  clear hal hnb hPl hx hp p0 p1 p2 hlt hNe
                  generalize wc.alloc (.cells x.cells 40) = w9 at HP9 HC9 ⊢
                  go_wp2
                  go_meet
                  exact ⟨wc.heap.size, wc, .inl ⟨rfl, hB⟩, HS2, HB2, HC9, HP9, HF9⟩
                · rw [hh] at p0
                  go_wp2_with fail
                  refine (clone_nil wc).mono ?_
                  rintro e w9 ⟨rfl, rfl⟩
                  go_wp2
                  go_meet
                  exact ⟨0, _, .inr ⟨rfl, hB⟩, HS2, HB2, Lib.hid (Below.refl _ _), Lib.hid ⟨hPl.1, .inr ⟨hB, .inl rfl⟩⟩, Lib.hid (fun h => absurd rfl h)⟩
                · rw [hh] at p0
                  go_wp2_with fail
                  refine (clone_zero wc (s.own k) (by rw [hc.cell]; exact hc0)).mono ?_
                  rintro e w9 ⟨rfl, rfl⟩
                  go_wp2
                  go_meet
                  exact ⟨0, _, .inr ⟨rfl, hB⟩, HS2, HB2, Lib.hid (Below.refl _ _), Lib.hid ⟨hPl.1, .inr ⟨hB, .inl rfl⟩⟩, Lib.hid (fun h => absurd rfl h)⟩
              case rest =>
                obtain ⟨own, w0, hc8, HS9, HB9, HC9, HP9, HF9⟩ := hcut
                clear p0 p1 p2 HS2 HB2 o0 o1 o2
                have hA := (HS9.out.below HC9.out).arr
                have p1 := hA.cell (k * 3 + 1)
                have p2 := hA.cell (k * 3 + 2)
                rw [Nat.mul_comm, s.at1 k hk3] at p1
                rw [Nat.mul_comm, s.at2 k hk3] at p2
                rw [Nat.mul_comm] at p1 p2
                clear hA
                go_upto_region 25 with fail
                go_cut [82] from 76 to 81 (fun s82 wx => s82 = .bool false ∧ wx = wc)
                case first =>
                  rcases hc8 with ⟨rfl, hB⟩ | ⟨rfl, hB⟩
                  · rw [hB] at p2
                    go_wp2
                    go_meet
                    exact ⟨rfl, rfl⟩
                  · rw [hB] at p2
                    go_wp2
                    go_meet
                    exact ⟨rfl, rfl⟩
                case rest =>
                obtain ⟨rfl, rfl⟩ := hcut
                obtain ⟨k', hk'⟩ : ∃ k' : Nat, k' = (k + 1) % 3 := ⟨_, rfl⟩
                have hk'3 : k' < 3 := by omega
                have gk1 : IntKind.i64.wrap ((k : Int) + 1) = (k : Int) + 1 := IntWalk.i64_in _ (by omega)
                have gk2 : ((k : Int) + 1).tmod 3 = (k' : Int) := by rw [Int.tmod_eq_emod_of_nonneg (by omega)]; omega
                have gk3 : (k' : Int) < 3 := by omega
                have hA := (HS9.out.below HC9.out).arr
                have d0 := hA.cell (k' * 3)
                have d1 := hA.cell (k' * 3 + 1)
                have d2 := hA.cell (k' * 3 + 2)
                rw [Nat.mul_comm, s.at0 k' hk'3] at d0
                rw [Nat.mul_comm, s.at1 k' hk'3] at d1
                rw [Nat.mul_comm, s.at2 k' hk'3] at d2
                rw [Nat.mul_comm] at d0 d1 d2
                have f0 := hA.free (k' * 3)
                have f1 := hA.free (k' * 3 + 1)
                have f2 := hA.free (k' * 3 + 2)
                clear hA hk'
                obtain ⟨a8, rfl⟩ : ∃ a8, u8 = .pointer a8 := by rcases hc8 with ⟨h, _⟩ | ⟨h, _⟩ <;> exact ⟨_, h⟩
                clear hc8
                have hnew := HS9.out.setCells3 hk'3 (.pointer a8) (s.T k) (s.B k) own wc.drew (below_drewN HC9.out 1) (HP9.out.same (Nat.le_refl _) (fun _ _ => rfl)) (fun h => (HF9.out h).1) (fun h => (HF9.out h).2)
                rw [Nat.mul_comm] at hnew
                have HNEW := Lib.hid hnew
                have hBB := below_drewN (HB9.out.trans (HC9.out.mono HB9.out.size)) 1
                have HBB := Lib.hid (((hBB.setCell (p := ⟨w.heap.size, k' * 3, none⟩) (Nat.le_refl _) (.pointer a8)).setCell (p := ⟨w.heap.size, k' * 3 + 1, none⟩) (Nat.le_refl _) (.string (strL (s.T k)))).setCell (p := ⟨w.heap.size, k' * 3 + 2, none⟩) (Nat.le_refl _) (.bool (s.B k)))
                clear hnew hBB
                go_upto_region 27 with fail
                go_region
                go_wp2
                go_roundw
                case rel => exact ⟨t + 1, _, by omega, by omega, by simp, HNEW.out.mono (by omega), HBB.out⟩
                case measure => simp [intOf]; omega
            by_cases k5 : kd = 5
            · subst k5
              go_wp2_with fail
              refine (new_any wc (hG.below HB2.out hG.size)).mono ?_
              rintro e w9 ⟨rfl, rfl⟩
              have hal : Below wc.heap.size wc (wc.alloc (.cells hs0.cells 40)) := (Below.refl _ _).alloc (Nat.le_refl _) _
              have hnb := Blk.new wc hs0.cells 40
              have hA := HS2.out.arr.below hal HS2.out.arr.lt
              have hlt := HS2.out.arr.lt
              have hNe : wc.heap.size ≠ w.heap.size := by omega
              have p0 := hA.cell (k * 3)
              have p1 := hA.cell (k * 3 + 1)
              have p2 := hA.cell (k * 3 + 2)
              rw [Nat.mul_comm, s.at0 k hk3] at p0
              rw [Nat.mul_comm, s.at1 k hk3] at p1
              rw [Nat.mul_comm, s.at2 k hk3] at p2
              rw [Nat.mul_comm] at p0 p1 p2
              have f0 := hA.free (k * 3)
              have f1 := hA.free (k * 3 + 1)
              have f2 := hA.free (k * 3 + 2)
              have hnew := HS2.out.setCells3 hk3 (.pointer (some ⟨wc.heap.size, 0, none⟩)) [] true wc.heap.size (wc.alloc (.cells hs0.cells 40)) hal ⟨by simp, .inl ⟨rfl, rfl, HB2.out.size, hNe, hs0, took0, hnb⟩⟩ (fun _ => Nat.le_refl _) (fun _ => hNe)
              rw [Nat.mul_comm] at hnew
              have HNEW := Lib.hid hnew
              have HBB := Lib.hid ((((HB2.out.trans (hal.mono HB2.out.size)).setCell (p := ⟨w.heap.size, k * 3, none⟩) (Nat.le_refl _) (.pointer (some ⟨wc.heap.size, 0, none⟩))).setCell (p := ⟨w.heap.size, k * 3 + 1, none⟩) (Nat.le_refl _) (.string (strL []))).setCell (p := ⟨w.heap.size, k * 3 + 2, none⟩) (Nat.le_refl _) (.bool true))
              clear hA hnew hal hnb hlt hNe o0 o1 o2
              generalize wc.alloc (.cells hs0.cells 40) = w9 at p0 p1 p2 f0 f1 f2 HNEW HBB ⊢
              go_wp2
              go_roundw
              case rel => exact ⟨t + 1, _, by omega, by omega, by simp, HNEW.out.mono (by omega), HBB.out⟩
              case measure => simp [intOf]; omega
            by_cases k6 : kd = 6
            · subst k6
              have hA := HS2.out.arr
              have p0 := hA.cell (k * 3)
              have p1 := hA.cell (k * 3 + 1)
              have p2 := hA.cell (k * 3 + 2)
              rw [Nat.mul_comm, s.at0 k hk3] at p0
              rw [Nat.mul_comm, s.at1 k hk3] at p1
              rw [Nat.mul_comm, s.at2 k hk3] at p2
              rw [Nat.mul_comm] at p0 p1 p2
              have f0 := hA.free (k * 3)
              have f1 := hA.free (k * 3 + 1)
              have f2 := hA.free (k * 3 + 2)
              have hnew := HS2.out.setCells3 hk3 (.pointer none) [] false 0 _ (Below.refl _ _) ⟨by simp, .inr ⟨rfl, .inl rfl⟩⟩ (fun h => absurd rfl h) (fun h => absurd rfl h)
              rw [Nat.mul_comm] at hnew
              have HNEW := Lib.hid hnew
              have HBB := Lib.hid (((HB2.out.setCell (p := ⟨w.heap.size, k * 3, none⟩) (Nat.le_refl _) (.pointer none)).setCell (p := ⟨w.heap.size, k * 3 + 1, none⟩) (Nat.le_refl _) (.string (strL []))).setCell (p := ⟨w.heap.size, k * 3 + 2, none⟩) (Nat.le_refl _) (.bool false))
              clear hA hnew
              go_wp2
              go_roundw
              case rel => exact ⟨t + 1, _, by omega, by omega, by simp, HNEW.out.mono (by omega), HBB.out⟩
              case measure => simp [intOf]; omega
            by_cases k7 : kd = 7
            · subst k7
              have hz := zero40
              go_upto_region 33 with fail
              refine wp_region_lit ?_
              iterate 9 go_step
              change wpList _ _ _ _ _ (wc.alloc (.cells z40 40))
              have hal : Below wc.heap.size wc (wc.alloc (.cells z40 40)) := (Below.refl _ _).alloc (Nat.le_refl _) _
              have hnb := Blk.new wc z40 40
              have hA := HS2.out.arr.below hal HS2.out.arr.lt
              have hlt := HS2.out.arr.lt
              have hNe : wc.heap.size ≠ w.heap.size := by omega
              have p0 := hA.cell (k * 3)
              have p1 := hA.cell (k * 3 + 1)
              have p2 := hA.cell (k * 3 + 2)
              rw [Nat.mul_comm, s.at0 k hk3] at p0
              rw [Nat.mul_comm, s.at1 k hk3] at p1
              rw [Nat.mul_comm, s.at2 k hk3] at p2
              rw [Nat.mul_comm] at p0 p1 p2
              have f0 := hA.free (k * 3)
              have f1 := hA.free (k * 3 + 1)
              have f2 := hA.free (k * 3 + 2)
              have hnew := HS2.out.setCells3 hk3 (.pointer (some ⟨wc.heap.size, 0, none⟩)) [] false wc.heap.size (wc.alloc (.cells z40 40)) hal ⟨by simp, .inr ⟨rfl, .inr ⟨rfl, HB2.out.size, hNe, z40, hnb, rfl, rfl⟩⟩⟩ (fun _ => Nat.le_refl _) (fun _ => hNe)
              rw [Nat.mul_comm] at hnew
              have HNEW := Lib.hid hnew
              have HBB := Lib.hid ((((HB2.out.trans (hal.mono HB2.out.size)).setCell (p := ⟨w.heap.size, k * 3, none⟩) (Nat.le_refl _) (.pointer (some ⟨wc.heap.size, 0, none⟩))).setCell (p := ⟨w.heap.size, k * 3 + 1, none⟩) (Nat.le_refl _) (.string (strL []))).setCell (p := ⟨w.heap.size, k * 3 + 2, none⟩) (Nat.le_refl _) (.bool false))
              clear hA hnew hal hnb hlt hNe o0 o1 o2 hz
              generalize wc.alloc (.cells z40 40) = w9 at p0 p1 p2 f0 f1 f2 HNEW HBB ⊢
              go_wp2
              go_roundw
              case rel => exact ⟨t + 1, _, by omega, by omega, by simp, HNEW.out.mono (by omega), HBB.out⟩
              case measure => simp [intOf]; omega
            have b1 : (kd == 1) = false := by simp [k1]
            have b2 : (kd == 2) = false := by simp [k2]
            have b3 : (kd == 3) = false := by simp [k3]
            have b4 : (kd == 4) = false := by simp [k4]
            have b5 : (kd == 5) = false := by simp [k5]
            have b6 : (kd == 6) = false := by simp [k6]
            have b7 : (kd == 7) = false := by simp [k7]
            go_wp2
            go_roundw
            case rel => exact ⟨t + 1, s, by omega, by omega, by simp, HS2.out.mono (by omega), HB2.out⟩
            case measure => simp [intOf]; omega
          · have g1 : (t : Int) < (n : Int) := by omega
            have g2 : ¬ (t : Int) < 300 := by omega
            go_wp2
            go_meet
            exact ⟨s, hs.mono (by omega), hb⟩
        · have g1 : ¬ (t : Int) < (n : Int) := by omega
          go_wp2
          go_meet
          exact ⟨s, hs.mono (by omega), hb⟩
      case rest =>
      clear hs hb
      obtain ⟨s2, hs, hb⟩ := hcut
      go_wp2_with fail
      go_loopw [9] (fun i wr => ∃ (t : Nat), t ≤ 3 ∧ i = .int .i64 t ∧ s2.ok wr w.heap.size w.heap.size 314572800 ∧ Below w.heap.size w wr) (fun i _ => 3 - (intOf i).toNat)
      case atStart => exact ⟨0, by omega, rfl, hs, hb⟩
      case round =>
      clear hs hb
      obtain ⟨t, ht, rfl, hs, hb⟩ := hrel
      by_cases h3 : t < 3
      · have g1 : (t : Int) < 3 := by omega
        have HS := Lib.hid hs
        have HB := Lib.hid hb
        have hC : ∀ w' q, Hid (Below wr.heap.size wr w') → (q = 2 ∨ q = 3) → Calls Tryd.prog 14 #[.pointer (some ⟨w.heap.size, t * 3, none⟩), .int .i64 q] w' fun e w'' => e = .returned (.bool true) ∧ Hid (Below wr.heap.size wr w'') := fun w' q h1 h2 => by
          have := place_right w w' hG (HB.out.trans (h1.out.mono HB.out.size)) s2 w.heap.size 314572800 t (HS.out.below h1.out) h3 (by omega) q h2
          rw [Nat.mul_comm] at this
          exact this.mono (fun e w'' ⟨h5, h6⟩ => ⟨h5, Lib.hid (h1.out.trans (h6.mono h1.out.size))⟩)
        have HC := Lib.hid hC
        clear hC
        have p0 := hs.arr.cell (t * 3)
        have p2 := hs.arr.cell (t * 3 + 2)
        rw [Nat.mul_comm, s2.at0 t h3] at p0
        rw [Nat.mul_comm, s2.at2 t h3] at p2
        rw [Nat.mul_comm] at p0 p2
        clear hs hb
        go_upto_region 37 with fail
        go_cut [147] from 119 to 146 (fun s147 wx => s147 = .bool false ∧ Hid (Below wr.heap.size wr wx))
        case first =>
          rcases (HS.out.each t h3).2 with ⟨hB, hh, _⟩ | ⟨hB, _⟩
          · rw [hB] at p2
            rw [hh] at p0
            go_wp2_with fail
            refine (HC.out _ 2 (Lib.hid (Below.refl _ _)) (.inl rfl)).mono ?_
            rintro e w1 ⟨rfl, hb1⟩
            go_wp2_with fail
            refine (HC.out _ 3 hb1 (.inr rfl)).mono ?_
            rintro e w2 ⟨rfl, hb2⟩
            go_wp2_with fail
            refine (HC.out _ 2 hb2 (.inl rfl)).mono ?_
            rintro e w3 ⟨rfl, hb3⟩
            go_wp2
            go_meet
            exact ⟨rfl, hb3⟩
          · rw [hB] at p2
            go_wp2_with fail
            refine (HC.out _ 2 (Lib.hid (Below.refl _ _)) (.inl rfl)).mono ?_
            rintro e w1 ⟨rfl, hb1⟩
            go_wp2_with fail
            refine (HC.out _ 3 hb1 (.inr rfl)).mono ?_
            rintro e w2 ⟨rfl, hb2⟩
            go_wp2_with fail
            refine (HC.out _ 2 hb2 (.inl rfl)).mono ?_
            rintro e w3 ⟨rfl, hb3⟩
            go_wp2
            go_meet
            exact ⟨rfl, hb3⟩
        case rest =>
          obtain ⟨rfl, hb3⟩ := hcut
          go_wp2
          go_roundw
          case rel => exact ⟨t + 1, by omega, by simp, HS.out.below hb3.out, HB.out.trans (hb3.out.mono HB.out.size)⟩
          case measure => simp [intOf]; omega
      · have g1 : ¬ (t : Int) < 3 := by omega
        go_wp2_with fail
        refine (lives_any wr (hG.below hb hG.size)).mono ?_
        rintro e w1 ⟨rfl, hb1⟩
        go_wp2
        go_ret
        exact ⟨rfl, hb.trans (hb1.mono hb.size)⟩
end Go.Proofs.YtdchgojnmfoffaaDoor.Sha
