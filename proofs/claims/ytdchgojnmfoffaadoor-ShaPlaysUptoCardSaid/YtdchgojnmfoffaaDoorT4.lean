import Derived.Test.YtdchgojnmfoffaaDoorT3
import Derived.Laws.CopyOwn
import Derived.Deep.RegionWith
import Derived.Deep.DeepMust
namespace Go.Proofs.YtdchgojnmfoffaaDoor.Sha
open Go Go.RowKit

def lenV : Value → Nat | .slice _ n _ => n | _ => 0

/-- The slice v reads as these bytes, in blocks other than p. -/
def Src (w : World) (p : Nat) (v : Value) (l : List UInt8) : Prop :=
  ∃ base cap, v = .slice base l.length cap ∧ l.length ≤ cap ∧
    (0 < l.length → ∃ blk off, base = some ⟨blk, off, none⟩ ∧ blk ≠ p ∧ blk < w.heap.size ∧ ∀ i, i < l.length → w.cell? ⟨blk, off + i, none⟩ = some (by8 (l.getD i 0)))

theorem put_bytes (x : HS) (hb : x.b.length = 64) (r : Nat) (t : List UInt8) (h : r + t.length ≤ 64) :
    (x.cells.toList.take (9 + r) ++ (t.map by8 ++ x.cells.toList.drop (9 + r + (t.map by8).length))).toArray = HS.cells { s := x.s, b := splice x.b r t, m := x.m } := by
  have hl : (Value.bool true :: x.s.words.map u).length = 9 := rfl
  unfold HS.cells
  congr 1
  generalize (Value.bool true :: x.s.words.map u) = A at hl ⊢
  simp only [List.length_map, splice, List.map_append, List.map_take, List.map_drop]
  rw [List.take_append, List.drop_append, hl, List.take_of_length_le (by omega), List.drop_eq_nil_of_le (by omega), show 9 + r - 9 = r by omega, show 9 + r + t.length - 9 = r + t.length by omega,
    List.take_append_of_le_length (by simp [hb]; omega), List.drop_append_of_le_length (by simp [hb]; omega)]
  simp
theorem put_words (x : HS) (s' : St) :
    ((((((((x.cells.setIfInBounds 1 (.int .u32 (tn s'.a))).setIfInBounds 2 (.int .u32 (tn s'.b))).setIfInBounds 3 (.int .u32 (tn s'.c))).setIfInBounds 4 (.int .u32 (tn s'.d))).setIfInBounds 5 (.int .u32 (tn s'.e))).setIfInBounds 6 (.int .u32 (tn s'.f))).setIfInBounds 7 (.int .u32 (tn s'.g))).setIfInBounds 8 (.int .u32 (tn s'.h)))
      = HS.cells { s := s', b := x.b, m := x.m } := by
  unfold HS.cells
  simp [St.words, u]
theorem put_count (x : HS) (hb : x.b.length = 64) (m : Nat) : x.cells.setIfInBounds 73 (.int .i64 (m : Int)) = HS.cells { s := x.s, b := x.b, m := m } := by
  have hl : (Value.bool true :: x.s.words.map u).length = 9 := rfl
  unfold HS.cells
  rw [List.setIfInBounds_toArray]
  congr 1
  generalize (Value.bool true :: x.s.words.map u) = A at hl ⊢
  rw [List.set_append, if_neg (by omega), hl, List.set_append, if_neg (by simp [hb])]
  simp [hb]

/-- What the loop of Write holds: this much is done. -/
def WRel (w : World) (p : Nat) (L l : List UInt8) (v : Value) (wr : World) : Prop :=
  ∃ done rest x, l = done ++ rest ∧ Took x (L ++ done) ∧ Blk wr p x.cells 40 ∧ Src w p v rest ∧ Oth p w.heap.size w wr

theorem wrel_next {w wr : World} {p : Nat} {L done rest : List UInt8} {blk off cap n : Nat} (hn : n ≤ rest.length) (hcap : rest.length ≤ cap) {x : HS}
    (hx : Took x ((L ++ done) ++ rest.take n)) (hB : Blk wr p x.cells 40) (hO : Oth p w.heap.size w wr) (hne : blk ≠ p) (hlt : blk < w.heap.size)
    (hc : ∀ i, i < rest.length → w.cell? ⟨blk, off + i, none⟩ = some (by8 (rest.getD i 0))) {A : Option Addr} (hA : (if cap = n then some (⟨blk, off, none⟩ : Addr) else some ⟨blk, off + n, none⟩) = A) :
    WRel w p L (done ++ rest) (Value.slice A (rest.length - n) (cap - n)) wr := by
  subst hA
  refine ⟨done ++ rest.take n, rest.drop n, x, ?_, by rw [← List.append_assoc]; exact hx, hB, ⟨_, cap - n, by rw [List.length_drop], by simp; omega, ?_⟩, hO⟩
  · rw [List.append_assoc, List.take_append_drop]
  · intro h
    rw [List.length_drop] at h
    refine ⟨blk, off + n, by rw [if_neg (by omega)], hne, hlt, fun i hi => ?_⟩
    rw [List.length_drop] at hi
    rw [Nat.add_assoc, hc (n + i) (by omega)]
    simp [List.getD_eq_getElem?_getD]

/-- The contract of step, the words written out. -/
theorem step_go (h : St) (b : List UInt8) (blk off : Nat) (w : World) (hb : blk < w.heap.size) (hG : Glob w)
    (hc : ∀ i, i < 64 → w.cell? ⟨blk, off + i, none⟩ = some (by8 (b.getD i 0))) :
    Calls Tryd.prog 30 #[.agg #[.int .u32 (tn h.a), .int .u32 (tn h.b), .int .u32 (tn h.c), .int .u32 (tn h.d), .int .u32 (tn h.e), .int .u32 (tn h.f), .int .u32 (tn h.g), .int .u32 (tn h.h)], .pointer (some ⟨blk, off, none⟩)] w
      fun e w' => ∃ s, s = Sha.step h b ∧ e = .returned (.agg #[.int .u32 (tn s.a), .int .u32 (tn s.b), .int .u32 (tn s.c), .int .u32 (tn s.d), .int .u32 (tn s.e), .int .u32 (tn s.f), .int .u32 (tn s.g), .int .u32 (tn s.h)]) ∧ Below w.heap.size w w' :=
  (step_any h b blk off w hb hG.size hc hG.k).mono fun _ _ ⟨he, hw⟩ => ⟨_, rfl, he, hw⟩

set_option maxRecDepth 100000 in
set_option maxHeartbeats 400000 in
theorem write_any (w : World) (hG : Glob w) (p : Nat) (hp : 1 < p) (x : HS) (L l : List UInt8) (hx : Took x L) (hB : Blk w p x.cells 40) (v : Value) (hv : Src w p v l) (hm : L.length + l.length ≤ 1152921504606846975) :
    Calls Tryd.prog 17 #[.pointer (some ⟨p, 0, none⟩), v] w fun e w' => e = .returned (.tuple #[]) ∧ ∃ x', Took x' (L ++ l) ∧ Blk w' p x'.cells 40 ∧ Oth p w.heap.size w w' := by
  have c0 : w.cell? ⟨p, 0, none⟩ = some (.bool true) := hB.cell 0
  obtain ⟨base, cap, rfl, hcap, hsrc⟩ := hv
  have HSRC := Lib.hid hsrc
  clear hsrc
  go_enter Tryd.func17, Tryd.ntmps17
  go_wp2
  go_loopw [1] (fun v wr => WRel w p L l v wr) (fun v _ => lenV v)
  case atStart => exact ⟨[], l, x, rfl, by simpa using hx, hB, ⟨base, cap, rfl, hcap, HSRC.out⟩, Oth.refl _ _ _⟩
  case round =>
    clear HSRC hcap c0 hB hx
    obtain ⟨done, rest, x, rfl, hx, hB, ⟨base, cap, rfl, hcap, hsrc⟩, hO⟩ := hrel
    have HSRC := Lib.hid hsrc
    clear hsrc
    by_cases h0 : rest.length = 0
    · obtain rfl : rest = [] := List.eq_nil_of_length_eq_zero h0
      clear h0 HSRC
      go_wp2
      go_end0
      exact ⟨rfl, x, by simpa using hx, hB, hO⟩
    · obtain ⟨blk, off, rfl, hne, hlt, hcell⟩ := HSRC.out (by omega)
      have HC := Lib.hid hcell
      clear hcell HSRC
      have cm : wr.cell? ⟨p, 73, none⟩ = some (.int .i64 (x.m : Int)) := by rw [hB.cell]; exact x.count hx.b
      have hmm : x.m ≤ 1152921504606846975 := by have := hx.m; simp at this hm; omega
      obtain ⟨r, hr⟩ : ∃ r, r = x.m % 64 := ⟨_, rfl⟩
      have er : ((x.m : Int)).tmod 64 = (r : Int) := by rw [hr, Int.tmod_eq_emod_of_nonneg (by omega)]; omega
      have hr64 : r < 64 := by omega
      have HR := Lib.hid hr
      clear hr
      obtain ⟨n, hn⟩ : ∃ n, n = min (64 - r) rest.length := ⟨_, rfl⟩
      have hn0 : 0 < n := by omega
      have hn1 : n ≤ 64 - r := by omega
      have hn2 : n ≤ rest.length := by omega
      have HN := Lib.hid hn
      clear hn
      go_wp2
      have g1 : (r : Int) ≤ 64 := by omega
      have g2 : r ≤ 64 := by omega
      have g3 : ¬ 64 = r := by omega
      go_still_tail 10, (by kernel_rfl)
      clear g1 g2 g3
      change wpList _ _ _ _ _ (wr.drewN 1)
      have hO1 := hO.drewN 1
      have hB1 := hB.drewN 1
      generalize wr.drewN 1 = w1 at hO1 hB1 ⊢
      clear hO hB cm
      have hlen : (rest.take n).length = n := by rw [List.length_take]; omega
      have hcl : ((rest.take n).map by8).length = n := by rw [List.length_map]; exact hlen
      refine wpList_copy_own rfl (.tmp 25) (.tmp 26) 31 31 rfl 5 Tryd.underlying31 (by kernel_rfl) p (9 + r) (64 - r) _ ⟨blk, off, none⟩ rest.length cap rfl rfl x.cells 40 hB1 ((rest.take n).map by8) ?_ ?_ ?_ ?_ ?_
      · rw [hcl, HN.out, Nat.min_comm]
      · intro j v hj
        rw [List.getElem?_map, List.getElem?_take] at hj
        by_cases hjn : j < n
        · rw [if_pos hjn, List.getElem?_eq_getElem (by omega)] at hj
          have e : v = by8 (rest.getD j 0) := by
            rw [List.getD_eq_getElem?_getD, List.getElem?_eq_getElem (by omega)]; simpa using hj.symm
          rw [e]
          have hadd : (⟨blk, off, none⟩ : Addr).add j = ⟨blk, off + j, none⟩ := by unfold Addr.add; split <;> simp_all
          rw [hadd, hO1.cell (a := ⟨blk, off + j, none⟩) hlt hne]
          exact HC.out j (by omega)
        · rw [if_neg hjn] at hj; cases hj
      · rw [hcl, x.size_cells hx.b]; omega
      · intro v hv
        obtain ⟨c, _, rfl⟩ := List.mem_map.1 hv
        rfl
      rw [put_bytes x hx.b r (rest.take n) (by omega), hcl]
      obtain ⟨x2, hx2⟩ : ∃ x2 : HS, x2 = { s := x.s, b := splice x.b r (rest.take n), m := x.m } := ⟨_, rfl⟩
      rw [← hx2]
      have hb2 : x2.b.length = 64 := by rw [hx2]; show (splice x.b r (rest.take n)).length = 64; rw [length_splice _ _ _ (by rw [hlen, hx.b]; omega), hx.b]
      have hB2 : Blk (w1.setRow p x2.cells) p x2.cells 40 := setRow_heap _ _ _ _ _ _ hB1
      have hO2 := hO1.setRow x2.cells
      generalize w1.setRow p x2.cells = w2 at hB2 hO2 ⊢
      have HX2 := Lib.hid hx2
      have hm2 : x2.m = x.m := by rw [hx2]
      have cm2 : w2.cell? ⟨p, 73, none⟩ = some (.int .i64 (x.m : Int)) := by rw [hB2.cell, ← hm2]; exact x2.count hb2
      have cf2 : w2.frozen? ⟨p, 73, none⟩ = false := hB2.free _
      have HM2 := Lib.hid hm2
      clear hx2 hm2 hB1 hO1 hlen hcl
      obtain ⟨r2, hr2⟩ : ∃ r2, r2 = (x.m + n) % 64 := ⟨_, rfl⟩
      have er2 : ((x.m : Int) + (n : Int)).tmod 64 = (r2 : Int) := by rw [hr2, Int.tmod_eq_emod_of_nonneg (by omega)]; omega
      have HR2 := Lib.hid hr2
      clear hr2
      have hB3 : Blk (w2.setCell ⟨p, 73, none⟩ (.int .i64 ((x.m : Int) + (n : Int)))) p (HS.cells { s := x.s, b := splice x.b r (rest.take n), m := x.m + n }) 40 := by
        have := hB2.set 73 (.int .i64 ((x.m + n : Nat) : Int))
        rw [put_count x2 hb2, HX2.out] at this
        exact this
      have hO3 := hO2.setCell 73 (.int .i64 ((x.m : Int) + (n : Int)))
      have hr : r = (L ++ done).length % 64 := by rw [HR.out, hx.m]
      have hlen : (rest.take n).length = n := by rw [List.length_take]; omega
      obtain ⟨A, hA⟩ : ∃ A, (if cap = n then some (⟨blk, off, none⟩ : Addr) else some ⟨blk, off + n, none⟩) = A := ⟨_, rfl⟩
      by_cases hfull : r2 = 0
      · have hbf : ((r2 : Int) == 0) = true := by rw [hfull]; rfl
        have HT : Hid (r + n = 64) := by have := HR2.out; have := HR.out; have := HN.out; unfold Hid; omega
        have HRR := Lib.hid hr
        have HLEN := Lib.hid hlen
        clear hr hlen
        go_wp2
        generalize w2.setCell ⟨p, 73, none⟩ (.int .i64 ((x.m : Int) + (n : Int))) = w3 at hB3 hO3 ⊢
        clear hB2 hO2 cm2 cf2
        obtain ⟨x3, hx3⟩ : ∃ x3 : HS, x3 = { s := x.s, b := splice x.b r (rest.take n), m := x.m + n } := ⟨_, rfl⟩
        rw [← hx3] at hB3
        have hb3 : x3.b.length = 64 := by rw [hx3]; show (splice x.b r (rest.take n)).length = 64; rw [length_splice _ _ _ (by rw [HLEN.out, hx.b]; omega), hx.b]
        have a0 : w3.cell? ⟨p, 1, none⟩ = some (.int .u32 (tn x.s.a)) := by rw [hB3.cell, hx3]; exact HS.word _ 0 (by decide)
        have a1 : w3.cell? ⟨p, 2, none⟩ = some (.int .u32 (tn x.s.b)) := by rw [hB3.cell, hx3]; exact HS.word _ 1 (by decide)
        have a2 : w3.cell? ⟨p, 3, none⟩ = some (.int .u32 (tn x.s.c)) := by rw [hB3.cell, hx3]; exact HS.word _ 2 (by decide)
        have a3 : w3.cell? ⟨p, 4, none⟩ = some (.int .u32 (tn x.s.d)) := by rw [hB3.cell, hx3]; exact HS.word _ 3 (by decide)
        have a4 : w3.cell? ⟨p, 5, none⟩ = some (.int .u32 (tn x.s.e)) := by rw [hB3.cell, hx3]; exact HS.word _ 4 (by decide)
        have a5 : w3.cell? ⟨p, 6, none⟩ = some (.int .u32 (tn x.s.f)) := by rw [hB3.cell, hx3]; exact HS.word _ 5 (by decide)
        have a6 : w3.cell? ⟨p, 7, none⟩ = some (.int .u32 (tn x.s.g)) := by rw [hB3.cell, hx3]; exact HS.word _ 6 (by decide)
        have a7 : w3.cell? ⟨p, 8, none⟩ = some (.int .u32 (tn x.s.h)) := by rw [hB3.cell, hx3]; exact HS.word _ 7 (by decide)
        have HX3 := Lib.hid hx3
        clear hx3
        have HCON := Lib.hid (step_go x.s (splice x.b r (rest.take n)) p 9 w3.drew hB3.lt (hG.oth (hO3.drewN 1) (by have := hG.size; omega) hp) (fun i hi => by
          show w3.cell? _ = _
          rw [hB3.cell, HX3.out]; exact HS.byte _ (by rw [← HX3.out]; exact hb3) i hi))
        go_region_with (go_at_call 30; go_must (refine HCON.out.mono ?_; rintro e w4 ⟨s', hs', rfl, hb4⟩; have hB4 : Blk w4 p x3.cells 40 := (hB3.drewN 1).below hb4 hB3.lt; have hO4 : Oth p w.heap.size w w4 := (hO3.drewN 1).trans (Oth.of_below (hb4.mono hO3.size)); have HS' := Lib.hid hs'; clear hs' hb4 a0 a1 a2 a3 a4 a5 a6 a7; have a0 : w4.cell? ⟨p, 1, none⟩ = some (.int .u32 (tn x.s.a)) := (by rw [hB4.cell, HX3.out]; exact HS.word _ 0 (by decide)); have z0 : w4.frozen? ⟨p, 1, none⟩ = false := hB4.free _; have a1 : w4.cell? ⟨p, 2, none⟩ = some (.int .u32 (tn x.s.b)) := (by rw [hB4.cell, HX3.out]; exact HS.word _ 1 (by decide)); have z1 : w4.frozen? ⟨p, 2, none⟩ = false := hB4.free _; have a2 : w4.cell? ⟨p, 3, none⟩ = some (.int .u32 (tn x.s.c)) := (by rw [hB4.cell, HX3.out]; exact HS.word _ 2 (by decide)); have z2 : w4.frozen? ⟨p, 3, none⟩ = false := hB4.free _; have a3 : w4.cell? ⟨p, 4, none⟩ = some (.int .u32 (tn x.s.d)) := (by rw [hB4.cell, HX3.out]; exact HS.word _ 3 (by decide)); have z3 : w4.frozen? ⟨p, 4, none⟩ = false := hB4.free _; have a4 : w4.cell? ⟨p, 5, none⟩ = some (.int .u32 (tn x.s.e)) := (by rw [hB4.cell, HX3.out]; exact HS.word _ 4 (by decide)); have z4 : w4.frozen? ⟨p, 5, none⟩ = false := hB4.free _; have a5 : w4.cell? ⟨p, 6, none⟩ = some (.int .u32 (tn x.s.f)) := (by rw [hB4.cell, HX3.out]; exact HS.word _ 5 (by decide)); have z5 : w4.frozen? ⟨p, 6, none⟩ = false := hB4.free _; have a6 : w4.cell? ⟨p, 7, none⟩ = some (.int .u32 (tn x.s.g)) := (by rw [hB4.cell, HX3.out]; exact HS.word _ 6 (by decide)); have z6 : w4.frozen? ⟨p, 7, none⟩ = false := hB4.free _; have a7 : w4.cell? ⟨p, 8, none⟩ = some (.int .u32 (tn x.s.h)) := (by rw [hB4.cell, HX3.out]; exact HS.word _ 7 (by decide)); have z7 : w4.frozen? ⟨p, 8, none⟩ = false := hB4.free _))
        go_wp2
        refine ⟨wrel_next hn2 hcap (x := { s := s', b := splice x.b r (rest.take n), m := x.m + n }) ?_ ?_ ?_ hne hlt HC.out hA, by simp [lenV]; omega⟩
        · have := hx.full (rest.take n) (by rw [← HRR.out, HLEN.out]; exact HT.out)
          rw [← HRR.out, HLEN.out, ← HS'.out] at this
          exact this
        · have := (((((((hB4.set 1 (.int .u32 (tn s'.a))).set 2 (.int .u32 (tn s'.b))).set 3 (.int .u32 (tn s'.c))).set 4 (.int .u32 (tn s'.d))).set 5 (.int .u32 (tn s'.e))).set 6 (.int .u32 (tn s'.f))).set 7 (.int .u32 (tn s'.g))).set 8 (.int .u32 (tn s'.h))
          rw [put_words, HX3.out] at this
          exact this
        · exact (((((((hO4.setCell 1 _).setCell 2 _).setCell 3 _).setCell 4 _).setCell 5 _).setCell 6 _).setCell 7 _).setCell 8 _
      · have hbf : ((r2 : Int) == 0) = false := by simpa using hfull
        go_wp2
        refine ⟨wrel_next hn2 hcap (x := { s := x.s, b := splice x.b r (rest.take n), m := x.m + n }) ?_ hB3 hO3 hne hlt HC.out hA, by simp [lenV]; omega⟩
        have hlt64 : r + n < 64 := by have := HR2.out; have := HR.out; have := HN.out; omega
        have := hx.more (rest.take n) (by rw [← hr, hlen]; omega)
        rw [← hr, hlen] at this
        exact this
end Go.Proofs.YtdchgojnmfoffaaDoor.Sha
