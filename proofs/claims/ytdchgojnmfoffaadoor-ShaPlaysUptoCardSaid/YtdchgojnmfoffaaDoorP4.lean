/-
  What a place that is there tells: the digest and the count of what it has taken.
-/
import Derived.Test.YtdchgojnmfoffaaDoorP3
namespace Go.Proofs.YtdchgojnmfoffaaDoor.Sha
open Go Go.RowKit

set_option maxRecDepth 100000 in
set_option maxHeartbeats 2000000 in
theorem pright_there (w : World) (hG : Glob w) (lb o p : Nat) (c : Array Value) (hlb : Blk w lb c 29) (x : HS) (T : List UInt8) (c0 : c[o]? = some (.pointer (some ⟨p, 0, none⟩))) (c1 : c[o + 1]? = some (.string (strL T))) (c2 : c[o + 2]? = some (.bool true))
    (hx : Took x T) (hB : Blk w p x.cells 40) (hT : T.length ≤ 140737488355200) (q : Int) (hq : q = 2 ∨ q = 3) :
    Calls Tryd.prog 14 #[.pointer (some ⟨lb, o, none⟩), .int .i64 q] w fun e w' => e = .returned (.bool true) ∧ Below w.heap.size w w' := by
  have a2 := hlb.cell (o + 2)
  rw [c2] at a2
  have hS : ∀ w', Blk w' lb c 29 → Blk w' p x.cells 40 → Below w.heap.size w w' → (w'.cell? ⟨lb, o, none⟩ = some (.pointer (some ⟨p, 0, none⟩)) ∧ w'.cell? ⟨lb, o + 1, none⟩ = some (.string (strL T)) ∧ Blk w' lb c 29 ∧ Blk w' p x.cells 40 ∧ Below w.heap.size w w') := fun w' h1 h2 h3 => ⟨by rw [h1.cell, c0], by rw [h1.cell, c1], h1, h2, h3⟩
  have HS0 := Lib.hid (hS w.drew hlb.drew hB.drew (below_drewN (Below.refl _ _) 1))
  have HT : Hid (∀ w' w'', (w'.cell? ⟨lb, o, none⟩ = some (.pointer (some ⟨p, 0, none⟩)) ∧ w'.cell? ⟨lb, o + 1, none⟩ = some (.string (strL T)) ∧ Blk w' lb c 29 ∧ Blk w' p x.cells 40 ∧ Below w.heap.size w w') → Hid (Below w'.heap.size w' w'') → (w''.cell? ⟨lb, o, none⟩ = some (.pointer (some ⟨p, 0, none⟩)) ∧ w''.cell? ⟨lb, o + 1, none⟩ = some (.string (strL T)) ∧ Blk w'' lb c 29 ∧ Blk w'' p x.cells 40 ∧ Below w.heap.size w w'')) := fun w' w'' h hb => by
    obtain ⟨-, -, h1, h2, h3⟩ := h
    exact hS w'' (h1.below hb.out h1.lt) (h2.below hb.out h2.lt) (h3.trans (hb.out.mono h3.size))
  have HX : Hid (∀ w', (w'.cell? ⟨lb, o, none⟩ = some (.pointer (some ⟨p, 0, none⟩)) ∧ w'.cell? ⟨lb, o + 1, none⟩ = some (.string (strL T)) ∧ Blk w' lb c 29 ∧ Blk w' p x.cells 40 ∧ Below w.heap.size w w') → Below w.heap.size w w') := fun w' h => h.2.2.2.2
  obtain ⟨D, hD⟩ : ∃ D, D = sum T := ⟨_, rfl⟩
  have he := eq22 D (by rw [hD]; exact len_sum _)
  have HC19 : Hid (∀ w', (w'.cell? ⟨lb, o, none⟩ = some (.pointer (some ⟨p, 0, none⟩)) ∧ w'.cell? ⟨lb, o + 1, none⟩ = some (.string (strL T)) ∧ Blk w' lb c 29 ∧ Blk w' p x.cells 40 ∧ Below w.heap.size w w') → Calls Tryd.prog 19 #[.pointer (some ⟨p, 0, none⟩)] w' fun e w'' => e = .returned (.agg (bCells D)) ∧ Below w'.heap.size w' w'') := fun w' h => by
    rw [hD]; exact hsum_any w' (hG.below h.2.2.2.2 hG.size) p x T hx h.2.2.2.1 (by omega)
  have HC11 : Hid (∀ w', Calls Tryd.prog 11 #[.string (strL T)] w' fun e w'' => e = .returned (.agg (bCells D)) ∧ Below w'.heap.size w' w'') := fun w' => by
    rw [hD]; exact rsum_any (strL T) w' (by rw [strL_size]; exact hT)
  obtain ⟨m, hm⟩ : ∃ m, m = T.length := ⟨_, rfl⟩
  have hsz : (strL T).size = m := by rw [strL_size, hm]
  have HC18 : Hid (∀ w', (w'.cell? ⟨lb, o, none⟩ = some (.pointer (some ⟨p, 0, none⟩)) ∧ w'.cell? ⟨lb, o + 1, none⟩ = some (.string (strL T)) ∧ Blk w' lb c 29 ∧ Blk w' p x.cells 40 ∧ Below w.heap.size w w') → Calls Tryd.prog 18 #[.pointer (some ⟨p, 0, none⟩)] w' fun e w'' => e = .returned (.int .i64 (m : Int)) ∧ w'' = w') := fun w' h => by
    rw [hm, ← hx.m]; exact len_at w' p x.m (by rw [h.2.2.2.1.cell]; exact x.count hx.b)
  clear hS hD hm hT hB hlb c0 c1 c2
  rcases hq with rfl | rfl
  · go_enter Tryd.func14, Tryd.ntmps14
    go_upto_region 3 with fail
    refine wp_region_noPanic ?_
    refine wp_region_held_drew (S := fun w' => (w'.cell? ⟨lb, o, none⟩ = some (.pointer (some ⟨p, 0, none⟩)) ∧ w'.cell? ⟨lb, o + 1, none⟩ = some (.string (strL T)) ∧ Blk w' lb c 29 ∧ Blk w' p x.cells 40 ∧ Below w.heap.size w w')) (by kernel_rfl) HS0.out (fun hH => ?_)
    refine take_at (d := some 33) (hd := by rfl) (i := 0) (oi := _) (v := .int .i64 2) rfl (by kernel_rfl) (by kernel_rfl) (by kernel_rfl) (fun _ _ _ h => h) (Or.inl ⟨by rfl, fun w hSw => ?_⟩) hH ?_
    · clear hH HC19 HC11 HC18 HS0 HT HX a2
      obtain ⟨y1, y2, -, -, -⟩ := hSw
      go_simp
    try simp only [Act.put, List.setIfInBounds_toArray, List.set_cons_zero, List.set_cons_succ]
    refine take_at (d := some 34) (hd := by rfl) (i := 1) (oi := _) (v := .bool false) rfl (by kernel_rfl) (by kernel_rfl) (by kernel_rfl) (fun _ _ _ h => h) (Or.inl ⟨by rfl, fun w hSw => ?_⟩) hH ?_
    · clear hH HC19 HC11 HC18 HS0 HT HX a2
      obtain ⟨y1, y2, -, -, -⟩ := hSw
      go_simp
    try simp only [Act.put, List.setIfInBounds_toArray, List.set_cons_zero, List.set_cons_succ]
    refine take_at (d := some 35) (hd := by rfl) (i := 2) (oi := _) (v := .bool false) rfl (by kernel_rfl) (by kernel_rfl) (by kernel_rfl) (fun _ _ _ h => h) (Or.inl ⟨by rfl, fun w hSw => ?_⟩) hH ?_
    · clear hH HC19 HC11 HC18 HS0 HT HX a2
      obtain ⟨y1, y2, -, -, -⟩ := hSw
      go_simp
    try simp only [Act.put, List.setIfInBounds_toArray, List.set_cons_zero, List.set_cons_succ]
    refine take_at (d := some 36) (hd := by rfl) (i := 3) (oi := _) (v := .pointer (some ⟨lb, o, none⟩)) rfl (by kernel_rfl) (by kernel_rfl) (by kernel_rfl) (fun _ _ _ h => h) (Or.inl ⟨by rfl, fun w hSw => ?_⟩) hH ?_
    · clear hH HC19 HC11 HC18 HS0 HT HX a2
      obtain ⟨y1, y2, -, -, -⟩ := hSw
      go_simp
    try simp only [Act.put, List.setIfInBounds_toArray, List.set_cons_zero, List.set_cons_succ]
    refine take_at (d := some 37) (hd := by rfl) (i := 4) (oi := _) (v := .pointer (some ⟨lb, o, none⟩)) rfl (by kernel_rfl) (by kernel_rfl) (by kernel_rfl) (fun _ _ _ h => h) (Or.inl ⟨by rfl, fun w hSw => ?_⟩) hH ?_
    · clear hH HC19 HC11 HC18 HS0 HT HX a2
      obtain ⟨y1, y2, -, -, -⟩ := hSw
      go_simp
    try simp only [Act.put, List.setIfInBounds_toArray, List.set_cons_zero, List.set_cons_succ]
    refine take_at (d := some 38) (hd := by rfl) (i := 5) (oi := _) (v := .pointer (some ⟨lb, o, none⟩)) rfl (by kernel_rfl) (by kernel_rfl) (by kernel_rfl) (fun _ _ _ h => h) (Or.inl ⟨by rfl, fun w hSw => ?_⟩) hH ?_
    · clear hH HC19 HC11 HC18 HS0 HT HX a2
      obtain ⟨y1, y2, -, -, -⟩ := hSw
      go_simp
    try simp only [Act.put, List.setIfInBounds_toArray, List.set_cons_zero, List.set_cons_succ]
    refine take_at (d := some 39) (hd := by rfl) (i := 6) (oi := _) (v := .pointer (some ⟨p, 0, none⟩)) rfl (by kernel_rfl) (by kernel_rfl) (by kernel_rfl) (fun _ _ _ h => h) (Or.inl ⟨by rfl, fun w hSw => ?_⟩) hH ?_
    · clear hH HC19 HC11 HC18 HS0 HT HX a2
      obtain ⟨y1, y2, -, -, -⟩ := hSw
      go_simp
    try simp only [Act.put, List.setIfInBounds_toArray, List.set_cons_zero, List.set_cons_succ]
    refine take_at (d := some 41) (hd := by rfl) (i := 8) (oi := _) (v := .pointer (some ⟨lb, o, none⟩)) rfl (by kernel_rfl) (by kernel_rfl) (by kernel_rfl) (fun _ _ _ h => h) (Or.inl ⟨by rfl, fun w hSw => ?_⟩) hH ?_
    · clear hH HC19 HC11 HC18 HS0 HT HX a2
      obtain ⟨y1, y2, -, -, -⟩ := hSw
      go_simp
    try simp only [Act.put, List.setIfInBounds_toArray, List.set_cons_zero, List.set_cons_succ]
    refine take_at (d := some 42) (hd := by rfl) (i := 9) (oi := _) (v := .pointer (some ⟨lb, o, none⟩)) rfl (by kernel_rfl) (by kernel_rfl) (by kernel_rfl) (fun _ _ _ h => h) (Or.inl ⟨by rfl, fun w hSw => ?_⟩) hH ?_
    · clear hH HC19 HC11 HC18 HS0 HT HX a2
      obtain ⟨y1, y2, -, -, -⟩ := hSw
      go_simp
    try simp only [Act.put, List.setIfInBounds_toArray, List.set_cons_zero, List.set_cons_succ]
    refine take_at (d := some 43) (hd := by rfl) (i := 10) (oi := _) (v := .pointer (some ⟨lb, o + 1, none⟩)) rfl (by kernel_rfl) (by kernel_rfl) (by kernel_rfl) (fun _ _ _ h => h) (Or.inl ⟨by rfl, fun w hSw => ?_⟩) hH ?_
    · clear hH HC19 HC11 HC18 HS0 HT HX a2
      obtain ⟨y1, y2, -, -, -⟩ := hSw
      go_simp
    try simp only [Act.put, List.setIfInBounds_toArray, List.set_cons_zero, List.set_cons_succ]
    refine take_at (d := some 44) (hd := by rfl) (i := 11) (oi := _) (v := .string (strL T)) rfl (by kernel_rfl) (by kernel_rfl) (by kernel_rfl) (fun _ _ _ h => h) (Or.inl ⟨by rfl, fun w hSw => ?_⟩) hH ?_
    · clear hH HC19 HC11 HC18 HS0 HT HX a2
      obtain ⟨y1, y2, -, -, -⟩ := hSw
      go_simp
    try simp only [Act.put, List.setIfInBounds_toArray, List.set_cons_zero, List.set_cons_succ]
    refine wpAnyH_ready (rs := [7]) (by kernel_rfl) (by simp) ?_
    refine AllReadyH.cons (o := _) rfl (fun K hK => ?_) AllReadyH.nil
    go_simp
    refine (HC19.out _ hH).mono ?_
    rintro e w9 ⟨rfl, hb9⟩
    replace hb9 := Lib.hid hb9
    go_wp2_with fail
    have hH2 := HT.out _ _ hH hb9
    clear hH hb9
    refine hK.out _ _ hH2 (fun hH => ?_)
    clear hK K hH2
    try simp only [Act.put, List.setIfInBounds_toArray, List.set_cons_zero, List.set_cons_succ]
    refine wpAnyH_ready (rs := [12]) (by kernel_rfl) (by simp) ?_
    refine AllReadyH.cons (o := _) rfl (fun K hK => ?_) AllReadyH.nil
    go_simp
    refine (HC11.out _).mono ?_
    rintro e w9 ⟨rfl, hb9⟩
    replace hb9 := Lib.hid hb9
    go_wp2_with fail
    have hH2 := HT.out _ _ hH hb9
    clear hH hb9
    refine hK.out _ _ hH2 (fun hH => ?_)
    clear hK K hH2
    try simp only [Act.put, List.setIfInBounds_toArray, List.set_cons_zero, List.set_cons_succ]
    refine take_at (d := some 46) (hd := by rfl) (i := 13) (oi := _) (v := .bool true) rfl (by kernel_rfl) (by kernel_rfl) (by kernel_rfl) (fun _ _ _ h => h) (Or.inl ⟨by rfl, fun w hSw => ?_⟩) hH ?_
    · clear hH HC19 HC11 HC18 HS0 HT HX a2
      obtain ⟨y1, y2, -, -, -⟩ := hSw
      go_simp
    try simp only [Act.put, List.setIfInBounds_toArray, List.set_cons_zero, List.set_cons_succ]
    refine take_at (d := some 47) (hd := by rfl) (i := 14) (oi := _) (v := .bool true) rfl (by kernel_rfl) (by kernel_rfl) (by kernel_rfl) (fun _ _ _ h => h) (Or.inl ⟨by rfl, fun w hSw => ?_⟩) hH ?_
    · clear hH HC19 HC11 HC18 HS0 HT HX a2
      obtain ⟨y1, y2, -, -, -⟩ := hSw
      go_simp
    try simp only [Act.put, List.setIfInBounds_toArray, List.set_cons_zero, List.set_cons_succ]
    refine take_at (d := some 48) (hd := by rfl) (i := 15) (oi := _) (v := .bool true) rfl (by kernel_rfl) (by kernel_rfl) (by kernel_rfl) (fun _ _ _ h => h) (Or.inl ⟨by rfl, fun w hSw => ?_⟩) hH ?_
    · clear hH HC19 HC11 HC18 HS0 HT HX a2
      obtain ⟨y1, y2, -, -, -⟩ := hSw
      go_simp
    try simp only [Act.put, List.setIfInBounds_toArray, List.set_cons_zero, List.set_cons_succ]
    refine take_at (d := some 49) (hd := by rfl) (i := 16) (oi := _) (v := .int .i64 2) rfl (by kernel_rfl) (by kernel_rfl) (by kernel_rfl) (fun _ _ _ h => h) (Or.inl ⟨by rfl, fun w hSw => ?_⟩) hH ?_
    · clear hH HC19 HC11 HC18 HS0 HT HX a2
      obtain ⟨y1, y2, -, -, -⟩ := hSw
      go_simp
    try simp only [Act.put, List.setIfInBounds_toArray, List.set_cons_zero, List.set_cons_succ]
    refine take_at (d := some 50) (hd := by rfl) (i := 17) (oi := _) (v := .bool true) rfl (by kernel_rfl) (by kernel_rfl) (by kernel_rfl) (fun _ _ _ h => h) (Or.inl ⟨by rfl, fun w hSw => ?_⟩) hH ?_
    · clear hH HC19 HC11 HC18 HS0 HT HX a2
      obtain ⟨y1, y2, -, -, -⟩ := hSw
      go_simp
    try simp only [Act.put, List.setIfInBounds_toArray, List.set_cons_zero, List.set_cons_succ]
    refine take_at (d := some 51) (hd := by rfl) (i := 18) (oi := _) (v := .bool true) rfl (by kernel_rfl) (by kernel_rfl) (by kernel_rfl) (fun _ _ _ h => h) (Or.inl ⟨by rfl, fun w hSw => ?_⟩) hH ?_
    · clear hH HC19 HC11 HC18 HS0 HT HX a2
      obtain ⟨y1, y2, -, -, -⟩ := hSw
      go_simp
    try simp only [Act.put, List.setIfInBounds_toArray, List.set_cons_zero, List.set_cons_succ]
    refine take_at (d := some 52) (hd := by rfl) (i := 19) (oi := _) (v := undef) rfl (by kernel_rfl) (by kernel_rfl) (by kernel_rfl) (fun _ _ _ h => h) (Or.inr ⟨by rfl, rfl⟩) hH ?_
    try simp only [Act.put, List.setIfInBounds_toArray, List.set_cons_zero, List.set_cons_succ]
    refine take_at (d := some 53) (hd := by rfl) (i := 20) (oi := _) (v := undef) rfl (by kernel_rfl) (by kernel_rfl) (by kernel_rfl) (fun _ _ _ h => h) (Or.inr ⟨by rfl, rfl⟩) hH ?_
    try simp only [Act.put, List.setIfInBounds_toArray, List.set_cons_zero, List.set_cons_succ]
    refine take_at (d := some 54) (hd := by rfl) (i := 21) (oi := _) (v := undef) rfl (by kernel_rfl) (by kernel_rfl) (by kernel_rfl) (fun _ _ _ h => h) (Or.inr ⟨by rfl, rfl⟩) hH ?_
    try simp only [Act.put, List.setIfInBounds_toArray, List.set_cons_zero, List.set_cons_succ]
    refine take_at (d := some 55) (hd := by rfl) (i := 22) (oi := _) (v := undef) rfl (by kernel_rfl) (by kernel_rfl) (by kernel_rfl) (fun _ _ _ h => h) (Or.inr ⟨by rfl, rfl⟩) hH ?_
    try simp only [Act.put, List.setIfInBounds_toArray, List.set_cons_zero, List.set_cons_succ]
    refine take_at (d := some 57) (hd := by rfl) (i := 24) (oi := _) (v := undef) rfl (by kernel_rfl) (by kernel_rfl) (by kernel_rfl) (fun _ _ _ h => h) (Or.inr ⟨by rfl, rfl⟩) hH ?_
    try simp only [Act.put, List.setIfInBounds_toArray, List.set_cons_zero, List.set_cons_succ]
    refine take_at (d := some 58) (hd := by rfl) (i := 25) (oi := _) (v := undef) rfl (by kernel_rfl) (by kernel_rfl) (by kernel_rfl) (fun _ _ _ h => h) (Or.inr ⟨by rfl, rfl⟩) hH ?_
    try simp only [Act.put, List.setIfInBounds_toArray, List.set_cons_zero, List.set_cons_succ]
    refine take_at (d := some 59) (hd := by rfl) (i := 26) (oi := _) (v := undef) rfl (by kernel_rfl) (by kernel_rfl) (by kernel_rfl) (fun _ _ _ h => h) (Or.inr ⟨by rfl, rfl⟩) hH ?_
    try simp only [Act.put, List.setIfInBounds_toArray, List.set_cons_zero, List.set_cons_succ]
    refine take_at (d := some 60) (hd := by rfl) (i := 27) (oi := _) (v := undef) rfl (by kernel_rfl) (by kernel_rfl) (by kernel_rfl) (fun _ _ _ h => h) (Or.inr ⟨by rfl, rfl⟩) hH ?_
    try simp only [Act.put, List.setIfInBounds_toArray, List.set_cons_zero, List.set_cons_succ]
    refine take_at (d := some 61) (hd := by rfl) (i := 28) (oi := _) (v := undef) rfl (by kernel_rfl) (by kernel_rfl) (by kernel_rfl) (fun _ _ _ h => h) (Or.inr ⟨by rfl, rfl⟩) hH ?_
    try simp only [Act.put, List.setIfInBounds_toArray, List.set_cons_zero, List.set_cons_succ]
    refine take_at (d := some 56) (hd := by rfl) (i := 23) (oi := _) (v := undef) rfl (by kernel_rfl) (by kernel_rfl) (by kernel_rfl) (fun _ _ _ h => h) (Or.inr ⟨by rfl, rfl⟩) hH ?_
    try simp only [Act.put, List.setIfInBounds_toArray, List.set_cons_zero, List.set_cons_succ]
    refine take_at (d := some 62) (hd := by rfl) (i := 29) (oi := _) (v := undef) rfl (by kernel_rfl) (by kernel_rfl) (by kernel_rfl) (fun _ _ _ h => h) (Or.inr ⟨by rfl, rfl⟩) hH ?_
    try simp only [Act.put, List.setIfInBounds_toArray, List.set_cons_zero, List.set_cons_succ]
    refine take_at (d := some 63) (hd := by rfl) (i := 30) (oi := _) (v := .bool true) rfl (by kernel_rfl) (by kernel_rfl) (by kernel_rfl) (fun _ _ _ h => h) (Or.inl ⟨by rfl, fun w hSw => ?_⟩) hH ?_
    · clear hH HC19 HC11 HC18 HS0 HT HX a2
      obtain ⟨y1, y2, -, -, -⟩ := hSw
      go_simp
    try simp only [Act.put, List.setIfInBounds_toArray, List.set_cons_zero, List.set_cons_succ]
    refine take_at (d := some 64) (hd := by rfl) (i := 31) (oi := _) (v := .bool true) rfl (by kernel_rfl) (by kernel_rfl) (by kernel_rfl) (fun _ _ _ h => h) (Or.inl ⟨by rfl, fun w hSw => ?_⟩) hH ?_
    · clear hH HC19 HC11 HC18 HS0 HT HX a2
      obtain ⟨y1, y2, -, -, -⟩ := hSw
      go_simp
    try simp only [Act.put, List.setIfInBounds_toArray, List.set_cons_zero, List.set_cons_succ]
    refine take_at (d := some 4) (hd := by rfl) (i := 32) (oi := _) (v := .bool true) rfl (by kernel_rfl) (by kernel_rfl) (by kernel_rfl) (fun _ _ _ h => h) (Or.inl ⟨by rfl, fun w hSw => ?_⟩) hH ?_
    · clear hH HC19 HC11 HC18 HS0 HT HX a2
      obtain ⟨y1, y2, -, -, -⟩ := hSw
      go_simp
    try simp only [Act.put, List.setIfInBounds_toArray, List.set_cons_zero, List.set_cons_succ]
    refine wpAnyH_done (by kernel_rfl) ?_ _
    refine NoPanic.normal ?_
    have hbz := Lib.hid (HX.out _ hH)
    clear hH
    go_wp2
    go_ret
    exact ⟨by first | kernel_rfl | rfl, hbz.out⟩
  · go_enter Tryd.func14, Tryd.ntmps14
    go_upto_region 3 with fail
    refine wp_region_noPanic ?_
    refine wp_region_held_drew (S := fun w' => (w'.cell? ⟨lb, o, none⟩ = some (.pointer (some ⟨p, 0, none⟩)) ∧ w'.cell? ⟨lb, o + 1, none⟩ = some (.string (strL T)) ∧ Blk w' lb c 29 ∧ Blk w' p x.cells 40 ∧ Below w.heap.size w w')) (by kernel_rfl) HS0.out (fun hH => ?_)
    refine take_at (d := some 33) (hd := by rfl) (i := 0) (oi := _) (v := .int .i64 3) rfl (by kernel_rfl) (by kernel_rfl) (by kernel_rfl) (fun _ _ _ h => h) (Or.inl ⟨by rfl, fun w hSw => ?_⟩) hH ?_
    · clear hH HC19 HC11 HC18 HS0 HT HX a2
      obtain ⟨y1, y2, -, -, -⟩ := hSw
      go_simp
    try simp only [Act.put, List.setIfInBounds_toArray, List.set_cons_zero, List.set_cons_succ]
    refine take_at (d := some 34) (hd := by rfl) (i := 1) (oi := _) (v := .bool true) rfl (by kernel_rfl) (by kernel_rfl) (by kernel_rfl) (fun _ _ _ h => h) (Or.inl ⟨by rfl, fun w hSw => ?_⟩) hH ?_
    · clear hH HC19 HC11 HC18 HS0 HT HX a2
      obtain ⟨y1, y2, -, -, -⟩ := hSw
      go_simp
    try simp only [Act.put, List.setIfInBounds_toArray, List.set_cons_zero, List.set_cons_succ]
    refine take_at (d := some 35) (hd := by rfl) (i := 2) (oi := _) (v := .bool true) rfl (by kernel_rfl) (by kernel_rfl) (by kernel_rfl) (fun _ _ _ h => h) (Or.inl ⟨by rfl, fun w hSw => ?_⟩) hH ?_
    · clear hH HC19 HC11 HC18 HS0 HT HX a2
      obtain ⟨y1, y2, -, -, -⟩ := hSw
      go_simp
    try simp only [Act.put, List.setIfInBounds_toArray, List.set_cons_zero, List.set_cons_succ]
    refine take_at (d := some 36) (hd := by rfl) (i := 3) (oi := _) (v := undef) rfl (by kernel_rfl) (by kernel_rfl) (by kernel_rfl) (fun _ _ _ h => h) (Or.inr ⟨by rfl, rfl⟩) hH ?_
    try simp only [Act.put, List.setIfInBounds_toArray, List.set_cons_zero, List.set_cons_succ]
    refine take_at (d := some 37) (hd := by rfl) (i := 4) (oi := _) (v := undef) rfl (by kernel_rfl) (by kernel_rfl) (by kernel_rfl) (fun _ _ _ h => h) (Or.inr ⟨by rfl, rfl⟩) hH ?_
    try simp only [Act.put, List.setIfInBounds_toArray, List.set_cons_zero, List.set_cons_succ]
    refine take_at (d := some 38) (hd := by rfl) (i := 5) (oi := _) (v := undef) rfl (by kernel_rfl) (by kernel_rfl) (by kernel_rfl) (fun _ _ _ h => h) (Or.inr ⟨by rfl, rfl⟩) hH ?_
    try simp only [Act.put, List.setIfInBounds_toArray, List.set_cons_zero, List.set_cons_succ]
    refine take_at (d := some 39) (hd := by rfl) (i := 6) (oi := _) (v := undef) rfl (by kernel_rfl) (by kernel_rfl) (by kernel_rfl) (fun _ _ _ h => h) (Or.inr ⟨by rfl, rfl⟩) hH ?_
    try simp only [Act.put, List.setIfInBounds_toArray, List.set_cons_zero, List.set_cons_succ]
    refine take_at (d := some 41) (hd := by rfl) (i := 8) (oi := _) (v := undef) rfl (by kernel_rfl) (by kernel_rfl) (by kernel_rfl) (fun _ _ _ h => h) (Or.inr ⟨by rfl, rfl⟩) hH ?_
    try simp only [Act.put, List.setIfInBounds_toArray, List.set_cons_zero, List.set_cons_succ]
    refine take_at (d := some 42) (hd := by rfl) (i := 9) (oi := _) (v := undef) rfl (by kernel_rfl) (by kernel_rfl) (by kernel_rfl) (fun _ _ _ h => h) (Or.inr ⟨by rfl, rfl⟩) hH ?_
    try simp only [Act.put, List.setIfInBounds_toArray, List.set_cons_zero, List.set_cons_succ]
    refine take_at (d := some 43) (hd := by rfl) (i := 10) (oi := _) (v := undef) rfl (by kernel_rfl) (by kernel_rfl) (by kernel_rfl) (fun _ _ _ h => h) (Or.inr ⟨by rfl, rfl⟩) hH ?_
    try simp only [Act.put, List.setIfInBounds_toArray, List.set_cons_zero, List.set_cons_succ]
    refine take_at (d := some 44) (hd := by rfl) (i := 11) (oi := _) (v := undef) rfl (by kernel_rfl) (by kernel_rfl) (by kernel_rfl) (fun _ _ _ h => h) (Or.inr ⟨by rfl, rfl⟩) hH ?_
    try simp only [Act.put, List.setIfInBounds_toArray, List.set_cons_zero, List.set_cons_succ]
    refine take_at (d := some 40) (hd := by rfl) (i := 7) (oi := _) (v := undef) rfl (by kernel_rfl) (by kernel_rfl) (by kernel_rfl) (fun _ _ _ h => h) (Or.inr ⟨by rfl, rfl⟩) hH ?_
    try simp only [Act.put, List.setIfInBounds_toArray, List.set_cons_zero, List.set_cons_succ]
    refine take_at (d := some 45) (hd := by rfl) (i := 12) (oi := _) (v := undef) rfl (by kernel_rfl) (by kernel_rfl) (by kernel_rfl) (fun _ _ _ h => h) (Or.inr ⟨by rfl, rfl⟩) hH ?_
    try simp only [Act.put, List.setIfInBounds_toArray, List.set_cons_zero, List.set_cons_succ]
    refine take_at (d := some 46) (hd := by rfl) (i := 13) (oi := _) (v := undef) rfl (by kernel_rfl) (by kernel_rfl) (by kernel_rfl) (fun _ _ _ h => h) (Or.inr ⟨by rfl, rfl⟩) hH ?_
    try simp only [Act.put, List.setIfInBounds_toArray, List.set_cons_zero, List.set_cons_succ]
    refine take_at (d := some 47) (hd := by rfl) (i := 14) (oi := _) (v := .bool true) rfl (by kernel_rfl) (by kernel_rfl) (by kernel_rfl) (fun _ _ _ h => h) (Or.inl ⟨by rfl, fun w hSw => ?_⟩) hH ?_
    · clear hH HC19 HC11 HC18 HS0 HT HX a2
      obtain ⟨y1, y2, -, -, -⟩ := hSw
      go_simp
    try simp only [Act.put, List.setIfInBounds_toArray, List.set_cons_zero, List.set_cons_succ]
    refine take_at (d := some 48) (hd := by rfl) (i := 15) (oi := _) (v := .bool true) rfl (by kernel_rfl) (by kernel_rfl) (by kernel_rfl) (fun _ _ _ h => h) (Or.inl ⟨by rfl, fun w hSw => ?_⟩) hH ?_
    · clear hH HC19 HC11 HC18 HS0 HT HX a2
      obtain ⟨y1, y2, -, -, -⟩ := hSw
      go_simp
    try simp only [Act.put, List.setIfInBounds_toArray, List.set_cons_zero, List.set_cons_succ]
    refine take_at (d := some 49) (hd := by rfl) (i := 16) (oi := _) (v := .int .i64 3) rfl (by kernel_rfl) (by kernel_rfl) (by kernel_rfl) (fun _ _ _ h => h) (Or.inl ⟨by rfl, fun w hSw => ?_⟩) hH ?_
    · clear hH HC19 HC11 HC18 HS0 HT HX a2
      obtain ⟨y1, y2, -, -, -⟩ := hSw
      go_simp
    try simp only [Act.put, List.setIfInBounds_toArray, List.set_cons_zero, List.set_cons_succ]
    refine take_at (d := some 50) (hd := by rfl) (i := 17) (oi := _) (v := .bool false) rfl (by kernel_rfl) (by kernel_rfl) (by kernel_rfl) (fun _ _ _ h => h) (Or.inl ⟨by rfl, fun w hSw => ?_⟩) hH ?_
    · clear hH HC19 HC11 HC18 HS0 HT HX a2
      obtain ⟨y1, y2, -, -, -⟩ := hSw
      go_simp
    try simp only [Act.put, List.setIfInBounds_toArray, List.set_cons_zero, List.set_cons_succ]
    refine take_at (d := some 51) (hd := by rfl) (i := 18) (oi := _) (v := .bool false) rfl (by kernel_rfl) (by kernel_rfl) (by kernel_rfl) (fun _ _ _ h => h) (Or.inl ⟨by rfl, fun w hSw => ?_⟩) hH ?_
    · clear hH HC19 HC11 HC18 HS0 HT HX a2
      obtain ⟨y1, y2, -, -, -⟩ := hSw
      go_simp
    try simp only [Act.put, List.setIfInBounds_toArray, List.set_cons_zero, List.set_cons_succ]
    refine take_at (d := some 52) (hd := by rfl) (i := 19) (oi := _) (v := .pointer (some ⟨lb, o, none⟩)) rfl (by kernel_rfl) (by kernel_rfl) (by kernel_rfl) (fun _ _ _ h => h) (Or.inl ⟨by rfl, fun w hSw => ?_⟩) hH ?_
    · clear hH HC19 HC11 HC18 HS0 HT HX a2
      obtain ⟨y1, y2, -, -, -⟩ := hSw
      go_simp
    try simp only [Act.put, List.setIfInBounds_toArray, List.set_cons_zero, List.set_cons_succ]
    refine take_at (d := some 53) (hd := by rfl) (i := 20) (oi := _) (v := .pointer (some ⟨lb, o, none⟩)) rfl (by kernel_rfl) (by kernel_rfl) (by kernel_rfl) (fun _ _ _ h => h) (Or.inl ⟨by rfl, fun w hSw => ?_⟩) hH ?_
    · clear hH HC19 HC11 HC18 HS0 HT HX a2
      obtain ⟨y1, y2, -, -, -⟩ := hSw
      go_simp
    try simp only [Act.put, List.setIfInBounds_toArray, List.set_cons_zero, List.set_cons_succ]
    refine take_at (d := some 54) (hd := by rfl) (i := 21) (oi := _) (v := .pointer (some ⟨lb, o, none⟩)) rfl (by kernel_rfl) (by kernel_rfl) (by kernel_rfl) (fun _ _ _ h => h) (Or.inl ⟨by rfl, fun w hSw => ?_⟩) hH ?_
    · clear hH HC19 HC11 HC18 HS0 HT HX a2
      obtain ⟨y1, y2, -, -, -⟩ := hSw
      go_simp
    try simp only [Act.put, List.setIfInBounds_toArray, List.set_cons_zero, List.set_cons_succ]
    refine take_at (d := some 55) (hd := by rfl) (i := 22) (oi := _) (v := .pointer (some ⟨p, 0, none⟩)) rfl (by kernel_rfl) (by kernel_rfl) (by kernel_rfl) (fun _ _ _ h => h) (Or.inl ⟨by rfl, fun w hSw => ?_⟩) hH ?_
    · clear hH HC19 HC11 HC18 HS0 HT HX a2
      obtain ⟨y1, y2, -, -, -⟩ := hSw
      go_simp
    try simp only [Act.put, List.setIfInBounds_toArray, List.set_cons_zero, List.set_cons_succ]
    refine take_at (d := some 57) (hd := by rfl) (i := 24) (oi := _) (v := .pointer (some ⟨lb, o, none⟩)) rfl (by kernel_rfl) (by kernel_rfl) (by kernel_rfl) (fun _ _ _ h => h) (Or.inl ⟨by rfl, fun w hSw => ?_⟩) hH ?_
    · clear hH HC19 HC11 HC18 HS0 HT HX a2
      obtain ⟨y1, y2, -, -, -⟩ := hSw
      go_simp
    try simp only [Act.put, List.setIfInBounds_toArray, List.set_cons_zero, List.set_cons_succ]
    refine take_at (d := some 58) (hd := by rfl) (i := 25) (oi := _) (v := .pointer (some ⟨lb, o, none⟩)) rfl (by kernel_rfl) (by kernel_rfl) (by kernel_rfl) (fun _ _ _ h => h) (Or.inl ⟨by rfl, fun w hSw => ?_⟩) hH ?_
    · clear hH HC19 HC11 HC18 HS0 HT HX a2
      obtain ⟨y1, y2, -, -, -⟩ := hSw
      go_simp
    try simp only [Act.put, List.setIfInBounds_toArray, List.set_cons_zero, List.set_cons_succ]
    refine take_at (d := some 59) (hd := by rfl) (i := 26) (oi := _) (v := .pointer (some ⟨lb, o + 1, none⟩)) rfl (by kernel_rfl) (by kernel_rfl) (by kernel_rfl) (fun _ _ _ h => h) (Or.inl ⟨by rfl, fun w hSw => ?_⟩) hH ?_
    · clear hH HC19 HC11 HC18 HS0 HT HX a2
      obtain ⟨y1, y2, -, -, -⟩ := hSw
      go_simp
    try simp only [Act.put, List.setIfInBounds_toArray, List.set_cons_zero, List.set_cons_succ]
    refine take_at (d := some 60) (hd := by rfl) (i := 27) (oi := _) (v := .string (strL T)) rfl (by kernel_rfl) (by kernel_rfl) (by kernel_rfl) (fun _ _ _ h => h) (Or.inl ⟨by rfl, fun w hSw => ?_⟩) hH ?_
    · clear hH HC19 HC11 HC18 HS0 HT HX a2
      obtain ⟨y1, y2, -, -, -⟩ := hSw
      go_simp
    try simp only [Act.put, List.setIfInBounds_toArray, List.set_cons_zero, List.set_cons_succ]
    refine take_at (d := some 61) (hd := by rfl) (i := 28) (oi := _) (v := .int .i64 (m : Int)) rfl (by kernel_rfl) (by kernel_rfl) (by kernel_rfl) (fun _ _ _ h => h) (Or.inl ⟨by rfl, fun w hSw => ?_⟩) hH ?_
    · clear hH HC19 HC11 HC18 HS0 HT HX a2
      obtain ⟨y1, y2, -, -, -⟩ := hSw
      go_simp
    try simp only [Act.put, List.setIfInBounds_toArray, List.set_cons_zero, List.set_cons_succ]
    refine wpAnyH_ready (rs := [23]) (by kernel_rfl) (by simp) ?_
    refine AllReadyH.cons (o := _) rfl (fun K hK => ?_) AllReadyH.nil
    go_simp
    refine (HC18.out _ hH).mono ?_
    rintro e w9 ⟨rfl, rfl⟩
    go_wp2_with fail
    refine hK.out _ _ hH (fun hH2 => ?_)
    clear hK K hH2
    try simp only [Act.put, List.setIfInBounds_toArray, List.set_cons_zero, List.set_cons_succ]
    refine take_at (d := some 62) (hd := by rfl) (i := 29) (oi := _) (v := .bool true) rfl (by kernel_rfl) (by kernel_rfl) (by kernel_rfl) (fun _ _ _ h => h) (Or.inl ⟨by rfl, fun w hSw => ?_⟩) hH ?_
    · clear hH HC19 HC11 HC18 HS0 HT HX a2
      obtain ⟨y1, y2, -, -, -⟩ := hSw
      go_simp
    try simp only [Act.put, List.setIfInBounds_toArray, List.set_cons_zero, List.set_cons_succ]
    refine take_at (d := some 63) (hd := by rfl) (i := 30) (oi := _) (v := .bool true) rfl (by kernel_rfl) (by kernel_rfl) (by kernel_rfl) (fun _ _ _ h => h) (Or.inl ⟨by rfl, fun w hSw => ?_⟩) hH ?_
    · clear hH HC19 HC11 HC18 HS0 HT HX a2
      obtain ⟨y1, y2, -, -, -⟩ := hSw
      go_simp
    try simp only [Act.put, List.setIfInBounds_toArray, List.set_cons_zero, List.set_cons_succ]
    refine take_at (d := some 64) (hd := by rfl) (i := 31) (oi := _) (v := .bool true) rfl (by kernel_rfl) (by kernel_rfl) (by kernel_rfl) (fun _ _ _ h => h) (Or.inl ⟨by rfl, fun w hSw => ?_⟩) hH ?_
    · clear hH HC19 HC11 HC18 HS0 HT HX a2
      obtain ⟨y1, y2, -, -, -⟩ := hSw
      go_simp
    try simp only [Act.put, List.setIfInBounds_toArray, List.set_cons_zero, List.set_cons_succ]
    refine take_at (d := some 4) (hd := by rfl) (i := 32) (oi := _) (v := .bool true) rfl (by kernel_rfl) (by kernel_rfl) (by kernel_rfl) (fun _ _ _ h => h) (Or.inl ⟨by rfl, fun w hSw => ?_⟩) hH ?_
    · clear hH HC19 HC11 HC18 HS0 HT HX a2
      obtain ⟨y1, y2, -, -, -⟩ := hSw
      go_simp
    try simp only [Act.put, List.setIfInBounds_toArray, List.set_cons_zero, List.set_cons_succ]
    refine wpAnyH_done (by kernel_rfl) ?_ _
    refine NoPanic.normal ?_
    have hbz := Lib.hid (HX.out _ hH)
    clear hH
    go_wp2
    go_ret
    exact ⟨by first | kernel_rfl | rfl, hbz.out⟩
end Go.Proofs.YtdchgojnmfoffaaDoor.Sha
