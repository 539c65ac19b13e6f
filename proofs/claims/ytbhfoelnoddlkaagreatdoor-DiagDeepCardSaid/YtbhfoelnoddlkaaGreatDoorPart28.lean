/-
  Of the proof that the law DiagDeep answers true at every row of bytes: a part, without conditions of its own.
-/
import Derived.Test.YtbhfoelnoddlkaaGreatDoorPart01
import Derived.Test.YtbhfoelnoddlkaaGreatDoorPart27
set_option linter.unusedVariables false
set_option linter.unusedSimpArgs false
/-
  A region that draws its order, walked under a condition that hangs on what has come up: a load is taken first though its cell is written later in the region, behind an operation that waits for the load.
-/
namespace Go.Proofs.YtbhfoelnoddlkaaGreatDoor.D
open Go Go.RowKit

section
variable {P : Program} {ops : Array Oper} {Q : Exit → Act → World → Prop} {md : Region.Mode} {S : Array Bool → World → Prop}

/-- In whatever order, S holding behind each operation: S knows what has come up. -/
def wpAnyG (P : Program) (md : Region.Mode) (ops : Array Oper) (Q : Exit → Act → World → Prop) (S : Array Bool → World → Prop) : Nat → Array Bool → Act → World → Prop
  | 0, u, a, w => Region.ready md ops u = [] ∧ Q .normal a w
  | n + 1, u, a, w => (Region.ready md ops u = [] → Q .normal a w) ∧
    ∀ i ∈ Region.ready md ops u, wpOp P ops Q i (fun a' w' => S (u.setIfInBounds i true) w' ∧ wpAnyG P md ops Q S n (u.setIfInBounds i true) a' w') a w
theorem wpAny_of_G : ∀ (n : Nat) (u : Array Bool) (a : Act) (w : World), wpAnyG P md ops Q S n u a w → wpAny P md ops Q n u a w
  | 0, _, _, _, h => h
  | n + 1, _, _, _, h => ⟨h.1, fun i hi => wpOp_mono (fun a' w' h' => wpAny_of_G n _ a' w' h'.2) (h.2 i hi)⟩
theorem region_G {id : Nat} {a : Act} {w : World} (hm : P.follows .mixedOrders = true) (h : wpAnyG P .any ops Q S ops.size (Array.replicate ops.size false) a w.drew) : (Code.region id ops true).wp P Q a w :=
  wp_region_any hm (wpAny_of_G _ _ _ _ h)

/-- T is what the operation asks of the world; D is what is said of what has come up as long as it has not. -/
theorem g_first {i : Nat} {oi : Oper} {v : Value} {T : World → Prop} {D : Array Bool → Prop} (hi : ops[i]? = some oi) (hsel : ∀ (j : Nat) (o : Oper) cs b, ops[j]? = some o → o.op ≠ .select cs b)
    (hQ : ∀ c a w, Q (.panic c) (a.put oi.dst v) w → Q (.panic c) a w)
    (hA : ∀ u w, S (u.setIfInBounds i true) w → S u w) (hT : ∀ u w, D u → S u w → T w)
    (hD : ∀ u j, D u → i ∈ Region.ready md ops u → j ∈ Region.ready md ops u → j ≠ i → D (u.setIfInBounds j true)) :
    ∀ (n : Nat) (u : Array Bool) (a : Act) (w : World),
      (∀ j oj, ops[j]? = some oj → j ≠ i → u.getD j true = false → (∀ e ∈ oj.after, Region.binds md e = true → e.on ≠ i) → oi.apart ops oj = true) →
      i ∈ Region.ready md ops u → YieldsIf P ops T oi v a → D u → S u w →
      wpAnyG P md ops Q S n (u.setIfInBounds i true) (a.put oi.dst v) w → S (u.setIfInBounds i true) w → wpAnyG P md ops Q S (n + 1) u a w := by
  intro n
  induction n with
  | zero =>
    intro u a w _ hr hy hd hS H hS2
    refine ⟨fun h => (by rw [h] at hr; cases hr), fun j hj => ?_⟩
    by_cases hji : j = i
    · rw [hji]; exact hy.wpOp hi (hT _ _ hd hS) ⟨hS2, H⟩
    · have h3 := ready_mono hj hji
      rw [H.1] at h3
      cases h3
  | succ n ih =>
    intro u a w hfree hr hy hd hS H hS2
    refine ⟨fun h => (by rw [h] at hr; cases hr), fun j hj => ?_⟩
    by_cases hji : j = i
    · rw [hji]; exact hy.wpOp hi (hT _ _ hd hS) ⟨hS2, H⟩
    · obtain ⟨hjun, oj, hoj, hall⟩ := mem_ready.1 hj
      have hun : ∀ e ∈ oj.after, Region.binds md e = true → e.on ≠ i := by
        intro e he hb heq
        have h4 := hall e he hb
        have h5 := (mem_ready.1 hr).1
        rw [heq] at h4
        rcases Nat.lt_or_ge i u.size with h6 | h6
        · simp [h6] at h4 h5; rw [h4] at h5; cases h5
        · simp [Array.getElem?_eq_none h6] at h4
      have h1 := wpOp_putIf hoj (hfree j oj hoj hji hjun hun) (fun cs b => hsel i oi cs b hi) (fun cs b => hsel j oj cs b hoj) hQ hy (H.2 j (ready_mono hj hji))
      have hfree2 : ∀ k ok, ops[k]? = some ok → k ≠ i → (u.setIfInBounds j true).getD k true = false → (∀ e ∈ ok.after, Region.binds md e = true → e.on ≠ i) → oi.apart ops ok = true := by
        intro k ok hk hki hku hno
        by_cases hjk : j = k
        · subst hjk; exact hfree j ok hk hki hjun hno
        · rw [Go.getD_set_ne true hjk] at hku; exact hfree k ok hk hki hku hno
      refine wpOp_mono (fun a' w' h3 => ?_) h1
      obtain ⟨hy2, hSS, hW⟩ := h3
      rw [Array.setIfInBounds_comm _ _ (Ne.symm hji)] at hSS hW
      exact ⟨hA _ _ hSS, ih _ a' w' hfree2 (ready_mono hr (Ne.symm hji)) hy2 (hD u j hd hr hj hji) (hA _ _ hSS) hW hSS⟩

/-- What yields in whatever world. -/
theorem g_pure {i : Nat} {oi : Oper} {v : Value} {n : Nat} {u : Array Bool} {a : Act} {w : World} {d : Option Nat} (hd : oi.dst = d) (hi : ops[i]? = some oi) (hs : Region.noSelect ops = true) (hf : Region.free md ops u i = true) (hr : (Region.ready md ops u).contains i = true)
    (hQ : ∀ c a w, Q (.panic c) (a.put oi.dst v) w → Q (.panic c) a w) (hA : ∀ u w, S (u.setIfInBounds i true) w ↔ S u w)
    (hy : YieldsIf P ops (fun _ => True) oi v a) (hS : S u w)
    (h : S (u.setIfInBounds i true) w → wpAnyG P md ops Q S n (u.setIfInBounds i true) (a.put d v) w) : wpAnyG P md ops Q S (n + 1) u a w := by
  subst hd
  exact g_first (T := fun _ => True) (D := fun _ => True) hi (Region.noSelect_spec hs) hQ (fun u w h => (hA u w).1 h) (fun _ _ _ _ => trivial) (fun _ _ _ _ _ _ => trivial) n u a w (Region.free_spec hi hf) (by simpa using hr) hy trivial hS (h ((hA u w).2 hS)) ((hA u w).2 hS)
/-- What yields where T holds; k waits for it, and T holds as long as k has not come up. -/
theorem g_load {i k : Nat} {oi ok : Oper} {v : Value} {T : World → Prop} {n : Nat} {u : Array Bool} {a : Act} {w : World} {d : Option Nat} (hd : oi.dst = d) (hi : ops[i]? = some oi) (hk : ops[k]? = some ok) (hw : (ok.after.any fun e => Region.binds md e && e.on == i) = true) (hku : u.getD k true = false)
    (hs : Region.noSelect ops = true) (hf : Region.free md ops u i = true) (hr : (Region.ready md ops u).contains i = true)
    (hQ : ∀ c a w, Q (.panic c) (a.put oi.dst v) w → Q (.panic c) a w) (hA : ∀ u w, S (u.setIfInBounds i true) w ↔ S u w) (hT : ∀ u w, u.getD k true = false → S u w → T w)
    (hy : YieldsIf P ops T oi v a) (hS : S u w)
    (h : S (u.setIfInBounds i true) w → wpAnyG P md ops Q S n (u.setIfInBounds i true) (a.put d v) w) : wpAnyG P md ops Q S (n + 1) u a w := by
  subst hd
  refine g_first (T := T) (D := fun u => u.getD k true = false) hi (Region.noSelect_spec hs) hQ (fun u w h => (hA u w).1 h) hT ?_ n u a w (Region.free_spec hi hf) (by simpa using hr) hy hku hS (h ((hA u w).2 hS)) ((hA u w).2 hS)
  intro u j hD hir hjr hji
  have hjk : j ≠ k := by
    rintro rfl
    obtain ⟨_, oj, hoj, hall⟩ := mem_ready.1 hjr
    obtain rfl : oj = ok := Option.some.inj (hoj.symm.trans hk)
    obtain ⟨e, he, hb⟩ := Array.any_eq_true'.1 hw
    simp only [Bool.and_eq_true, beq_iff_eq] at hb
    have h4 := hall e he hb.1
    have h5 := (mem_ready.1 hir).1
    rw [hb.2] at h4
    rcases Nat.lt_or_ge i u.size with h6 | h6
    · simp [h6] at h4 h5; rw [h4] at h5; cases h5
    · simp [Array.getElem?_eq_none h6] at h4
  show (u.setIfInBounds j true).getD k true = false
  rw [Go.getD_set_ne true hjk]; exact hD
/-- One alone may come up. -/
theorem g_one {i : Nat} {o : Oper} {n : Nat} {u : Array Bool} {a : Act} {w : World} (hr : Region.ready md ops u = [i]) (ho : ops[i]? = some o)
    (h : ∀ K' : Act → World → Prop, Shut (∀ a w, S (u.setIfInBounds i true) w → (S (u.setIfInBounds i true) w → wpAnyG P md ops Q S n (u.setIfInBounds i true) a w) → K' a w) → if Region.wanted o (yielded ops a.tmps) = true then Oper.wp P o a w K' Q else K' (a.put o.dst undef) w) :
    wpAnyG P md ops Q S (n + 1) u a w := by
  refine ⟨fun h0 => (by rw [hr] at h0; cases h0), fun j hj => ?_⟩
  rw [hr] at hj
  obtain rfl : j = i := by simpa using hj
  exact wpOp_step ho (fun K' hK => h K' (fun a w hS hW => hK a w ⟨hS, hW hS⟩))
theorem g_done {u : Array Bool} {a : Act} {w : World} (hr : Region.ready md ops u = []) (h : Q .normal a w) : ∀ n, wpAnyG P md ops Q S n u a w
  | 0 => ⟨hr, h⟩
  | _ + 1 => ⟨fun _ => h, by rw [hr]; simp⟩
end
end Go.Proofs.YtbhfoelnoddlkaaGreatDoor.D

/-
  shortest.shl, tens; a ratio in memory; by: walked.
-/
namespace Go.Proofs.YtbhfoelnoddlkaaGreatDoor.D
open Go Go.RowKit Limb

set_option maxRecDepth 100000 in
theorem sshl_any (w : World) (v : Value) (l : List Nat) (n : Nat) (h : Limbs w v l) (hl : l.length ≤ 8589934592) (hn : n + blen (val l) ≤ 8388608) :
    Calls Tryz.prog 197 #[v, .int .i64 (n : Int)] w fun e w' => Below w.heap.size w w' ∧ ∃ v', e = .returned v' ∧ Limbs w' v' (limbs (val l * 2 ^ n)) := by
  have HS := Lib.hid (shl_any w v l n h hl hn)
  clear h hl hn
  go_enter Tryz.func197, Tryz.ntmps197
  go_wp2_with fail
  refine HS.out.mono ?_
  rintro e w2 ⟨hb2, v2, rfl, h2⟩
  have HB2 := Lib.hid hb2
  have H2 := Lib.hid h2
  clear hb2 h2
  go_wp2
  go_ret
  exact ⟨HB2.out, _, rfl, H2.out⟩
set_option maxRecDepth 100000 in
theorem tens_0 (w : World) (hG : GW w) :
    Calls Tryz.prog 198 #[.int .i64 0] w fun e w' => Below w.heap.size w w' ∧ ∃ v', e = .returned v' ∧ Limbs w' v' (limbs 1) := by
  have HS := Lib.hid (pow_0 w hG)
  clear hG
  go_enter Tryz.func198, Tryz.ntmps198
  go_wp2_with fail
  refine HS.out.mono ?_
  rintro e w2 ⟨hb2, v2, rfl, h2⟩
  have HB2 := Lib.hid hb2
  have H2 := Lib.hid h2
  clear hb2 h2
  go_wp2
  go_ret
  exact ⟨HB2.out, _, rfl, by rw [show limbs 1 = [1] from Limb.limbs_small (by decide) (by decide)]; exact H2.out⟩

/-- Cells of a ratio. -/
def qCells (vn vd vl vh : Value) (ev : Bool) : Array Value := #[vn, vd, vl, vh, .bool ev]
/-- A ratio at block R: the number and its divisor, how far the halves reach down and up. -/
def RtC (w : World) (R : Nat) (vn vd vl vh : Value) (n d l h : Nat) (ev : Bool) : Prop :=
  Blk w R (qCells vn vd vl vh ev) 292 ∧ Limbs w vn (limbs n) ∧ Limbs w vd (limbs d) ∧ Limbs w vl (limbs l) ∧ Limbs w vh (limbs h)
def Rt (w : World) (R : Nat) (n d l h : Nat) (ev : Bool) : Prop := ∃ vn vd vl vh, RtC w R vn vd vl vh n d l h ev
theorem RtC.below {w w' : World} {R n d l h : Nat} {vn vd vl vh : Value} {ev : Bool} (hr : RtC w R vn vd vl vh n d l h ev) (hb : Below w.heap.size w w') : RtC w' R vn vd vl vh n d l h ev :=
  ⟨hr.1.below hb hr.1.lt, hr.2.1.below hb, hr.2.2.1.below hb, hr.2.2.2.1.below hb, hr.2.2.2.2.below hb⟩
theorem Rt.below {w w' : World} {R n d l h : Nat} {ev : Bool} (hr : Rt w R n d l h ev) (hb : Below w.heap.size w w') : Rt w' R n d l h ev := by
  obtain ⟨vn, vd, vl, vh, hr⟩ := hr
  exact ⟨vn, vd, vl, vh, hr.below hb⟩
/-- Numbers that stand in memory, made since a world. -/
def AllN (W w : World) (L : List (Value × Nat)) : Prop := Below W.heap.size W w ∧ ∀ p ∈ L, Limbs w p.1 (limbs p.2)
theorem AllN.step {W w w' : World} {L : List (Value × Nat)} {v : Value} {x : Nat} (h : AllN W w L) (hb : Below w.heap.size w w') (hv : Limbs w' v (limbs x)) : AllN W w' ((v, x) :: L) := by
  refine ⟨h.1.trans (hb.mono h.1.size), fun p hp => ?_⟩
  rcases List.mem_cons.1 hp with rfl | hp
  · exact hv
  · exact (h.2 p hp).below hb

theorem Limbs.ex {w w' : World} {v : Value} {l : List Nat} (h : Limbs w v l) {R : Nat} {c : Array Value} {t : TypeId} (hk : Blk w R c t) (hc : ∀ (i : Nat) (x : Int), c[i]? ≠ some (.int .u32 x)) (he : Ex (fun k => k = R) w.heap.size w w') : Limbs w' v l := by
  obtain ⟨hf, h | ⟨blk, off, cap, hv, h1, h2, h3, h4⟩⟩ := h
  · exact ⟨hf, .inl h⟩
  · refine ⟨hf, .inr ⟨blk, off, cap, hv, h1, h2, by have := he.size; omega, fun j hj => ?_⟩⟩
    have h5 := h4 j hj
    have hne : ¬ blk = R := by
      rintro rfl
      rw [hk.cell] at h5
      exact hc _ _ h5
    rw [he.cell (a := ⟨blk, off + j, none⟩) h3 hne]
    exact h5
theorem RtC.noint {w : World} {R n d l h : Nat} {vn vd vl vh : Value} {ev : Bool} (hr : RtC w R vn vd vl vh n d l h ev) : ∀ (i : Nat) (x : Int), (qCells vn vd vl vh ev)[i]? ≠ some (.int .u32 x) := by
  obtain ⟨b1, c1, rfl⟩ := hr.2.1.slice
  obtain ⟨b2, c2, rfl⟩ := hr.2.2.1.slice
  obtain ⟨b3, c3, rfl⟩ := hr.2.2.2.1.slice
  obtain ⟨b4, c4, rfl⟩ := hr.2.2.2.2.slice
  intro i x
  match i with
  | 0 => simp [qCells]
  | 1 => simp [qCells]
  | 2 => simp [qCells]
  | 3 => simp [qCells]
  | 4 => simp [qCells]
  | i + 5 => simp [qCells]

/-- What the region of 'by' asks of the world: each cell, as long as the product that reads it has not come up. -/
structure SBy (R : Nat) (vn vl vh : Value) (u : Array Bool) (w : World) : Prop where
  c0 : u.getD 8 true = false → w.cell? ⟨R, 0, none⟩ = some vn
  c2 : u.getD 14 true = false → w.cell? ⟨R, 2, none⟩ = some vl
  c3 : u.getD 20 true = false → w.cell? ⟨R, 3, none⟩ = some vh
theorem SBy.anti {R : Nat} {vn vl vh : Value} (i : Nat) (h8 : i ≠ 8) (h14 : i ≠ 14) (h20 : i ≠ 20) (u : Array Bool) (w : World) : SBy R vn vl vh (u.setIfInBounds i true) w ↔ SBy R vn vl vh u w := by
  constructor
  · intro h
    exact ⟨fun e => h.c0 (by rw [Go.getD_set_ne true h8]; exact e), fun e => h.c2 (by rw [Go.getD_set_ne true h14]; exact e), fun e => h.c3 (by rw [Go.getD_set_ne true h20]; exact e)⟩
  · intro h
    exact ⟨fun e => h.c0 (by rw [Go.getD_set_ne true h8] at e; exact e), fun e => h.c2 (by rw [Go.getD_set_ne true h14] at e; exact e), fun e => h.c3 (by rw [Go.getD_set_ne true h20] at e; exact e)⟩

set_option maxRecDepth 100000 in
set_option maxHeartbeats 1000000 in
theorem by_any (w : World) (R : Nat) (va : Value) (n d l h a : Nat) (ev : Bool) (hR : Rt w R n d l h ev) (ha : Limbs w va (limbs a)) (hn : (limbs n).length ≤ 100000) (hl : (limbs l).length ≤ 100000) (hh : (limbs h).length ≤ 100000) (ha2 : (limbs a).length ≤ 100000) :
    Calls Tryz.prog 199 #[.pointer (some ⟨R, 0, none⟩), va] w fun e w' => e = .returned (.tuple #[]) ∧ Rt w' R (n * a) d (l * a) (h * a) ev ∧ Ex (fun k => k = R) w.heap.size w w' := by
  obtain ⟨vn, vd, vl, vh, hr⟩ := hR
  have HLN := Lib.hid hn
  have HLL := Lib.hid hl
  have HLH := Lib.hid hh
  have HLA := Lib.hid ha2
  obtain ⟨w0, hw0⟩ : ∃ w0, w0 = w.drew := ⟨_, rfl⟩
  have HR0 : Hid (RtC w0 R vn vd vl vh n d l h ev) := Lib.hid (by rw [hw0]; exact hr.below (below_drewN (Below.refl w.heap.size w) 1))
  have HA0 : Hid (Limbs w0 va (limbs a)) := Lib.hid (by rw [hw0]; exact ha.below (below_drewN (Below.refl w.heap.size w) 1))
  have HB0 : Hid (Below w.heap.size w w0) := Lib.hid (by rw [hw0]; exact (below_drewN (Below.refl w.heap.size w) 1))
  have HW := Lib.hid hw0
  clear hn hl hh ha2 hr ha hw0
  go_enter Tryz.func199, Tryz.ntmps199
  go_upto_region 0 with fail
  refine wp_region_noPanic ?_
  refine region_G (S := SBy R vn vl vh) (by kernel_rfl) ?_
  rw [← HW.out]
  have hH : SBy R vn vl vh (Array.replicate 30 false) w0 := ⟨fun _ => HR0.out.1.cell 0, fun _ => HR0.out.1.cell 2, fun _ => HR0.out.1.cell 3⟩
  refine g_pure (d := some 4) (hd := by rfl) (i := 0) (oi := _) (v := .pointer (some ⟨R, 0, none⟩)) rfl (by kernel_rfl) (by kernel_rfl) (by kernel_rfl) (fun _ _ _ h => h) (SBy.anti 0 (by decide) (by decide) (by decide)) (Or.inl ⟨by rfl, fun w' _ => ?_⟩) hH (fun hH => ?_)
  · clear hH
    go_simp
  try simp only [Act.put, List.setIfInBounds_toArray, List.set_cons_zero, List.set_cons_succ]
  refine g_pure (d := some 5) (hd := by rfl) (i := 1) (oi := _) (v := .pointer (some ⟨R, 0, none⟩)) rfl (by kernel_rfl) (by kernel_rfl) (by kernel_rfl) (fun _ _ _ h => h) (SBy.anti 1 (by decide) (by decide) (by decide)) (Or.inl ⟨by rfl, fun w' _ => ?_⟩) hH (fun hH => ?_)
  · clear hH
    go_simp
  try simp only [Act.put, List.setIfInBounds_toArray, List.set_cons_zero, List.set_cons_succ]
  refine g_pure (d := some 6) (hd := by rfl) (i := 2) (oi := _) (v := .pointer (some ⟨R, 0, none⟩)) rfl (by kernel_rfl) (by kernel_rfl) (by kernel_rfl) (fun _ _ _ h => h) (SBy.anti 2 (by decide) (by decide) (by decide)) (Or.inl ⟨by rfl, fun w' _ => ?_⟩) hH (fun hH => ?_)
  · clear hH
    go_simp
  try simp only [Act.put, List.setIfInBounds_toArray, List.set_cons_zero, List.set_cons_succ]
  refine g_pure (d := some 7) (hd := by rfl) (i := 3) (oi := _) (v := .pointer (some ⟨R, 0, none⟩)) rfl (by kernel_rfl) (by kernel_rfl) (by kernel_rfl) (fun _ _ _ h => h) (SBy.anti 3 (by decide) (by decide) (by decide)) (Or.inl ⟨by rfl, fun w' _ => ?_⟩) hH (fun hH => ?_)
  · clear hH
    go_simp
  try simp only [Act.put, List.setIfInBounds_toArray, List.set_cons_zero, List.set_cons_succ]
  refine g_pure (d := some 8) (hd := by rfl) (i := 4) (oi := _) (v := .pointer (some ⟨R, 0, none⟩)) rfl (by kernel_rfl) (by kernel_rfl) (by kernel_rfl) (fun _ _ _ h => h) (SBy.anti 4 (by decide) (by decide) (by decide)) (Or.inl ⟨by rfl, fun w' _ => ?_⟩) hH (fun hH => ?_)
  · clear hH
    go_simp
  try simp only [Act.put, List.setIfInBounds_toArray, List.set_cons_zero, List.set_cons_succ]
  refine g_pure (d := some 9) (hd := by rfl) (i := 5) (oi := _) (v := .pointer (some ⟨R, 0, none⟩)) rfl (by kernel_rfl) (by kernel_rfl) (by kernel_rfl) (fun _ _ _ h => h) (SBy.anti 5 (by decide) (by decide) (by decide)) (Or.inl ⟨by rfl, fun w' _ => ?_⟩) hH (fun hH => ?_)
  · clear hH
    go_simp
  try simp only [Act.put, List.setIfInBounds_toArray, List.set_cons_zero, List.set_cons_succ]
  refine g_load (T := fun w' => w'.cell? ⟨R, 0, none⟩ = some vn) (d := some 10) (hd := by rfl) (i := 6) (k := 8) (oi := _) (ok := _) (v := vn) rfl rfl (by kernel_rfl) (by kernel_rfl) (by kernel_rfl) (by kernel_rfl) (by kernel_rfl) (fun _ _ _ h => h) (SBy.anti 6 (by decide) (by decide) (by decide)) (fun u w h hs => hs.c0 h) (Or.inl ⟨by rfl, fun w' hT => ?_⟩) hH (fun hH => ?_)
  · clear hH
    have hT : w'.cell? ⟨R, 0, none⟩ = some vn := hT
    go_simp
  try simp only [Act.put, List.setIfInBounds_toArray, List.set_cons_zero, List.set_cons_succ]
  refine g_pure (d := some 11) (hd := by rfl) (i := 7) (oi := _) (v := va) rfl (by kernel_rfl) (by kernel_rfl) (by kernel_rfl) (fun _ _ _ h => h) (SBy.anti 7 (by decide) (by decide) (by decide)) (Or.inl ⟨by rfl, fun w' _ => ?_⟩) hH (fun hH => ?_)
  · clear hH
    go_simp
  try simp only [Act.put, List.setIfInBounds_toArray, List.set_cons_zero, List.set_cons_succ]
  refine g_pure (d := some 13) (hd := by rfl) (i := 9) (oi := _) (v := .pointer (some ⟨R, 0, none⟩)) rfl (by kernel_rfl) (by kernel_rfl) (by kernel_rfl) (fun _ _ _ h => h) (SBy.anti 9 (by decide) (by decide) (by decide)) (Or.inl ⟨by rfl, fun w' _ => ?_⟩) hH (fun hH => ?_)
  · clear hH
    go_simp
  try simp only [Act.put, List.setIfInBounds_toArray, List.set_cons_zero, List.set_cons_succ]
  refine g_pure (d := some 14) (hd := by rfl) (i := 10) (oi := _) (v := .pointer (some ⟨R, 0, none⟩)) rfl (by kernel_rfl) (by kernel_rfl) (by kernel_rfl) (fun _ _ _ h => h) (SBy.anti 10 (by decide) (by decide) (by decide)) (Or.inl ⟨by rfl, fun w' _ => ?_⟩) hH (fun hH => ?_)
  · clear hH
    go_simp
  try simp only [Act.put, List.setIfInBounds_toArray, List.set_cons_zero, List.set_cons_succ]
  refine g_pure (d := some 15) (hd := by rfl) (i := 11) (oi := _) (v := .pointer (some ⟨R, 2, none⟩)) rfl (by kernel_rfl) (by kernel_rfl) (by kernel_rfl) (fun _ _ _ h => h) (SBy.anti 11 (by decide) (by decide) (by decide)) (Or.inl ⟨by rfl, fun w' _ => ?_⟩) hH (fun hH => ?_)
  · clear hH
    go_simp
  try simp only [Act.put, List.setIfInBounds_toArray, List.set_cons_zero, List.set_cons_succ]
  refine g_load (T := fun w' => w'.cell? ⟨R, 2, none⟩ = some vl) (d := some 16) (hd := by rfl) (i := 12) (k := 14) (oi := _) (ok := _) (v := vl) rfl rfl (by kernel_rfl) (by kernel_rfl) (by kernel_rfl) (by kernel_rfl) (by kernel_rfl) (fun _ _ _ h => h) (SBy.anti 12 (by decide) (by decide) (by decide)) (fun u w h hs => hs.c2 h) (Or.inl ⟨by rfl, fun w' hT => ?_⟩) hH (fun hH => ?_)
  · clear hH
    have hT : w'.cell? ⟨R, 2, none⟩ = some vl := hT
    go_simp
  try simp only [Act.put, List.setIfInBounds_toArray, List.set_cons_zero, List.set_cons_succ]
  refine g_pure (d := some 17) (hd := by rfl) (i := 13) (oi := _) (v := va) rfl (by kernel_rfl) (by kernel_rfl) (by kernel_rfl) (fun _ _ _ h => h) (SBy.anti 13 (by decide) (by decide) (by decide)) (Or.inl ⟨by rfl, fun w' _ => ?_⟩) hH (fun hH => ?_)
  · clear hH
    go_simp
  try simp only [Act.put, List.setIfInBounds_toArray, List.set_cons_zero, List.set_cons_succ]
  refine g_pure (d := some 19) (hd := by rfl) (i := 15) (oi := _) (v := .pointer (some ⟨R, 0, none⟩)) rfl (by kernel_rfl) (by kernel_rfl) (by kernel_rfl) (fun _ _ _ h => h) (SBy.anti 15 (by decide) (by decide) (by decide)) (Or.inl ⟨by rfl, fun w' _ => ?_⟩) hH (fun hH => ?_)
  · clear hH
    go_simp
  try simp only [Act.put, List.setIfInBounds_toArray, List.set_cons_zero, List.set_cons_succ]
  refine g_pure (d := some 20) (hd := by rfl) (i := 16) (oi := _) (v := .pointer (some ⟨R, 0, none⟩)) rfl (by kernel_rfl) (by kernel_rfl) (by kernel_rfl) (fun _ _ _ h => h) (SBy.anti 16 (by decide) (by decide) (by decide)) (Or.inl ⟨by rfl, fun w' _ => ?_⟩) hH (fun hH => ?_)
  · clear hH
    go_simp
  try simp only [Act.put, List.setIfInBounds_toArray, List.set_cons_zero, List.set_cons_succ]
  refine g_pure (d := some 21) (hd := by rfl) (i := 17) (oi := _) (v := .pointer (some ⟨R, 3, none⟩)) rfl (by kernel_rfl) (by kernel_rfl) (by kernel_rfl) (fun _ _ _ h => h) (SBy.anti 17 (by decide) (by decide) (by decide)) (Or.inl ⟨by rfl, fun w' _ => ?_⟩) hH (fun hH => ?_)
  · clear hH
    go_simp
  try simp only [Act.put, List.setIfInBounds_toArray, List.set_cons_zero, List.set_cons_succ]
  refine g_load (T := fun w' => w'.cell? ⟨R, 3, none⟩ = some vh) (d := some 22) (hd := by rfl) (i := 18) (k := 20) (oi := _) (ok := _) (v := vh) rfl rfl (by kernel_rfl) (by kernel_rfl) (by kernel_rfl) (by kernel_rfl) (by kernel_rfl) (fun _ _ _ h => h) (SBy.anti 18 (by decide) (by decide) (by decide)) (fun u w h hs => hs.c3 h) (Or.inl ⟨by rfl, fun w' hT => ?_⟩) hH (fun hH => ?_)
  · clear hH
    have hT : w'.cell? ⟨R, 3, none⟩ = some vh := hT
    go_simp
  try simp only [Act.put, List.setIfInBounds_toArray, List.set_cons_zero, List.set_cons_succ]
  refine g_pure (d := some 23) (hd := by rfl) (i := 19) (oi := _) (v := va) rfl (by kernel_rfl) (by kernel_rfl) (by kernel_rfl) (fun _ _ _ h => h) (SBy.anti 19 (by decide) (by decide) (by decide)) (Or.inl ⟨by rfl, fun w' _ => ?_⟩) hH (fun hH => ?_)
  · clear hH
    go_simp
  try simp only [Act.put, List.setIfInBounds_toArray, List.set_cons_zero, List.set_cons_succ]
  refine g_one (i := 8) (o := _) (by kernel_rfl) rfl (fun K hK => ?_)
  go_simp
  refine (mul_any w0 vn va _ _ HR0.out.2.1 HA0.out (by have := HLN.out; omega) (by have := HLA.out; omega)).mono ?_
  rintro e w1 ⟨hb1, v1, rfl, hv1⟩
  rw [val_limbs, val_limbs] at hv1
  obtain ⟨sb1, sc1, hs1⟩ := hv1.slice
  obtain ⟨ln1, hl1⟩ : ∃ ln, ln = (limbs (n * a)).length := ⟨_, rfl⟩
  rw [← hl1] at hs1
  subst hs1
  have HR1 := Lib.hid (HR0.out.below hb1)
  have HA1 := Lib.hid (HA0.out.below hb1)
  have HB1 := Lib.hid (HB0.out.trans (hb1.mono HB0.out.size))

  have HL11 := Lib.hid hv1
  clear hb1 hv1 hl1
  go_wp2_with fail
  refine hK.out _ _ ⟨fun _ => HR1.out.1.cell 0, fun _ => HR1.out.1.cell 2, fun _ => HR1.out.1.cell 3⟩ (fun hH => ?_)
  clear hK K
  try simp only [Act.put, List.setIfInBounds_toArray, List.set_cons_zero, List.set_cons_succ]
  refine g_one (i := 14) (o := _) (by kernel_rfl) rfl (fun K hK => ?_)
  go_simp
  refine (mul_any w1 vl va _ _ HR1.out.2.2.2.1 HA1.out (by have := HLL.out; omega) (by have := HLA.out; omega)).mono ?_
  rintro e w2 ⟨hb2, v2, rfl, hv2⟩
  rw [val_limbs, val_limbs] at hv2
  obtain ⟨sb2, sc2, hs2⟩ := hv2.slice
  obtain ⟨ln2, hl2⟩ : ∃ ln, ln = (limbs (l * a)).length := ⟨_, rfl⟩
  rw [← hl2] at hs2
  subst hs2
  have HR2 := Lib.hid (HR1.out.below hb2)
  have HA2 := Lib.hid (HA1.out.below hb2)
  have HB2 := Lib.hid (HB1.out.trans (hb2.mono HB1.out.size))
  have HL21 := Lib.hid (HL11.out.below hb2)
  have HL22 := Lib.hid hv2
  clear hb2 hv2 hl2
  go_wp2_with fail
  refine hK.out _ _ ⟨fun _ => HR2.out.1.cell 0, fun _ => HR2.out.1.cell 2, fun _ => HR2.out.1.cell 3⟩ (fun hH => ?_)
  clear hK K
  try simp only [Act.put, List.setIfInBounds_toArray, List.set_cons_zero, List.set_cons_succ]
  refine g_one (i := 20) (o := _) (by kernel_rfl) rfl (fun K hK => ?_)
  go_simp
  refine (mul_any w2 vh va _ _ HR2.out.2.2.2.2 HA2.out (by have := HLH.out; omega) (by have := HLA.out; omega)).mono ?_
  rintro e w3 ⟨hb3, v3, rfl, hv3⟩
  rw [val_limbs, val_limbs] at hv3
  obtain ⟨sb3, sc3, hs3⟩ := hv3.slice
  obtain ⟨ln3, hl3⟩ : ∃ ln, ln = (limbs (h * a)).length := ⟨_, rfl⟩
  rw [← hl3] at hs3
  subst hs3
  have HR3 := Lib.hid (HR2.out.below hb3)
  have HA3 := Lib.hid (HA2.out.below hb3)
  have HB3 := Lib.hid (HB2.out.trans (hb3.mono HB2.out.size))
  have HL31 := Lib.hid (HL21.out.below hb3)
  have HL32 := Lib.hid (HL22.out.below hb3)
  have HL33 := Lib.hid hv3
  clear hb3 hv3 hl3
  go_wp2_with fail
  refine hK.out _ _ ⟨fun _ => HR3.out.1.cell 0, fun _ => HR3.out.1.cell 2, fun _ => HR3.out.1.cell 3⟩ (fun hH => ?_)
  clear hK K
  try simp only [Act.put, List.setIfInBounds_toArray, List.set_cons_zero, List.set_cons_succ]
  have HXa := Lib.hid HR3.out.1
  have HEa := Lib.hid (Ex.of_below (S := fun k => k = R) HB3.out)
  refine g_pure (d := some 25) (hd := by rfl) (i := 21) (oi := _) (v := .pointer (some ⟨R, 0, none⟩)) rfl (by kernel_rfl) (by kernel_rfl) (by kernel_rfl) (fun _ _ _ h => h) (SBy.anti 21 (by decide) (by decide) (by decide)) (Or.inl ⟨by rfl, fun w' _ => ?_⟩) hH (fun hH => ?_)
  · clear hH
    go_simp
  try simp only [Act.put, List.setIfInBounds_toArray, List.set_cons_zero, List.set_cons_succ]
  refine g_pure (d := some 26) (hd := by rfl) (i := 22) (oi := _) (v := .pointer (some ⟨R, 0, none⟩)) rfl (by kernel_rfl) (by kernel_rfl) (by kernel_rfl) (fun _ _ _ h => h) (SBy.anti 22 (by decide) (by decide) (by decide)) (Or.inl ⟨by rfl, fun w' _ => ?_⟩) hH (fun hH => ?_)
  · clear hH
    go_simp
  try simp only [Act.put, List.setIfInBounds_toArray, List.set_cons_zero, List.set_cons_succ]
  refine g_one (i := 23) (o := _) (by kernel_rfl) rfl (fun K hK => ?_)
  have e0 := HXa.out.cell 0
  have f0 := HXa.out.free 0
  simp only [qCells, List.getElem?_toArray, List.getElem?_cons_zero, List.getElem?_cons_succ] at e0
  go_simp
  go_wp2_with fail
  clear e0 f0
  refine hK.out _ _ ⟨fun h => absurd h (by decide), fun h => absurd h (by decide), fun h => absurd h (by decide)⟩ (fun hH => ?_)
  clear hK K
  try simp only [Act.put, List.setIfInBounds_toArray, List.set_cons_zero, List.set_cons_succ]
  have HXb := Lib.hid (HXa.out.set 0 (.slice sb1 ln1 sc1))
  have HEb := Lib.hid (HEa.out.setCell R 0 (Or.inl rfl) (.slice sb1 ln1 sc1))
  refine g_pure (d := some 27) (hd := by rfl) (i := 24) (oi := _) (v := .pointer (some ⟨R, 0, none⟩)) rfl (by kernel_rfl) (by kernel_rfl) (by kernel_rfl) (fun _ _ _ h => h) (SBy.anti 24 (by decide) (by decide) (by decide)) (Or.inl ⟨by rfl, fun w' _ => ?_⟩) hH (fun hH => ?_)
  · clear hH
    go_simp
  try simp only [Act.put, List.setIfInBounds_toArray, List.set_cons_zero, List.set_cons_succ]
  refine g_pure (d := some 28) (hd := by rfl) (i := 25) (oi := _) (v := .pointer (some ⟨R, 2, none⟩)) rfl (by kernel_rfl) (by kernel_rfl) (by kernel_rfl) (fun _ _ _ h => h) (SBy.anti 25 (by decide) (by decide) (by decide)) (Or.inl ⟨by rfl, fun w' _ => ?_⟩) hH (fun hH => ?_)
  · clear hH
    go_simp
  try simp only [Act.put, List.setIfInBounds_toArray, List.set_cons_zero, List.set_cons_succ]
  refine g_one (i := 26) (o := _) (by kernel_rfl) rfl (fun K hK => ?_)
  have e2 := HXb.out.cell 2
  have f2 := HXb.out.free 2
  simp only [qCells, List.getElem?_toArray, List.getElem?_cons_zero, List.getElem?_cons_succ] at e2
  go_simp
  go_wp2_with fail
  clear e2 f2
  refine hK.out _ _ ⟨fun h => absurd h (by decide), fun h => absurd h (by decide), fun h => absurd h (by decide)⟩ (fun hH => ?_)
  clear hK K
  try simp only [Act.put, List.setIfInBounds_toArray, List.set_cons_zero, List.set_cons_succ]
  have HXc := Lib.hid (HXb.out.set 2 (.slice sb2 ln2 sc2))
  have HEc := Lib.hid (HEb.out.setCell R 2 (Or.inl rfl) (.slice sb2 ln2 sc2))
  refine g_pure (d := some 29) (hd := by rfl) (i := 27) (oi := _) (v := .pointer (some ⟨R, 0, none⟩)) rfl (by kernel_rfl) (by kernel_rfl) (by kernel_rfl) (fun _ _ _ h => h) (SBy.anti 27 (by decide) (by decide) (by decide)) (Or.inl ⟨by rfl, fun w' _ => ?_⟩) hH (fun hH => ?_)
  · clear hH
    go_simp
  try simp only [Act.put, List.setIfInBounds_toArray, List.set_cons_zero, List.set_cons_succ]
  refine g_pure (d := some 30) (hd := by rfl) (i := 28) (oi := _) (v := .pointer (some ⟨R, 3, none⟩)) rfl (by kernel_rfl) (by kernel_rfl) (by kernel_rfl) (fun _ _ _ h => h) (SBy.anti 28 (by decide) (by decide) (by decide)) (Or.inl ⟨by rfl, fun w' _ => ?_⟩) hH (fun hH => ?_)
  · clear hH
    go_simp
  try simp only [Act.put, List.setIfInBounds_toArray, List.set_cons_zero, List.set_cons_succ]
  refine g_one (i := 29) (o := _) (by kernel_rfl) rfl (fun K hK => ?_)
  have e3 := HXc.out.cell 3
  have f3 := HXc.out.free 3
  simp only [qCells, List.getElem?_toArray, List.getElem?_cons_zero, List.getElem?_cons_succ] at e3
  go_simp
  go_wp2_with fail
  clear e3 f3
  refine hK.out _ _ ⟨fun h => absurd h (by decide), fun h => absurd h (by decide), fun h => absurd h (by decide)⟩ (fun hH => ?_)
  clear hK K
  try simp only [Act.put, List.setIfInBounds_toArray, List.set_cons_zero, List.set_cons_succ]
  have HXd := Lib.hid (HXc.out.set 3 (.slice sb3 ln3 sc3))
  have HEd := Lib.hid (HEc.out.setCell R 3 (Or.inl rfl) (.slice sb3 ln3 sc3))
  refine g_done (by kernel_rfl) ?_ _
  refine NoPanic.normal ?_
  have HEz : Hid (Ex (fun k => k = R) w3.heap.size w3 (((w3.setCell ⟨R, 0, none⟩ (.slice sb1 ln1 sc1)).setCell ⟨R, 2, none⟩ (.slice sb2 ln2 sc2)).setCell ⟨R, 3, none⟩ (.slice sb3 ln3 sc3))) := Lib.hid ((((Ex.refl (fun k => k = R) _ _).setCell R 0 (Or.inl rfl) _).setCell R 2 (Or.inl rfl) _).setCell R 3 (Or.inl rfl) _)
  have HNI := Lib.hid (RtC.noint (w := w3) (vn := vn) (vd := vd) (vl := vl) (vh := vh) (n := n) (d := d) (l := l) (h := h) (ev := ev) (R := R) HR3.out)
  go_wp2
  go_end0
  exact ⟨rfl, ⟨_, _, _, _, HXd.out, HL31.out.ex HR3.out.1 HNI.out HEz.out, HR3.out.2.2.1.ex HR3.out.1 HNI.out HEz.out, HL32.out.ex HR3.out.1 HNI.out HEz.out, HL33.out.ex HR3.out.1 HNI.out HEz.out⟩, HEd.out⟩
end Go.Proofs.YtbhfoelnoddlkaaGreatDoor.D

