/-
  Of the proof that the law DiagDeep answers true at every row of bytes: a part, without conditions of its own.
-/
import Derived.Test.YtbhfoelnoddlkaaGreatDoorPart28
set_option linter.unusedVariables false
set_option linter.unusedSimpArgs false
/-
  shortest.ratio.over, digit: walked.
-/
namespace Go.Proofs.YtbhfoelnoddlkaaGreatDoor.D
open Go Go.RowKit Limb

theorem ten_len (n k : Nat) (h : (limbs n).length ≤ k) : (limbs (n * 10)).length ≤ k + 1 := by
  apply limbs_length_le
  have h1 := limbs_lt n
  have h3 : 4294967296 ^ (limbs n).length ≤ 4294967296 ^ k := Nat.pow_le_pow_right (by decide) h
  rw [Nat.pow_succ]
  generalize 4294967296 ^ k = K at *
  omega
def overB (n d h : Nat) (ev : Bool) : Bool := decide (d < n + h) || (decide (n + h = d) && ev)
theorem over_cmp (n d h : Nat) (ev : Bool) : (0 < cmpI (n + h) d → overB n d h ev = true) ∧ (cmpI (n + h) d = 0 → overB n d h ev = ev) ∧ (cmpI (n + h) d < 0 → overB n d h ev = false) := by
  unfold cmpI overB
  rcases Nat.lt_trichotomy (n + h) d with h1 | h1 | h1
  · have h2 : ¬ d < n + h := by omega
    have h3 : ¬ n + h = d := by omega
    simp [h1, h2, h3]
  · have h2 : ¬ d < n + h := by omega
    simp [h1]
  · have h2 : ¬ n + h < d := by omega
    simp [h1, h2]
theorem limbs_add_len {a b k : Nat} (ha : (limbs a).length ≤ k) (hb : (limbs b).length ≤ k) : (limbs (a + b)).length ≤ k + 1 := by
  apply limbs_length_le
  have h1 := limbs_lt a
  have h2 := limbs_lt b
  have h3 : 4294967296 ^ (limbs a).length ≤ 4294967296 ^ k := Nat.pow_le_pow_right (by omega) ha
  have h4 : 4294967296 ^ (limbs b).length ≤ 4294967296 ^ k := Nat.pow_le_pow_right (by omega) hb
  rw [Nat.pow_succ]
  omega

set_option maxRecDepth 100000 in
set_option maxHeartbeats 1000000 in
theorem over_any (w : World) (R : Nat) (n d l h : Nat) (ev : Bool) (hR : Rt w R n d l h ev) (hn : (limbs n).length ≤ 100000) (hd : (limbs d).length ≤ 100000) (hh : (limbs h).length ≤ 100000) :
    Calls Tryz.prog 200 #[.pointer (some ⟨R, 0, none⟩)] w fun e w' => e = .returned (.bool (overB n d h ev)) ∧ Below w.heap.size w w' := by
  obtain ⟨vn, vd, vl, vh, hr⟩ := hR
  have HT : Hid (∀ w' w'', (w'.cell? ⟨R, 0, none⟩ = some vn ∧ w'.cell? ⟨R, 1, none⟩ = some vd ∧ w'.cell? ⟨R, 3, none⟩ = some vh ∧ RtC w' R vn vd vl vh n d l h ev ∧ Below w.heap.size w w') → Hid (Below w'.heap.size w' w'') → (w''.cell? ⟨R, 0, none⟩ = some vn ∧ w''.cell? ⟨R, 1, none⟩ = some vd ∧ w''.cell? ⟨R, 3, none⟩ = some vh ∧ RtC w'' R vn vd vl vh n d l h ev ∧ Below w.heap.size w w'')) := Lib.hid (fun w' w'' h hk => by
    obtain ⟨_, _, _, h1, h2⟩ := h
    have h3 := h1.below hk.out
    exact ⟨h3.1.cell 0, h3.1.cell 1, h3.1.cell 3, h3, h2.trans (hk.out.mono h2.size)⟩)
  have HS0 : Hid ((w.drew).cell? ⟨R, 0, none⟩ = some vn ∧ (w.drew).cell? ⟨R, 1, none⟩ = some vd ∧ (w.drew).cell? ⟨R, 3, none⟩ = some vh ∧ RtC (w.drew) R vn vd vl vh n d l h ev ∧ Below w.heap.size w w.drew) := Lib.hid (by
    have h3 := hr.below (below_drewN (Below.refl w.heap.size w) 1)
    exact ⟨h3.1.cell 0, h3.1.cell 1, h3.1.cell 3, h3, (below_drewN (Below.refl w.heap.size w) 1)⟩)
  have HAD : Hid (∀ w', (w'.cell? ⟨R, 0, none⟩ = some vn ∧ w'.cell? ⟨R, 1, none⟩ = some vd ∧ w'.cell? ⟨R, 3, none⟩ = some vh ∧ RtC w' R vn vd vl vh n d l h ev ∧ Below w.heap.size w w') → Calls Tryz.prog 218 #[vn, vh] w' fun e w'' => Below w'.heap.size w' w'' ∧ ∃ v, e = .returned v ∧ Limbs w'' v (limbs (n + h))) := Lib.hid (fun w' hs => by
    have := nadd_any w' vn vh _ _ hs.2.2.2.1.2.1 hs.2.2.2.1.2.2.2.2 (by omega) (by omega)
    rw [val_limbs, val_limbs] at this
    exact this)
  have HCM : Hid (∀ w' v, (w'.cell? ⟨R, 0, none⟩ = some vn ∧ w'.cell? ⟨R, 1, none⟩ = some vd ∧ w'.cell? ⟨R, 3, none⟩ = some vh ∧ RtC w' R vn vd vl vh n d l h ev ∧ Below w.heap.size w w') → Limbs w' v (limbs (n + h)) → Calls Tryz.prog 202 #[v, vd] w' fun e w'' => e = .returned (.int .i64 (cmpI (n + h) d)) ∧ Below w'.heap.size w' w'') := Lib.hid (fun w' v hs hv => by
    have := cmp_any w' v vd _ _ hv hs.2.2.2.1.2.2.1 (by have := limbs_add_len hn hh; omega) (by omega)
    rw [val_limbs, val_limbs] at this
    exact this)
  have HX : Hid (∀ w', (w'.cell? ⟨R, 0, none⟩ = some vn ∧ w'.cell? ⟨R, 1, none⟩ = some vd ∧ w'.cell? ⟨R, 3, none⟩ = some vh ∧ RtC w' R vn vd vl vh n d l h ev ∧ Below w.heap.size w w') → w'.cell? ⟨R, 4, none⟩ = some (.bool ev) ∧ Below w.heap.size w w') := Lib.hid (fun w' h => ⟨h.2.2.2.1.1.cell 4, h.2.2.2.2⟩)
  have HOV := Lib.hid (over_cmp n d h ev)
  clear hr hn hd hh
  generalize overB n d h ev = bo at HOV ⊢
  generalize cmpI (n + h) d = cm at HCM HOV
  go_enter Tryz.func200, Tryz.ntmps200
  go_upto_region 1 with fail
  go_region_held3 (fun w' => (w'.cell? ⟨R, 0, none⟩ = some vn ∧ w'.cell? ⟨R, 1, none⟩ = some vd ∧ w'.cell? ⟨R, 3, none⟩ = some vh ∧ RtC w' R vn vd vl vh n d l h ev ∧ Below w.heap.size w w'))
    (first
      | exact HS0.out
      | assumption
      | (refine HT.out _ _ ?_ hb9; assumption))
    ((first
      | (go_at_call 218; refine (HAD.out _ (by first | exact HS0.out | assumption)).mono ?_; rintro e w9 ⟨hb9, v9, rfl, hv9⟩; replace hb9 := Lib.hid hb9)
      | (go_at_call 202; refine (HCM.out _ _ (by first | exact HS0.out | assumption | (refine HT.out _ _ ?_ (by assumption); first | exact HS0.out | assumption)) (by assumption)).mono ?_; rintro e w9 ⟨rfl, hb9⟩; replace hb9 := Lib.hid hb9)))
  all_goals (
    have hx := HX.out w9 (by assumption)
    have HB := Lib.hid hx.2
    have c4 := hx.1
    clear hx HX HT HS0 HAD HCM
    rcases Int.lt_trichotomy cm 0 with h1 | h1 | h1
    · have h2 : ¬ 0 < cm := by omega
      have h3 : (cm == 0) = false := beq_eq_false_iff_ne.2 (by omega)
      obtain rfl := HOV.out.2.2 h1
      clear HOV
      go_wp2
      go_ret
      exact ⟨rfl, HB.out⟩
    · subst h1
      obtain rfl := HOV.out.2.1 rfl
      clear HOV
      go_wp2
      go_ret
      exact ⟨rfl, HB.out⟩
    · obtain rfl := HOV.out.1 h1
      clear HOV
      go_wp2
      go_ret
      exact ⟨rfl, HB.out⟩)

set_option maxRecDepth 100000 in
set_option maxHeartbeats 1000000 in
theorem digit_any (w : World) (R : Nat) (n d l h : Nat) (ev : Bool) (hR : Rt w R n d l h ev) (hnd : n < d) (hn : (limbs n).length ≤ 99999) (hd : (limbs d).length ≤ 99999) (hl : (limbs l).length ≤ 99999) (hh : (limbs h).length ≤ 99999) :
    Calls Tryz.prog 201 #[.pointer (some ⟨R, 0, none⟩)] w fun e w' => e = .returned (.int .u8 ((n * 10 / d : Nat) : Int)) ∧ Rt w' R (n * 10 % d) d (l * 10) (h * 10) ev ∧ Ex (fun k => k = R) w.heap.size w w' := by
  have HF := Lib.hid (from_any w 10 (by decide))
  have HR := Lib.hid hR
  have HN := Lib.hid hn
  have HD := Lib.hid hd
  have HL := Lib.hid hl
  have HH := Lib.hid hh
  have h10 : (limbs 10).length = 1 := by rw [show limbs 10 = [10] from Limb.limbs_small (by decide) (by decide)]; rfl
  have hlt : R < w.heap.size := by obtain ⟨_, _, _, _, hr⟩ := hR; exact hr.1.lt
  have HLT := Lib.hid hlt
  have HQ : Hid (n * 10 / d < 10 ∧ d ≠ 0) := Lib.hid ⟨Nat.div_lt_of_lt_mul (by rw [Nat.mul_comm d]; omega), by omega⟩
  clear hR hn hd hl hh hlt hnd
  go_enter Tryz.func201, Tryz.ntmps201
  go_wp2_with fail
  refine HF.out.mono ?_
  rintro e w1 ⟨hb1, v1, rfl, hv1⟩
  have HB1 := Lib.hid hb1
  have HBY := Lib.hid (by_any w1 R v1 n d l h 10 ev (HR.out.below hb1) hv1 (by have := HN.out; omega) (by have := HL.out; omega) (by have := HH.out; omega) (by omega))
  have h1s := hb1.size
  clear hb1 hv1 HF HR
  go_wp2_with fail
  refine HBY.out.mono ?_
  rintro e w2 ⟨rfl, hR2, hE2⟩
  have HE2 := Lib.hid ((Ex.of_below HB1.out).trans (hE2.mono h1s (fun k hk => hk)))
  obtain ⟨vn, vd, vl, vh, hr⟩ := hR2
  have hlt2 := hr.1.lt
  clear hE2 HBY HB1
  have HT : Hid (∀ w' w'', (w'.cell? ⟨R, 0, none⟩ = some vn ∧ w'.cell? ⟨R, 1, none⟩ = some vd ∧ RtC w' R vn vd vl vh (n * 10) d (l * 10) (h * 10) ev ∧ Below w2.heap.size w2 w') → Hid (Below w'.heap.size w' w'') → (w''.cell? ⟨R, 0, none⟩ = some vn ∧ w''.cell? ⟨R, 1, none⟩ = some vd ∧ RtC w'' R vn vd vl vh (n * 10) d (l * 10) (h * 10) ev ∧ Below w2.heap.size w2 w'')) := Lib.hid (fun w' w'' h hk => by
    obtain ⟨_, _, h1, h2⟩ := h
    have h3 := h1.below hk.out
    exact ⟨h3.1.cell 0, h3.1.cell 1, h3, h2.trans (hk.out.mono h2.size)⟩)
  have HS0 : Hid ((w2.drew).cell? ⟨R, 0, none⟩ = some vn ∧ (w2.drew).cell? ⟨R, 1, none⟩ = some vd ∧ RtC (w2.drew) R vn vd vl vh (n * 10) d (l * 10) (h * 10) ev ∧ Below w2.heap.size w2 w2.drew) := Lib.hid (by
    have h3 := hr.below (below_drewN (Below.refl w2.heap.size w2) 1)
    exact ⟨h3.1.cell 0, h3.1.cell 1, h3, (below_drewN (Below.refl w2.heap.size w2) 1)⟩)
  have HDV : Hid (∀ w', (w'.cell? ⟨R, 0, none⟩ = some vn ∧ w'.cell? ⟨R, 1, none⟩ = some vd ∧ RtC w' R vn vd vl vh (n * 10) d (l * 10) (h * 10) ev ∧ Below w2.heap.size w2 w') → Calls Tryz.prog 179 #[vn, vd] w' fun e w'' => Below w'.heap.size w' w'' ∧ ∃ q b c m, e = .returned (.tuple #[q, .slice b m c, .bool true]) ∧ Limbs w'' q (limbs (n * 10 / d)) ∧ Limbs w'' (.slice b m c) (limbs (n * 10 % d))) := Lib.hid (fun w' hs => by
    have hnl : (limbs (n * 10)).length ≤ 100001 := ten_len n 100000 (Nat.le_succ_of_le HN.out)
    refine (div_any w' vn vd _ _ hs.2.2.1.2.1 hs.2.2.1.2.2.1 (by omega) (by have := HD.out; omega) (by rw [val_limbs]; exact HQ.out.2)).mono ?_
    rintro e w'' ⟨hb, q, r, rfl, hq, hr⟩
    rw [val_limbs, val_limbs] at hq hr
    obtain ⟨b, c, rfl⟩ := hr.slice
    exact ⟨hb, q, b, c, _, rfl, hq, hr⟩)
  have HX : Hid (∀ w', (w'.cell? ⟨R, 0, none⟩ = some vn ∧ w'.cell? ⟨R, 1, none⟩ = some vd ∧ RtC w' R vn vd vl vh (n * 10) d (l * 10) (h * 10) ev ∧ Below w2.heap.size w2 w') → RtC w' R vn vd vl vh (n * 10) d (l * 10) (h * 10) ev ∧ Below w2.heap.size w2 w') := Lib.hid (fun w' h => ⟨h.2.2.1, h.2.2.2⟩)
  clear hr
  go_upto_region 2 with fail
  go_region_held3 (fun w' => (w'.cell? ⟨R, 0, none⟩ = some vn ∧ w'.cell? ⟨R, 1, none⟩ = some vd ∧ RtC w' R vn vd vl vh (n * 10) d (l * 10) (h * 10) ev ∧ Below w2.heap.size w2 w'))
    (first
      | exact HS0.out
      | assumption
      | (refine HT.out _ _ ?_ hb9; assumption))
    ((go_at_call 179; refine (HDV.out _ (by first | exact HS0.out | assumption)).mono ?_; rintro e w9 ⟨hb9, q9, b9, c9, m9, rfl, hq9, hr9⟩; replace hb9 := Lib.hid hb9))
  all_goals (
    have hx := HX.out w9 (by assumption)
    have HR9 := Lib.hid hx.1
    have HB9 := Lib.hid hx.2
    have hq9' := hq9
    have hr9' := hr9
    have HQ9 := Lib.hid hq9
    have HV9 := Lib.hid hr9
    have c0 := HR9.out.1.cell 0
    have f0 := HR9.out.1.free 0
    simp only [qCells, List.getElem?_toArray, List.getElem?_cons_zero] at c0
    have hE : Ex (fun k => k = R) w9.heap.size w9 (w9.setCell ⟨R, 0, none⟩ (.slice b9 m9 c9)) := (Ex.refl (fun k => k = R) _ _).setCell R 0 (Or.inl rfl) _
    have hni := RtC.noint HR9.out
    have HQz := Lib.hid (HQ9.out.ex HR9.out.1 hni hE)
    have HVz := Lib.hid (HV9.out.ex HR9.out.1 hni hE)
    have HDz := Lib.hid (HR9.out.2.2.1.ex HR9.out.1 hni hE)
    have HLz := Lib.hid (HR9.out.2.2.2.1.ex HR9.out.1 hni hE)
    have HHz := Lib.hid (HR9.out.2.2.2.2.ex HR9.out.1 hni hE)
    have HBz := Lib.hid (HR9.out.1.set 0 (.slice b9 m9 c9))
    have HEz := Lib.hid (HE2.out.trans (((Ex.of_below (S := fun k => k = R) HB9.out).setCell R 0 (Or.inl rfl) (.slice b9 m9 c9)).mono HE2.out.size (fun k hk => hk)))
    clear hE hni hx hq9 hr9 hq9' hr9' HS0 HT HDV HX hb9 HR9 HQ9 HV9 HB9
    have hqv : val (limbs (n * 10 / d)) = n * 10 / d := val_limbs _
    have HU := Lib.hid (uint_any _ q9 _ HQz.out (by rw [hqv]; have := HQ.out.1; omega))
    rw [hqv] at HU
    have hq10 := HQ.out.1
    have qw : IntKind.u8.wrap ((n * 10 / d : Nat) : Int) = ((n * 10 / d : Nat) : Int) := by rw [IntKind.wrap_u8]; omega
    have qw2 : ((n * 10 / d : Nat) : Int) % 256 = ((n * 10 / d : Nat) : Int) := by omega
    obtain ⟨q, hqq⟩ : ∃ q, q = n * 10 / d := ⟨_, rfl⟩
    rw [← hqq] at HU qw qw2
    have HQE := Lib.hid hqq
    clear hqv hq10 HQz hqq
    go_wp2_with fail
    refine HU.out.mono ?_
    rintro e w10 ⟨rfl, rfl⟩
    go_wp2
    go_ret
    exact ⟨by rw [← HQE.out]; rfl, ⟨_, _, _, _, HBz.out, HVz.out, HDz.out, HLz.out, HHz.out⟩, HEz.out⟩)
end Go.Proofs.YtbhfoelnoddlkaaGreatDoor.D

/-
  shortest.set where the step below is as large as that above: walked (printed by wip/tools/genset.py).
-/
namespace Go.Proofs.YtbhfoelnoddlkaaGreatDoor.D
open Go Go.RowKit Limb

/-- What the region of 'set' asks of the world: each cell, as long as the shift that reads it has not come up. -/
structure SSt (R : Nat) (vl vh : Value) (u : Array Bool) (w : World) : Prop where
  c2 : u.getD 8 true = false → w.cell? ⟨R, 2, none⟩ = some vl
  c3 : u.getD 15 true = false → w.cell? ⟨R, 3, none⟩ = some vh
theorem SSt.anti {R : Nat} {vl vh : Value} (i : Nat) (h8 : i ≠ 8) (h15 : i ≠ 15) (u : Array Bool) (w : World) : SSt R vl vh (u.setIfInBounds i true) w ↔ SSt R vl vh u w := by
  constructor
  · intro h
    exact ⟨fun e => h.c2 (by rw [Go.getD_set_ne true h8]; exact e), fun e => h.c3 (by rw [Go.getD_set_ne true h15]; exact e)⟩
  · intro h
    exact ⟨fun e => h.c2 (by rw [Go.getD_set_ne true h8] at e; exact e), fun e => h.c3 (by rw [Go.getD_set_ne true h15] at e; exact e)⟩
theorem RtC.setN {w : World} {R n d l h n' : Nat} {vn vd vl vh v' : Value} {ev : Bool} (hr : RtC w R vn vd vl vh n d l h ev) (hv : Limbs w v' (limbs n')) : RtC (w.setCell ⟨R, 0, none⟩ v') R v' vd vl vh n' d l h ev := by
  have hE : Ex (fun k => k = R) w.heap.size w (w.setCell ⟨R, 0, none⟩ v') := (Ex.refl (fun k => k = R) _ _).setCell R 0 (Or.inl rfl) _
  have hni := RtC.noint hr
  exact ⟨hr.1.set 0 v', hv.ex hr.1 hni hE, hr.2.2.1.ex hr.1 hni hE, hr.2.2.2.1.ex hr.1 hni hE, hr.2.2.2.2.ex hr.1 hni hE⟩
theorem RtC.setD {w : World} {R n d l h d' : Nat} {vn vd vl vh v' : Value} {ev : Bool} (hr : RtC w R vn vd vl vh n d l h ev) (hv : Limbs w v' (limbs d')) : RtC (w.setCell ⟨R, 1, none⟩ v') R vn v' vl vh n d' l h ev := by
  have hE : Ex (fun k => k = R) w.heap.size w (w.setCell ⟨R, 1, none⟩ v') := (Ex.refl (fun k => k = R) _ _).setCell R 1 (Or.inl rfl) _
  have hni := RtC.noint hr
  exact ⟨hr.1.set 1 v', hr.2.1.ex hr.1 hni hE, hv.ex hr.1 hni hE, hr.2.2.2.1.ex hr.1 hni hE, hr.2.2.2.2.ex hr.1 hni hE⟩
theorem RtC.setL {w : World} {R n d l h l' : Nat} {vn vd vl vh v' : Value} {ev : Bool} (hr : RtC w R vn vd vl vh n d l h ev) (hv : Limbs w v' (limbs l')) : RtC (w.setCell ⟨R, 2, none⟩ v') R vn vd v' vh n d l' h ev := by
  have hE : Ex (fun k => k = R) w.heap.size w (w.setCell ⟨R, 2, none⟩ v') := (Ex.refl (fun k => k = R) _ _).setCell R 2 (Or.inl rfl) _
  have hni := RtC.noint hr
  exact ⟨hr.1.set 2 v', hr.2.1.ex hr.1 hni hE, hr.2.2.1.ex hr.1 hni hE, hv.ex hr.1 hni hE, hr.2.2.2.2.ex hr.1 hni hE⟩
theorem RtC.setH {w : World} {R n d l h h' : Nat} {vn vd vl vh v' : Value} {ev : Bool} (hr : RtC w R vn vd vl vh n d l h ev) (hv : Limbs w v' (limbs h')) : RtC (w.setCell ⟨R, 3, none⟩ v') R vn vd vl v' n d l h' ev := by
  have hE : Ex (fun k => k = R) w.heap.size w (w.setCell ⟨R, 3, none⟩ v') := (Ex.refl (fun k => k = R) _ _).setCell R 3 (Or.inl rfl) _
  have hni := RtC.noint hr
  exact ⟨hr.1.set 3 v', hr.2.1.ex hr.1 hni hE, hr.2.2.1.ex hr.1 hni hE, hr.2.2.2.1.ex hr.1 hni hE, hv.ex hr.1 hni hE⟩
theorem blen_64 {m : Nat} (h : m < 18446744073709551616) : blen m ≤ 64 := blen_le (k := 64) h
theorem limbs_64 {m : Nat} (h : m < 18446744073709551616) : (limbs m).length ≤ 2 := limbs_length_le (by rw [show (4294967296 : Nat) ^ 2 = 18446744073709551616 from rfl]; exact h)

set_option maxRecDepth 100000 in
set_option maxHeartbeats 1000000 in
theorem set_any (w : World) (m p q : Nat) (e : Int) (hm : m < 18446744073709551616) (he : e = (p : Int) - (q : Int)) (hpq : p = 0 ∨ q = 0) (hp : p ≤ 2000) (hq : q ≤ 2000) :
    Calls Tryz.prog 142 #[.int .u64 (m : Int), .int .i64 e, .bool false] w fun r w' => Below w.heap.size w w' ∧ ∃ R, r = .returned (.pointer (some ⟨R, 0, none⟩)) ∧ w.heap.size ≤ R ∧ Rt w' R (m * 2 ^ (1 + p)) (1 * 2 ^ (1 + q)) (1 * 2 ^ p) (1 * 2 ^ p) (m % 2 == 0) := by
  have HFM := Lib.hid (fun w => from_any w m hm)
  have HF1 := Lib.hid (fun w => from_any w 1 (by decide))
  have hmx : max e 0 = (p : Int) := by omega
  have hmy : max (-e) 0 = (q : Int) := by omega
  have we : IntKind.i64.wrap (-e) = -e := IntWalk.i64_in _ (by omega)
  clear he
  have hev : (bits .and .u64 (m : Int) 1 == 0) = (m % 2 == 0) := by
    have h1 := and_u64 m 1 hm (by decide)
    rw [Nat.and_one_is_mod] at h1
    rw [show ((1 : Nat) : Int) = 1 from rfl] at h1
    rw [h1]
    rcases Nat.mod_two_eq_zero_or_one m with h2 | h2 <;> rw [h2] <;> rfl
  obtain ⟨ev, hevv⟩ : ∃ ev, ev = (m % 2 == 0) := ⟨_, rfl⟩
  rw [← hevv] at hev
  have HEV := Lib.hid hevv
  clear hevv
  go_enter Tryz.func142, Tryz.ntmps142
  go_wp2_with fail
  refine (HFM.out w).mono ?_
  rintro r w1 ⟨hb1, v1, rfl, hv1⟩
  have HB1 := Lib.hid hb1
  have HV1 := Lib.hid hv1
  clear hb1 hv1
  go_wp2_with fail
  refine (HF1.out w1).mono ?_
  rintro r w2 ⟨hb2, v2, rfl, hv2⟩
  have HB2 := Lib.hid (HB1.out.trans (hb2.mono HB1.out.size))
  have HV12 := Lib.hid (HV1.out.below hb2)
  have HV2 := Lib.hid hv2
  clear hb2 hv2 HV1 HB1
  go_wp2_with fail
  refine (HF1.out w2).mono ?_
  rintro r w3 ⟨hb3, v3, rfl, hv3⟩
  have HB3 := Lib.hid (HB2.out.trans (hb3.mono HB2.out.size))
  have HV13 := Lib.hid (HV12.out.below hb3)
  have HV23 := Lib.hid (HV2.out.below hb3)
  have HV3 := Lib.hid hv3
  clear hb3 hv3 HV12 HV2 HB2
  go_wp2_with fail
  refine (HF1.out w3).mono ?_
  rintro r w4 ⟨hb4, v4, rfl, hv4⟩
  have HB4 := Lib.hid (HB3.out.trans (hb4.mono HB3.out.size))
  obtain ⟨a1, c1, rfl⟩ := HV13.out.slice
  obtain ⟨a2, c2, rfl⟩ := HV23.out.slice
  obtain ⟨a3, c3, rfl⟩ := HV3.out.slice
  obtain ⟨a4, c4, rfl⟩ := hv4.slice
  obtain ⟨lm, hlm⟩ : ∃ lm, lm = (limbs m).length := ⟨_, rfl⟩
  obtain ⟨l1, hl1⟩ : ∃ l1, l1 = (limbs 1).length := ⟨_, rfl⟩
  rw [← hlm] at HV13 ⊢
  rw [← hl1] at HV23 HV3 hv4 ⊢
  have hrt : RtC (w4.alloc (.cells (qCells (.slice a1 lm c1) (.slice a2 l1 c2) (.slice a3 l1 c3) (.slice a4 l1 c4) ev) 292)) w4.heap.size (.slice a1 lm c1) (.slice a2 l1 c2) (.slice a3 l1 c3) (.slice a4 l1 c4) m 1 1 1 ev := by
    have hbn : Below w4.heap.size w4 (w4.alloc (.cells (qCells (.slice a1 lm c1) (.slice a2 l1 c2) (.slice a3 l1 c3) (.slice a4 l1 c4) ev) 292)) := (Below.refl _ _).alloc (Nat.le_refl _) _
    exact ⟨Blk.new _ _ _, (HV13.out.below hb4).below hbn, (HV23.out.below hb4).below hbn, (HV3.out.below hb4).below hbn, hv4.below hbn⟩
  have hbn : Below w.heap.size w (w4.alloc (.cells (qCells (.slice a1 lm c1) (.slice a2 l1 c2) (.slice a3 l1 c3) (.slice a4 l1 c4) ev) 292)) := HB4.out.alloc HB4.out.size _
  have HRT := Lib.hid hrt
  have HBN := Lib.hid hbn
  have HRB : Hid (w.heap.size ≤ w4.heap.size) := Lib.hid HB4.out.size
  clear hb4 hv4 hlm hl1 HV13 HV23 HV3 HB3 HB4 hrt hbn
  have HSL : Hid (∀ w v, Limbs w v (limbs 1) → Calls Tryz.prog 197 #[v, .int .i64 (p : Int)] w fun e w' => Below w.heap.size w w' ∧ ∃ v', e = .returned v' ∧ Limbs w' v' (limbs (1 * 2 ^ p))) := Lib.hid (fun w v h => by
    have := sshl_any w v _ p h (by rw [show limbs 1 = [1] from Limb.limbs_small (by decide) (by decide)]; decide) (by rw [val_limbs]; have := blen_64 (m := 1) (by decide); omega)
    rw [val_limbs] at this
    exact this)
  have HSD : Hid (∀ w v, Limbs w v (limbs 1) → Calls Tryz.prog 197 #[v, .int .i64 ((1 + q : Nat) : Int)] w fun e w' => Below w.heap.size w w' ∧ ∃ v', e = .returned v' ∧ Limbs w' v' (limbs (1 * 2 ^ (1 + q)))) := Lib.hid (fun w v h => by
    have := sshl_any w v _ (1 + q) h (by rw [show limbs 1 = [1] from Limb.limbs_small (by decide) (by decide)]; decide) (by rw [val_limbs]; have := blen_64 (m := 1) (by decide); omega)
    rw [val_limbs] at this
    exact this)
  have HSN : Hid (∀ w v, Limbs w v (limbs m) → Calls Tryz.prog 197 #[v, .int .i64 ((1 + p : Nat) : Int)] w fun e w' => Below w.heap.size w w' ∧ ∃ v', e = .returned v' ∧ Limbs w' v' (limbs (m * 2 ^ (1 + p)))) := Lib.hid (fun w v h => by
    have := sshl_any w v _ (1 + p) h (by have := limbs_64 hm; omega) (by rw [val_limbs]; have := blen_64 hm; omega)
    rw [val_limbs] at this
    exact this)
  have wp1 : IntKind.i64.wrap (1 + (p : Int)) = ((1 + p : Nat) : Int) := by rw [IntWalk.i64_in _ (by omega)]; omega
  have wq1 : IntKind.i64.wrap (1 + (q : Int)) = ((1 + q : Nat) : Int) := by rw [IntWalk.i64_in _ (by omega)]; omega
  clear hpq hp hq
  go_upto_region 3 with fail
  change Code.wp _ _ _ _ (w4.alloc (.cells (qCells (.slice a1 lm c1) (.slice a2 l1 c2) (.slice a3 l1 c3) (.slice a4 l1 c4) ev) 292))
  generalize w4.alloc (.cells (qCells (.slice a1 lm c1) (.slice a2 l1 c2) (.slice a3 l1 c3) (.slice a4 l1 c4) ev) 292) = w5 at HRT HBN ⊢
  generalize w4.heap.size = R at HRT HRB ⊢
  have x0 := HRT.out.1.cell 0
  simp only [qCells, List.getElem?_toArray, List.getElem?_cons_zero] at x0
  go_wp2_with fail
  refine (HSN.out w5 _ HRT.out.2.1).mono ?_
  rintro r w6 ⟨hb6, v6, rfl, hv6⟩
  have HR6 := Lib.hid (RtC.below HRT.out hb6)
  have HB6 := Lib.hid (HBN.out.trans (hb6.mono HBN.out.size))
  obtain ⟨a6, c6, hs6⟩ := hv6.slice
  obtain ⟨l6, hl6⟩ : ∃ l6, l6 = (limbs (m * 2 ^ (1 + p))).length := ⟨_, rfl⟩
  rw [← hl6] at hs6
  subst hs6
  have HR7 := Lib.hid (RtC.setN HR6.out hv6)
  have HB7 := Lib.hid (HB6.out.setCell (p := ⟨R, 0, none⟩) HRB.out (.slice a6 l6 c6))
  have x0 := HR6.out.1.cell 0
  have f0 := HR6.out.1.free 0
  simp only [qCells, List.getElem?_toArray, List.getElem?_cons_zero] at x0
  clear hb6 hv6 hl6 HRT HBN HSN
  go_upto_region 7 with fail
  clear x0 f0
  generalize w6.setCell ⟨R, 0, none⟩ (.slice a6 l6 c6) = w7 at HR7 HB7 ⊢
  obtain ⟨w0, hw0⟩ : ∃ w0, w0 = w7.drew := ⟨_, rfl⟩
  have HR0 := Lib.hid (RtC.below HR7.out (below_drewN (Below.refl w7.heap.size w7) 1))
  have HB0 := Lib.hid (below_drewN HB7.out 1)
  have HW0 := Lib.hid hw0
  clear HR6 HB6 HR7 HB7
  change Hid (RtC w7.drew _ _ _ _ _ _ _ _ _ _) at HR0
  change Hid (Below _ _ w7.drew) at HB0
  rw [← hw0] at HR0 HB0
  clear hw0
  refine wp_region_noPanic ?_
  refine region_G (S := SSt R (.slice a3 l1 c3) (.slice a4 l1 c4)) (by kernel_rfl) ?_
  rw [← HW0.out]
  have hH : SSt R (.slice a3 l1 c3) (.slice a4 l1 c4) (Array.replicate 22 false) w0 := ⟨fun _ => HR0.out.1.cell 2, fun _ => HR0.out.1.cell 3⟩
  refine g_pure (d := some 36) (hd := by rfl) (i := 0) (oi := _) (v := .pointer (some ⟨R, 0, none⟩)) rfl (by kernel_rfl) (by kernel_rfl) (by kernel_rfl) (fun _ _ _ h => h) (SSt.anti 0 (by decide) (by decide)) (Or.inl ⟨by rfl, fun w' _ => ?_⟩) hH (fun hH => ?_)
  · clear hH
    go_simp
  try simp only [Act.put, List.setIfInBounds_toArray, List.set_cons_zero, List.set_cons_succ]
  refine g_pure (d := some 37) (hd := by rfl) (i := 1) (oi := _) (v := .pointer (some ⟨R, 0, none⟩)) rfl (by kernel_rfl) (by kernel_rfl) (by kernel_rfl) (fun _ _ _ h => h) (SSt.anti 1 (by decide) (by decide)) (Or.inl ⟨by rfl, fun w' _ => ?_⟩) hH (fun hH => ?_)
  · clear hH
    go_simp
  try simp only [Act.put, List.setIfInBounds_toArray, List.set_cons_zero, List.set_cons_succ]
  refine g_pure (d := some 38) (hd := by rfl) (i := 2) (oi := _) (v := .pointer (some ⟨R, 0, none⟩)) rfl (by kernel_rfl) (by kernel_rfl) (by kernel_rfl) (fun _ _ _ h => h) (SSt.anti 2 (by decide) (by decide)) (Or.inl ⟨by rfl, fun w' _ => ?_⟩) hH (fun hH => ?_)
  · clear hH
    go_simp
  try simp only [Act.put, List.setIfInBounds_toArray, List.set_cons_zero, List.set_cons_succ]
  refine g_pure (d := some 39) (hd := by rfl) (i := 3) (oi := _) (v := .pointer (some ⟨R, 0, none⟩)) rfl (by kernel_rfl) (by kernel_rfl) (by kernel_rfl) (fun _ _ _ h => h) (SSt.anti 3 (by decide) (by decide)) (Or.inl ⟨by rfl, fun w' _ => ?_⟩) hH (fun hH => ?_)
  · clear hH
    go_simp
  try simp only [Act.put, List.setIfInBounds_toArray, List.set_cons_zero, List.set_cons_succ]
  refine g_pure (d := some 40) (hd := by rfl) (i := 4) (oi := _) (v := .pointer (some ⟨R, 2, none⟩)) rfl (by kernel_rfl) (by kernel_rfl) (by kernel_rfl) (fun _ _ _ h => h) (SSt.anti 4 (by decide) (by decide)) (Or.inl ⟨by rfl, fun w' _ => ?_⟩) hH (fun hH => ?_)
  · clear hH
    go_simp
  try simp only [Act.put, List.setIfInBounds_toArray, List.set_cons_zero, List.set_cons_succ]
  refine g_load (T := fun w' => w'.cell? ⟨R, 2, none⟩ = some (.slice a3 l1 c3)) (d := some 41) (hd := by rfl) (i := 5) (k := 8) (oi := _) (ok := _) (v := (.slice a3 l1 c3)) rfl rfl (by kernel_rfl) (by kernel_rfl) (by kernel_rfl) (by kernel_rfl) (by kernel_rfl) (fun _ _ _ h => h) (SSt.anti 5 (by decide) (by decide)) (fun u w h hs => hs.c2 h) (Or.inl ⟨by rfl, fun w' hT => ?_⟩) hH (fun hH => ?_)
  · clear hH
    have hT : w'.cell? ⟨R, 2, none⟩ = some (.slice a3 l1 c3) := hT
    go_simp
  try simp only [Act.put, List.setIfInBounds_toArray, List.set_cons_zero, List.set_cons_succ]
  refine g_pure (d := some 42) (hd := by rfl) (i := 6) (oi := _) (v := .int .i64 e) rfl (by kernel_rfl) (by kernel_rfl) (by kernel_rfl) (fun _ _ _ h => h) (SSt.anti 6 (by decide) (by decide)) (Or.inl ⟨by rfl, fun w' _ => ?_⟩) hH (fun hH => ?_)
  · clear hH
    go_simp
  try simp only [Act.put, List.setIfInBounds_toArray, List.set_cons_zero, List.set_cons_succ]
  refine g_pure (d := some 43) (hd := by rfl) (i := 7) (oi := _) (v := .int .i64 (p : Int)) rfl (by kernel_rfl) (by kernel_rfl) (by kernel_rfl) (fun _ _ _ h => h) (SSt.anti 7 (by decide) (by decide)) (Or.inl ⟨by rfl, fun w' _ => ?_⟩) hH (fun hH => ?_)
  · clear hH
    go_simp
  try simp only [Act.put, List.setIfInBounds_toArray, List.set_cons_zero, List.set_cons_succ]
  refine g_pure (d := some 45) (hd := by rfl) (i := 9) (oi := _) (v := .pointer (some ⟨R, 0, none⟩)) rfl (by kernel_rfl) (by kernel_rfl) (by kernel_rfl) (fun _ _ _ h => h) (SSt.anti 9 (by decide) (by decide)) (Or.inl ⟨by rfl, fun w' _ => ?_⟩) hH (fun hH => ?_)
  · clear hH
    go_simp
  try simp only [Act.put, List.setIfInBounds_toArray, List.set_cons_zero, List.set_cons_succ]
  refine g_pure (d := some 46) (hd := by rfl) (i := 10) (oi := _) (v := .pointer (some ⟨R, 0, none⟩)) rfl (by kernel_rfl) (by kernel_rfl) (by kernel_rfl) (fun _ _ _ h => h) (SSt.anti 10 (by decide) (by decide)) (Or.inl ⟨by rfl, fun w' _ => ?_⟩) hH (fun hH => ?_)
  · clear hH
    go_simp
  try simp only [Act.put, List.setIfInBounds_toArray, List.set_cons_zero, List.set_cons_succ]
  refine g_pure (d := some 47) (hd := by rfl) (i := 11) (oi := _) (v := .pointer (some ⟨R, 3, none⟩)) rfl (by kernel_rfl) (by kernel_rfl) (by kernel_rfl) (fun _ _ _ h => h) (SSt.anti 11 (by decide) (by decide)) (Or.inl ⟨by rfl, fun w' _ => ?_⟩) hH (fun hH => ?_)
  · clear hH
    go_simp
  try simp only [Act.put, List.setIfInBounds_toArray, List.set_cons_zero, List.set_cons_succ]
  refine g_load (T := fun w' => w'.cell? ⟨R, 3, none⟩ = some (.slice a4 l1 c4)) (d := some 48) (hd := by rfl) (i := 12) (k := 15) (oi := _) (ok := _) (v := (.slice a4 l1 c4)) rfl rfl (by kernel_rfl) (by kernel_rfl) (by kernel_rfl) (by kernel_rfl) (by kernel_rfl) (fun _ _ _ h => h) (SSt.anti 12 (by decide) (by decide)) (fun u w h hs => hs.c3 h) (Or.inl ⟨by rfl, fun w' hT => ?_⟩) hH (fun hH => ?_)
  · clear hH
    have hT : w'.cell? ⟨R, 3, none⟩ = some (.slice a4 l1 c4) := hT
    go_simp
  try simp only [Act.put, List.setIfInBounds_toArray, List.set_cons_zero, List.set_cons_succ]
  refine g_pure (d := some 49) (hd := by rfl) (i := 13) (oi := _) (v := .int .i64 e) rfl (by kernel_rfl) (by kernel_rfl) (by kernel_rfl) (fun _ _ _ h => h) (SSt.anti 13 (by decide) (by decide)) (Or.inl ⟨by rfl, fun w' _ => ?_⟩) hH (fun hH => ?_)
  · clear hH
    go_simp
  try simp only [Act.put, List.setIfInBounds_toArray, List.set_cons_zero, List.set_cons_succ]
  refine g_pure (d := some 50) (hd := by rfl) (i := 14) (oi := _) (v := .int .i64 (p : Int)) rfl (by kernel_rfl) (by kernel_rfl) (by kernel_rfl) (fun _ _ _ h => h) (SSt.anti 14 (by decide) (by decide)) (Or.inl ⟨by rfl, fun w' _ => ?_⟩) hH (fun hH => ?_)
  · clear hH
    go_simp
  try simp only [Act.put, List.setIfInBounds_toArray, List.set_cons_zero, List.set_cons_succ]
  refine g_one (i := 8) (o := _) (by kernel_rfl) rfl (fun K hK => ?_)
  go_simp
  refine (HSL.out w0 _ HR0.out.2.2.2.1).mono ?_
  rintro r w1 ⟨hb1, v1, rfl, hv1⟩
  obtain ⟨sb1, sc1, hs1⟩ := hv1.slice
  obtain ⟨ln1, hl1⟩ : ∃ ln, ln = (limbs (1 * 2 ^ p)).length := ⟨_, rfl⟩
  rw [← hl1] at hs1
  subst hs1
  have HR1 := Lib.hid (RtC.below HR0.out hb1)
  have HB1 := Lib.hid (HB0.out.trans (hb1.mono HB0.out.size))

  have HL11 := Lib.hid hv1
  clear hb1 hv1 hl1
  go_wp2_with fail
  refine hK.out _ _ ⟨fun _ => HR1.out.1.cell 2, fun _ => HR1.out.1.cell 3⟩ (fun hH => ?_)
  clear hK K
  try simp only [Act.put, List.setIfInBounds_toArray, List.set_cons_zero, List.set_cons_succ]
  refine g_one (i := 15) (o := _) (by kernel_rfl) rfl (fun K hK => ?_)
  go_simp
  refine (HSL.out w1 _ HR1.out.2.2.2.2).mono ?_
  rintro r w2 ⟨hb2, v2, rfl, hv2⟩
  obtain ⟨sb2, sc2, hs2⟩ := hv2.slice
  obtain ⟨ln2, hl2⟩ : ∃ ln, ln = (limbs (1 * 2 ^ p)).length := ⟨_, rfl⟩
  rw [← hl2] at hs2
  subst hs2
  have HR2 := Lib.hid (RtC.below HR1.out hb2)
  have HB2 := Lib.hid (HB1.out.trans (hb2.mono HB1.out.size))
  have HL21 := Lib.hid (HL11.out.below hb2)
  have HL22 := Lib.hid hv2
  clear hb2 hv2 hl2
  go_wp2_with fail
  refine hK.out _ _ ⟨fun _ => HR2.out.1.cell 2, fun _ => HR2.out.1.cell 3⟩ (fun hH => ?_)
  clear hK K
  try simp only [Act.put, List.setIfInBounds_toArray, List.set_cons_zero, List.set_cons_succ]
  have HXa := Lib.hid HR2.out.1
  have HEa := HB2
  refine g_pure (d := some 52) (hd := by rfl) (i := 16) (oi := _) (v := .pointer (some ⟨R, 0, none⟩)) rfl (by kernel_rfl) (by kernel_rfl) (by kernel_rfl) (fun _ _ _ h => h) (SSt.anti 16 (by decide) (by decide)) (Or.inl ⟨by rfl, fun w' _ => ?_⟩) hH (fun hH => ?_)
  · clear hH
    go_simp
  try simp only [Act.put, List.setIfInBounds_toArray, List.set_cons_zero, List.set_cons_succ]
  refine g_pure (d := some 53) (hd := by rfl) (i := 17) (oi := _) (v := .pointer (some ⟨R, 2, none⟩)) rfl (by kernel_rfl) (by kernel_rfl) (by kernel_rfl) (fun _ _ _ h => h) (SSt.anti 17 (by decide) (by decide)) (Or.inl ⟨by rfl, fun w' _ => ?_⟩) hH (fun hH => ?_)
  · clear hH
    go_simp
  try simp only [Act.put, List.setIfInBounds_toArray, List.set_cons_zero, List.set_cons_succ]
  refine g_one (i := 18) (o := _) (by kernel_rfl) rfl (fun K hK => ?_)
  have e2 := HXa.out.cell 2
  have f2 := HXa.out.free 2
  simp only [qCells, List.getElem?_toArray, List.getElem?_cons_zero, List.getElem?_cons_succ] at e2
  go_simp
  go_wp2_with fail
  clear e2 f2
  refine hK.out _ _ ⟨fun h => absurd h (by decide), fun h => absurd h (by decide)⟩ (fun hH => ?_)
  clear hK K
  try simp only [Act.put, List.setIfInBounds_toArray, List.set_cons_zero, List.set_cons_succ]
  have HXb := Lib.hid (HXa.out.set 2 (.slice sb1 ln1 sc1))
  have HEb := Lib.hid (HEa.out.setCell (p := ⟨R, 2, none⟩) HRB.out (.slice sb1 ln1 sc1))
  refine g_pure (d := some 54) (hd := by rfl) (i := 19) (oi := _) (v := .pointer (some ⟨R, 0, none⟩)) rfl (by kernel_rfl) (by kernel_rfl) (by kernel_rfl) (fun _ _ _ h => h) (SSt.anti 19 (by decide) (by decide)) (Or.inl ⟨by rfl, fun w' _ => ?_⟩) hH (fun hH => ?_)
  · clear hH
    go_simp
  try simp only [Act.put, List.setIfInBounds_toArray, List.set_cons_zero, List.set_cons_succ]
  refine g_pure (d := some 55) (hd := by rfl) (i := 20) (oi := _) (v := .pointer (some ⟨R, 3, none⟩)) rfl (by kernel_rfl) (by kernel_rfl) (by kernel_rfl) (fun _ _ _ h => h) (SSt.anti 20 (by decide) (by decide)) (Or.inl ⟨by rfl, fun w' _ => ?_⟩) hH (fun hH => ?_)
  · clear hH
    go_simp
  try simp only [Act.put, List.setIfInBounds_toArray, List.set_cons_zero, List.set_cons_succ]
  refine g_one (i := 21) (o := _) (by kernel_rfl) rfl (fun K hK => ?_)
  have e3 := HXb.out.cell 3
  have f3 := HXb.out.free 3
  simp only [qCells, List.getElem?_toArray, List.getElem?_cons_zero, List.getElem?_cons_succ] at e3
  go_simp
  go_wp2_with fail
  clear e3 f3
  refine hK.out _ _ ⟨fun h => absurd h (by decide), fun h => absurd h (by decide)⟩ (fun hH => ?_)
  clear hK K
  try simp only [Act.put, List.setIfInBounds_toArray, List.set_cons_zero, List.set_cons_succ]
  have HXc := Lib.hid (HXb.out.set 3 (.slice sb2 ln2 sc2))
  have HEc := Lib.hid (HEb.out.setCell (p := ⟨R, 3, none⟩) HRB.out (.slice sb2 ln2 sc2))
  refine g_done (by kernel_rfl) ?_ _
  refine NoPanic.normal ?_
  have HRa := Lib.hid (RtC.setH (RtC.setL HR2.out HL21.out) (HL22.out.ex HR2.out.1 (RtC.noint HR2.out) ((Ex.refl (fun k => k = R) _ _).setCell R 2 (Or.inl rfl) (.slice sb1 ln1 sc1))))
  clear hH
  generalize (w2.setCell ⟨R, 2, none⟩ (.slice sb1 ln1 sc1)).setCell ⟨R, 3, none⟩ (.slice sb2 ln2 sc2) = w8 at HRa HEc ⊢
  have x1 := HRa.out.1.cell 1
  simp only [qCells, List.getElem?_toArray, List.getElem?_cons_zero, List.getElem?_cons_succ] at x1
  go_wp2_with fail
  refine (HSD.out w8 _ HRa.out.2.2.1).mono ?_
  rintro r w9 ⟨hb9, v9, rfl, hv9⟩
  obtain ⟨a9, c9, hs9⟩ := hv9.slice
  obtain ⟨l9, hl9⟩ : ∃ l9, l9 = (limbs (1 * 2 ^ (1 + q))).length := ⟨_, rfl⟩
  rw [← hl9] at hs9
  subst hs9
  have HR9 := Lib.hid (RtC.below HRa.out hb9)
  have HRz := Lib.hid (RtC.setD HR9.out hv9)
  have HB9 := Lib.hid (HEc.out.trans (hb9.mono HEc.out.size))
  have HBz := Lib.hid (HB9.out.setCell (p := ⟨R, 1, none⟩) HRB.out (.slice a9 l9 c9))
  have x1 := HR9.out.1.cell 1
  have f1 := HR9.out.1.free 1
  simp only [qCells, List.getElem?_toArray, List.getElem?_cons_zero, List.getElem?_cons_succ] at x1
  clear hb9 hv9 hl9 HRa HEc HSD
  go_wp2
  go_ret
  exact ⟨HBz.out, R, rfl, HRB.out, ⟨_, _, _, _, by rw [← HEV.out]; exact HRz.out⟩⟩
end Go.Proofs.YtbhfoelnoddlkaaGreatDoor.D

