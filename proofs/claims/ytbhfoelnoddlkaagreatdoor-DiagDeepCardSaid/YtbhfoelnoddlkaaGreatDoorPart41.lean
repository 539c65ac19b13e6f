/-
  Of the proof that the law DiagDeep answers true at every row of bytes: a part, without conditions of its own.
-/
import Derived.Test.YtbhfoelnoddlkaaGreatDoorPart40
import Derived.Test.YtbhfoelnoddlkaaGreatDoorTie
import Derived.LaidSub
import Derived.LaidHandle
import Derived.Lib.LaidTab
import Derived.Deep.Strs
import Derived.OpenShut
import Derived.ProofKit
import Derived.Stop.LaidTwo
import Derived.Test.YtbhfoelnoddlkaaGreatDoorPart10
import Derived.Test.YtbhfoelnoddlkaaGreatDoorPart34
set_option linter.unusedVariables false
set_option linter.unusedSimpArgs false
/-
  cruciblelaw22.lives: walked.
-/
namespace Go.Proofs.YtbhfoelnoddlkaaGreatDoor.D
open Go Go.RowKit Limb

set_option maxRecDepth 100000 in
set_option maxHeartbeats 1000000 in
theorem lives_any (e : Nat → Addr) (w : World) (hG : GW w) (hE : Sents e w) : Calls Tryz.prog 4 #[] w fun r w' => r = .returned (.bool true) ∧ Below w.heap.size w w' := by
  have HRD := Lib.hid (read_ok dL 0 37 2 fDoc false (by decide) (btw_none (by decide) (by decide)) rd_doc (Btw.none (fun h => absurd h (by decide)) (by decide)) w hG)
  have HG := Lib.hid hG
  have HE := Lib.hid hE
  have HS := Lib.hid hG.size
  clear hG hE
  go_enter Tryz.func4, Tryz.ntmps4
  go_wp2_with fail
  change Calls _ _ #[.string (strL dL)] _ _
  refine HRD.out.mono ?_
  rintro r w1 ⟨v, rfl, hb1, hT1⟩
  have hTr := TreeP.toN (N := w1.heap.size) (fun b _ h => h) _ _ _ hT1
  obtain ⟨kind, n, mb, mn, mc, bits, ext, text, kb, kc, rfl⟩ := doc_kids hTr (by decide)
  obtain ⟨w2, hw2⟩ : ∃ w2, w2 = w1.alloc (.cells (vCells kind n false (.slice mb mn mc) bits ext (strL text) (.slice kb 3 kc)) 33) := ⟨_, rfl⟩
  have hb2 : Below w1.heap.size w1 w2 := by rw [hw2]; exact (Below.refl _ _).alloc (Nat.le_refl _) _
  have hV2 : Blk w2 w1.heap.size (vCells kind n false (.slice mb mn mc) bits ext (strL text) (.slice kb 3 kc)) 33 := by rw [hw2]; exact Blk.new _ _ _
  have hb02 := hb1.trans (hb2.mono hb1.size)
  have HT2 := Lib.hid ((Tree.below hb2 _ _ _ hTr).mono hb2.size)
  have HV2 := Lib.hid hV2
  have HB2 := Lib.hid hb02
  have HW2 := Lib.hid hw2
  have HQ : Hid (w.heap.size ≤ w1.heap.size) := Lib.hid hb1.size
  have HSH := Lib.hid (show_any w2 (HG.out.step hb02) fDoc 2 _ HT2.out (by decide) (by decide) (by decide))
  rw [doc_txt, show strL [91, 110, 117, 108, 108, 44, 32, 123, 49, 58, 32, 104, 39, 48, 48, 102, 102, 39, 125, 44, 32, 49, 40, 49, 46, 53, 41, 93] = ⟨#[91, 110, 117, 108, 108, 44, 32, 123, 49, 58, 32, 104, 39, 48, 48, 102, 102, 39, 125, 44, 32, 49, 40, 49, 46, 53, 41, 93]⟩ from rfl] at HSH
  clear hTr hT1 hb1 hb2 hV2 hb02 hw2 HRD
  have x0 : w2.cell? ⟨w1.heap.size, 0, none⟩ = some (.int .i8 kind) := HV2.out.cell 0
  have x1 : w2.cell? ⟨w1.heap.size, 1, none⟩ = some (.int .u64 n) := HV2.out.cell 1
  have x2 : w2.cell? ⟨w1.heap.size, 2, none⟩ = some (.bool false) := HV2.out.cell 2
  have x3 : w2.cell? ⟨w1.heap.size, 3, none⟩ = some (.slice mb mn mc) := HV2.out.cell 3
  have x4 : w2.cell? ⟨w1.heap.size, 4, none⟩ = some (.int .u64 bits) := HV2.out.cell 4
  have x5 : w2.cell? ⟨w1.heap.size, 5, none⟩ = some (.int .i8 ext) := HV2.out.cell 5
  have x6 : w2.cell? ⟨w1.heap.size, 6, none⟩ = some (.string (strL text)) := HV2.out.cell 6
  have x7 : w2.cell? ⟨w1.heap.size, 7, none⟩ = some (.slice kb 3 kc) := HV2.out.cell 7
  unfold vCells
  go_upto_region 3 with fail
  change Code.wp _ _ _ _ (w1.alloc (.cells (vCells kind n false (.slice mb mn mc) bits ext (strL text) (.slice kb 3 kc)) 33))
  rw [← HW2.out]
  go_wp2_with fail
  refine HSH.out.mono ?_
  rintro r w3 ⟨rfl, hb3⟩
  have HV3 := Lib.hid (HV2.out.below hb3 HV2.out.lt)
  have HB3 := Lib.hid (HB2.out.trans (hb3.mono HB2.out.size))
  clear x0 x1 x2 x3 x4 x5 x6 x7 hb3 HSH HT2 HV2 HB2 HW2
  have HRS := Lib.hid (read_stop e bL 0 3 3 (Or.inl rfl) (by decide) (btw_none (by decide) (by decide)) bad_doc w3 (HG.out.step HB3.out) (HE.out.step HB3.out HS.out))
  go_wp2_with fail
  change Calls _ _ #[.string (strL bL)] _ _
  refine HRS.out.mono ?_
  rintro r w4 ⟨ev, rfl, hb4, hf4⟩
  obtain ⟨w5, hw5⟩ : ∃ w5, w5 = w4.alloc (.cells zeroV 33) := ⟨_, rfl⟩
  have hb5 : Below w4.heap.size w4 w5 := by rw [hw5]; exact (Below.refl _ _).alloc (Nat.le_refl _) _
  have hb35 := hb4.trans (hb5.mono hb4.size)
  have HV5 := Lib.hid (HV3.out.below hb35 HV3.out.lt)
  have HB5 := Lib.hid (HB3.out.trans (hb35.mono HB3.out.size))
  have HIA := Lib.hid (isAt_fault e w5 (HE.out.step HB5.out HS.out) (Nat.lt_of_lt_of_le HS.out HB5.out.size) 3 3 (Or.inl rfl) ev (hf4.step hb5))
  have HW5 := Lib.hid hw5
  clear hb4 hf4 hw5 hb5 hb35 HV3 HB3 HRS
  have x7 : w5.cell? ⟨w1.heap.size, 7, none⟩ = some (.slice kb 3 kc) := HV5.out.cell 7
  unfold zeroV
  go_upto_region 5 with fail
  change Code.wp _ _ _ _ (w4.alloc (.cells zeroV 33))
  rw [← HW5.out]
  go_wp2_with fail
  refine HIA.out.mono ?_
  rintro r w6 ⟨rfl, hb6⟩
  have HB6 := Lib.hid (HB5.out.trans (hb6.mono HB5.out.size))
  clear hb6 HIA
  go_wp2
  go_ret
  exact ⟨rfl, HB6.out⟩
end Go.Proofs.YtbhfoelnoddlkaaGreatDoor.D

/-
  What the row's list of laid variables gives the walks: the tables' cells, the shapes, the eleven errors at places of their own, errors.As's own variable.
-/
namespace Go.Proofs.YtbhfoelnoddlkaaGreatDoor.D
open Go Go.RowKit Go.ChangeShapes Go.WideShapes Go.ChangeAt Limb

abbrev laidL : List (String × DataW Unit) := Rows.diagDeepRow.laid
def onL (n : String) : List (String × DataW Unit) := (laidL.filter fun x => x.2.handleName?.isNone).filter fun x => x.1 == n
def tab32 : List Int := [0, 1, 28, 2, 29, 14, 24, 3, 30, 22, 20, 15, 25, 17, 4, 8, 31, 27, 13, 23, 21, 19, 16, 7, 26, 12, 18, 6, 11, 5, 10, 9]
def tab64 : List Int := [0, 1, 56, 2, 57, 49, 28, 3, 61, 58, 42, 50, 38, 29, 17, 4, 62, 47, 59, 36, 45, 43, 51, 22, 53, 39, 33, 30, 24, 18, 12, 5, 63, 55, 48, 27, 60, 41, 37, 16, 46, 35, 44, 21, 52, 32, 23, 11, 54, 26, 40, 15, 34, 20, 31, 10, 25, 14, 19, 9, 13, 8, 7, 6]
theorem on32 : onL "math/bits.deBruijn32tab" = [("math/bits.deBruijn32tab", Lib.tabData .u8 tab32)] := by kernel_rfl
theorem on64 : onL "math/bits.deBruijn64tab" = [("math/bits.deBruijn64tab", Lib.tabData .u8 tab64)] := by kernel_rfl
theorem g32 : Tryz.prog.globalNamed "math/bits.deBruijn32tab" = some 17 := by kernel_rfl
theorem g64 : Tryz.prog.globalNamed "math/bits.deBruijn64tab" = some 18 := by kernel_rfl
theorem gS : Tryz.prog.globalNamed "crucible/ieee.shapes" = some 14 := by kernel_rfl
theorem gT : Tryz.prog.globalNamed "errors.errorType" = some 11 := by kernel_rfl
theorem ty32 : (Tryz.prog.globals[17]?).map (·.type) = some 322 := by kernel_rfl
theorem ty64 : (Tryz.prog.globals[18]?).map (·.type) = some 325 := by kernel_rfl
theorem tyS : (Tryz.prog.globals[14]?).map (·.type) = some 288 := by kernel_rfl
theorem onS : onL "crucible/ieee.shapes" = [("crucible/ieee.shapes", Rows.laid_crucible_ieee_shapes)] := by kernel_rfl
theorem cellsS : Tryz.prog.cellsOf 228 = 3 := by kernel_rfl
theorem cellsI : Tryz.prog.cellsOf 3 = 1 := by kernel_rfl
theorem cells8 : Tryz.prog.cellsOf 5 = 1 := by kernel_rfl
theorem cells32 : Tryz.prog.cellsOf 322 = 32 := by kernel_rfl
theorem cells64 : Tryz.prog.cellsOf 325 = 64 := by kernel_rfl

/-- One number in a row of cells. -/
theorem int_at {W : World} {n : Nat} {t : TypeId} {k : IntKind} {cs : List Value} {off : Nat} {z : Int} {y : DataW Unit × List MemPlace} (ht : Tryz.prog.underlying t = some (.int k))
    (h : DataW.trod (fun _ => ()) Tryz.prog W 0 (fun _ => true) false n t ((cs.drop off).take 1) = some y) (hy : y.1 = .lit (.int k z)) : cs[off]? = some (.int k z) := by
  obtain ⟨z', hc, hx, _⟩ := DataW.trod_int ht h
  subst hx
  simp only [DataW.lit.injEq, Lit.int.injEq, true_and] at hy
  subst hy
  have := congrArg (·[0]?) hc
  simpa [List.getElem?_take, List.getElem?_drop] using this

theorem shapes_of {W : World} (h : laidMet Tryz.prog [("crucible/ieee.shapes", Rows.laid_crucible_ieee_shapes)] W) :
    W.cell? ⟨14, 6, none⟩ = some (.int .i64 52) ∧ W.cell? ⟨14, 7, none⟩ = some (.int .i64 (-1074)) ∧ W.cell? ⟨14, 8, none⟩ = some (.int .i64 11) := by
  obtain ⟨ps, ⟨g, t, cs, fuel, p, q, hg, ht, hvar, hd, _, _⟩, _⟩ := h
  obtain rfl := Option.some.inj (gS.symm.trans hg)
  obtain rfl := Option.some.inj (tyS.symm.trans ht)
  obtain ⟨xs, m, _, hx, hl, hlen, hel⟩ := DataW.trod_array Tryz.underlying288 hd
  have h2 := hel 2 (by decide)
  simp only [cellsS] at h2
  have hx1 := congrArg Prod.fst hx
  simp only [Rows.laid_crucible_ieee_shapes, DataW.agg.injEq] at hx1
  cases hx2 : xs[2]? with
  | none => rw [List.getElem?_eq_none_iff] at hx2; omega
  | some x2 =>
    rw [hx2] at h2
    have hd2 : (xs.map (·.1))[2]? = some x2.1 := by simp [hx2]
    rw [← hx1] at hd2
    simp only [List.getElem?_cons_succ, List.getElem?_cons_zero, Option.some.injEq] at hd2
    obtain ⟨y0, y1, y2, n, hy, _, e0, e1, e2⟩ := Deep.trod_struct3 Tryz.underlying228 h2
    have hy1 := congrArg Prod.fst hy
    rw [← hd2] at hy1
    simp only [DataW.agg.injEq, List.cons.injEq, and_true] at hy1
    obtain ⟨i0, i1, i2⟩ := hy1
    simp only [cellsI, List.drop_zero] at e0 e1 e2
    have c0 := int_at (off := 0) Tryz.underlying3 e0 i0.symm
    have c1 := int_at (off := 1) Tryz.underlying3 e1 i1.symm
    have c2 := int_at (off := 2) Tryz.underlying3 e2 i2.symm
    rw [List.getElem?_take, List.getElem?_drop] at c0 c1 c2
    refine ⟨?_, ?_, ?_⟩
    · have := World.var?_cell gS hvar 6; rw [this]; simpa using c0
    · have := World.var?_cell gS hvar 7; rw [this]; simpa using c1
    · have := World.var?_cell gS hvar 8; rw [this]; simpa using c2

theorem rowT : ((List.range Tryz.prog.types.size).filter fun t => Tryz.prog.rowNamed t [101, 114, 114, 111, 114]) = [35] := by kernel_rfl
theorem rtT : (Tryz.prog.cutTypes.find? (·.1 == "internal/reflectlite.rtype")).map (·.2) = some 202 := by kernel_rfl
theorem memT : ("errors.errorType", (Rows.laid_errors_errorType : DataW Unit)) ∈ laidL.filter fun x => x.2.handleName?.isSome := by
  have h : (laidL.filter fun x => x.2.handleName?.isSome) = [("errors.errorType", Rows.laid_errors_errorType)] := by kernel_rfl
  rw [h]; exact List.mem_singleton.2 rfl
theorem type_of {W : World} (h : handlesMet Tryz.prog (laidL.filter fun x => x.2.handleName?.isSome) W) :
    W.cell? ⟨11, 0, none⟩ = some (.iface 202 (.agg #[.pointer (some ⟨22, 35, none⟩)])) := by
  obtain ⟨name, u, ty, e1, e2, e3, e4, e5⟩ := h _ memT
  have en : name = [101, 114, 114, 111, 114] := (Option.some.inj e1).symm
  subst en
  obtain rfl := Option.some.inj (rtT.symm.trans e2)
  have hm : ty ∈ (List.range Tryz.prog.types.size).filter fun t => Tryz.prog.rowNamed t [101, 114, 114, 111, 114] := List.mem_filter.2 ⟨List.mem_range.2 e3, e4⟩
  rw [rowT] at hm
  obtain rfl := List.mem_singleton.1 hm
  have hh : typeHandle Tryz.prog 35 = .pointer (some ⟨22, 35, none⟩) := by kernel_rfl
  rw [hh] at e5
  simpa using World.var?_cell gT e5 0

/-- Sentinels: each one's variable leads to a place of its own. -/
theorem sents_of {P : Program} {W : World} {ti tp te ts : TypeId} {ms : Array (String × TypeId)} {f : Field} {nm : String}
    (hi : P.underlying ti = some (.interface ms)) (hrow : ∀ u, P.typeName? 3 u = some nm → u = tp)
    (hp : P.underlying tp = some (.pointer te)) (he : P.underlying te = some (.struct #[f])) (hft : f.type = ts) (hfo : f.offset = 0) (hs : P.underlying ts = some .string) (hc : P.cellsOf te = 1) (hcs : P.cellsOf ts = 1) :
    ∀ (l : List (String × Nat × List UInt8)) (ps : List MemPlace), (∀ x ∈ l, P.globalNamed x.1 = some x.2.1 ∧ (P.globals[x.2.1]?).map (·.type) = some ti) →
      DataW.LaidVars P W (l.map fun x => (x.1, .iface nm (.ptr (.agg [.lit (.string x.2.2)])))) ps → ps.Nodup →
      (∀ b off, MemPlace.cell b off ∈ ps → (∃ c t, W.heap[b]? = some (.cells c t (0, 0))) ∧ ∀ u v, W.cell? ⟨b, off, none⟩ = some (.iface u v) → Value.okWide P W .any 0 u v) →
      ∃ es : List Addr, es.length = l.length ∧ (∀ (i : Nat) (x : String × Nat × List UInt8) (a : Addr), l[i]? = some x → es[i]? = some a → W.cell? ⟨x.2.1, 0, none⟩ = some (.iface tp (.pointer (some a)))) ∧ es.Nodup ∧
        ∀ a ∈ es, MemPlace.cell a.block a.off ∈ ps ∧ a.spot = none
  | [], ps, _, _, _, _ => ⟨[], rfl, fun i x a h _ => by simp at h, List.nodup_nil, fun a h => by cases h⟩
  | x :: l, ps, hl, hv, hnd, hrows => by
    obtain ⟨g, t, cs, fuel, p, q, hg, ht, hvar, hd, hq, rfl⟩ := hv
    obtain ⟨k1, k2⟩ := hl x (List.mem_cons_self ..)
    obtain rfl := Option.some.inj (k1.symm.trans hg)
    obtain rfl := Option.some.inj (k2.symm.trans ht)
    obtain ⟨l0⟩ := cs
    have ok0 : ∀ u v, l0 = [.iface u v] → Value.okWide P W .any 0 u v := fun u v e => by
      subst e
      exact (hrows x.2.1 0 (by simp [MemPlace.row])).2 u v (by simpa using World.var?_cell hg hvar 0)
    obtain ⟨a0, s0, rfl, hc0, hs0, hz0, rfl⟩ := errorString_of_trod hi hrow hp he hft hfo hs hc hcs hd ok0
    obtain ⟨es, e1, e2, e3, e4⟩ := sents_of hi hrow hp he hft hfo hs hc hcs l q (fun y hy => hl y (List.mem_cons_of_mem _ hy)) hq (List.Nodup.sublist (List.sublist_append_right _ _) hnd) (fun b off hm => hrows b off (List.mem_append_right _ hm))
    have hsp : a0.spot = none := World.cell?_spot hc0
    refine ⟨a0 :: es, by simp [e1], ?_, List.nodup_cons.2 ⟨fun hm => ?_, e3⟩, ?_⟩
    · intro i y a hy ha
      cases i with
      | zero =>
        simp only [List.getElem?_cons_zero, Option.some.injEq] at hy ha
        subst hy ha
        simpa using World.var?_cell hg hvar 0
      | succ i => exact e2 i y a (by simpa using hy) (by simpa using ha)
    · have h1 := (e4 a0 hm).1
      have h2 := (List.nodup_append.1 hnd).2.2 (.cell a0.block a0.off) (by simp [MemPlace.row]) _ h1
      exact h2 rfl
    · intro a ha
      rcases List.mem_cons.1 ha with rfl | ha
      · exact ⟨by simp [MemPlace.row], hsp⟩
      · exact ⟨List.mem_append_right _ (e4 a ha).1, (e4 a ha).2⟩

def errL : List (String × Nat × List UInt8) := [("crucible/api.ErrArg", 1, [97, 110, 32, 97, 114, 103, 117, 109, 101, 110, 116, 32, 116, 104, 97, 116, 32, 109, 97, 121, 32, 110, 111, 116, 32, 98, 101]), ("crucible/api.ErrNil", 2, [97, 110, 32, 111, 98, 106, 101, 99, 116, 32, 116, 104, 97, 116, 32, 105, 115, 32, 110, 111, 116, 32, 116, 104, 101, 114, 101]), ("crucible/api.ErrInput", 3, [110, 111, 32, 100, 111, 99, 117, 109, 101, 110, 116, 32, 111, 102, 32, 105, 116, 115, 32, 102, 111, 114, 109, 97, 116]), ("crucible/api.ErrRep", 4, [97, 32, 118, 97, 108, 117, 101, 32, 116, 104, 97, 116, 32, 116, 104, 101, 32, 102, 111, 114, 109, 97, 116, 32, 104, 97, 115, 32, 110, 111, 116]), ("crucible/api.ErrLimit", 0, [97, 32, 108, 105, 109, 105, 116]), ("crucible/api.ErrNone", 5, [110, 111, 32, 115, 117, 99, 104, 32, 116, 104, 105, 110, 103]), ("crucible/api.ErrBusy", 6, [116, 111, 111, 32, 109, 97, 110, 121, 32, 115, 101, 115, 115, 105, 111, 110, 115]), ("crucible/api.ErrHandle", 7, [110, 111, 32, 115, 117, 99, 104, 32, 115, 101, 115, 115, 105, 111, 110]), ("crucible/api.ErrKey", 8, [97, 110, 111, 116, 104, 101, 114, 32, 107, 101, 121]), ("crucible/api.ErrStopped", 9, [115, 116, 111, 112, 112, 101, 100]), ("crucible/api.ErrScript", 10, [110, 111, 32, 115, 99, 114, 105, 112, 116])]
theorem onE : ((laidL.filter fun x => x.2.handleName?.isNone).filter fun x => (errL.map (·.1)).contains x.1) = errL.map fun x => (x.1, .iface "*errors.errorString" (.ptr (.agg [.lit (.string x.2.2)]))) := by kernel_rfl
theorem errG : ∀ x ∈ errL, Tryz.prog.globalNamed x.1 = some x.2.1 ∧ (Tryz.prog.globals[x.2.1]?).map (·.type) = some 35 := by
  have h : (errL.all fun x => (Tryz.prog.globalNamed x.1 == some x.2.1) && ((Tryz.prog.globals[x.2.1]?).map (·.type) == some 35)) = true := by kernel_rfl
  intro x hx
  have := List.all_eq_true.1 h x hx
  simp only [Bool.and_eq_true, beq_iff_eq] at this
  exact this
theorem starE : "*" ++ "errors.errorString" = "*errors.errorString" := by decide
theorem rowE (u : TypeId) (h : Tryz.prog.typeName? 3 u = some "*errors.errorString") : u = 338 :=
  typeName_ptr_named (nm := "errors.errorString") (by rw [starE]; kernel_rfl) (by kernel_rfl) (by decide) u (by rw [starE]; exact h)
theorem cellsE : Tryz.prog.cellsOf 356 = 1 := by kernel_rfl
theorem cellsStr : Tryz.prog.cellsOf 9 = 1 := by kernel_rfl
theorem glob_of {W : World} (h : laidMetH Tryz.prog laidL W) (hs : 21 < W.heap.size) : GW W ∧ ∃ e, Sents e W := by
  obtain ⟨h1, h2⟩ := laidMetH_iff.1 h
  have t32 : laidMet Tryz.prog [("math/bits.deBruijn32tab", Lib.tabData .u8 tab32)] W := by
    have := h1.filter (fun x => x.1 == "math/bits.deBruijn32tab")
    rw [← on32]; exact this
  have t64 : laidMet Tryz.prog [("math/bits.deBruijn64tab", Lib.tabData .u8 tab64)] W := by
    have := h1.filter (fun x => x.1 == "math/bits.deBruijn64tab")
    rw [← on64]; exact this
  have tS : laidMet Tryz.prog [("crucible/ieee.shapes", Rows.laid_crucible_ieee_shapes)] W := by
    have := h1.filter (fun x => x.1 == "crucible/ieee.shapes")
    rw [← onS]; exact this
  have tE := h1.filter (fun x => (errL.map (·.1)).contains x.1)
  rw [onE] at tE
  have i32 := Lib.tabIs_of_head g32 ty32 Tryz.underlying322 Tryz.underlying5 cells8 cells32 t32
  have i64 := Lib.tabIs_of_head g64 ty64 Tryz.underlying325 Tryz.underlying5 cells8 cells64 t64
  have c32 := i32.cell g32 1 (by decide)
  have c22 := i64.cell g64 22 (by decide)
  have c44 := i64.cell g64 44 (by decide)
  obtain ⟨c6, c7, c8⟩ := shapes_of tS
  refine ⟨⟨⟨hs, c6, c7, c8⟩, ⟨hs, c22, c44⟩, c32⟩, ?_⟩
  obtain ⟨ps, hv, hnd, hrows⟩ := tE
  obtain ⟨es, e1, e2, e3, e4⟩ := sents_of Tryz.underlying35 rowE Tryz.underlying338 Tryz.underlying356 rfl rfl Tryz.underlying9 cellsE cellsStr errL ps errG hv hnd hrows
  have hlen : es.length = 11 := e1
  have hget : ∀ i, i < 11 → es[i]? = some (es.getD i ⟨0, 0, none⟩) := fun i hi => by
    rw [List.getD_eq_getElem?_getD, List.getElem?_eq_getElem (by omega)]; rfl
  have key : ∀ i x, i < 11 → errL[i]? = some x → W.cell? ⟨x.2.1, 0, none⟩ = some (ev (fun i => es.getD i ⟨0, 0, none⟩) i) := fun i x hi hx => e2 i x _ hx (hget i hi)
  refine ⟨fun i => es.getD i ⟨0, 0, none⟩, key 0 _ (by decide) rfl, key 1 _ (by decide) rfl, key 2 _ (by decide) rfl, key 3 _ (by decide) rfl, key 4 _ (by decide) rfl, key 5 _ (by decide) rfl, key 6 _ (by decide) rfl, key 7 _ (by decide) rfl, key 8 _ (by decide) rfl, key 9 _ (by decide) rfl, key 10 _ (by decide) rfl, ?_, ?_, type_of h2⟩
  · intro i j hi hj hne heq
    have hi' : i < es.length := by omega
    have hj' : j < es.length := by omega
    have a1 := hget i hi
    have a2 := hget j hj
    have heq' : es.getD i ⟨0, 0, none⟩ = es.getD j ⟨0, 0, none⟩ := heq
    rw [heq', ← a2, List.getElem?_eq_getElem hi', List.getElem?_eq_getElem hj', Option.some.injEq] at a1
    have hp := List.pairwise_iff_getElem.1 e3
    rcases Nat.lt_trichotomy i j with h | h | h
    · exact hp i j hi' hj' h a1
    · exact hne h
    · exact hp j i hj' hi' h a1.symm
  · intro i hi
    have hm : es.getD i ⟨0, 0, none⟩ ∈ es := List.mem_of_getElem? (hget i hi)
    exact (hrows _ _ (e4 _ hm).1).1
end Go.Proofs.YtbhfoelnoddlkaaGreatDoor.D

/-
  cruciblelaw01.SameValue of two values that are none: walked.
-/
namespace Go.Proofs.YtbhfoelnoddlkaaGreatDoor.D
open Go Go.RowKit Limb

set_option maxRecDepth 100000 in
theorem sameNat_nil (w : World) (c c2 : Nat) : Calls Tryz.prog 41 #[.slice none 0 c, .slice none 0 c2] w fun r w' => r = .returned (.bool true) ∧ w' = w := by
  go_enter Tryz.func41, Tryz.ntmps41
  go_wp2
  refine wp_loop_rounds 1 ?_
  rw [rounds_succ]
  go_wp2
  go_ret
  exact ⟨rfl, rfl⟩
set_option maxRecDepth 100000 in
theorem sameValues_nil (w : World) : Calls Tryz.prog 19 #[.slice none 0 0, .slice none 0 0] w fun r w' => r = .returned (.bool true) ∧ w' = w := by
  go_enter Tryz.func19, Tryz.ntmps19
  go_wp2
  refine wp_loop_rounds 1 ?_
  rw [rounds_succ]
  go_wp2
  go_ret
  exact ⟨rfl, rfl⟩
set_option maxRecDepth 100000 in
theorem sameInt_nil (w : World) : Calls Tryz.prog 18 #[.agg #[.bool false, .slice none 0 0], .agg #[.bool false, .slice none 0 0]] w fun r w' => r = .returned (.bool true) ∧ Below w.heap.size w w' := by
  have hb : Below w.heap.size w ((w.alloc (.cells #[.bool false, .slice none 0 0] 30)).alloc (.cells #[.bool false, .slice none 0 0] 30)) := ((Below.refl _ _).alloc (Nat.le_refl _) _).alloc (by simp) _
  have HB := Lib.hid hb
  clear hb
  go_enter Tryz.func18, Tryz.ntmps18
  go_wp2_with fail
  refine (sameNat_nil _ 0 0).mono ?_
  rintro r w' ⟨rfl, rfl⟩
  go_wp2
  go_ret
  exact ⟨rfl, HB.out⟩

set_option maxRecDepth 100000 in
theorem sameValue_zero (w : World) : Calls Tryz.prog 7 #[.agg zeroV, .agg zeroV] w fun r w' => r = .returned (.bool true) ∧ Below w.heap.size w w' := by
  obtain ⟨w2, hw2⟩ : ∃ w2, w2 = (w.alloc (.cells zeroV 33)).alloc (.cells zeroV 33) := ⟨_, rfl⟩
  have hb : Below w.heap.size w w2 := by rw [hw2]; exact ((Below.refl _ _).alloc (Nat.le_refl _) _).alloc (by simp) _
  have h0 : Blk w2 w.heap.size zeroV 33 := by rw [hw2]; exact (Blk.new _ _ _).alloc _
  have h1 : Blk w2 (w.heap.size + 1) zeroV 33 := by
    have := Blk.new (w.alloc (.cells zeroV 33)) zeroV 33
    rw [show (w.alloc (.cells zeroV 33)).heap.size = w.heap.size + 1 by simp] at this
    rw [hw2]; exact this
  have a0 : w2.cell? ⟨w.heap.size, 0, none⟩ = some (.int .i8 0) := h0.cell 0
  have b0 : w2.cell? ⟨w.heap.size + 1, 0, none⟩ = some (.int .i8 0) := h1.cell 0
  have a1 : w2.cell? ⟨w.heap.size, 1, none⟩ = some (.int .u64 0) := h0.cell 1
  have b1 : w2.cell? ⟨w.heap.size + 1, 1, none⟩ = some (.int .u64 0) := h1.cell 1
  have a2 : w2.cell? ⟨w.heap.size, 2, none⟩ = some (.bool false) := h0.cell 2
  have b2 : w2.cell? ⟨w.heap.size + 1, 2, none⟩ = some (.bool false) := h1.cell 2
  have a3 : w2.cell? ⟨w.heap.size, 3, none⟩ = some (.slice none 0 0) := h0.cell 3
  have b3 : w2.cell? ⟨w.heap.size + 1, 3, none⟩ = some (.slice none 0 0) := h1.cell 3
  have a4 : w2.cell? ⟨w.heap.size, 4, none⟩ = some (.int .u64 0) := h0.cell 4
  have b4 : w2.cell? ⟨w.heap.size + 1, 4, none⟩ = some (.int .u64 0) := h1.cell 4
  have a5 : w2.cell? ⟨w.heap.size, 5, none⟩ = some (.int .i8 0) := h0.cell 5
  have b5 : w2.cell? ⟨w.heap.size + 1, 5, none⟩ = some (.int .i8 0) := h1.cell 5
  have a6 : w2.cell? ⟨w.heap.size, 6, none⟩ = some (.string ⟨#[]⟩) := h0.cell 6
  have b6 : w2.cell? ⟨w.heap.size + 1, 6, none⟩ = some (.string ⟨#[]⟩) := h1.cell 6
  have a7 : w2.cell? ⟨w.heap.size, 7, none⟩ = some (.slice none 0 0) := h0.cell 7
  have b7 : w2.cell? ⟨w.heap.size + 1, 7, none⟩ = some (.slice none 0 0) := h1.cell 7
  have HB := Lib.hid hb
  have HW := Lib.hid hw2
  clear hb h0 h1 hw2
  unfold zeroV
  go_enter Tryz.func7, Tryz.ntmps7
  go_upto_region 1 with fail
  change Code.wp _ _ _ _ ((w.alloc (.cells zeroV 33)).alloc (.cells zeroV 33))
  rw [← HW.out]
  go_wp2_with fail
  refine (sameInt_nil _).mono ?_
  rintro r w3 ⟨rfl, hb3⟩
  have HB3 := Lib.hid (HB.out.trans (hb3.mono HB.out.size))
  have a7' : w3.cell? ⟨w.heap.size, 7, none⟩ = some (.slice none 0 0) := by
    rw [hb3.cell (p := ⟨w.heap.size, 7, none⟩) (by rw [HW.out]; simp; omega)]; exact a7
  have b7' : w3.cell? ⟨w.heap.size + 1, 7, none⟩ = some (.slice none 0 0) := by
    rw [hb3.cell (p := ⟨w.heap.size + 1, 7, none⟩) (by rw [HW.out]; simp)]; exact b7
  clear hb3
  go_wp2_with fail
  refine (sameValues_nil _).mono ?_
  rintro r w4 ⟨rfl, rfl⟩
  go_wp2
  go_ret
  exact ⟨rfl, HB3.out⟩
end Go.Proofs.YtbhfoelnoddlkaaGreatDoor.D

/-
  Containers within one another, too deep: where reading stops.
-/
namespace Go.Proofs.YtbhfoelnoddlkaaGreatDoor.D
open Go Go.RowKit Limb

theorem fails_doc (S : List UInt8) (hS : S.length ≤ 1099511627776) : ∀ (ks : List Nat) (a ar : Nat), At S (doc ks) a → ar ≤ 128 → 128 < ar + ks.length →
    Fails S a ar 5 (a + (opens (ks.take (128 - ar))).length) := by
  intro ks
  induction ks with
  | nil => intro a ar _ h1 h2; simp at h2; omega
  | cons k ks ih =>
    intro a ar hA har hgt
    have hlk : (k :: ks).length = ks.length + 1 := rfl
    rw [hlk] at hgt
    unfold doc at hA
    obtain ⟨hA1, hA3⟩ := hA.app
    obtain ⟨hA1, hA2⟩ := hA1.app
    obtain ⟨dc, dr, hdoc, hdh⟩ := doc_head ks
    obtain ⟨hb1, hb2, hb3⟩ := heads_blank hdh
    have hD := hA2
    rw [hdoc] at hD
    obtain ⟨hDl, hDc⟩ := hD.head
    have hBD : Btw S (a + (opT k).length) (a + (opT k).length) := Btw.none (fun _ => by rw [hDc]; exact hb1) (Nat.le_of_lt hDl)
    have hpos : ar < 128 → a + (opens ((k :: ks).take (128 - ar))).length = a + (opT k).length + (opens (ks.take (128 - (ar + 1)))).length := by
      intro h
      rw [show 128 - ar = (128 - (ar + 1)) + 1 by omega, List.take_succ_cons]
      simp only [opens, List.length_append]
      omega
    have hpos0 : ar = 128 → a + (opens ((k :: ks).take (128 - ar))).length = a := by
      rintro rfl
      simp [opens]
    rcases (by omega : k % 4 = 0 ∨ k % 4 = 1 ∨ k % 4 = 2 ∨ k % 4 = 3) with hk | hk | hk | hk
    · have e1 : opT k = [91] := by unfold opT; rw [if_pos hk]
      rw [e1] at hA1 hA2 hD hDl hDc hBD hpos
      simp only [List.length_singleton] at *
      obtain ⟨ha, hc⟩ := hA1.head
      rcases Nat.lt_or_ge ar 128 with h | h
      · rw [hpos h]
        exact value_list_fails S a ar 5 _ ha 91 hc (by decide) h (list_fails S a (ar + 1) (a + 1) 5 _ ha hS hBD (by rw [hDc]; exact hb2) (ih (a + 1) (ar + 1) hA2 (by omega) (by omega)))
      · rw [hpos0 (by omega)]
        exact value_list_deep S a ar ha 91 hc (by decide) h
    · have e1 : opT k = [123, 49, 58] := by unfold opT; rw [if_neg (by omega), if_pos hk]
      rw [e1] at hA1 hA2 hD hDl hDc hBD hpos
      simp only [List.length_cons, List.length_nil, Nat.zero_add] at *
      obtain ⟨ha, hc⟩ := hA1.head
      obtain ⟨ha1, hc1⟩ := hA1.tail.head
      obtain ⟨ha2, hc2⟩ := hA1.tail.tail.head
      rcases Nat.lt_or_ge ar 128 with h | h
      · rw [hpos h]
        have hK := reads_one S (a + 1) (ar + 1) 1 49 hS (.inl rfl) (by decide) ha1 hc1 (by omega) (fun _ => by rw [hc2]; decide)
        exact value_pairs_fails S a ar 5 _ ha 123 hc (by decide) (by decide) h (pairs_fails_val S a (ar + 1) (a + 1) (a + 2) (a + 2) (a + 3) 5 _ (fun _ => .node [dig 1] 1 (fun _ => .stop)) (fun _ => 0) true ha hS (Btw.none (fun _ => by rw [hc1]; decide) (Nat.le_of_lt ha1)) ha1 (by rw [hc1]; decide) hK (Btw.none (fun _ => by rw [hc2]; decide) (Nat.le_of_lt ha2)) ha2 hc2 hBD (ih (a + 3) (ar + 1) hA2 (by omega) (by omega)) (by simp [F.txt_node]) (by simp [F.txt_node]))
      · rw [hpos0 (by omega)]
        exact value_pairs_deep S a ar ha 123 hc (by decide) (by decide) h
    · have e1 : opT k = [49, 48, 40] := by unfold opT; rw [if_neg (by omega), if_neg (by omega), if_pos hk]
      rw [e1] at hA1 hA2 hD hDl hDc hBD hpos
      simp only [List.length_cons, List.length_nil, Nat.zero_add] at *
      obtain ⟨ha, hc⟩ := hA1.head
      obtain ⟨ha1, hc1⟩ := hA1.tail.head
      obtain ⟨ha2, hc2⟩ := hA1.tail.tail.head
      have hsub : sub S a (a + 2) = [49, 48] := sub_two hc hc1 ha1
      have hdec : dec [49, 48] ([49, 48] : List UInt8).length = 10 := by decide
      have hv : ∀ at_, FlsF 65 [.int .u64 ((10 : Nat) : Int), .int .i64 (a : Int), .int .i64 (ar : Int)] S (a + 2) false 5 at_ → Fails S a ar 5 at_ := fun at_ hT =>
        value_number_fails S a ar 5 at_ ha 49 hc (by decide) (by decide) (by decide) (by decide) har (number_tag_fails S a (a + 2) ar 5 at_ [49, 48] dg10 hsub (by rw [hdec]; decide) rfl ha2 hS hc2 (by rw [hdec]; exact hT))
      rcases Nat.lt_or_ge ar 128 with h | h
      · rw [hpos h]
        exact hv _ (tag_fails S a (a + 2) (a + 3) ar 10 5 _ h ha2 hS hBD (ih (a + 3) (ar + 1) hA2 (by omega) (by omega)))
      · rw [hpos0 (by omega)]
        exact hv _ (tag_deep S a (a + 2) ar 10 h)
    · have e1 : opT k = [123] := by unfold opT; rw [if_neg (by omega), if_neg (by omega), if_neg (by omega)]
      rw [e1] at hA1 hA2 hD hDl hDc hBD hpos
      simp only [List.length_cons, List.length_nil, Nat.zero_add] at *
      obtain ⟨ha, hc⟩ := hA1.head
      rcases Nat.lt_or_ge ar 128 with h | h
      · rw [hpos h]
        exact value_pairs_fails S a ar 5 _ ha 123 hc (by decide) (by decide) h (pairs_fails_key S a (ar + 1) (a + 1) 5 _ ha hS hBD hDl (by rw [hDc]; exact hb3) (ih (a + 1) (ar + 1) hA2 (by omega) (by omega)))
      · rw [hpos0 (by omega)]
        exact value_pairs_deep S a ar ha 123 hc (by decide) (by decide) h
end Go.Proofs.YtbhfoelnoddlkaaGreatDoor.D

