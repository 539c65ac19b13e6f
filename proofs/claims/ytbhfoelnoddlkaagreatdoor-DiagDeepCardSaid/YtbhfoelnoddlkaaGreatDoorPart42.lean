/-
  Of the proof that the law DiagDeep answers true at every row of bytes: a part, without conditions of its own.
-/
import Derived.Test.YtbhfoelnoddlkaaGreatDoorPart36
import Derived.Test.YtbhfoelnoddlkaaGreatDoorPart41
import Derived.Test.YtbhfoelnoddlkaaGreatDoorPart06
import Derived.Test.YtbhfoelnoddlkaaGreatDoorCards
import Derived.WalkKit
import Derived.ProofKit
import Derived.OpenShut
import Derived.Lay
import Derived.ReadAgain
import Derived.SizedLaws
import Derived.Deep.DeepHandedRow
set_option linter.unusedVariables false
set_option linter.unusedSimpArgs false
/-
  DiagDeep, the law's own walk, given that 'lives' holds: the text that it makes, what is read of it.
-/
namespace Go.Proofs.YtbhfoelnoddlkaaGreatDoor.D
open Go Go.RowKit Limb

def shuts : List Nat → List UInt8
  | [] => []
  | k :: ks => shuts ks ++ clT k
theorem doc_eq (ks : List Nat) : doc ks = opens ks ++ ([55] ++ shuts ks) := by
  induction ks with
  | nil => rfl
  | cons k ks ih =>
    unfold doc opens shuts
    rw [ih]
    simp only [List.append_assoc]
theorem opens_app (a b : List Nat) : opens (a ++ b) = opens a ++ opens b := by
  induction a with
  | nil => rfl
  | cons k ks ih => show opT k ++ opens (ks ++ b) = opT k ++ opens ks ++ opens b; rw [ih, List.append_assoc]
theorem shuts_app (a b : List Nat) : shuts (a ++ b) = shuts b ++ shuts a := by
  induction a with
  | nil => simp [shuts]
  | cons k ks ih => show shuts (ks ++ b) ++ clT k = shuts b ++ (shuts ks ++ clT k); rw [ih, List.append_assoc]
theorem take_succ_one (ks : List Nat) (i : Nat) (h : i < ks.length) : ks.take (i + 1) = ks.take i ++ [ks.getD i 0] := by
  rw [List.take_add_one, List.getD_eq_getElem?_getD, List.getElem?_eq_getElem h]; rfl
theorem opens_succ (ks : List Nat) (i : Nat) (h : i < ks.length) : opens (ks.take (i + 1)) = opens (ks.take i) ++ opT (ks.getD i 0) := by
  rw [take_succ_one ks i h, opens_app]; simp [opens]
theorem shuts_succ (ks : List Nat) (i : Nat) (h : i < ks.length) : shuts (ks.take (i + 1)) = clT (ks.getD i 0) ++ shuts (ks.take i) := by
  rw [take_succ_one ks i h, shuts_app]; simp [shuts]
theorem opT_len (k : Nat) : (opT k).length ≤ 3 ∧ (clT k).length ≤ 3 := by
  unfold opT clT; split <;> (try split) <;> (try split) <;> simp
theorem opens_len (ks : List Nat) : (opens ks).length ≤ 3 * ks.length ∧ (shuts ks).length ≤ 3 * ks.length := by
  induction ks with
  | nil => simp [opens, shuts]
  | cons k ks ih =>
    have := opT_len k
    simp only [opens, shuts, List.length_append, List.length_cons]
    omega
theorem doc_len (ks : List Nat) : (doc ks).length ≤ 6 * ks.length + 1 := by
  rw [doc_eq]
  have := opens_len ks
  simp only [List.length_append, List.length_cons, List.length_nil]
  omega

/-- The law's argument: a row of bytes. -/
def BArg (w : World) (v : Value) (ks : Nat → Nat) (n : Nat) : Prop :=
  ∃ base cap, v = .slice base n cap ∧ n ≤ cap ∧ (∀ i, i < n → ks i < 256) ∧ (0 < n → ∃ blk off, base = some ⟨blk, off, none⟩ ∧ blk < w.heap.size ∧ ∀ i, i < n → w.cell? ⟨blk, off + i, none⟩ = some (.int .u8 ((ks i : Nat) : Int)))

/-- How far the text is open where 128 are: the law's limit. -/
def limI (ks : List Nat) (i : Nat) : Nat := if i ≤ 128 then 0 else (opens (ks.take 128)).length

theorem limI_succ (ks : List Nat) (k : Nat) (h : k ≠ 128) : limI ks (k + 1) = limI ks k := by
  unfold limI
  by_cases h1 : k ≤ 128
  · rw [if_pos h1, if_pos (by omega)]
  · rw [if_neg h1, if_neg (by omega)]
theorem limI_128 (ks : List Nat) : limI ks 129 = (strL (opens (List.take 128 ks))).size := rfl
theorem limI_more (ks : List Nat) (k : Nat) (h : 128 < k) : limI ks k = (opens (ks.take 128)).length := by
  unfold limI; rw [if_neg (by omega)]
theorem at_self (S : List UInt8) : At S S 0 := ⟨[], [], by simp, rfl⟩
theorem btw_start (ks : List Nat) : Btw (doc ks) 0 0 := by
  obtain ⟨c, r, h, hc⟩ := doc_head ks
  have := (heads_blank hc).1
  exact Btw.none (fun _ => by rw [h]; exact this) (Nat.zero_le _)
theorem btw_end (S : List UInt8) : Btw S S.length S.length := Btw.none (fun h => by omega) (Nat.le_refl _)

set_option maxRecDepth 100000 in
theorem deep_loop (w : World) (base : Option Addr) (n cap : Nat) (kf : Nat → Nat) (hn : n ≤ cap) (hk : ∀ i, i < n → kf i < 256)
    (hc : 0 < n → ∃ blk off, base = some ⟨blk, off, none⟩ ∧ blk < w.heap.size ∧ ∀ i, i < n → w.cell? ⟨blk, off + i, none⟩ = some (.int .u8 ((kf i : Nat) : Int)))
    (e : Nat → Addr) (hG : GW w) (hE : Sents e w)
    (hL : Calls Tryz.prog 4 #[] w fun r w' => r = .returned (.bool true) ∧ Below w.heap.size w w') : 
    Calls Tryz.prog 3 #[.slice base n cap] w fun r w' => r = .returned (.bool true) ∧ Below w.heap.size w w' := by
  have HG := Lib.hid hG
  have HE := Lib.hid hE
  have HL := Lib.hid hL
  have HC := Lib.hid hc
  have HK := Lib.hid hk
  clear hL hc hk hG hE
  obtain ⟨ks, hks⟩ : ∃ ks : List Nat, ks = (List.range (min n 200)).map kf := ⟨_, rfl⟩
  have HKS := Lib.hid hks
  have HLN : Hid (ks.length = min n 200) := Lib.hid (by rw [hks]; simp)
  have HGT : Hid (∀ i, i < min n 200 → ks.getD i 0 = kf i) := Lib.hid (fun i hi => by rw [hks, List.getD_eq_getElem?_getD, List.getElem?_map, List.getElem?_range hi]; rfl)
  clear hks
  go_enter Tryz.func3, Tryz.ntmps3
  go_wp2_with fail
  refine HL.out.mono ?_
  rintro r w1 ⟨rfl, hb1⟩
  have HB1 := Lib.hid hb1
  clear hb1
  go_wp2_with fail
  go_loopw [3, 4, 5, 6] (fun o s l i wr => ∃ k : Nat, k ≤ min n 200 ∧ i = .int .i64 k ∧ wr = w1 ∧ o = .string (strL (opens (ks.take k))) ∧ s = .string (strL (shuts (ks.take k))) ∧ l = .int .i64 (limI ks k : Nat)) (fun _ _ _ i _ => 200 - (intOf i).toNat)
  case atStart => exact ⟨0, by omega, rfl, rfl, rfl, rfl, rfl⟩
  case round =>
    obtain ⟨k, hkm, rfl, rfl, rfl, rfl, rfl⟩ := hrel
    rcases (by omega : (k < n ∧ k < 200) ∨ (k = n ∧ k ≤ 200) ∨ (k < n ∧ k = 200)) with ⟨h1, h2⟩ | ⟨h1, h2⟩ | ⟨h1, h2⟩
    · have hnm : k < min n 200 := by omega
      obtain ⟨blk, off, rfl, hbl, hcell⟩ := HC.out (by omega)
      have hc := (HB1.out.cell (p := ⟨blk, off + k, none⟩) hbl).trans (hcell k (by omega))
      have hm := HK.out k (by omega)
      have hg := HGT.out k hnm
      have ho := opens_succ ks k (by rw [HLN.out]; exact hnm)
      have hs := shuts_succ ks k (by rw [HLN.out]; exact hnm)
      rw [hg] at ho hs
      have hz1 : (strL (opens (ks.take k))).size ≤ 600 := by rw [strL_size]; have := (opens_len (ks.take k)).1; have := List.length_take_le k ks; omega
      have hz2 : (strL (shuts (ks.take k))).size ≤ 600 := by rw [strL_size]; have := (opens_len (ks.take k)).2; have := List.length_take_le k ks; omega
      clear hcell hg hkm
      have HNM := Lib.hid hnm
      clear hnm
      generalize kf k = m at hc hm ho hs
      have HO := Lib.hid ho
      have HSH := Lib.hid hs
      clear ho hs
      rcases (by omega : k = 128 ∨ k ≠ 128) with rfl | h5
      · have HLI : Hid (limI ks 129 = (strL (opens (List.take 128 ks))).size) := Lib.hid (limI_128 ks)
        rcases (by omega : m % 4 = 0 ∨ m % 4 = 1 ∨ m % 4 = 2 ∨ m % 4 = 3) with h4 | h4 | h4 | h4
        · have HEO : Hid (opT m = [91]) := Lib.hid (by unfold opT; rw [if_pos h4])
          have HEC : Hid (clT m = [93]) := Lib.hid (by unfold clT; rw [if_pos h4])
          go_wp2
          refine ⟨⟨129, by omega, rfl, trivial, ?_, ?_, ?_⟩, by simp [intOf]⟩
          · rw [HO.out, HEO.out]; exact congrArg Value.string (str_app _ _)
          · rw [HSH.out, HEC.out]; exact congrArg Value.string (str_app _ _)
          · rw [HLI.out]
        · have HEO : Hid (opT m = [123, 49, 58]) := Lib.hid (by unfold opT; rw [if_neg (by omega), if_pos h4])
          have HEC : Hid (clT m = [125]) := Lib.hid (by unfold clT; rw [if_neg (by omega), if_pos h4])
          go_wp2
          refine ⟨⟨129, by omega, rfl, trivial, ?_, ?_, ?_⟩, by simp [intOf]⟩
          · rw [HO.out, HEO.out]; exact congrArg Value.string (str_app _ _)
          · rw [HSH.out, HEC.out]; exact congrArg Value.string (str_app _ _)
          · rw [HLI.out]
        · have HEO : Hid (opT m = [49, 48, 40]) := Lib.hid (by unfold opT; rw [if_neg (by omega), if_neg (by omega), if_pos h4])
          have HEC : Hid (clT m = [41]) := Lib.hid (by unfold clT; rw [if_neg (by omega), if_neg (by omega), if_pos h4])
          go_wp2
          refine ⟨⟨129, by omega, rfl, trivial, ?_, ?_, ?_⟩, by simp [intOf]⟩
          · rw [HO.out, HEO.out]; exact congrArg Value.string (str_app _ _)
          · rw [HSH.out, HEC.out]; exact congrArg Value.string (str_app _ _)
          · rw [HLI.out]
        · have HEO : Hid (opT m = [123]) := Lib.hid (by unfold opT; rw [if_neg (by omega), if_neg (by omega), if_neg (by omega)])
          have HEC : Hid (clT m = [58, 49, 125]) := Lib.hid (by unfold clT; rw [if_neg (by omega), if_neg (by omega), if_neg (by omega)])
          go_wp2
          refine ⟨⟨129, by omega, rfl, trivial, ?_, ?_, ?_⟩, by simp [intOf]⟩
          · rw [HO.out, HEO.out]; exact congrArg Value.string (str_app _ _)
          · rw [HSH.out, HEC.out]; exact congrArg Value.string (str_app _ _)
          · rw [HLI.out]
      · have HLI : Hid (limI ks (k + 1) = limI ks k) := Lib.hid (limI_succ ks k h5)
        rcases (by omega : m % 4 = 0 ∨ m % 4 = 1 ∨ m % 4 = 2 ∨ m % 4 = 3) with h4 | h4 | h4 | h4
        · have HEO : Hid (opT m = [91]) := Lib.hid (by unfold opT; rw [if_pos h4])
          have HEC : Hid (clT m = [93]) := Lib.hid (by unfold clT; rw [if_pos h4])
          go_wp2
          refine ⟨⟨k + 1, by omega, by go_num, trivial, ?_, ?_, ?_⟩, by simp [intOf]; omega⟩
          · rw [HO.out, HEO.out]; exact congrArg Value.string (str_app _ _)
          · rw [HSH.out, HEC.out]; exact congrArg Value.string (str_app _ _)
          · rw [HLI.out]
        · have HEO : Hid (opT m = [123, 49, 58]) := Lib.hid (by unfold opT; rw [if_neg (by omega), if_pos h4])
          have HEC : Hid (clT m = [125]) := Lib.hid (by unfold clT; rw [if_neg (by omega), if_pos h4])
          go_wp2
          refine ⟨⟨k + 1, by omega, by go_num, trivial, ?_, ?_, ?_⟩, by simp [intOf]; omega⟩
          · rw [HO.out, HEO.out]; exact congrArg Value.string (str_app _ _)
          · rw [HSH.out, HEC.out]; exact congrArg Value.string (str_app _ _)
          · rw [HLI.out]
        · have HEO : Hid (opT m = [49, 48, 40]) := Lib.hid (by unfold opT; rw [if_neg (by omega), if_neg (by omega), if_pos h4])
          have HEC : Hid (clT m = [41]) := Lib.hid (by unfold clT; rw [if_neg (by omega), if_neg (by omega), if_pos h4])
          go_wp2
          refine ⟨⟨k + 1, by omega, by go_num, trivial, ?_, ?_, ?_⟩, by simp [intOf]; omega⟩
          · rw [HO.out, HEO.out]; exact congrArg Value.string (str_app _ _)
          · rw [HSH.out, HEC.out]; exact congrArg Value.string (str_app _ _)
          · rw [HLI.out]
        · have HEO : Hid (opT m = [123]) := Lib.hid (by unfold opT; rw [if_neg (by omega), if_neg (by omega), if_neg (by omega)])
          have HEC : Hid (clT m = [58, 49, 125]) := Lib.hid (by unfold clT; rw [if_neg (by omega), if_neg (by omega), if_neg (by omega)])
          go_wp2
          refine ⟨⟨k + 1, by omega, by go_num, trivial, ?_, ?_, ?_⟩, by simp [intOf]; omega⟩
          · rw [HO.out, HEO.out]; exact congrArg Value.string (str_app _ _)
          · rw [HSH.out, HEC.out]; exact congrArg Value.string (str_app _ _)
          · rw [HLI.out]
    -- EXITS
    · have htk : ks.take k = ks := List.take_of_length_le (by rw [HLN.out]; omega)
      rw [htk]
      have hdoc : strL (opens ks) ++ ⟨#[55]⟩ ++ strL (shuts ks) = strL (doc ks) := by
        rw [doc_eq, show (⟨#[55]⟩ : ByteArray) = strL [55] from rfl, str_app, str_app, List.append_assoc]
      have HDOC := Lib.hid hdoc
      have hz1 : (strL (opens ks)).size ≤ 600 := by rw [strL_size]; have := (opens_len ks).1; have := HLN.out; omega
      have hz2 : (strL (shuts ks)).size ≤ 600 := by rw [strL_size]; have := (opens_len ks).2; have := HLN.out; omega
      have HSZ : Hid ((doc ks).length ≤ 1048576) := Lib.hid (by have := doc_len ks; have := HLN.out; omega)
      have HG1 := Lib.hid (HG.out.step HB1.out)
      have HE1 := Lib.hid (HE.out.step HB1.out HG.out.size)
      have HKL : Hid (ks.length = k) := Lib.hid (by rw [HLN.out]; omega)
      clear hdoc htk
      rcases (by omega : 128 < k ∨ k ≤ 128) with h3 | h3
      · obtain ⟨lim, hlim⟩ : ∃ lim, lim = (opens (ks.take 128)).length := ⟨_, rfl⟩
        rw [limI_more ks k (by omega), ← hlim]
        have HLIM := Lib.hid hlim
        have h128 : 128 < n := by omega
        clear hlim
        go_wp2_with fail
        rw [HDOC.out]
        refine (read_stop e (doc ks) 0 5 lim (.inr rfl) HSZ.out (btw_start ks) ?_ wr HG1.out HE1.out).mono ?_
        · have := fails_doc (doc ks) (by have := HSZ.out; omega) ks 0 0 (at_self _) (by omega) (by rw [HKL.out]; omega)
          rw [HLIM.out]
          simpa using this
        rintro r w2 ⟨v, rfl, hb2, hF2⟩
        obtain ⟨w3, hw3⟩ : ∃ w3, w3 = w2.alloc (.cells zeroV 33) := ⟨_, rfl⟩
        have hb3' : Below w2.heap.size w2 w3 := by rw [hw3]; exact (Below.refl _ _).alloc (Nat.le_refl _) _
        have hB3 : Blk w3 w2.heap.size zeroV 33 := by rw [hw3]; exact Blk.new _ _ _
        have hb3 := hb2.trans (hb3'.mono hb2.size)
        have HF3 := Lib.hid (hF2.step hb3')
        have HS3 : Hid (21 < w3.heap.size) := Lib.hid (Nat.lt_of_lt_of_le HG1.out.size hb3.size)
        have HE3 := Lib.hid (HE1.out.step hb3 HG1.out.size)
        have HB3 := Lib.hid (HB1.out.trans (hb3.mono HB1.out.size))
        have HBL3 := Lib.hid hB3
        have HW3 := Lib.hid hw3
        clear hb2 hF2 hb3 hb3' hB3 hw3
        unfold zeroV
        go_upto_region 25 with fail
        change Code.wp _ _ _ _ (w2.alloc (.cells zeroV 33))
        rw [← HW3.out]
        go_wp2_with fail
        refine (isAt_fault e w3 HE3.out HS3.out 5 lim (.inr rfl) v HF3.out).mono ?_
        rintro r w4 ⟨rfl, hb4⟩
        have hB4 := HBL3.out.below hb4 HBL3.out.lt
        have c0 : w4.cell? ⟨w2.heap.size, 0, none⟩ = some (.int .i8 0) := hB4.cell 0
        have c1 : w4.cell? ⟨w2.heap.size, 1, none⟩ = some (.int .u64 0) := hB4.cell 1
        have c2 : w4.cell? ⟨w2.heap.size, 2, none⟩ = some (.bool false) := hB4.cell 2
        have c3 : w4.cell? ⟨w2.heap.size, 3, none⟩ = some (.slice none 0 0) := hB4.cell 3
        have c4 : w4.cell? ⟨w2.heap.size, 4, none⟩ = some (.int .u64 0) := hB4.cell 4
        have c5 : w4.cell? ⟨w2.heap.size, 5, none⟩ = some (.int .i8 0) := hB4.cell 5
        have c6 : w4.cell? ⟨w2.heap.size, 6, none⟩ = some (.string ⟨#[]⟩) := hB4.cell 6
        have c7 : w4.cell? ⟨w2.heap.size, 7, none⟩ = some (.slice none 0 0) := hB4.cell 7
        have HB4 := Lib.hid (HB3.out.trans (hb4.mono HB3.out.size))
        clear hb4 hB4
        go_wp2_with fail
        refine (sameValue_zero w4).mono ?_
        rintro r w5 ⟨rfl, hb5⟩
        have HB5 := Lib.hid (HB4.out.trans (hb5.mono HB4.out.size))
        clear hb5
        go_wp2
        go_ret
        exact ⟨rfl, HB5.out⟩
      · have h128 : ¬ 128 < n := by omega
        obtain ⟨f, op, hR, -, -⟩ := reads_doc (doc ks) (by have := HSZ.out; omega) ks 0 0 (at_self _) (fun h => by omega) (by rw [HKL.out]; omega)
        have HR := Lib.hid hR
        clear hR
        go_wp2_with fail
        rw [HDOC.out]
        refine (read_ok (doc ks) 0 (0 + (doc ks).length) ks.length f op HSZ.out (btw_start ks) HR.out (by rw [Nat.zero_add]; exact btw_end _) wr HG1.out).mono ?_
        rintro r w2 ⟨v, rfl, hb2, hT2⟩
        obtain ⟨kind, nn, mb, mn, mc, bits, ext, text, kb, kn, kc, rfl⟩ := hT2.row
        obtain ⟨w3, hw3⟩ : ∃ w3, w3 = w2.alloc (.cells (vCells kind nn false (.slice mb mn mc) bits ext (strL text) (.slice kb kn kc)) 33) := ⟨_, rfl⟩
        have hb3' : Below w2.heap.size w2 w3 := by rw [hw3]; exact (Below.refl _ _).alloc (Nat.le_refl _) _
        have hB3 : Blk w3 w2.heap.size (vCells kind nn false (.slice mb mn mc) bits ext (strL text) (.slice kb kn kc)) 33 := by rw [hw3]; exact Blk.new _ _ _
        have hb3 := hb2.trans (hb3'.mono hb2.size)
        have hT3 : TreeP w3 (fun k => wr.heap.size ≤ k) f ks.length (.agg (vCells kind nn false (.slice mb mn mc) bits ext (strL text) (.slice kb kn kc))) := TreeP.same (fun k hk hl => hb3'.block k hl) (fun k hk _ => hk) _ _ _ hT2
        have HD3 := Lib.hid (depth_any w3.heap.size f ks.length _ w3 (Nat.le_refl _) (by rw [HKL.out]; omega) (TreeP.toN (fun b _ h => h) _ _ _ hT3))
        have HB3 := Lib.hid (HB1.out.trans (hb3.mono HB1.out.size))
        have hnk : ks.length = n := by rw [HKL.out]; omega
        have c0 : w3.cell? ⟨w2.heap.size, 0, none⟩ = some (.int .i8 kind) := hB3.cell 0
        have c1 : w3.cell? ⟨w2.heap.size, 1, none⟩ = some (.int .u64 nn) := hB3.cell 1
        have c2 : w3.cell? ⟨w2.heap.size, 2, none⟩ = some (.bool false) := hB3.cell 2
        have c3 : w3.cell? ⟨w2.heap.size, 3, none⟩ = some (.slice mb mn mc) := hB3.cell 3
        have c4 : w3.cell? ⟨w2.heap.size, 4, none⟩ = some (.int .u64 bits) := hB3.cell 4
        have c5 : w3.cell? ⟨w2.heap.size, 5, none⟩ = some (.int .i8 ext) := hB3.cell 5
        have c6 : w3.cell? ⟨w2.heap.size, 6, none⟩ = some (.string (strL text)) := hB3.cell 6
        have c7 : w3.cell? ⟨w2.heap.size, 7, none⟩ = some (.slice kb kn kc) := hB3.cell 7
        rw [hnk] at HD3
        have HW3 := Lib.hid hw3
        clear hb2 hT2 hb3 hb3' hB3 hw3 hT3 hnk
        unfold vCells
        go_upto_region 26 with fail
        change Code.wp _ _ _ _ (w2.alloc (.cells (vCells kind nn false (.slice mb mn mc) bits ext (strL text) (.slice kb kn kc)) 33))
        rw [← HW3.out]
        go_wp2_with fail
        refine HD3.out.mono ?_
        rintro r w4 ⟨rfl, hb4⟩
        have HB4 := Lib.hid (HB3.out.trans (hb4.mono HB3.out.size))
        clear hb4
        go_wp2
        go_ret
        exact ⟨rfl, HB4.out⟩
    · have htk : ks.take k = ks := List.take_of_length_le (by rw [HLN.out]; omega)
      rw [htk]
      have hdoc : strL (opens ks) ++ ⟨#[55]⟩ ++ strL (shuts ks) = strL (doc ks) := by
        rw [doc_eq, show (⟨#[55]⟩ : ByteArray) = strL [55] from rfl, str_app, str_app, List.append_assoc]
      have HDOC := Lib.hid hdoc
      have hz1 : (strL (opens ks)).size ≤ 600 := by rw [strL_size]; have := (opens_len ks).1; have := HLN.out; omega
      have hz2 : (strL (shuts ks)).size ≤ 600 := by rw [strL_size]; have := (opens_len ks).2; have := HLN.out; omega
      have HSZ : Hid ((doc ks).length ≤ 1048576) := Lib.hid (by have := doc_len ks; have := HLN.out; omega)
      have HG1 := Lib.hid (HG.out.step HB1.out)
      have HE1 := Lib.hid (HE.out.step HB1.out HG.out.size)
      have HKL : Hid (ks.length = k) := Lib.hid (by rw [HLN.out]; omega)
      clear hdoc htk
      obtain ⟨lim, hlim⟩ : ∃ lim, lim = (opens (ks.take 128)).length := ⟨_, rfl⟩
      rw [limI_more ks k (by omega), ← hlim]
      have HLIM := Lib.hid hlim
      have h128 : 128 < n := by omega
      clear hlim
      go_wp2_with fail
      rw [HDOC.out]
      refine (read_stop e (doc ks) 0 5 lim (.inr rfl) HSZ.out (btw_start ks) ?_ wr HG1.out HE1.out).mono ?_
      · have := fails_doc (doc ks) (by have := HSZ.out; omega) ks 0 0 (at_self _) (by omega) (by rw [HKL.out]; omega)
        rw [HLIM.out]
        simpa using this
      rintro r w2 ⟨v, rfl, hb2, hF2⟩
      obtain ⟨w3, hw3⟩ : ∃ w3, w3 = w2.alloc (.cells zeroV 33) := ⟨_, rfl⟩
      have hb3' : Below w2.heap.size w2 w3 := by rw [hw3]; exact (Below.refl _ _).alloc (Nat.le_refl _) _
      have hB3 : Blk w3 w2.heap.size zeroV 33 := by rw [hw3]; exact Blk.new _ _ _
      have hb3 := hb2.trans (hb3'.mono hb2.size)
      have HF3 := Lib.hid (hF2.step hb3')
      have HS3 : Hid (21 < w3.heap.size) := Lib.hid (Nat.lt_of_lt_of_le HG1.out.size hb3.size)
      have HE3 := Lib.hid (HE1.out.step hb3 HG1.out.size)
      have HB3 := Lib.hid (HB1.out.trans (hb3.mono HB1.out.size))
      have HBL3 := Lib.hid hB3
      have HW3 := Lib.hid hw3
      clear hb2 hF2 hb3 hb3' hB3 hw3
      unfold zeroV
      go_upto_region 25 with fail
      change Code.wp _ _ _ _ (w2.alloc (.cells zeroV 33))
      rw [← HW3.out]
      go_wp2_with fail
      refine (isAt_fault e w3 HE3.out HS3.out 5 lim (.inr rfl) v HF3.out).mono ?_
      rintro r w4 ⟨rfl, hb4⟩
      have hB4 := HBL3.out.below hb4 HBL3.out.lt
      have c0 : w4.cell? ⟨w2.heap.size, 0, none⟩ = some (.int .i8 0) := hB4.cell 0
      have c1 : w4.cell? ⟨w2.heap.size, 1, none⟩ = some (.int .u64 0) := hB4.cell 1
      have c2 : w4.cell? ⟨w2.heap.size, 2, none⟩ = some (.bool false) := hB4.cell 2
      have c3 : w4.cell? ⟨w2.heap.size, 3, none⟩ = some (.slice none 0 0) := hB4.cell 3
      have c4 : w4.cell? ⟨w2.heap.size, 4, none⟩ = some (.int .u64 0) := hB4.cell 4
      have c5 : w4.cell? ⟨w2.heap.size, 5, none⟩ = some (.int .i8 0) := hB4.cell 5
      have c6 : w4.cell? ⟨w2.heap.size, 6, none⟩ = some (.string ⟨#[]⟩) := hB4.cell 6
      have c7 : w4.cell? ⟨w2.heap.size, 7, none⟩ = some (.slice none 0 0) := hB4.cell 7
      have HB4 := Lib.hid (HB3.out.trans (hb4.mono HB3.out.size))
      clear hb4 hB4
      go_wp2_with fail
      refine (sameValue_zero w4).mono ?_
      rintro r w5 ⟨rfl, hb5⟩
      have HB5 := Lib.hid (HB4.out.trans (hb5.mono HB4.out.size))
      clear hb5
      go_wp2
      go_ret
      exact ⟨rfl, HB5.out⟩
end Go.Proofs.YtbhfoelnoddlkaaGreatDoor.D

/-
  For every row of bytes, however long, the law DiagDeep answers true; the row reads as it did. The package-level variables hold what their initialisers lay (the card ties them to the program's text); nothing else is asked.
-/
namespace Go.Proofs.YtbhfoelnoddlkaaGreatDoor.D
open Go Go.RowKit Go.ChangeShapes Go.WideShapes Go.ChangeAt Limb

theorem own : ownKnob Tryz.prog.godebug = none := by kernel_rfl
theorem g21 : Tryz.prog.globals.size = 22 := by kernel_rfl

section
variable {H : Type} {enc : TypeId × Value → H} {w : World} {held : Bool}
theorem byte_nat {n : Int} (h : (Lit.int .u8 n).wf = true) : 0 ≤ n ∧ n ≤ 255 := bounds_u8 h
/-- The law's argument, as the walk takes it. -/
theorem row_of {fuel : Nat} {v : Value} {d : DataW H} {ps : List MemPlace} (h : DataW.trod enc Tryz.prog w 0 (fun _ => true) held fuel 22 [v] = some (d, ps)) :
    ∃ (base : Option Addr) (n cap : Nat) (kf : Nat → Nat), v = .slice base n cap ∧ n ≤ cap ∧ (∀ i, i < n → kf i < 256) ∧
      (0 < n → ∃ blk off, base = some ⟨blk, off, none⟩ ∧ blk < w.heap.size ∧ ∀ i, i < n → w.cell? ⟨blk, off + i, none⟩ = some (.int .u8 ((kf i : Nat) : Int))) := by
  rcases open_ints Tryz.underlying22 Tryz.underlying5 cells8 h with ⟨hc, -⟩ | ⟨a, len, cap, zs, hc, -, hl, -, hz, hx, hcell, hwf⟩
  · simp only [List.cons.injEq, and_true] at hc
    exact ⟨none, 0, 0, fun _ => 0, hc, Nat.le_refl _, fun i hi => by omega, fun h => by omega⟩
  · simp only [List.cons.injEq, and_true] at hc
    simp only [if_true] at hz
    have hat : ∀ i, i < len → 0 ≤ zs.getD i 0 ∧ zs.getD i 0 ≤ 255 := fun i hi => by
      rw [List.getD_eq_getElem?_getD, List.getElem?_eq_getElem (by omega)]
      exact bounds_u8 (hwf _ (List.getElem_mem _))
    refine ⟨some a, len, cap, fun i => (zs.getD i 0).toNat, hc, hl, fun i hi => ?_, fun h0 => ?_⟩
    · have := hat i hi
      show (zs.getD i 0).toNat < 256
      omega
    · obtain ⟨b, o, s⟩ := a
      have hc0 := hcell 0 (by omega)
      obtain rfl : s = none := by simpa [Addr.add] using World.cell?_spot hc0
      rw [Addr.add_mid] at hc0
      refine ⟨b, o, rfl, World.block_lt_of_cell? w ⟨b, o + 0, none⟩ hc0, fun i hi => ?_⟩
      have hci := hcell i (by omega)
      rw [Addr.add_mid] at hci
      rw [hci]
      congr 1
      show Value.int .u8 _ = Value.int .u8 _
      congr 1
      have := hat i hi
      show zs.getD i 0 = (((zs.getD i 0).toNat : Nat) : Int)
      omega

def TB (t : TypeId) : Prop := t = 22 ∨ t = 5
theorem kidsB : Kids Tryz.prog TB where
  pointer := by rintro t e (rfl | rfl) h <;> simp [Tryz.underlying22, Tryz.underlying5] at h
  slice := by
    rintro t e (rfl | rfl) h <;> simp [Tryz.underlying22, Tryz.underlying5] at h
    exact .inr h.symm
  array := by rintro t e n (rfl | rfl) h <;> simp [Tryz.underlying22, Tryz.underlying5] at h
  struct := by rintro t fs (rfl | rfl) h <;> simp [Tryz.underlying22, Tryz.underlying5] at h
  map := by rintro t k e (rfl | rfl) h <;> simp [Tryz.underlying22, Tryz.underlying5] at h
theorem sizeB : ∀ t e, TB t → Tryz.prog.underlying t = some (.slice e) → 0 < Tryz.prog.cellsOf e := by
  rintro t e (rfl | rfl) h <;> simp [Tryz.underlying22, Tryz.underlying5] at h
  subst h; rw [cells8]; omega
theorem trodAll_below {base : Nat} {sp : Nat → Bool} {w' : World} : ∀ {ts : List TypeId} {vs : List Value} {ds : List (DataW H)} {ps : List MemPlace}, DataW.TrodAll enc Tryz.prog w base sp held ts vs ds ps → (∀ p ∈ ps, w.sameAt w' p) → DataW.TrodAll enc Tryz.prog w' base sp held ts vs ds ps
  | [], [], [], _, h, _ => h
  | _ :: _, _ :: _, _ :: _, _, ⟨p, q, ⟨n, hn⟩, h2, e⟩, hs => ⟨p, q, ⟨n, DataW.trod_carry n _ _ _ hn (fun x hx => hs x (by rw [e]; exact List.mem_append_left _ hx))⟩, trodAll_below h2 (fun x hx => hs x (by rw [e]; exact List.mem_append_right _ hx)), e⟩
theorem args_again {ts : List TypeId} {vs : List Value} {ds : List (DataW H)} {ps : List MemPlace} {w' : World} (hT : ∀ t ∈ ts, TB t) (h : DataW.TrodAll enc Tryz.prog w 0 (fun _ => true) true ts vs ds ps) (hb : Below w.heap.size w w') :
    DataW.TrodAll enc Tryz.prog w' 0 (fun b => decide (b < w.heap.size)) true ts vs ds ps := by
  have hlt := DataW.TrodAll.lt h
  refine trodAll_below (DataW.TrodAll.respare kidsB sizeB hT h (fun p hp => by simpa using hlt p hp)) (fun p hp => ?_)
  have hl := hlt p hp
  cases p with
  | cell b o => exact hb.cell (p := ⟨b, o, none⟩) hl
  | map b => exact hb.block b hl
end

/-! ### A start that fits -/
def setTo (c : Array Value) : Obj → Obj
  | .cells _ t frozen => .cells c t frozen
  | o => o
abbrev plainL : List (String × DataW Unit) := laidL.filter fun x => x.2.handleName?.isNone
noncomputable def laidW0 (os : Os) : World :=
  { World.holding Tryz.prog os ⟨#[], #[], []⟩ with heap := (World.holding Tryz.prog os ⟨#[], #[], []⟩).heap.modify 11 (setTo #[.iface 202 (.agg #[.pointer (some ⟨22, 35, none⟩)])]) }
noncomputable def laidWorld (os : Os) : World := (laidW0 os).layVars Tryz.prog plainL
theorem laidWorld_os (os : Os) : (laidWorld os).os = os := by
  unfold laidWorld
  rw [World.layVars_os]
  rfl
theorem fits0 (os : Os) : (laidW0 os).layFits Tryz.prog plainL [] = true := by kernel_rfl
theorem ifaces0 (os : Os) : (laidW0 os).layIfaces Tryz.prog plainL (laidWorld os) = true := by kernel_rfl
theorem handle0 (os : Os) : (laidL.filter fun x => x.2.handleName?.isSome).all (handleAtB Tryz.prog (laidWorld os)) = true := by kernel_rfl
end Go.Proofs.YtbhfoelnoddlkaaGreatDoor.D

/-
  DiagDeep: the row, the card.
-/
namespace Go.Proofs.YtbhfoelnoddlkaaGreatDoor.D
open Go Go.RowKit Go.ChangeShapes Go.WideShapes Go.ChangeAt Limb

theorem plain_met (os : Os) : laidMet Tryz.prog plainL (laidWorld os) := by
  have e1 : (plainL.filter fun x => (plainL.map (·.1)).contains x.1) = plainL := List.filter_eq_self.2 fun x hx => List.contains_iff_mem.2 (List.mem_map.2 ⟨x, hx, rfl⟩)
  have e2 : (plainL.filter fun x => !(plainL.map (·.1)).contains x.1) = [] := List.filter_eq_nil_iff.2 fun x hx => by rw [List.contains_iff_mem.2 (List.mem_map.2 ⟨x, hx, rfl⟩)]; simp
  exact laidMet_layVars (w0 := laidW0 os) (plainL.map (·.1)) [] (by rw [e1]; rfl) (by rw [e1]; exact fits0 os) (by rw [e1]; exact ifaces0 os) (by rw [e2]; exact LaidIn.none)
theorem laid_met (os : Os) (args : Array Value) : laidMetH Tryz.prog laidL ((laidWorld os).forCall (fun _ _ => 0) ⟨#[], args, []⟩).memory :=
  (laidMetH_of_parts (plain_met os) (handle0 os)).of_heap (by simp [World.memory, World.forCall, Input.heap])

set_option maxRecDepth 100000 in
theorem contract (H : Type) (enc : TypeId × Value → H) (W : World) (base : Nat) (args : Array Value) (ds gs : List (DataW H)) (before : List MemPlace)
    (hval : ∀ (j : Nat) t v, Tryz.f3.params[j]? = some t → args[j]? = some v → Value.okWide Tryz.prog W .any base t v)
    (hW : DataW.Whole enc Tryz.prog Tryz.f3.params.toList Rows.diagDeepSpec.vars false W args.toList ds gs before)
    (hL : laidMetH Tryz.prog laidL W) (hS : 21 < W.heap.size) :
    Calls Tryz.prog 3 args W fun e W' => ∃ v, e = .returned v ∧ Rows.diagDeepSpec.post enc Tryz.prog Tryz.f3 false true false false W args v W' := by
  have hW' := hW
  obtain ⟨p, q, hA0, hV, rfl, hfz, hnd⟩ := hW
  have hA : DataW.TrodAll enc Tryz.prog W 0 (fun _ => true) true Tryz.f3.params.toList args.toList ds p := hA0
  rw [Tryz.params3] at hA hval
  obtain ⟨v0, vs0, d0, ds0, p0, q0, hargs, rfl, rfl, h0, r0⟩ := trodAll_cons hA
  obtain ⟨rfl, rfl, rfl⟩ := trodAll_nil r0
  obtain rfl : args = #[v0] := by cases args; simp_all
  obtain ⟨rfl, rfl⟩ := trodVars_none hV
  obtain ⟨f0, hf0⟩ := h0
  have hk0 : v0.cells.toList = [v0] := by
    obtain ⟨sx0, nx0, cx0, rfl⟩ := okWide_slice Tryz.underlying22 (hval 0 22 v0 rfl rfl)
    rfl
  rw [hk0] at hf0
  obtain ⟨sp, n, cap, kf, rfl, hn, hk, hc⟩ := row_of hf0
  obtain ⟨hG, e0, hE⟩ := glob_of hL hS
  refine (deep_loop W sp n cap kf hn hk hc e0 hG hE (lives_any e0 W hG hE)).mono fun e W' ⟨he, hb⟩ => ?_
  subst he
  refine ⟨_, rfl, _, _, _, [], _, [], hW', ?_, args_again ?_ hA0 hb, ?_, hb.frame _, fun h => by cases h⟩
  · exact trodAll_cons_mk (shut_bool Tryz.underlying4 _) trodAll_mk0
  · intro t ht
    rw [Tryz.params3] at ht
    have hm : t = 22 := by simpa using ht
    exact .inl hm
  · rfl

theorem reads (os : Os) {H : Type} (enc : TypeId × Value → H) : ∃ ds places, DataW.whole enc Tryz.prog ((laidWorld os).forCall (fun _ _ => 0) ⟨#[], #[.slice none 0 0], []⟩).memory Tryz.f3.params.toList Rows.diagDeepSpec.vars false ((#[Value.slice none 0 0] : Array Value)).toList 40 = some (ds, [], places) :=
  ⟨[.nil], [], by kernel_rfl⟩

theorem open_size {W : World} (h : W.ShapedOpen Tryz.checked.prog) : 21 < W.heap.size := by
  have h1 : (((begin Tryz.prog (fun _ _ => 0) default).world.heap[21]?).bind Obj.row?).isSome = true := by kernel_rfl
  obtain ⟨⟨zero, t⟩, h0⟩ := Option.isSome_iff_exists.1 h1
  obtain ⟨cs, hc, _⟩ := h.1 21 zero t (by show 21 < Tryz.prog.globals.size; rw [g21]; omega) h0
  exact (Array.getElem?_eq_some_iff.1 hc).1

theorem shaped0 (os : Os) : ((laidWorld os).forCall (fun _ _ => 0) ⟨#[], #[.slice none 0 0], []⟩).Shaped Tryz.prog :=
  World.shaped_of_ZipB (by kernel_rfl) (by kernel_rfl)
end Go.Proofs.YtbhfoelnoddlkaaGreatDoor.D

