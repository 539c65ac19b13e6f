/-
  A hash fed in pieces, and its clones: the walk of ShaCuts.
-/
import Derived.Test.YtdchgojnmfoffaaDoorS1
import Derived.Test.YtdchgojnmfoffaaDoorM1
import Derived.Deep.CutBlock
namespace Go.Proofs.YtdchgojnmfoffaaDoor.Sha
open Go Go.RowKit

/-- A slice of bytes that came in reads as l. -/
def Inp (w : World) (v : Value) (l : List UInt8) : Prop :=
  ∃ base cap, v = .slice base l.length cap ∧ l.length ≤ cap ∧ (0 < l.length → ∃ blk off, base = some ⟨blk, off, none⟩ ∧ blk < w.heap.size ∧ ∀ i, i < l.length → w.cell? ⟨blk, off + i, none⟩ = some (by8 (l.getD i 0)))
theorem Inp.src {w wr : World} {v : Value} {l : List UInt8} {p : Nat} (h : Inp w v l) (hb : Below w.heap.size w wr) (hp : w.heap.size ≤ p) : Src wr p v l := by
  obtain ⟨base, cap, hv, hc, hs⟩ := h
  refine ⟨base, cap, hv, hc, fun h0 => ?_⟩
  obtain ⟨blk, off, h1, h2, h3⟩ := hs h0
  exact ⟨blk, off, h1, by omega, by have := hb.size; omega, fun i hi => by rw [hb.cell (p := ⟨blk, off + i, none⟩) h2]; exact h3 i hi⟩
theorem Inp.conv {w wr : World} {v : Value} {l : List UInt8} (h : Inp w v l) (hb : Below w.heap.size w wr) : (convert 31 9 v).run Tryd.prog wr = .ok (.string (strL l)) wr := by
  obtain ⟨base, cap, rfl, hc, hs⟩ := h
  by_cases h0 : 0 < l.length
  · obtain ⟨blk, off, rfl, h2, h3⟩ := hs h0
    exact conv_bytes wr blk off l.length cap l rfl (fun i hi => by rw [hb.cell (p := ⟨blk, off + i, none⟩) h2]; exact h3 i hi)
  · obtain rfl : l = [] := List.eq_nil_of_length_eq_zero (by omega)
    cases base with
    | none => exact run_convert_bytes_nil (P := Tryd.prog) wr 31 5 Tryd.underlying31 Tryd.underlying5 0 cap 9 Tryd.underlying9
    | some a =>
      have hl : (loadCells a 0).run Tryd.prog wr = .ok (([] : List Int).map (Value.int .u8)).toArray wr := by
        have := run_loadCells_list (P := Tryd.prog) wr a (([] : List Int).map (Value.int .u8)) (fun j v hj => by simp at hj)
        simpa using this
      rw [List.length_nil, run_convert_bytes_string wr 31 9 5 _ 0 cap Tryd.underlying31 Tryd.underlying5 Tryd.underlying9, run_bytesToString wr _ 0 cap [] hl]
      rfl
theorem neq22 (a : List UInt8) (ha : a.length = 32) (w : World) : (binOp .neq 22 (.agg (bCells a)) (.agg (bCells a))).run Tryd.prog w = .ok (.bool false) w := by
  have h := run_eq22 9998 a a ha ha w
  simp only [binOp]
  simp [Op.equal, Op.maxDepth, h]
theorem eq22 (a : List UInt8) (ha : a.length = 32) (w : World) : (binOp .eql 22 (.agg (bCells a)) (.agg (bCells a))).run Tryd.prog w = .ok (.bool true) w := by
  rw [run_eql22 a a ha ha w, decide_eq_true rfl]
theorem str_app (a b : List UInt8) : strL a ++ strL b = strL (a ++ b) := by
  apply ByteArray.ext
  rw [ByteArray.data_append]
  simp [strL]

/-- The pieces. -/
def Cuts (w : World) (sp : Option Addr) (n : Nat) (L : List (List UInt8)) : Prop :=
  L.length = n ∧ (∀ l ∈ L, l.length ≤ 140737488355328) ∧ (0 < n → ∃ blk off, sp = some ⟨blk, off, none⟩ ∧ blk < w.heap.size ∧ ∀ i, i < n → ∃ v, w.cell? ⟨blk, off + i, none⟩ = some v ∧ Inp w v (L.getD i []))

set_option maxRecDepth 100000 in
set_option maxHeartbeats 4000000 in
theorem cuts_walk (w : World) (hG : Glob w) (sp : Option Addr) (n cap : Nat) (L : List (List UInt8)) (hL : Cuts w sp n L) (hn : n ≤ cap) (hcap : cap ≤ 9223372036854775807) (v1 : Value) (T : List UInt8) (hT : Inp w v1 T) (hTl : T.length ≤ 140737488355328) :
    Calls Tryd.prog 5 #[.slice sp n cap, v1] w fun e w' => e = .returned (.bool true) ∧ Below w.heap.size w w' := by
  have HT := Lib.hid hT
  have HL := Lib.hid hL
  clear hT hL
  go_enter Tryd.func5, Tryd.ntmps5
  go_wp2_with fail
  refine (lives_any w hG).mono ?_
  rintro e w1 ⟨rfl, hb1⟩
  have HB := Lib.hid hb1
  clear hb1
  go_wp2_with fail
  refine (new_any w1 (hG.below HB.out hG.size)).mono ?_
  rintro e w2 ⟨rfl, rfl⟩
  have hk := Blk.new w1 hs0.cells 40
  have hb := HB.out.alloc HB.out.size (.cells hs0.cells 40)
  have hpN := HB.out.size
  go_upto_block 0 with fail
  generalize w1.alloc (.cells hs0.cells 40) = w2 at hk hb ⊢
  generalize w1.heap.size = p at hk hpN ⊢
  clear HB
  go_cut [6] from 13 (fun s6 wx => ∃ (A : List UInt8) (x : HS), s6 = .string (strL A) ∧ A.length ≤ 140737505132544 ∧ Hid (Took x A) ∧ Blk wx p x.cells 40 ∧ Below w.heap.size w wx)
  case first =>
    go_wp2_with fail
    go_loopw [6, 7] (fun s6 i wr => ∃ (t : Nat) (A : List UInt8) (x : HS), t ≤ n ∧ i = .int .i64 t ∧ s6 = .string (strL A) ∧ A.length ≤ 140737505132544 ∧ Hid (Took x A) ∧ Blk wr p x.cells 40 ∧ Below w.heap.size w wr) (fun _ i _ => n - (intOf i).toNat)
    case atStart => exact ⟨0, [], hs0, by omega, rfl, rfl, by simp, took0, hk, hb⟩
    case round =>
    clear hk hb
    obtain ⟨t, A, x, ht, rfl, rfl, hA, HX, hk, hb⟩ := hrel
    obtain ⟨a, ha⟩ : ∃ a, a = A.length := ⟨_, rfl⟩
    have hsz : (strL A).size = a := by rw [strL_size, ha]
    rw [← ha] at hA
    have HA := Lib.hid ha
    clear ha
    by_cases h1 : t < n
    · by_cases h2 : a < 16777216
      · obtain ⟨hLn, hLb, hLc⟩ := HL.out
        obtain ⟨blk, off, rfl, hblk, hcells⟩ := hLc (by omega)
        obtain ⟨v, hv, hI⟩ := hcells t h1
        have hbl : (L.getD t []).length ≤ 140737488355328 := by
          rw [List.getD_eq_getElem?_getD, List.getElem?_eq_getElem (by omega)]
          exact hLb _ (List.getElem_mem _)
        generalize L.getD t [] = B at hI hbl
        have HI := Lib.hid hI
        have HV := Lib.hid hv
        clear hLn hLb hLc hcells hI hv
        have h3 : (t : Int) < (n : Int) := by omega
        have h4 : (a : Int) < 16777216 := by omega
        go_wp2_with fail
        refine (clone_any wr p x HX.out.b hk).mono ?_
        rintro e w3 ⟨rfl, rfl⟩
        have hq := Blk.new wr x.cells 40
        have hpl := hk.lt
        replace hk := hk.alloc (.cells x.cells 40)
        replace hb := hb.alloc hb.size (.cells x.cells 40)
        have hqz : (wr.alloc (.cells x.cells 40)).heap.size = wr.heap.size + 1 := by simp
        have hG1 := hG.size
        go_wp2_with fail
        generalize wr.alloc (.cells x.cells 40) = w3 at hk hq hb hqz ⊢
        generalize wr.heap.size = q at hq hpl hqz ⊢
        refine (write_any w3 (hG.below hb hG.size) q (by omega) x A T HX.out hq _ (HT.out.src hb (by omega)) (by rw [← HA.out]; omega)).mono ?_
        rintro e w4 ⟨rfl, y, hy, hq4, hO⟩
        have hk4 := hO.blk hk hk.lt (by omega)
        have hb4 := hb.trans (hO.below (B' := w.heap.size) (by have := hb.size; omega) (by omega))
        have hz4 := hO.size
        have HY := Lib.hid hy
        clear hk hq hb hO hy
        have hc4 : w4.cell? ⟨blk, off + t, none⟩ = some v := by rw [hb4.cell (p := ⟨blk, off + t, none⟩) hblk]; exact HV.out
        go_wp2_with fail
        refine (write_any w4 (hG.below hb4 hG.size) p (by omega) x A B HX.out hk4 _ (HI.out.src hb4 hpN) (by rw [← HA.out]; omega)).mono ?_
        rintro e w5 ⟨rfl, z, hz, hk5, hO⟩
        have hq5 := hO.blk hq4 hq4.lt (by omega)
        have hb5 := hb4.trans (hO.below (B' := w.heap.size) (by have := hb4.size; omega) hpN)
        have HZ := Lib.hid hz
        clear hk4 hq4 hb4 hO hz hc4 hz4
        have hc5 : w5.cell? ⟨blk, off + t, none⟩ = some v := by rw [hb5.cell (p := ⟨blk, off + t, none⟩) hblk]; exact HV.out
        have cv1 := HT.out.conv hb5
        have cv2 := HI.out.conv hb5
        have s1 : ¬ 9223372036854775807 < (strL A).size + (strL T).size := by rw [strL_size, strL_size, ← HA.out]; omega
        have s2 : ¬ 9223372036854775807 < (strL A).size + (strL B).size := by rw [strL_size, strL_size, ← HA.out]; omega
        have s3 : ¬ 9223372036854775807 < a + (strL T).size := by rw [strL_size]; omega
        have s4 : ¬ 9223372036854775807 < a + (strL B).size := by rw [strL_size]; omega
        have j1 := str_app A T
        have j2 := str_app A B
        have hm := hk5.cell 73
        rw [z.count HZ.out.b, HZ.out.m] at hm
        have HBT : Hid ((A ++ T).length ≤ 140737505132544) := by unfold Hid; rw [List.length_append, ← HA.out]; omega
        have HBB : Hid ((A ++ B).length ≤ 140737505132544) := by unfold Hid; rw [List.length_append, ← HA.out]; omega
        obtain ⟨U, hU⟩ : ∃ U, U = A ++ T := ⟨_, rfl⟩
        obtain ⟨V, hV⟩ : ∃ V, V = A ++ B := ⟨_, rfl⟩
        rw [← hU] at j1 HY HBT
        rw [← hV] at j2 HZ HBB hm
        obtain ⟨mu, hmu⟩ : ∃ m, m = U.length := ⟨_, rfl⟩
        obtain ⟨mv, hmv⟩ : ∃ m, m = V.length := ⟨_, rfl⟩
        rw [← hmv] at hm
        have z1 : (strL U).size = mu := by rw [strL_size, hmu]
        have z2 : (strL V).size = mv := by rw [strL_size, hmv]
        have HMU := Lib.hid hmu
        have HMV := Lib.hid hmv
        have n1 := neq22 (sum U) (len_sum _)
        have n2 := neq22 (sum V) (len_sum _)
        clear hU hV hmu hmv
        go_upto_region 15 with fail
        clear cv1 cv2 s1 s2 s3 s4 j1 j2 hc5
        go_wp2_with fail
        refine (len_at w5 p mv hm).mono ?_
        rintro e w6 ⟨rfl, rfl⟩
        clear hm
        go_wp2_with fail
        refine (hsum_any w6 (hG.below hb5 hG.size) p z V HZ.out hk5 (by have := HBB.out; omega)).mono ?_
        rintro e w7 ⟨rfl, hbl7⟩
        have hk7 := hk5.below hbl7 hk5.lt
        have hq7 := hq5.below hbl7 hq5.lt
        have hb7 := hb5.trans (hbl7.mono hb5.size)
        clear hk5 hq5 hb5 hbl7
        go_wp2_with fail
        refine (sum_any w7 (hG.below hb7 hG.size) (strL V) (by rw [z2, HMV.out]; have := HBB.out; omega)).mono ?_
        rw [strL_list]
        rintro e w8 ⟨rfl, hbl8⟩
        have hk8 := hk7.below hbl8 hk7.lt
        have hq8 := hq7.below hbl8 hq7.lt
        have hb8 := hb7.trans (hbl8.mono hb7.size)
        clear hk7 hq7 hb7 hbl8
        go_wp2_with fail
        refine (hsum_any w8 (hG.below hb8 hG.size) q y U HY.out hq8 (by have := HBT.out; omega)).mono ?_
        rintro e w9 ⟨rfl, hbl9⟩
        have hk9 := hk8.below hbl9 hk8.lt
        have hq9 := hq8.below hbl9 hq8.lt
        have hb9 := hb8.trans (hbl9.mono hb8.size)
        clear hk8 hq8 hb8 hbl9
        go_wp2_with fail
        refine (sum_any w9 (hG.below hb9 hG.size) (strL U) (by rw [z1, HMU.out]; have := HBT.out; omega)).mono ?_
        rw [strL_list]
        rintro e w10 ⟨rfl, hbl10⟩
        have hk10 := hk9.below hbl10 hk9.lt
        have hq10 := hq9.below hbl10 hq9.lt
        have hb10 := hb9.trans (hbl10.mono hb9.size)
        clear hk9 hq9 hb9 hbl10
        have hm2 := hq10.cell 73
        rw [y.count HY.out.b, HY.out.m, ← HMU.out] at hm2
        go_wp2_with fail
        refine (len_at w10 q mu hm2).mono ?_
        rintro e w11 ⟨rfl, rfl⟩
        clear hm2 hq10
        go_wp2
        go_roundw
        case rel => exact ⟨t + 1, V, z, by omega, by simp, rfl, HBB.out, HZ, hk10, hb10⟩
        case measure => simp [intOf]; omega
      · have h3 : (t : Int) < (n : Int) := by omega
        have h4 : ¬ (a : Int) < 16777216 := by omega
        go_wp2
        go_meet
        exact ⟨A, x, rfl, by rw [← HA.out]; exact hA, HX, hk, hb⟩
    · have h3 : ¬ (t : Int) < (n : Int) := by omega
      go_wp2
      go_meet
      exact ⟨A, x, rfl, by rw [← HA.out]; exact hA, HX, hk, hb⟩
  case rest =>
  clear hk hb
  obtain ⟨A, x, rfl, hA, HX, hk, hb⟩ := hcut
  have e1 := eq22 (sum A) (len_sum _)
  have z1 : Hid ((strL A).size ≤ 1125899906842624) := by unfold Hid; rw [strL_size]; omega
  go_wp2_with fail
  refine (hsum_any wc (hG.below hb hG.size) p x A HX.out hk (by omega)).mono ?_
  rintro e w7 ⟨rfl, hbl7⟩
  have hk7 := hk.below hbl7 hk.lt
  have hb7 := hb.trans (hbl7.mono hb.size)
  clear hk hb hbl7
  go_wp2_with fail
  refine (sum_any w7 (hG.below hb7 hG.size) (strL A) z1.out).mono ?_
  rw [strL_list]
  rintro e w8 ⟨rfl, hbl8⟩
  have hk8 := hk7.below hbl8 hk7.lt
  have hb8 := hb7.trans (hbl8.mono hb7.size)
  clear hk7 hb7 hbl8
  go_wp2_with fail
  refine (hsum_any w8 (hG.below hb8 hG.size) p x A HX.out hk8 (by omega)).mono ?_
  rintro e w9 ⟨rfl, hbl9⟩
  have hb9 := hb8.trans (hbl9.mono hb8.size)
  clear hk8 hb8 hbl9
  go_wp2_with fail
  refine (sum_any w9 (hG.below hb9 hG.size) (strL A) z1.out).mono ?_
  rw [strL_list]
  rintro e w10 ⟨rfl, hbl10⟩
  have hb10 := hb9.trans (hbl10.mono hb9.size)
  clear hb9 hbl10
  have HB10 := Lib.hid hb10
  clear hb10
  go_wp2
  go_ret
  exact ⟨rfl, HB10.out⟩
end Go.Proofs.YtdchgojnmfoffaaDoor.Sha
