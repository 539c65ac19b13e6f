/-
  Of the proof that the law DiagDeep answers true at every row of bytes: a part, without conditions of its own.
-/
import Derived.Test.YtbhfoelnoddlkaaGreatDoorPart35
import Derived.Test.YtbhfoelnoddlkaaGreatDoorPart32
import Derived.Test.YtbhfoelnoddlkaaGreatDoorPart12
import Derived.Test.YtbhfoelnoddlkaaGreatDoorPart30
import Derived.Test.YtbhfoelnoddlkaaGreatDoorPart19
set_option linter.unusedVariables false
set_option linter.unusedSimpArgs false
/-
  diag.Read of a text that is read whole: walked.
-/
namespace Go.Proofs.YtbhfoelnoddlkaaGreatDoor.D
open Go Go.RowKit Go.Extern.Stop Go.Stop Go.Extern Limb

set_option maxRecDepth 100000 in
theorem read_ok (S : List UInt8) (a b d : Nat) (f : F) (op : Bool) (hS : S.length ≤ 1048576) (hB : Btw S 0 a) (hR : Reads S a b 0 f d op) (hZ : Btw S b S.length) (w : World) (hG : GW w) :
    Calls Tryz.prog 5 #[.string (strL S)] w fun r w' => ∃ v, r = .returned (.tuple #[v, .nilIface]) ∧ Below w.heap.size w w' ∧ TreeP w' (fun k => w.heap.size ≤ k) f d v := by
  have hmf : ∀ (fn : Fn) (first cap : Array Value) (w : World), (Instr.makeFunc fn first cap).run Tryz.prog w = .ok (.func fn first cap) w := fun _ _ _ _ => rfl
  have hlen : ¬ (1048576 < ((strL S).size : Int)) := by rw [strL_size]; omega
  have hst := rdStart S w
  obtain ⟨w3, hw3⟩ : ∃ w3, w3 = ((w.alloc (.cells zeroV 33)).alloc (.cells #[.nilIface] 35)).alloc (.cells #[.string (strL S), .int .i64 0, .bool false] 50) := ⟨_, rfl⟩
  rw [← hw3] at hst
  have HW3 := Lib.hid hw3
  have HST := Lib.hid hst
  have HS40 : Hid (S.length ≤ 1099511627776) := Lib.hid (by omega)
  have HB := Lib.hid hB
  have HR := Lib.hid hR
  have HZ := Lib.hid hZ
  have HG := Lib.hid hG
  clear hw3 hst hS hB hR hZ hG
  go_enter_defers Tryz.func5, Tryz.ntmps5
  go_upto_region 5 with fail
  change Code.wp _ _ _ _ (((w.alloc (.cells zeroV 33)).alloc (.cells #[.nilIface] 35)).alloc (.cells #[.string (strL S), .int .i64 0, .bool false] 50))
  rw [← HW3.out]
  go_wp2_with fail
  refine (HB.out.call HS40.out w3 (w.heap.size + 2) false HST.out.r).mono ?_
  rintro r w4 ⟨rfl, hr4, hx4⟩
  have hv4 := hx4.blk HST.out.v (by have := HST.out.s3; omega) (by omega)
  have he4 := hx4.blk HST.out.e (by have := HST.out.s3; omega) (by omega)
  have hsz4 : w3.heap.size ≤ w4.heap.size := hx4.size
  have hb4 : Below w.heap.size w w4 := HST.out.b3.trans (hx4.below (by have := HST.out.s3; omega) (fun k hk => by omega))
  have hG4 := HG.out.step hb4
  have hRR := HR.out false w4 (w.heap.size + 2) hG4 (by have := HG.out.size; omega) hr4
  have HV4 := Lib.hid hv4
  have HE4 := Lib.hid he4
  have HB4 := Lib.hid hb4
  have HRR := Lib.hid hRR
  have HS4 : Hid (w.heap.size + 3 ≤ w4.heap.size) := Lib.hid (by have := HST.out.s3; omega)
  clear hr4 hx4 hv4 he4 hb4 hG4 hRR hsz4
  go_upto_region 6 with fail
  refine wp_region_lit ?_
  iterate 5 go_step
  refine HRR.out.mono ?_
  rintro r w5 ⟨⟨hr5, hx5⟩, v, rfl, hT5⟩
  obtain ⟨kind, nn, mb, mn, mc, bits, ext, text, kb, kn, kc, rfl⟩ := hT5.row
  have hb5 : Below w.heap.size w w5 := HB4.out.trans (hx5.below (by have := HS4.out; omega) (fun k hk => by omega))
  have hv5 := hx5.blk HV4.out (by have := HS4.out; omega) (by omega)
  have he5 := hx5.blk HE4.out (by have := HS4.out; omega) (by omega)
  obtain ⟨w6, hw6⟩ : ∃ w6, w6 = w5.setRow w.heap.size (vCells kind nn false (.slice mb mn mc) bits ext (strL text) (.slice kb kn kc)) := ⟨_, rfl⟩
  have hrow : ∀ k, k ≠ w.heap.size → w6.heap[k]? = w5.heap[k]? := fun k hk => by rw [hw6]; exact setRow_other _ _ _ _ hk
  have hv6 : Blk w6 w.heap.size (vCells kind nn false (.slice mb mn mc) bits ext (strL text) (.slice kb kn kc)) 33 := by rw [hw6]; exact setRow_heap _ _ _ _ _ _ hv5
  have he6 : Blk w6 (w.heap.size + 1) #[.nilIface] 35 := by unfold Blk at *; rw [hrow _ (by omega)]; exact he5
  have hr6 : Rd w6 (w.heap.size + 2) S b op := by unfold Rd Blk at *; rw [hrow _ (by omega)]; exact hr5
  have hb6 : Below w.heap.size w w6 := by rw [hw6]; exact below_setRow hb5 (Nat.le_refl _) _
  have hsz6 : w6.heap.size = w5.heap.size := by rw [hw6]; simp
  have hT6 : TreeP w6 (fun k => w4.heap.size ≤ k) f d (.agg (vCells kind nn false (.slice mb mn mc) bits ext (strL text) (.slice kb kn kc))) := TreeP.same (fun k hk _ => hrow k (by have := HS4.out; omega)) (fun k hk _ => hk) _ _ _ hT5
  have HV5 := Lib.hid hv5
  have HV6 := Lib.hid hv6
  have HE6 := Lib.hid he6
  have HB6 := Lib.hid hb6
  have HT6 := Lib.hid hT6
  have HS6 : Hid (w4.heap.size ≤ w6.heap.size) := Lib.hid (by rw [hsz6]; exact hx5.size)
  have HZC := Lib.hid (HZ.out.call HS40.out w6 (w.heap.size + 2) op hr6)
  have HW6 := Lib.hid hw6
  clear hv5 hv6 he5 he6 hr5 hr6 hb5 hb6 hT5 hT6 hsz6 hx5 hrow hw6
  dsimp only
  go_step
  refine wpList_store_row rfl 33 _ _ rfl w.heap.size (vCells kind nn false (.slice mb mn mc) bits ext (strL text) (.slice kb kn kc)) rfl rfl 33 _ HV5.out (by kernel_rfl) rfl (vCells_one _ _ _ _ _ _ _ _ rfl rfl) ?_
  rw [← HW6.out]
  go_wp2_with fail
  refine HZC.out.mono ?_
  rintro r w7 ⟨rfl, hr7, hx7⟩
  have hv7 := hx7.blk HV6.out HV6.out.lt (by omega)
  have he7 := hx7.blk HE6.out HE6.out.lt (by omega)
  have hb7 : Below w.heap.size w w7 := HB6.out.trans (hx7.below HB6.out.size (fun k hk => by omega))
  have hT7 : TreeP w7 (fun k => w4.heap.size ≤ k) f d (.agg (vCells kind nn false (.slice mb mn mc) bits ext (strL text) (.slice kb kn kc))) := TreeP.same (fun k hk hl => hx7.block k hl (by have := HS4.out; omega)) (fun k hk _ => hk) _ _ _ HT6.out
  have a1 := hr7.at1
  have hll : ¬ ((S.length : Int) < ((strL S).size : Int)) := by rw [strL_size]; omega
  have HV7 := Lib.hid hv7
  have HE7 := Lib.hid he7
  have HB7 := Lib.hid hb7
  have HT7 := Lib.hid hT7
  have HS7 : Hid (w4.heap.size ≤ w7.heap.size) := Lib.hid (Nat.le_trans HS6.out hx7.size)
  clear hv7 he7 hb7 hT7 hr7 hx7
  go_upto_region 10 with fail
  refine wp_region_lit ?_
  refine wpList_load_row rfl 33 _ rfl w.heap.size rfl 33 _ (0, 0) _ HV7.out Tryz.underlying33 rfl (by kernel_rfl) ?_
  refine wpList_store_row rfl 33 _ _ rfl w.heap.size (vCells kind nn false (.slice mb mn mc) bits ext (strL text) (.slice kb kn kc)) rfl rfl 33 _ HV7.out (by kernel_rfl) rfl (vCells_one _ _ _ _ _ _ _ _ rfl rfl) ?_
  obtain ⟨w8, hw8⟩ : ∃ w8, w8 = w7.setRow w.heap.size (vCells kind nn false (.slice mb mn mc) bits ext (strL text) (.slice kb kn kc)) := ⟨_, rfl⟩
  rw [← hw8]
  have hrow : ∀ k, k ≠ w.heap.size → w8.heap[k]? = w7.heap[k]? := fun k hk => by rw [hw8]; exact setRow_other _ _ _ _ hk
  have hv8 : Blk w8 w.heap.size (vCells kind nn false (.slice mb mn mc) bits ext (strL text) (.slice kb kn kc)) 33 := by rw [hw8]; exact setRow_heap _ _ _ _ _ _ HV7.out
  have he8 : Blk w8 (w.heap.size + 1) #[.nilIface] 35 := by have := HE7.out; unfold Blk at *; rw [hrow _ (by omega)]; exact this
  have hb8 : Below w.heap.size w w8 := by rw [hw8]; exact below_setRow HB7.out (Nat.le_refl _) _
  have hT8 : TreeP w8 (fun k => w4.heap.size ≤ k) f d (.agg (vCells kind nn false (.slice mb mn mc) bits ext (strL text) (.slice kb kn kc))) := TreeP.same (fun k hk _ => hrow k (by have := HS4.out; omega)) (fun k hk _ => hk) _ _ _ HT7.out
  have e0 := he8.cell 0
  have e1 := he8.free 0
  have hv9 := hv8.set_other ⟨w.heap.size + 1, 0, none⟩ .nilIface (by simp)
  have hb9 := hb8.setCell (p := ⟨w.heap.size + 1, 0, none⟩) (by simp) .nilIface
  have hT9 : TreeP (w8.setCell ⟨w.heap.size + 1, 0, none⟩ .nilIface) (fun k => w.heap.size ≤ k) f d (.agg (vCells kind nn false (.slice mb mn mc) bits ext (strL text) (.slice kb kn kc))) := TreeP.same (fun k hk _ => Below.heap_setCell _ _ _ _ (by have := HS4.out; simp; omega)) (fun k hk _ => by have := HS4.out; omega) _ _ _ hT8
  have c0 : (w8.setCell ⟨w.heap.size + 1, 0, none⟩ .nilIface).cell? ⟨w.heap.size, 0, none⟩ = some (.int .i8 kind) := hv9.cell 0
  have c1 : (w8.setCell ⟨w.heap.size + 1, 0, none⟩ .nilIface).cell? ⟨w.heap.size, 1, none⟩ = some (.int .u64 nn) := hv9.cell 1
  have c2 : (w8.setCell ⟨w.heap.size + 1, 0, none⟩ .nilIface).cell? ⟨w.heap.size, 2, none⟩ = some (.bool false) := hv9.cell 2
  have c3 : (w8.setCell ⟨w.heap.size + 1, 0, none⟩ .nilIface).cell? ⟨w.heap.size, 3, none⟩ = some (.slice mb mn mc) := hv9.cell 3
  have c4 : (w8.setCell ⟨w.heap.size + 1, 0, none⟩ .nilIface).cell? ⟨w.heap.size, 4, none⟩ = some (.int .u64 bits) := hv9.cell 4
  have c5 : (w8.setCell ⟨w.heap.size + 1, 0, none⟩ .nilIface).cell? ⟨w.heap.size, 5, none⟩ = some (.int .i8 ext) := hv9.cell 5
  have c6 : (w8.setCell ⟨w.heap.size + 1, 0, none⟩ .nilIface).cell? ⟨w.heap.size, 6, none⟩ = some (.string (strL text)) := hv9.cell 6
  have c7 : (w8.setCell ⟨w.heap.size + 1, 0, none⟩ .nilIface).cell? ⟨w.heap.size, 7, none⟩ = some (.slice kb kn kc) := hv9.cell 7
  have d0 : (w8.setCell ⟨w.heap.size + 1, 0, none⟩ .nilIface).cell? ⟨w.heap.size + 1, 0, none⟩ = some .nilIface := (he8.set 0 .nilIface).cell 0
  have HB9 := Lib.hid hb9
  have HT9 := Lib.hid hT9
  clear hrow hv8 he8 hb8 hT8 hv9 hb9 hT9 hw8
  go_wp2
  refine leaves_cons (f := 11) (args := #[.pointer (some ⟨w.heap.size, 0, none⟩), .pointer (some ⟨w.heap.size + 1, 0, none⟩)]) (by simp) (by simp [go_sem]) ?_
  refine (catch_idle w.heap.size (w.heap.size + 1) _).mono ?_
  rintro r u w9 ⟨rfl, rfl, rfl⟩
  simp [Leaves, settle, results, Tryz.results5, go_sem, c0, c1, c2, c3, c4, c5, c6, c7, d0]
  exact ⟨HB9.out, HT9.out⟩
end Go.Proofs.YtbhfoelnoddlkaaGreatDoor.D

/-
  diag.Show of a value in memory: walked.
-/
namespace Go.Proofs.YtbhfoelnoddlkaaGreatDoor.D
open Go Go.RowKit Limb

set_option maxRecDepth 100000 in
theorem show_any (w : World) (hG : GW w) (f : F) (d : Nat) (v : Value) (hT : Tree w w.heap.size f d v) (hd : d ≤ 128) (h0 : f.txt ≠ []) (hl : f.txt.length ≤ 1048576) :
    Calls Tryz.prog 9 #[v] w fun r w' => r = .returned (.tuple #[.string (strL f.txt), .nilIface]) ∧ Below w.heap.size w w' := by
  obtain ⟨kind, nn, mb, mn, mc, bits, ext, text, kb, kn, kc, rfl⟩ := hT.cells
  obtain ⟨cs, hcs⟩ : ∃ cs, cs = (vCells kind nn false (.slice mb mn mc) bits ext (strL text) (.slice kb kn kc)) := ⟨_, rfl⟩
  obtain ⟨w1, hw1⟩ : ∃ w1, w1 = w.alloc (.cells (vCells kind nn false (.slice mb mn mc) bits ext (strL text) (.slice kb kn kc)) 33) := ⟨_, rfl⟩
  have hb1 : Below w.heap.size w w1 := by rw [hw1]; exact (Below.refl _ _).alloc (Nat.le_refl _) _
  have hB1 : Blk w1 w.heap.size (vCells kind nn false (.slice mb mn mc) bits ext (strL text) (.slice kb kn kc)) 33 := by rw [hw1]; exact Blk.new _ _ _
  have hG1 := hG.step hb1
  have hT1 := Tree.below hb1 _ _ _ hT
  have HCK := Lib.hid (check_any w1 hG1.s hG1.c w.heap.size f d _ hb1.size hT1 hd)
  have HB1 := Lib.hid hb1
  have HBL1 := Lib.hid hB1
  have HG1 := Lib.hid hG1
  have HT1 := Lib.hid hT1
  have HW1 := Lib.hid hw1
  have HLG := Lib.hid hl
  have H0 := Lib.hid h0
  clear hcs cs hb1 hB1 hG1 hT1 hw1 hG hT hd hl h0
  unfold vCells
  go_enter Tryz.func9, Tryz.ntmps9
  go_upto_region 1 with fail
  change Code.wp _ _ _ _ (w.alloc (.cells (vCells kind nn false (.slice mb mn mc) bits ext (strL text) (.slice kb kn kc)) 33))
  rw [← HW1.out]
  refine wp_region_lit ?_
  refine wpList_load_row rfl 33 _ rfl w.heap.size rfl 33 _ (0, 0) _ HBL1.out Tryz.underlying33 rfl (by kernel_rfl) ?_
  go_wp2_with fail
  refine HCK.out.mono ?_
  rintro r w2 ⟨rfl, hb2⟩
  obtain ⟨w3, hw3⟩ : ∃ w3, w3 = w2.alloc (.cells #[.pointer none, .slice none 0 0, .int .i64 1048576] 67) := ⟨_, rfl⟩
  have hb3 : Below w2.heap.size w2 w3 := by rw [hw3]; exact (Below.refl _ _).alloc (Nat.le_refl _) _
  have hW3 : Wr w2.heap.size w2.heap.size 1048576 [] w3 := by rw [hw3]; exact .inl ⟨Nat.le_refl _, _, Blk.new _ _ _, World.ownsRow_nil _ _ _ _, by simp [Value.ownBlock]⟩
  have hb23 := hb2.trans (hb3.mono hb2.size)
  have hT3 := Tree.below (hb23.mono HB1.out.size) _ _ _ HT1.out
  have hG3 := HG1.out.step hb23
  have hsz2 := hb2.size
  have hlt := HBL1.out.lt
  have hgs := HG1.out.size
  have HV := Lib.hid (wvalue_any 1048576 f d _ w3 w2.heap.size w2.heap.size w.heap.size [] (by omega) hb3.size (by omega) hG3 hT3 hW3 (by have := HLG.out; simp; omega) (by have := HLG.out; simp; omega))
  have HBL3 := Lib.hid (HBL1.out.below hb23 HBL1.out.lt)
  have HB3 := Lib.hid (HB1.out.trans (hb23.mono HB1.out.size))
  have HW3 := Lib.hid hw3
  have HS := Lib.hid (show w.heap.size ≤ w2.heap.size by have := HB1.out.size; omega)
  clear hb2 hb3 hW3 hb23 hT3 hG3 hsz2 hlt hgs hw3
  go_upto_region 5 with fail
  change Code.wp _ _ _ _ (w2.alloc (.cells #[.pointer none, .slice none 0 0, .int .i64 1048576] 67))
  rw [← HW3.out]
  refine wp_region_lit ?_
  iterate 3 go_step
  refine wpList_load_row rfl 33 _ rfl w.heap.size rfl 33 _ (0, 0) _ HBL3.out Tryz.underlying33 rfl (by kernel_rfl) ?_
  go_wp2_with fail
  refine HV.out.mono ?_
  rintro r w4 ⟨rfl, hW4, hK4⟩
  rw [List.nil_append] at hW4
  have HBH := Lib.hid (BIs.has hW4 H0.out)
  have HLEN := Lib.hid (blen_any _ _ _ _ hW4)
  have HB4 := Lib.hid (HB3.out.trans (hK4.1.mono HS.out))
  have hlen : ¬ ((f.txt.length : Int) > 1048576) := by have := HLG.out; omega
  clear hW4 hK4
  go_wp2_with fail
  refine HLEN.out.mono ?_
  rintro r w5 ⟨rfl, rfl⟩
  go_wp2_with fail
  refine (bstr_any _ _ _ _ HBH.out).mono ?_
  rintro r w6 ⟨rfl, _, hb6⟩
  have HB6 := Lib.hid (HB4.out.trans (hb6.mono HS.out))
  clear hb6
  go_wp2
  exact bodyPost_ret (v := .tuple #[.string (strL f.txt), .nilIface]) (by simp [results, Tryz.results9, go_sem]) rfl ⟨rfl, HB6.out⟩
end Go.Proofs.YtbhfoelnoddlkaaGreatDoor.D

/-
  The reader: the word null: walked.
-/
namespace Go.Proofs.YtbhfoelnoddlkaaGreatDoor.D
open Go Go.RowKit Limb
attribute [local go_sem high] run_str strL_size run_sub run_sub_from run_sub_to

set_option maxRecDepth 100000 in
theorem name_null (S : List UInt8) (a : Nat) (op : Bool) (ha : a + 4 ≤ S.length) (hS : S.length ≤ 1099511627776) (hw : sub S a (a + 4) = [110, 117, 108, 108]) :
    RdsF 38 [] S a (a + 4) (.node [110, 117, 108, 108] 0 (fun _ => .stop)) 0 op op := by
  intro w p hG hp hr
  show Calls _ _ #[_] _ _
  go_enter Tryz.func38, Tryz.ntmps38
  go_upto_region 2 with fail
  refine wp_loop_rounds 1 ?_
  rw [rounds_succ]
  go_wp2_with fail
  generalize hw3 : World.alloc (World.alloc (World.alloc w _) _) _ = w3
  have s1 : ∀ o, (w.alloc o).heap.size = w.heap.size + 1 := fun o => by simp
  have s2 : ∀ o o', ((w.alloc o).alloc o').heap.size = w.heap.size + 2 := fun o o' => by simp
  have hb3 : Below w.heap.size w w3 := by rw [← hw3]; exact (((Below.refl _ _).alloc (Nat.le_refl _) _).alloc (by rw [s1]; omega) _).alloc (by rw [s2]; omega) _
  have hX3 : Blk w3 w.heap.size zeroV 33 := by rw [← hw3]; exact ((Blk.new _ _ _).alloc _).alloc _
  have hN3 : Blk w3 (w.heap.size + 2) #[.string ⟨#[110, 117, 108, 108]⟩, .int .i8 1, .int .u64 0, .bool false, .slice none 0 0, .int .u64 0, .int .i8 0, .string ⟨#[]⟩, .slice none 0 0] 124 := by
    rw [← hw3]
    have := Blk.new ((w.alloc (.cells zeroV 33)).alloc (.cells #[.string ⟨#[110, 117, 108, 108]⟩, .int .i8 1, .int .u64 0, .bool false, .slice none 0 0, .int .u64 0, .int .i8 0, .string ⟨#[]⟩, .slice none 0 0, .string ⟨#[102, 97, 108, 115, 101]⟩, .int .i8 2, .int .u64 0, .bool false, .slice none 0 0, .int .u64 0, .int .i8 0, .string ⟨#[]⟩, .slice none 0 0, .string ⟨#[116, 114, 117, 101]⟩, .int .i8 2, .int .u64 1, .bool false, .slice none 0 0, .int .u64 0, .int .i8 0, .string ⟨#[]⟩, .slice none 0 0, .string ⟨#[117, 110, 100, 101, 102, 105, 110, 101, 100]⟩, .int .i8 10, .int .u64 23, .bool false, .slice none 0 0, .int .u64 0, .int .i8 0, .string ⟨#[]⟩, .slice none 0 0, .string ⟨#[73, 110, 102, 105, 110, 105, 116, 121]⟩, .int .i8 4, .int .u64 0, .bool false, .slice none 0 0, .int .u64 9218868437227405312, .int .i8 0, .string ⟨#[]⟩, .slice none 0 0, .string ⟨#[78, 97, 78]⟩, .int .i8 4, .int .u64 0, .bool false, .slice none 0 0, .int .u64 9221120237041090560, .int .i8 0, .string ⟨#[]⟩, .slice none 0 0] 124)) #[.string ⟨#[110, 117, 108, 108]⟩, .int .i8 1, .int .u64 0, .bool false, .slice none 0 0, .int .u64 0, .int .i8 0, .string ⟨#[]⟩, .slice none 0 0] 124
    rw [s2] at this
    exact this
  have hpw : p < w.heap.size := Blk.lt hr
  have hr3 : Rd w3 p S a op := Blk.below hr hb3 hpw
  clear hw3 s1 s2
  have hx : (⟨#[110, 117, 108, 108]⟩ : ByteArray).extract 0 1 = strL [110] := strL_extract [110, 117, 108, 108] 0 1
  have hg : ∀ i, i < 4 → S.getD (a + i) 0 = ([110, 117, 108, 108] : List UInt8).getD i 0 := fun i hi => by rw [← hw, sub_at S a (a + 4) i (by omega)]
  rw [hx]
  refine (see_yes w3 p S a op hr3 [110] (by omega) (by have h0 : S.getD a 0 = 110 := hg 0 (by decide); rw [h0]; exact List.mem_singleton.2 rfl)).mono ?_
  rintro r w4 ⟨rfl, n4, rfl⟩
  have hr4 := hr3.drewN n4
  have hX4 := hX3.drewN n4
  have hN4 := hN3.drewN n4
  have hb4 := below_drewN hb3 n4
  have hs4 : w.heap.size + 3 ≤ (w3.drewN n4).heap.size := hN4.lt
  clear hr3 hX3 hN3 hb3 hx
  generalize w3.drewN n4 = w4 at hr4 hX4 hN4 hb4 hs4 ⊢
  have c0 : w4.cell? ⟨w.heap.size + 2, 0, none⟩ = some (.string ⟨#[110, 117, 108, 108]⟩) := hN4.cell 0
  have HG := Lib.hid hg
  have HX4 := Lib.hid hX4
  have HN4 := Lib.hid hN4
  have HB4 := Lib.hid hb4
  have HR4 := Lib.hid hr4
  have HS4 := Lib.hid hs4
  have HP := Lib.hid hpw
  clear hg hX4 hN4 hb4 hr4 hs4 hpw hG hr
  go_wp2_with fail
  refine (word_ok w4 p S a op HR4.out [110, 117, 108, 108] ha hS HG.out).mono ?_
  rintro r w5 ⟨rfl, hr5, hx5⟩
  have hX5 := hx5.blk HX4.out HX4.out.lt (by have := HP.out; omega)
  have hN5 := hx5.blk HN4.out HN4.out.lt (by have := HP.out; omega)
  have hP5 : w5.rangeAt (w.heap.size + 2) 1 (vCells 1 0 false (.slice none 0 0) 0 0 (strL []) (.slice none 0 0)).toList := fun j v hj => by
    have hjl : j < 8 := by
      rcases Nat.lt_or_ge j 8 with h | h
      · exact h
      · rw [List.getElem?_eq_none (by simpa [vCells] using h)] at hj; cases hj
    have := hN5.cell (1 + j)
    rw [this, ← hj]
    rcases (by omega : j = 0 ∨ j = 1 ∨ j = 2 ∨ j = 3 ∨ j = 4 ∨ j = 5 ∨ j = 6 ∨ j = 7) with rfl | rfl | rfl | rfl | rfl | rfl | rfl | rfl <;> rfl
  have he5 : Ex (fun k => k = p) w.heap.size w w5 := (Ex.of_below HB4.out).trans (hx5.mono (by have := HS4.out; omega) (fun _ h => h))
  have HX5 := Lib.hid hX5
  have HP5 := Lib.hid hP5
  have HE5 := Lib.hid he5
  have HR5 := Lib.hid hr5
  clear hX5 hN5 hP5 he5 hr5 hx5
  go_upto_region 6 with fail
  refine wp_region_lit ?_
  iterate 3 go_step
  refine wpList_load_mid rfl 33 (.tmp 32) rfl (w.heap.size + 2) 1 rfl _ _ HP5.out Tryz.underlying33 rfl (by kernel_rfl) ?_
  refine wpList_store_row rfl 33 _ _ rfl w.heap.size (vCells 1 0 false (.slice none 0 0) 0 0 (strL []) (.slice none 0 0)) rfl rfl 33 _ HX5.out (by kernel_rfl) rfl (vCells_one _ _ _ _ _ _ _ _ rfl rfl) ?_
  obtain ⟨w6, hw6⟩ : ∃ w6, w6 = w5.setRow w.heap.size (vCells 1 0 false (.slice none 0 0) 0 0 (strL []) (.slice none 0 0)) := ⟨_, rfl⟩
  rw [← hw6]
  have hX6 : Blk w6 w.heap.size (vCells 1 0 false (.slice none 0 0) 0 0 (strL []) (.slice none 0 0)) 33 := by rw [hw6]; exact setRow_heap _ _ _ _ _ _ HX5.out
  have hrow : ∀ k, k ≠ w.heap.size → w6.heap[k]? = w5.heap[k]? := fun k hk => by rw [hw6]; exact setRow_other _ _ _ _ hk
  have hr6 : Rd w6 p S (a + 4) op := by have := HR5.out; have hp := HP.out; unfold Rd Blk at *; rw [hrow _ (by omega)]; exact this
  have he6 : Ex (fun k => k = p) w.heap.size w w6 := HE5.out.trans ⟨by rw [hw6]; rfl, by rw [hw6]; rfl, by rw [hw6]; rfl, by rw [hw6]; simp, fun k hk _ => hrow k (by omega)⟩
  have HX6 := Lib.hid hX6
  have HR6 := Lib.hid hr6
  have HE6 := Lib.hid he6
  clear hX6 hrow hr6 he6 hw6
  go_wp2
  refine bodyPost_ret (v := .agg (vCells 1 0 false (.slice none 0 0) 0 0 (strL []) (.slice none 0 0))) (results_cell_row rfl _ _ w.heap.size 33 _ (0, 0) _ rfl HX6.out Tryz.underlying33 rfl (by kernel_rfl)) rfl ⟨⟨HR6.out, HE6.out⟩, _, rfl, ?_⟩
  exact ⟨1, 0, _, 0, 0, [], _, 0, rfl, ⟨⟨rfl, .inl ⟨rfl, rfl, rfl, rfl, rfl, rfl⟩⟩, fun b o k c e => by simp at e⟩, ⟨fun _ => rfl, fun e => by omega, fun e => by omega, fun e => by omega, fun e => by omega, fun e => by omega, fun e => by omega⟩, .inl ⟨rfl, rfl, rfl⟩⟩
end Go.Proofs.YtbhfoelnoddlkaaGreatDoor.D

/-
  The reader: bytes h'00FF': walked.
-/
namespace Go.Proofs.YtbhfoelnoddlkaaGreatDoor.D
open Go Go.RowKit Limb
attribute [local go_sem high] run_str strL_size run_sub run_sub_from run_sub_to

theorem own_row {B : Nat} {w : World} {v : Value} {L : List UInt8} (h : Own B w v L) (h0 : L ≠ []) : ∃ g cap, v = .slice (some ⟨g, 0, none⟩) L.length cap ∧ ∀ i, i < L.length → w.cell? ⟨g, 0 + i, none⟩ = some (.int .u8 ((L.getD i 0).toNat : Int)) := by
  have hl0 : L.length ≠ 0 := by simpa using h0
  rcases h.2 with ⟨_, hz⟩ | ⟨g, cap, cur, hv, hBg, hg, hcap, hm, hcs, htake⟩
  · exact absurd hz hl0
  · refine ⟨g, cap, hv, fun i hi => ?_⟩
    have h9 : (cur.toList.take (L.length * 1))[i]? = (Lib.byteCells L)[i]? := by rw [htake]
    rw [List.getElem?_take, if_pos (by omega), Array.getElem?_toList] at h9
    rw [Nat.zero_add, Lib.cell_of_heap hg, h9]
    simp [Lib.byteCells, hi]

theorem lower_00FF (w : World) : Calls Tryz.prog 72 #[.string (strL [48, 48, 70, 70])] w fun e w' => e = .returned (.string ⟨#[48, 48, 102, 102]⟩) ∧ Below w.heap.size w w' := by
  have h := Tryz.strings_ToLower_ascii (strL [48, 48, 70, 70]) w (by decide) (by
    intro j b hj
    have : b ∈ ([48, 48, 70, 70] : List UInt8) := List.mem_of_getElem? (by simpa [strL] using hj)
    have h2 : ∀ b ∈ ([48, 48, 70, 70] : List UInt8), b.toNat < 128 := by decide
    exact h2 b this)
  exact h

def hexBS : List UInt8 := [48, 49, 50, 51, 52, 53, 54, 55, 56, 57, 97, 98, 99, 100, 101, 102, 65, 66, 67, 68, 69, 70]

set_option maxRecDepth 100000 in
theorem bytes_00FF (S : List UInt8) (a : Nat) (op : Bool) (ha : a + 7 ≤ S.length) (hS : S.length ≤ 1099511627776) (hw : sub S a (a + 7) = [104, 39, 48, 48, 70, 70, 39]) (w : World) (p : Nat) (hp : 21 < p) (hr : Rd w p S a op) :
    Calls Tryz.prog 35 #[.pointer (some ⟨p, 0, none⟩)] w fun e w' => e = .returned (.string (strL [0, 255])) ∧ Rs p S (a + 7) op w w' := by
  have hg : ∀ i, i < 7 → S.getD (a + i) 0 = ([104, 39, 48, 48, 70, 70, 39] : List UInt8).getD i 0 := fun i hi => by rw [← hw, sub_at S a (a + 7) i (by omega)]
  have hsub : sub S (a + 2) (a + 6) = [48, 48, 70, 70] := by
    have h : sub S (a + 2) (a + 6) = (((sub S a (a + 7)).drop 2).take 4) := by
      unfold sub
      rw [List.drop_take, List.drop_drop, List.take_take]
      congr 1 <;> omega
    rw [h, hw]; rfl
  have HG := Lib.hid hg
  have HSUB := Lib.hid hsub
  have hpw : p < w.heap.size := Blk.lt hr
  have HR := Lib.hid hr
  clear hg hsub hr hw
  go_enter Tryz.func35, Tryz.ntmps35
  go_wp2_with fail
  refine (word_ok w p S a op HR.out [104, 39] (by simp; omega) hS (fun i hi => by
    have hi : i < 2 := hi
    have := HG.out i (by omega)
    rw [this]
    rcases (by omega : i = 0 ∨ i = 1) with rfl | rfl <;> rfl)).mono ?_
  rintro r w1 ⟨rfl, hr1, hx1⟩
  have HR1 := Lib.hid hr1
  have HX1 := Lib.hid hx1
  clear hr1 hx1
  go_wp2_with fail
  refine (digits_any w1 p S (a + 2) (a + 6) op HR1.out hexBS (by omega) (by omega) hS (fun i h1 h2 => by
    have := HG.out (i - a) (by omega)
    rw [show a + (i - a) = i by omega] at this
    rw [this]
    rcases (by omega : i - a = 2 ∨ i - a = 3 ∨ i - a = 4 ∨ i - a = 5) with h | h | h | h <;> rw [h] <;> decide) (fun _ => by
    have h : S.getD (a + 6) 0 = 39 := HG.out 6 (by decide)
    rw [h]; decide) 0 (by omega)).mono ?_
  rintro r w2 ⟨rfl, hr2, hx2⟩
  rw [HSUB.out]
  have HR2 := Lib.hid hr2
  have HX2 := Lib.hid (HX1.out.trans (hx2.mono HX1.out.size (fun _ h => h)))
  clear hr2 hx2
  go_wp2_with fail
  refine (word_ok w2 p S (a + 6) op HR2.out [39] (by simp; omega) hS (fun i hi => by
    have hi : i < 1 := hi
    obtain rfl : i = 0 := by omega
    exact HG.out 6 (by decide))).mono ?_
  rintro r w3 ⟨rfl, hr3, hx3⟩
  have HR3 := Lib.hid hr3
  have HX3 := Lib.hid (HX2.out.trans (hx3.mono HX2.out.size (fun _ h => h)))
  clear hr3 hx3
  go_wp2_with fail
  refine (lower_00FF w3).mono ?_
  rintro r w4 ⟨rfl, hb4⟩
  have HR4 : Hid (Rd w4 p S (a + 7) op) := Lib.hid (Blk.below HR3.out hb4 (Blk.lt HR3.out))
  have HX4 := Lib.hid (HX3.out.trans (Ex.of_below (hb4.mono HX3.out.size)))
  clear hb4
  go_wp2_with fail
  refine (fromHex_00ff w4).mono ?_
  rintro r w5 ⟨v, rfl, hb5, ho5⟩
  have HR5 : Hid (Rd w5 p S (a + 7) op) := Lib.hid (Blk.below HR4.out hb5 (Blk.lt HR4.out))
  have HX5 := Lib.hid (HX4.out.trans (Ex.of_below (hb5.mono HX4.out.size)))
  obtain ⟨g, cap, rfl, hc⟩ := own_row ho5 (by simp)
  have hcv := conv_bytes w5 g 0 2 cap [0, 255] rfl hc
  clear hb5 ho5 hc
  go_wp2
  go_ret
  exact ⟨rfl, HR5.out, HX5.out⟩
end Go.Proofs.YtbhfoelnoddlkaaGreatDoor.D

/-
  The reader: value at h'00FF' (printed by wip/tools/genz6.py off S2).
-/
namespace Go.Proofs.YtbhfoelnoddlkaaGreatDoor.D
open Go Go.RowKit Limb

def fBytes : F := .node ([104, 39] ++ hexL [0, 255] ++ [39]) 0 (fun _ => .stop)
theorem leaf_bytes (w : World) (P : Nat → Prop) : TreeP w P fBytes 0 (.agg (vCells 6 0 false (.slice none 0 0) 0 0 (strL [0, 255]) (.slice none 0 0))) :=
  ⟨6, 0, _, 0, 0, [0, 255], _, 0, rfl, ⟨⟨rfl, .inr (.inr (.inr (.inl ⟨rfl, rfl, rfl, rfl, by decide, rfl⟩)))⟩, fun b o k c e => by simp at e⟩, ⟨fun e => by omega, fun e => by omega, fun e => by omega, fun _ => ⟨by decide, rfl⟩, fun e => by omega, fun e => by omega, fun e => by omega⟩, .inl ⟨rfl, rfl, rfl⟩⟩

set_option maxRecDepth 100000 in
set_option maxHeartbeats 1000000 in
theorem value_bytes (S : List UInt8) (a ar : Nat) (hl : a + 7 ≤ S.length) (hS : S.length ≤ 1099511627776) (hw : sub S a (a + 7) = [104, 39, 48, 48, 70, 70, 39]) : Reads S a (a + 7) ar fBytes 0 false := by
  have ha : a < S.length := by omega
  have hc : S.getD a 0 = (104 : UInt8) := by
    have := sub_at S a (a + 7) 0 (by omega)
    rw [hw] at this
    exact this.symm
  have hn1 : (104 : UInt8) ∉ ([91] : List UInt8) := by decide
  have hn2 : (104 : UInt8) ∉ ([123] : List UInt8) := by decide
  have hn3 : (104 : UInt8) ∉ ([34] : List UInt8) := by decide
  have hn4 : (104 : UInt8) ∉ ([45, 48, 49, 50, 51, 52, 53, 54, 55, 56, 57] : List UInt8) := by decide
  have hL : True := trivial
  have HWW := Lib.hid hw
  clear hw
  intro op w p hG hp hr
  obtain ⟨w0, hw0⟩ : ∃ w0, w0 = w.alloc (.cells zeroV 33) := ⟨_, rfl⟩
  have hb : Below w.heap.size w w0 := by rw [hw0]; exact (Below.refl _ _).alloc (Nat.le_refl _) _
  have hX : Blk w0 w.heap.size zeroV 33 := by rw [hw0]; exact Blk.new _ _ _
  have hr0 : Rd w0 p S a op := Blk.below hr hb (Blk.lt hr)
  have hpX : w.heap.size ≠ p := by have := Blk.lt hr; omega
  have c2 := hr0.at2
  have f2 : w0.frozen? ⟨p, 2, none⟩ = false := Blk.free hr0 2
  obtain ⟨w1, hw1⟩ : ∃ w1, w1 = w0.setCell ⟨p, 2, none⟩ (.bool false) := ⟨_, rfl⟩
  have hr1 : Rd w1 p S a false := by rw [hw1]; exact hr0.set2 false
  have hX1 : Blk w1 w.heap.size zeroV 33 := by rw [hw1]; exact hX.set_other _ _ hpX
  have hE1 : Ex (fun k => k = p) w.heap.size w w1 := by rw [hw1]; exact (Ex.of_below (S := fun k => k = p) hb).setCell p 2 (.inl rfl) _
  have HG := Lib.hid hG
  have HW0 := Lib.hid hw0
  have HW1 := Lib.hid hw1
  have HR1 := Lib.hid hr1
  have HX1 := Lib.hid hX1
  have HE1 := Lib.hid hE1
  have HL := Lib.hid hL
  have hsz1 : w.heap.size < w1.heap.size := hX1.lt
  clear hG hw0 hw1 hr1 hX1 hE1 hb hX hr0 hr hL
  show Calls _ _ #[_, _] _ _
  go_enter Tryz.func13, Tryz.ntmps13
  go_upto_region 1 with fail
  change Code.wp _ _ _ _ (w.alloc (.cells zeroV 33))
  rw [← HW0.out]
  go_upto_region 2 with fail
  rw [← HW1.out]
  clear c2 f2
  have c1 := HR1.out.at1
  go_wp2_with fail
  clear c1
  refine (see_no w1 p S a false HR1.out [91] (fun _ => by rw [hc]; exact hn1)).mono ?_
  rintro e w2 ⟨rfl, n2, rfl⟩
  have HR2 := Lib.hid (HR1.out.drewN n2)
  have HX2 := Lib.hid (HX1.out.drewN n2)
  have HE2 := Lib.hid (HE1.out.drewN n2)
  have hsz2 : w.heap.size < (w1.drewN n2).heap.size := hsz1
  generalize w1.drewN n2 = w2 at HR2 HX2 HE2 hsz2 ⊢
  clear HR1 HX1 HE1 hsz1 HW0 HW1
  go_wp2_with fail
  refine (see_no w2 p S a false HR2.out [123] (fun _ => by rw [hc]; exact hn2)).mono ?_
  rintro e w3 ⟨rfl, n3, rfl⟩
  have HR3 := Lib.hid (HR2.out.drewN n3)
  have HX3 := Lib.hid (HX2.out.drewN n3)
  have HE3 := Lib.hid (HE2.out.drewN n3)
  have hsz3 : w.heap.size < (w2.drewN n3).heap.size := hsz2
  generalize w2.drewN n3 = w3 at HR3 HX3 HE3 hsz3 ⊢
  clear HR2 HX2 HE2 hsz2
  go_wp2_with fail
  refine (see_no w3 p S a false HR3.out [34] (fun _ => by rw [hc]; exact hn3)).mono ?_
  rintro e w4 ⟨rfl, n4, rfl⟩
  have HR4 := Lib.hid (HR3.out.drewN n4)
  have HX4 := Lib.hid (HX3.out.drewN n4)
  have HE4 := Lib.hid (HE3.out.drewN n4)
  have hsz4 : w.heap.size < (w3.drewN n4).heap.size := hsz3
  generalize w3.drewN n4 = w4 at HR4 HX4 HE4 hsz4 ⊢
  clear HR3 HX3 HE3 hsz3
  go_wp2_with fail
  refine (see_no w4 p S a false HR4.out [45, 48, 49, 50, 51, 52, 53, 54, 55, 56, 57] (fun _ => by rw [hc]; exact hn4)).mono ?_
  rintro e w5 ⟨rfl, n5, rfl⟩
  have HR5 := Lib.hid (HR4.out.drewN n5)
  have HX5 := Lib.hid (HX4.out.drewN n5)
  have HE5 := Lib.hid (HE4.out.drewN n5)
  have hsz5 : w.heap.size < (w4.drewN n5).heap.size := hsz4
  generalize w4.drewN n5 = w5 at HR5 HX5 HE5 hsz5 ⊢
  clear HR4 HX4 HE4 hsz4
  go_wp2_with fail
  refine (see_yes w5 p S a false HR5.out [104] ha (by rw [hc]; exact List.mem_singleton.2 rfl)).mono ?_
  rintro e w6 ⟨rfl, n6, rfl⟩
  have HR6 := Lib.hid (HR5.out.drewN n6)
  have HX6 := Lib.hid (HX5.out.drewN n6)
  have HE6 := Lib.hid (HE5.out.drewN n6)
  have hsz6 : w.heap.size < (w5.drewN n6).heap.size := hsz5
  generalize w5.drewN n6 = w6 at HR6 HX6 HE6 hsz6 ⊢
  clear HR5 HX5 HE5 hsz5
  have HQ := Lib.hid (bytes_00FF S a false hl hS HWW.out w6 p hp HR6.out)
  go_wp2_with fail
  refine HQ.out.mono ?_
  rintro e wz ⟨rfl, hr4⟩
  have hX4 := hr4.2.blk HX6.out hsz6 hpX
  have HE4 := Lib.hid (HE6.out.trans (hr4.2.mono (by omega) (fun _ h => h)))
  have hlt4 : w.heap.size < wz.heap.size := hX4.lt
  have HX4 := Lib.hid hX4
  have HR4 := Lib.hid hr4.1
  clear hr4 hX4 HQ HR6 HX6 HE6
  dsimp only
  iterate 4 go_step
  refine wpList_store_row rfl 33 _ _ rfl w.heap.size (vCells 6 0 false (.slice none 0 0) 0 0 (strL [0, 255]) (.slice none 0 0)) rfl rfl 33 _ HX4.out (by kernel_rfl) rfl (vCells_one _ _ _ _ _ _ _ _ rfl rfl) ?_
  have hfin : Blk (wz.setRow w.heap.size (vCells 6 0 false (.slice none 0 0) 0 0 (strL [0, 255]) (.slice none 0 0))) w.heap.size (vCells 6 0 false (.slice none 0 0) 0 0 (strL [0, 255]) (.slice none 0 0)) 33 := setRow_heap _ _ _ _ _ _ HX4.out
  have HFIN := Lib.hid hfin
  clear hfin
  go_wp2
  exact bodyPost_ret (v := .agg (vCells 6 0 false (.slice none 0 0) 0 0 (strL [0, 255]) (.slice none 0 0))) (results_cell_row rfl _ _ w.heap.size 33 _ (0, 0) _ rfl HFIN.out Tryz.underlying33 rfl (by kernel_rfl)) rfl ⟨Rs.setRow ⟨HR4.out, HE4.out⟩ (Nat.le_refl _) hpX _, _, rfl, leaf_bytes _ _⟩
end Go.Proofs.YtbhfoelnoddlkaaGreatDoor.D

