import Derived.Test.YtdchgojnmfoffaaDoorV1
namespace Go.Proofs.YtdchgojnmfoffaaDoor.Sha
open Go Go.RowKit

attribute [local go_sem] xor_b8

theorem same_go (w : World) (a b : List UInt8) (ha : a.length = 32) (hb : b.length = 32) :
    Calls Tryd.prog 20 #[.agg (List.map by8 a).toArray, .agg (List.map by8 b).toArray] w fun e w' => e = .returned (.bool (decide (a = b))) ∧ Below w.heap.size w w' := same_any w a b ha hb
theorem eql_go (a b : List UInt8) (ha : a.length = 32) (hb : b.length = 32) (w : World) :
    (binOp .eql 22 (.agg (List.map by8 a).toArray) (.agg (List.map by8 b).toArray)).run Tryd.prog w = .ok (.bool (decide (a = b))) w := run_eql22 a b ha hb w

theorem take_at {P : Program} {ops : Array Oper} {Q : Exit → Act → World → Prop} {md : Region.Mode} {S : World → Prop} {i : Nat} {oi : Oper} {d : Option Nat} {v : Value} {fuel : Nat} {listed : Array Bool} {a : Act} {w : World} (hd : oi.dst = d) (hi : ops[i]? = some oi)
    (hs : Region.noSelect ops = true) (hf : Region.free md ops listed i = true) (hr : (Region.ready md ops listed).contains i = true)
    (hQ : ∀ c a w, Q (.panic c) (a.put oi.dst v) w → Q (.panic c) a w) (hy : YieldsIf P ops S oi v a) (hS : S w)
    (h : wpAnyH P md ops Q S fuel (listed.setIfInBounds i true) (a.put d v) w) : wpAnyH P md ops Q S (fuel + 1) listed a w := by
  subst hd
  exact wpAnyH_take hi hs hf hr hQ hy hS h
theorem bit_of : ∀ k : Fin 8, (2 : Int) ^ min k.val 8 % 256 = b8 (UInt8.ofNat (2 ^ k.val)) ∧ UInt8.ofNat (2 ^ k.val) ≠ 0 := by decide +kernel
theorem set_ne (a : List UInt8) (i : Nat) (m : UInt8) (hi : i < a.length) (hm : m ≠ 0) : a ≠ a.set i (a.getD i 0 ^^^ m) := by
  intro h
  have h2 : (a.set i (a.getD i 0 ^^^ m))[i]? = some (a.getD i 0 ^^^ m) := List.getElem?_set_self hi
  rw [← h, List.getElem?_eq_getElem hi] at h2
  rw [List.getD_eq_getElem?_getD, List.getElem?_eq_getElem hi] at h2
  simp only [Option.getD_some, Option.some.injEq] at h2
  apply hm
  have h3 : a[i] ^^^ a[i] = a[i] ^^^ (a[i] ^^^ m) := congrArg (a[i] ^^^ ·) h2
  rw [← UInt8.xor_assoc, UInt8.xor_self, UInt8.zero_xor] at h3
  exact h3.symm

set_option maxRecDepth 100000 in
set_option maxHeartbeats 4000000 in
theorem sames_walk (w : World) (hG : Glob w) (a b : List UInt8) (c : UInt8) (ha : a.length = 32) (hb : b.length = 32) :
    Calls Tryd.prog 6 #[.agg (bCells a), .agg (bCells b), .int .u8 (c.toNat : Int)] w fun e w' => e = .returned (.bool true) ∧ Below w.heap.size w w' := by
  have HA := Lib.hid ha
  have HB := Lib.hid hb
  clear ha hb
  go_enter Tryd.func6, Tryd.ntmps6
  go_wp2_with fail
  have hk : Blk ((w.alloc (.cells (bCells a) 22)).alloc (.cells (bCells b) 22)) w.heap.size (bCells a) 22 := (Blk.new _ _ _).alloc _
  have hl : Blk ((w.alloc (.cells (bCells a) 22)).alloc (.cells (bCells b) 22)) (w.heap.size + 1) (bCells b) 22 := by
    have := Blk.new (w.alloc (.cells (bCells a) 22)) (bCells b) 22
    simpa using this
  have hw : Below w.heap.size w ((w.alloc (.cells (bCells a) 22)).alloc (.cells (bCells b) 22)) := ((Below.refl _ _).alloc (Nat.le_refl _) _).alloc (by simp) _
  change Calls Tryd.prog 16 _ ((w.alloc (.cells (bCells a) 22)).alloc (.cells (bCells b) 22)) _
  generalize (w.alloc (.cells (bCells a) 22)).alloc (.cells (bCells b) 22) = w1 at hk hl hw ⊢
  refine (lives_any w1 (hG.below hw hG.size)).mono ?_
  rintro e w2 ⟨rfl, hb2⟩
  replace hk := hk.below hb2 hk.lt
  replace hl := hl.below hb2 hl.lt
  replace hw := hw.trans (hb2.mono hw.size)
  clear hb2
  go_upto_region 3 with fail
  refine wp_region_lit ?_
  refine wpList_load_row rfl 22 _ rfl w.heap.size rfl 22 _ (0, 0) _ hk Tryd.underlying22 rfl (by rw [bCells_size, HA.out]; kernel_rfl) ?_
  iterate 3 go_step
  refine wpList_store_row rfl 22 _ _ rfl w2.heap.size (bCells a) rfl rfl 22 _ (Blk.new _ (bCells (List.replicate 32 0)) _) (by rw [bCells_size, HA.out]; kernel_rfl) (by rw [bCells_size, bCells_size, HA.out]; rfl) (bCells_one _) ?_
  rw [setRow_alloc_new]
  have hm := Blk.new w2 (bCells a) 22
  have hlt := hl.lt
  replace hk := hk.alloc (.cells (bCells a) 22)
  replace hl := hl.alloc (.cells (bCells a) 22)
  replace hw := hw.alloc hw.size (.cells (bCells a) 22)
  generalize w2.alloc (.cells (bCells a) 22) = w3 at hk hl hm hw ⊢
  generalize w2.heap.size = z at hm hlt ⊢
  have hcl := c.toNat_lt
  obtain ⟨i, hi⟩ : ∃ i, i = c.toNat % 32 := ⟨_, rfl⟩
  obtain ⟨k, hkk⟩ : ∃ k, k = c.toNat / 32 := ⟨_, rfl⟩
  have q1 : (c.toNat : Int).tmod 32 = (i : Int) := by rw [Int.tmod_eq_emod_of_nonneg (by omega), hi]; omega
  have q2 : (c.toNat : Int) % 32 = (i : Int) := by omega
  have q3 : IntKind.u8.wrap ((c.toNat : Int).tdiv 32) = (k : Int) := by rw [Int.tdiv_eq_ediv_of_nonneg (by omega), IntKind.wrap_u8]; omega
  have q4 : (c.toNat : Int) / 32 = (k : Int) := by omega
  have q5 : IntKind.u8.wrap (k : Int) = (k : Int) := by rw [IntKind.wrap_u8]; omega
  have q6 : (i : Int) < 32 := by omega
  have c1 : w3.cell? ⟨z, i, none⟩ = some (.int .u8 (b8 (a.getD i 0))) := by
    rw [hm.cell, bCells_at _ _ (by rw [HA.out]; omega)]; rfl
  have c2 : w3.frozen? ⟨z, i, none⟩ = false := hm.free _
  obtain ⟨x, hx⟩ : ∃ x, x = a.getD i 0 := ⟨_, rfl⟩
  rw [← hx] at c1
  obtain ⟨m, hm1, hm2⟩ : ∃ m : UInt8, (2 : Int) ^ min k 8 % 256 = b8 m ∧ m ≠ 0 := ⟨_, bit_of ⟨k, by omega⟩⟩
  have hne := set_ne a i m (by rw [HA.out]; omega) hm2
  rw [← hx] at hne
  have hset := hm.set i (.int .u8 (b8 (x ^^^ m)))
  have hk2 := hk.set_other ⟨z, i, none⟩ (.int .u8 (b8 (x ^^^ m))) (by simp; omega)
  have hl2 := hl.set_other ⟨z, i, none⟩ (.int .u8 (b8 (x ^^^ m))) (by simp; omega)
  have hw2 := hw.setCell (p := ⟨z, i, none⟩) (by simp; omega) (.int .u8 (b8 (x ^^^ m)))
  have e0 : (bCells a).setIfInBounds i (.int .u8 (b8 (x ^^^ m))) = bCells (a.set i (x ^^^ m)) := bCells_set a i (x ^^^ m)
  rw [e0] at hset
  have hAl : (a.set i (x ^^^ m)).length = 32 := by rw [List.length_set, HA.out]
  clear hm hk hl hw hx hi hkk hcl hm2 e0
  go_upto_region 5 with fail
  clear c1 c2 q1 q2 q3 q4 q5 q6 hm1
  generalize w3.setCell ⟨z, i, none⟩ (.int .u8 (b8 (x ^^^ m))) = w4 at hset hk2 hl2 hw2 ⊢
  obtain ⟨A, hA⟩ : ∃ A, A = a.set i (x ^^^ m) := ⟨_, rfl⟩
  rw [← hA] at hset hne hAl
  clear hA
  obtain ⟨p, hpp⟩ : ∃ p, p = w.heap.size := ⟨_, rfl⟩
  have HPP := Lib.hid hpp
  rw [← hpp] at hk2 hl2 hw2 hlt ⊢
  clear hpp
  obtain ⟨v, hv⟩ : ∃ v, decide (a = b) = v := ⟨_, rfl⟩
  have hv2 : decide (b = a) = v := by rw [← hv]; simp only [eq_comm]
  have hv3 : decide (a = A) = false := decide_eq_false hne
  have hv4 : decide (A = a) = false := decide_eq_false (fun h => hne h.symm)
  have he : ∀ w, (binOp .eql 22 (.agg (List.map by8 a).toArray) (.agg (List.map by8 b).toArray)).run Tryd.prog w = .ok (.bool v) w := fun w => by
    rw [← hv]; exact eql_go a b HA.out HB.out w
  have hS : ∀ w', Blk w' p (bCells a) 22 → Blk w' (p + 1) (bCells b) 22 → Blk w' z (bCells A) 22 → Below p w w' → (World.rangeAt w' p 0 (List.map by8 a) ∧ World.rangeAt w' (p + 1) 0 (List.map by8 b) ∧ World.rangeAt w' z 0 (List.map by8 A) ∧ Blk w' p (bCells a) 22 ∧ Blk w' (p + 1) (bCells b) 22 ∧ Blk w' z (bCells A) 22 ∧ Below p w w') := fun w' h1 h2 h3 h4 =>
    ⟨(fun j v hj => by rw [Nat.zero_add, h1.cell, bCells, List.getElem?_toArray]; exact hj), (fun j v hj => by rw [Nat.zero_add, h2.cell, bCells, List.getElem?_toArray]; exact hj), (fun j v hj => by rw [Nat.zero_add, h3.cell, bCells, List.getElem?_toArray]; exact hj), h1, h2, h3, h4⟩
  have HS0 := Lib.hid (hS w4.drew hk2.drew hl2.drew hset.drew (below_drewN hw2 1))
  have HT : Hid (∀ w' w'', (World.rangeAt w' p 0 (List.map by8 a) ∧ World.rangeAt w' (p + 1) 0 (List.map by8 b) ∧ World.rangeAt w' z 0 (List.map by8 A) ∧ Blk w' p (bCells a) 22 ∧ Blk w' (p + 1) (bCells b) 22 ∧ Blk w' z (bCells A) 22 ∧ Below p w w') → Hid (Below w'.heap.size w' w'') → (World.rangeAt w'' p 0 (List.map by8 a) ∧ World.rangeAt w'' (p + 1) 0 (List.map by8 b) ∧ World.rangeAt w'' z 0 (List.map by8 A) ∧ Blk w'' p (bCells a) 22 ∧ Blk w'' (p + 1) (bCells b) 22 ∧ Blk w'' z (bCells A) 22 ∧ Below p w w'')) := fun w' w'' h hb => by
    obtain ⟨-, -, -, h1, h2, h3, h4⟩ := h
    exact hS w'' (h1.below hb.out h1.lt) (h2.below hb.out h2.lt) (h3.below hb.out h3.lt) (h4.trans (hb.out.mono (by rw [HPP.out]; exact h4.size)))
  have HXB : Hid (∀ w', (World.rangeAt w' p 0 (List.map by8 a) ∧ World.rangeAt w' (p + 1) 0 (List.map by8 b) ∧ World.rangeAt w' z 0 (List.map by8 A) ∧ Blk w' p (bCells a) 22 ∧ Blk w' (p + 1) (bCells b) 22 ∧ Blk w' z (bCells A) 22 ∧ Below p w w') → Below p w w') := fun w' h => h.2.2.2.2.2.2
  have HC : Hid (∀ (X Y : List UInt8), X.length = 32 → Y.length = 32 → ∀ w', Calls Tryd.prog 20 #[.agg (List.map by8 X).toArray, .agg (List.map by8 Y).toArray] w' fun e w'' => e = .returned (.bool (decide (X = Y))) ∧ Below w'.heap.size w' w'') := fun X Y h1 h2 w' => same_go w' X Y h1 h2
  have q1 : ∀ (v : Value), v ∈ List.map by8 a → v.oneCell' = true := bytes_all a
  have q2 : Option.map (fun x => x.size) (Tryd.prog.info? 22) = some (List.map by8 a).length := by rw [List.length_map, HA.out]; kernel_rfl
  have q3 : Tryd.prog.underlying 22 = some (.array 32 5) := Tryd.underlying22
  have q4 : (List.map by8 a).length = 32 := by rw [List.length_map, HA.out]
  have q5 : ∀ (v : Value), v ∈ List.map by8 b → v.oneCell' = true := bytes_all b
  have q6 : Option.map (fun x => x.size) (Tryd.prog.info? 22) = some (List.map by8 b).length := by rw [List.length_map, HB.out]; kernel_rfl
  have q7 : (List.map by8 b).length = 32 := by rw [List.length_map, HB.out]
  have q8 : ∀ (v : Value), v ∈ List.map by8 A → v.oneCell' = true := bytes_all A
  have q9 : Option.map (fun x => x.size) (Tryd.prog.info? 22) = some (List.map by8 A).length := by rw [List.length_map, hAl]; kernel_rfl
  have q10 : (List.map by8 A).length = 32 := by rw [List.length_map, hAl]
  have HAL := Lib.hid hAl
  clear hS hset hk2 hl2 hw2 hAl hG hne
  have HLa : Hid (∀ w', (World.rangeAt w' p 0 (List.map by8 a) ∧ World.rangeAt w' (p + 1) 0 (List.map by8 b) ∧ World.rangeAt w' z 0 (List.map by8 A) ∧ Blk w' p (bCells a) 22 ∧ Blk w' (p + 1) (bCells b) 22 ∧ Blk w' z (bCells A) 22 ∧ Below p w w') → World.rangeAt w' p 0 (List.map by8 a)) := fun w' h => h.1
  have HLb : Hid (∀ w', (World.rangeAt w' p 0 (List.map by8 a) ∧ World.rangeAt w' (p + 1) 0 (List.map by8 b) ∧ World.rangeAt w' z 0 (List.map by8 A) ∧ Blk w' p (bCells a) 22 ∧ Blk w' (p + 1) (bCells b) 22 ∧ Blk w' z (bCells A) 22 ∧ Below p w w') → World.rangeAt w' (p + 1) 0 (List.map by8 b)) := fun w' h => h.2.1
  have HLA : Hid (∀ w', (World.rangeAt w' p 0 (List.map by8 a) ∧ World.rangeAt w' (p + 1) 0 (List.map by8 b) ∧ World.rangeAt w' z 0 (List.map by8 A) ∧ Blk w' p (bCells a) 22 ∧ Blk w' (p + 1) (bCells b) 22 ∧ Blk w' z (bCells A) 22 ∧ Below p w w') → World.rangeAt w' z 0 (List.map by8 A)) := fun w' h => h.2.2.1
  refine wp_region_noPanic ?_
  refine wp_region_held_drew (S := fun w' => (World.rangeAt w' p 0 (List.map by8 a) ∧ World.rangeAt w' (p + 1) 0 (List.map by8 b) ∧ World.rangeAt w' z 0 (List.map by8 A) ∧ Blk w' p (bCells a) 22 ∧ Blk w' (p + 1) (bCells b) 22 ∧ Blk w' z (bCells A) 22 ∧ Below p w w')) (by kernel_rfl) HS0.out (fun hH => ?_)
  refine wpAnyH_take (i := 0) (oi := _) (v := .agg (List.map by8 a).toArray) rfl (by kernel_rfl) (by kernel_rfl) (by kernel_rfl) (fun _ _ _ h => h) (yieldsIf_load_mid (by rfl) 22 (.tmp 3) rfl p 0 rfl (List.map by8 a) (.array 32 5) HLa.out q3 rfl q2) hH ?_
  try simp only [Act.put, List.setIfInBounds_toArray, List.set_cons_zero, List.set_cons_succ]
  refine wpAnyH_take (i := 1) (oi := _) (v := .agg (List.map by8 b).toArray) rfl (by kernel_rfl) (by kernel_rfl) (by kernel_rfl) (fun _ _ _ h => h) (yieldsIf_load_mid (by rfl) 22 (.tmp 4) rfl (p + 1) 0 rfl (List.map by8 b) (.array 32 5) HLb.out q3 rfl q6) hH ?_
  try simp only [Act.put, List.setIfInBounds_toArray, List.set_cons_zero, List.set_cons_succ]
  refine wpAnyH_take (i := 3) (oi := _) (v := .agg (List.map by8 a).toArray) rfl (by kernel_rfl) (by kernel_rfl) (by kernel_rfl) (fun _ _ _ h => h) (yieldsIf_load_mid (by rfl) 22 (.tmp 3) rfl p 0 rfl (List.map by8 a) (.array 32 5) HLa.out q3 rfl q2) hH ?_
  try simp only [Act.put, List.setIfInBounds_toArray, List.set_cons_zero, List.set_cons_succ]
  refine wpAnyH_take (i := 4) (oi := _) (v := .agg (List.map by8 b).toArray) rfl (by kernel_rfl) (by kernel_rfl) (by kernel_rfl) (fun _ _ _ h => h) (yieldsIf_load_mid (by rfl) 22 (.tmp 4) rfl (p + 1) 0 rfl (List.map by8 b) (.array 32 5) HLb.out q3 rfl q6) hH ?_
  try simp only [Act.put, List.setIfInBounds_toArray, List.set_cons_zero, List.set_cons_succ]
  refine take_at (d := some 27) (hd := by rfl) (i := 5) (oi := _) (v := .bool v) rfl (by kernel_rfl) (by kernel_rfl) (by kernel_rfl) (fun _ _ _ h => h) (Or.inl ⟨by rfl, fun w hSw => ?_⟩) hH ?_
  · clear hH hSw HLa HLb HLA HT HXB HC HS0
    go_simp
  try simp only [Act.put, List.setIfInBounds_toArray, List.set_cons_zero, List.set_cons_succ]
  refine wpAnyH_ready (rs := [2]) (by kernel_rfl) (by simp) ?_
  refine AllReadyH.cons (o := _) rfl (fun K hK => ?_) AllReadyH.nil
  go_simp
  refine (HC.out _ _ ?_ ?_ _).mono ?_
  · first | exact HA.out | exact HB.out | exact HAL.out
  · first | exact HA.out | exact HB.out | exact HAL.out
  rintro e w9 ⟨rfl, hb9⟩
  replace hb9 := Lib.hid hb9
  go_wp2_with fail
  have hH2 := HT.out _ _ hH hb9
  clear hH hb9
  refine hK.out _ _ hH2 (fun hH => ?_)
  clear hK K hH2
  try simp only [Act.put, List.setIfInBounds_toArray, List.set_cons_zero, List.set_cons_succ]
  refine take_at (d := some 28) (hd := by rfl) (i := 6) (oi := _) (v := .bool true) rfl (by kernel_rfl) (by kernel_rfl) (by kernel_rfl) (fun _ _ _ h => h) (Or.inl ⟨by rfl, fun w hSw => ?_⟩) hH ?_
  · clear hH hSw HLa HLb HLA HT HXB HC HS0
    go_simp
  try simp only [Act.put, List.setIfInBounds_toArray, List.set_cons_zero, List.set_cons_succ]
  refine take_at (d := some 29) (hd := by rfl) (i := 7) (oi := _) (v := .bool true) rfl (by kernel_rfl) (by kernel_rfl) (by kernel_rfl) (fun _ _ _ h => h) (Or.inl ⟨by rfl, fun w hSw => ?_⟩) hH ?_
  · clear hH hSw HLa HLb HLA HT HXB HC HS0
    go_simp
  try simp only [Act.put, List.setIfInBounds_toArray, List.set_cons_zero, List.set_cons_succ]
  refine wpAnyH_take (i := 8) (oi := _) (v := .agg (List.map by8 b).toArray) rfl (by kernel_rfl) (by kernel_rfl) (by kernel_rfl) (fun _ _ _ h => h) (yieldsIf_load_mid (by rfl) 22 (.tmp 4) rfl (p + 1) 0 rfl (List.map by8 b) (.array 32 5) HLb.out q3 rfl q6) hH ?_
  try simp only [Act.put, List.setIfInBounds_toArray, List.set_cons_zero, List.set_cons_succ]
  refine wpAnyH_take (i := 9) (oi := _) (v := .agg (List.map by8 a).toArray) rfl (by kernel_rfl) (by kernel_rfl) (by kernel_rfl) (fun _ _ _ h => h) (yieldsIf_load_mid (by rfl) 22 (.tmp 3) rfl p 0 rfl (List.map by8 a) (.array 32 5) HLa.out q3 rfl q2) hH ?_
  try simp only [Act.put, List.setIfInBounds_toArray, List.set_cons_zero, List.set_cons_succ]
  refine wpAnyH_take (i := 11) (oi := _) (v := .agg (List.map by8 a).toArray) rfl (by kernel_rfl) (by kernel_rfl) (by kernel_rfl) (fun _ _ _ h => h) (yieldsIf_load_mid (by rfl) 22 (.tmp 3) rfl p 0 rfl (List.map by8 a) (.array 32 5) HLa.out q3 rfl q2) hH ?_
  try simp only [Act.put, List.setIfInBounds_toArray, List.set_cons_zero, List.set_cons_succ]
  refine wpAnyH_take (i := 12) (oi := _) (v := .agg (List.map by8 b).toArray) rfl (by kernel_rfl) (by kernel_rfl) (by kernel_rfl) (fun _ _ _ h => h) (yieldsIf_load_mid (by rfl) 22 (.tmp 4) rfl (p + 1) 0 rfl (List.map by8 b) (.array 32 5) HLb.out q3 rfl q6) hH ?_
  try simp only [Act.put, List.setIfInBounds_toArray, List.set_cons_zero, List.set_cons_succ]
  refine take_at (d := some 35) (hd := by rfl) (i := 13) (oi := _) (v := .bool v) rfl (by kernel_rfl) (by kernel_rfl) (by kernel_rfl) (fun _ _ _ h => h) (Or.inl ⟨by rfl, fun w hSw => ?_⟩) hH ?_
  · clear hH hSw HLa HLb HLA HT HXB HC HS0
    go_simp
  try simp only [Act.put, List.setIfInBounds_toArray, List.set_cons_zero, List.set_cons_succ]
  refine wpAnyH_ready (rs := [10]) (by kernel_rfl) (by simp) ?_
  refine AllReadyH.cons (o := _) rfl (fun K hK => ?_) AllReadyH.nil
  go_simp
  refine (HC.out _ _ ?_ ?_ _).mono ?_
  · first | exact HA.out | exact HB.out | exact HAL.out
  · first | exact HA.out | exact HB.out | exact HAL.out
  rintro e w9 ⟨rfl, hb9⟩
  replace hb9 := Lib.hid hb9
  go_wp2_with fail
  have hH2 := HT.out _ _ hH hb9
  clear hH hb9
  refine hK.out _ _ hH2 (fun hH => ?_)
  clear hK K hH2
  try simp only [Act.put, List.setIfInBounds_toArray, List.set_cons_zero, List.set_cons_succ]
  refine take_at (d := some 36) (hd := by rfl) (i := 14) (oi := _) (v := .bool true) rfl (by kernel_rfl) (by kernel_rfl) (by kernel_rfl) (fun _ _ _ h => h) (Or.inl ⟨by rfl, fun w hSw => ?_⟩) hH ?_
  · clear hH hSw HLa HLb HLA HT HXB HC HS0
    go_simp
  try simp only [Act.put, List.setIfInBounds_toArray, List.set_cons_zero, List.set_cons_succ]
  refine take_at (d := some 37) (hd := by rfl) (i := 15) (oi := _) (v := .bool true) rfl (by kernel_rfl) (by kernel_rfl) (by kernel_rfl) (fun _ _ _ h => h) (Or.inl ⟨by rfl, fun w hSw => ?_⟩) hH ?_
  · clear hH hSw HLa HLb HLA HT HXB HC HS0
    go_simp
  try simp only [Act.put, List.setIfInBounds_toArray, List.set_cons_zero, List.set_cons_succ]
  refine take_at (d := some 38) (hd := by rfl) (i := 16) (oi := _) (v := .bool true) rfl (by kernel_rfl) (by kernel_rfl) (by kernel_rfl) (fun _ _ _ h => h) (Or.inl ⟨by rfl, fun w hSw => ?_⟩) hH ?_
  · clear hH hSw HLa HLb HLA HT HXB HC HS0
    go_simp
  try simp only [Act.put, List.setIfInBounds_toArray, List.set_cons_zero, List.set_cons_succ]
  refine wpAnyH_take (i := 17) (oi := _) (v := .agg (List.map by8 a).toArray) rfl (by kernel_rfl) (by kernel_rfl) (by kernel_rfl) (fun _ _ _ h => h) (yieldsIf_load_mid (by rfl) 22 (.tmp 3) rfl p 0 rfl (List.map by8 a) (.array 32 5) HLa.out q3 rfl q2) hH ?_
  try simp only [Act.put, List.setIfInBounds_toArray, List.set_cons_zero, List.set_cons_succ]
  refine wpAnyH_take (i := 18) (oi := _) (v := .agg (List.map by8 a).toArray) rfl (by kernel_rfl) (by kernel_rfl) (by kernel_rfl) (fun _ _ _ h => h) (yieldsIf_load_mid (by rfl) 22 (.tmp 3) rfl p 0 rfl (List.map by8 a) (.array 32 5) HLa.out q3 rfl q2) hH ?_
  try simp only [Act.put, List.setIfInBounds_toArray, List.set_cons_zero, List.set_cons_succ]
  refine wpAnyH_ready (rs := [19]) (by kernel_rfl) (by simp) ?_
  refine AllReadyH.cons (o := _) rfl (fun K hK => ?_) AllReadyH.nil
  go_simp
  refine (HC.out _ _ ?_ ?_ _).mono ?_
  · first | exact HA.out | exact HB.out | exact HAL.out
  · first | exact HA.out | exact HB.out | exact HAL.out
  rintro e w9 ⟨rfl, hb9⟩
  replace hb9 := Lib.hid hb9
  go_wp2_with fail
  have hH2 := HT.out _ _ hH hb9
  clear hH hb9
  refine hK.out _ _ hH2 (fun hH => ?_)
  clear hK K hH2
  try simp only [Act.put, List.setIfInBounds_toArray, List.set_cons_zero, List.set_cons_succ]
  refine take_at (d := some 42) (hd := by rfl) (i := 20) (oi := _) (v := .bool true) rfl (by kernel_rfl) (by kernel_rfl) (by kernel_rfl) (fun _ _ _ h => h) (Or.inl ⟨by rfl, fun w hSw => ?_⟩) hH ?_
  · clear hH hSw HLa HLb HLA HT HXB HC HS0
    go_simp
  try simp only [Act.put, List.setIfInBounds_toArray, List.set_cons_zero, List.set_cons_succ]
  refine take_at (d := some 43) (hd := by rfl) (i := 21) (oi := _) (v := .bool true) rfl (by kernel_rfl) (by kernel_rfl) (by kernel_rfl) (fun _ _ _ h => h) (Or.inl ⟨by rfl, fun w hSw => ?_⟩) hH ?_
  · clear hH hSw HLa HLb HLA HT HXB HC HS0
    go_simp
  try simp only [Act.put, List.setIfInBounds_toArray, List.set_cons_zero, List.set_cons_succ]
  refine wpAnyH_take (i := 22) (oi := _) (v := .agg (List.map by8 a).toArray) rfl (by kernel_rfl) (by kernel_rfl) (by kernel_rfl) (fun _ _ _ h => h) (yieldsIf_load_mid (by rfl) 22 (.tmp 3) rfl p 0 rfl (List.map by8 a) (.array 32 5) HLa.out q3 rfl q2) hH ?_
  try simp only [Act.put, List.setIfInBounds_toArray, List.set_cons_zero, List.set_cons_succ]
  refine wpAnyH_take (i := 23) (oi := _) (v := .agg (List.map by8 A).toArray) rfl (by kernel_rfl) (by kernel_rfl) (by kernel_rfl) (fun _ _ _ h => h) (yieldsIf_load_mid (by rfl) 22 (.tmp 7) rfl z 0 rfl (List.map by8 A) (.array 32 5) HLA.out q3 rfl q9) hH ?_
  try simp only [Act.put, List.setIfInBounds_toArray, List.set_cons_zero, List.set_cons_succ]
  refine wpAnyH_ready (rs := [24]) (by kernel_rfl) (by simp) ?_
  refine AllReadyH.cons (o := _) rfl (fun K hK => ?_) AllReadyH.nil
  go_simp
  refine (HC.out _ _ ?_ ?_ _).mono ?_
  · first | exact HA.out | exact HB.out | exact HAL.out
  · first | exact HA.out | exact HB.out | exact HAL.out
  rintro e w9 ⟨rfl, hb9⟩
  replace hb9 := Lib.hid hb9
  go_wp2_with fail
  have hH2 := HT.out _ _ hH hb9
  clear hH hb9
  refine hK.out _ _ hH2 (fun hH => ?_)
  clear hK K hH2
  try simp only [Act.put, List.setIfInBounds_toArray, List.set_cons_zero, List.set_cons_succ]
  refine take_at (d := some 47) (hd := by rfl) (i := 25) (oi := _) (v := .bool true) rfl (by kernel_rfl) (by kernel_rfl) (by kernel_rfl) (fun _ _ _ h => h) (Or.inl ⟨by rfl, fun w hSw => ?_⟩) hH ?_
  · clear hH hSw HLa HLb HLA HT HXB HC HS0
    go_simp
  try simp only [Act.put, List.setIfInBounds_toArray, List.set_cons_zero, List.set_cons_succ]
  refine take_at (d := some 48) (hd := by rfl) (i := 26) (oi := _) (v := .bool true) rfl (by kernel_rfl) (by kernel_rfl) (by kernel_rfl) (fun _ _ _ h => h) (Or.inl ⟨by rfl, fun w hSw => ?_⟩) hH ?_
  · clear hH hSw HLa HLb HLA HT HXB HC HS0
    go_simp
  try simp only [Act.put, List.setIfInBounds_toArray, List.set_cons_zero, List.set_cons_succ]
  refine take_at (d := some 49) (hd := by rfl) (i := 27) (oi := _) (v := .bool true) rfl (by kernel_rfl) (by kernel_rfl) (by kernel_rfl) (fun _ _ _ h => h) (Or.inl ⟨by rfl, fun w hSw => ?_⟩) hH ?_
  · clear hH hSw HLa HLb HLA HT HXB HC HS0
    go_simp
  try simp only [Act.put, List.setIfInBounds_toArray, List.set_cons_zero, List.set_cons_succ]
  refine wpAnyH_take (i := 28) (oi := _) (v := .agg (List.map by8 A).toArray) rfl (by kernel_rfl) (by kernel_rfl) (by kernel_rfl) (fun _ _ _ h => h) (yieldsIf_load_mid (by rfl) 22 (.tmp 7) rfl z 0 rfl (List.map by8 A) (.array 32 5) HLA.out q3 rfl q9) hH ?_
  try simp only [Act.put, List.setIfInBounds_toArray, List.set_cons_zero, List.set_cons_succ]
  refine wpAnyH_take (i := 29) (oi := _) (v := .agg (List.map by8 a).toArray) rfl (by kernel_rfl) (by kernel_rfl) (by kernel_rfl) (fun _ _ _ h => h) (yieldsIf_load_mid (by rfl) 22 (.tmp 3) rfl p 0 rfl (List.map by8 a) (.array 32 5) HLa.out q3 rfl q2) hH ?_
  try simp only [Act.put, List.setIfInBounds_toArray, List.set_cons_zero, List.set_cons_succ]
  refine wpAnyH_ready (rs := [30]) (by kernel_rfl) (by simp) ?_
  refine AllReadyH.cons (o := _) rfl (fun K hK => ?_) AllReadyH.nil
  go_simp
  refine (HC.out _ _ ?_ ?_ _).mono ?_
  · first | exact HA.out | exact HB.out | exact HAL.out
  · first | exact HA.out | exact HB.out | exact HAL.out
  rintro e w9 ⟨rfl, hb9⟩
  replace hb9 := Lib.hid hb9
  go_wp2_with fail
  have hH2 := HT.out _ _ hH hb9
  clear hH hb9
  refine hK.out _ _ hH2 (fun hH => ?_)
  clear hK K hH2
  try simp only [Act.put, List.setIfInBounds_toArray, List.set_cons_zero, List.set_cons_succ]
  refine take_at (d := some 53) (hd := by rfl) (i := 31) (oi := _) (v := .bool true) rfl (by kernel_rfl) (by kernel_rfl) (by kernel_rfl) (fun _ _ _ h => h) (Or.inl ⟨by rfl, fun w hSw => ?_⟩) hH ?_
  · clear hH hSw HLa HLb HLA HT HXB HC HS0
    go_simp
  try simp only [Act.put, List.setIfInBounds_toArray, List.set_cons_zero, List.set_cons_succ]
  refine take_at (d := some 54) (hd := by rfl) (i := 32) (oi := _) (v := .bool true) rfl (by kernel_rfl) (by kernel_rfl) (by kernel_rfl) (fun _ _ _ h => h) (Or.inl ⟨by rfl, fun w hSw => ?_⟩) hH ?_
  · clear hH hSw HLa HLb HLA HT HXB HC HS0
    go_simp
  try simp only [Act.put, List.setIfInBounds_toArray, List.set_cons_zero, List.set_cons_succ]
  refine take_at (d := some 6) (hd := by rfl) (i := 33) (oi := _) (v := .bool true) rfl (by kernel_rfl) (by kernel_rfl) (by kernel_rfl) (fun _ _ _ h => h) (Or.inl ⟨by rfl, fun w hSw => ?_⟩) hH ?_
  · clear hH hSw HLa HLb HLA HT HXB HC HS0
    go_simp
  try simp only [Act.put, List.setIfInBounds_toArray, List.set_cons_zero, List.set_cons_succ]
  refine wpAnyH_done (by kernel_rfl) ?_ _
  refine NoPanic.normal ?_
  have hbz := Lib.hid (HXB.out _ hH)
  clear hH
  go_wp2
  go_ret
  refine ⟨by first | kernel_rfl | rfl | simp, ?_⟩
  have := hbz.out
  rwa [HPP.out] at this
end Go.Proofs.YtdchgojnmfoffaaDoor.Sha
