/-
  Of the proof that the law DiagDeep answers true at every row of bytes: a part, without conditions of its own.
-/
import Derived.Test.YtbhfoelnoddlkaaGreatDoorPart07
set_option linter.unusedVariables false
set_option linter.unusedSimpArgs false
/-
  value.Copy: walked.
-/
namespace Go.Proofs.YtbhfoelnoddlkaaGreatDoor.D
open Go Go.RowKit Limb

set_option maxRecDepth 100000 in
theorem clone_vnil (w : World) :
    Calls Tryz.prog 155 #[.slice none 0 0] w fun e w' => w' = w ∧ e = .returned (.slice none 0 0) := by
  have hnil := fun (w : World) (a : Option Addr) (n c : Nat) => Go.run_eql_slice_nil (P := Tryz.prog) w 31 33 a n c Tryz.underlying31
  go_enter Tryz.func155, Tryz.ntmps155
  go_wp2
  go_ret
  exact ⟨rfl, rfl⟩
theorem Fine.lims {w : World} {N : Nat} {kind n : Int} {mag : Value} {bits ext : Int} {text : List UInt8} {m X : Nat} (h : Fine w N kind n mag bits ext text m X) : ∃ l, Limbs w mag l ∧ l.length ≤ 1 ∧ (kind = 3 → ∃ x, (x < 1000000000 ∧ x = X) ∧ l = Limb.limbs x) ∧ (kind ≠ 3 → mag = .slice none 0 0) := by
  obtain ⟨_, ⟨h0, _, h, _⟩ | ⟨h0, _, _, _, _, x, hx, h, _⟩ | ⟨h0, _, h, _⟩ | ⟨h0, _, h, _⟩ | ⟨h0, _, h, _⟩ | ⟨h0, _, h, _⟩ | ⟨h0, _, h, _⟩⟩ := h
  · exact ⟨[], by rw [h]; exact Limbs.nil _, by simp, fun e => by omega, fun _ => h⟩
  · exact ⟨_, h, limbs_length_le (by omega), fun _ => ⟨x, hx, rfl⟩, fun e => absurd h0 e⟩
  all_goals exact ⟨[], by rw [h]; exact Limbs.nil _, by simp, fun e => by omega, fun _ => h⟩
/-- A node's limbs may be others that say the same. -/
theorem Fine.renew {w w' : World} {N B : Nat} {kind n : Int} {mag mag' : Value} {bits ext : Int} {text : List UInt8} {m X : Nat} (h : Fine w N kind n mag bits ext text m X) (l : List Nat) (hl : kind = 3 → ∃ x, (x < 1000000000 ∧ x = X) ∧ l = Limb.limbs x) (hn : NewLimbs B w' mag' l) (hmag : kind ≠ 3 → mag' = .slice none 0 0) : FineP w' (fun b => B ≤ b) kind n mag' bits ext text m X := by
  have hsz : ∀ b o k c, mag' = .slice (some ⟨b, o, none⟩) k c → b < w'.heap.size := by
    intro b o k c e
    obtain ⟨⟨_, ⟨h, _⟩ | ⟨blk, off, cap, h, _, _, h3, _⟩⟩, _⟩ := hn
    · rw [h] at e; simp at e
    · rw [h] at e; simp only [Value.slice.injEq, Option.some.injEq, Addr.mk.injEq] at e; obtain ⟨⟨rfl, _⟩, _⟩ := e; exact h3
  refine ⟨?_, fun b o k c e => hn.2 b o k c e⟩
  obtain ⟨h0, ⟨a1, a2, a3, r⟩ | ⟨a1, a2, a3, a4, a5, _, _, _, _⟩ | ⟨a1, a2, a3, r⟩ | ⟨a1, a2, a3, r⟩ | ⟨a1, a2, a3, r⟩ | ⟨a1, a2, a3, r⟩ | ⟨a1, a2, a3, r⟩⟩ := h
  · exact ⟨h0, .inl ⟨a1, a2, hmag (by omega), r⟩⟩
  · obtain ⟨x, hx, hlx⟩ := hl a1
    exact ⟨h0, .inr (.inl ⟨a1, a2, a3, a4, a5, x, hx, by rw [← hlx]; exact hn.1, hsz⟩)⟩
  · exact ⟨h0, .inr (.inr (.inl ⟨a1, a2, hmag (by omega), r⟩))⟩
  · exact ⟨h0, .inr (.inr (.inr (.inl ⟨a1, a2, hmag (by omega), r⟩)))⟩
  · exact ⟨h0, .inr (.inr (.inr (.inr (.inl ⟨a1, a2, hmag (by omega), r⟩))))⟩
  · exact ⟨h0, .inr (.inr (.inr (.inr (.inr (.inl ⟨a1, a2, hmag (by omega), r⟩)))))⟩
  · exact ⟨h0, .inr (.inr (.inr (.inr (.inr (.inr ⟨a1, a2, hmag (by omega), r⟩)))))⟩

theorem NewLimbs.same {B B' : Nat} {w w' : World} {v : Value} {l : List Nat} (h : NewLimbs B w v l) (hs : ∀ b, B ≤ b → b < w.heap.size → w'.heap[b]? = w.heap[b]?) (hB : B' ≤ B) : NewLimbs B' w' v l := by
  obtain ⟨⟨hf, h | ⟨blk, off, cap, hv, h1, h2, h3, h4⟩⟩, hp⟩ := h
  · exact ⟨⟨hf, .inl h⟩, fun b o k c e => by rw [h.1] at e; simp at e⟩
  · have he := hs blk (hp _ _ _ _ hv) h3
    exact ⟨⟨hf, .inr ⟨blk, off, cap, hv, h1, h2, lt_of_heap h3 he, fun i hi => by rw [World.cell?_of_block (w := w) (a := ⟨blk, off + i, none⟩) he]; exact h4 i hi⟩⟩, fun b o k c e => by have := hp b o k c e; omega⟩
theorem take_at {P : Program} {ops : Array Oper} {Q : Exit → Act → World → Prop} {md : Region.Mode} {S : World → Prop} {i : Nat} {oi : Oper} {d : Option Nat} {v : Value} {fuel : Nat} {listed : Array Bool} {a : Act} {w : World} (hd : oi.dst = d) (hi : ops[i]? = some oi)
    (hs : Region.noSelect ops = true) (hf : Region.free md ops listed i = true) (hr : (Region.ready md ops listed).contains i = true)
    (hQ : ∀ c a w, Q (.panic c) (a.put oi.dst v) w → Q (.panic c) a w) (hy : YieldsIf P ops S oi v a) (hS : S w)
    (h : wpAnyH P md ops Q S fuel (listed.setIfInBounds i true) (a.put d v) w) : wpAnyH P md ops Q S (fuel + 1) listed a w := by
  subst hd
  exact wpAnyH_take hi hs hf hr hQ hy hS h
theorem Fine.m3 {w : World} {N : Nat} {kind n : Int} {mag : Value} {bits ext : Int} {text : List UInt8} {m X : Nat} (h : Fine w N kind n mag bits ext text m X) : m ≤ 3 := by
  obtain ⟨_, ⟨_, _, _, _, _, h⟩ | ⟨_, _, _, _, h, _⟩ | ⟨_, _, _, _, _, h⟩ | ⟨_, _, _, _, _, h⟩ | ⟨_, _, _, _, _, h⟩ | ⟨_, _, _, _, _, h⟩ | ⟨_, _, _, _, _, h⟩⟩ := h <;> omega
theorem heap_setCells (g k : Nat) (h : k ≠ g) : ∀ (vs : List Value) (o : Nat) (w : World), (w.setCells g o vs).heap[k]? = w.heap[k]?
  | [], _, _ => rfl
  | v :: vs, o, w => by
    show ((w.setCell ⟨g, o, none⟩ v).setCells g (o + 1) vs).heap[k]? = _
    rw [heap_setCells g k h vs, Below.heap_setCell _ _ _ _ h]
theorem size_setCells (g : Nat) : ∀ (vs : List Value) (o : Nat) (w : World), (w.setCells g o vs).heap.size = w.heap.size
  | [], _, _ => rfl
  | v :: vs, o, w => by
    show ((w.setCell ⟨g, o, none⟩ v).setCells g (o + 1) vs).heap.size = _
    rw [size_setCells g vs]; simp
theorem below_setCells {B : Nat} {a : World} {g : Nat} (hg : B ≤ g) : ∀ (vs : List Value) (o : Nat) (w : World), Below B a w → Below B a (w.setCells g o vs)
  | [], _, _, h => h
  | v :: vs, o, w, h => below_setCells hg vs (o + 1) _ (h.setCell (p := ⟨g, o, none⟩) hg v)
/-- An array with values laid over it from a place on. -/
def upd : Array Value → Nat → List Value → Array Value
  | c, _, [] => c
  | c, o, v :: vs => upd (c.setIfInBounds o v) (o + 1) vs
theorem upd_size : ∀ (vs : List Value) (c : Array Value) (o : Nat), (upd c o vs).size = c.size
  | [], _, _ => rfl
  | v :: vs, c, o => by simp [upd, upd_size vs]
theorem upd_at : ∀ (vs : List Value) (c : Array Value) (o j : Nat), o + vs.length ≤ c.size → (upd c o vs)[j]? = if o ≤ j ∧ j < o + vs.length then vs[j - o]? else c[j]?
  | [], c, o, j, _ => by rw [if_neg (by simp)]; rfl
  | v :: vs, c, o, j, h => by
    have hl : o + (vs.length + 1) ≤ c.size := h
    rw [upd, upd_at vs _ (o + 1) j (by simp; omega), Array.getElem?_setIfInBounds]
    by_cases h1 : o + 1 ≤ j ∧ j < o + 1 + vs.length
    · rw [if_pos h1, if_pos (by simp; omega), show j - o = (j - (o + 1)) + 1 by omega, List.getElem?_cons_succ]
    · rw [if_neg h1]
      by_cases h2 : o = j
      · subst h2
        rw [if_pos rfl, if_pos (by omega), if_pos (by simp), Nat.sub_self]; rfl
      · rw [if_neg h2, if_neg (by simp; omega)]
theorem Blk.setCells {g : Nat} {t : TypeId} : ∀ (vs : List Value) (o : Nat) (w : World) (c : Array Value), Blk w g c t → Blk (w.setCells g o vs) g (upd c o vs) t
  | [], _, _, _, h => h
  | v :: vs, o, w, c, h => Blk.setCells vs (o + 1) _ _ (h.set o v)
theorem upd_row {cp m k : Nat} {cur zs : Array Value} {ys : Nat → Array Value} (hc : cur.size = cp * 8) (hm : m ≤ cp) (hk : k < m) (hz : zs.size = 8) (h : cur.toList.take (m * 8) = rowL m ys) : (upd cur (k * 8) zs.toList).toList.take (m * 8) = rowL m (fun i => if i = k then zs else ys i) := by
  have hzl : zs.toList.length = 8 := by simp [hz]
  apply List.ext_getElem?
  intro j
  rw [List.getElem?_take]
  by_cases hj : j < m * 8
  · rw [if_pos hj, rowL_at _ _ _ hj, Array.getElem?_toList, upd_at _ _ _ _ (by rw [hzl]; omega), hzl]
    by_cases h1 : k * 8 ≤ j ∧ j < k * 8 + 8
    · rw [if_pos h1, if_pos (by omega), Array.getElem?_toList, getD_some _ _ (by omega), show j - k * 8 = j % 8 by omega]
    · rw [if_neg h1, if_neg (by omega)]
      have h2 : (cur.toList.take (m * 8))[j]? = (rowL m ys)[j]? := by rw [h]
      rw [List.getElem?_take, if_pos hj, rowL_at _ _ _ hj, Array.getElem?_toList] at h2
      exact h2
  · rw [if_neg hj, List.getElem?_eq_none (by rw [rowL_length]; omega)]
/-- What Copy's round knows of memory. -/
def CS (w : World) (X Y g m cp k : Nat) (cx cy cur : Array Value) (ys : Nat → Array Value) (ds : Nat → Nat) (fs : Nat → F) (wr : World) : Prop :=
  Blk wr X cx 33 ∧ Blk wr Y cy 33 ∧ Below X w wr ∧ Blk wr g cur 33 ∧ ∀ i, i < k → (ys i).size = 8 ∧ TreeP wr (fun b => g < b) (fs i) (ds i) (.agg (ys i))
theorem CS.step {w : World} {X Y g m cp k : Nat} {cx cy cur : Array Value} {ys : Nat → Array Value} {ds : Nat → Nat} {fs : Nat → F} {wr w' : World} (h : CS w X Y g m cp k cx cy cur ys ds fs wr) (hb : Below wr.heap.size wr w') : CS w X Y g m cp k cx cy cur ys ds fs w' := by
  obtain ⟨h1, h2, h3, h4, h5⟩ := h
  have hXl := h1.lt
  exact ⟨h1.below hb h1.lt, h2.below hb h2.lt, h3.trans (hb.mono (by omega)), h4.below hb h4.lt, fun i hi => ⟨(h5 i hi).1, TreeP.same (fun b _ hb' => hb.block b hb') (fun b h _ => h) _ _ _ (h5 i hi).2⟩⟩
theorem CS.drew {w : World} {X Y g m cp k : Nat} {cx cy cur : Array Value} {ys : Nat → Array Value} {ds : Nat → Nat} {fs : Nat → F} {wr : World} (h : CS w X Y g m cp k cx cy cur ys ds fs wr) : CS w X Y g m cp k cx cy cur ys ds fs wr.drew :=
  h.step (below_drewN (Below.refl _ _) 1)
theorem vCells_mag (kind n : Int) (neg : Bool) (mag mag' : Value) (bits ext : Int) (text : ByteArray) (kids : Value) : (vCells kind n neg mag bits ext text kids).setIfInBounds 3 mag' = vCells kind n neg mag' bits ext text kids := by simp [vCells]
theorem vCells_kids (kind n : Int) (neg : Bool) (mag : Value) (bits ext : Int) (text : ByteArray) (kids kids' : Value) : (vCells kind n neg mag bits ext text kids).setIfInBounds 7 kids' = vCells kind n neg mag bits ext text kids' := by simp [vCells]

set_option maxRecDepth 100000 in
set_option maxHeartbeats 2000000 in
theorem copy_any (N : Nat) : ∀ (f : F) (d : Nat) (v : Value) (w : World), N ≤ w.heap.size → Tree w N f d v → Calls Tryz.prog 103 #[v] w fun e w' => Below w.heap.size w w' ∧ ∃ v', e = .returned v' ∧ TreeP w' (fun b => w.heap.size ≤ b) f d v' := by
  intro f
  induction f with
  | stop => intro d v w _ h; exact h.elim
  | node t X0 fs ih =>
    intro d v w hN hT
    have HIH := Lib.hid ih
    clear ih
    obtain ⟨kind, nn, mag, bits, ext, text, kids, m, rfl, hf, htold, hk⟩ := hT
    have HTOLD := Lib.hid htold
    clear htold
    obtain ⟨mb, mn, mc, rfl⟩ := hf.mag
    obtain ⟨l, hl, hl1, hl3, hl0⟩ := hf.lims
    obtain ⟨W, hW⟩ : ∃ W, W = (w.alloc (.cells (vCells kind nn false (.slice mb mn mc) bits ext (strL text) kids) 33)).alloc (.cells #[.int .i8 0, .int .u64 0, .bool false, .slice none 0 0, .int .u64 0, .int .i8 0, .string ⟨#[]⟩, .slice none 0 0] 33) := ⟨_, rfl⟩
    have hb : Below w.heap.size w W := by rw [hW]; exact ((Below.refl _ _).alloc (Nat.le_refl _) _).alloc (by simp) _
    have hWs : W.heap.size = w.heap.size + 2 := by rw [hW]; simp
    have hbx : Blk W w.heap.size (vCells kind nn false (.slice mb mn mc) bits ext (strL text) kids) 33 := by rw [hW]; exact (Blk.new _ _ _).alloc _
    have hby : Blk W (w.heap.size + 1) #[.int .i8 0, .int .u64 0, .bool false, .slice none 0 0, .int .u64 0, .int .i8 0, .string ⟨#[]⟩, .slice none 0 0] 33 := by
      have := Blk.new (w.alloc (.cells (vCells kind nn false (.slice mb mn mc) bits ext (strL text) kids) 33)) #[.int .i8 0, .int .u64 0, .bool false, .slice none 0 0, .int .u64 0, .int .i8 0, .string ⟨#[]⟩, .slice none 0 0] 33
      rw [← hW, show (w.alloc (.cells (vCells kind nn false (.slice mb mn mc) bits ext (strL text) kids) 33)).heap.size = w.heap.size + 1 by simp] at this
      exact this
    have HC1 := Lib.hid (clone_nat W (.slice mb mn mc) l (hl.below hb) (by omega))
    have HF := Lib.hid hf
    have HK := Lib.hid hk
    have HL3 := Lib.hid hl3
    have HL0 := Lib.hid hl0
    have HN := Lib.hid hN
    have HW := Lib.hid hW
    have HB := Lib.hid hb
    have HWS := Lib.hid hWs
    have HBX := Lib.hid hbx
    have HBY := Lib.hid hby
    have k3 : W.cell? ⟨w.heap.size, 3, none⟩ = some (.slice mb mn mc) := hbx.cell 3
    clear hf hk hl hl3 hl0 hN hW hb hWs hbx hby
    go_enter Tryz.func103, Tryz.ntmps103
    go_upto_region 1 with fail
    change Code.wp _ _ _ _ ((w.alloc (.cells (vCells kind nn false (.slice mb mn mc) bits ext (strL text) kids) 33)).alloc (.cells #[.int .i8 0, .int .u64 0, .bool false, .slice none 0 0, .int .u64 0, .int .i8 0, .string ⟨#[]⟩, .slice none 0 0] 33))
    rw [← HW.out]
    go_wp2_with fail
    refine HC1.out.mono ?_
    rintro e w1 ⟨hb1, v1, rfl, h1, hnn⟩
    obtain ⟨b1, c1, rfl⟩ := h1.1.slice
    have hbx1 := HBX.out.below hb1 HBX.out.lt
    have hby1 := HBY.out.below hb1 HBY.out.lt
    have k3' : w1.cell? ⟨w.heap.size, 3, none⟩ = some (.slice mb mn mc) := hbx1.cell 3
    have f3' : w1.frozen? ⟨w.heap.size, 3, none⟩ = false := hbx1.free 3
    have HBX2 := Lib.hid (hbx1.set 3 (.slice b1 l.length c1))
    rw [vCells_mag] at HBX2
    have HBY2 := Lib.hid (hby1.set_other ⟨w.heap.size, 3, none⟩ (.slice b1 l.length c1) (by simp))
    have HB2 := Lib.hid ((HB.out.trans (hb1.mono HB.out.size)).setCell (p := ⟨w.heap.size, 3, none⟩) (Nat.le_refl _) (.slice b1 l.length c1))
    have HV2 : Hid (NewLimbs (w.heap.size + 2) (w1.setCell ⟨w.heap.size, 3, none⟩ (.slice b1 l.length c1)) (.slice b1 l.length c1) l) := Lib.hid (h1.same (fun b hb _ => Below.heap_setCell _ _ _ _ (by rw [HWS.out] at hb; simp; omega)) (by rw [HWS.out]; exact Nat.le_refl _))
    have hz : kind ≠ 3 → (.slice b1 l.length c1 : Value) = .slice none 0 0 := by
      intro h3
      exact hnn (HL0.out h3)
    have HZ := Lib.hid hz
    clear hz hnn hb1 h1 hbx1 hby1 k3 HB HBX HBY HC1
    go_upto_region 2 with fail
    clear k3' f3'
    generalize w1.setCell ⟨w.heap.size, 3, none⟩ (.slice b1 l.length c1) = w2 at HBX2 HBY2 HB2 HV2 ⊢
    have k7 : w2.cell? ⟨w.heap.size, 7, none⟩ = some kids := HBX2.out.cell 7
    have f7 : w2.frozen? ⟨w.heap.size, 7, none⟩ = false := HBX2.out.free 7
    rcases HK.out with ⟨rfl, rfl, rfl⟩ | ⟨h0, b, o, cap, xs, ds, rfl, hmc, hcap, hbN, hrow, hkid, hex⟩
    · clear HK
      go_wp2_with fail
      refine (clone_vnil w2).mono ?_
      rintro e w3 ⟨rfl, rfl⟩
      have HBX3 := Lib.hid (HBX2.out.set 7 (.slice none 0 0))
      rw [vCells_kids] at HBX3
      have HBY3 := Lib.hid (HBY2.out.set_other ⟨w.heap.size, 7, none⟩ (.slice none 0 0) (by simp))
      have HB3 := Lib.hid (HB2.out.setCell (p := ⟨w.heap.size, 7, none⟩) (Nat.le_refl _) (.slice none 0 0))
      have HV3 : Hid (NewLimbs (w.heap.size + 2) (w3.setCell ⟨w.heap.size, 7, none⟩ (.slice none 0 0)) (.slice b1 l.length c1) l) := Lib.hid (HV2.out.same (fun b hb _ => Below.heap_setCell _ _ _ _ (by simp; omega)) (Nat.le_refl _))
      go_upto_region 3 with fail
      clear k7 f7
      generalize w3.setCell ⟨w.heap.size, 7, none⟩ (.slice none 0 0) = w4 at HBX3 HBY3 HB3 HV3 ⊢
      have k7 : w4.cell? ⟨w.heap.size, 7, none⟩ = some (.slice none 0 0) := HBX3.out.cell 7
      clear HBX2 HBY2 HB2 HV2
      go_wp2
      go_loopw [3, 17] (fun _ i wr => i = .int .i64 0 ∧ wr = w4) (fun _ _ _ => 0)
      case atStart => exact ⟨rfl, rfl⟩
      case round =>
        obtain ⟨rfl, rfl⟩ := hrel
        go_upto_region 8 with fail
        refine wp_region_lit ?_
        refine wpList_load_row rfl 33 _ rfl w.heap.size rfl 33 _ (0, 0) _ HBX3.out Tryz.underlying33 rfl (by kernel_rfl) ?_
        refine wpList_store_row rfl 33 _ _ rfl (w.heap.size + 1) (vCells kind nn false (.slice b1 l.length c1) bits ext (strL text) (.slice none 0 0)) rfl rfl 33 _ HBY3.out (by kernel_rfl) rfl (vCells_one _ _ _ _ _ _ _ _ rfl rfl) ?_
        have hfin : Blk (wr.setRow (w.heap.size + 1) (vCells kind nn false (.slice b1 l.length c1) bits ext (strL text) (.slice none 0 0))) (w.heap.size + 1) (vCells kind nn false (.slice b1 l.length c1) bits ext (strL text) (.slice none 0 0)) 33 := setRow_heap _ _ _ _ _ _ HBY3.out
        have HFIN := Lib.hid hfin
        clear hfin
        go_wp2
        refine bodyPost_ret (v := .agg (vCells kind nn false (.slice b1 l.length c1) bits ext (strL text) (.slice none 0 0))) (results_cell_row rfl _ _ (w.heap.size + 1) 33 _ (0, 0) _ rfl HFIN.out Tryz.underlying33 rfl (by kernel_rfl)) rfl ⟨below_setRow HB3.out (by omega) _, _, rfl, kind, nn, _, bits, ext, text, _, 0, rfl, ?_, HTOLD.out, .inl ⟨rfl, rfl, rfl⟩⟩
        exact HF.out.renew l HL3.out (HV3.out.same (fun b hb _ => setRow_other _ _ _ _ (by omega)) (by omega)) HZ.out
    · have h3 : kind ≠ 3 := by rcases HF.out.cont h0 with h | h | h <;> omega
      have hmag := HZ.out h3
      have HMAG := Lib.hid hmag
      have HEX := Lib.hid hex
      have HONE : Hid (OneRow m xs) := Lib.hid (fun i hi j hj => by
        obtain ⟨kind', nn', mb', mn', mc', bits', ext', text', kb', kn', kc', hxk⟩ := (hkid i hi).1.cells
        simp only [Value.agg.injEq] at hxk
        have := vCells_one kind' nn' false (.slice mb' mn' mc') bits' ext' (strL text') (.slice kb' kn' kc') rfl rfl
        rw [← hxk, Array.all_eq_true_iff_forall_mem] at this
        have h8 := (hrow i hi).1
        exact this _ (by
          have e := getD_some (xs i) j (by omega)
          exact Array.mem_of_getElem? e))
      have HCV := Lib.hid (clone_vals w2 b o m cap xs (by have := HB2.out.size; have := HN.out; omega) (by have := HF.out.m3; omega) (hrow.below (HB2.out.mono HN.out) hbN) HONE.out)
      have HKID := Lib.hid hkid
      have HROW := Lib.hid hrow
      have HX8 : Hid (∀ i, i < m → (xs i).size = 8) := Lib.hid (fun i hi => (hrow i hi).1)
      clear hmag hex hkid hrow HK
      go_wp2_with fail
      refine HCV.out.mono ?_
      rintro e w3 ⟨hb3, v3, rfl, g, cp, cur, rfl, hg, hgb, hmcp, hcpm, hcs, hct⟩
      have hbx3 := HBX2.out.below hb3 HBX2.out.lt
      have hby3 := HBY2.out.below hb3 HBY2.out.lt
      have hlt2 := HBY2.out.lt
      have k7' : w3.cell? ⟨w.heap.size, 7, none⟩ = some (.slice (some ⟨b, o, none⟩) m cap) := hbx3.cell 7
      have f7' : w3.frozen? ⟨w.heap.size, 7, none⟩ = false := hbx3.free 7
      have HBX4 := Lib.hid (hbx3.set 7 (.slice (some ⟨g, 0, none⟩) m cp))
      rw [vCells_kids] at HBX4
      have HBY4 := Lib.hid (hby3.set_other ⟨w.heap.size, 7, none⟩ (.slice (some ⟨g, 0, none⟩) m cp) (by simp))
      have HGB4 : Hid (∃ cur, Blk (w3.setCell ⟨w.heap.size, 7, none⟩ (.slice (some ⟨g, 0, none⟩) m cp)) g cur 33 ∧ cur.size = cp * 8 ∧ cur.toList.take (m * 8) = rowL m xs) := Lib.hid ⟨cur, hgb.set_other _ _ (by simp; omega), hcs, hct⟩
      have HB4 := Lib.hid ((HB2.out.trans (hb3.mono HB2.out.size)).setCell (p := ⟨w.heap.size, 7, none⟩) (Nat.le_refl _) (.slice (some ⟨g, 0, none⟩) m cp))
      have hg2 : w.heap.size + 2 ≤ g := by omega
      unfold maxLen at hcpm
      go_upto_region 3 with fail
      clear k7 f7 k7' f7' hb3 hgb hcs hct hbx3 hby3 HBX2 HBY2 HB2 HV2 HCV hg hlt2
      generalize w3.setCell ⟨w.heap.size, 7, none⟩ (.slice (some ⟨g, 0, none⟩) m cp) = w4 at HBX4 HBY4 HB4 HGB4 ⊢
      have k7 : w4.cell? ⟨w.heap.size, 7, none⟩ = some (.slice (some ⟨g, 0, none⟩) m cp) := HBX4.out.cell 7
      go_wp2
      clear k7
      go_loopw [3, 17] (fun _ i wr => ∃ (k : Nat) (ys : Nat → Array Value), k ≤ m ∧ i = .int .i64 k ∧ Hid (Blk wr w.heap.size (vCells kind nn false (.slice b1 l.length c1) bits ext (strL text) (.slice (some ⟨g, 0, none⟩) m cp)) 33) ∧ Hid (Blk wr (w.heap.size + 1) #[.int .i8 0, .int .u64 0, .bool false, .slice none 0 0, .int .u64 0, .int .i8 0, .string ⟨#[]⟩, .slice none 0 0] 33) ∧ Hid (Below w.heap.size w wr) ∧ Hid (∃ cur, Blk wr g cur 33 ∧ cur.size = cp * 8 ∧ cur.toList.take (m * 8) = rowL m ys) ∧ Hid (∀ i, i < k → (ys i).size = 8 ∧ TreeP wr (fun b => g < b) (fs i) (ds i) (.agg (ys i))) ∧ Hid (∀ i, k ≤ i → ys i = xs i)) (fun _ i _ => m - (intOf i).toNat)
      case atStart => exact ⟨0, xs, by omega, rfl, HBX4, HBY4, HB4, HGB4, Lib.hid (fun i hi => by omega), Lib.hid (fun i hi => rfl)⟩
      case round =>
        clear HBX4 HBY4 HB4 HGB4
        obtain ⟨k, ys, hkm, rfl, HBXr, HBYr, HBr, HGr, HTr, HYr⟩ := hrel
        by_cases h1 : k < m
        · obtain ⟨cur, hgb, hcs, hct⟩ := HGr.out
          have hT := (HKID.out k h1).1
          have HTk := Lib.hid (Tree.below (HBr.out.mono HN.out) _ _ _ hT)
          obtain ⟨kind', nn', mb', mn', mc', bits', ext', text', kb', kn', kc', hxk⟩ := hT.cells
          simp only [Value.agg.injEq] at hxk
          have hyk : ys k = vCells kind' nn' false (.slice mb' mn' mc') bits' ext' (strL text') (.slice kb' kn' kc') := by rw [HYr.out k (Nat.le_refl _), hxk]
          have hys8 : ∀ i, i < m → (ys i).size = 8 := fun i hi => by
            rcases Nat.lt_or_ge i k with h | h
            · exact (HTr.out i h).1
            · rw [HYr.out i h]; exact HX8.out i hi
          have hv := (vrow_of hgb hys8 hct) k h1
          rw [hyk] at hv
          have d0 := hv.2 0 (by omega)
          have d1 := hv.2 1 (by omega)
          have d2 := hv.2 2 (by omega)
          have d3 := hv.2 3 (by omega)
          have d4 := hv.2 4 (by omega)
          have d5 := hv.2 5 (by omega)
          have d6 := hv.2 6 (by omega)
          have d7 := hv.2 7 (by omega)
          simp only [vCells, List.getElem?_toArray, List.getElem?_cons_zero, List.getElem?_cons_succ, Nat.add_zero, Nat.zero_add] at d0 d1 d2 d3 d4 d5 d6 d7
          have g1 : (k : Int) < (m : Int) := by omega
          have k7 : wr.cell? ⟨w.heap.size, 7, none⟩ = some (.slice (some ⟨g, 0, none⟩) m cp) := HBXr.out.cell 7
          obtain ⟨cx, hcx⟩ : ∃ cx, cx = vCells kind nn false (.slice b1 l.length c1) bits ext (strL text) (.slice (some ⟨g, 0, none⟩) m cp) := ⟨_, rfl⟩
          obtain ⟨cy, hcy⟩ : ∃ cy : Array Value, cy = #[.int .i8 0, .int .u64 0, .bool false, .slice none 0 0, .int .u64 0, .int .i8 0, .string ⟨#[]⟩, .slice none 0 0] := ⟨_, rfl⟩
          have hcs0 : CS w w.heap.size (w.heap.size + 1) g m cp k cx cy cur ys ds fs wr := ⟨by rw [hcx]; exact HBXr.out, by rw [hcy]; exact HBYr.out, HBr.out, hgb, HTr.out⟩
          have HLk : Hid (∀ w', CS w w.heap.size (w.heap.size + 1) g m cp k cx cy cur ys ds fs w' → w'.rangeAt g (k * 8) (vCells kind' nn' false (.slice mb' mn' mc') bits' ext' (strL text') (.slice kb' kn' kc')).toList) := Lib.hid (fun w' h j v hj => by
            have hjl : j < 8 := by
              rcases Nat.lt_or_ge j 8 with h | h
              · exact h
              · rw [List.getElem?_eq_none (by simpa [vCells] using h)] at hj; cases hj
            have e : w'.cell? ⟨g, k * 8 + j, none⟩ = wr.cell? ⟨g, k * 8 + j, none⟩ := by rw [h.2.2.2.1.cell, hgb.cell]
            have := hv.2 j hjl
            rw [Nat.zero_add] at this
            rw [e, this, ← Array.getElem?_toList]; exact hj)
          have H7 : Hid (∀ w', (Blk w' w.heap.size cx 33 ∧ Blk w' (w.heap.size + 1) cy 33 ∧ Below w.heap.size w w') → w'.cell? ⟨w.heap.size, 7, none⟩ = some (.slice (some ⟨g, 0, none⟩) m cp)) := Lib.hid (fun w' h => by
            have := h.1.cell 7
            rw [hcx] at this
            exact this)
          have HTQ : Hid (∀ w', CS w w.heap.size (w.heap.size + 1) g m cp k cx cy cur ys ds fs w' → Calls Tryz.prog 103 #[.agg (vCells kind' nn' false (.slice mb' mn' mc') bits' ext' (strL text') (.slice kb' kn' kc'))] w' fun e w9 => ∃ zs, e = .returned (.agg zs) ∧ Hid (zs.size = 8) ∧ Hid (zs.all (·.oneCell') = true) ∧ Hid (CS w w.heap.size (w.heap.size + 1) g m cp k cx cy cur ys ds fs w9) ∧ Hid (TreeP w9 (fun b => g < b) (fs k) (ds k) (.agg zs))) := Lib.hid (fun w' h => by
            have hTk := Tree.below (h.2.2.1.mono HN.out) _ _ _ hT
            rw [hxk] at hTk
            refine (HIH.out k (ds k) _ w' (Nat.le_trans HN.out h.2.2.1.size) hTk).mono ?_
            rintro e w9 ⟨hb9, v9, rfl, hT9⟩
            obtain ⟨q1, q2, q3, q4, q5, q6, q7, q8, q9, q10, q11, hq⟩ := (TreeP.toN (N := w9.heap.size) (fun b _ h => h) _ _ _ hT9).cells
            subst hq
            exact ⟨_, rfl, Lib.hid rfl, Lib.hid (vCells_one _ _ _ _ _ _ _ _ rfl rfl), Lib.hid (h.step hb9), Lib.hid (TreeP.same (fun b _ _ => rfl) (fun b h1 _ => by have := h.2.2.2.1.lt; omega) _ _ _ hT9)⟩)
          have HCS0 := Lib.hid hcs0.drew
          have g2 : (0 : Int) ≤ (k : Int) := by omega
          have q9 : ∀ (v : Value), v ∈ (vCells kind' nn' false (.slice mb' mn' mc') bits' ext' (strL text') (.slice kb' kn' kc')).toList → v.oneCell' = true := by
            intro v hv
            have := vCells_one kind' nn' false (.slice mb' mn' mc') bits' ext' (strL text') (.slice kb' kn' kc') rfl rfl
            rw [Array.all_eq_true_iff_forall_mem] at this
            exact this v (by simpa using hv)
          have HCT := Lib.hid hct
          have HCSZ := Lib.hid hcs
          clear d0 d1 d2 d3 d4 d5 d6 d7 hcs0 k7 hv hgb hcs hct hyk hys8 hT
          go_upto_region 6 with fail
          refine wp_region_noPanic ?_
          refine wp_region_held_drew (S := fun w' => Blk w' w.heap.size cx 33 ∧ Blk w' (w.heap.size + 1) cy 33 ∧ Below w.heap.size w w') (by kernel_rfl) ⟨HCS0.out.1, HCS0.out.2.1, HCS0.out.2.2.1⟩ (fun hH => ?_)
          refine take_at (d := some 20) (hd := by rfl) (i := 0) (oi := _) (v := .pointer (some ⟨w.heap.size, 7, none⟩)) rfl (by kernel_rfl) (by kernel_rfl) (by kernel_rfl) (fun _ _ _ h => h) (Or.inl ⟨by rfl, fun w' hSw => ?_⟩) hH ?_
          · clear hH hSw
            go_simp
          try simp only [Act.put, List.setIfInBounds_toArray, List.set_cons_zero, List.set_cons_succ]
          refine take_at (d := some 21) (hd := by rfl) (i := 1) (oi := _) (v := .slice (some ⟨g, 0, none⟩) m cp) rfl (by kernel_rfl) (by kernel_rfl) (by kernel_rfl) (fun _ _ _ h => h) (Or.inl ⟨by rfl, fun w' hSw => ?_⟩) hH ?_
          · have c7 := H7.out w' hSw
            clear hH hSw
            go_simp
          try simp only [Act.put, List.setIfInBounds_toArray, List.set_cons_zero, List.set_cons_succ]
          refine take_at (d := some 22) (hd := by rfl) (i := 2) (oi := _) (v := .int .i64 (k : Int)) rfl (by kernel_rfl) (by kernel_rfl) (by kernel_rfl) (fun _ _ _ h => h) (Or.inl ⟨by rfl, fun w' hSw => ?_⟩) hH ?_
          · clear hH hSw
            go_simp
          try simp only [Act.put, List.setIfInBounds_toArray, List.set_cons_zero, List.set_cons_succ]
          refine take_at (d := some 23) (hd := by rfl) (i := 3) (oi := _) (v := .pointer (some ⟨w.heap.size, 7, none⟩)) rfl (by kernel_rfl) (by kernel_rfl) (by kernel_rfl) (fun _ _ _ h => h) (Or.inl ⟨by rfl, fun w' hSw => ?_⟩) hH ?_
          · clear hH hSw
            go_simp
          try simp only [Act.put, List.setIfInBounds_toArray, List.set_cons_zero, List.set_cons_succ]
          refine take_at (d := some 24) (hd := by rfl) (i := 4) (oi := _) (v := .slice (some ⟨g, 0, none⟩) m cp) rfl (by kernel_rfl) (by kernel_rfl) (by kernel_rfl) (fun _ _ _ h => h) (Or.inl ⟨by rfl, fun w' hSw => ?_⟩) hH ?_
          · have c7 := H7.out w' hSw
            clear hH hSw
            go_simp
          try simp only [Act.put, List.setIfInBounds_toArray, List.set_cons_zero, List.set_cons_succ]
          refine take_at (d := some 25) (hd := by rfl) (i := 5) (oi := _) (v := .int .i64 (k : Int)) rfl (by kernel_rfl) (by kernel_rfl) (by kernel_rfl) (fun _ _ _ h => h) (Or.inl ⟨by rfl, fun w' hSw => ?_⟩) hH ?_
          · clear hH hSw
            go_simp
          try simp only [Act.put, List.setIfInBounds_toArray, List.set_cons_zero, List.set_cons_succ]
          refine take_at (d := some 26) (hd := by rfl) (i := 6) (oi := _) (v := .pointer (some ⟨g, k * 8, none⟩)) rfl (by kernel_rfl) (by kernel_rfl) (by kernel_rfl) (fun _ _ _ h => h) (Or.inl ⟨by rfl, fun w' hSw => ?_⟩) hH ?_
          · clear hH hSw
            go_simp
          try simp only [Act.put, List.setIfInBounds_toArray, List.set_cons_zero, List.set_cons_succ]
          refine wpAnyH_ready (rs := [7]) (by kernel_rfl) (by simp) ?_
          refine AllReadyH.cons (o := _) rfl (fun K hK => ?_) AllReadyH.nil
          rw [if_pos (by rfl)]
          refine wp_load_mid 33 (.tmp 26) rfl g (k * 8) rfl (vCells kind' nn' false (.slice mb' mn' mc') bits' ext' (strL text') (.slice kb' kn' kc')).toList _ (HLk.out _ HCS0.out) Tryz.underlying33 rfl (by kernel_rfl) ?_
          refine hK.out _ _ hH (fun hH => ?_)
          clear hK K
          try simp only [Act.put, List.setIfInBounds_toArray, List.set_cons_zero, List.set_cons_succ]
          refine wpAnyH_ready (rs := [8]) (by kernel_rfl) (by simp) ?_
          refine AllReadyH.cons (o := _) rfl (fun K hK => ?_) AllReadyH.nil
          go_simp
          refine (HTQ.out _ HCS0.out).mono ?_
          rintro e w9 ⟨zs, rfl, hz1, hz2, hcs9, hT9⟩
          go_wp2_with fail
          refine hK.out _ _ ⟨hcs9.out.1, hcs9.out.2.1, hcs9.out.2.2.1⟩ (fun hH => ?_)
          clear hK K
          try simp only [Act.put, List.setIfInBounds_toArray, List.set_cons_zero, List.set_cons_succ]
          refine take_at (d := some 29) (hd := by rfl) (i := 9) (oi := _) (v := .pointer (some ⟨g, k * 8, none⟩)) rfl (by kernel_rfl) (by kernel_rfl) (by kernel_rfl) (fun _ _ _ h => h) (Or.inl ⟨by rfl, fun w' hSw => ?_⟩) hH ?_
          · clear hH hSw
            go_simp
          try simp only [Act.put, List.setIfInBounds_toArray, List.set_cons_zero, List.set_cons_succ]
          refine wpAnyH_ready (rs := [10]) (by kernel_rfl) (by simp) ?_
          refine AllReadyH.cons (o := _) rfl (fun K hK => ?_) AllReadyH.nil
          rw [if_pos (by rfl)]
          have hth : w9.there g (k * 8) zs.size := fun j hj => by
            have hb9 := hcs9.out.2.2.2.1
            rw [hz1.out] at hj
            refine ⟨?_, hb9.free _⟩
            rw [hb9.cell, Array.getElem?_eq_getElem (by rw [HCSZ.out]; omega)]; rfl
          refine wp_store_mid 33 (.tmp 29) (.tmp 28) rfl g (k * 8) zs rfl rfl hth (by rw [hz1.out]; kernel_rfl) hz2.out ?_
          refine hK.out _ _ ⟨?_, ?_, ?_⟩ (fun hH => ?_)
          · unfold Blk; rw [heap_setCells _ _ (by omega)]; exact hcs9.out.1
          · unfold Blk; rw [heap_setCells _ _ (by omega)]; exact hcs9.out.2.1
          · exact below_setCells (by omega) _ _ _ hcs9.out.2.2.1
          clear hK K
          try simp only [Act.put, List.setIfInBounds_toArray, List.set_cons_zero, List.set_cons_succ]
          refine wpAnyH_done (by kernel_rfl) ?_ _
          refine NoPanic.normal ?_
          have hsame : ∀ b, g < b → b < w9.heap.size → (w9.setCells g (k * 8) zs.toList).heap[b]? = w9.heap[b]? := fun b hb _ => heap_setCells _ _ (by omega) _ _ _
          have HBXn : Hid (Blk (w9.setCells g (k * 8) zs.toList) w.heap.size (vCells kind nn false (.slice b1 l.length c1) bits ext (strL text) (.slice (some ⟨g, 0, none⟩) m cp)) 33) := Lib.hid (by rw [← hcx]; exact hH.1)
          have HBYn : Hid (Blk (w9.setCells g (k * 8) zs.toList) (w.heap.size + 1) #[.int .i8 0, .int .u64 0, .bool false, .slice none 0 0, .int .u64 0, .int .i8 0, .string ⟨#[]⟩, .slice none 0 0] 33) := Lib.hid (by rw [← hcy]; exact hH.2.1)
          have HBn := Lib.hid hH.2.2
          have HGn : Hid (∃ cur, Blk (w9.setCells g (k * 8) zs.toList) g cur 33 ∧ cur.size = cp * 8 ∧ cur.toList.take (m * 8) = rowL m (fun i => if i = k then zs else ys i)) := Lib.hid ⟨_, Blk.setCells _ _ _ _ hcs9.out.2.2.2.1, by rw [upd_size]; exact HCSZ.out, upd_row HCSZ.out hmcp h1 hz1.out HCT.out⟩
          have HTn : Hid (∀ i, i < k + 1 → ((fun i => if i = k then zs else ys i) i).size = 8 ∧ TreeP (w9.setCells g (k * 8) zs.toList) (fun b => g < b) (fs i) (ds i) (.agg ((fun i => if i = k then zs else ys i) i))) := Lib.hid (fun i hi => by
            by_cases he : i = k
            · subst he
              simp only [if_true]
              exact ⟨hz1.out, TreeP.same hsame (fun b h _ => h) _ _ _ hT9.out⟩
            · simp only [if_neg he]
              have := hcs9.out.2.2.2.2 i (by omega)
              exact ⟨this.1, TreeP.same hsame (fun b h _ => h) _ _ _ this.2⟩)
          have HYn : Hid (∀ i, k + 1 ≤ i → (fun i => if i = k then zs else ys i) i = xs i) := Lib.hid (fun i hi => by
            simp only [if_neg (show ¬ i = k by omega)]
            exact HYr.out i (by omega))
          clear hsame hH hcs9 hT9 hth HLk H7 HTQ HCS0 g2 q9 HCT
          generalize w9.setCells g (k * 8) zs.toList = w10 at HBXn HBYn HBn HGn HTn ⊢
          go_wp2
          go_roundw
          case rel => exact ⟨k + 1, _, by omega, by simp, HBXn, HBYn, HBn, HGn, HTn, HYn⟩
          case measure => simp [intOf]; omega
        · obtain rfl : k = m := by omega
          have g1 : ¬ (k : Int) < (k : Int) := by omega
          go_upto_region 8 with fail
          refine wp_region_lit ?_
          refine wpList_load_row rfl 33 _ rfl w.heap.size rfl 33 _ (0, 0) _ HBXr.out Tryz.underlying33 rfl (by kernel_rfl) ?_
          refine wpList_store_row rfl 33 _ _ rfl (w.heap.size + 1) (vCells kind nn false (.slice b1 l.length c1) bits ext (strL text) (.slice (some ⟨g, 0, none⟩) k cp)) rfl rfl 33 _ HBYr.out (by kernel_rfl) rfl (vCells_one _ _ _ _ _ _ _ _ rfl rfl) ?_
          have hfin : Blk (wr.setRow (w.heap.size + 1) (vCells kind nn false (.slice b1 l.length c1) bits ext (strL text) (.slice (some ⟨g, 0, none⟩) k cp))) (w.heap.size + 1) (vCells kind nn false (.slice b1 l.length c1) bits ext (strL text) (.slice (some ⟨g, 0, none⟩) k cp)) 33 := setRow_heap _ _ _ _ _ _ HBYr.out
          have HFIN := Lib.hid hfin
          clear hfin
          go_wp2
          obtain ⟨cur, hgb, hcs, hct⟩ := HGr.out
          have hoth : ∀ b, b ≠ w.heap.size + 1 → (wr.setRow (w.heap.size + 1) (vCells kind nn false (.slice b1 l.length c1) bits ext (strL text) (.slice (some ⟨g, 0, none⟩) k cp))).heap[b]? = wr.heap[b]? := fun b hb => setRow_other _ _ _ _ hb
          refine bodyPost_ret (v := .agg (vCells kind nn false (.slice b1 l.length c1) bits ext (strL text) (.slice (some ⟨g, 0, none⟩) k cp))) (results_cell_row rfl _ _ (w.heap.size + 1) 33 _ (0, 0) _ rfl HFIN.out Tryz.underlying33 rfl (by kernel_rfl)) rfl ⟨below_setRow HBr.out (by omega) _, _, rfl, kind, nn, _, bits, ext, text, _, k, rfl, ?_, HTOLD.out, .inr ⟨h0, g, 0, cp, ys, ds, rfl, hmcp, hcpm, ⟨?_, by omega⟩, ?_, fun i hi => ⟨?_, (HKID.out i hi).2⟩, HEX.out⟩⟩
          · refine HF.out.renew l HL3.out (B := w.heap.size) ?_ HZ.out
            rw [HMAG.out]
            have hl0 : l.length = 0 := by
              have := HMAG.out; simp only [Value.slice.injEq] at this; exact this.2.1
            have : l = [] := List.eq_nil_of_length_eq_zero hl0
            rw [this]
            exact ⟨Limbs.nil _, fun b o k c e => by simp at e⟩
          · simpa using hgb.lt
          · refine vrow_of (t := 33) (cur := cur) ?_ (fun i hi => (HTr.out i hi).1) hct
            rw [hoth g (by omega)]; exact hgb
          · exact TreeP.same (fun b hb _ => hoth b (by omega)) (fun b hb _ => by omega) _ _ _ (HTr.out i hi).2
end Go.Proofs.YtbhfoelnoddlkaaGreatDoor.D

