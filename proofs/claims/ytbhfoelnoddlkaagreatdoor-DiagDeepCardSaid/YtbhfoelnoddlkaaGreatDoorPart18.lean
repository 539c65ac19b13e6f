/-
  Of the proof that the law DiagDeep answers true at every row of bytes: a part, without conditions of its own.
-/
import Derived.Test.YtbhfoelnoddlkaaGreatDoorPart02
import Derived.Test.YtbhfoelnoddlkaaGreatDoorPart03
import Derived.Lib.Builder
import Derived.Lib.AppendStr
import Derived.Lib.UnsafeStr
import Derived.Shelf.RegionOpenPlain
import Derived.Laws.Externs
set_option linter.unusedVariables false
set_option linter.unusedSimpArgs false
/-
  math/bits.Div32, nat.Small: walked.
-/
namespace Go.Proofs.YtbhfoelnoddlkaaGreatDoor.D
open Go Go.RowKit Limb

theorem or_u64_hi (a b : Nat) (ha : a < 4294967296) (hb : b < 4294967296) : bits .or .u64 ((a * 4294967296 : Nat) : Int) (b : Int) = ((a * 4294967296 + b : Nat) : Int) := by
  rw [or_u64 _ _ (by omega) (by omega), Nat.or_comm, show (4294967296 : Nat) = 2 ^ 32 from rfl, or_add _ _ 32 hb, Nat.add_comm]

set_option maxRecDepth 100000 in
set_option maxHeartbeats 1000000 in
theorem div32_any (w : World) (h l d : Nat) (hd : h < d) (hl : l < 4294967296) (hd2 : d < 4294967296) :
    Calls Tryz.prog 227 #[.int .u32 (h : Int), .int .u32 (l : Int), .int .u32 (d : Int)] w fun e w' => e = .returned (.tuple #[.int .u32 (((h * 4294967296 + l) / d : Nat) : Int), .int .u32 (((h * 4294967296 + l) % d : Nat) : Int)]) ∧ ∃ n, w' = w.drewN n := by
  have g0 : ((d : Int) != 0) = true := by rw [bne_iff_ne]; omega
  have g1 : ¬ (d : Int) ≤ (h : Int) := by omega
  have g2 : IntKind.u64.wrap (h : Int) = (h : Int) := by rw [IntKind.wrap_u64]; omega
  have g3 : IntKind.u64.wrap (l : Int) = (l : Int) := by rw [IntKind.wrap_u64]; omega
  have g4 : IntKind.u64.wrap (d : Int) = (d : Int) := by rw [IntKind.wrap_u64]; omega
  have g5 := or_u64_hi h l (by omega) hl
  rw [show ((h * 4294967296 : Nat) : Int) = (h : Int) * 4294967296 by simp] at g5
  obtain ⟨X, hX⟩ : ∃ X, X = h * 4294967296 + l := ⟨_, rfl⟩
  rw [← hX] at g5 ⊢
  obtain ⟨Q, hQ⟩ : ∃ Q, Q = X / d := ⟨_, rfl⟩
  obtain ⟨R, hR⟩ : ∃ R, R = X % d := ⟨_, rfl⟩
  rw [← hQ, ← hR]
  have hQ2 : Q < 4294967296 := by rw [hQ]; exact Nat.div_lt_of_lt_mul (by rw [hX]; exact Nat.lt_of_lt_of_le (show h * 4294967296 + l < (h + 1) * 4294967296 by omega) (by rw [Nat.mul_comm d]; rw [Nat.mul_comm (h + 1)]; exact Nat.mul_le_mul_left _ hd))
  have hR2 : R < 4294967296 := by rw [hR]; exact Nat.lt_trans (Nat.mod_lt _ (by omega)) hd2
  have g6 : (X : Int).tdiv (d : Int) = (Q : Int) := by rw [Int.tdiv_eq_ediv_of_nonneg (by omega), hQ]; simp
  have g7 : (X : Int).tmod (d : Int) = (R : Int) := by rw [Int.tmod_eq_emod_of_nonneg (by omega), hR]; simp
  have g8 : IntKind.u64.wrap (Q : Int) = (Q : Int) := by rw [IntKind.wrap_u64]; omega
  have g9 : (Q : Int) % 4294967296 = (Q : Int) := by omega
  have g10 : (R : Int) % 4294967296 = (R : Int) := by omega
  clear hX hQ hR
  go_enter Tryz.func227, Tryz.ntmps227
  go_wp2
  go_quiet (fail)
  go_wp2
  go_ret2
  exact ⟨rfl, _, rfl⟩

/-- Long division by a small number, from the top. -/
def smallL (d : Nat) : List Nat → List Nat × Nat
  | [] => ([], 0)
  | x :: t => (((smallL d t).2 * 4294967296 + x) / d :: (smallL d t).1, ((smallL d t).2 * 4294967296 + x) % d)
theorem smallL_length (d : Nat) (l : List Nat) : (smallL d l).1.length = l.length := by
  induction l with
  | nil => rfl
  | cons x t ih => simp [smallL, ih]
theorem smallL_val (d : Nat) (hd : 0 < d) (l : List Nat) : val l = d * val (smallL d l).1 + (smallL d l).2 ∧ (smallL d l).2 < d := by
  induction l with
  | nil => simp [smallL, val, hd]
  | cons x t ih =>
    obtain ⟨h1, h2⟩ := ih
    refine ⟨?_, Nat.mod_lt _ hd⟩
    simp only [smallL, val]
    rw [h1]
    generalize (smallL d t).2 = r
    generalize val (smallL d t).1 = q
    have h3 := Nat.div_add_mod (r * 4294967296 + x) d
    generalize (r * 4294967296 + x) % d = m at *
    generalize (r * 4294967296 + x) / d = k at *
    rw [Nat.mul_add, Nat.mul_add, Nat.mul_left_comm d]
    omega
theorem smallL_fit (d : Nat) (hd : 0 < d) (l : List Nat) (hf : Fit l) : Fit (smallL d l).1 := by
  induction l with
  | nil => intro x hx; simp [smallL] at hx
  | cons x t ih =>
    intro y hy
    simp only [smallL, List.mem_cons] at hy
    rcases hy with rfl | hy
    · have h2 := (smallL_val d hd t).2
      have hx := hf x (by simp)
      generalize (smallL d t).2 = r at *
      exact Nat.div_lt_of_lt_mul (Nat.lt_of_lt_of_le (show r * 4294967296 + x < (r + 1) * 4294967296 by omega) (by rw [Nat.mul_comm d, Nat.mul_comm (r + 1)]; exact Nat.mul_le_mul_left _ h2))
    · exact ih (fun z hz => hf z (by simp [hz])) y hy
theorem smallL_eq (d : Nat) (hd : 0 < d) (l : List Nat) : val (smallL d l).1 = val l / d ∧ (smallL d l).2 = val l % d := by
  obtain ⟨h1, h2⟩ := smallL_val d hd l
  constructor
  · rw [h1, Nat.mul_add_div hd, Nat.div_eq_of_lt h2, Nat.add_zero]
  · rw [h1, Nat.mul_add_mod, Nat.mod_eq_of_lt h2]
theorem Limbs.at {w : World} {blk off n cap : Nat} {l : List Nat} (h : Limbs w (.slice (some ⟨blk, off, none⟩) n cap) l) (hn : 0 < l.length) : n = l.length ∧ ∀ i, i < l.length → w.cell? ⟨blk, off + i, none⟩ = some (.int .u32 (l.getD i 0 : Nat)) := by
  obtain ⟨_, ⟨h, _⟩ | ⟨b, o, c, hv, _, _, _, h4⟩⟩ := h
  · simp at h
  · simp only [Value.slice.injEq, Option.some.injEq, Addr.mk.injEq] at hv
    obtain ⟨⟨rfl, rfl, _⟩, rfl, _⟩ := hv
    exact ⟨rfl, h4⟩
theorem set_rep (k : Nat) (q : List Nat) (y : Nat) : (List.replicate (k + 1) 0 ++ q).set k y = List.replicate k 0 ++ y :: q := by
  rw [List.replicate_succ', List.append_assoc, List.set_append_right _ _ (by simp)]
  simp
theorem drop_at (l : List Nat) (k : Nat) (h : k < l.length) : l.drop k = l.getD k 0 :: l.drop (k + 1) := by
  rw [List.drop_eq_getElem_cons h, List.getD_eq_getElem?_getD, List.getElem?_eq_getElem h]; rfl
theorem getD_fit {l : List Nat} (hf : Fit l) (k : Nat) (h : k < l.length) : l.getD k 0 < 4294967296 := by
  rw [List.getD_eq_getElem?_getD, List.getElem?_eq_getElem h]; exact hf _ (List.getElem_mem _)

set_option maxRecDepth 100000 in
set_option maxHeartbeats 1000000 in
theorem small_any (w : World) (v : Value) (l : List Nat) (d : Nat) (h : Limbs w v l) (hl : l.length ≤ 34359738368) (hd : 0 < d) (hd2 : d < 4294967296) :
    Calls Tryz.prog 192 #[v, .int .u32 (d : Int)] w fun e w' => Below w.heap.size w w' ∧ ∃ v', e = .returned (.tuple #[v', .int .u32 ((val l % d : Nat) : Int), .bool true]) ∧ Limbs w' v' (limbs (val l / d)) := by
  have hfl := h.fit
  obtain ⟨b, c, rfl⟩ := h.slice
  obtain ⟨n, hn⟩ : ∃ n, n = l.length := ⟨_, rfl⟩
  have g0 : ((d : Int) == 0) = false := beq_eq_false_iff_ne.2 (by omega)
  have hmk := make_nat w n (by omega)
  have hB := Blk.new w (uCells (List.replicate n 0)) 140
  have hb : Below w.heap.size w (w.alloc (.cells (uCells (List.replicate n 0)) 140)) := (Below.refl _ _).alloc (Nat.le_refl _) _
  have HL := Lib.hid h
  have HN := Lib.hid hn
  have HF := Lib.hid hfl
  have hn2 : n ≤ 34359738368 := by omega
  rw [← hn]
  clear h hn hl hfl
  go_enter Tryz.func192, Tryz.ntmps192
  go_upto_region 4 with fail
  clear hmk
  generalize w.alloc (.cells (uCells (List.replicate n 0)) 140) = w1 at hB hb ⊢
  have HB := Lib.hid hB
  have HX := Lib.hid hb
  clear hB hb
  go_wp2
  go_loopw [5, 8, 9, 17] (fun r _ _ i wr => ∃ j : Nat, j ≤ n ∧ i = .int .i64 j ∧ r = .int .u32 ((smallL d (l.drop (n - j))).2 : Nat) ∧ Hid (Blk wr w.heap.size (uCells (List.replicate (n - j) 0 ++ (smallL d (l.drop (n - j))).1)) 140) ∧ Hid (Below w.heap.size w wr)) (fun _ _ _ i _ => n - (intOf i).toNat)
  case atStart =>
    have hd0 : l.drop (n - 0) = [] := by rw [Nat.sub_zero, HN.out]; simp
    refine ⟨0, by omega, rfl, ?_, ?_, HX⟩
    · rw [hd0]; rfl
    · rw [hd0, smallL, List.append_nil, Nat.sub_zero]; exact HB
  case round =>
    clear HB HX
    obtain ⟨j, hj, rfl, rfl, HBr, HXr⟩ := hrel
    by_cases h1 : j < n
    · obtain ⟨k, hk⟩ : ∃ k, k = n - j - 1 := ⟨_, rfl⟩
      have hkl : k < l.length := by have := HN.out; omega
      have hnk : n - j = k + 1 := by omega
      obtain ⟨_, ⟨_, hy⟩ | ⟨blk, off, cap, hv, p1, p2, p3, p4⟩⟩ := HL.out.below HXr.out
      · rw [hy] at hkl; simp at hkl
      · simp only [Value.slice.injEq] at hv
        obtain ⟨rfl, -, rfl⟩ := hv
        have hc := p4 k hkl
        have hxf := getD_fit HF.out k hkl
        have hdrop := drop_at l k hkl
        have HD : Hid (smallL d (l.drop k) = (((smallL d (l.drop (k + 1))).2 * 4294967296 + l.getD k 0) / d :: (smallL d (l.drop (k + 1))).1, ((smallL d (l.drop (k + 1))).2 * 4294967296 + l.getD k 0) % d)) := Lib.hid (by rw [hdrop]; rfl)
        have hr := (smallL_val d hd (l.drop (k + 1))).2
        rw [hnk] at HBr ⊢
        clear p4 hdrop
        generalize l.getD k 0 = x at hc hxf HD
        generalize (smallL d (l.drop (k + 1))).2 = r at hr HD ⊢
        generalize (smallL d (l.drop (k + 1))).1 = q at HBr HD
        have HDV := Lib.hid (fun w => div32_any w r x d hr hxf hd2)
        have g1 : (j : Int) < (n : Int) := by omega
        have g2 : IntKind.i64.wrap ((n : Int) - 1) = (n : Int) - 1 := IntWalk.i64_in _ (by omega)
        have g3 : IntKind.i64.wrap ((n : Int) - 1 - (j : Int)) = (k : Int) := by rw [IntWalk.i64_in _ (by omega)]; omega
        have g4 : (k : Int) < (n : Int) := by omega
        generalize (r * 4294967296 + x) / d = y at HD HDV
        generalize (r * 4294967296 + x) % d = z at HD HDV
        have HK := Lib.hid hk
        clear hk hnk
        go_wp2_with fail
        refine (HDV.out _).mono ?_
        rintro e w2 ⟨rfl, m, rfl⟩
        have hB2 := HBr.out.drewN m
        have hX2 := below_drewN HXr.out m
        clear HBr HXr hc
        generalize wr.drewN m = w2 at hB2 hX2 ⊢
        have f1 : w2.frozen? ⟨w.heap.size, k, none⟩ = false := hB2.free k
        have e1 : w2.cell? ⟨w.heap.size, k, none⟩ = some (.int .u32 (((List.replicate (k + 1) 0 ++ q).getD k 0 : Nat) : Int)) := by rw [hB2.cell, uCells_at _ _ (by simp; omega)]
        generalize ((List.replicate (k + 1) 0 ++ q).getD k 0 : Nat) = u at e1
        have hB3 := hB2.set k (.int .u32 (y : Int))
        rw [uCells_set, set_rep] at hB3
        have HB3 := Lib.hid hB3
        have HX3 := Lib.hid (hX2.setCell (p := ⟨w.heap.size, k, none⟩) (Nat.le_refl _) (.int .u32 (y : Int)))
        clear hB2 hX2 hB3
        go_wp2
        go_roundw
        case rel =>
          refine ⟨j + 1, by omega, by simp, ?_, ?_, HX3⟩
          · rw [show n - (j + 1) = k by have := HK.out; omega, HD.out]
          · rw [show n - (j + 1) = k by have := HK.out; omega, HD.out]; exact HB3
        case measure => simp [intOf]; omega
    · obtain rfl : j = n := by omega
      have g1 : ¬ (j : Int) < (j : Int) := by omega
      have hfin := HBr.out
      rw [Nat.sub_self, List.drop_zero, List.replicate_zero, List.nil_append] at hfin
      have hlen := smallL_length d l
      have hlim := limbs_of_blk hfin (smallL_fit d hd l HF.out) j j (by rw [hlen, HN.out]; exact Nat.le_refl _) (Nat.le_refl _) (by omega)
      rw [List.take_of_length_le (by rw [hlen, HN.out]; exact Nat.le_refl _)] at hlim
      have HC := Lib.hid (cut_any wr _ _ hlim)
      rw [trim_eq (smallL_fit d hd l HF.out), (smallL_eq d hd l).1] at HC
      have HR : Hid ((smallL d (l.drop (j - j))).2 = val l % d) := Lib.hid (by rw [Nat.sub_self, List.drop_zero]; exact (smallL_eq d hd l).2)
      rw [HR.out]
      clear hfin hlen hlim HBr HR
      go_wp2_with fail
      refine HC.out.mono ?_
      rintro e w2 ⟨rfl, v2, rfl, h2⟩
      have H2 := Lib.hid h2
      obtain ⟨b', c', rfl⟩ := h2.slice
      clear h2 HC
      go_wp2
      refine bodyPost_ret (v := .tuple #[.slice b' (limbs (val l / d)).length c', .int .u32 ((val l % d : Nat) : Int), .bool true]) (by simp [results, Tryz.results192, go_sem]) rfl ⟨HXr.out, _, rfl, H2.out⟩
end Go.Proofs.YtbhfoelnoddlkaaGreatDoor.D

/-
  strings.Builder, where it is the head of a block: copyCheck, Len, WriteString, WriteByte, String: walked.
-/
namespace Go.Proofs.YtbhfoelnoddlkaaGreatDoor.D
open Go Go.RowKit Limb

theorem add_plain (b o j : Nat) : (⟨b, o, none⟩ : Addr).add j = ⟨b, o + j, none⟩ := by unfold Addr.add; split <;> simp_all
/-- Block b, of type T, begins with a builder that holds these bytes: p: what 'addr' holds; r: the cells behind it. -/
def BAt (T : TypeId) (r : List Value) (B b : Nat) (p : Value) (L : List UInt8) (w : World) : Prop :=
  B ≤ b ∧ ∃ v, w.heap[b]? = some (.cells (p :: v :: r).toArray T (0, 0)) ∧ w.ownsRow B 5 1 v L.length (Lib.byteCells L) ∧ v.ownBlock ≠ some b
def BIs (T : TypeId) (r : List Value) (B b : Nat) (L : List UInt8) (w : World) : Prop := BAt T r B b (.pointer none) L w ∨ BAt T r B b (.pointer (some ⟨b, 0, none⟩)) L w
/-- A type whose values begin with a builder. -/
structure BTy (T : TypeId) (r : List Value) : Prop where
  ne : T ≠ 5
  lies : liesAt Tryz.prog Tryz.prog.depth T ((r.length + 2) / Tryz.prog.cellsOf T) 0 65 1 = true
/-- Below B all is as it was; above it all but block b and rows of bytes. -/
def Wk (B b : Nat) (w w' : World) : Prop := Below B w w' ∧ w.heap.size ≤ w'.heap.size ∧ ∀ k, k < w.heap.size → k ≠ b → (∀ c fr, w.heap[k]? ≠ some (.cells c 5 fr)) → w'.heap[k]? = w.heap[k]?
theorem Wk.refl (B b : Nat) (w : World) : Wk B b w w := ⟨Below.refl _ _, Nat.le_refl _, fun _ _ _ _ => rfl⟩
theorem Wk.trans {B b : Nat} {w w1 w2 : World} (h : Wk B b w w1) (k : Wk B b w1 w2) : Wk B b w w2 :=
  ⟨h.1.trans k.1, Nat.le_trans h.2.1 k.2.1, fun j hj hb hc => by
    have e := h.2.2 j hj hb hc
    rw [← e]
    exact k.2.2 j (by have := h.2.1; omega) hb (fun c fr => by rw [e]; exact hc c fr)⟩
theorem Wk.of_below {B b : Nat} {w w' : World} (h : Below w.heap.size w w') (hB : B ≤ w.heap.size) : Wk B b w w' := ⟨h.mono hB, h.size, fun k hk _ _ => h.block k hk⟩
theorem Wk.drewN {B b : Nat} {w w' : World} (h : Wk B b w w') (n : Nat) : Wk B b w (w'.drewN n) := ⟨below_drewN h.1 n, h.2.1, h.2.2⟩
theorem Wk.setCell {B b : Nat} {w w' : World} (h : Wk B b w w') (hB : B ≤ b) (i : Nat) (v : Value) : Wk B b w (w'.setCell ⟨b, i, none⟩ v) :=
  h.trans ⟨(Below.refl _ _).setCell (p := ⟨b, i, none⟩) hB v, by simp [World.setCell], fun k _ hk _ => Below.heap_setCell _ _ _ _ hk⟩
theorem Wk.grown {B b : Nat} {w w1 w2 : World} {v : Value} {n : Nat} {xs : List Value} (h : Wk B b w w1) (hg : w1.grownBy w2 v.ownBlock) (hown : w1.ownsRow B 5 1 v n xs) (hBw : B ≤ w1.heap.size) : Wk B b w w2 :=
  h.trans ⟨(Below.refl B w1).grown hg hBw (fun k hk => (hown.lt k hk).1), hg.size, fun k hk _ hc => hg.block k hk (fun e => by
    rcases hown.2 with ⟨hv, _⟩ | ⟨g, cap, cur, hv, _, hgr, _⟩
    · rw [hv] at e; simp [Value.ownBlock] at e
    · rw [hv] at e
      simp only [Value.ownBlock, Option.some.injEq] at e
      subst e
      exact hc _ _ hgr)⟩
theorem infoB : (Tryz.prog.info? 65).map (·.size) = some 2 := by kernel_rfl
theorem info5 : (Tryz.prog.info? 5).map (fun i => (i.zero, i.size, i.bytes)) = some (some (.int .u8 0), 1, 1) := by kernel_rfl
theorem info5' : ∃ i, Tryz.prog.info? 5 = some i ∧ i.zero = some (.int .u8 0) ∧ i.size = 1 ∧ i.bytes = 1 := by
  have hinfo := info5
  cases hq : Tryz.prog.info? 5 with
  | none => rw [hq] at hinfo; cases hinfo
  | some i =>
    rw [hq] at hinfo
    simp only [Option.map_some, Option.some.injEq, Prod.mk.injEq] at hinfo
    exact ⟨i, rfl, hinfo⟩
theorem BAt.lt {T : TypeId} {r : List Value} {B b : Nat} {p : Value} {L : List UInt8} {w : World} (h : BAt T r B b p L w) : b < w.heap.size := by
  obtain ⟨_, v, hb, _⟩ := h
  exact (Array.getElem?_eq_some_iff.1 hb).1
theorem BAt.used {T : TypeId} {r : List Value} {B b : Nat} {p : Value} {L : List UInt8} {w : World} (h : BAt T r B b p L w) (q : Value) : BAt T r B b q L (w.setCell ⟨b, 0, none⟩ q) := by
  obtain ⟨hB, v, hb, hown, hne⟩ := h
  refine ⟨hB, v, ?_, ?_, hne⟩
  · simp [World.setCell, Array.getElem?_modify, hb]
  · refine hown.kept (row := some b) ⟨rfl, rfl, rfl, by simp [World.setCell], fun k _ hk => Below.heap_setCell _ _ _ _ (fun e => hk (by simp [e]))⟩ ?_
    exact Or.inr hne
theorem BAt.put {T : TypeId} {r : List Value} {B b : Nat} {p v v' : Value} {L : List UInt8} {w : World} (hB : B ≤ b) (hb : w.heap[b]? = some (.cells (p :: v :: r).toArray T (0, 0))) (hown : w.ownsRow B 5 1 v' L.length (Lib.byteCells L)) (hT : T ≠ 5) : BAt T r B b p L (w.setCell ⟨b, 1, none⟩ v') := by
  have hne := Lib.ownBlock_ne hown hb hT
  refine ⟨hB, v', ?_, ?_, hne⟩
  · simp [World.setCell, Array.getElem?_modify, hb]
  · exact hown.kept (row := some b) ⟨rfl, rfl, rfl, by simp [World.setCell], fun k _ hk => Below.heap_setCell _ _ _ _ (fun e => hk (by simp [e]))⟩ (Or.inr hne)
/-- The builder is where it was when all blocks from B on are. -/
theorem BAt.below {T : TypeId} {r : List Value} {B b : Nat} {p : Value} {L : List UInt8} {w w' : World} (h : BAt T r B b p L w) (hb : Below w.heap.size w w') : BAt T r B b p L w' := by
  obtain ⟨hB, v, hbk, hown, hne⟩ := h
  have hlt := (Array.getElem?_eq_some_iff.1 hbk).1
  refine ⟨hB, v, by rw [hb.block b hlt]; exact hbk, ?_, hne⟩
  obtain ⟨hl, h0 | ⟨g, cap, cur, hv, hBg, hg, r⟩⟩ := hown
  · exact ⟨hl, .inl h0⟩
  · exact ⟨hl, .inr ⟨g, cap, cur, hv, hBg, by rw [hb.block g (Array.getElem?_eq_some_iff.1 hg).1]; exact hg, r⟩⟩
theorem BIs.below {T : TypeId} {r : List Value} {B b : Nat} {L : List UInt8} {w w' : World} (h : BIs T r B b L w) (hb : Below w.heap.size w w') : BIs T r B b L w' := h.imp (fun h => h.below hb) (fun h => h.below hb)
theorem BIs.at_ {T : TypeId} {r : List Value} {B b : Nat} {L : List UInt8} {w : World} (h : BIs T r B b L w) : ∃ p, BAt T r B b p L w := by
  rcases h with h | h
  · exact ⟨_, h⟩
  · exact ⟨_, h⟩

set_option maxRecDepth 100000 in
set_option maxHeartbeats 1000000 in
theorem cc_used (b : Nat) (w : World) (h0 : w.cell? ⟨b, 0, none⟩ = some (.pointer (some ⟨b, 0, none⟩))) :
    Calls Tryz.prog 128 #[.pointer (some ⟨b, 0, none⟩)] w fun e w' => e = .returned (.tuple #[]) ∧ w' = w := by
  obtain ⟨j, hj, _⟩ := Option.map_eq_some_iff.1 infoB
  go_enter Tryz.func128, Tryz.ntmps128
  go_wp2
  rw [Lib.run_neq_ptr_same w _ Tryz.underlying63 hj]
  go_wp2
  go_end0
  exact ⟨rfl, rfl⟩
set_option maxRecDepth 100000 in
set_option maxHeartbeats 1000000 in
theorem cc_fresh (T : TypeId) (n : Nat) (b : Nat) (w : World) (h0 : w.cell? ⟨b, 0, none⟩ = some (.pointer none)) (hsh : w.shape? b = some (T, n)) (hn : 0 < n) (hl : liesAt Tryz.prog Tryz.prog.depth T (n / Tryz.prog.cellsOf T) 0 65 1 = true) (hfz : w.frozen? ⟨b, 0, none⟩ = false) :
    Calls Tryz.prog 128 #[.pointer (some ⟨b, 0, none⟩)] w fun e w' => e = .returned (.tuple #[]) ∧ w' = w.setCell ⟨b, 0, none⟩ (.pointer (some ⟨b, 0, none⟩)) := by
  obtain ⟨j, hj, hjs⟩ := Option.map_eq_some_iff.1 infoB
  go_enter Tryz.func128, Tryz.ntmps128
  go_wp2
  rw [Lib.run_to_unsafe w ⟨b, 0, none⟩ Tryz.underlying63 Tryz.underlying130 hj (by rw [hjs]; decide) hsh hn]
  simp only [Result.andThen]
  rw [Oper.upon_value]
  go_wp2
  rw [run_callFunc_extern Tryz.func189 (by kernel_rfl) (by kernel_rfl) (by kernel_rfl) (e := Extern.AbiNoEscape.same) (by kernel_rfl)]
  rw [Lib.run_noEscape]
  simp only [Result.andThen]
  rw [Oper.upon_value]
  go_wp2
  rw [Lib.run_from_unsafe w ⟨b, 0, none⟩ Tryz.underlying130 Tryz.underlying63 hj hsh hl]
  simp only [Result.andThen]
  rw [Oper.upon_value]
  go_wp2
  go_end0
  exact ⟨rfl, rfl⟩
theorem cc_any {T : TypeId} {r : List Value} (hT : BTy T r) (B b : Nat) (L : List UInt8) (w : World) (h : BIs T r B b L w) :
    Calls Tryz.prog 128 #[.pointer (some ⟨b, 0, none⟩)] w fun e w' => e = .returned (.tuple #[]) ∧ BAt T r B b (.pointer (some ⟨b, 0, none⟩)) L w' ∧ Wk B b w w' := by
  rcases h with h | h
  · obtain ⟨hB, v, hbk, hown, hne⟩ := h
    refine (cc_fresh T (r.length + 2) b w (by rw [Lib.cell_of_heap hbk]; rfl) (by simp [World.shape?, hbk]) (by omega) hT.lies (Lib.frozen_of_heap hbk 0)).mono ?_
    rintro e w' ⟨rfl, rfl⟩
    exact ⟨rfl, BAt.used ⟨hB, v, hbk, hown, hne⟩ _, (Wk.refl B b w).setCell hB 0 _⟩
  · obtain ⟨hB, v, hbk, hown, hne⟩ := h
    refine (cc_used b w (by rw [Lib.cell_of_heap hbk]; rfl)).mono ?_
    rintro e w' ⟨rfl, rfl⟩
    exact ⟨rfl, ⟨hB, v, hbk, hown, hne⟩, Wk.refl B b _⟩

set_option maxRecDepth 100000 in
theorem blen_any {T : TypeId} {r : List Value} (B b : Nat) (L : List UInt8) (w : World) (h : BIs T r B b L w) :
    Calls Tryz.prog 23 #[.pointer (some ⟨b, 0, none⟩)] w fun e w' => e = .returned (.int .i64 L.length) ∧ w' = w := by
  obtain ⟨p, hB, v, hbk, hown, hne⟩ := h.at_
  obtain ⟨ao, cap, rfl⟩ : ∃ ao cap, v = .slice ao L.length cap := by
    rcases hown.2 with ⟨hv, h0⟩ | ⟨g, cap, cur, hv, _⟩
    · exact ⟨none, 0, by rw [hv, h0]⟩
    · exact ⟨_, _, hv⟩
  have c1 : w.cell? ⟨b, 1, none⟩ = some (.slice ao L.length cap) := by rw [Lib.cell_of_heap hbk]; rfl
  clear hbk hown hne
  go_enter Tryz.func23, Tryz.ntmps23
  go_wp2
  go_ret
  exact ⟨rfl, rfl⟩

set_option maxRecDepth 100000 in
set_option maxHeartbeats 2000000 in
theorem wstr_any {T : TypeId} {r : List Value} (hT : BTy T r) (B b : Nat) (L s : List UInt8) (w : World) (h : BIs T r B b L w) (hlen : L.length + s.length ≤ 140737488355328) (hBw : B ≤ w.heap.size) :
    Calls Tryz.prog 84 #[.pointer (some ⟨b, 0, none⟩), .string (strL s)] w fun e w' => e = .returned (.tuple #[.int .i64 s.length, .nilIface]) ∧ BAt T r B b (.pointer (some ⟨b, 0, none⟩)) (L ++ s) w' ∧ Wk B b w w' := by
  obtain ⟨i0, hi, hz0, hz1, hz2⟩ := info5'
  have HT := Lib.hid hT
  have HC := Lib.hid (cc_any hT B b L w h)
  have HI := Lib.hid hi
  have hsz : (strL s).size = s.length := rfl
  clear h hT hi
  go_enter Tryz.func84, Tryz.ntmps84
  go_wp2_with fail
  refine HC.out.mono ?_
  rintro e w1 ⟨rfl, ⟨hB, v, hbk, hown, hne⟩, hb1⟩
  have c0 : w1.cell? ⟨b, 0, none⟩ = some (.pointer (some ⟨b, 0, none⟩)) := by rw [Lib.cell_of_heap hbk]; rfl
  have c1 : w1.cell? ⟨b, 1, none⟩ = some v := by rw [Lib.cell_of_heap hbk]; rfl
  go_wp2_with (at_builtin; refine Lib.wpList_append_own_string _ rfl _ _ 22 9 rfl B 5 i0 Tryz.underlying22 Tryz.underlying9 HI.out hz0 hz1 hz2 _ _ _ rfl hown (strL s) rfl ?c3 ?c4 ?c5 ?_)
  case c3 => unfold maxLen; rw [hsz]; omega
  case c4 => rw [hsz]; omega
  case c5 => have := hb1.1.size; omega
  intro v' w2 hown' hgrow _
  have hlt : b < w1.heap.size := (Array.getElem?_eq_some_iff.1 hbk).1
  have hb2 : w2.heap[b]? = some (.cells (.pointer (some ⟨b, 0, none⟩) :: v :: r).toArray T (0, 0)) := by
    rw [hgrow.block b hlt (fun e => hne e.symm)]
    exact hbk
  have d0 : w2.cell? ⟨b, 0, none⟩ = some (.pointer (some ⟨b, 0, none⟩)) := by rw [Lib.cell_of_heap hb2]; rfl
  have d1 : w2.cell? ⟨b, 1, none⟩ = some v := by rw [Lib.cell_of_heap hb2]; rfl
  have f1 : w2.frozen? ⟨b, 1, none⟩ = false := Lib.frozen_of_heap hb2 1
  obtain ⟨ao, n', cap, rfl⟩ : ∃ ao n' cap, v' = .slice ao n' cap := by
    rcases hown'.2 with ⟨hv, _⟩ | ⟨g, cap, cur, hv, _⟩
    · exact ⟨_, _, _, hv⟩
    · exact ⟨_, _, _, hv⟩
  rw [Lib.strCells_eq, ← Lib.byteCells_append] at hown'
  have hfin : BAt T r B b (.pointer (some ⟨b, 0, none⟩)) (L ++ s) (w2.setCell ⟨b, 1, none⟩ (.slice ao n' cap)) := BAt.put hB hb2 (by rw [List.length_append]; exact hown') HT.out.ne
  have hbel : Wk B b w (w2.setCell ⟨b, 1, none⟩ (.slice ao n' cap)) := (hb1.grown hgrow hown (by have := hb1.1.size; omega)).setCell hB 1 _
  have HF := Lib.hid hfin
  have HBL := Lib.hid hbel
  clear hfin hbel hown' hgrow hown hbk hb2 hb1 c0 c1
  go_wp2
  go_ret2
  exact ⟨rfl, HF.out, HBL.out⟩

set_option maxRecDepth 100000 in
set_option maxHeartbeats 2000000 in
theorem wbyte_any {T : TypeId} {r : List Value} (hT : BTy T r) (B b : Nat) (L : List UInt8) (c : UInt8) (w : World) (h : BIs T r B b L w) (hlen : L.length + 1 ≤ 140737488355328) (hBw : B ≤ w.heap.size) :
    Calls Tryz.prog 99 #[.pointer (some ⟨b, 0, none⟩), .int .u8 (c.toNat : Int)] w fun e w' => e = .returned .nilIface ∧ BAt T r B b (.pointer (some ⟨b, 0, none⟩)) (L ++ [c]) w' ∧ Wk B b w w' := by
  obtain ⟨i0, hi, hz0, hz1, hz2⟩ := info5'
  have HT := Lib.hid hT
  have HC := Lib.hid (cc_any hT B b L w h)
  have HI := Lib.hid hi
  have hcc : Lib.byteCells (L ++ [c]) = Lib.byteCells L ++ [.int .u8 (c.toNat : Int)] := by simp [Lib.byteCells]
  generalize (c.toNat : Int) = x at hcc ⊢
  clear h hT hi
  go_enter Tryz.func99, Tryz.ntmps99
  go_wp2_with fail
  refine HC.out.mono ?_
  rintro e w1 ⟨rfl, ⟨hB, v, hbk, hown, hne⟩, hb1⟩
  have c0 : w1.cell? ⟨b, 0, none⟩ = some (.pointer (some ⟨b, 0, none⟩)) := by rw [Lib.cell_of_heap hbk]; rfl
  have c1 : w1.cell? ⟨b, 1, none⟩ = some v := by rw [Lib.cell_of_heap hbk]; rfl
  go_wp2_with (at_builtin; refine wpList_append_own _ rfl _ _ 22 rfl B 5 i0 (.int .u8 0) 1 1 Tryz.underlying22 HI.out hz0 hz1 hz2 rfl (by decide) _ _ _ rfl (hown.alloc _) ⟨w1.heap.size, 0, none⟩ 1 1 [.int .u8 x] rfl rfl ?c1 ?c2 ?c3 ?c4 ?c5 ?_)
  case c1 =>
    intro j u hj
    match j, hj with
    | 0, hj => simp at hj; subst hj; simp [Addr.add]
  case c2 => intro u hu; simp at hu; subst hu; rfl
  case c3 => unfold maxLen; omega
  case c4 => omega
  case c5 => have := hb1.1.size; simp; omega
  intro v' w2 hown' hgrow _
  have hlt : b < w1.heap.size := (Array.getElem?_eq_some_iff.1 hbk).1
  have hb2 : w2.heap[b]? = some (.cells (.pointer (some ⟨b, 0, none⟩) :: v :: r).toArray T (0, 0)) := by
    rw [hgrow.block b (by simp; omega) (fun e => hne e.symm), Lib.alloc_old w1 _ b hlt]
    exact hbk
  have d0 : w2.cell? ⟨b, 0, none⟩ = some (.pointer (some ⟨b, 0, none⟩)) := by rw [Lib.cell_of_heap hb2]; rfl
  have d1 : w2.cell? ⟨b, 1, none⟩ = some v := by rw [Lib.cell_of_heap hb2]; rfl
  have f1 : w2.frozen? ⟨b, 1, none⟩ = false := Lib.frozen_of_heap hb2 1
  obtain ⟨g, cap, rfl⟩ : ∃ g cap, v' = .slice (some ⟨g, 0, none⟩) (L.length + 1) cap := by
    rcases hown'.2 with ⟨_, h0⟩ | ⟨g, cap, cur, hv, _⟩
    · omega
    · exact ⟨g, cap, hv⟩
  have HF : Hid (BAt T r B b (.pointer (some ⟨b, 0, none⟩)) (L ++ [c]) (w2.setCell ⟨b, 1, none⟩ (.slice (some ⟨g, 0, none⟩) (L.length + 1) cap))) := Lib.hid (BAt.put hB hb2 (by rw [List.length_append, hcc]; exact hown') HT.out.ne)
  have HBL := Lib.hid (((hb1.trans (Wk.of_below ((Below.refl _ _).alloc (Nat.le_refl _) _) (by have := hb1.1.size; omega))).grown hgrow (hown.alloc _) (by have := hb1.1.size; simp; omega)).setCell hB 1 (.slice (some ⟨g, 0, none⟩) (L.length + 1) cap))
  clear hown' hgrow hown hbk hb2 hb1 c0 c1
  go_wp2
  go_ret
  exact ⟨rfl, HF.out, HBL.out⟩

/-- The buffer holds these bytes; what of them is frozen is not told. -/
def BHas (B b : Nat) (L : List UInt8) (w : World) : Prop :=
  ∃ (T : TypeId) (r : List Value) (p : Value) (g cap : Nat) (cur : Array Value) (fr fr' : Nat × Nat), w.heap[b]? = some (.cells (p :: .slice (some ⟨g, 0, none⟩) L.length cap :: r).toArray T fr') ∧ L ≠ [] ∧ B ≤ g ∧ w.heap[g]? = some (.cells cur 5 fr) ∧ L.length ≤ cur.size ∧ cap ≠ 0 ∧ cap ≤ maxLen ∧ L.length ≤ cap ∧ ∀ (j : Nat) (x : UInt8), L[j]? = some x → cur[j]? = some (Value.int .u8 x.toNat)
theorem BIs.has {T : TypeId} {r : List Value} {B b : Nat} {L : List UInt8} {w : World} (h : BIs T r B b L w) (h0 : L ≠ []) : BHas B b L w := by
  obtain ⟨p, hB, v, hbk, hown, hne⟩ := h.at_
  have hl0 : L.length ≠ 0 := by simpa using h0
  obtain ⟨g, cap, cur, rfl, hbg, hg, hnc, hcm, hcs, htake⟩ : ∃ g cap cur, v = .slice (some ⟨g, 0, none⟩) L.length cap ∧ B ≤ g ∧ w.heap[g]? = some (.cells cur 5 (0, 0)) ∧ L.length ≤ cap ∧ cap ≤ maxLen ∧ cur.size = cap * 1 ∧ cur.toList.take (L.length * 1) = Lib.byteCells L := by
    rcases hown.2 with ⟨_, hz⟩ | ⟨g, cap, cur, hv, r⟩
    · exact absurd hz hl0
    · exact ⟨g, cap, cur, hv, r⟩
  refine ⟨T, r, p, g, cap, cur, (0, 0), (0, 0), hbk, h0, hbg, hg, by omega, by omega, hcm, hnc, fun j x hx => ?_⟩
  have hj : j < L.length := (List.getElem?_eq_some_iff.1 hx).1
  have h9 : (cur.toList.take (L.length * 1))[j]? = (Lib.byteCells L)[j]? := by rw [htake]
  rw [List.getElem?_take, if_pos (by omega), Array.getElem?_toList] at h9
  rw [h9]
  simp [Lib.byteCells, hx]
set_option maxRecDepth 100000 in
set_option maxHeartbeats 1000000 in
theorem bstr_any0 (B b : Nat) (L : List UInt8) (w : World) (h : BHas B b L w) :
    Calls Tryz.prog 24 #[.pointer (some ⟨b, 0, none⟩)] w fun e w' => e = .returned (.string (strL L)) ∧ ∃ g n, B ≤ g ∧ w' = w.drew.freeze ⟨g, 0, none⟩ n := by
  obtain ⟨T, r, p, g, cap, cur, fr, fr', hbk, h0, hbg, hg, hls, hc0, hcm, hnc, hx⟩ := h
  have c1 : w.drew.cell? ⟨b, 1, none⟩ = some (.slice (some ⟨g, 0, none⟩) L.length cap) := by
    have : w.drew.heap[b]? = some (.cells (p :: .slice (some ⟨g, 0, none⟩) L.length cap :: r).toArray T fr') := hbk
    rw [Lib.cell_of_heap this]; rfl
  have hSD : (Builtin.unsafeSliceData_ #[22] 98 #[.slice (some ⟨g, 0, none⟩) L.length cap]).run Tryz.prog w.drew = .ok (.pointer (some ⟨g, 0, none⟩)) w.drew :=
    Lib.run_unsafeSliceData_row _ _ _ _ _ _ hc0
  have hUS : (Builtin.unsafeString_ #[98, 3] 9 #[.pointer (some ⟨g, 0, none⟩), .int .i64 L.length]).run Tryz.prog w.drew = .ok (.string ⟨L.toArray⟩) (w.drew.freeze ⟨g, 0, none⟩ L.length) := by
    refine Lib.run_unsafeString_row w.drew 98 3 9 5 Tryz.underlying98 (by kernel_rfl) g cur.size (by have hg' : w.drew.heap[g]? = some (.cells cur 5 fr) := hg; simp [World.shape?, hg']) L h0 (by omega) (by unfold maxLen at hcm; omega) ?_
    intro j x hjx
    have hg' : w.drew.heap[g]? = some (.cells cur 5 fr) := hg
    rw [add_plain, Nat.zero_add, Lib.cell_of_heap hg']
    exact hx j x hjx
  have mixed : Tryz.prog.follows .mixedOrders = true := by kernel_rfl
  clear hx hg hbk
  go_enter Tryz.func24, Tryz.ntmps24
  go_wp2
  go_region_o
  all_goals (go_wp2; go_ret; exact ⟨rfl, g, _, hbg, rfl⟩)
theorem heap_freeze {w : World} {k : Nat} {c : Array Value} {e : TypeId} {fr : Nat × Nat} (h : w.heap[k]? = some (.cells c e fr)) (a : Addr) (n : Nat) : ∃ fr', (w.freeze a n).heap[k]? = some (.cells c e fr') := by
  unfold World.freeze
  split
  · exact ⟨_, h⟩
  · by_cases hk : a.block = k
    · simp only [Array.getElem?_modify, hk, if_pos, h]
      exact ⟨_, rfl⟩
    · simp only [Array.getElem?_modify, if_neg hk]
      exact ⟨_, h⟩
theorem BHas.freeze {B b : Nat} {L : List UInt8} {w : World} (h : BHas B b L w) (a : Addr) (n : Nat) : BHas B b L (w.drew.freeze a n) := by
  obtain ⟨T, r, p, g, cap, cur, fr, fr', hbk, h0, hbg, hg, rest⟩ := h
  have hbk' : w.drew.heap[b]? = _ := hbk
  have hg' : w.drew.heap[g]? = _ := hg
  obtain ⟨fr1, h1⟩ := heap_freeze hbk' a n
  obtain ⟨fr2, h2⟩ := heap_freeze hg' a n
  exact ⟨T, r, p, g, cap, cur, fr2, fr1, h1, h0, hbg, h2, rest⟩
theorem bstr_any (B b : Nat) (L : List UInt8) (w : World) (h : BHas B b L w) :
    Calls Tryz.prog 24 #[.pointer (some ⟨b, 0, none⟩)] w fun e w' => e = .returned (.string (strL L)) ∧ BHas B b L w' ∧ Below B w w' := by
  refine (bstr_any0 B b L w h).mono ?_
  rintro e w' ⟨rfl, g, n, hB, rfl⟩
  exact ⟨rfl, h.freeze _ _, Lib.below_freeze (Below.drew (Below.refl B w)) (p := ⟨g, 0, none⟩) hB _⟩
end Go.Proofs.YtbhfoelnoddlkaaGreatDoor.D

