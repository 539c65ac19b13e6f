/-
  Of the proof that the law DiagDeep answers true at every row of bytes: a part, without conditions of its own.
-/
import Derived.Test.YtbhfoelnoddlkaaGreatDoorPart14
import Derived.Test.YtbhfoelnoddlkaaGreatDoorPart33
import Derived.Test.YtbhfoelnoddlkaaGreatDoorPart04
import Derived.LaidEql
import Derived.Stop.Asserts
import Derived.RowKitTokens
import Derived.WalkLawsBesides
set_option linter.unusedVariables false
set_option linter.unusedSimpArgs false
/-
  The reader: tag where it stops: walked.
-/
namespace Go.Proofs.YtbhfoelnoddlkaaGreatDoor.D
open Go Go.RowKit Limb

set_option maxRecDepth 100000 in
set_option maxHeartbeats 1000000 in
theorem tag_fails (S : List UInt8) (a b b1 ar n code at_ : Nat) (har : ar < 128) (hb : b < S.length) (hS : S.length ≤ 1099511627776) (hB1 : Btw S (b + 1) b1) (hR : Fails S b1 (ar + 1) code at_) :
    FlsF 65 [.int .u64 (n : Int), .int .i64 (a : Int), .int .i64 (ar : Int)] S b false code at_ := by
  intro w p hG hp hr
  obtain ⟨w0, hw0⟩ : ∃ w0, w0 = w.alloc (.cells zeroV 33) := ⟨_, rfl⟩
  have hb0 : Below w.heap.size w w0 := by rw [hw0]; exact (Below.refl _ _).alloc (Nat.le_refl _) _
  have hX : Blk w0 w.heap.size zeroV 33 := by rw [hw0]; exact Blk.new _ _ _
  have hr0 : Rd w0 p S b false := Blk.below hr hb0 (Blk.lt hr)
  have hpw : p < w.heap.size := Blk.lt hr
  have hpX : w.heap.size ≠ p := by omega
  have hE0 : Ex (fun k => k = p) w.heap.size w w0 := Ex.of_below hb0
  have c1 := hr0.at1
  have f1 : w0.frozen? ⟨p, 1, none⟩ = false := Blk.free hr0 1
  obtain ⟨b', hb'⟩ : ∃ b', b' = b + 1 := ⟨_, rfl⟩
  obtain ⟨ar', har'⟩ : ∃ ar', ar' = ar + 1 := ⟨_, rfl⟩
  rw [← hb'] at hB1
  rw [← har'] at hR
  have g3 : IntKind.i64.wrap ((b : Int) + 1) = (b' : Int) := by rw [IntWalk.i64_in _ (by omega), hb']; simp
  have g4 : IntKind.i64.wrap ((ar : Int) + 1) = (ar' : Int) := by rw [IntWalk.i64_in _ (by omega), har']; simp
  have hr1 : Rd (w0.setCell ⟨p, 1, none⟩ (.int .i64 (b' : Int))) p S b' false := hr0.set1 b'
  have hX1 := hX.set_other ⟨p, 1, none⟩ (.int .i64 (b' : Int)) hpX
  have hE1 := hE0.setCell p 1 (.inl rfl) (.int .i64 (b' : Int))
  have HG := Lib.hid hG
  have HW0 := Lib.hid hw0
  have HR1 := Lib.hid hr1
  have HX1 := Lib.hid hX1
  have HE1 := Lib.hid hE1
  have HRD := Lib.hid hR
  have HB1 := Lib.hid hB1
  clear hG hw0 hb0 hX hr0 hr hE0 hr1 hX1 hE1 hR hB1 hb' har'
  show Calls _ _ #[_, _, _, _] _ _
  go_enter Tryz.func65, Tryz.ntmps65
  go_upto_region 1 with fail
  change Code.wp _ _ _ _ (w.alloc (.cells zeroV 33))
  rw [← HW0.out]
  go_wp2_with fail
  refine (deep_ok w0 (ar : Int) (a : Int) (by omega)).mono ?_
  rintro e w9 ⟨rfl, rfl⟩
  go_upto_region 3 with fail
  clear c1 f1 g3
  generalize w9.setCell ⟨p, 1, none⟩ (.int .i64 (b' : Int)) = w1 at HR1 HX1 HE1 ⊢
  have hsz1 : w.heap.size < w1.heap.size := HX1.out.lt
  go_wp2_with fail
  refine (HB1.out.call hS w1 p false HR1.out).mono ?_
  rintro e w2 ⟨rfl, hr2⟩
  have HX2 := Lib.hid (hr2.2.blk HX1.out hsz1 hpX)
  have HE2 := Lib.hid (HE1.out.trans (hr2.2.mono (by omega) (fun _ h => h)))
  have HR2 := Lib.hid hr2.1
  have hsz2 : w.heap.size < w2.heap.size := HX2.out.lt
  clear hr2 HX1 HE1 HR1 hsz1 HW0
  have HQ := Lib.hid (HRD.out false w2 p (HG.out.ex HE2.out hp) hp HR2.out)
  go_wp2_with fail
  refine HQ.out.mono ?_
  rintro e w3 ⟨hb3, rfl⟩
  have HE9 := Lib.hid (HE2.out.trans (hb3.mono (by omega) (fun _ h => h)))
  clear hb3 HQ
  go_wp2
  exact ⟨rfl, HE9.out, rfl⟩
set_option maxRecDepth 100000 in
set_option maxHeartbeats 1000000 in
theorem tag_deep (S : List UInt8) (a b ar n : Nat) (har : 128 ≤ ar) :
    FlsF 65 [.int .u64 (n : Int), .int .i64 (a : Int), .int .i64 (ar : Int)] S b false 5 a := by
  intro w p hG hp hr
  obtain ⟨w0, hw0⟩ : ∃ w0, w0 = w.alloc (.cells zeroV 33) := ⟨_, rfl⟩
  have hb0 : Below w.heap.size w w0 := by rw [hw0]; exact (Below.refl _ _).alloc (Nat.le_refl _) _
  have HE0 : Hid (Ex (fun k => k = p) w.heap.size w w0) := Lib.hid (Ex.of_below hb0)
  have HW0 := Lib.hid hw0
  clear hG hw0 hb0 hr
  show Calls _ _ #[_, _, _, _] _ _
  go_enter Tryz.func65, Tryz.ntmps65
  go_upto_region 1 with fail
  change Code.wp _ _ _ _ (w.alloc (.cells zeroV 33))
  rw [← HW0.out]
  go_wp2_with fail
  refine (deep_bad w0 (ar : Int) (a : Int) (by omega)).mono ?_
  rintro e w9 ⟨rfl, rfl⟩
  go_wp2
  exact ⟨rfl, HE0.out, rfl⟩
end Go.Proofs.YtbhfoelnoddlkaaGreatDoor.D

/-
  Containers within one another: what reader.value reads of such a text, and where it stops.
-/
namespace Go.Proofs.YtbhfoelnoddlkaaGreatDoor.D
open Go Go.RowKit Limb

def opT (k : Nat) : List UInt8 := if k % 4 = 0 then [91] else if k % 4 = 1 then [123, 49, 58] else if k % 4 = 2 then [49, 48, 40] else [123]
def clT (k : Nat) : List UInt8 := if k % 4 = 0 then [93] else if k % 4 = 1 then [125] else if k % 4 = 2 then [41] else [58, 49, 125]
def doc : List Nat → List UInt8
  | [] => [55]
  | k :: ks => opT k ++ doc ks ++ clT k
def opens : List Nat → List UInt8
  | [] => []
  | k :: ks => opT k ++ opens ks

/-- A piece stands at a place of a text. -/
def At (S T : List UInt8) (a : Nat) : Prop := ∃ pre post, S = pre ++ (T ++ post) ∧ pre.length = a
theorem At.app {S T U : List UInt8} {a : Nat} (h : At S (T ++ U) a) : At S T a ∧ At S U (a + T.length) := by
  obtain ⟨pre, post, rfl, rfl⟩ := h
  exact ⟨⟨pre, U ++ post, by simp, rfl⟩, ⟨pre ++ T, post, by simp, by simp⟩⟩
theorem At.le {S T : List UInt8} {a : Nat} (h : At S T a) : a + T.length ≤ S.length := by
  obtain ⟨pre, post, rfl, rfl⟩ := h
  simp only [List.length_append]; omega
theorem At.head {S T : List UInt8} {c : UInt8} {a : Nat} (h : At S (c :: T) a) : a < S.length ∧ S.getD a 0 = c := by
  have := h.le
  obtain ⟨pre, post, rfl, rfl⟩ := h
  have h2 : (c :: T).length = T.length + 1 := rfl
  refine ⟨by omega, ?_⟩
  rw [List.getD_eq_getElem?_getD, List.getElem?_append_right (Nat.le_refl _)]
  simp
theorem At.tail {S T : List UInt8} {c : UInt8} {a : Nat} (h : At S (c :: T) a) : At S T (a + 1) := (At.app (T := [c]) (U := T) h).2
/-- Behind it stands one of these, or nothing. -/
def ends : List UInt8 := [93, 125, 41, 58]
def End (S : List UInt8) (b : Nat) : Prop := b < S.length → S.getD b 0 ∈ ends
theorem ends_num {c : UInt8} (h : c ∈ ends) : c ∉ numEnd := by
  have : ∀ c ∈ ends, c ∉ numEnd := by decide
  exact this c h
theorem ends_blank {c : UInt8} (h : c ∈ ends) : c ∉ blanks := by
  have : ∀ c ∈ ends, c ∉ blanks := by decide
  exact this c h
def heads : List UInt8 := [91, 123, 49, 55]
theorem doc_head (ks : List Nat) : ∃ c r, doc ks = c :: r ∧ c ∈ heads := by
  cases ks with
  | nil => exact ⟨55, [], rfl, by decide⟩
  | cons k ks =>
    unfold doc opT
    split
    · exact ⟨91, _, rfl, by decide⟩
    · split
      · exact ⟨123, _, rfl, by decide⟩
      · split
        · exact ⟨49, _, rfl, by decide⟩
        · exact ⟨123, _, rfl, by decide⟩
theorem heads_blank {c : UInt8} (h : c ∈ heads) : c ∉ blanks ∧ c ≠ 93 ∧ c ≠ 125 := by
  have : ∀ c ∈ heads, c ∉ blanks ∧ c ≠ 93 ∧ c ≠ 125 := by decide
  exact this c h

theorem sub_two {S : List UInt8} {a : Nat} {c d : UInt8} (h0 : S.getD a 0 = c) (h1 : S.getD (a + 1) 0 = d) (h : a + 1 < S.length) : sub S a (a + 2) = [c, d] := by
  unfold sub
  rw [show a + 2 - a = 2 by omega, List.drop_eq_getElem_cons (by omega), List.drop_eq_getElem_cons h, List.take_succ_cons, List.take_succ_cons, List.take_zero, ← h0, ← h1, List.getD_eq_getElem?_getD, List.getElem?_eq_getElem (by omega), List.getD_eq_getElem?_getD, List.getElem?_eq_getElem h]
  rfl
theorem dg10 : Dg [49, 48] := ⟨by decide, by decide, by decide, by decide⟩
theorem F.txt_node (t : List UInt8) (x : Nat) (fs : Nat → F) : (F.node t x fs).txt = t := rfl
theorem kidsT_one (one two : List UInt8) (fs : Nat → F) : kidsT one two 1 fs 1 = (fs 0).txt := by simp [kidsT]
theorem kidsT_two (one two : List UInt8) (fs : Nat → F) : kidsT one two 2 fs 2 = (fs 0).txt ++ one ++ (fs 1).txt := by simp [kidsT]
/-- One digit. -/
theorem reads_one (S : List UInt8) (a ar x : Nat) (c : UInt8) (hS : S.length ≤ 1099511627776) (hx : x = 1 ∨ x = 7) (hc : c = dig x) (ha : a < S.length) (h : S.getD a 0 = c) (har : ar ≤ 128) (he : a + 1 < S.length → S.getD (a + 1) 0 ∉ numEnd) :
    Reads S a (a + 1) ar (.node [dig x] x (fun _ => .stop)) 0 true := by
  subst hc
  have h1 : dig x ∉ ([91] : List UInt8) ∧ dig x ∉ ([123] : List UInt8) ∧ dig x ∉ ([34] : List UInt8) ∧ dig x ∈ ([45, 48, 49, 50, 51, 52, 53, 54, 55, 56, 57] : List UInt8) := by rcases hx with rfl | rfl <;> decide
  exact value_number S a (a + 1) ar _ 0 true ha (dig x) h h1.1 h1.2.1 h1.2.2.1 h1.2.2.2 har (number_one S a (a + 1) ar x _ rfl ha hS (by omega) (by omega) (by omega) h he)

theorem reads_doc (S : List UInt8) (hS : S.length ≤ 1099511627776) : ∀ (ks : List Nat) (a ar : Nat), At S (doc ks) a → End S (a + (doc ks).length) → ar + ks.length ≤ 128 →
    ∃ f op', Reads S a (a + (doc ks).length) ar f ks.length op' ∧ f.txt ≠ [] ∧ f.txt.length ≤ 8 * ks.length + 1 := by
  intro ks
  induction ks with
  | nil =>
    intro a ar hA hE har
    obtain ⟨ha, hc⟩ := hA.head
    refine ⟨_, true, reads_one S a ar 7 55 hS (.inr rfl) (by decide) ha hc (by simpa using har) (fun h => ends_num (hE h)), by simp [F.txt_node], by simp [F.txt_node]⟩
  | cons k ks ih =>
    intro a ar hA hE har
    have hlk : (k :: ks).length = ks.length + 1 := rfl
    rw [hlk] at har ⊢
    unfold doc at hA hE ⊢
    obtain ⟨hA1, hA3⟩ := hA.app
    obtain ⟨hA1, hA2⟩ := hA1.app
    obtain ⟨dc, dr, hdoc, hdh⟩ := doc_head ks
    obtain ⟨hb1, hb2, hb3⟩ := heads_blank hdh
    have hD := hA2
    rw [hdoc] at hD
    obtain ⟨hDl, hDc⟩ := hD.head
    have hBD : Btw S (a + (opT k).length) (a + (opT k).length) := Btw.none (fun _ => by rw [hDc]; exact hb1) (Nat.le_of_lt hDl)
    have hlen : (opT k ++ doc ks ++ clT k).length = (opT k).length + (doc ks).length + (clT k).length := by simp only [List.length_append]
    rw [hlen] at hE ⊢
    rw [List.length_append] at hA3
    rcases (by omega : k % 4 = 0 ∨ k % 4 = 1 ∨ k % 4 = 2 ∨ k % 4 = 3) with hk | hk | hk | hk
    · have e1 : opT k = [91] := by unfold opT; rw [if_pos hk]
      have e2 : clT k = [93] := by unfold clT; rw [if_pos hk]
      rw [e1] at hA1 hA2 hA3 hD hDl hDc hBD hE ⊢
      rw [e2] at hA3 hE ⊢
      simp only [List.length_singleton] at *
      obtain ⟨ha, hc⟩ := hA1.head
      obtain ⟨he, hec⟩ := hA3.head
      rw [← Nat.add_assoc] at he hec
      obtain ⟨f, op', hR, hne, hle⟩ := ih (a + 1) (ar + 1) hA2 (fun _ => by rw [hec]; decide) (by omega)
      obtain ⟨e, hee⟩ : ∃ e, e = a + 1 + (doc ks).length := ⟨_, rfl⟩
      rw [← hee] at hR he hec
      have hL := list_any S a (ar + 1) 1 (fun _ => a + 1) (fun _ => e) (fun _ => e) (fun _ => f) (fun _ => ks.length) (fun _ => op') (ks.length + 1) ha hS
        ⟨by omega, by omega, hBD, fun i _ => ⟨hDl, by show S.getD (a + 1) 0 ≠ 93; rw [hDc]; exact hb2⟩, fun i _ => hR, fun i _ => Btw.none (fun _ => by rw [hec]; decide) (Nat.le_of_lt he), fun i _ => he, fun i hi => by omega, hec⟩ (fun i _ => by omega) ⟨0, by omega, rfl⟩
      have hfin := value_list S a _ ar _ _ ha hc (by omega) hL
      rw [hee] at hfin
      rw [show a + (1 + (doc ks).length + 1) = a + 1 + (doc ks).length + 1 by omega]
      exact ⟨_, false, hfin, by simp [F.txt_node], by
        rw [F.txt_node]
        first | rw [kidsT_one] | rw [kidsT_two]
        simp [F.txt_node]
        omega⟩
    · have e1 : opT k = [123, 49, 58] := by unfold opT; rw [if_neg (by omega), if_pos hk]
      have e2 : clT k = [125] := by unfold clT; rw [if_neg (by omega), if_pos hk]
      rw [e1] at hA1 hA2 hA3 hD hDl hDc hBD hE ⊢
      rw [e2] at hA3 hE ⊢
      simp only [List.length_cons, List.length_nil, Nat.zero_add] at *
      obtain ⟨ha, hc⟩ := hA1.head
      obtain ⟨ha1, hc1⟩ := hA1.tail.head
      obtain ⟨ha2, hc2⟩ := hA1.tail.tail.head
      obtain ⟨he, hec⟩ := hA3.head
      rw [← Nat.add_assoc] at he hec
      obtain ⟨f, op', hR, hne, hle⟩ := ih (a + 3) (ar + 1) hA2 (fun _ => by rw [hec]; decide) (by omega)
      obtain ⟨e, hee⟩ : ∃ e, e = a + 3 + (doc ks).length := ⟨_, rfl⟩
      rw [← hee] at hR he hec
      have hK := reads_one S (a + 1) (ar + 1) 1 49 hS (.inl rfl) (by decide) ha1 hc1 (by omega) (fun _ => by rw [hc2]; decide)
      have hL := pairs_any S a (ar + 1) (a + 1) (a + 2) (a + 2) (a + 3) e e (fun i => if i = 0 then .node [dig 1] 1 (fun _ => .stop) else f) (fun i => if i = 0 then 0 else ks.length) true op' (ks.length + 1) ha hS (Btw.none (fun _ => by rw [hc1]; decide) (Nat.le_of_lt ha1)) ha1 (by rw [hc1]; decide) hK (Btw.none (fun _ => by rw [hc2]; decide) (Nat.le_of_lt ha2)) ha2 hc2 hBD hR (Btw.none (fun _ => by rw [hec]; decide) (Nat.le_of_lt he)) he hec (by simp [F.txt_node]) (by simp [F.txt_node]) (fun i hi => by
          rcases (by omega : i = 0 ∨ i = 1) with rfl | rfl
          · simp
          · simp) ⟨1, by omega, by simp⟩ (by omega)
      have hfin := value_pairs S a _ ar _ _ ha 123 hc (by decide) (by decide) (by omega) hL
      rw [hee] at hfin
      rw [show a + (3 + (doc ks).length + 1) = a + 3 + (doc ks).length + 1 by omega]
      exact ⟨_, false, hfin, by simp [F.txt_node], by
        rw [F.txt_node]
        first | rw [kidsT_one] | rw [kidsT_two]
        simp [F.txt_node]
        omega⟩
    · have e1 : opT k = [49, 48, 40] := by unfold opT; rw [if_neg (by omega), if_neg (by omega), if_pos hk]
      have e2 : clT k = [41] := by unfold clT; rw [if_neg (by omega), if_neg (by omega), if_pos hk]
      rw [e1] at hA1 hA2 hA3 hD hDl hDc hBD hE ⊢
      rw [e2] at hA3 hE ⊢
      simp only [List.length_cons, List.length_nil, Nat.zero_add] at *
      obtain ⟨ha, hc⟩ := hA1.head
      obtain ⟨ha1, hc1⟩ := hA1.tail.head
      obtain ⟨ha2, hc2⟩ := hA1.tail.tail.head
      obtain ⟨he, hec⟩ := hA3.head
      rw [← Nat.add_assoc] at he hec
      obtain ⟨f, op', hR, hne, hle⟩ := ih (a + 3) (ar + 1) hA2 (fun _ => by rw [hec]; decide) (by omega)
      obtain ⟨e, hee⟩ : ∃ e, e = a + 3 + (doc ks).length := ⟨_, rfl⟩
      rw [← hee] at hR he hec
      have hT := tag_any S a (a + 2) (a + 3) e e ar 10 f ks.length op' (.inr rfl) (by omega) ha2 hS hBD hR (Btw.none (fun _ => by rw [hec]; decide) (Nat.le_of_lt he)) he hec
      have hsub : sub S a (a + 2) = [49, 48] := sub_two hc hc1 ha1
      have hdec : dec [49, 48] ([49, 48] : List UInt8).length = 10 := by decide
      have hN := number_tag S a (a + 2) (e + 1) ar [49, 48] _ _ dg10 hsub (by rw [hdec]; decide) rfl ha2 hS hc2 (by rw [hdec]; exact hT)
      have hfin := value_number S a _ ar _ _ false ha 49 hc (by decide) (by decide) (by decide) (by decide) (by omega) hN
      rw [hee] at hfin
      rw [show a + (3 + (doc ks).length + 1) = a + 3 + (doc ks).length + 1 by omega]
      exact ⟨_, false, hfin, by simp [F.txt_node], by
        rw [F.txt_node]
        first | rw [kidsT_one] | rw [kidsT_two]
        simp [F.txt_node]
        omega⟩
    · have e1 : opT k = [123] := by unfold opT; rw [if_neg (by omega), if_neg (by omega), if_neg (by omega)]
      have e2 : clT k = [58, 49, 125] := by unfold clT; rw [if_neg (by omega), if_neg (by omega), if_neg (by omega)]
      rw [e1] at hA1 hA2 hA3 hD hDl hDc hBD hE ⊢
      rw [e2] at hA3 hE ⊢
      simp only [List.length_cons, List.length_nil, Nat.zero_add] at *
      obtain ⟨ha, hc⟩ := hA1.head
      rw [← Nat.add_assoc] at hA3
      obtain ⟨he, hec⟩ := hA3.head
      obtain ⟨he1, hec1⟩ := hA3.tail.head
      obtain ⟨he2, hec2⟩ := hA3.tail.tail.head
      obtain ⟨f, op', hR, hne, hle⟩ := ih (a + 1) (ar + 1) hA2 (fun _ => by rw [hec]; decide) (by omega)
      obtain ⟨e, hee⟩ : ∃ e, e = a + 1 + (doc ks).length := ⟨_, rfl⟩
      rw [← hee] at hR he hec he1 hec1 he2 hec2
      have hV := reads_one S (e + 1) (ar + 1) 1 49 hS (.inl rfl) (by decide) he1 hec1 (by omega) (fun _ => by rw [hec2]; decide)
      have hL := pairs_any S a (ar + 1) (a + 1) e e (e + 1) (e + 2) (e + 2) (fun i => if i = 0 then f else .node [dig 1] 1 (fun _ => .stop)) (fun i => if i = 0 then ks.length else 0) op' true (ks.length + 1) ha hS hBD hDl (by rw [hDc]; exact hb3) hR (Btw.none (fun _ => by rw [hec]; decide) (Nat.le_of_lt he)) he hec (Btw.none (fun _ => by rw [hec1]; decide) (Nat.le_of_lt he1)) hV (Btw.none (fun _ => by rw [hec2]; decide) (Nat.le_of_lt he2)) he2 hec2 (by simpa using hne) (by simp; omega) (fun i hi => by
          rcases (by omega : i = 0 ∨ i = 1) with rfl | rfl
          · simp
          · simp) ⟨0, by omega, by simp⟩ (by omega)
      have hfin := value_pairs S a _ ar _ _ ha 123 hc (by decide) (by decide) (by omega) hL
      rw [hee] at hfin
      rw [show a + (1 + (doc ks).length + 3) = a + 1 + (doc ks).length + 2 + 1 by omega]
      exact ⟨_, false, hfin, by simp [F.txt_node], by
        rw [F.txt_node]
        first | rw [kidsT_one] | rw [kidsT_two]
        simp [F.txt_node]
        omega⟩
end Go.Proofs.YtbhfoelnoddlkaaGreatDoor.D

/-
  errors.Is of a Fault and of a sentinel: walked.
-/
namespace Go.Proofs.YtbhfoelnoddlkaaGreatDoor.D
open Go Go.RowKit Go.Extern.Stop Go.Stop Go.Extern Limb

/-- the entry of (rtype).Comparable -/
abbrev isC : TypeId → Sem Value := fun t => do Extern.Rtype.noPackHeld "Comparable" t; pure (.bool (← typeInfo t).comparable)
abbrev tES : TypeId := 338
theorem isTypeOf (v : Value) (w : World) : (Extern.ReflectliteType.typeOf #[.iface 338 v]).run Tryz.prog w = .ok (.iface 202 (.agg #[.pointer (some ⟨22, 338, none⟩)])) w := by kernel_rfl
theorem isComparable (w : World) : ((Extern.ReflectliteType.method isC) #[.agg #[.pointer (some ⟨22, 338, none⟩)]]).run Tryz.prog w = .ok (.bool true) w := by kernel_rfl
theorem isMethodComparable (v : Value) (w : World) : (Go.method 467 202 v "Comparable").run Tryz.prog w = .ok (277, v) w := by kernel_rfl
theorem isComp : (Tryz.prog.info? 338).map (·.comparable) = some true := by kernel_rfl
theorem isSize : (Tryz.prog.info? 356).map (·.size) = some 1 := by kernel_rfl
theorem noIsE (v : Value) (xT : TypeId) (w : World) : (Instr.typeAssert (.iface 338 v) xT 204 true).run Tryz.prog w = .ok (.tuple #[.nilIface, .bool false]) w := run_typeAssert_lacksB Tryz.underlying204 (by kernel_rfl) (by kernel_rfl) v xT w
theorem noUnwrapE (v : Value) (xT : TypeId) (w : World) : (Instr.typeAssert (.iface 338 v) xT 207 true).run Tryz.prog w = .ok (.tuple #[.nilIface, .bool false]) w := run_typeAssert_lacksB Tryz.underlying207 (by kernel_rfl) (by kernel_rfl) v xT w
theorem noUnwrapsE (v : Value) (xT : TypeId) (w : World) : (Instr.typeAssert (.iface 338 v) xT 209 true).run Tryz.prog w = .ok (.tuple #[.nilIface, .bool false]) w := run_typeAssert_lacksB Tryz.underlying209 (by kernel_rfl) (by kernel_rfl) v xT w
theorem noIsF (v : Value) (xT : TypeId) (w : World) : (Instr.typeAssert (.iface 72 v) xT 204 true).run Tryz.prog w = .ok (.tuple #[.nilIface, .bool false]) w := run_typeAssert_lacksB Tryz.underlying204 (by kernel_rfl) (by kernel_rfl) v xT w
theorem hasUnwrapF (v : Value) (xT : TypeId) (w : World) : (Instr.typeAssert (.iface 72 v) xT 207 true).run Tryz.prog w = .ok (.tuple #[.iface 72 v, .bool true]) w := run_typeAssert_hasB Tryz.underlying207 (by kernel_rfl) v xT w
theorem methodUnwrap (v : Value) (w : World) : (Go.method 467 72 v "Unwrap").run Tryz.prog w = .ok (271, v) w := by kernel_rfl

set_option maxRecDepth 100000 in
/-- errors.Is(f, x), f a Fault that wraps x. -/
theorem is_fault_same (pb : Nat) (b : Addr) (w : World) (h1 : w.cell? ⟨pb, 0, none⟩ = some (.iface 338 (.pointer (some b)))) :
    Calls Tryz.prog 39 #[.iface 72 (.pointer (some ⟨pb, 0, none⟩)), .iface 338 (.pointer (some b))] w fun e w' => e = .returned (.bool true) ∧ w' = w := by
  obtain ⟨i, hi, hcmp⟩ := Option.map_eq_some_iff.1 isComp
  obtain ⟨j, hj, hjs⟩ := Option.map_eq_some_iff.1 isSize
  have h8 := @run_callFunc_extern Tryz.prog 77 _ Extern.ReflectliteType.typeOf Tryz.func77 (by kernel_rfl) (by kernel_rfl) (by kernel_rfl) (by kernel_rfl)
  have h32 := @run_callFunc_extern Tryz.prog 277 _ (Extern.ReflectliteType.method isC) Tryz.func277 (by kernel_rfl) (by kernel_rfl) (by kernel_rfl) (by kernel_rfl)
  have tT := isTypeOf
  have cT := isComparable
  have mR := isMethodComparable
  have nE := noIsE
  have uE := noUnwrapE
  have vE := noUnwrapsE
  have nW := noIsF
  have uW := hasUnwrapF
  have mU := methodUnwrap
  have hty := run_eql_iface_types (P := Tryz.prog) 72 338 (.pointer (some ⟨pb, 0, none⟩)) (.pointer (some b)) Tryz.underlying35 (by decide) w
  have heq := run_eql_iface_ptr_same (P := Tryz.prog) w b Tryz.underlying35 Tryz.underlying338 hi hcmp hj
  go_enter Tryz.func39, Tryz.ntmps39
  go_wp2
  refine wp_loop_rounds 2 ?_
  rw [rounds_succ]
  go_wp2
  rw [rounds_succ]
  go_wp2
  go_ret
  exact ⟨rfl, rfl⟩

set_option maxRecDepth 100000 in
/-- errors.Is(f, y), f a Fault that wraps another. -/
theorem is_fault_other (pb : Nat) (b a : Addr) (ca cb : Array Value) (ta tb : TypeId) (w : World) (h1 : w.cell? ⟨pb, 0, none⟩ = some (.iface 338 (.pointer (some a)))) (hne : a ≠ b) (ha : w.heap[a.block]? = some (.cells ca ta (0, 0))) (hb : w.heap[b.block]? = some (.cells cb tb (0, 0))) :
    Calls Tryz.prog 39 #[.iface 72 (.pointer (some ⟨pb, 0, none⟩)), .iface 338 (.pointer (some b))] w fun e w' => e = .returned (.bool false) ∧ w' = w := by
  obtain ⟨i, hi, hcmp⟩ := Option.map_eq_some_iff.1 isComp
  obtain ⟨j, hj, hjs⟩ := Option.map_eq_some_iff.1 isSize
  have h8 := @run_callFunc_extern Tryz.prog 77 _ Extern.ReflectliteType.typeOf Tryz.func77 (by kernel_rfl) (by kernel_rfl) (by kernel_rfl) (by kernel_rfl)
  have h32 := @run_callFunc_extern Tryz.prog 277 _ (Extern.ReflectliteType.method isC) Tryz.func277 (by kernel_rfl) (by kernel_rfl) (by kernel_rfl) (by kernel_rfl)
  have tT := isTypeOf
  have cT := isComparable
  have mR := isMethodComparable
  have nE := noIsE
  have uE := noUnwrapE
  have vE := noUnwrapsE
  have nW := noIsF
  have uW := hasUnwrapF
  have mU := methodUnwrap
  have hty := run_eql_iface_types (P := Tryz.prog) 72 338 (.pointer (some ⟨pb, 0, none⟩)) (.pointer (some b)) Tryz.underlying35 (by decide) w
  have heq := run_eql_iface_ptr_other (P := Tryz.prog) w Tryz.underlying35 Tryz.underlying338 hi hcmp hj (by rw [hjs]; decide) hne ha hb
  go_enter Tryz.func39, Tryz.ntmps39
  go_wp2
  refine wp_loop_rounds 2 ?_
  rw [rounds_succ]
  go_wp2
  rw [rounds_succ]
  go_wp2
  go_ret
  exact ⟨rfl, rfl⟩
end Go.Proofs.YtbhfoelnoddlkaaGreatDoor.D

/-
  errors.As of a *api.Fault at a **api.Fault: walked (printed by wip/tools/genas.py).
-/
namespace Go.Proofs.YtbhfoelnoddlkaaGreatDoor.D
open Go Go.RowKit Go.Extern.Stop Go.Stop Go.Extern Limb

theorem as_valueOf27 (t : Addr) (w : World) : (ReflectliteValue.unpack (.iface 85 (.pointer (some t)))).run Tryz.prog w
    = .ok (.agg #[.pointer (some ⟨22, 85, none⟩), .pointer (some ⟨w.heap.size, 0, none⟩), .int .u64 150]) (w.alloc (.cells #[.pointer (some t)] 85)) := by kernel_rfl
theorem as_type27 (a : Addr) (w : World) : (ReflectliteValue.methodAny (ReflectliteValue.valueError "reflectlite.Value.Type" 0) (fun t _ _ _ => ReflectliteType.toType t) #[.agg #[.pointer (some ⟨22, 85, none⟩), .pointer (some a), .int .u64 150]]).run Tryz.prog w
    = .ok (.iface 202 (.agg #[.pointer (some ⟨22, 85, none⟩)])) w := by kernel_rfl
theorem as_methodKind (h : Value) (w : World) : (Go.method 467 202 (.agg #[h]) "Kind").run Tryz.prog w = .ok (266, h) w := by kernel_rfl
theorem as_kind27 (w : World) : ((ReflectliteType.abiMethod fun t => (fun a : Nat => Value.int IntKind.u8 (a : Int)) <$> Rtype.kind t) #[.pointer (some ⟨22, 85, none⟩)]).run Tryz.prog w = .ok (.int .u8 22) w := by kernel_rfl
theorem as_kind25 (w : World) : ((ReflectliteType.abiMethod fun t => (fun a : Nat => Value.int IntKind.u8 (a : Int)) <$> Rtype.kind t) #[.pointer (some ⟨22, 72, none⟩)]).run Tryz.prog w = .ok (.int .u8 22) w := by kernel_rfl

theorem rlm (z : Sem Value) (f : TypeId → Addr → Nat → Nat → Sem Value) (v : Value) :
    ReflectliteValue.method z f #[v] = (do match ← ReflectliteValue.parts v with | none => z | some (t, a, fl) => f t a fl (fl % 32)) := rfl
theorem as_parts27 (a : Addr) (w : World) : (ReflectliteValue.parts (.agg #[.pointer (some ⟨22, 85, none⟩), .pointer (some a), .int .u64 150])).run Tryz.prog w = .ok (some (85, a, 150)) w := by kernel_rfl
/-- (Value).IsNil at the Value of a **p.E that is not nil. -/
theorem as_isNil27 (a p : Addr) (W : World) (ha : W.cell? a = some (.pointer (some p))) :
    (ReflectliteValue.method (ReflectliteValue.valueError "reflectlite.Value.IsNil" 0) ReflectliteValue.isNil #[.agg #[.pointer (some ⟨22, 85, none⟩), .pointer (some a), .int .u64 150]]).run Tryz.prog W = .ok (.bool false) W := by
  rw [rlm]
  simp only [Sem.run_bind, as_parts27, Result.andThen]
  simp [ReflectliteValue.isNil, loadVar, isAgg, underlying, Tryz.underlying85, ha, Result.andThen]

theorem as_methodElem (h : Value) (w : World) : (Go.method 467 202 (.agg #[h]) "Elem").run Tryz.prog w = .ok (278, .agg #[h]) w := by kernel_rfl
theorem as_methodImplements (h : Value) (w : World) : (Go.method 467 202 (.agg #[h]) "Implements").run Tryz.prog w = .ok (279, .agg #[h]) w := by kernel_rfl
theorem as_methodAssignableTo (h : Value) (w : World) : (Go.method 467 202 (.agg #[h]) "AssignableTo").run Tryz.prog w = .ok (276, .agg #[h]) w := by kernel_rfl
theorem as_elem27 (w : World) : (ReflectliteType.method ReflectliteType.elem #[.agg #[.pointer (some ⟨22, 85, none⟩)]]).run Tryz.prog w = .ok (.iface 202 (.agg #[.pointer (some ⟨22, 72, none⟩)])) w := by kernel_rfl
theorem as_implements25 (w : World) : (ReflectliteType.relation "Implements" ReflectliteType.implements_ #[.agg #[.pointer (some ⟨22, 72, none⟩)], .iface 202 (.agg #[.pointer (some ⟨22, 35, none⟩)])]).run Tryz.prog w = .ok (.bool true) w := by kernel_rfl
theorem as_typeOf25 (v : Value) (w : World) : (ReflectliteType.typeOf #[.iface 72 v]).run Tryz.prog w = .ok (.iface 202 (.agg #[.pointer (some ⟨22, 72, none⟩)])) w := by kernel_rfl
theorem as_assignable25 (w : World) : (ReflectliteType.relation "AssignableTo" ReflectliteType.assignableTo #[.agg #[.pointer (some ⟨22, 72, none⟩)], .iface 202 (.agg #[.pointer (some ⟨22, 72, none⟩)])]).run Tryz.prog w = .ok (.bool true) w := by kernel_rfl
theorem as_valueOf25 (e : Addr) (w : World) : (ReflectliteValue.unpack (.iface 72 (.pointer (some e)))).run Tryz.prog w
    = .ok (.agg #[.pointer (some ⟨22, 72, none⟩), .pointer (some ⟨w.heap.size, 0, none⟩), .int .u64 150]) (w.alloc (.cells #[.pointer (some e)] 72)) := by kernel_rfl

theorem as_elemOf27 (w : World) : (Rtype.elem? 85).run Tryz.prog w = .ok (some 72) w := by kernel_rfl
theorem as_mk25 (p : Addr) (w : World) : (ReflectliteValue.mk 72 p ReflectliteValue.flagAddr).run Tryz.prog w = .ok (.agg #[.pointer (some ⟨22, 72, none⟩), .pointer (some p), .int .u64 406]) w := by kernel_rfl
/-- (Value).Elem at the Value of a **p.E that is not nil: the Value of the *p.E variable that it points to, addressable. -/
theorem as_elemV27 (a p : Addr) (W : World) (ha : W.cell? a = some (.pointer (some p))) :
    (ReflectliteValue.method (ReflectliteValue.valueError "reflectlite.Value.Elem" 0) ReflectliteValue.elem #[.agg #[.pointer (some ⟨22, 85, none⟩), .pointer (some a), .int .u64 150]]).run Tryz.prog W
      = .ok (.agg #[.pointer (some ⟨22, 72, none⟩), .pointer (some p), .int .u64 406]) W := by
  rw [rlm]
  simp only [Sem.run_bind, as_parts27, Result.andThen]
  simp [ReflectliteValue.elem, loadVar, isAgg, underlying, Tryz.underlying85, ha, Result.andThen, as_elemOf27, as_mk25]
theorem rls (v x : Value) : ReflectliteValue.set #[v, x] = (do
    let (some (dst, a, fl), some (src, b, _)) := (← ReflectliteValue.parts v, ← ReflectliteValue.parts x)
      | unsupported (.noEntry "extern/(internal/reflectlite.Value).Set.zeroValue")
    if fl / ReflectliteValue.flagAddr % 2 == 0 then unsupported (.noEntry "extern/(internal/reflectlite.Value).Set.unaddressable")
    let val ← loadVar src b
    if ← Rtype.directlyAssignable dst src then storeVar dst a val
    else if ← Rtype.implements dst src then
      if (← Rtype.kind src) == 20 then
        match val with
        | .nilIface => unsupported (.noEntry "extern/reflectlite: a nil value of one interface type handed on as a value of another")
        | _ => storeVar dst a val
      else storeVar dst a (.iface src val)
    else panicString ("reflectlite.Set: value of type " ++ (← Rtype.spelt src) ++ " is not assignable to type " ++ (← Rtype.spelt dst))
    pure (.tuple #[])) := rfl
theorem as_parts25a (a : Addr) (w : World) : (ReflectliteValue.parts (.agg #[.pointer (some ⟨22, 72, none⟩), .pointer (some a), .int .u64 406])).run Tryz.prog w = .ok (some (72, a, 406)) w := by kernel_rfl
theorem as_parts25 (a : Addr) (w : World) : (ReflectliteValue.parts (.agg #[.pointer (some ⟨22, 72, none⟩), .pointer (some a), .int .u64 150])).run Tryz.prog w = .ok (some (72, a, 150)) w := by kernel_rfl
theorem as_direct25 (w : World) : (Rtype.directlyAssignable 72 72).run Tryz.prog w = .ok true w := by kernel_rfl
theorem as_size25 (w : World) : (sizeOf 72).run Tryz.prog w = .ok 1 w := by kernel_rfl
/-- (Value).Set: the *p.E variable at 'ta' gets what the Value's own variable 'b' holds. -/
theorem as_set25 (ta b e : Addr) (old : Value) (W : World) (hb : W.cell? b = some (.pointer (some e))) (ht : W.cell? ta = some old) (hf : W.frozen? ta = false) :
    (ReflectliteValue.set #[.agg #[.pointer (some ⟨22, 72, none⟩), .pointer (some ta), .int .u64 406], .agg #[.pointer (some ⟨22, 72, none⟩), .pointer (some b), .int .u64 150]]).run Tryz.prog W
      = .ok (.tuple #[]) (W.setCell ta (.pointer (some e))) := by
  rw [rls]
  simp only [Sem.run_bind, as_parts25a, as_parts25, Result.andThen]
  simp [ReflectliteValue.flagAddr, loadVar, isAgg, underlying, Tryz.underlying72, hb, Result.andThen, as_direct25, storeVar, Value.cells, storeCells, Addr.add]
  rw [run_store Tryz.prog W ta _ _ (by rfl)]
  simp [ht, hf]

set_option maxHeartbeats 4000000 in
theorem as_hit (e t : Addr) (old : Value) (w : World) (hg : w.cell? ⟨11, 0, none⟩ = some (.iface 202 (.agg #[.pointer (some ⟨22, 35, none⟩)]))) (ht0 : w.cell? t = some old) (hf0 : w.frozen? t = false) :
    Calls Tryz.prog 40 #[.iface 72 (.pointer (some e)), .iface 85 (.pointer (some t))] w fun ev w' => ev = .returned (.bool true) ∧ w' = ((((w.alloc (.cells #[.pointer (some t)] 85)).alloc (.cells #[.pointer (some ⟨22, 85, none⟩), .pointer (some ⟨w.heap.size, 0, none⟩), .int .u64 150] 133)).alloc (.cells #[.pointer (some ⟨22, 85, none⟩), .pointer (some ⟨w.heap.size, 0, none⟩), .int .u64 150] 133)).alloc (.cells #[.pointer (some e)] 72)).setCell t (.pointer (some e)) := by
  have h6 := @run_callFunc_extern Tryz.prog 79 _ (fun args => ReflectliteValue.unpack (args.getD 0 (.tuple #[]))) Tryz.func79 (by kernel_rfl) (by kernel_rfl) (by kernel_rfl) (by kernel_rfl)
  have h7 := @run_callFunc_extern Tryz.prog 80 _ (ReflectliteValue.methodAny (ReflectliteValue.valueError "reflectlite.Value.Type" 0) (fun t _ _ _ => ReflectliteType.toType t)) Tryz.func80 (by kernel_rfl) (by kernel_rfl) (by kernel_rfl) (by kernel_rfl)
  have h8 := @run_callFunc_extern Tryz.prog 81 _ (ReflectliteValue.method (ReflectliteValue.valueError "reflectlite.Value.IsNil" 0) ReflectliteValue.isNil) Tryz.func81 (by kernel_rfl) (by kernel_rfl) (by kernel_rfl) (by kernel_rfl)
  have h27 := @run_callFunc_extern Tryz.prog 266 _ (ReflectliteType.abiMethod fun t => do pure (.int .u8 (← Rtype.kind t))) Tryz.func266 (by kernel_rfl) (by kernel_rfl) (by kernel_rfl) (by kernel_rfl)
  have h37 := @run_callFunc_extern Tryz.prog 278 _ (ReflectliteType.method ReflectliteType.elem) Tryz.func278 (by kernel_rfl) (by kernel_rfl) (by kernel_rfl) (by kernel_rfl)
  have h38 := @run_callFunc_extern Tryz.prog 279 _ (ReflectliteType.relation "Implements" ReflectliteType.implements_) Tryz.func279 (by kernel_rfl) (by kernel_rfl) (by kernel_rfl) (by kernel_rfl)
  have h10 := @run_callFunc_extern Tryz.prog 77 _ ReflectliteType.typeOf Tryz.func77 (by kernel_rfl) (by kernel_rfl) (by kernel_rfl) (by kernel_rfl)
  have h35 := @run_callFunc_extern Tryz.prog 276 _ (ReflectliteType.relation "AssignableTo" ReflectliteType.assignableTo) Tryz.func276 (by kernel_rfl) (by kernel_rfl) (by kernel_rfl) (by kernel_rfl)
  have h11 := @run_callFunc_extern Tryz.prog 126 _ (ReflectliteValue.method (ReflectliteValue.valueError "reflectlite.Value.Elem" 0) ReflectliteValue.elem) Tryz.func126 (by kernel_rfl) (by kernel_rfl) (by kernel_rfl) (by kernel_rfl)
  have h12 := @run_callFunc_extern Tryz.prog 127 _ ReflectliteValue.set Tryz.func127 (by kernel_rfl) (by kernel_rfl) (by kernel_rfl) (by kernel_rfl)
  have tO := as_typeOf25
  have mA := as_methodAssignableTo
  have a25 := as_assignable25
  have v25 := as_valueOf25
  have f6 := as_valueOf27
  have f7 := as_type27
  have mK := as_methodKind
  have mE := as_methodElem
  have mI := as_methodImplements
  have k27 := as_kind27
  have k25 := as_kind25
  have e27 := as_elem27
  have i25 := as_implements25
  have n8 := as_isNil27 ⟨w.heap.size, 0, none⟩ t ((w.alloc (.cells #[.pointer (some t)] 85)).alloc (.cells #[.pointer (some ⟨22, 85, none⟩), .pointer (some ⟨w.heap.size, 0, none⟩), .int .u64 150] 133)) (by simp)
  have hlt : 11 < w.heap.size := by
    rcases Nat.lt_or_ge 11 w.heap.size with h | h
    · exact h
    · simp [World.cell?, Array.getElem?_eq_none h] at hg
  have hg2 : ((w.alloc (.cells #[.pointer (some t)] 85)).alloc (.cells #[.pointer (some ⟨22, 85, none⟩), .pointer (some ⟨w.heap.size, 0, none⟩), .int .u64 150] 133)).cell? ⟨11, 0, none⟩ = some (.iface 202 (.agg #[.pointer (some ⟨22, 35, none⟩)])) := by
    rw [World.cell?_alloc_lt _ _ ⟨11, 0, none⟩ (by simp; omega), World.cell?_alloc_lt _ _ ⟨11, 0, none⟩ hlt]; exact hg
  have htl : t.block < w.heap.size := by
    rcases Nat.lt_or_ge t.block w.heap.size with h | h
    · exact h
    · simp [World.cell?, Array.getElem?_eq_none h] at ht0
  have el := as_elemV27 ⟨w.heap.size, 0, none⟩ t (((w.alloc (.cells #[.pointer (some t)] 85)).alloc (.cells #[.pointer (some ⟨22, 85, none⟩), .pointer (some ⟨w.heap.size, 0, none⟩), .int .u64 150] 133)).alloc (.cells #[.pointer (some ⟨22, 85, none⟩), .pointer (some ⟨w.heap.size, 0, none⟩), .int .u64 150] 133)) (by rw [World.cell?_alloc_lt _ _ ⟨w.heap.size, 0, none⟩ (by simp; omega)]; simp)
  have st := as_set25 t ⟨w.heap.size + 1 + 1 + 1, 0, none⟩ e old ((((w.alloc (.cells #[.pointer (some t)] 85)).alloc (.cells #[.pointer (some ⟨22, 85, none⟩), .pointer (some ⟨w.heap.size, 0, none⟩), .int .u64 150] 133)).alloc (.cells #[.pointer (some ⟨22, 85, none⟩), .pointer (some ⟨w.heap.size, 0, none⟩), .int .u64 150] 133)).alloc (.cells #[.pointer (some e)] 72))
    (by rw [World.cell?_alloc_at _ _ _ _ (by simp)]; rfl)
    (by rw [World.cell?_alloc_lt _ _ t (by simp; omega), World.cell?_alloc_lt _ _ t (by simp; omega), World.cell?_alloc_lt _ _ t (by simp; omega), World.cell?_alloc_lt _ _ t htl]; exact ht0)
    (by rw [World.frozen?_alloc_old _ _ t (by simp; omega), World.frozen?_alloc_old _ _ t (by simp; omega), World.frozen?_alloc_old _ _ t (by simp; omega), World.frozen?_alloc_old _ _ t (Nat.ne_of_lt htl)]; exact hf0)
  go_enter Tryz.func40, Tryz.ntmps40
  go_wp2
  refine wp_loop_rounds 1 ?_
  rw [rounds_succ]
  go_wp2
  go_ret
  exact ⟨rfl, rfl⟩
end Go.Proofs.YtbhfoelnoddlkaaGreatDoor.D

