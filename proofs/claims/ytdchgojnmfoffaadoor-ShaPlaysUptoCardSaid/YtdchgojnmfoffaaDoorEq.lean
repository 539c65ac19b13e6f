import Derived.Test.YtdchgojnmfoffaaDoorT5
namespace Go.Proofs.YtdchgojnmfoffaaDoor.Sha
open Go Go.RowKit

theorem run_part5 (a : List UInt8) (i : Nat) (h : i < a.length) (w : World) : (part 5 (bCells a) i).run Tryd.prog w = .ok (by8 (a.getD i 0)) w := by
  have hs : ∀ w, (isAgg 5).run Tryd.prog w = .ok false w := fun _ => by kernel_rfl
  simp only [part, Sem.run_bind, hs, Result.andThen_ok, bCells_at a i h]
  rfl

/-- The loop of an array's '=='. -/
theorem run_loop {P : Program} {w : World} (body : Nat → Option Bool × Unit → Sem (ForInStep (Option Bool × Unit))) (p : Nat → Bool) : ∀ (l : List Nat),
    (∀ i ∈ l, (body i (none, ())).run P w = .ok (if p i then .yield (none, ()) else .done (some false, ())) w) →
    (forIn l (none, ()) body).run P w = .ok (if l.all p then (none, ()) else (some false, ())) w
  | [], _ => by simp
  | i :: l, h => by
    simp only [List.forIn_cons, Sem.run_bind, h i (by simp), Result.andThen_ok]
    cases hp : p i
    · simp [hp]
    · simp only [if_true, List.all_cons, hp, Bool.true_and]
      exact run_loop body p l (fun j hj => h j (by simp [hj]))

theorem run_eq22 (D : Nat) (a b : List UInt8) (ha : a.length = 32) (hb : b.length = 32) (w : World) :
    (Op.equalIn (D + 2) 22 (.agg (bCells a)) (.agg (bCells b))).run Tryd.prog w = .ok (decide (a = b)) w := by
  have hs : ∀ w, (sizeOf 5).run Tryd.prog w = .ok 1 w := fun _ => by kernel_rfl
  have hi : ∀ (x y : UInt8) w, (Op.equalIn (D + 1) 5 (by8 x) (by8 y)).run Tryd.prog w = .ok (decide (x = y)) w := fun x y w => by
    unfold by8
    rw [run_equalIn_int (w := w) D 5 .u8 .u8 _ _ Tryd.underlying5]
    congr 1
    rw [Bool.eq_iff_iff]
    simp [← UInt8.toNat_inj]
    omega
  obtain ⟨d, hd⟩ : ∃ d, d = D + 1 := ⟨_, rfl⟩
  rw [show D + 2 = d + 1 by omega]
  rw [← hd] at hi
  clear hd
  simp only [Op.equalIn, Sem.run_bind, run_underlying Tryd.underlying22, Result.andThen_ok, hs, Nat.mul_one]
  rw [Std.Legacy.Range.forIn_eq_forIn_range', run_loop _ (fun i => decide (a.getD i 0 = b.getD i 0))]
  · by_cases h : a = b
    · subst h
      simp
    · have hne : ¬ ((List.range' 0 32).all fun i => decide (a.getD i 0 = b.getD i 0)) = true := by
        intro hall
        apply h
        apply List.ext_getElem?
        intro i
        by_cases hi' : i < 32
        · have := (List.all_eq_true.1 hall) i (by simp; omega)
          simp only [decide_eq_true_eq, List.getD_eq_getElem?_getD, List.getElem?_eq_getElem (show i < a.length by omega), List.getElem?_eq_getElem (show i < b.length by omega), Option.getD_some] at this
          rw [List.getElem?_eq_getElem (by omega), List.getElem?_eq_getElem (by omega), this]
        · rw [List.getElem?_eq_none (by omega), List.getElem?_eq_none (by omega)]
      simp only [Std.Legacy.Range.size, Nat.sub_zero, Nat.add_sub_cancel, Nat.div_one, if_neg hne, Result.andThen_ok, Sem.run_pure, h, decide_false]
  · intro i hr
    have : i < 32 := by simpa [Std.Legacy.Range.size] using hr
    simp only [Sem.run_bind, run_part5 a i (by omega), run_part5 b i (by omega), Result.andThen_ok, hi]
    generalize a.getD i 0 = x
    generalize b.getD i 0 = y
    by_cases h : x = y <;> simp [h]
theorem run_eql22 (a b : List UInt8) (ha : a.length = 32) (hb : b.length = 32) (w : World) :
    (binOp .eql 22 (.agg (bCells a)) (.agg (bCells b))).run Tryd.prog w = .ok (.bool (decide (a = b))) w := by
  have h := run_eq22 9998 a b ha hb w
  simp only [binOp]
  simp [Op.equal, Op.maxDepth, h]
end Go.Proofs.YtdchgojnmfoffaaDoor.Sha
