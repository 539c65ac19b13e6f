import Derived.Test.YtdchgojnmfoffaaDoorProg
import Derived.Test.YtdchgojnmfoffaaDoorBits
import Derived.WalkKit
namespace Go.Proofs.YtdchgojnmfoffaaDoor.Sha
open Go

theorem rot_any (x : W) (k : Int) (hk : k < 32) (h0 : 0 < k) (w : World) :
    Calls Tryd.prog 40 #[.int .u32 (tn x), .int .i64 (-k)] w fun e w' => e = .returned (.int .u32 (tn (rr x k.toNat))) ∧ w' = w := by
  have hm := mask_rot k hk h0
  go_enter Tryd.func40, Tryd.ntmps40
  go_wp2
  go_ret
  refine ⟨?_, rfl⟩
  simp only [List.getElem?_toArray, Array.getD_eq_getD_getElem?, List.getElem?_cons_succ, List.getElem?_cons_zero, Option.getD_some]
  rw [rr_eq x k hk h0 _ _ (by omega) (by omega)]

theorem right_any (x : W) (k : Nat) (hk : k < 32) (h0 : 0 < k) (w : World) :
    Calls Tryd.prog 38 #[.int .u32 (tn x), .int .i64 (k : Int)] w fun e w' => e = .returned (.int .u32 (tn (rr x k))) ∧ w' = w := by
  go_enter Tryd.func38, Tryd.ntmps38
  go_wp2_with (go_at_call 40; refine (rot_any x (k : Int) (by omega) (by omega) _).mono ?_; rintro e w' ⟨rfl, rfl⟩)
  go_ret
  exact ⟨rfl, rfl⟩
theorem right_int (x : W) (k : Int) (hk : 0 < k ∧ k < 32) (w : World) :
    Calls Tryd.prog 38 #[.int .u32 (tn x), .int .i64 k] w fun e w' => e = .returned (.int .u32 (tn (rr x k.toNat))) ∧ w' = w := by
  obtain ⟨k, rfl⟩ := Int.eq_ofNat_of_zero_le (show 0 ≤ k by omega)
  exact right_any x k (by omega) (by omega) w
end Go.Proofs.YtdchgojnmfoffaaDoor.Sha
