/- Contracts of shifts by case; what laws need of them. -/
import Derived.Test.YtfmadiepefbepaaNatJJ
set_option linter.unusedVariables false
set_option linter.unusedSimpArgs false
set_option maxRecDepth 20000
namespace Go.Proofs.Ytfmadiepefbepaa
open Go.RowKit

theorem bl_shl {a k : Nat} (h : a ≠ 0) : bl (a * 2 ^ k) = bl a + k := by
  refine bl_eq ?_ (.inr ?_)
  · rw [Nat.pow_add]
    exact Nat.mul_lt_mul_of_pos_right (lt_bl a) (Nat.two_pow_pos k)
  · have h1 := bl_pos h
    rw [show bl a + k - 1 = bl a - 1 + k from by omega, Nat.pow_add]
    exact Nat.mul_le_mul_right _ (le_bl h)
theorem shl_fits {a k : Nat} (h : a ≠ 0) : Fit (a * 2 ^ k) ↔ bl a + k ≤ 1024 := by rw [← bl_fit, bl_shl h]
section
variable {a b s k : Nat} {n : Int}
theorem shl_ok (w : World) (ha : Fit a) (hs : a * 2 ^ k = s) (hf : Fit s) :
    Calls Try.prog 79 #[.agg (natA a), .int .i64 (k : Int)] w fun e w' => e = .returned (.tuple #[.agg (natA s), .int .i64 0]) ∧ Below w.heap.size w w' := by
  subst hs
  have h1 := shl_any a (k : Int) w ha
  unfold shlN shlE at h1
  rw [if_neg (show ¬ (k : Int) < 0 by omega), if_neg (show ¬ (k : Int) < 0 by omega)] at h1
  by_cases h0 : a = 0
  · subst h0
    rw [if_pos rfl, if_pos rfl] at h1
    rw [Nat.zero_mul]
    exact h1
  · have h2 := (shl_fits h0).1 hf
    have h3 : ¬ 1024 - (bl a : Int) < (k : Int) := by omega
    rw [if_neg h0, if_neg h0, if_neg h3, if_neg h3, Int.toNat_natCast] at h1
    exact h1
theorem shr_ok (w : World) (ha : Fit a) (hs : a / 2 ^ k = s) :
    Calls Try.prog 78 #[.agg (natA a), .int .i64 (k : Int)] w fun e w' => e = .returned (.tuple #[.agg (natA s), .int .i64 0]) ∧ Below w.heap.size w w' := by
  subst hs
  have h1 := shr_any a (k : Int) w ha
  unfold shrN shrE at h1
  have h2 : ¬ (k : Int) < 0 := by omega
  rw [if_neg h2, if_neg h2, Int.toNat_natCast] at h1
  exact h1
end
end Go.Proofs.Ytfmadiepefbepaa
