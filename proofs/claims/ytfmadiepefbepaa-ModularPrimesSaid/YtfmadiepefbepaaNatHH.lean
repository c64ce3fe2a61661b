/- Plain: bytes and strings of numbers are inverted. · Walk: same (printed by gennatgg.py). · Walk: made (printed by gennathh.py). -/
import Derived.Test.YtfmadiepefbepaaNatEE
import Derived.Test.YtfmadiepefbepaaNatS
set_option linter.unusedVariables false
set_option linter.unusedSimpArgs false
set_option maxRecDepth 20000
namespace Go.Proofs.Ytfmadiepefbepaa
open Go.RowKit

theorem mod_pow_step (a b k : Nat) : a / 2 ^ k % 2 ^ b * 2 ^ k + a % 2 ^ k = a % 2 ^ (k + b) := by
  rw [Nat.pow_add, Nat.mod_mul, Nat.mul_comm, Nat.add_comm]
theorem numN_natB (a : Nat) : ∀ k, numN (natB a k) = a % 2 ^ (8 * k)
  | 0 => by simp [natB, numN, Nat.mod_one]
  | k + 1 => by
    have h := mod_pow_step a 8 (8 * k)
    have e : (UInt8.ofNat (a / 2 ^ (8 * k) % 256)).toNat = a / 2 ^ (8 * k) % 2 ^ 8 := by simp
    rw [natB, numN, natB_length, numN_natB a k, e, h, Nat.mul_succ]
theorem numN_bytesN (a : Nat) : numN (bytesN a) = a := by
  unfold bytesN
  rw [numN_natB]
  exact Nat.mod_eq_of_lt (Nat.lt_of_lt_of_le (lt_bl a) (Nat.pow_le_pow_right (by decide) (by omega)))
theorem bytesN_inj {a b : Nat} : bytesN a = bytesN b ↔ a = b := by
  constructor
  · intro h
    rw [← numN_bytesN a, h, numN_bytesN]
  · rintro rfl; rfl
theorem bl_fit {n : Nat} : bl n ≤ 1024 ↔ Fit n := by
  constructor
  · intro h
    unfold Fit B32
    generalize hz : 32 * 32 = z
    exact Nat.lt_of_lt_of_le (lt_bl n) (Nat.pow_le_pow_right (by decide) (by omega))
  · intro h
    have h1 := bl_le (n := n) (k := 32 * 32) h
    omega
/-! ### Strings -/
end Go.Proofs.Ytfmadiepefbepaa

set_option linter.unusedVariables false
set_option linter.unusedSimpArgs false
set_option maxRecDepth 20000
namespace Go.Proofs.Ytfmadiepefbepaa
open Go.RowKit

theorem strOf {w : World} {v : Value} {xs : List UInt8} (h : Byt w v xs) : (convert 31 9 v).run Try.prog w = .ok (.string ⟨xs.toArray⟩) w :=
  run_str_of_bytes Try.underlying31 Try.underlying5 Try.underlying9 v xs h
theorem strLater {w : World} {v : Value} {xs : List UInt8} (h : Byt w v xs) (W : World) (hW : Later w W) : (convert 31 9 v).run Try.prog W = .ok (.string ⟨xs.toArray⟩) W := strOf (h.below hW)
theorem bytes_beq (a n : Nat) : (bytesN a == bytesN n) = decide (a = n) := by
  rw [Bool.eq_iff_iff]
  simp [bytesN_inj]
end Go.Proofs.Ytfmadiepefbepaa

set_option linter.unusedVariables false
set_option linter.unusedSimpArgs false
set_option maxRecDepth 20000
namespace Go.Proofs.Ytfmadiepefbepaa
open Go.RowKit

theorem c16_num {xs : List UInt8} (h : xs.length ≤ 200) : c16 (numN xs) ≤ 100 :=
  c16_le (by
    unfold X16
    generalize hz : 16 * 100 = z
    exact Nat.lt_of_lt_of_le (numN_lt xs) (Nat.pow_le_pow_right (by decide) (by omega)))
theorem sz_num {xs : List UInt8} (h : xs.length ≤ 200) : Sz (numN xs) := Nat.le_trans (c16_num h) (by decide)
end Go.Proofs.Ytfmadiepefbepaa
