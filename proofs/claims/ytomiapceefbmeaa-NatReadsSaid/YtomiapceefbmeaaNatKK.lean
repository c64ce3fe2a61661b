/- Contracts of shifts by case; what laws need of them. -/
import Derived.Test.YtomiapceefbmeaaNatJJ
set_option linter.unusedVariables false
set_option linter.unusedSimpArgs false
set_option maxRecDepth 20000
namespace Go.Proofs.Ytomiapceefbmeaa
open Go.RowKit

theorem bl_shl {a k : Nat} (h : a ≠ 0) : bl (a * 2 ^ k) = bl a + k := by
  refine bl_eq ?_ (.inr ?_)
  · rw [Nat.pow_add]
    exact Nat.mul_lt_mul_of_pos_right (lt_bl a) (Nat.two_pow_pos k)
  · have h1 := bl_pos h
    rw [show bl a + k - 1 = bl a - 1 + k from by omega, Nat.pow_add]
    exact Nat.mul_le_mul_right _ (le_bl h)
theorem shl_fits {a k : Nat} (h : a ≠ 0) : Fit (a * 2 ^ k) ↔ bl a + k ≤ 1024 := by rw [← bl_fit, bl_shl h]
section
variable {a b s k : Nat} {n : Int}
theorem shl_ok (w : World) (ha : Fit a) (hs : a * 2 ^ k = s) (hf : Fit s) :
    Calls Try.prog 40 #[.agg (natA a), .int .i64 (k : Int)] w fun e w' => e = .returned (.tuple #[.agg (natA s), .int .i64 0]) ∧ Below w.heap.size w w' := by
  subst hs
  have h1 := shl_any a (k : Int) w ha
  unfold shlN shlE at h1
  rw [if_neg (show ¬ (k : Int) < 0 by omega), if_neg (show ¬ (k : Int) < 0 by omega)] at h1
  by_cases h0 : a = 0
  · subst h0
    rw [if_pos rfl, if_pos rfl] at h1
    rw [Nat.zero_mul]
    exact h1
  · have h2 := (shl_fits h0).1 hf
    have h3 : ¬ 1024 - (bl a : Int) < (k : Int) := by omega
    rw [if_neg h0, if_neg h0, if_neg h3, if_neg h3, Int.toNat_natCast] at h1
    exact h1
theorem shl_full (w : World) (ha : Fit a) (h0 : a ≠ 0) (hf : ¬ Fit (a * 2 ^ k)) :
    Calls Try.prog 40 #[.agg (natA a), .int .i64 (k : Int)] w fun e w' => e = .returned (.tuple #[.agg (natA 0), .int .i64 7]) ∧ Below w.heap.size w w' := by
  have h1 := shl_any a (k : Int) w ha
  unfold shlN shlE at h1
  rw [shl_fits h0] at hf
  have h3 : 1024 - (bl a : Int) < (k : Int) := by omega
  have h2 : ¬ (k : Int) < 0 := by omega
  rw [if_neg h2, if_neg h2, if_neg h0, if_neg h0, if_pos h3, if_pos h3] at h1
  exact h1
theorem shl_minus (w : World) (ha : Fit a) (h : n < 0) :
    Calls Try.prog 40 #[.agg (natA a), .int .i64 n] w fun e w' => e = .returned (.tuple #[.agg (natA 0), .int .i64 2]) ∧ Below w.heap.size w w' := by
  have h1 := shl_any a n w ha
  unfold shlN shlE at h1
  rw [if_pos h, if_pos h] at h1
  exact h1
theorem shr_ok (w : World) (ha : Fit a) (hs : a / 2 ^ k = s) :
    Calls Try.prog 41 #[.agg (natA a), .int .i64 (k : Int)] w fun e w' => e = .returned (.tuple #[.agg (natA s), .int .i64 0]) ∧ Below w.heap.size w w' := by
  subst hs
  have h1 := shr_any a (k : Int) w ha
  unfold shrN shrE at h1
  have h2 : ¬ (k : Int) < 0 := by omega
  rw [if_neg h2, if_neg h2, Int.toNat_natCast] at h1
  exact h1
theorem shr_minus (w : World) (ha : Fit a) (h : n < 0) :
    Calls Try.prog 41 #[.agg (natA a), .int .i64 n] w fun e w' => e = .returned (.tuple #[.agg (natA 0), .int .i64 2]) ∧ Below w.heap.size w w' := by
  have h1 := shr_any a n w ha
  unfold shrN shrE at h1
  rw [if_pos h, if_pos h] at h1
  exact h1
theorem rshift_ok (u : Value) (w : World) (hu : Lst w u a) (ha : Sz a) (hn : k ≤ 100000) (h : a * 2 ^ k = s) :
    Calls Try.prog 42 #[u, .int .i64 (k : Int)] w (RetL w s) := by
  subst h
  exact rshift_any u a k w hu ha hn
def q1024 : Nat := 1024
theorem rshift_at {K : Int} (hK : K = (k : Int)) (u : Value) (w : World) (hu : Lst w u a) (ha : Sz a) (hn : k ≤ 100000) (h : a * 2 ^ k = s) :
    Calls Try.prog 42 #[u, .int .i64 K] w (RetL w s) := by
  subst hK
  exact rshift_ok u w hu ha hn h
theorem shr_far {a k : Nat} (h : Fit a) (hk : 1024 ≤ k) : a / 2 ^ k = 0 :=
  Nat.div_eq_of_lt (Nat.lt_of_lt_of_le h (B32_le_pow (by omega)))
theorem c16_pow {k j : Nat} (h : k < 16 * j) : c16 (2 ^ k) ≤ j := c16_le (Nat.pow_lt_pow_right (by decide) h)
theorem c16_two {k : Nat} (h : k ≤ 1024) : c16 (2 ^ k) ≤ 65 := c16_pow (by omega)
theorem unfit_far {a k : Nat} (h : a ≠ 0) (hk : 1024 < k) : ¬ Fit (a * 2 ^ k) := by
  have h1 := bl_pos h
  rw [shl_fits h]
  omega
end
theorem parse_text {a : Nat} (w : World) (ha : Fit a) :
    Calls Try.prog 19 #[.string ⟨(textN a).toArray⟩] w fun e w' => e = .returned (.tuple #[.agg (natA a), .int .i64 0]) ∧ Below w.heap.size w w' := by
  have hl := textN_length ha
  have h1 := parse_any ⟨(textN a).toArray⟩ w (by show (textN a).toArray.size ≤ 100000; simp; omega)
  have e : (ByteArray.mk (textN a).toArray).data.toList = textN a := rfl
  obtain ⟨h2, h3⟩ := par_yes (okP_textN a) (by omega)
  unfold RetNP at h1
  rw [e, h2, h3, numH_textN] at h1
  exact h1
theorem fromBytes_bytes {a : Nat} (v : Value) (w : World) (h : Byt w v (bytesN a)) (ha : Fit a) :
    Calls Try.prog 12 #[v] w fun e w' => e = .returned (.tuple #[.agg (natA a), .int .i64 0]) ∧ Below w.heap.size w w' := by
  refine fromBytes_ok v w h ?_ (numN_bytesN a) ha
  have h1 := bl_fit.2 ha
  unfold bytesN
  rw [natB_length]
  omega
def P40 : Nat := 320
theorem lt_num40 {xs : List UInt8} (h : xs.length ≤ 40) : numN xs < 2 ^ P40 := Nat.lt_of_lt_of_le (numN_lt xs) (Nat.pow_le_pow_right (by decide) (by unfold P40; omega))
end Go.Proofs.Ytomiapceefbmeaa
