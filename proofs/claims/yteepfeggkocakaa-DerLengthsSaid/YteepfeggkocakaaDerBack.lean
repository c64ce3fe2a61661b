/- The distinguished encoding, in plain Lean: what is written is read again, whatever follows it. -/
import Derived.Test.YteepfeggkocakaaDerSpec
set_option linter.unusedVariables false
set_option linter.unusedSimpArgs false
namespace Go.Proofs.Yteepfeggkocakaa.Der

theorem byteAt_lit (v : Int) (h0 : 0 ≤ v) (h1 : v ≤ 255) : ((byteAt v 0).toNat : Int) = v := by
  rw [byteAt_toNat, Int.pow_zero, Int.ediv_one]
  omega

theorem emod_pow_succ (v : Int) (n : Nat) : v % 256 ^ (n + 1) = v / 256 ^ n % 256 * 256 ^ n + v % 256 ^ n := by
  have hp : (0 : Int) < 256 ^ n := Int.pow_pos (by decide)
  have e1 : (256 : Int) ^ (n + 1) = 256 ^ n * 256 := Int.pow_succ ..
  have h1 := Int.mul_ediv_add_emod v (256 ^ n)
  have h2 := Int.mul_ediv_add_emod (v / 256 ^ n) 256
  have h3 := Int.emod_nonneg v (Int.ne_of_gt hp)
  have h4 := Int.emod_lt_of_pos v hp
  have h5 := Int.emod_nonneg (v / 256 ^ n) (show (256 : Int) ≠ 0 by decide)
  have h6 := Int.emod_lt_of_pos (v / 256 ^ n) (show (0 : Int) < 256 by decide)
  generalize hq : v / 256 ^ n % 256 = q at *
  generalize hr : v % 256 ^ n = r at *
  generalize hd : v / 256 ^ n / 256 = d at *
  have e2 : v = (q * 256 ^ n + r) + 256 ^ (n + 1) * d := by
    rw [e1, ← h1, ← h2, Int.mul_add]
    have : (256 : Int) ^ n * (256 * d) = 256 ^ n * 256 * d := by rw [Int.mul_assoc]
    rw [this, Int.mul_comm q]
    omega
  rw [e2, Int.add_mul_emod_self_left]
  refine Int.emod_eq_of_lt ?_ ?_
  · have : 0 ≤ q * 256 ^ n := Int.mul_nonneg h5 (Int.le_of_lt hp)
    omega
  · have h7 : q * 256 ^ n ≤ 255 * 256 ^ n := Int.mul_le_mul_of_nonneg_right (by omega) (Int.le_of_lt hp)
    rw [e1]
    omega

theorem ofB_numB (acc v : Int) (n : Nat) : ofB acc (numB v n) = acc * 256 ^ n + v % 256 ^ n := by
  induction n generalizing acc with
  | zero => simp [numB, ofB, Int.emod_one]
  | succ n ih =>
    rw [numB, ofB, ih, byteAt_toNat, emod_pow_succ, Int.add_mul, Int.pow_succ]
    rw [Int.mul_assoc acc, Int.mul_comm 256 (256 ^ n)]
    omega

theorem lenP_lenB (n : Nat) (hn : (n : Int) ≤ 16777215) (r : List UInt8) : lenP (lenB n ++ r) = .ok (n, (lenB n).length) := by
  have gen : ∀ m : Nat, 1 ≤ m → m ≤ 3 → (128 ≤ n) → (n < 256 ^ m) → (256 ^ (m - 1) ≤ n) → lenP (byteAt (128 + m : Nat) 0 :: numB n m ++ r) = .ok (n, 1 + m) := by
    intro m h1 h3 h128 hlt hge
    have hb : (byteAt ((128 + m : Nat) : Int) 0).toNat = 128 + m := by
      have := byteAt_lit ((128 + m : Nat) : Int) (by omega) (by omega)
      omega
    have ht : (numB (n : Int) m ++ r).take m = numB n m := by rw [List.take_append_of_le_length (by rw [numB_length]; omega), List.take_of_length_le (by rw [numB_length]; omega)]
    have hv : ofB 0 (numB (n : Int) m) = n := by
      rw [ofB_numB, Int.zero_mul, Int.zero_add]
      refine Int.emod_eq_of_lt (by omega) ?_
      have h2 : ((256 ^ m : Nat) : Int) = 256 ^ m := by rw [Int.natCast_pow]; rfl
      omega
    rw [List.cons_append]
    unfold lenP
    simp only []
    rw [hb, if_neg (by omega), if_neg (by omega), show 128 + m - 128 = m from by omega, if_neg (by rw [List.length_append, numB_length]; omega), ht, hv, Int.toNat_natCast, if_pos ⟨h128, hge⟩]
  unfold lenB
  by_cases h1 : n < 128
  · rw [if_pos h1]
    have hb : (byteAt (n : Int) 0).toNat = n := by
      have := byteAt_lit (n : Int) (by omega) (by omega)
      omega
    show lenP (byteAt (n : Int) 0 :: r) = _
    unfold lenP
    simp only []
    rw [hb, if_pos h1]
    rfl
  · rw [if_neg h1]
    by_cases h2 : n < 256
    · rw [if_pos h2]
      exact gen 1 (by omega) (by omega) (by omega) h2 (by simp; omega)
    · rw [if_neg h2]
      by_cases h3 : n < 65536
      · rw [if_pos h3]
        exact gen 2 (by omega) (by omega) (by omega) h3 (by simp; omega)
      · rw [if_neg h3]
        exact gen 3 (by omega) (by omega) (by omega) (by simp; omega) (by simp; omega)

theorem contP_elem (tag : Int) (xs r : List UInt8) (h0 : 0 ≤ tag) (h1 : tag ≤ 255) (hn : (xs.length : Int) ≤ 16777215) : contP tag (elem tag xs ++ r) = .ok (xs, (elem tag xs).length) := by
  unfold elem
  rw [List.cons_append]
  unfold contP
  simp only []
  rw [byteAt_lit tag h0 h1, if_neg (by simp), List.append_assoc, lenP_lenB _ hn]
  simp only []
  rw [if_neg (by simp only [List.length_append]; omega)]
  simp only [List.drop_left, List.length_cons, List.length_append]
  rw [List.take_left]
  congr 2
  omega

end Go.Proofs.Yteepfeggkocakaa.Der
