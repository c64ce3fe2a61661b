/- Walk: the reference's Prime. -/
import Derived.Test.YtfmadiepefbepaaModK
set_option linter.unusedVariables false
set_option linter.unusedSimpArgs false
set_option maxRecDepth 20000
namespace Go.Proofs.Ytfmadiepefbepaa
open Go.RowKit

/-- A prime, by its divisors. -/
def IsP (v : Nat) : Prop := 2 ≤ v ∧ ∀ d, 2 ≤ d → d * d ≤ v → v % d ≠ 0
def RetPr (w : World) (v : Nat) (e : Ending) (w' : World) : Prop := ∃ b, e = .returned (.bool b) ∧ (b = true ↔ IsP v) ∧ w = w'
theorem sq_bound {k v : Nat} (h : k * k ≤ v) (hv : v < 4294967296) : k < 65536 := by
  rcases Nat.lt_or_ge k 65536 with h1 | h1
  · exact h1
  · have := Nat.mul_le_mul h1 h1
    omega
set_option maxHeartbeats 1600000 in
theorem rprime_ok (v : Nat) (w : World) (hv : v < 4294967296) :
    Calls Try.prog 13 #[.int .i64 (v : Int)] w (RetPr w v) := by
  have HV := Lib.hid hv
  clear hv
  go_enter Try.func13, Try.ntmps13
  go_wp2_with fail
  go_loop [3] (fun d => ∃ k : Nat, 2 ≤ k ∧ k ≤ 65536 ∧ d = .int .i64 (k : Int) ∧ ∀ j, 2 ≤ j → j < k → v % j ≠ 0) (fun d => 70000 - (intOf d).toNat)
  case atStart => exact ⟨2, by omega, by omega, rfl, fun j h1 h2 => by omega⟩
  case round =>
    obtain ⟨k, hk2, hk, rfl, hd⟩ := hrel
    have HD := Lib.hid hd
    have HK := Lib.hid hk
    have HK2 := Lib.hid hk2
    obtain ⟨q, hq⟩ : ∃ q, k * k = q := ⟨_, rfl⟩
    obtain ⟨m, hm⟩ : ∃ m, v % k = m := ⟨_, rfl⟩
    have hqb : k * k ≤ 4294967296 := Nat.mul_le_mul hk hk
    have hw : IntKind.i64.wrap ((k : Int) * (k : Int)) = (q : Int) := by
      rw [← hq, Int.natCast_mul, IntKind.wrap_i64]
      have h1 := Int.ofNat_le.2 hqb
      rw [Int.natCast_mul] at h1
      have h2 : 0 ≤ (k : Int) * (k : Int) := Int.mul_nonneg (by omega) (by omega)
      generalize (k : Int) * (k : Int) = y at *
      omega
    have ht : (v : Int).tmod (k : Int) = (m : Int) := by rw [Int.tmod_eq_emod_of_nonneg (by omega), ← hm]; exact (Int.natCast_emod _ _).symm
    have ht2 : (v : Int) % (k : Int) = (m : Int) := by rw [← hm]; exact (Int.natCast_emod _ _).symm
    have hk0 : (2 : Int) ≤ (k : Int) := by omega
    have hkI : (k : Int) ≤ 65536 := by omega
    have hwk : IntKind.i64.wrap ((k : Int) + 1) = (k : Int) + 1 := by rw [IntKind.wrap_i64]; omega
    have HQ := Lib.hid hq
    have HM := Lib.hid hm
    clear hd hk hk2 hq hm hqb
    by_cases hle : q ≤ v
    · have d1 : decide (q ≤ v) = true := decide_eq_true hle
      have HL := Lib.hid hle
      clear hle
      by_cases h0 : m = 0
      · have d2 : ((m : Int) == 0) = true := by rw [h0]; rfl
        have H0 := Lib.hid h0
        clear h0
        go_wp2_with fail
        go_ret
        exact ⟨false, rfl, ⟨(fun h => by cases h), fun h => absurd (by rw [HM.out, H0.out]) (h.2 k HK2.out (by rw [HQ.out]; exact HL.out))⟩, rfl⟩
      · have d2 : ((m : Int) == 0) = false := by rw [beq_eq_false_iff_ne]; omega
        have H0 := Lib.hid h0
        clear h0
        go_wp2_with fail
        go_round
        case rel => exact ⟨k + 1, by have := HK2.out; omega, sq_bound (by rw [HQ.out]; exact HL.out) HV.out, by go_num, fun j h1 h2 => by
          rcases Nat.lt_or_ge j k with h3 | h3
          · exact HD.out j h1 h3
          · obtain rfl : j = k := by omega
            rw [HM.out]; exact H0.out⟩
        case measure => simp [intOf]; have := HK.out; omega
    · have d1 : decide (q ≤ v) = false := decide_eq_false hle
      have HL := Lib.hid hle
      clear hle
      go_wp2_with fail
      go_ret
      refine ⟨_, rfl, ?_, rfl⟩
      rw [decide_eq_true_iff]
      constructor
      · intro h
        refine ⟨by omega, fun d h2 hdd => ?_⟩
        refine HD.out d h2 ?_
        rcases Nat.lt_or_ge d k with h3 | h3
        · exact h3
        · have h4 := Nat.mul_le_mul h3 h3
          rw [HQ.out] at h4
          exact absurd (Nat.le_trans h4 hdd) HL.out
      · intro h
        have := h.1
        omega

end Go.Proofs.Ytfmadiepefbepaa
