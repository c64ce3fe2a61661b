/- Walks: order, count. · Walks: package bits' functions of 32 bits. -/
import Derived.Test.YtomiapceefbmeaaNatSpec
import Derived.WalkKit
import Derived.ProofKit
import Derived.Test.YtomiapceefbmeaaNatLen
import Derived.Laws.BitsAllLaws
import Derived.Laws.BitsLemmas
import Derived.Lib.Strings
import Derived.Lib.Slices
import Derived.Lib.Small
import Derived.Lib.Walk
import Derived.Lib.BitFns
set_option linter.unusedVariables false
set_option linter.unusedSimpArgs false
set_option maxRecDepth 20000
namespace Go.Proofs.Ytomiapceefbmeaa
open Go.RowKit

def cmpI (a b : Nat) : Int := if a < b then -1 else if b < a then 1 else 0

theorem drew3 (w : World) (m a b : Nat) : ∃ q, ((w.drewN m).drewN a).drewN b = w.drewN q := ⟨m + a + b, by simp [World.drewN, Nat.add_assoc]⟩
theorem below_drew' {B : Nat} {a w : World} (h : Below B a w) (m : Nat) : Below B a (w.drewN m) := ⟨h.os, h.tape, h.output, h.size, h.block⟩

set_option maxHeartbeats 1600000 in
theorem compare_any (a b : Nat) (w : World) (ha : Fit a) (hb : Fit b) :
    Calls Try.prog 35 #[.agg (natA a), .agg (natA b)] w fun e w' => e = .returned (.int .i64 (cmpI a b)) ∧ Below w.heap.size w w' := by
  have HA := Lib.hid ha
  have HB := Lib.hid hb
  clear ha hb
  go_enter Try.func35, Try.ntmps35
  go_wp2_with fail
  have hA : NatAt ((w.alloc (.cells (natA a) 29)).alloc (.cells (natA b) 29)) w.heap.size a := (NatAt.new w a _).alloc _
  have hB : NatAt ((w.alloc (.cells (natA a) 29)).alloc (.cells (natA b) 29)) (w.heap.size + 1) b := by
    have := NatAt.new (w.alloc (.cells (natA a) 29)) b 29
    simpa using this
  have hW : Below w.heap.size w ((w.alloc (.cells (natA a) 29)).alloc (.cells (natA b) 29)) := ((Below.refl _ _).alloc (Nat.le_refl _) _).alloc (by simp) _
  generalize (w.alloc (.cells (natA a) 29)).alloc (.cells (natA b) 29) = w1 at hA hB hW ⊢
  have HA1 := Lib.hid hA
  have HB1 := Lib.hid hB
  have HW := Lib.hid hW
  clear hA hB hW
  go_loopw [5, 10, 22] (fun i _ _ wr => ∃ k : Nat, k ≤ 32 ∧ i = .int .i64 ((k : Int) - 1) ∧ a / B32 k = b / B32 k ∧ ∃ m, wr = w1.drewN m) (fun i _ _ _ => (intOf i + 1).toNat)
  case atStart => exact ⟨32, Nat.le_refl _, rfl, by rw [Nat.div_eq_of_lt HA.out, Nat.div_eq_of_lt HB.out], 0, rfl⟩
  case round =>
    obtain ⟨k, hk, rfl, hdiv, m, rfl⟩ := hrel
    have HD := Lib.hid hdiv
    clear hdiv
    by_cases h0 : k = 0
    · subst h0
      have he : Hid (cmpI a b = 0) := by
        have := HD.out
        rw [B32_zero, Nat.div_one, Nat.div_one] at this
        subst this
        unfold Hid cmpI
        rw [if_neg (Nat.lt_irrefl _), if_neg (Nat.lt_irrefl _)]
      go_wp2_with fail
      go_ret
      exact ⟨by rw [he.out]; rfl, below_drew' HW.out m⟩
    · obtain ⟨j, rfl⟩ : ∃ j, k = j + 1 := ⟨k - 1, by omega⟩
      have hj : (j : Int) < 32 := by omega
      have e1 : ((j + 1 : Nat) : Int) - 1 = (j : Int) := by omega
      rw [e1]
      have ca := HA1.out.cell (show j < 32 by omega)
      have cb := HB1.out.cell (show j < 32 by omega)
      have da := dig_lt a j
      have db := dig_lt b j
      have hj0 : (0 : Int) ≤ (j : Int) := by omega
      clear e1 h0 hk
      rcases Nat.lt_trichotomy (dig a j) (dig b j) with h1 | h1 | h1
      · have he : Hid (cmpI a b = -1) := by
          unfold Hid cmpI
          rw [if_pos (lt_of_dig HD.out h1)]
        have hd : decide (((dig a j : Nat) : Int) < ((dig b j : Nat) : Int)) = true := by simpa using h1
        generalize ((dig a j : Nat) : Int) = x at *
        generalize ((dig b j : Nat) : Int) = y at *
        go_wp2_with fail
        go_quiet (fail)
        go_wp2_with fail
        go_ret
        exact ⟨by rw [he.out]; rfl, below_drew' (below_drew' HW.out m) nq⟩
      · have hd : decide (((dig a j : Nat) : Int) < ((dig b j : Nat) : Int)) = false := by simp; omega
        have hd2 : decide (((dig b j : Nat) : Int) < ((dig a j : Nat) : Int)) = false := by simp; omega
        have hq : Hid (a / B32 j = b / B32 j) := by unfold Hid; rw [div_step a, div_step b, HD.out, h1]
        clear h1
        generalize ((dig a j : Nat) : Int) = x at *
        generalize ((dig b j : Nat) : Int) = y at *
        go_wp2_with fail
        go_quiet (fail)
        go_wp2_with fail
        go_quiet (fail)
        go_wp2_with fail
        go_roundw
        case rel => exact ⟨j, by omega, rfl, hq.out, _, rfl⟩
        case measure => simp [intOf]
      · have he : Hid (cmpI a b = 1) := by
          have h2 := lt_of_dig HD.out.symm h1
          unfold Hid cmpI
          rw [if_neg (by omega), if_pos h2]
        have hd : decide (((dig a j : Nat) : Int) < ((dig b j : Nat) : Int)) = false := by simp; omega
        have hd2 : decide (((dig b j : Nat) : Int) < ((dig a j : Nat) : Int)) = true := by simpa using h1
        clear h1
        generalize ((dig a j : Nat) : Int) = x at *
        generalize ((dig b j : Nat) : Int) = y at *
        go_wp2_with fail
        go_quiet (fail)
        go_wp2_with fail
        go_quiet (fail)
        go_wp2_with fail
        go_ret
        exact ⟨by rw [he.out]; rfl, below_drew' (below_drew' (below_drew' HW.out m) _) _⟩

set_option maxHeartbeats 1600000 in
theorem count_any (a : Nat) (w : World) (ha : Fit a) :
    Calls Try.prog 50 #[.agg (natA a)] w fun e w' => e = .returned (.int .i64 (cnt a)) ∧ Below w.heap.size w w' := by
  have HA := Lib.hid ha
  clear ha
  go_enter Try.func50, Try.ntmps50
  go_wp2_with fail
  have hA : NatAt (w.alloc (.cells (natA a) 27)) w.heap.size a := NatAt.new w a _
  have hW : Below w.heap.size w (w.alloc (.cells (natA a) 27)) := (Below.refl _ _).alloc (Nat.le_refl _) _
  generalize w.alloc (.cells (natA a) 27) = w1 at hA hW ⊢
  have HA1 := Lib.hid hA
  have HW := Lib.hid hW
  clear hA hW
  go_loop [3] (fun i => ∃ k : Nat, k ≤ 32 ∧ i = .int .i64 (k : Int) ∧ a < B32 k) (fun i => (intOf i).toNat)
  case atStart => exact ⟨32, Nat.le_refl _, rfl, HA.out⟩
  case round =>
    obtain ⟨k, hk, rfl, hlt⟩ := hrel
    have HL := Lib.hid hlt
    clear hlt
    by_cases h0 : k = 0
    · subst h0
      have he : Hid (cnt a = 0) := Lib.hid (cnt_eq HL.out (.inl rfl))
      go_wp2_with fail
      go_ret
      exact ⟨by rw [he.out]; rfl, HW.out⟩
    · obtain ⟨j, rfl⟩ : ∃ j, k = j + 1 := ⟨k - 1, by omega⟩
      have hj : (j : Int) < 32 := by omega
      have e1 : ((j + 1 : Nat) : Int) - 1 = (j : Int) := by omega
      have e2 : ((j + 1 : Nat) : Int) = (j : Int) + 1 := by omega
      have ca := HA1.out.cell (show j < 32 by omega)
      have hj0 : (0 : Int) ≤ (j : Int) := by omega
      rw [e2]
      by_cases hd : dig a j = 0
      · have hm : Hid (a < B32 j) := by
          have h1 := div_step a j
          rw [Nat.div_eq_of_lt HL.out, hd] at h1
          have h2 : a / B32 j = 0 := by omega
          exact (Nat.div_eq_zero_iff_lt (B32_pos j)).1 h2
        rw [hd] at ca
        clear hd e1 e2 h0 hk HL
        go_wp2_with fail
        go_round
        case rel => exact ⟨j, by omega, rfl, hm.out⟩
        case measure => simp [intOf]
      · have he : Hid (cnt a = j + 1) := Lib.hid (cnt_eq HL.out (.inr (by
          rw [Nat.add_sub_cancel]
          rcases Nat.lt_or_ge a (B32 j) with h1 | h1
          · exact absurd (dig_high h1) hd
          · exact h1)))
        have hz : (((dig a j : Nat) : Int) == 0) = false := by rw [beq_eq_false_iff_ne]; omega
        clear hd e1 h0
        generalize ((dig a j : Nat) : Int) = x at *
        go_wp2_with fail
        go_ret
        exact ⟨by rw [he.out, e2]; rfl, HW.out⟩

end Go.Proofs.Ytomiapceefbmeaa

set_option linter.unusedVariables false
set_option linter.unusedSimpArgs false
set_option maxRecDepth 20000
namespace Go.Proofs.Ytomiapceefbmeaa
open Go.RowKit

theorem bl_half (x : Nat) (h : x ≠ 0) : bl x = 1 + bl (x / 2) := by
  unfold bl
  rw [if_neg h]
  by_cases h2 : x / 2 = 0
  · have : x = 1 := by omega
    subst this
    rw [if_pos h2]
    decide
  · rw [if_neg h2]
    rw [Nat.log2_def x, if_pos (by omega)]
    omega
theorem bitLenAux_bl : ∀ (f x : Nat), x < 2 ^ f → Lib.bitLenAux f x = bl x
  | 0, x, h => by
    rw [Nat.pow_zero] at h
    have : x = 0 := by omega
    subst this
    rfl
  | f + 1, x, h => by
    unfold Lib.bitLenAux
    by_cases hx : x = 0
    · rw [if_pos hx, hx]; rfl
    · rw [if_neg hx, bl_half x hx, bitLenAux_bl f (x / 2) (by rw [Nat.pow_succ] at h; omega)]

theorem len32_any (x : Nat) (w : World) (h : (x : Int) < 4294967296) :
    Calls Try.prog 51 #[.int .u32 (x : Int)] w fun e w' => e = .returned (.int .i64 (bl x)) ∧ w' = w := by
  refine (len32_lib (x : Int) w (by omega) (by omega)).mono ?_
  rintro e w' ⟨rfl, rfl⟩
  refine ⟨?_, rfl⟩
  have h2 : x < 2 ^ 64 := by
    have e : (2 : Nat) ^ 64 = 18446744073709551616 := by decide
    omega
  rw [Int.toNat_natCast, show Lib.bitLen x = bl x from bitLenAux_bl 64 x h2]

theorem lz32_any (x : Nat) (w : World) (h : (x : Int) < 4294967296) :
    Calls Try.prog 53 #[.int .u32 (x : Int)] w fun e w' => e = .returned (.int .i64 (32 - (bl x : Int))) ∧ w' = w := by
  have l : (bl x : Int) ≤ 32 := by have := bl_le (n := x) (k := 32) (by omega); omega
  go_enter Try.func53, Try.ntmps53
  go_wp2_with fail
  refine (len32_any x w h).mono ?_
  rintro e w' ⟨rfl, rfl⟩
  go_wp2_with fail
  go_ret
  exact ⟨rfl, rfl⟩

set_option maxHeartbeats 1600000 in
theorem add32_any (x y c : Int) (w : World) (hx : 0 ≤ x ∧ x < 4294967296) (hy : 0 ≤ y ∧ y < 4294967296) (hc : 0 ≤ c ∧ c ≤ 1) :
    Calls Try.prog 61 #[.int .u32 x, .int .u32 y, .int .u32 c] w fun e w' => e = .returned (.tuple #[.int .u32 ((x + y + c) % 4294967296), .int .u32 ((x + y + c) / 4294967296)]) ∧ w' = w := by
  obtain ⟨hx0, hx1⟩ := hx
  obtain ⟨hy0, hy1⟩ := hy
  obtain ⟨hc0, hc1⟩ := hc
  go_enter Try.func61, Try.ntmps61
  go_wp2
  go_ret2
  exact ⟨rfl, rfl⟩

theorem p31 : (2 : Nat) ^ 31 = 2147483648 := by decide
theorem p32 : (2 : Nat) ^ 32 = 4294967296 := by decide
theorem top_bit (n : Nat) (h : n < 4294967296) : n / 2147483648 = (n.testBit 31).toNat := by
  rw [Nat.testBit_eq_decide_div_mod_eq, p31]
  have h1 : n / 2147483648 < 2 := by omega
  by_cases h2 : n / 2147483648 = 1
  · rw [h2]; rfl
  · have : n / 2147483648 = 0 := by omega
    rw [this]; rfl
theorem top_is (n : Nat) (h : n < 4294967296) : n.testBit 31 = decide (2147483648 ≤ n) := by
  rw [Nat.testBit_eq_decide_div_mod_eq, p31]
  congr 1
  simp only [eq_iff_iff]
  omega
/-- The borrow that bits.Sub32 reckons. -/
theorem borrow_bits (x y d : Nat) (c : Int) (hx : x < 4294967296) (hy : y < 4294967296) (hd : d < 4294967296) (hc : 0 ≤ c ∧ c ≤ 1) (e : (d : Int) = ((x : Int) - y - c) % 4294967296) :
    bits .or .u32 (bits .and .u32 (bits .xor .u32 IntKind.u32.max x) y) (bits .and .u32 (bits .xor .u32 IntKind.u32.max (bits .xor .u32 x y)) d) / 2147483648 = if (x : Int) < y + c then 1 else 0 := by
  have hm : IntKind.u32.max = ((4294967295 : Nat) : Int) := by decide
  have b1 : x ^^^ y < 4294967296 := by rw [← p32] at *; exact Nat.xor_lt_two_pow hx hy
  have hM : 4294967295 < 4294967296 := by decide
  have b2 : 4294967295 ^^^ x < 4294967296 := by rw [← p32] at *; exact Nat.xor_lt_two_pow hM hx
  have b3 : 4294967295 ^^^ (x ^^^ y) < 4294967296 := by rw [← p32] at *; exact Nat.xor_lt_two_pow hM b1
  have b4 : (4294967295 ^^^ x) &&& y < 4294967296 := by rw [← p32] at *; exact Nat.and_lt_two_pow _ hy
  have b5 : (4294967295 ^^^ (x ^^^ y)) &&& d < 4294967296 := by rw [← p32] at *; exact Nat.and_lt_two_pow _ hd
  have b6 : ((4294967295 ^^^ x) &&& y) ||| ((4294967295 ^^^ (x ^^^ y)) &&& d) < 4294967296 := by rw [← p32] at *; exact Nat.or_lt_two_pow b4 b5
  rw [hm, u32_xor_nat _ _ hM hx, u32_xor_nat _ _ hx hy, u32_xor_nat _ _ hM b1, u32_and_nat _ _ b2 hy, u32_and_nat _ _ b3 hd, u32_or_nat _ _ b4 b5]
  have h1 : ((((4294967295 ^^^ x) &&& y) ||| ((4294967295 ^^^ (x ^^^ y)) &&& d) : Nat) : Int) / 2147483648 = (((((4294967295 ^^^ x) &&& y) ||| ((4294967295 ^^^ (x ^^^ y)) &&& d)) / 2147483648 : Nat) : Int) := by omega
  rw [h1, top_bit _ b6, Nat.testBit_or, Nat.testBit_and, Nat.testBit_and, Nat.testBit_xor, Nat.testBit_xor, Nat.testBit_xor, top_is x hx, top_is y hy, top_is d hd, top_is _ hM]
  clear b1 b2 b3 b4 b5 b6 h1 hm hM
  by_cases q1 : 2147483648 ≤ x <;> by_cases q2 : 2147483648 ≤ y <;> by_cases q3 : 2147483648 ≤ d <;> by_cases q4 : (x : Int) < y + c <;> simp [q1, q2, q3, q4] <;> omega

set_option maxHeartbeats 1600000 in
theorem sub32_any (x y : Nat) (c : Int) (w : World) (hx : (x : Int) < 4294967296) (hy : (y : Int) < 4294967296) (hc : 0 ≤ c ∧ c ≤ 1) :
    Calls Try.prog 60 #[.int .u32 (x : Int), .int .u32 (y : Int), .int .u32 c] w fun e w' => e = .returned (.tuple #[.int .u32 (((x : Int) - y - c) % 4294967296), .int .u32 (if (x : Int) < y + c then 1 else 0)]) ∧ w' = w := by
  have hB := borrow_bits x y (((x : Int) - y - c) % 4294967296).toNat c (by omega) (by omega) (by omega) hc (by omega)
  rw [Int.toNat_of_nonneg (by omega)] at hB
  have HB := Lib.hid hB
  clear hB
  generalize hR : (if (x : Int) < y + c then (1 : Int) else 0) = R at *
  clear hR
  obtain ⟨hc0, hc1⟩ := hc
  have hx0 : 0 ≤ (x : Int) := by omega
  have hy0 : 0 ≤ (y : Int) := by omega
  generalize (x : Int) = X at *
  generalize (y : Int) = Y at *
  go_enter Try.func60, Try.ntmps60
  go_wp2
  go_ret2
  exact ⟨by rw [HB.out]; rfl, rfl⟩

end Go.Proofs.Ytomiapceefbmeaa
