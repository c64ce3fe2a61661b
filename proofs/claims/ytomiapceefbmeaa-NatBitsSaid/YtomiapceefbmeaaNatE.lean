/- Walks: Add, Sub, IsZero .. · Walks: sum, difference, checked, Add, Sub, IsZero (printed by gennatd.py). -/
import Derived.Test.YtomiapceefbmeaaNatC
set_option linter.unusedVariables false
set_option linter.unusedSimpArgs false
set_option maxRecDepth 20000
namespace Go.Proofs.Ytomiapceefbmeaa
open Go.RowKit

theorem B32_dvd {i k : Nat} (h : i ≤ k) : B32 i ∣ B32 k := Nat.pow_dvd_pow 2 (by omega)
theorem B1_eq : B32 1 = 4294967296 := by decide

/-! ### Plain: sums and differences from digit to digit -/
def addF (x y c : Nat) : Nat := (x + y + c) % 4294967296
def addG (x y c : Nat) : Nat := (x + y + c) / 4294967296
theorem comb_add (a b : Nat) : Comb a b addF addG (fun k => (a % B32 k + b % B32 k) % B32 k) (fun k => (a % B32 k + b % B32 k) / B32 k) := by
  have step : ∀ k, a % B32 (k + 1) + b % B32 (k + 1) = (dig a k + dig b k + (a % B32 k + b % B32 k) / B32 k) * B32 k + (a % B32 k + b % B32 k) % B32 k := by
    intro k
    have h := Nat.div_add_mod (a % B32 k + b % B32 k) (B32 k)
    rw [mod_step a, mod_step b, Nat.add_mul, Nat.add_mul]
    rw [Nat.mul_comm (B32 k)] at h
    omega
  have quo : ∀ k, (a % B32 (k + 1) + b % B32 (k + 1)) / B32 k = dig a k + dig b k + (a % B32 k + b % B32 k) / B32 k := by
    intro k
    rw [step, Nat.mul_comm _ (B32 k), Nat.mul_add_div (B32_pos k), Nat.div_eq_of_lt (Nat.mod_lt _ (B32_pos k)), Nat.add_zero]
  refine ⟨?_, ?_, fun k _ => Nat.mod_lt _ (B32_pos k), fun k _ => ?_, fun k _ => ?_, fun k _ => ?_, fun k _ => ?_⟩
  · simp [B32_zero, Nat.mod_one]
  · simp [B32_zero, Nat.mod_one]
  · have h1 := Nat.mod_lt a (B32_pos k)
    have h2 := Nat.mod_lt b (B32_pos k)
    have h3 : (a % B32 k + b % B32 k) / B32 k < 2 := (Nat.div_lt_iff_lt_mul (B32_pos k)).2 (by omega)
    show (a % B32 k + b % B32 k) / B32 k ≤ 1
    omega
  · show (dig a k + dig b k + (a % B32 k + b % B32 k) / B32 k) % 4294967296 = dig ((a % B32 (k + 1) + b % B32 (k + 1)) % B32 (k + 1)) k
    rw [dig_mod (Nat.lt_succ_self k), dig_eq (a % B32 (k + 1) + b % B32 (k + 1)) k, quo, B1_eq]
  · show (a % B32 (k + 1) + b % B32 (k + 1)) % B32 (k + 1) % B32 k = (a % B32 k + b % B32 k) % B32 k
    rw [Nat.mod_mod_of_dvd _ (B32_dvd (Nat.le_succ k)), step, Nat.mul_comm _ (B32 k), Nat.mul_add_mod, Nat.mod_mod]
  · show (dig a k + dig b k + (a % B32 k + b % B32 k) / B32 k) / 4294967296 = (a % B32 (k + 1) + b % B32 (k + 1)) / B32 (k + 1)
    rw [B32_succ, ← Nat.div_div_eq_div_mul, ← B32_succ, quo, B1_eq]

def subF (x y c : Nat) : Nat := (((x : Int) - y - c) % 4294967296).toNat
def subG (x y c : Nat) : Nat := if x < y + c then 1 else 0
theorem sub_uniq {x y M o c : Nat} (hx : x < M) (hy : y < M) (ho : o < M) (hc : c ≤ 1) (h : x + c * M = y + o) : o = (x + M - y) % M ∧ c = if x < y then 1 else 0 := by
  rcases Nat.eq_zero_or_pos c with rfl | h0
  · rw [Nat.zero_mul] at h
    constructor
    · rw [show x + M - y = o + M from by omega, Nat.add_mod_right, Nat.mod_eq_of_lt ho]
    · rw [if_neg (by omega)]
  · have : c = 1 := by omega
    subst this
    rw [Nat.one_mul] at h
    constructor
    · rw [show x + M - y = o from by omega, Nat.mod_eq_of_lt ho]
    · rw [if_pos (by omega)]
theorem comb_sub (a b : Nat) : Comb a b subF subG (fun k => (a % B32 k + B32 k - b % B32 k) % B32 k) (fun k => if a % B32 k < b % B32 k then 1 else 0) := by
  have ok : ∀ k, a % B32 k + (if a % B32 k < b % B32 k then 1 else 0) * B32 k = b % B32 k + (a % B32 k + B32 k - b % B32 k) % B32 k := by
    intro k
    have h1 := Nat.mod_lt a (B32_pos k)
    have h2 := Nat.mod_lt b (B32_pos k)
    by_cases h : a % B32 k < b % B32 k
    · rw [if_pos h, Nat.one_mul, Nat.mod_eq_of_lt (show a % B32 k + B32 k - b % B32 k < B32 k by omega)]
      omega
    · rw [if_neg h, Nat.zero_mul, show a % B32 k + B32 k - b % B32 k = (a % B32 k - b % B32 k) + B32 k from by omega, Nat.add_mod_right, Nat.mod_eq_of_lt (show a % B32 k - b % B32 k < B32 k by omega)]
      omega
  have cle : ∀ k, (if a % B32 k < b % B32 k then 1 else 0) ≤ 1 := fun k => by split <;> omega
  have main : ∀ k, subF (dig a k) (dig b k) (if a % B32 k < b % B32 k then 1 else 0) * B32 k + (a % B32 k + B32 k - b % B32 k) % B32 k = (a % B32 (k + 1) + B32 (k + 1) - b % B32 (k + 1)) % B32 (k + 1) ∧
      subG (dig a k) (dig b k) (if a % B32 k < b % B32 k then 1 else 0) = if a % B32 (k + 1) < b % B32 (k + 1) then 1 else 0 := by
    intro k
    have h1 := ok k
    have h2 := cle k
    have h3 := Nat.mod_lt (a % B32 k + B32 k - b % B32 k) (B32_pos k)
    generalize (if a % B32 k < b % B32 k then 1 else 0) = C at *
    generalize (a % B32 k + B32 k - b % B32 k) % B32 k = O at *
    have da := dig_B1 a k
    have db := dig_B1 b k
    rw [B1_eq] at da db
    have hd : dig a k + subG (dig a k) (dig b k) C * 4294967296 = dig b k + C + subF (dig a k) (dig b k) C := by
      unfold subG subF
      split <;> omega
    have hdl : subF (dig a k) (dig b k) C + 1 ≤ 4294967296 := by
      unfold subF
      omega
    have hg : subG (dig a k) (dig b k) C ≤ 1 := by unfold subG; split <;> omega
    generalize subF (dig a k) (dig b k) C = d at *
    generalize subG (dig a k) (dig b k) C = c' at *
    have hm := congrArg (· * B32 k) hd
    simp only [Nat.add_mul] at hm
    have hl : (d + 1) * B32 k ≤ 4294967296 * B32 k := Nat.mul_le_mul_right _ hdl
    rw [Nat.add_mul, Nat.one_mul] at hl
    have hB : B32 (k + 1) = 4294967296 * B32 k := by rw [B32_succ, B1_eq, Nat.mul_comm]
    refine sub_uniq (Nat.mod_lt _ (B32_pos _)) (Nat.mod_lt _ (B32_pos _)) (by rw [hB]; omega) hg ?_
    rw [mod_step a, mod_step b, hB]
    rw [Nat.mul_assoc] at hm
    omega
  refine ⟨?_, ?_, fun k _ => Nat.mod_lt _ (B32_pos k), fun k _ => cle k, fun k _ => ?_, fun k _ => ?_, fun k _ => (main k).2⟩
  · simp [B32_zero, Nat.mod_one]
  · simp [B32_zero, Nat.mod_one]
  · have hlt : subF (dig a k) (dig b k) (if a % B32 k < b % B32 k then 1 else 0) < B32 1 := by
      rw [B1_eq]
      unfold subF
      omega
    show subF (dig a k) (dig b k) (if a % B32 k < b % B32 k then 1 else 0) = dig ((a % B32 (k + 1) + B32 (k + 1) - b % B32 (k + 1)) % B32 (k + 1)) k
    rw [← (main k).1]
    generalize subF (dig a k) (dig b k) (if a % B32 k < b % B32 k then 1 else 0) = d at *
    rw [dig_eq, Nat.mul_comm _ (B32 k), Nat.mul_add_div (B32_pos k), Nat.div_eq_of_lt (Nat.mod_lt _ (B32_pos k)), Nat.add_zero, Nat.mod_eq_of_lt hlt]
  · show (a % B32 (k + 1) + B32 (k + 1) - b % B32 (k + 1)) % B32 (k + 1) % B32 k = _
    rw [← (main k).1, Nat.mul_comm _ (B32 k), Nat.mul_add_mod, Nat.mod_mod]

end Go.Proofs.Ytomiapceefbmeaa

set_option linter.unusedVariables false
set_option linter.unusedSimpArgs false
set_option maxRecDepth 20000
namespace Go.Proofs.Ytomiapceefbmeaa
open Go.RowKit

theorem enters_sum (args : Array Value) (W : World) : (callFunc 63 args).run Try.prog W = .ok (.enter 63 args) W := by simp [go_sem]
set_option maxHeartbeats 800000 in
theorem step_sum (x y c : Nat) (W : World) (hx : (x : Int) < 4294967296) (hy : (y : Int) < 4294967296) (hc : c ≤ 1) :
    Calls Try.prog 63 #[.int .u32 (x : Int), .int .u32 (y : Int), .int .u32 (c : Int)] W fun e W' => e = .returned (.tuple #[.int .u32 ((addF x y c : Nat) : Int), .int .u32 ((addG x y c : Nat) : Int)]) ∧ W' = W := by
  have e1 : ((addF x y c : Nat) : Int) = ((x : Int) + y + c) % 4294967296 := by unfold addF; omega
  have e2 : ((addG x y c : Nat) : Int) = ((x : Int) + y + c) / 4294967296 := by unfold addG; omega
  rw [e1, e2]
  have hc2 : 0 ≤ (c : Int) ∧ (c : Int) ≤ 1 := by omega
  have HX : Hid (0 ≤ (x : Int) ∧ (x : Int) < 4294967296) := Lib.hid (by omega)
  have HY : Hid (0 ≤ (y : Int) ∧ (y : Int) < 4294967296) := Lib.hid (by omega)
  have HC := Lib.hid hc2
  clear e1 e2 hc2 hx hy hc
  generalize hR : (if (x : Int) < y + c then (1 : Int) else 0) = R at *
  go_enter Try.func63, Try.ntmps63
  go_wp2_with fail
  refine (add32_any _ _ _ W HX.out HY.out HC.out).mono ?_
  rintro e w' ⟨rfl, rfl⟩
  clear hR
  go_wp2_with fail
  go_ret2
  exact ⟨rfl, rfl⟩

set_option maxHeartbeats 1600000 in
theorem sum_any (a b : Nat) (w : World) (ha : Fit a) (hb : Fit b) :
    Calls Try.prog 57 #[.agg (natA a), .agg (natA b)] w fun e w' => e = .returned (.tuple #[.agg (natA ((a + b) % B32 32)), .int .u32 (((a + b) / B32 32 : Nat) : Int)]) ∧ Below w.heap.size w w' := by
  have eO : (a % B32 32 + b % B32 32) % B32 32 = (a + b) % B32 32 := by rw [Nat.mod_eq_of_lt ha, Nat.mod_eq_of_lt hb]
  have eC : (a % B32 32 + b % B32 32) / B32 32 = (a + b) / B32 32 := by rw [Nat.mod_eq_of_lt ha, Nat.mod_eq_of_lt hb]
  have HCO : Hid (∀ W, Calls Try.prog 62 #[.agg (natA a), .agg (natA b), .func (.func 63) #[] #[]] W fun e w' => e = .returned (.tuple #[.agg (natA ((a + b) % B32 32)), .int .u32 (((a + b) / B32 32 : Nat) : Int)]) ∧ Below W.heap.size W w') := Lib.hid (fun W => by
    have h := combine_any 63 enters_sum addF addG _ _ a b W (comb_add a b) step_sum
    simp only [eO, eC] at h
    exact h)
  clear eO eC ha hb
  generalize ((a + b) % B32 32) = o at *
  generalize ((a + b) / B32 32) = c at *
  have HA : Hid (NatAt (((w.alloc (.cells (natA a) 29)).alloc (.cells (natA b) 29)).alloc (.cells z0 29)) (w.heap.size) (a)) := Lib.hid (by
    have h := NatAt.new w (a) 29
    replace h := h.alloc (.cells (natA b) 29)
    replace h := h.alloc (.cells z0 29)
    simpa using h)
  have HB : Hid (NatAt (((w.alloc (.cells (natA a) 29)).alloc (.cells (natA b) 29)).alloc (.cells z0 29)) (w.heap.size + 1) (b)) := Lib.hid (by
    have h := NatAt.new (w.alloc (.cells (natA a) 29)) (b) 29
    replace h := h.alloc (.cells z0 29)
    simpa using h)
  have HZ : Hid (NatAt (((w.alloc (.cells (natA a) 29)).alloc (.cells (natA b) 29)).alloc (.cells z0 29)) (w.heap.size + 1 + 1) (0)) := Lib.hid (by
    have h := NatAt.new ((w.alloc (.cells (natA a) 29)).alloc (.cells (natA b) 29)) (0) 29
    rw [natA_zero] at h
    simpa using h)
  have HW : Hid (Below w.heap.size w (((w.alloc (.cells (natA a) 29)).alloc (.cells (natA b) 29)).alloc (.cells z0 29))) := Lib.hid (by
    have h := Below.refl w.heap.size w
    replace h := h.alloc h.size (.cells (natA a) 29)
    replace h := h.alloc h.size (.cells (natA b) 29)
    replace h := h.alloc h.size (.cells z0 29)
    exact h)
  go_enter Try.func57, Try.ntmps57
  go_wp2_with (first | (refine wpl_ldN ntNat rfl rfl rfl HA.out ?_) | (refine wpl_ldN ntNat rfl rfl rfl HB.out ?_))
  refine (HCO.out _).mono ?_
  rintro e w2 ⟨rfl, hb2⟩
  have HZ2 := Lib.hid (HZ.out.below hb2)
  have HW2 := Lib.hid (HW.out.trans (hb2.mono HW.out.size))
  clear hb2 HA HB HZ
  go_wp2_with (refine wpl_stN ntNat rfl rfl rfl rfl HZ2.out ?_; intro w9 hn9 hg9; have HN9 := Lib.hid hn9; have HG9 := Lib.hid hg9; clear hn9 hg9)
  refine bodyPost_ret (results_nat rfl _ _ rfl HN9.out) rfl ?_
  exact ⟨rfl, HW2.out.grown HG9.out HW2.out.size (fun j e => by injection e with e; omega)⟩

theorem enters_difference (args : Array Value) (W : World) : (callFunc 64 args).run Try.prog W = .ok (.enter 64 args) W := by simp [go_sem]
set_option maxHeartbeats 800000 in
theorem step_difference (x y c : Nat) (W : World) (hx : (x : Int) < 4294967296) (hy : (y : Int) < 4294967296) (hc : c ≤ 1) :
    Calls Try.prog 64 #[.int .u32 (x : Int), .int .u32 (y : Int), .int .u32 (c : Int)] W fun e W' => e = .returned (.tuple #[.int .u32 ((subF x y c : Nat) : Int), .int .u32 ((subG x y c : Nat) : Int)]) ∧ W' = W := by
  have e1 : ((subF x y c : Nat) : Int) = ((x : Int) - y - c) % 4294967296 := by unfold subF; omega
  have e2 : ((subG x y c : Nat) : Int) = if (x : Int) < y + c then 1 else 0 := by
    unfold subG
    by_cases h : x < y + c
    · rw [if_pos h, if_pos (by omega)]; rfl
    · rw [if_neg h, if_neg (by omega)]; rfl
  rw [e1, e2]
  have hc2 : 0 ≤ (c : Int) ∧ (c : Int) ≤ 1 := by omega
  have HX := Lib.hid hx
  have HY := Lib.hid hy
  have HC := Lib.hid hc2
  clear e1 e2 hc2 hx hy hc
  generalize hR : (if (x : Int) < y + c then (1 : Int) else 0) = R at *
  go_enter Try.func64, Try.ntmps64
  go_wp2_with fail
  refine (sub32_any x y _ W HX.out HY.out HC.out).mono ?_
  rintro e w' ⟨rfl, rfl⟩
  rw [hR]
  go_wp2_with fail
  go_ret2
  exact ⟨rfl, rfl⟩

set_option maxHeartbeats 1600000 in
theorem difference_any (a b : Nat) (w : World) (ha : Fit a) (hb : Fit b) :
    Calls Try.prog 59 #[.agg (natA a), .agg (natA b)] w fun e w' => e = .returned (.tuple #[.agg (natA ((a + B32 32 - b) % B32 32)), .int .u32 (((if a < b then 1 else 0) : Nat) : Int)]) ∧ Below w.heap.size w w' := by
  have eO : (a % B32 32 + B32 32 - b % B32 32) % B32 32 = (a + B32 32 - b) % B32 32 := by rw [Nat.mod_eq_of_lt ha, Nat.mod_eq_of_lt hb]
  have eC : (if a % B32 32 < b % B32 32 then 1 else 0) = (if a < b then 1 else 0) := by rw [Nat.mod_eq_of_lt ha, Nat.mod_eq_of_lt hb]
  have HCO : Hid (∀ W, Calls Try.prog 62 #[.agg (natA a), .agg (natA b), .func (.func 64) #[] #[]] W fun e w' => e = .returned (.tuple #[.agg (natA ((a + B32 32 - b) % B32 32)), .int .u32 (((if a < b then 1 else 0) : Nat) : Int)]) ∧ Below W.heap.size W w') := Lib.hid (fun W => by
    have h := combine_any 64 enters_difference subF subG _ _ a b W (comb_sub a b) step_difference
    simp only [eO, eC] at h
    exact h)
  clear eO eC ha hb
  generalize ((a + B32 32 - b) % B32 32) = o at *
  generalize ((if a < b then 1 else 0)) = c at *
  have HA : Hid (NatAt (((w.alloc (.cells (natA a) 29)).alloc (.cells (natA b) 29)).alloc (.cells z0 29)) (w.heap.size) (a)) := Lib.hid (by
    have h := NatAt.new w (a) 29
    replace h := h.alloc (.cells (natA b) 29)
    replace h := h.alloc (.cells z0 29)
    simpa using h)
  have HB : Hid (NatAt (((w.alloc (.cells (natA a) 29)).alloc (.cells (natA b) 29)).alloc (.cells z0 29)) (w.heap.size + 1) (b)) := Lib.hid (by
    have h := NatAt.new (w.alloc (.cells (natA a) 29)) (b) 29
    replace h := h.alloc (.cells z0 29)
    simpa using h)
  have HZ : Hid (NatAt (((w.alloc (.cells (natA a) 29)).alloc (.cells (natA b) 29)).alloc (.cells z0 29)) (w.heap.size + 1 + 1) (0)) := Lib.hid (by
    have h := NatAt.new ((w.alloc (.cells (natA a) 29)).alloc (.cells (natA b) 29)) (0) 29
    rw [natA_zero] at h
    simpa using h)
  have HW : Hid (Below w.heap.size w (((w.alloc (.cells (natA a) 29)).alloc (.cells (natA b) 29)).alloc (.cells z0 29))) := Lib.hid (by
    have h := Below.refl w.heap.size w
    replace h := h.alloc h.size (.cells (natA a) 29)
    replace h := h.alloc h.size (.cells (natA b) 29)
    replace h := h.alloc h.size (.cells z0 29)
    exact h)
  go_enter Try.func59, Try.ntmps59
  go_wp2_with (first | (refine wpl_ldN ntNat rfl rfl rfl HA.out ?_) | (refine wpl_ldN ntNat rfl rfl rfl HB.out ?_))
  refine (HCO.out _).mono ?_
  rintro e w2 ⟨rfl, hb2⟩
  have HZ2 := Lib.hid (HZ.out.below hb2)
  have HW2 := Lib.hid (HW.out.trans (hb2.mono HW.out.size))
  clear hb2 HA HB HZ
  go_wp2_with (refine wpl_stN ntNat rfl rfl rfl rfl HZ2.out ?_; intro w9 hn9 hg9; have HN9 := Lib.hid hn9; have HG9 := Lib.hid hg9; clear hn9 hg9)
  refine bodyPost_ret (results_nat rfl _ _ rfl HN9.out) rfl ?_
  exact ⟨rfl, HW2.out.grown HG9.out HW2.out.size (fun j e => by injection e with e; omega)⟩

set_option maxHeartbeats 1600000 in
theorem checked_any (n : Nat) (c e : Int) (w : World) :
    Calls Try.prog 58 #[.agg (natA n), .int .u32 c, .int .i64 e] w fun r w' => r = .returned (.tuple #[.agg (natA (if c = 0 then n else 0)), .int .i64 (if c = 0 then 0 else e)]) ∧ Below w.heap.size w w' := by
  have HA : Hid (NatAt ((w.alloc (.cells (natA n) 29)).alloc (.cells z0 29)) (w.heap.size) (n)) := Lib.hid (by
    have h := NatAt.new w (n) 29
    replace h := h.alloc (.cells z0 29)
    simpa using h)
  have HZ : Hid (NatAt ((w.alloc (.cells (natA n) 29)).alloc (.cells z0 29)) (w.heap.size + 1) (0)) := Lib.hid (by
    have h := NatAt.new (w.alloc (.cells (natA n) 29)) (0) 29
    rw [natA_zero] at h
    simpa using h)
  have HW : Hid (Below w.heap.size w ((w.alloc (.cells (natA n) 29)).alloc (.cells z0 29))) := Lib.hid (by
    have h := Below.refl w.heap.size w
    replace h := h.alloc h.size (.cells (natA n) 29)
    replace h := h.alloc h.size (.cells z0 29)
    exact h)
  by_cases hc : c = 0
  · subst hc
    rw [if_pos rfl, if_pos rfl]
    go_enter Try.func58, Try.ntmps58
    go_wp2_with (first | (refine wpl_ldN ntNat rfl rfl rfl HA.out ?_) | (refine wpl_stN ntNat rfl rfl rfl rfl HZ.out ?_; intro w9 hn9 hg9; have HN9 := Lib.hid hn9; have HG9 := Lib.hid hg9; clear hn9 hg9))
    refine bodyPost_ret (results_nat rfl _ _ rfl HN9.out) rfl ?_
    exact ⟨rfl, HW.out.grown HG9.out HW.out.size (fun j e => by injection e with e; omega)⟩
  · rw [if_neg hc, if_neg hc]
    have hcb : (c != 0) = true := by simpa using hc
    go_enter Try.func58, Try.ntmps58
    go_wp2_with (refine wpl_stN (m := 0) ntNat rfl rfl rfl (by rw [natA_zero]; rfl) HZ.out ?_; intro w9 hn9 hg9; have HN9 := Lib.hid hn9; have HG9 := Lib.hid hg9; clear hn9 hg9)
    refine bodyPost_ret (results_nat rfl _ _ rfl HN9.out) rfl ?_
    exact ⟨rfl, HW.out.grown HG9.out HW.out.size (fun j e => by injection e with e; omega)⟩

end Go.Proofs.Ytomiapceefbmeaa
