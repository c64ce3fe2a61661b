/- Walks: FromInt, Int, Bit (printed by gennati.py). · Plain: a number grows by some bits; numbers of bytes. -/
import Derived.Test.YtomiapceefbmeaaNatH
set_option linter.unusedVariables false
set_option linter.unusedSimpArgs false
set_option maxRecDepth 20000
namespace Go.Proofs.Ytomiapceefbmeaa
open Go.RowKit

theorem B2_eq : B32 2 = 18446744073709551616 := by decide
theorem dig0_int (v : Nat) : ((dig v 0 : Nat) : Int) = (v : Int) % 4294967296 := by
  rw [dig_eq, B32_zero, Nat.div_one, B1_eq]; omega
theorem dig1_int (v : Nat) (h : (v : Int) ≤ 9223372036854775807) : ((dig v 1 : Nat) : Int) = (v : Int) / 4294967296 := by
  rw [dig_eq, B1_eq]; omega

set_option maxHeartbeats 1600000 in
theorem fromInt_neg (v : Int) (w : World) (hv : v < 0) :
    Calls Try.prog 21 #[.int .i64 v] w fun e w' => e = .returned (.tuple #[.agg (natA 0), .int .i64 2]) ∧ Below w.heap.size w w' := by
  have HZ : Hid (NatAt (w.alloc (.cells z0 29)) (w.heap.size) (0)) := Lib.hid (by
    have h := NatAt.new w (0) 29
    rw [natA_zero] at h
    simpa using h)
  have HW : Hid (Below w.heap.size w (w.alloc (.cells z0 29))) := Lib.hid (by
    have h := Below.refl w.heap.size w
    replace h := h.alloc h.size (.cells z0 29)
    exact h)
  go_enter Try.func21, Try.ntmps21
  go_wp2_with (refine wpl_stN (m := 0) ntNat rfl rfl rfl (by rw [natA_zero]; rfl) HZ.out ?_; intro w9 hn9 hg9; have HN9 := Lib.hid hn9; have HG9 := Lib.hid hg9; clear hn9 hg9)
  refine bodyPost_ret (results_nat rfl _ _ rfl HN9.out) rfl ?_
  exact ⟨rfl, HW.out.grown HG9.out HW.out.size (fun j e => by injection e with e; omega)⟩

set_option maxHeartbeats 1600000 in
theorem fromInt_pos (v : Nat) (w : World) (hv : (v : Int) ≤ 9223372036854775807) :
    Calls Try.prog 21 #[.int .i64 (v : Int)] w fun e w' => e = .returned (.tuple #[.agg (natA v), .int .i64 0]) ∧ Below w.heap.size w w' := by
  have hlit := natA_two (v := v) (by rw [B2_eq]; omega)
  rw [dig0_int, dig1_int v hv] at hlit
  have HLIT := Lib.hid hlit
  clear hlit
  have hv0 : 0 ≤ (v : Int) := by omega
  have HZ : Hid (NatAt ((w.alloc (.cells z0 29)).alloc (.cells #[.int .u32 ((v : Int) % 4294967296), .int .u32 ((v : Int) / 4294967296), .int .u32 0, .int .u32 0, .int .u32 0, .int .u32 0, .int .u32 0, .int .u32 0, .int .u32 0, .int .u32 0, .int .u32 0, .int .u32 0, .int .u32 0, .int .u32 0, .int .u32 0, .int .u32 0, .int .u32 0, .int .u32 0, .int .u32 0, .int .u32 0, .int .u32 0, .int .u32 0, .int .u32 0, .int .u32 0, .int .u32 0, .int .u32 0, .int .u32 0, .int .u32 0, .int .u32 0, .int .u32 0, .int .u32 0, .int .u32 0] 29)) (w.heap.size) (0)) := Lib.hid (by
    have h := NatAt.new w (0) 29
    rw [natA_zero] at h
    replace h := h.alloc (.cells #[.int .u32 ((v : Int) % 4294967296), .int .u32 ((v : Int) / 4294967296), .int .u32 0, .int .u32 0, .int .u32 0, .int .u32 0, .int .u32 0, .int .u32 0, .int .u32 0, .int .u32 0, .int .u32 0, .int .u32 0, .int .u32 0, .int .u32 0, .int .u32 0, .int .u32 0, .int .u32 0, .int .u32 0, .int .u32 0, .int .u32 0, .int .u32 0, .int .u32 0, .int .u32 0, .int .u32 0, .int .u32 0, .int .u32 0, .int .u32 0, .int .u32 0, .int .u32 0, .int .u32 0, .int .u32 0, .int .u32 0] 29)
    simpa using h)
  have HW : Hid (Below w.heap.size w ((w.alloc (.cells z0 29)).alloc (.cells #[.int .u32 ((v : Int) % 4294967296), .int .u32 ((v : Int) / 4294967296), .int .u32 0, .int .u32 0, .int .u32 0, .int .u32 0, .int .u32 0, .int .u32 0, .int .u32 0, .int .u32 0, .int .u32 0, .int .u32 0, .int .u32 0, .int .u32 0, .int .u32 0, .int .u32 0, .int .u32 0, .int .u32 0, .int .u32 0, .int .u32 0, .int .u32 0, .int .u32 0, .int .u32 0, .int .u32 0, .int .u32 0, .int .u32 0, .int .u32 0, .int .u32 0, .int .u32 0, .int .u32 0, .int .u32 0, .int .u32 0] 29))) := Lib.hid (by
    have h := Below.refl w.heap.size w
    replace h := h.alloc h.size (.cells z0 29)
    replace h := h.alloc h.size (.cells #[.int .u32 ((v : Int) % 4294967296), .int .u32 ((v : Int) / 4294967296), .int .u32 0, .int .u32 0, .int .u32 0, .int .u32 0, .int .u32 0, .int .u32 0, .int .u32 0, .int .u32 0, .int .u32 0, .int .u32 0, .int .u32 0, .int .u32 0, .int .u32 0, .int .u32 0, .int .u32 0, .int .u32 0, .int .u32 0, .int .u32 0, .int .u32 0, .int .u32 0, .int .u32 0, .int .u32 0, .int .u32 0, .int .u32 0, .int .u32 0, .int .u32 0, .int .u32 0, .int .u32 0, .int .u32 0, .int .u32 0] 29)
    exact h)
  have HV : Hid (NatAt ((w.alloc (.cells z0 29)).alloc (.cells #[.int .u32 ((v : Int) % 4294967296), .int .u32 ((v : Int) / 4294967296), .int .u32 0, .int .u32 0, .int .u32 0, .int .u32 0, .int .u32 0, .int .u32 0, .int .u32 0, .int .u32 0, .int .u32 0, .int .u32 0, .int .u32 0, .int .u32 0, .int .u32 0, .int .u32 0, .int .u32 0, .int .u32 0, .int .u32 0, .int .u32 0, .int .u32 0, .int .u32 0, .int .u32 0, .int .u32 0, .int .u32 0, .int .u32 0, .int .u32 0, .int .u32 0, .int .u32 0, .int .u32 0, .int .u32 0, .int .u32 0] 29)) (w.heap.size + 1) v) := Lib.hid (by
    have h := NatAt.new (w.alloc (.cells z0 29)) v 29
    rw [HLIT.out] at h
    simpa using h)
  clear HLIT
  go_enter Try.func21, Try.ntmps21
  go_wp2_with (first | (refine wpl_ldN ntNat rfl rfl rfl HV.out ?_) | (refine wpl_stN ntNat rfl rfl rfl rfl HZ.out ?_; intro w9 hn9 hg9; have HN9 := Lib.hid hn9; have HG9 := Lib.hid hg9; clear hn9 hg9))
  refine bodyPost_ret (results_nat rfl _ _ rfl HN9.out) rfl ?_
  exact ⟨rfl, HW.out.grown HG9.out HW.out.size (fun j e => by injection e with e; omega)⟩

/-! ### Int -/
theorem or_join (X Y : Int) (hx0 : 0 ≤ X) (hx1 : X < 4294967296) (hy0 : 0 ≤ Y) (hy1 : Y < 4294967296) : bits .or .u64 (Y * 4294967296) X = Y * 4294967296 + X := by
  obtain ⟨x, rfl⟩ := Int.eq_ofNat_of_zero_le hx0
  obtain ⟨y, rfl⟩ := Int.eq_ofNat_of_zero_le hy0
  have e : ((y : Int) * 4294967296) = ((y * 4294967296 : Nat) : Int) := by omega
  rw [e, u64_or_nat _ _ (by omega) (by omega), nat_join 32 _ _ (by rw [p32]; omega) (by rw [p32]; omega)]
  omega
theorem two_digs (a : Nat) (h : cnt a ≤ 2) : ((dig a 1 : Nat) : Int) * 4294967296 + ((dig a 0 : Nat) : Int) = (a : Int) := by
  have h1 : a < B32 2 := Nat.lt_of_lt_of_le (lt_cnt a) (B32_mono h)
  have h2 := mod_step a 1
  have h3 := mod_step a 0
  rw [Nat.mod_eq_of_lt h1] at h2
  rw [B32_zero, Nat.mod_one] at h3
  rw [h3, B1_eq] at h2
  omega
theorem many_digs (a : Nat) (h : 2 < cnt a) : (4611686018427387904 : Int) < (a : Int) := by
  have h0 : a ≠ 0 := fun e => by rw [e] at h; simp [cnt] at h
  have h1 := cnt_le_self h0
  have h2 := B32_mono (k := 2) (m := cnt a - 1) (by omega)
  rw [B2_eq] at h2
  omega
def intN (a : Nat) : Int := if a ≤ 4611686018427387904 then (a : Int) else 0
def intE' (a : Nat) : Int := if a ≤ 4611686018427387904 then 0 else 3
set_option maxHeartbeats 1600000 in
theorem int_any (a : Nat) (w : World) (ha : Fit a) :
    Calls Try.prog 24 #[.agg (natA a)] w fun e w' => e = .returned (.tuple #[.int .i64 (intN a), .int .i64 (intE' a)]) ∧ Below w.heap.size w w' := by
  have HA : Hid (NatAt (w.alloc (.cells (natA a) 29)) (w.heap.size) (a)) := Lib.hid (by
    have h := NatAt.new w (a) 29
    simpa using h)
  have HW : Hid (Below w.heap.size w (w.alloc (.cells (natA a) 29))) := Lib.hid (by
    have h := Below.refl w.heap.size w
    replace h := h.alloc h.size (.cells (natA a) 29)
    exact h)
  have HF := Lib.hid ha
  have c0 := HA.out.cell (show 0 < 32 by omega)
  have c1 := HA.out.cell (show 1 < 32 by omega)
  have d0 := dig_lt a 0
  have d1 := dig_lt a 1
  have h00 : 0 ≤ ((dig a 0 : Nat) : Int) := by omega
  have h10 : 0 ≤ ((dig a 1 : Nat) : Int) := by omega
  have hor := or_join _ _ h00 d0 h10 d1
  have ht2 := two_digs a
  have hm := many_digs a
  have hc := cnt_le ha
  generalize ((dig a 0 : Nat) : Int) = X at *
  generalize ((dig a 1 : Nat) : Int) = Y at *
  by_cases h2 : 2 < cnt a
  · have hbig := hm h2
    have e1 : Hid (intN a = 0) := by unfold Hid intN; rw [if_neg (by omega)]
    have e2 : Hid (intE' a = 3) := by unfold Hid intE'; rw [if_neg (by omega)]
    have h2i : (2 : Int) < (cnt a : Int) := by omega
    clear hor ht2 hm hbig ha hc h2
    go_enter Try.func24, Try.ntmps24
    go_wp2_with (refine wpl_ldN ntDigits rfl rfl rfl HA.out ?_)
    refine (count_any a _ HF.out).mono ?_
    rintro e w2 ⟨rfl, hb2⟩
    have HW2 := Lib.hid (HW.out.trans (hb2.mono HW.out.size))
    clear hb2
    generalize ((cnt a : Nat) : Int) = n at *
    go_wp2_with fail
    go_ret2
    exact ⟨by rw [e1.out, e2.out]; rfl, HW2.out⟩
  · have ht := ht2 (by omega)
    have h2i : (cnt a : Int) ≤ 2 := by omega
    rw [ht] at hor
    have ha0 : 0 ≤ (a : Int) := by omega
    by_cases h3 : a ≤ 4611686018427387904
    · have e1 : Hid (intN a = (a : Int)) := by unfold Hid intN; rw [if_pos h3]
      have e2 : Hid (intE' a = 0) := by unfold Hid intE'; rw [if_pos h3]
      have h3i : (a : Int) ≤ 4611686018427387904 := by omega
      clear ht2 hm ht ha hc h2 h3
      go_enter Try.func24, Try.ntmps24
      go_wp2_with (refine wpl_ldN ntDigits rfl rfl rfl HA.out ?_)
      refine (count_any a _ HF.out).mono ?_
      rintro e w2 ⟨rfl, hb2⟩
      have HW2 := Lib.hid (HW.out.trans (hb2.mono HW.out.size))
      clear hb2 hor
      generalize ((cnt a : Nat) : Int) = n at *
      generalize (a : Int) = ai at *
      go_wp2_with fail
      go_ret2
      exact ⟨by rw [e1.out, e2.out]; rfl, HW2.out⟩
    · have e1 : Hid (intN a = 0) := by unfold Hid intN; rw [if_neg h3]
      have e2 : Hid (intE' a = 3) := by unfold Hid intE'; rw [if_neg h3]
      have h3i : (4611686018427387904 : Int) < (a : Int) := by omega
      clear ht2 hm ht ha hc h2 h3
      go_enter Try.func24, Try.ntmps24
      go_wp2_with (refine wpl_ldN ntDigits rfl rfl rfl HA.out ?_)
      refine (count_any a _ HF.out).mono ?_
      rintro e w2 ⟨rfl, hb2⟩
      have HW2 := Lib.hid (HW.out.trans (hb2.mono HW.out.size))
      clear hb2 hor
      generalize ((cnt a : Nat) : Int) = n at *
      generalize (a : Int) = ai at *
      go_wp2_with fail
      go_ret2
      exact ⟨by rw [e1.out, e2.out]; rfl, HW2.out⟩

end Go.Proofs.Ytomiapceefbmeaa

set_option linter.unusedVariables false
set_option linter.unusedSimpArgs false
set_option maxRecDepth 20000
namespace Go.Proofs.Ytomiapceefbmeaa
open Go.RowKit

theorem pow_parts (p : Nat) : 2 ^ p = B32 (p / 32) * 2 ^ (p % 32) := by
  unfold B32
  rw [← Nat.pow_add, Nat.div_add_mod]
theorem put_lt {n x p s : Nat} (hn : n < 2 ^ p) (hx : x < 2 ^ s) : n + x * 2 ^ p < 2 ^ (p + s) := by
  have h1 : (x + 1) * 2 ^ p ≤ 2 ^ s * 2 ^ p := Nat.mul_le_mul_right _ hx
  rw [Nat.pow_add, Nat.mul_comm (2 ^ p)]
  rw [Nat.add_mul, Nat.one_mul] at h1
  omega
theorem pow_le_B32 {p k : Nat} (h : p ≤ 32 * k) : 2 ^ p ≤ B32 k := Nat.pow_le_pow_right (by decide) h
theorem put_div {n x p : Nat} : (n + x * 2 ^ p) / B32 (p / 32) = n / B32 (p / 32) + x * 2 ^ (p % 32) := by
  rw [pow_parts p, Nat.mul_left_comm, Nat.add_mul_div_left _ _ (B32_pos _)]
theorem put_top {n x p s : Nat} (hn : n < 2 ^ p) (hx : x < 2 ^ s) (hs : p % 32 + s ≤ 32) : dig (n + x * 2 ^ p) (p / 32) = dig n (p / 32) + x * 2 ^ (p % 32) ∧ dig n (p / 32) < 2 ^ (p % 32) ∧ dig n (p / 32) + x * 2 ^ (p % 32) < B32 1 := by
  have h0 : n / B32 (p / 32) < 2 ^ (p % 32) := by
    rw [Nat.div_lt_iff_lt_mul (B32_pos _), Nat.mul_comm, ← pow_parts]
    exact hn
  have h1 : n / B32 (p / 32) + x * 2 ^ (p % 32) < B32 1 := by
    have h2 := put_lt h0 hx
    exact Nat.lt_of_lt_of_le h2 (pow_le_B32 (by omega))
  have h3 : n / B32 (p / 32) < B32 1 := by omega
  have h4 : dig n (p / 32) = n / B32 (p / 32) := by rw [dig_eq, Nat.mod_eq_of_lt h3]
  rw [h4]
  refine ⟨?_, h0, h1⟩
  rw [dig_eq, put_div, Nat.mod_eq_of_lt h1]
theorem put_low {n x p i : Nat} (hi : i < p / 32) : dig (n + x * 2 ^ p) i = dig n i := by
  rw [← dig_mod hi, ← dig_mod (n := n) hi]
  congr 1
  rw [pow_parts p, Nat.mul_left_comm, Nat.add_mul_mod_self_left]
theorem put_high {n x p s i : Nat} (hn : n < 2 ^ p) (hx : x < 2 ^ s) (hs : p % 32 + s ≤ 32) (hi : p / 32 < i) : dig (n + x * 2 ^ p) i = dig n i := by
  have h1 : 2 ^ (p + s) ≤ B32 i := pow_le_B32 (by omega)
  have h2 := put_lt hn hx
  rw [dig_high (Nat.lt_of_lt_of_le h2 h1), dig_high (show n < B32 i by have : n ≤ n + x * 2 ^ p := Nat.le_add_right _ _; omega)]
theorem put_or {n x p s : Nat} (hn : n < 2 ^ p) (hx : x < 2 ^ s) (hs : p % 32 + s ≤ 32) : dig (n + x * 2 ^ p) (p / 32) = dig n (p / 32) ||| (x * 2 ^ (p % 32)) := by
  obtain ⟨h1, h2, _⟩ := put_top hn hx hs
  rw [h1, Nat.or_comm, nat_join (p % 32) _ _ (Nat.mul_mod_left _ _) h2, Nat.add_comm]
theorem natA_setG {n n' j : Nat} (hj : j < 32) (h : ∀ i, i < 32 → i ≠ j → dig n' i = dig n i) : (natA n).setIfInBounds j (.int .u32 ((dig n' j : Nat) : Int)) = natA n' := by
  apply Array.ext_getElem?
  intro i
  rw [Array.getElem?_setIfInBounds, natA_size]
  by_cases hi : i < 32
  · rw [natA_get n' i hi]
    by_cases e : j = i
    · subst e
      rw [if_pos rfl, if_pos hj]
    · rw [if_neg e, natA_get n i hi, h i hi (Ne.symm e)]
  · rw [if_neg (by omega), Array.getElem?_eq_none (by rw [natA_size]; omega), Array.getElem?_eq_none (by rw [natA_size]; omega)]
theorem NatAt.setG {w : World} {B n n' j : Nat} (h : NatAt w B n) (hj : j < 32) (hd : ∀ i, i < 32 → i ≠ j → dig n' i = dig n i) (v : Int) (hv : v = ((dig n' j : Nat) : Int)) :
    NatAt (w.setCell ⟨B, j, none⟩ (.int .u32 v)) B n' ∧ w.grownBy (w.setCell ⟨B, j, none⟩ (.int .u32 v)) (some B) := by
  subst hv
  obtain ⟨T, h⟩ := h
  refine ⟨⟨T, ?_⟩, rfl, rfl, rfl, by simp, fun i _ hi => heap_setCell_other w ⟨B, j, none⟩ i _ (fun e => hi (by simp [e]))⟩
  rw [heap_setCell_same w B j _ _ _ h, natA_setG hj hd]
/-- Some bits more, above all others. -/
theorem NatAt.put {w : World} {B n x p s : Nat} (h : NatAt w B n) (hn : n < 2 ^ p) (hx : x < 2 ^ s) (hs : p % 32 + s ≤ 32) (hp : p / 32 < 32) (v : Int) (hv : v = ((dig n (p / 32) ||| (x * 2 ^ (p % 32)) : Nat) : Int)) :
    NatAt (w.setCell ⟨B, p / 32, none⟩ (.int .u32 v)) B (n + x * 2 ^ p) ∧ w.grownBy (w.setCell ⟨B, p / 32, none⟩ (.int .u32 v)) (some B) := by
  rw [← put_or hn hx hs] at hv
  refine h.setG hp (fun i hi hne => ?_) v hv
  rcases Nat.lt_or_ge i (p / 32) with h1 | h1
  · exact put_low h1
  · exact put_high hn hx hs (by omega)

/-! ### Numbers of bytes, the most significant one first -/
def numN : List UInt8 → Nat
  | [] => 0
  | x :: xs => x.toNat * 2 ^ (8 * xs.length) + numN xs
theorem numN_lt : ∀ xs : List UInt8, numN xs < 2 ^ (8 * xs.length)
  | [] => by simp [numN]
  | x :: xs => by
    have h := numN_lt xs
    have h2 := put_lt (s := 8) h (show x.toNat < 2 ^ 8 from x.toNat_lt)
    rw [numN, Nat.add_comm, List.length_cons, Nat.mul_succ]
    exact h2
theorem numN_ge {xs : List UInt8} {k : Nat} (h : 2 ^ k ≤ numN (xs.drop 0)) : 2 ^ k ≤ numN xs := h
theorem numN_drop_le : ∀ (xs : List UInt8) (k : Nat), numN (xs.drop k) ≤ numN xs
  | [], k => by simp
  | x :: xs, 0 => Nat.le_refl _
  | x :: xs, k + 1 => by
    rw [List.drop_succ_cons, numN]
    have := numN_drop_le xs k
    omega
/-- One byte more, from the end. -/
theorem numN_step (xs : List UInt8) (k : Nat) (hk : k < xs.length) : numN (xs.drop (xs.length - 1 - k)) = numN (xs.drop (xs.length - k)) + (xs[xs.length - 1 - k]'(by omega)).toNat * 2 ^ (8 * k) := by
  have h : xs.drop (xs.length - 1 - k) = xs[xs.length - 1 - k]'(by omega) :: xs.drop (xs.length - 1 - k + 1) := List.drop_eq_getElem_cons (by omega)
  rw [h, numN, show xs.length - 1 - k + 1 = xs.length - k from by omega, List.length_drop, show xs.length - (xs.length - k) = k from by omega, Nat.add_comm]

end Go.Proofs.Ytomiapceefbmeaa
