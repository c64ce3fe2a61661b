/- Walks of the reference of numbers: From, Add, Sub. · Walks of the reference of numbers: Add, Sub. · Walks of the reference of numbers: Shift, Mul. -/
import Derived.Test.YtomiapceefbmeaaRefB
import Derived.Deep.QuietTactic
import Derived.BigQuiet
set_option linter.unusedVariables false
set_option linter.unusedSimpArgs false
set_option maxRecDepth 20000
namespace Go.Proofs.Ytomiapceefbmeaa
open Go.RowKit

/-! ### Bytes out of a number -/
theorem numN_byte : ∀ (xs : List UInt8) (j : Nat) (hj : j < xs.length), numN xs / 2 ^ (8 * j) % 256 = (xs[xs.length - 1 - j]'(by omega)).toNat
  | x :: xs, j, hj => by
    have h1 := numN_lt xs
    have hx := x.toNat_lt
    by_cases e : j = xs.length
    · subst e
      simp only [numN, List.length_cons, Nat.add_sub_cancel, Nat.sub_self, List.getElem_cons_zero]
      rw [Nat.mul_comm, Nat.mul_add_div (Nat.two_pow_pos _), Nat.div_eq_of_lt h1, Nat.add_zero]
      omega
    · have hj' : j < xs.length := by simp only [List.length_cons] at hj; omega
      have ih := numN_byte xs j hj'
      have e2 : (x :: xs)[(x :: xs).length - 1 - j]'(by simp only [List.length_cons]; omega) = xs[xs.length - 1 - j]'(by omega) := by
        rw [List.getElem_cons, dif_neg (by simp only [List.length_cons]; omega)]
        congr 1
        simp only [List.length_cons]
        omega
      rw [e2, ← ih]
      obtain ⟨m, hm⟩ : ∃ m, xs.length = j + (m + 1) := ⟨xs.length - j - 1, by omega⟩
      rw [numN, hm, show 8 * (j + (m + 1)) = 8 * j + (8 * m + 8) from by omega, Nat.pow_add, Nat.mul_left_comm, Nat.mul_add_div (Nat.two_pow_pos _), Nat.pow_add 2 (8 * m) 8, ← Nat.mul_assoc]
      rw [show (2 : Nat) ^ 8 = 256 from rfl, Nat.add_comm, Nat.add_mul_mod_self_right]
theorem byte_pair (N k : Nat) : d16 N k = N / 2 ^ (8 * (2 * k)) % 256 + 256 * (N / 2 ^ (8 * (2 * k + 1)) % 256) := by
  unfold d16 X16
  rw [show 8 * (2 * k + 1) = 16 * k + 8 from by omega, show 8 * (2 * k) = 16 * k from by omega, Nat.pow_add, ← Nat.div_div_eq_div_mul]
  rw [show (65536 : Nat) = 256 * 256 from rfl, Nat.mod_mul]
/-- The digits of a number of bytes. -/
theorem from_two (xs : List UInt8) (k m : Nat) (hm : m + 1 + 2 * k + 1 = xs.length) : ((xs[m + 1]'(by omega)).toNat : Int) + 256 * ((xs[m]'(by omega)).toNat : Int) = ((d16 (numN xs) k : Nat) : Int) := by
  rw [byte_pair, numN_byte xs (2 * k) (by omega), numN_byte xs (2 * k + 1) (by omega)]
  have e1 : xs.length - 1 - 2 * k = m + 1 := by omega
  have e2 : xs.length - 1 - (2 * k + 1) = m := by omega
  simp only [e1, e2]
  omega
theorem from_one (xs : List UInt8) (k : Nat) (hm : 2 * k + 1 = xs.length) : ((xs[0]'(by omega)).toNat : Int) = ((d16 (numN xs) k : Nat) : Int) := by
  have h0 : numN xs / 2 ^ (8 * (2 * k + 1)) = 0 := by
    rw [hm]
    exact Nat.div_eq_of_lt (numN_lt xs)
  rw [byte_pair, numN_byte xs (2 * k) (by omega), h0]
  have e1 : xs.length - 1 - 2 * k = 0 := by omega
  simp only [e1]
  omega

set_option maxHeartbeats 1600000 in
theorem from_any (v : Value) (xs : List UInt8) (w : World) (h : Byt w v xs) (hn : xs.length ≤ 200000) :
    Calls Try.prog 13 #[v] w (RetL w (numN xs)) := by
  obtain ⟨A, c, rfl, _⟩ := h.len
  have H := Lib.hid h
  clear h
  go_enter Try.func13, Try.ntmps13
  go_wp2_with fail
  go_loopw [3, 4, 5] (fun v i _ wr => ∃ k : Nat, 2 * k ≤ xs.length + 1 ∧ i = .int .i64 ((xs.length : Int) - 1 - 2 * (k : Int)) ∧ OwnI wr w.heap.size v (fL (numN xs) k) ∧ Below w.heap.size w wr) (fun _ i _ _ => (intOf i + 2).toNat)
  case atStart => exact ⟨0, Nat.zero_le _, by go_num, OwnI.nil _ _, Below.refl _ _⟩
  case round =>
    obtain ⟨k, hk, rfl, hown, hb⟩ := hrel
    have HO := Lib.hid hown
    have hbs := hb.size
    have HB := Lib.hid hb
    have HBy := Lib.hid (H.out.below hb)
    clear hown hb
    by_cases hlt : 2 * k < xs.length
    · obtain ⟨j, hj⟩ : ∃ j, j + 2 * k + 1 = xs.length := ⟨xs.length - 2 * k - 1, by omega⟩
      have e1 : (xs.length : Int) - 1 - 2 * (k : Int) = (j : Int) := by omega
      rw [e1]
      have hj0 : (0 : Int) ≤ (j : Int) := by omega
      have hjl : j < xs.length := by omega
      have hk2 : k ≤ 1000000 := by omega
      obtain ⟨b, off, c', hA, _, hc⟩ := HBy.out.at_ hjl
      injection hA with hA _ hc'
      subst hA hc'
      have hx : (xs[j].toNat : Int) ≤ 255 := by have := xs[j].toNat_lt; omega
      have hx0 : 0 ≤ (xs[j].toNat : Int) := by omega
      rcases j with _ | m
      · have HE := Lib.hid (from_one xs k (by omega))
        have HJ := Lib.hid hj
        rw [Nat.add_zero] at hc
        rw [show ((0 : Nat) : Int) = 0 from rfl]
        generalize hxx : (xs[0].toNat : Int) = x at *
        clear hxx hj e1 hj0
        go_wp2_with (at_builtin; refine wpl_append_i1 rfl (.tmp 29) (.tmp 31) 33 _ rfl eiI64 w.heap.size _ (fL (numN xs) k) k (fL_length _ _) rfl HO.out _ rfl hk2 hbs ?_; intro A2 c2 w2 hown2 hb2)
        rw [HE.out, ← fL_succ] at hown2
        have HO2 := Lib.hid hown2
        have HB2 := Lib.hid (HB.out.trans hb2)
        clear hown2 hb2
        go_wp2_with fail
        go_roundw
        case rel => exact ⟨k + 1, by have := HJ.out; omega, by have := HJ.out; first | (congr 1; omega) | (simp; omega), HO2.out, HB2.out⟩
        case measure => have := HJ.out; simp [intOf]
      · have HE := Lib.hid (from_two xs k m (by omega))
        have HJ := Lib.hid hj
        obtain ⟨b', off', c2', hA, _, hcm⟩ := HBy.out.at_ (show m < xs.length by omega)
        injection hA with hA _ hc'
        injection hA with hA
        injection hA with hA1 hA2
        subst hA1 hA2
        clear hc'
        have hy : (xs[m].toNat : Int) ≤ 255 := by have := xs[m].toNat_lt; omega
        have hy0 : 0 ≤ (xs[m].toNat : Int) := by omega
        have e3 : ((m + 1 : Nat) : Int) = (m : Int) + 1 := by omega
        have hm0 : (0 : Int) ≤ (m : Int) := by omega
        rw [e3]
        generalize hxx : (xs[m + 1].toNat : Int) = x at *
        generalize hyy : (xs[m].toNat : Int) = y at *
        clear hxx hyy hj e1
        go_wp2_with (at_builtin; refine wpl_append_i1 rfl (.tmp 29) (.tmp 31) 33 _ rfl eiI64 w.heap.size _ (fL (numN xs) k) k (fL_length _ _) rfl HO.out _ rfl hk2 hbs ?_; intro A2 c2 w2 hown2 hb2)
        rw [HE.out, ← fL_succ] at hown2
        have HO2 := Lib.hid hown2
        have HB2 := Lib.hid (HB.out.trans hb2)
        clear hown2 hb2
        go_wp2_with fail
        go_roundw
        case rel => exact ⟨k + 1, by have := HJ.out; omega, by have := HJ.out; first | (congr 1; omega) | (simp; omega), HO2.out, HB2.out⟩
        case measure => have := HJ.out; simp [intOf]; omega
    · have hneg : (xs.length : Int) - 1 - 2 * (k : Int) < 0 := by omega
      have HV : Hid (numN xs < X16 k) := Lib.hid (Nat.lt_of_lt_of_le (numN_lt xs) (Nat.pow_le_pow_right (by decide) (by omega)))
      have hk2 : k ≤ 1000000 := by omega
      generalize (xs.length : Int) - 1 - 2 * (k : Int) = i at *
      go_wp2_with fail
      refine (trim_any _ (numN xs) k wr HO.out.its hk2 HV.out).mono ?_
      rintro e w' ⟨v', rfl, hv', rfl, hvo⟩
      have HVO := Lib.hid hvo
      clear hvo
      go_wp2_with fail
      go_ret
      exact ⟨_, rfl, hv', HB.out, fun g hg => (HO.out.lt g (HVO.out ▸ hg)).1⟩

end Go.Proofs.Ytomiapceefbmeaa

set_option linter.unusedVariables false
set_option linter.unusedSimpArgs false
set_option maxRecDepth 20000
namespace Go.Proofs.Ytomiapceefbmeaa
open Go.RowKit

/-- The carry into digit k of a sum. -/
def cr16 (a b k : Nat) : Nat := (a % X16 k + b % X16 k) / X16 k
theorem cr16_zero (a b : Nat) : cr16 a b 0 = 0 := by unfold cr16; rw [X16_zero, Nat.mod_one, Nat.mod_one]
theorem cr16_le (a b k : Nat) : cr16 a b k ≤ 1 := by
  unfold cr16
  have h1 := Nat.mod_lt a (X16_pos k)
  have h2 := Nat.mod_lt b (X16_pos k)
  have : (a % X16 k + b % X16 k) / X16 k < 2 := (Nat.div_lt_iff_lt_mul (X16_pos k)).2 (by omega)
  omega
theorem add_digit (a b k : Nat) : d16 (a + b) k = (d16 a k + d16 b k + cr16 a b k) % 65536 := by
  have h : (a + b) / X16 k = a / X16 k + b / X16 k + cr16 a b k := by
    unfold cr16
    have h1 := Nat.div_add_mod a (X16 k)
    have h2 := Nat.div_add_mod b (X16 k)
    have e : a + b = X16 k * (a / X16 k + b / X16 k) + (a % X16 k + b % X16 k) := by rw [Nat.mul_add]; omega
    conv => lhs; rw [e]
    rw [Nat.mul_add_div (X16_pos k)]
  show (a + b) / X16 k % 65536 = (a / X16 k % 65536 + b / X16 k % 65536 + cr16 a b k) % 65536
  rw [h]
  omega
theorem cr16_succ (a b k : Nat) : cr16 a b (k + 1) = (d16 a k + d16 b k + cr16 a b k) / 65536 := by
  have h : (a % X16 (k + 1) + b % X16 (k + 1)) / X16 k = d16 a k + d16 b k + cr16 a b k := by
    unfold cr16
    rw [mod16_step, mod16_step]
    have e : d16 a k * X16 k + a % X16 k + (d16 b k * X16 k + b % X16 k) = X16 k * (d16 a k + d16 b k) + (a % X16 k + b % X16 k) := by
      rw [Nat.mul_add, Nat.mul_comm (X16 k), Nat.mul_comm (X16 k)]; omega
    rw [e, Nat.mul_add_div (X16_pos k)]
  rw [← h, Nat.div_div_eq_div_mul, ← X16_succ]
  rfl
theorem c16_add (a b : Nat) : c16 (a + b) ≤ max (c16 a) (c16 b) + 1 := by
  refine c16_le ?_
  have h1 := Nat.lt_of_lt_of_le (lt_c16 a) (X16_mono (Nat.le_max_left (c16 a) (c16 b)))
  have h2 := Nat.lt_of_lt_of_le (lt_c16 b) (X16_mono (Nat.le_max_right (c16 a) (c16 b)))
  rw [X16_succ]
  omega
theorem sum_done {a b k : Nat} (h1 : c16 a ≤ k) (h2 : c16 b ≤ k) (h3 : cr16 a b k = 0) : a + b < X16 k := by
  have g1 := Nat.lt_of_lt_of_le (lt_c16 a) (X16_mono h1)
  have g2 := Nat.lt_of_lt_of_le (lt_c16 b) (X16_mono h2)
  unfold cr16 at h3
  rw [Nat.mod_eq_of_lt g1, Nat.mod_eq_of_lt g2] at h3
  exact (Nat.div_eq_zero_iff_lt (X16_pos k)).1 h3
theorem sum_more {a b k : Nat} (h3 : 0 < cr16 a b k) : k < c16 (a + b) := by
  refine c16_gt ?_
  unfold cr16 at h3
  have h4 := (Nat.div_pos_iff.1 h3).2
  have := Nat.mod_le a (X16 k)
  have := Nat.mod_le b (X16 k)
  omega

set_option maxHeartbeats 1600000 in
theorem radd_any (u v : Value) (a b : Nat) (w : World) (hu : Lst w u a) (hv : Lst w v b) (ha : Sz a) (hb : Sz b) :
    Calls Try.prog 38 #[u, v] w (RetL w (a + b)) := by
  obtain ⟨A, c, rfl, _, _, _⟩ := hu.len
  obtain ⟨B, d, rfl, _, _, _⟩ := hv.len
  have hs1 := ha.le
  have hs2 := hb.le
  have HU := Lib.hid hu
  have HV := Lib.hid hv
  have HA := Lib.hid ha
  have HB := Lib.hid hb
  clear hu hv ha hb
  go_enter Try.func38, Try.ntmps38
  go_wp2_with fail
  go_loopw [5, 6, 7, 8] (fun o y i _ wr => ∃ k : Nat, k ≤ 100001 ∧ i = .int .i64 (k : Int) ∧ y = .int .i64 ((cr16 a b k : Nat) : Int) ∧ OwnI wr w.heap.size o (fL (a + b) k) ∧ Below w.heap.size w wr) (fun _ _ i _ _ => ((c16 a : Int) + (c16 b : Int) + 2 - intOf i).toNat)
  case atStart => exact ⟨0, Nat.zero_le _, rfl, by rw [cr16_zero]; rfl, OwnI.nil _ _, Below.refl _ _⟩
  case round =>
    obtain ⟨k, hk, rfl, rfl, hown, hbw⟩ := hrel
    have HO := Lib.hid hown
    have hbs := hbw.size
    have HW := Lib.hid hbw
    have HU2 := Lib.hid (HU.out.below hbw)
    have HV2 := Lib.hid (HV.out.below hbw)
    clear hown hbw
    have hcr1 : ((cr16 a b k : Nat) : Int) ≤ 1 := by have := cr16_le a b k; omega
    have hcr0 : 0 ≤ ((cr16 a b k : Nat) : Int) := by omega
    by_cases hx : ¬ k < c16 a ∧ ¬ k < c16 b ∧ cr16 a b k = 0
    · obtain ⟨h1, h2, h3⟩ := hx
      have HV3 := Lib.hid (sum_done (Nat.not_lt.1 h1) (Nat.not_lt.1 h2) h3)
      rw [h3]
      clear h3 hcr1 hcr0
      go_wp2_with fail
      refine (trim_any _ (a + b) k wr HO.out.its (by omega) HV3.out).mono ?_
      rintro e w' ⟨v', rfl, hv', rfl, hvo⟩
      have HVO := Lib.hid hvo
      clear hvo
      go_wp2_with fail
      go_ret
      exact ⟨_, rfl, hv', HW.out, fun g hg => (HO.out.lt g (HVO.out ▸ hg)).1⟩
    · have hc : k < c16 a ∨ (¬ k < c16 a ∧ k < c16 b) ∨ (¬ k < c16 a ∧ ¬ k < c16 b ∧ (0 : Int) < ((cr16 a b k : Nat) : Int)) := by omega
      have hk4 : k ≤ c16 a + c16 b + 1 := by
        rcases hc with h | h | h
        · omega
        · omega
        · have h1 := sum_more (a := a) (b := b) (k := k) (by omega)
          have h2 := c16_add a b
          omega
      have hk3 : k ≤ 100000 := by
        rcases hc with h | h | h
        · omega
        · omega
        · have h1 := sum_more (a := a) (b := b) (k := k) (by omega)
          have h2 := c16_add a b
          omega
      have hk2 : k ≤ 1000000 := by omega
      obtain ⟨x0, x1⟩ := dI_range a (k : Int)
      obtain ⟨y0, y1⟩ := dI_range b (k : Int)
      have HE : Hid ((dI a (k : Int) + dI b (k : Int) + ((cr16 a b k : Nat) : Int)) % 65536 = ((d16 (a + b) k : Nat) : Int) ∧ (dI a (k : Int) + dI b (k : Int) + ((cr16 a b k : Nat) : Int)) / 65536 = ((cr16 a b (k + 1) : Nat) : Int)) := Lib.hid (by
        rw [add_digit, cr16_succ, dI_nat, dI_nat]
        omega)
      clear hx
      rcases hc with h | ⟨h, h2⟩ | ⟨h, h2, h3⟩
      all_goals
        generalize ((cr16 a b k : Nat) : Int) = y at *
        go_wp2_with fail
        refine (digit_any _ a _ wr HU2.out HA.out).mono ?_
        rintro e w' ⟨rfl, rfl⟩
        go_wp2_with fail
        refine (digit_any _ b _ wr HV2.out HB.out).mono ?_
        rintro e w' ⟨rfl, rfl⟩
        generalize dI a (k : Int) = xa at *
        generalize dI b (k : Int) = xb at *
        go_wp2_with (at_builtin; refine wpl_append_i1 rfl (.tmp 34) (.tmp 37) 33 _ rfl eiI64 w.heap.size _ (fL (a + b) k) k (fL_length _ _) rfl HO.out _ rfl hk2 hbs ?_; intro A2 c2 w2 hown2 hb2)
        rw [HE.out.1, ← fL_succ] at hown2
        have HO2 := Lib.hid hown2
        have HB2 := Lib.hid (HW.out.trans hb2)
        clear hown2 hb2
        go_wp2_with fail
        rw [HE.out.2]
        go_roundw
        case rel => exact ⟨k + 1, by omega, by go_num, rfl, HO2.out, HB2.out⟩
        case measure => simp [intOf]; omega

set_option maxHeartbeats 1600000 in
theorem rsub_any (u v : Value) (a b : Nat) (w : World) (hu : Lst w u a) (hv : Lst w v b) (ha : Sz a) (hb : Sz b) (hle : b ≤ a) :
    Calls Try.prog 39 #[u, v] w (RetL w (a - b)) := by
  obtain ⟨V, rfl⟩ : ∃ V, a = V + b := ⟨a - b, by omega⟩
  rw [Nat.add_sub_cancel]
  obtain ⟨A, c, rfl, _, _, _⟩ := hu.len
  obtain ⟨B, d, rfl, _, _, _⟩ := hv.len
  have hs1 := ha.le
  have hs2 := hb.le
  have HU := Lib.hid hu
  have HV := Lib.hid hv
  have HA := Lib.hid ha
  have HB := Lib.hid hb
  clear hu hv ha hb hle
  go_enter Try.func39, Try.ntmps39
  go_wp2_with fail
  go_loopw [5, 6, 7, 8] (fun o y i _ wr => ∃ k : Nat, k ≤ c16 (V + b) ∧ i = .int .i64 (k : Int) ∧ y = .int .i64 ((cr16 V b k : Nat) : Int) ∧ OwnI wr w.heap.size o (fL V k) ∧ Below w.heap.size w wr) (fun _ _ i _ _ => ((c16 (V + b) : Int) - intOf i).toNat)
  case atStart => exact ⟨0, Nat.zero_le _, rfl, by rw [cr16_zero]; rfl, OwnI.nil _ _, Below.refl _ _⟩
  case round =>
    obtain ⟨k, hk, rfl, rfl, hown, hbw⟩ := hrel
    have HO := Lib.hid hown
    have hbs := hbw.size
    have HW := Lib.hid hbw
    have HU2 := Lib.hid (HU.out.below hbw)
    have HV2 := Lib.hid (HV.out.below hbw)
    clear hown hbw
    have hcr1 : ((cr16 V b k : Nat) : Int) ≤ 1 := by have := cr16_le V b k; omega
    have hcr0 : 0 ≤ ((cr16 V b k : Nat) : Int) := by omega
    have hk2 : k ≤ 1000000 := by omega
    by_cases hx : k < c16 (V + b)
    · obtain ⟨x0, x1⟩ := dI_range (V + b) (k : Int)
      obtain ⟨y0, y1⟩ := dI_range b (k : Int)
      by_cases hs : d16 V k + d16 b k + cr16 V b k < 65536
      · have HE : Hid (dI (V + b) (k : Int) - dI b (k : Int) - ((cr16 V b k : Nat) : Int) = ((d16 V k : Nat) : Int) ∧ (0 : Int) = ((cr16 V b (k + 1) : Nat) : Int)) := Lib.hid (by
          rw [cr16_succ, dI_nat, dI_nat, add_digit]
          omega)
        have ht : 0 ≤ dI (V + b) (k : Int) - dI b (k : Int) - ((cr16 V b k : Nat) : Int) := by rw [HE.out.1]; omega
        generalize ((cr16 V b k : Nat) : Int) = y at *
        clear hs
        go_wp2_with fail
        refine (digit_any _ (V + b) _ wr HU2.out HA.out).mono ?_
        rintro e w' ⟨rfl, rfl⟩
        go_wp2_with fail
        refine (digit_any _ b _ wr HV2.out HB.out).mono ?_
        rintro e w' ⟨rfl, rfl⟩
        generalize dI (V + b) (k : Int) = xa at *
        generalize dI b (k : Int) = xb at *
        go_wp2_with (at_builtin; refine wpl_append_i1 rfl (.tmp 28) (.tmp 30) 33 _ rfl eiI64 w.heap.size _ (fL V k) k (fL_length _ _) rfl HO.out _ rfl hk2 hbs ?_; intro A2 c2 w2 hown2 hb2)
        rw [HE.out.1, ← fL_succ] at hown2
        have HO2 := Lib.hid hown2
        have HB2 := Lib.hid (HW.out.trans hb2)
        clear hown2 hb2
        go_wp2_with fail
        go_roundw
        case rel => exact ⟨k + 1, by omega, by go_num, by rw [← HE.out.2], HO2.out, HB2.out⟩
        case measure => simp [intOf]; omega
      · have HE : Hid (dI (V + b) (k : Int) - dI b (k : Int) - ((cr16 V b k : Nat) : Int) + 65536 = ((d16 V k : Nat) : Int) ∧ (1 : Int) = ((cr16 V b (k + 1) : Nat) : Int)) := Lib.hid (by
          have h1 := d16_lt V k
          have h2 := d16_lt b k
          have h3 := cr16_le V b k
          rw [cr16_succ, dI_nat, dI_nat, add_digit]
          omega)
        have ht : dI (V + b) (k : Int) - dI b (k : Int) - ((cr16 V b k : Nat) : Int) < 0 := by
          have h1 := d16_lt V k
          have := HE.out.1
          omega
        generalize ((cr16 V b k : Nat) : Int) = y at *
        clear hs
        go_wp2_with fail
        refine (digit_any _ (V + b) _ wr HU2.out HA.out).mono ?_
        rintro e w' ⟨rfl, rfl⟩
        go_wp2_with fail
        refine (digit_any _ b _ wr HV2.out HB.out).mono ?_
        rintro e w' ⟨rfl, rfl⟩
        generalize dI (V + b) (k : Int) = xa at *
        generalize dI b (k : Int) = xb at *
        go_wp2_with (at_builtin; refine wpl_append_i1 rfl (.tmp 28) (.tmp 30) 33 _ rfl eiI64 w.heap.size _ (fL V k) k (fL_length _ _) rfl HO.out _ rfl hk2 hbs ?_; intro A2 c2 w2 hown2 hb2)
        rw [HE.out.1, ← fL_succ] at hown2
        have HO2 := Lib.hid hown2
        have HB2 := Lib.hid (HW.out.trans hb2)
        clear hown2 hb2
        go_wp2_with fail
        go_roundw
        case rel => exact ⟨k + 1, by omega, by go_num, by rw [← HE.out.2], HO2.out, HB2.out⟩
        case measure => simp [intOf]; omega
    · have HV3 : Hid (V < X16 k) := Lib.hid (Nat.lt_of_lt_of_le (Nat.lt_of_le_of_lt (Nat.le_add_right V b) (lt_c16 (V + b))) (X16_mono (by omega)))
      go_wp2_with fail
      refine (trim_any _ V k wr HO.out.its (by omega) HV3.out).mono ?_
      rintro e w' ⟨v', rfl, hv', rfl, hvo⟩
      have HVO := Lib.hid hvo
      clear hvo
      go_wp2_with fail
      go_ret
      exact ⟨_, rfl, hv', HW.out, fun g hg => (HO.out.lt g (HVO.out ▸ hg)).1⟩

end Go.Proofs.Ytomiapceefbmeaa

set_option linter.unusedVariables false
set_option linter.unusedSimpArgs false
set_option maxRecDepth 20000
namespace Go.Proofs.Ytomiapceefbmeaa
open Go.RowKit

/-! ### Plain: a number times a power of 2 -/
/-- The carry into digit k. -/
def sc16 (a r k : Nat) : Nat := a % X16 k * 2 ^ r / X16 k
theorem sc16_zero (a r : Nat) : sc16 a r 0 = 0 := by unfold sc16; rw [X16_zero, Nat.mod_one, Nat.zero_mul, Nat.zero_div]
theorem sc16_lt (a r k : Nat) : sc16 a r k < 2 ^ r := by
  unfold sc16
  rw [Nat.div_lt_iff_lt_mul (X16_pos k), Nat.mul_comm]
  exact Nat.mul_lt_mul_of_pos_left (Nat.mod_lt _ (X16_pos k)) (Nat.two_pow_pos r)
theorem shift_digit (a r k : Nat) : d16 (a * 2 ^ r) k = (d16 a k * 2 ^ r + sc16 a r k) % 65536 := by
  have h : a * 2 ^ r / X16 k = a / X16 k * 2 ^ r + sc16 a r k := by
    unfold sc16
    have h1 := Nat.div_add_mod a (X16 k)
    have e : a * 2 ^ r = X16 k * (a / X16 k * 2 ^ r) + a % X16 k * 2 ^ r := by rw [← Nat.mul_assoc, ← Nat.add_mul, h1]
    conv => lhs; rw [e]
    rw [Nat.mul_add_div (X16_pos k)]
  show a * 2 ^ r / X16 k % 65536 = (a / X16 k % 65536 * 2 ^ r + sc16 a r k) % 65536
  rw [h]
  conv => lhs; rw [Nat.add_mod, Nat.mul_mod]
  conv => rhs; rw [Nat.add_mod, Nat.mul_mod, Nat.mod_mod]
theorem sc16_succ (a r k : Nat) : sc16 a r (k + 1) = (d16 a k * 2 ^ r + sc16 a r k) / 65536 := by
  have h : a % X16 (k + 1) * 2 ^ r / X16 k = d16 a k * 2 ^ r + sc16 a r k := by
    unfold sc16
    rw [mod16_step, Nat.add_mul, Nat.mul_right_comm, Nat.mul_comm _ (X16 k), Nat.mul_add_div (X16_pos k)]
  rw [← h, Nat.div_div_eq_div_mul, ← X16_succ]
  rfl
theorem d16_shift (U q k : Nat) : d16 (U * X16 q) (q + k) = d16 U k := by
  unfold d16
  rw [X16_add, Nat.mul_comm U, Nat.mul_div_mul_left _ _ (X16_pos q)]
theorem d16_shift_low (U : Nat) {q k : Nat} (h : k < q) : d16 (U * X16 q) k = 0 := by
  unfold d16
  obtain ⟨m, rfl⟩ : ∃ m, q = k + (m + 1) := ⟨q - k - 1, by omega⟩
  rw [X16_add, Nat.mul_left_comm, Nat.mul_div_cancel_left _ (X16_pos k), X16_succ, ← Nat.mul_assoc, Nat.mul_mod_left]
theorem fL_zeros (U q : Nat) : fL (U * X16 q) q = List.replicate q 0 := by
  apply List.ext_getElem?
  intro i
  rcases Nat.lt_or_ge i q with h | h
  · rw [fL_get _ _ _ h, d16_shift_low U h, List.getElem?_replicate, if_pos h]
    rfl
  · rw [List.getElem?_eq_none (by rw [fL_length]; exact h), List.getElem?_eq_none (by simpa using h)]
theorem pow16 (n : Nat) : 2 ^ n = 2 ^ (n % 16) * X16 (n / 16) := by
  unfold X16
  rw [← Nat.pow_add, Nat.add_comm, Nat.div_add_mod]
theorem shift_done {a r k : Nat} (h1 : c16 a ≤ k) (h3 : sc16 a r k = 0) : a * 2 ^ r < X16 k := by
  have g1 := Nat.lt_of_lt_of_le (lt_c16 a) (X16_mono h1)
  unfold sc16 at h3
  rw [Nat.mod_eq_of_lt g1] at h3
  exact (Nat.div_eq_zero_iff_lt (X16_pos k)).1 h3
theorem shift_more {a r k : Nat} (h3 : 0 < sc16 a r k) (hr : r < 16) : k ≤ c16 a := by
  rcases Nat.lt_or_ge (c16 a) k with h | h
  · exfalso
    have h4 : a * 2 ^ r < X16 k := by
      have g1 := lt_c16 a
      have g2 : X16 (c16 a + 1) ≤ X16 k := X16_mono h
      rw [X16_succ] at g2
      have g3 : 2 ^ r ≤ 65536 := Nat.pow_le_pow_right (n := 2) (by decide) (show r ≤ 16 by omega)
      exact Nat.lt_of_lt_of_le (Nat.lt_of_lt_of_le (Nat.mul_lt_mul_of_pos_right g1 (Nat.two_pow_pos r)) (Nat.mul_le_mul_left _ g3)) g2
    unfold sc16 at h3
    have h5 := (Nat.div_pos_iff.1 h3).2
    have h6 := Nat.mul_le_mul_right (2 ^ r) (Nat.mod_le a (X16 k))
    omega
  · exact h

theorem made_i64 (q : Nat) : (madeCells (Value.int .i64 0).cells (q * 1)).toList = (List.replicate q 0).map i64v := by simp [Value.cells, toList_madeCells_one, i64v]

set_option maxHeartbeats 1600000 in
theorem rshift_any (u : Value) (a n : Nat) (w : World) (hu : Lst w u a) (ha : Sz a) (hn : n ≤ 100000) :
    Calls Try.prog 42 #[u, .int .i64 (n : Int)] w (RetL w (a * 2 ^ n)) := by
  obtain ⟨A, c, rfl, _, _, _⟩ := hu.len
  have hs1 := ha.le
  obtain ⟨i0, hi, hz0, hz1, hz2⟩ := info_parts infoI64
  obtain ⟨q, hq⟩ : ∃ q, q = n / 16 := ⟨_, rfl⟩
  have hqi : (n : Int) / 16 = (q : Int) := by omega
  have hql : q ≤ 100000 := by omega
  have HU := Lib.hid hu
  have HA := Lib.hid ha
  have HQ := Lib.hid hq
  clear hu ha hq
  go_enter Try.func42, Try.ntmps42
  go_wp2_with (refine wpList_make_full _ rfl (.tmp 10) (.tmp 10) 33 rfl w.heap.size 3 i0 (.int .i64 0) 1 Try.underlying33 hi hz0 hz1 .i64 .i64 (q : Int) (q : Int) q rfl rfl rfl rfl (by rw [hz2]; omega) (by unfold maxLen; omega) (Nat.le_refl _) ?_; intro w1 hown1 hg1)
  have hb1 : Below w.heap.size w w1 := below_of_none hg1 (Nat.le_refl _)
  have ho1 : OwnI w1 w.heap.size (.slice (some ⟨w.heap.size, 0, none⟩) q q) (fL (a * 2 ^ (n % 16) * X16 q) q) := by
    unfold OwnI
    rw [fL_zeros, List.length_replicate, ← made_i64]
    exact hown1
  have HO1 := Lib.hid ho1
  have HB1 := Lib.hid hb1
  clear ho1 hb1 hown1 hg1
  go_wp2_with fail
  go_loopw [5, 6, 7, 8] (fun o y i _ wr => ∃ k c : Nat, ∃ A, k ≤ c16 a + 1 ∧ i = .int .i64 (k : Int) ∧ y = .int .i64 ((sc16 a (n % 16) k : Nat) : Int) ∧ o = .slice A (q + k) c ∧ OwnI wr w.heap.size o (fL (a * 2 ^ (n % 16) * X16 q) (q + k)) ∧ Below w.heap.size w wr) (fun _ _ i _ _ => ((c16 a : Int) + 2 - intOf i).toNat)
  case atStart => exact ⟨0, q, _, Nat.zero_le _, rfl, by rw [sc16_zero]; rfl, rfl, HO1.out, HB1.out⟩
  case round =>
    clear HO1 HB1
    obtain ⟨k, c, A, hk, rfl, rfl, rfl, hown, hbw⟩ := hrel
    have HO := Lib.hid hown
    have hbs := hbw.size
    have HW := Lib.hid hbw
    have HU2 := Lib.hid (HU.out.below hbw)
    clear hown hbw
    have hr16 : n % 16 < 16 := Nat.mod_lt _ (by decide)
    have hp : 2 ^ (n % 16) ≤ 32768 := Nat.pow_le_pow_right (n := 2) (by decide) (show n % 16 ≤ 15 by omega)
    have hcr1 : ((sc16 a (n % 16) k : Nat) : Int) ≤ 32768 := by have := sc16_lt a (n % 16) k; omega
    have hcr0 : 0 ≤ ((sc16 a (n % 16) k : Nat) : Int) := by omega
    have hk2 : q + k ≤ 1000000 := by omega
    by_cases hx : ¬ k < c16 a ∧ sc16 a (n % 16) k = 0
    · obtain ⟨h1, h3⟩ := hx
      have HV3 : Hid (a * 2 ^ (n % 16) * X16 q < X16 (q + k)) := Lib.hid (by
        rw [X16_add, Nat.mul_comm]
        exact Nat.mul_lt_mul_of_pos_left (shift_done (Nat.not_lt.1 h1) h3) (X16_pos q))
      rw [h3]
      clear h3 hcr1 hcr0 hp
      go_wp2_with fail
      refine (trim_any _ (a * 2 ^ (n % 16) * X16 q) (q + k) wr HO.out.its hk2 HV3.out).mono ?_
      rintro e w' ⟨v', rfl, hv', rfl, hvo⟩
      have HVO := Lib.hid hvo
      clear hvo
      go_wp2_with fail
      go_ret
      rw [HQ.out, Nat.mul_assoc, ← pow16] at hv'
      exact ⟨_, rfl, hv', HW.out, fun g hg => (HO.out.lt g (HVO.out ▸ hg)).1⟩
    · have hc : k < c16 a ∨ (¬ k < c16 a ∧ (0 : Int) < ((sc16 a (n % 16) k : Nat) : Int)) := by omega
      have hk3 : k ≤ c16 a := by
        rcases hc with h | h
        · omega
        · exact shift_more (by omega) hr16
      obtain ⟨x0, x1⟩ := dI_range a (k : Int)
      have HE : Hid ((dI a (k : Int) * 2 ^ (n % 16) + ((sc16 a (n % 16) k : Nat) : Int)) % 65536 = ((d16 (a * 2 ^ (n % 16) * X16 q) (q + k) : Nat) : Int) ∧ (dI a (k : Int) * 2 ^ (n % 16) + ((sc16 a (n % 16) k : Nat) : Int)) / 65536 = ((sc16 a (n % 16) (k + 1) : Nat) : Int)) := Lib.hid (by
        rw [d16_shift, shift_digit, sc16_succ, dI_nat]
        exact ⟨by simp, by simp⟩)
      have hm0 : 0 ≤ dI a (k : Int) * 2 ^ (n % 16) := Int.mul_nonneg x0 (Int.le_of_lt (Int.pow_pos (by decide)))
      have hm1 : dI a (k : Int) * 2 ^ (n % 16) ≤ 2147483648 := by
        have h1 : dI a (k : Int) * 2 ^ (n % 16) ≤ 65536 * 2 ^ (n % 16) := Int.mul_le_mul_of_nonneg_right (by omega) (Int.le_of_lt (Int.pow_pos (by decide)))
        have h2 : ((2 ^ (n % 16) : Nat) : Int) ≤ 32768 := by omega
        have h3 : ((2 ^ (n % 16) : Nat) : Int) = 2 ^ (n % 16) := by simp
        omega
      clear hx hp
      rcases hc with h | ⟨h, h3⟩
      all_goals
        generalize ((sc16 a (n % 16) k : Nat) : Int) = y at *
        go_wp2_with fail
        refine (digit_any _ a _ wr HU2.out HA.out).mono ?_
        rintro e w' ⟨rfl, rfl⟩
        generalize dI a (k : Int) = xa at *
        go_wp2_with (at_builtin; refine wpl_append_i1 rfl (.tmp 30) (.tmp 33) 33 _ rfl eiI64 w.heap.size _ (fL (a * 2 ^ (n % 16) * X16 q) (q + k)) (q + k) (fL_length _ _) rfl HO.out _ rfl hk2 hbs ?_; intro A2 c2 w2 hown2 hb2)
        rw [HE.out.1, ← fL_succ] at hown2
        have HO2 := Lib.hid hown2
        have HB2 := Lib.hid (HW.out.trans hb2)
        clear hown2 hb2
        go_wp2_with fail
        rw [HE.out.2]
        go_roundw
        case rel => exact ⟨k + 1, c2, A2, by omega, by go_num, rfl, rfl, HO2.out, HB2.out⟩
        case measure => simp [intOf]; omega

end Go.Proofs.Ytomiapceefbmeaa
