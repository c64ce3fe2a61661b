/- Numbers and their digits to the base 65536, in plain Lean; a slice that reads as a number. -/
import Derived.Test.YtomiapceefbmeaaNatSpec
set_option linter.unusedVariables false
set_option linter.unusedSimpArgs false
set_option maxRecDepth 20000
namespace Go.Proofs.Ytomiapceefbmeaa
open Go.RowKit

def X16 (k : Nat) : Nat := 2 ^ (16 * k)
theorem X16_pos (k : Nat) : 0 < X16 k := Nat.two_pow_pos _
theorem X16_zero : X16 0 = 1 := rfl
theorem X16_one : X16 1 = 65536 := by decide
theorem X16_add (j k : Nat) : X16 (j + k) = X16 j * X16 k := by
  unfold X16
  rw [← Nat.pow_add, Nat.mul_add]
theorem X16_succ (k : Nat) : X16 (k + 1) = X16 k * 65536 := by rw [X16_add, X16_one]
theorem X16_mono {k m : Nat} (h : k ≤ m) : X16 k ≤ X16 m := Nat.pow_le_pow_right (by decide) (by omega)
theorem X16_lt {k m : Nat} (h : k < m) : X16 k < X16 m := Nat.pow_lt_pow_right (by decide) (by omega)
def d16 (n k : Nat) : Nat := n / X16 k % 65536
theorem d16_lt (n k : Nat) : d16 n k < 65536 := Nat.mod_lt _ (by decide)
theorem d16_high {n k : Nat} (h : n < X16 k) : d16 n k = 0 := by unfold d16; rw [Nat.div_eq_of_lt h]
theorem div16_step (n k : Nat) : n / X16 k = n / X16 (k + 1) * 65536 + d16 n k := by
  unfold d16
  rw [X16_succ, ← Nat.div_div_eq_div_mul, Nat.mul_comm]
  exact (Nat.div_add_mod _ _).symm
theorem mod16_step (n k : Nat) : n % X16 (k + 1) = d16 n k * X16 k + n % X16 k := by
  unfold d16
  rw [X16_succ, Nat.mod_mul, Nat.mul_comm (X16 k)]
  omega
theorem d16_top {n k : Nat} (h : n < X16 (k + 1)) : d16 n k = n / X16 k := by
  have := div16_step n k
  rw [Nat.div_eq_of_lt h] at this
  omega
/-- How many digits. -/
def c16 (n : Nat) : Nat := (bl n + 15) / 16
theorem lt_c16 (n : Nat) : n < X16 (c16 n) := by
  refine Nat.lt_of_lt_of_le (lt_bl n) ?_
  unfold X16 c16
  exact Nat.pow_le_pow_right (by decide) (by omega)
theorem c16_le {n k : Nat} (h : n < X16 k) : c16 n ≤ k := by
  have := bl_le h
  unfold c16
  omega
theorem c16_gt {n k : Nat} (h : X16 k ≤ n) : k < c16 n := by
  rcases Nat.lt_or_ge k (c16 n) with h1 | h1
  · exact h1
  · have h2 := X16_mono h1
    have h3 := lt_c16 n
    omega
theorem c16_zero : c16 0 = 0 := rfl
theorem c16_eq_zero {n : Nat} : c16 n = 0 ↔ n = 0 := by
  constructor
  · intro h
    have := lt_c16 n
    rw [h, X16_zero] at this
    omega
  · rintro rfl; rfl
theorem c16_mono {n m : Nat} (h : n ≤ m) : c16 n ≤ c16 m := c16_le (Nat.lt_of_le_of_lt h (lt_c16 m))
theorem c16_eq {n k : Nat} (h1 : n < X16 k) (h2 : k = 0 ∨ d16 n (k - 1) ≠ 0) : c16 n = k := by
  have h3 := c16_le h1
  rcases h2 with h2 | h2
  · omega
  · rcases Nat.lt_or_ge (c16 n) k with h4 | h4
    · exact absurd (d16_high (Nat.lt_of_lt_of_le (lt_c16 n) (X16_mono (show c16 n ≤ k - 1 by omega)))) h2
    · omega
theorem X16_le_of_c16 {n : Nat} (h : n ≠ 0) : X16 (c16 n - 1) ≤ n := by
  rcases Nat.lt_or_ge n (X16 (c16 n - 1)) with h1 | h1
  · have h2 := c16_le h1
    have h3 : c16 n ≠ 0 := fun h0 => h (c16_eq_zero.1 h0)
    omega
  · exact h1
theorem top16 {n : Nat} (h : n ≠ 0) : d16 n (c16 n - 1) ≠ 0 := by
  have h3 : c16 n ≠ 0 := fun h0 => h (c16_eq_zero.1 h0)
  have h1 := lt_c16 n
  rw [show c16 n = c16 n - 1 + 1 from by omega] at h1
  rw [d16_top h1]
  have := Nat.div_pos (X16_le_of_c16 h) (X16_pos _)
  omega
theorem d16_mod {n k i : Nat} (h : i < k) : d16 (n % X16 k) i = d16 n i := by
  unfold d16
  obtain ⟨m, rfl⟩ : ∃ m, k = i + (m + 1) := ⟨k - i - 1, by omega⟩
  rw [X16_add, Nat.mod_mul_right_div_self, X16_succ, Nat.mul_comm (X16 m), Nat.mod_mul_right_mod]
theorem ext16 {a b k : Nat} (ha : a < X16 k) (hb : b < X16 k) (h : ∀ i, i < k → d16 a i = d16 b i) : a = b := by
  have key : ∀ j, j ≤ k → a / X16 (k - j) = b / X16 (k - j) := by
    intro j
    induction j with
    | zero => intro _; rw [Nat.sub_zero, Nat.div_eq_of_lt ha, Nat.div_eq_of_lt hb]
    | succ j ih =>
      intro hj
      have h1 := ih (by omega)
      rw [div16_step a, div16_step b, show k - (j + 1) + 1 = k - j from by omega, h1, h _ (by omega)]
  have := key k (Nat.le_refl _)
  rw [Nat.sub_self, X16_zero, Nat.div_one, Nat.div_one] at this
  exact this
theorem lt_of_d16 {a b k : Nat} (h : a / X16 (k + 1) = b / X16 (k + 1)) (hd : d16 a k < d16 b k) : a < b := by
  have h1 : a / X16 k < b / X16 k := by rw [div16_step a, div16_step b, h]; omega
  exact Nat.lt_of_div_lt_div h1

/-- The first k digits of V. -/
def fL (V k : Nat) : List Int := (List.range k).map fun i => ((d16 V i : Nat) : Int)
theorem fL_length (V k : Nat) : (fL V k).length = k := by simp [fL]
theorem fL_get (V k i : Nat) (hi : i < k) : (fL V k)[i]? = some ((d16 V i : Nat) : Int) := by simp [fL, hi]
theorem fL_succ (V k : Nat) : fL V (k + 1) = fL V k ++ [((d16 V k : Nat) : Int)] := by simp [fL, List.range_succ]
theorem fL_zero (V : Nat) : fL V 0 = [] := rfl
theorem fL_take (V : Nat) {j k : Nat} (h : j ≤ k) : (fL V k).take j = fL V j := by
  simp [fL, ← List.map_take, List.take_range, Nat.min_eq_left h]
theorem fL_mod (V k : Nat) : fL (V % X16 k) k = fL V k := by
  unfold fL
  refine List.map_congr_left fun i hi => ?_
  rw [d16_mod (List.mem_range.1 hi)]
/-- All of n's digits. -/
def dL (n : Nat) : List Int := fL n (c16 n)
theorem dL_length (n : Nat) : (dL n).length = c16 n := fL_length _ _
theorem dL_zero : dL 0 = [] := rfl
theorem dL_nil {n : Nat} : dL n = [] ↔ n = 0 := by
  rw [← List.length_eq_zero_iff, dL_length, c16_eq_zero]

/-- A slice that reads as the number n. -/
def Lst (w : World) (v : Value) (n : Nat) : Prop := Its w v (dL n)
def RetL (w : World) (n : Nat) (e : Ending) (w' : World) : Prop := ∃ v, e = .returned v ∧ Lst w' v n ∧ Below w.heap.size w w' ∧ ∀ g, v.ownBlock = some g → w.heap.size ≤ g
section
variable {w w' : World} {v : Value} {n : Nat}
theorem Its.len {xs : List Int} (h : Its w v xs) : ∃ A c, v = .slice A xs.length c ∧ xs.length ≤ c ∧ c ≤ maxLen ∧ (A = none → c = 0) := by
  obtain ⟨A, c, h1, h2, h3, h4, _⟩ := h
  exact ⟨A, c, by simpa using h1, by simpa using h2, h3, h4⟩
theorem Its.nil (w : World) : Its w (.slice none 0 0) [] := Sl.nil w
theorem Its.below {xs : List Int} (h : Its w v xs) (hb : Below w.heap.size w w') : Its w' v xs := Sl.below h hb
theorem Its.at_ {xs : List Int} (h : Its w v xs) {k : Nat} {x : Int} (hk : xs[k]? = some x) :
    ∃ b off c, v = .slice (some ⟨b, off, none⟩) xs.length c ∧ b < w.heap.size ∧ w.cell? ⟨b, off + k, none⟩ = some (.int .i64 x) := by
  have hl := (List.getElem?_eq_some_iff.1 hk)
  obtain ⟨hk1, hk2⟩ := hl
  obtain ⟨b, off, c, h1, h2, h3⟩ := Sl.at_ h (k := k) (by simpa using hk1)
  refine ⟨b, off, c, by simpa using h1, h2, ?_⟩
  rw [h3]
  simp [i64v, hk2]
theorem Its.take {A : Option Addr} {m c : Nat} {xs : List Int} (h : Its w (.slice A m c) xs) {k : Nat} (hk : k ≤ xs.length) : Its w (.slice A k c) (xs.take k) := by
  obtain ⟨A', c', e, g1, g2, g3, g4⟩ := h
  injection e with e1 e2 e3
  subst e1 e3
  have hl : ((xs.take k).map i64v).length = k := by simp; omega
  have hx : (xs.map i64v).length = xs.length := by simp
  refine ⟨A, c, by rw [hl], by omega, g2, g3, fun hne => ?_⟩
  obtain ⟨b, off, hA, hb, hc⟩ := g4 (by
    intro h0
    apply hne
    have : xs = [] := by simpa using h0
    rw [this]
    simp)
  refine ⟨b, off, hA, hb, fun j u hu => hc j u ?_⟩
  rw [← hu, List.map_take, List.getElem?_take, if_pos]
  have := (List.getElem?_eq_some_iff.1 hu).1
  omega
theorem Lst.below (h : Lst w v n) (hb : Below w.heap.size w w') : Lst w' v n := Its.below h hb
theorem Lst.nil (w : World) : Lst w (.slice none 0 0) 0 := Its.nil w
theorem Lst.drew (h : Lst w v n) : Lst w.drew v n := h
theorem Lst.len (h : Lst w v n) : ∃ A c, v = .slice A (c16 n) c ∧ c16 n ≤ c ∧ c ≤ maxLen ∧ (A = none → c = 0) := by
  obtain ⟨A, c, h1, h2, h3, h4⟩ := Its.len h
  rw [dL_length] at h1 h2
  exact ⟨A, c, h1, h2, h3, h4⟩
theorem Lst.at_ (h : Lst w v n) {k : Nat} (hk : k < c16 n) :
    ∃ b off c, v = .slice (some ⟨b, off, none⟩) (c16 n) c ∧ b < w.heap.size ∧ w.cell? ⟨b, off + k, none⟩ = some (.int .i64 ((d16 n k : Nat) : Int)) := by
  have h1 := Its.at_ h (fL_get n (c16 n) k hk)
  rw [dL_length] at h1
  exact h1
/-- Digits, the last ones 0, cut. -/
theorem Lst.of_fL {A : Option Addr} {m c k : Nat} (h : Its w (.slice A m c) (fL n k)) (hn : n < X16 k) : Lst w (.slice A (c16 n) c) n := by
  have h1 := c16_le hn
  have h2 := Its.take h (k := c16 n) (by rw [fL_length]; exact h1)
  rw [fL_take n h1] at h2
  exact h2
end

/-- Digit i, also of a negative index. -/
def dI (n : Nat) (i : Int) : Int := if i < 0 then 0 else ((d16 n i.toNat : Nat) : Int)
theorem dI_nat (n k : Nat) : dI n (k : Int) = ((d16 n k : Nat) : Int) := by unfold dI; rw [if_neg (by omega), Int.toNat_natCast]
theorem dI_neg (n : Nat) {i : Int} (h : i < 0) : dI n i = 0 := by unfold dI; rw [if_pos h]
theorem dI_range (n : Nat) (i : Int) : 0 ≤ dI n i ∧ dI n i < 65536 := by
  unfold dI
  have := d16_lt n i.toNat
  split <;> omega
/-- Bit i as a number. -/
def tI (n : Nat) (i : Int) : Int := if i < 0 then 0 else ((n / 2 ^ i.toNat % 2 : Nat) : Int)
theorem tI_nat (n k : Nat) : tI n (k : Int) = ((n / 2 ^ k % 2 : Nat) : Int) := by unfold tI; rw [if_neg (by omega), Int.toNat_natCast]
theorem tI_range (n : Nat) (i : Int) : 0 ≤ tI n i ∧ tI n i < 2 := by
  unfold tI
  have := Nat.mod_lt (n / 2 ^ i.toNat) (show 0 < 2 by decide)
  split <;> omega
theorem bit_of_d16 (n k : Nat) : d16 n (k / 16) / 2 ^ (k % 16) % 2 = n / 2 ^ k % 2 := by
  unfold d16 X16
  have h1 : 65536 = 2 ^ (k % 16) * (2 * 2 ^ (15 - k % 16)) := by
    rw [← Nat.pow_succ', ← Nat.pow_add, show k % 16 + (15 - k % 16 + 1) = 16 from by omega]
  rw [h1, Nat.mod_mul_right_div_self, Nat.mod_mul_right_mod, Nat.div_div_eq_div_mul, ← Nat.pow_add, Nat.div_add_mod]

end Go.Proofs.Ytomiapceefbmeaa
