/- Blocks of any number of digits to the base 2^32; plain: one digit set; products digit by digit. · Plain: long division to the base 2^32, digit by digit, as the program does it. · Walk: Mul (printed by gennatv.py). · Blocks of 33 digits, loaded and stored whole. Walk: moved (printed by gennatx.py). -/
import Derived.Test.YtomiapceefbmeaaNatK
import Derived.Test.YtomiapceefbmeaaNatT
import Derived.IntWalk
import Derived.Laws.CopyOwn
set_option linter.unusedVariables false
set_option linter.unusedSimpArgs false
set_option maxRecDepth 20000
namespace Go.Proofs.Ytomiapceefbmeaa
open Go.RowKit

theorem B32_add (j k : Nat) : B32 (j + k) = B32 j * B32 k := by
  unfold B32
  rw [← Nat.pow_add, Nat.mul_add]
theorem B32_succ' (k : Nat) : B32 (k + 1) = B32 k * 4294967296 := by rw [B32_succ, B1_eq]
theorem dig_lt' (n k : Nat) : dig n k < 4294967296 := by have := dig_lt n k; omega
theorem dig_eq' (n k : Nat) : dig n k = n / B32 k % 4294967296 := by rw [dig_eq, B1_eq]
theorem div_step' (n k : Nat) : n / B32 k = n / B32 (k + 1) * 4294967296 + dig n k := by rw [div_step n k, B1_eq]

/-! ### One digit set -/
def setB (M j x : Nat) : Nat := M / B32 (j + 1) * B32 (j + 1) + x * B32 j + M % B32 j
theorem setB_eq (M j x : Nat) : setB M j x + dig M j * B32 j = M + x * B32 j := by
  unfold setB
  have h1 := Nat.div_add_mod M (B32 (j + 1))
  have h2 := mod_step M j
  rw [Nat.mul_comm] at h1
  omega
theorem setB_same {M j x : Nat} (hx : x < 4294967296) : dig (setB M j x) j = x := by
  rw [dig_eq']
  unfold setB
  have h : M / B32 (j + 1) * B32 (j + 1) + x * B32 j + M % B32 j = B32 j * (M / B32 (j + 1) * 4294967296 + x) + M % B32 j := by
    have e1 : M / B32 (j + 1) * B32 (j + 1) = B32 j * (M / B32 (j + 1) * 4294967296) := by
      generalize M / B32 (j + 1) = q
      rw [B32_succ']
      simp only [Nat.mul_assoc, Nat.mul_left_comm, Nat.mul_comm]
    rw [e1, Nat.mul_add, Nat.mul_comm x]
  rw [h, Nat.mul_add_div (B32_pos j), Nat.div_eq_of_lt (Nat.mod_lt _ (B32_pos j)), Nat.add_zero]
  omega
theorem setB_other {M j x i : Nat} (hx : x < 4294967296) (hi : i ≠ j) : dig (setB M j x) i = dig M i := by
  rcases Nat.lt_or_ge i j with h | h
  · rw [← dig_mod (k := j) h, ← dig_mod (n := M) (k := j) h]
    congr 1
    unfold setB
    have e : M / B32 (j + 1) * B32 (j + 1) + x * B32 j + M % B32 j = M % B32 j + (M / B32 (j + 1) * 4294967296 + x) * B32 j := by
      generalize M / B32 (j + 1) = q
      rw [B32_succ', Nat.add_mul, Nat.mul_assoc _ 4294967296, Nat.mul_comm 4294967296]
      omega
    rw [e, Nat.add_mul_mod_self_right, Nat.mod_mod]
  · obtain ⟨m, rfl⟩ : ∃ m, i = j + 1 + m := ⟨i - j - 1, by omega⟩
    rw [dig_eq', dig_eq', B32_add (j + 1), ← Nat.div_div_eq_div_mul, ← Nat.div_div_eq_div_mul]
    congr 2
    unfold setB
    have h1 : x * B32 j + M % B32 j < B32 (j + 1) := by
      rw [B32_succ']
      have h2 := Nat.mod_lt M (B32_pos j)
      have h3 : (x + 1) * B32 j ≤ 4294967296 * B32 j := Nat.mul_le_mul_right _ hx
      rw [Nat.add_mul, Nat.one_mul] at h3
      rw [Nat.mul_comm (B32 j)]
      omega
    rw [Nat.add_assoc, Nat.mul_comm, Nat.mul_add_div (B32_pos _), Nat.div_eq_of_lt h1, Nat.add_zero]
theorem setB_lt {M j x m : Nat} (hx : x < 4294967296) (hj : j < m) (hM : M < B32 m) : setB M j x < B32 m := by
  have h1 : ∀ i, m ≤ i → dig (setB M j x) i = 0 := fun i hi => by
    rw [setB_other hx (by omega)]
    exact dig_high (lt_B32_of_le hM hi)
  -- the number is its digits below m
  have h2 : setB M j x / B32 m = 0 := by
    have h3 : setB M j x / B32 m = M / B32 m := by
      have e1 : setB M j x / B32 (j + 1) = M / B32 (j + 1) := by
        unfold setB
        have h1 : x * B32 j + M % B32 j < B32 (j + 1) := by
          rw [B32_succ']
          have h2 := Nat.mod_lt M (B32_pos j)
          have h3 : (x + 1) * B32 j ≤ 4294967296 * B32 j := Nat.mul_le_mul_right _ hx
          rw [Nat.add_mul, Nat.one_mul] at h3
          rw [Nat.mul_comm (B32 j)]
          omega
        rw [Nat.add_assoc, Nat.mul_comm, Nat.mul_add_div (B32_pos _), Nat.div_eq_of_lt h1, Nat.add_zero]
      obtain ⟨d, rfl⟩ : ∃ d, m = j + 1 + d := ⟨m - j - 1, by omega⟩
      rw [B32_add, ← Nat.div_div_eq_div_mul, ← Nat.div_div_eq_div_mul, e1]
    rw [h3, Nat.div_eq_of_lt hM]
  exact (Nat.div_eq_zero_iff_lt (B32_pos m)).1 h2

/-! ### Products -/
/-- Where the inner loop of Mul stands. -/
def MulB (a b i k M c : Nat) : Prop := M + c * B32 (i + k) = a % B32 i * b + dig a i * B32 i * (b % B32 k) ∧ c < 4294967296
theorem MulB.start (a b i : Nat) : MulB a b i 0 (a % B32 i * b) 0 := by
  unfold MulB
  rw [B32_zero, Nat.mod_one, Nat.mul_zero, Nat.zero_mul]
  exact ⟨rfl, by decide⟩
theorem MulB.next {a b i k M c t : Nat} (h : MulB a b i k M c) (ht : t = dig M (i + k) + dig a i * dig b k + c) : MulB a b i (k + 1) (setB M (i + k) (t % 4294967296)) (t / 4294967296) ∧ t < 18446744073709551616 := by
  have h1 := setB_eq M (i + k) (t % 4294967296)
  have h2 := Nat.div_add_mod t 4294967296
  obtain ⟨h3, h4⟩ := h
  have d1 := dig_lt' M (i + k)
  have d2 := dig_lt' a i
  have d3 := dig_lt' b k
  have h5 : dig a i * dig b k ≤ 4294967295 * 4294967295 := Nat.mul_le_mul (by omega) (by omega)
  have h6 : t < 18446744073709551616 := by
    generalize dig a i * dig b k = p at *
    omega
  refine ⟨⟨?_, ?_⟩, h6⟩
  · rw [mod_step b, Nat.mul_add]
    have e1 : dig a i * B32 i * (dig b k * B32 k) = dig a i * dig b k * B32 (i + k) := by
      rw [B32_add]
      simp only [Nat.mul_assoc, Nat.mul_left_comm, Nat.mul_comm]
    rw [e1, show i + (k + 1) = i + k + 1 from rfl, B32_succ']
    have e2 : t / 4294967296 * (B32 (i + k) * 4294967296) = 4294967296 * (t / 4294967296) * B32 (i + k) := by
      simp only [Nat.mul_assoc, Nat.mul_left_comm, Nat.mul_comm]
    have e3 : t * B32 (i + k) = 4294967296 * (t / 4294967296) * B32 (i + k) + t % 4294967296 * B32 (i + k) := by rw [← Nat.add_mul, h2]
    have e4 : t * B32 (i + k) = dig M (i + k) * B32 (i + k) + dig a i * dig b k * B32 (i + k) + c * B32 (i + k) := by rw [ht, Nat.add_mul, Nat.add_mul]
    rw [e2]
    generalize dig a i * dig b k * B32 (i + k) = p1 at *
    generalize 4294967296 * (t / 4294967296) * B32 (i + k) = p2 at *
    generalize t % 4294967296 * B32 (i + k) = p3 at *
    generalize t * B32 (i + k) = p4 at *
    generalize dig M (i + k) * B32 (i + k) = p5 at *
    generalize c * B32 (i + k) = p6 at *
    generalize dig a i * B32 i * (b % B32 k) = p7 at *
    generalize a % B32 i * b = p8 at *
    omega
  · omega
/-- The last carry laid. -/
theorem MulB.done {a b i m M c : Nat} (h : MulB a b i m M c) (hb : b < B32 m) (hM : M < B32 (i + m)) : setB M (i + m) c = a % B32 (i + 1) * b := by
  have h1 := h.1
  have h2 := setB_eq M (i + m) c
  rw [dig_high hM, Nat.zero_mul, Nat.add_zero] at h2
  rw [h2, h1, Nat.mod_eq_of_lt hb, mod_step, Nat.add_mul, Nat.add_comm]

/-! ### Blocks of digits -/
def digL (N n : Nat) : List Value := (List.range N).map fun i => .int .u32 ((dig n i : Nat) : Int)
def digA (N n : Nat) : Array Value := (digL N n).toArray
theorem digL_length (N n : Nat) : (digL N n).length = N := by simp [digL]
theorem digL_get (N n i : Nat) (hi : i < N) : (digL N n)[i]? = some (.int .u32 ((dig n i : Nat) : Int)) := by simp [digL, hi]
theorem digA_size (N n : Nat) : (digA N n).size = N := by simp [digA, digL]
theorem digA_get (N n i : Nat) (hi : i < N) : (digA N n)[i]? = some (.int .u32 ((dig n i : Nat) : Int)) := by simp [digA, digL_get N n i hi]
theorem digL_one (N n : Nat) : ∀ v ∈ digL N n, v.oneCell' = true := by
  intro v hv
  simp only [digL, List.mem_map] at hv
  obtain ⟨i, _, rfl⟩ := hv
  rfl
theorem digA_nat (n : Nat) : digA 32 n = natA n := rfl
def DAt (w : World) (B N n : Nat) : Prop := ∃ T, w.heap[B]? = some (.cells (digA N n) T (0, 0))
section
variable {w w' : World} {B N n : Nat}
theorem DAt.of_nat (h : NatAt w B n) : DAt w B 32 n := h
theorem DAt.nat (h : DAt w B 32 n) : NatAt w B n := h
theorem DAt.lt (h : DAt w B N n) : B < w.heap.size := let ⟨_, h⟩ := h; (Array.getElem?_eq_some_iff.1 h).1
theorem DAt.cell (h : DAt w B N n) {i : Nat} (hi : i < N) : w.cell? ⟨B, i, none⟩ = some (.int .u32 ((dig n i : Nat) : Int)) := by
  obtain ⟨T, h⟩ := h
  rw [cell_of_row w B i _ _ (0, 0) h, digA_get N n i hi]
theorem DAt.frozen (h : DAt w B N n) (i : Nat) : w.frozen? ⟨B, i, none⟩ = false := let ⟨_, h⟩ := h; frozen_of_row w B i _ _ h
theorem DAt.below (h : DAt w B N n) (hb : Below w.heap.size w w') : DAt w' B N n := by
  have hlt := h.lt
  obtain ⟨T, h⟩ := h
  exact ⟨T, by rw [hb.block B hlt]; exact h⟩
theorem DAt.below' {C : Nat} (h : DAt w B N n) (hb : Below C w w') (hC : B < C) : DAt w' B N n := by
  obtain ⟨T, h⟩ := h
  exact ⟨T, by rw [hb.block B hC]; exact h⟩
theorem DAt.grown {row : Option Nat} (h : DAt w B N n) (hg : w.grownBy w' row) (hne : some B ≠ row) : DAt w' B N n := by
  have hlt := h.lt
  obtain ⟨T, h⟩ := h
  exact ⟨T, by rw [hg.block B hlt hne]; exact h⟩
theorem DAt.alloc (h : DAt w B N n) (o : Obj) : DAt (w.alloc o) B N n := h.below ((Below.refl _ _).alloc (Nat.le_refl _) _)
theorem DAt.drew (h : DAt w B N n) : DAt w.drew B N n := h
theorem DAt.drewN (h : DAt w B N n) (m : Nat) : DAt (w.drewN m) B N n := h
theorem DAt.range (h : DAt w B N n) : w.rangeAt B 0 (digL N n) := by
  intro j v hv
  have hj : j < N := by
    have := (List.getElem?_eq_some_iff.1 hv).1
    rwa [digL_length] at this
  rw [digL_get N n j hj] at hv
  rw [Nat.zero_add, h.cell hj, hv]
theorem DAt.there (h : DAt w B N n) : w.there B 0 N := fun j hj => by
  rw [Nat.zero_add]
  exact ⟨by rw [h.cell hj]; rfl, h.frozen j⟩
theorem digA_set {M j x : Nat} (hj : j < N) (hx : x < 4294967296) : (digA N M).setIfInBounds j (.int .u32 (x : Int)) = digA N (setB M j x) := by
  apply Array.ext_getElem?
  intro i
  rw [Array.getElem?_setIfInBounds, digA_size]
  by_cases hi : i < N
  · rw [digA_get N (setB M j x) i hi]
    by_cases e : j = i
    · subst e
      rw [if_pos rfl, if_pos hj, setB_same hx]
    · rw [if_neg e, digA_get N M i hi, setB_other hx (Ne.symm e)]
  · rw [if_neg (by omega), Array.getElem?_eq_none (by rw [digA_size]; omega), Array.getElem?_eq_none (by rw [digA_size]; omega)]
theorem DAt.set {M j x : Nat} (h : DAt w B N M) (hj : j < N) (hx : x < 4294967296) (v : Int) (hv : v = (x : Int)) :
    DAt (w.setCell ⟨B, j, none⟩ (.int .u32 v)) B N (setB M j x) ∧ w.grownBy (w.setCell ⟨B, j, none⟩ (.int .u32 v)) (some B) := by
  subst hv
  obtain ⟨T, h⟩ := h
  refine ⟨⟨T, ?_⟩, rfl, rfl, rfl, by simp, fun i _ hi => heap_setCell_other w ⟨B, j, none⟩ i _ (fun e => hi (by simp [e]))⟩
  rw [heap_setCell_same w B j _ _ _ h, digA_set hj hx]
end
theorem digA_zero (N : Nat) : digA N 0 = (List.replicate N (Value.int .u32 0)).toArray := by
  unfold digA digL
  congr 1
  apply List.ext_getElem?
  intro i
  rcases Nat.lt_or_ge i N with h | h
  · simp [h, dig]
  · simp [h]

end Go.Proofs.Ytomiapceefbmeaa

set_option linter.unusedVariables false
set_option linter.unusedSimpArgs false
set_option maxRecDepth 20000
namespace Go.Proofs.Ytomiapceefbmeaa
open Go.RowKit

/-! ### A number moved to the left by less than a digit -/
def sc32 (a s k : Nat) : Nat := a % B32 k * 2 ^ s / B32 k
theorem sc32_lt (a s k : Nat) : sc32 a s k < 2 ^ s := by
  unfold sc32
  rw [Nat.div_lt_iff_lt_mul (B32_pos k), Nat.mul_comm]
  exact Nat.mul_lt_mul_of_pos_left (Nat.mod_lt _ (B32_pos k)) (Nat.two_pow_pos s)
theorem shift_dig (a s k : Nat) : dig (a * 2 ^ s) k = (dig a k * 2 ^ s + sc32 a s k) % 4294967296 := by
  have h : a * 2 ^ s / B32 k = a / B32 k * 2 ^ s + sc32 a s k := by
    unfold sc32
    have h1 := Nat.div_add_mod a (B32 k)
    have e : a * 2 ^ s = B32 k * (a / B32 k * 2 ^ s) + a % B32 k * 2 ^ s := by rw [← Nat.mul_assoc, ← Nat.add_mul, h1]
    conv => lhs; rw [e]
    rw [Nat.mul_add_div (B32_pos k)]
  rw [dig_eq', h, dig_eq']
  conv => lhs; rw [Nat.add_mod, Nat.mul_mod]
  conv => rhs; rw [Nat.add_mod, Nat.mul_mod, Nat.mod_mod]
theorem sc32_succ (a s k : Nat) : sc32 a s (k + 1) = (dig a k * 2 ^ s + sc32 a s k) / 4294967296 := by
  have h : a % B32 (k + 1) * 2 ^ s / B32 k = dig a k * 2 ^ s + sc32 a s k := by
    unfold sc32
    rw [mod_step, Nat.add_mul, Nat.mul_right_comm, Nat.mul_comm _ (B32 k), Nat.mul_add_div (B32_pos k)]
  rw [← h, Nat.div_div_eq_div_mul, ← B32_succ']
  rfl
theorem sc32_last (a s k : Nat) (hs : s ≤ 32) : sc32 a s (k + 1) = dig a k * 2 ^ s / 4294967296 := by
  rw [sc32_succ]
  have e : 4294967296 = 2 ^ s * 2 ^ (32 - s) := by rw [← Nat.pow_add, show s + (32 - s) = 32 from by omega]
  have h := sc32_lt a s k
  rw [e, ← Nat.div_div_eq_div_mul, ← Nat.div_div_eq_div_mul, Nat.mul_comm, Nat.mul_add_div (Nat.two_pow_pos s), Nat.div_eq_of_lt h, Nat.add_zero, Nat.mul_div_cancel_left _ (Nat.two_pow_pos s)]
/-- The digit ahead of digit k. -/
def lastD (a k : Nat) : Nat := if k = 0 then 0 else dig a (k - 1)
theorem lastD_lt (a k : Nat) : lastD a k < 4294967296 := by
  unfold lastD
  split
  · decide
  · exact dig_lt' _ _
/-- As the program reckons it. -/
theorem moved_dig (a s k : Nat) (hs : s ≤ 32) : (dig a k * 4294967296 + lastD a k) * 2 ^ s % 18446744073709551616 / 4294967296 = dig (a * 2 ^ s) k := by
  rw [show 18446744073709551616 = 4294967296 * 4294967296 from rfl, Nat.mod_mul_right_div_self, shift_dig]
  congr 1
  rw [Nat.add_mul, Nat.mul_right_comm, Nat.mul_comm _ 4294967296, Nat.mul_add_div (by decide)]
  congr 1
  rcases k with _ | k
  · unfold lastD sc32
    rw [if_pos rfl, B32_zero, Nat.mod_one, Nat.zero_mul, Nat.zero_div]
  · rw [sc32_last a s k hs]
    rfl
theorem moved_top (a s : Nat) (hs : s ≤ 32) (ha : Fit a) : dig a 31 * 2 ^ s / 4294967296 = dig (a * 2 ^ s) 32 := by
  rw [shift_dig, dig_high (show a < B32 32 from ha), Nat.zero_mul, Nat.zero_add, sc32_last a s 31 hs]
  have h := sc32_lt a s 32
  rw [sc32_last a s 31 hs] at h
  have h2 : 2 ^ s ≤ 2 ^ 32 := Nat.pow_le_pow_right (by decide) hs
  rw [Nat.mod_eq_of_lt]
  have e : (2 : Nat) ^ 32 = 4294967296 := by decide
  omega
theorem moved_lt (a s : Nat) (hs : s ≤ 32) (ha : Fit a) : a * 2 ^ s < B32 33 := by
  have h2 : 2 ^ s ≤ B32 1 := Nat.pow_le_pow_right (by decide) (by omega)
  rw [show (33 : Nat) = 32 + 1 from rfl, B32_add]
  exact Nat.lt_of_lt_of_le (Nat.mul_lt_mul_of_pos_right ha (Nat.two_pow_pos s)) (Nat.mul_le_mul_left _ h2)
/-- A number moved to the right, its digits. -/
theorem back_dig (U s k : Nat) (hs : s < 32) : (dig U (k + 1) * 4294967296 + dig U k) / 2 ^ s % 4294967296 = dig (U / 2 ^ s) k := by
  have h1 : dig U (k + 1) * 4294967296 + dig U k = U / B32 k % 18446744073709551616 := by
    have h2 := div_step' U k
    have h3 := dig_lt' U k
    rw [dig_eq' U (k + 1)]
    generalize U / B32 (k + 1) = p at *
    generalize U / B32 k = q at *
    generalize dig U k = d at *
    omega
  rw [h1, dig_eq']
  have e : 18446744073709551616 = 2 ^ s * (4294967296 * 2 ^ (32 - s)) := by
    rw [Nat.mul_left_comm, ← Nat.pow_add, show s + (32 - s) = 32 from by omega]
  rw [e, Nat.mod_mul_right_div_self, Nat.mod_mul_right_mod, Nat.div_div_eq_div_mul, Nat.div_div_eq_div_mul, Nat.mul_comm]

/-! ### Where the division stands: k digits are left -/
def divU (A V k : Nat) : Nat := A % B32 k + A / B32 k % V * B32 k
def divQ (A V k : Nat) : Nat := A / B32 k / V * B32 k
/-- The rest with one digit more. -/
def divN (A V i : Nat) : Nat := A / B32 (i + 1) % V * 4294967296 + dig A i
theorem divU_high (A V i : Nat) : divU A V (i + 1) / B32 i = divN A V i ∧ divU A V (i + 1) % B32 i = A % B32 i := by
  unfold divU divN
  have e : A % B32 (i + 1) + A / B32 (i + 1) % V * B32 (i + 1) = B32 i * (A / B32 (i + 1) % V * 4294967296 + dig A i) + A % B32 i := by
    rw [mod_step]
    generalize A / B32 (i + 1) % V = q
    rw [B32_succ', Nat.mul_add, Nat.mul_comm (B32 i) (dig A i)]
    have : q * (B32 i * 4294967296) = B32 i * (q * 4294967296) := by simp only [Nat.mul_left_comm]
    omega
  rw [e]
  constructor
  · rw [Nat.mul_add_div (B32_pos i), Nat.div_eq_of_lt (Nat.mod_lt _ (B32_pos i)), Nat.add_zero]
  · rw [Nat.mul_add_mod, Nat.mod_mod]
theorem divN_split (A V i : Nat) : A / B32 i = V * (A / B32 (i + 1) / V * 4294967296) + divN A V i := by
  unfold divN
  have h1 := div_step' A i
  have h2 := Nat.div_add_mod (A / B32 (i + 1)) V
  rw [h1]
  generalize A / B32 (i + 1) = q at *
  rw [← Nat.mul_assoc]
  generalize V * (q / V) = p at *
  omega
theorem divN_lt {A V i : Nat} (hV : 0 < V) : divN A V i < V * 4294967296 := by
  unfold divN
  have h1 := Nat.mod_lt (A / B32 (i + 1)) hV
  have h2 := dig_lt' A i
  omega
theorem divN_digit {A V i : Nat} (hV : 0 < V) : divN A V i / V < 4294967296 := (Nat.div_lt_iff_lt_mul hV).2 (by have := divN_lt (A := A) (i := i) hV; rw [Nat.mul_comm]; exact this)
theorem divU_step {A V i : Nat} (hV : 0 < V) : divU A V i = divU A V (i + 1) % B32 i + divN A V i % V * B32 i := by
  rw [(divU_high A V i).2]
  unfold divU
  rw [divN_split A V i, Nat.mul_add_mod]
theorem divQ_step {A V i : Nat} (hV : 0 < V) : divQ A V i = setB (divQ A V (i + 1)) i (divN A V i / V) := by
  have h1 := setB_eq (divQ A V (i + 1)) i (divN A V i / V)
  have h2 : dig (divQ A V (i + 1)) i = 0 := by
    unfold divQ
    rw [dig_eq', B32_succ']
    have : A / (B32 i * 4294967296) / V * (B32 i * 4294967296) = B32 i * (A / (B32 i * 4294967296) / V * 4294967296) := by
      generalize A / (B32 i * 4294967296) / V = q
      simp only [Nat.mul_left_comm]
    rw [this, Nat.mul_div_cancel_left _ (B32_pos i), Nat.mul_mod_left]
  rw [h2, Nat.zero_mul, Nat.add_zero] at h1
  rw [h1]
  have h3 : A / B32 i / V = A / B32 (i + 1) / V * 4294967296 + divN A V i / V := by
    conv => lhs; rw [divN_split A V i]
    rw [Nat.mul_add_div hV]
  unfold divQ
  rw [h3, Nat.add_mul]
  generalize A / B32 (i + 1) / V = q
  generalize divN A V i / V = z
  have h4 : q * 4294967296 * B32 i = q * B32 (i + 1) := by
    rw [B32_succ']
    simp only [Nat.mul_assoc, Nat.mul_left_comm, Nat.mul_comm]
  rw [h4]
theorem divU_zero (A V : Nat) : divU A V 0 = A % V := by
  unfold divU
  rw [B32_zero, Nat.mod_one, Nat.div_one, Nat.mul_one, Nat.zero_add]
theorem divQ_zero (A V : Nat) : divQ A V 0 = A / V := by
  unfold divQ
  rw [B32_zero, Nat.div_one, Nat.mul_one]
theorem div_start {A V k : Nat} (h : A / B32 k < V) : divU A V k = A ∧ divQ A V k = 0 := by
  unfold divU divQ
  rw [Nat.mod_eq_of_lt h, Nat.div_eq_of_lt h, Nat.zero_mul]
  refine ⟨?_, rfl⟩
  have := Nat.div_add_mod A (B32 k)
  rw [Nat.mul_comm] at this
  omega

/-! ### The estimate -/
/-- R: the rest with one digit more, of n + 1 digits; V: the divisor, of n digits; both times the base over the base to the n - 1: two digits of V, three of R. -/
def top3 (R n : Nat) : Nat := R * 4294967296 / B32 n
theorem est_fits3 {R V n q : Nat} (h : q * V ≤ R) : q * top3 V n ≤ top3 R n := by
  unfold top3
  rw [Nat.le_div_iff_mul_le (B32_pos n)]
  have h1 : V * 4294967296 / B32 n * B32 n ≤ V * 4294967296 := Nat.div_mul_le_self _ _
  calc q * (V * 4294967296 / B32 n) * B32 n = q * (V * 4294967296 / B32 n * B32 n) := Nat.mul_assoc _ _ _
    _ ≤ q * (V * 4294967296) := Nat.mul_le_mul_left _ h1
    _ = q * V * 4294967296 := (Nat.mul_assoc _ _ _).symm
    _ ≤ R * 4294967296 := Nat.mul_le_mul_right _ h
/-- What does not fit the first digits is too great. -/
theorem est_too_great {R V n q : Nat} (hV : 0 < V) (h : top3 R n < q * top3 V n) : R / V < q := by
  rcases Nat.lt_or_ge (R / V) q with h1 | h1
  · exact h1
  · have h2 : q * V ≤ R := (Nat.le_div_iff_mul_le hV).1 h1
    have := est_fits3 (n := n) h2
    omega
/-- What fits the first digits is at most 1 too great. -/
theorem est_at_most {R V n q : Nat} (hV : 0 < V) (hq : q < 4294967296) (hV2 : 4294967296 ≤ top3 V n) (h : q * top3 V n ≤ top3 R n) : q ≤ R / V + 1 := by
  rcases Nat.lt_or_ge (R / V + 1) q with h1 | h1
  · exfalso
    obtain ⟨p, rfl⟩ : ∃ p, q = p + 1 := ⟨q - 1, by generalize R / V = z at *; omega⟩
    have h2 : R < p * V := (Nat.div_lt_iff_lt_mul hV).1 (by generalize R / V = z at *; omega)
    have h3 : V * 4294967296 < (top3 V n + 1) * B32 n := by
      unfold top3
      have := Nat.div_add_mod (V * 4294967296) (B32 n)
      have h4 := Nat.mod_lt (V * 4294967296) (B32_pos n)
      rw [Nat.add_mul, Nat.one_mul, Nat.mul_comm (_ / _)]
      omega
    have h5 : top3 R n * B32 n ≤ R * 4294967296 := Nat.div_mul_le_self _ _
    have h6 : (p + 1) * top3 V n * B32 n ≤ R * 4294967296 := Nat.le_trans (Nat.mul_le_mul_right _ h) h5
    have h7 : R * 4294967296 ≤ p * (V * 4294967296) := by
      rw [← Nat.mul_assoc]
      exact Nat.mul_le_mul_right _ (Nat.le_of_lt h2)
    have h8 : p * (V * 4294967296) ≤ p * ((top3 V n + 1) * B32 n) := Nat.mul_le_mul_left _ (Nat.le_of_lt h3)
    have h9 : (p + 1) * top3 V n * B32 n ≤ p * (top3 V n + 1) * B32 n := by
      rw [Nat.mul_assoc p]
      omega
    have h10 : (p + 1) * top3 V n ≤ p * (top3 V n + 1) := Nat.le_of_mul_le_mul_right h9 (B32_pos n)
    rw [Nat.add_mul, Nat.one_mul, Nat.mul_add, Nat.mul_one] at h10
    generalize p * top3 V n = z at *
    omega
  · exact h1

/-! ### A product subtracted -/
/-- Some digits of U, from number f on, exchanged for S's first i. -/
def mixD (U S f i : Nat) : Nat := U % B32 f + (S % B32 i + U / B32 (f + i) * B32 i) * B32 f
theorem mixD_dig (U S f i j : Nat) : dig (mixD U S f i) j = if j < f then dig U j else if j < f + i then dig S (j - f) else dig U j := by
  have hlow : mixD U S f i % B32 f = U % B32 f := by unfold mixD; rw [Nat.add_mul_mod_self_right, Nat.mod_mod]
  have hdiv : mixD U S f i / B32 f = S % B32 i + U / B32 (f + i) * B32 i := by
    unfold mixD
    rw [Nat.add_mul_div_right _ _ (B32_pos f), Nat.div_eq_of_lt (Nat.mod_lt _ (B32_pos f)), Nat.zero_add]
  by_cases h1 : j < f
  · rw [if_pos h1, ← dig_mod h1, hlow, dig_mod h1]
  · rw [if_neg h1]
    obtain ⟨m, rfl⟩ : ∃ m, j = f + m := ⟨j - f, by omega⟩
    have e : dig (mixD U S f i) (f + m) = dig (S % B32 i + U / B32 (f + i) * B32 i) m := by
      rw [dig_eq', B32_add, ← Nat.div_div_eq_div_mul, hdiv, ← dig_eq']
    rw [e]
    by_cases h2 : f + m < f + i
    · rw [if_pos h2, Nat.add_sub_cancel_left, ← dig_mod (n := _ + _) (show m < i by omega), Nat.add_mul_mod_self_right, Nat.mod_mod, dig_mod (by omega)]
    · rw [if_neg h2]
      obtain ⟨p, rfl⟩ : ∃ p, m = i + p := ⟨m - i, by omega⟩
      rw [dig_eq', B32_add i, ← Nat.div_div_eq_div_mul, Nat.add_mul_div_right _ _ (B32_pos i), Nat.div_eq_of_lt (Nat.mod_lt _ (B32_pos i)), Nat.zero_add, Nat.div_div_eq_div_mul, ← B32_add, ← dig_eq', Nat.add_assoc]
theorem digA_congr {N m n : Nat} (h : ∀ j, j < N → dig m j = dig n j) : digA N m = digA N n := by
  unfold digA digL
  congr 1
  exact List.map_congr_left fun i hi => by rw [h i (List.mem_range.1 hi)]
theorem DAt.congr {w : World} {B N m n : Nat} (h : DAt w B N m) (e : ∀ j, j < N → dig m j = dig n j) : DAt w B N n := by
  obtain ⟨T, h⟩ := h
  exact ⟨T, by rw [← digA_congr e]; exact h⟩
theorem mixD_zero (U S f j : Nat) : dig (mixD U S f 0) j = dig U j := by
  rw [mixD_dig]
  split
  · rfl
  · rw [if_neg (by omega)]
theorem mixD_set (U S f i j : Nat) : dig (setB (mixD U S f i) (f + i) (dig S i)) j = dig (mixD U S f (i + 1)) j := by
  by_cases e : j = f + i
  · subst e
    rw [setB_same (dig_lt' _ _), mixD_dig, if_neg (by omega), if_pos (by omega), Nat.add_sub_cancel_left]
  · rw [setB_other (dig_lt' _ _) e, mixD_dig, mixD_dig]
    split
    · rfl
    · by_cases h : j < f + i
      · rw [if_pos h, if_pos (by omega)]
      · rw [if_neg h, if_neg (by omega)]
/-- All exchanged. -/
theorem mixD_all {U S f i j : Nat} (hU : U < B32 (f + i)) (hS : S < B32 i) : dig (mixD U S f i) j = dig (U % B32 f + S * B32 f) j := by
  unfold mixD
  rw [Nat.mod_eq_of_lt hS, Nat.div_eq_of_lt hU, Nat.zero_mul, Nat.add_zero]

end Go.Proofs.Ytomiapceefbmeaa

set_option linter.unusedVariables false
set_option linter.unusedSimpArgs false
set_option maxRecDepth 20000
namespace Go.Proofs.Ytomiapceefbmeaa
open Go.RowKit

/-- Mul's number and error. -/
def mulN (a b : Nat) : Nat := if Fit (a * b) then a * b else 0
def mulE (a b : Nat) : Int := if Fit (a * b) then 0 else 7
theorem grown_trans {w w' w'' : World} {row : Option Nat} (h : w.grownBy w' row) (k : w'.grownBy w'' row) : w.grownBy w'' row :=
  ⟨k.os.trans h.os, k.tape.trans h.tape, k.output.trans h.output, Nat.le_trans h.size k.size, fun i hi hr => (k.block i (Nat.lt_of_lt_of_le hi h.size) hr).trans (h.block i hi hr)⟩
theorem grown_drewN {w w' : World} {row : Option Nat} (h : w.grownBy w' row) (m : Nat) : w.grownBy (w'.drewN m) row := ⟨h.os, h.tape, h.output, h.size, h.block⟩
theorem over_fit {P : Nat} (h : P < B32 64) : (∀ j, j < 32 → dig P (32 + j) = 0) ↔ Fit P := by
  constructor
  · intro h1
    have h2 : P / B32 32 = 0 := by
      refine ext_dig (a := P / B32 32) (b := 0) ?_ Fit.zero (fun i hi => ?_)
      · unfold Fit
        rw [Nat.div_lt_iff_lt_mul (B32_pos _), ← B32_add]
        exact h
      · have h3 := h1 i hi
        rw [dig_eq', B32_add, ← Nat.div_div_eq_div_mul, ← dig_eq'] at h3
        rw [h3, dig_high (B32_pos i)]
    exact (Nat.div_eq_zero_iff_lt (B32_pos 32)).1 h2
  · intro h1 j hj
    exact dig_high (lt_B32_of_le h1 (by omega))
theorem mul_low {a b i nb : Nat} (h : cnt b = nb) : a % B32 i * b < B32 (i + nb) := by
  have h1 := lt_cnt b
  rw [h] at h1
  rw [B32_add]
  rcases Nat.eq_zero_or_pos b with rfl | hb
  · rw [Nat.mul_zero]; exact Nat.mul_pos (B32_pos _) (B32_pos _)
  · exact Nat.mul_lt_mul'' (Nat.mod_lt _ (B32_pos _)) h1
theorem z64 : digA 64 0 = #[.int .u32 0, .int .u32 0, .int .u32 0, .int .u32 0, .int .u32 0, .int .u32 0, .int .u32 0, .int .u32 0, .int .u32 0, .int .u32 0, .int .u32 0, .int .u32 0, .int .u32 0, .int .u32 0, .int .u32 0, .int .u32 0, .int .u32 0, .int .u32 0, .int .u32 0, .int .u32 0, .int .u32 0, .int .u32 0, .int .u32 0, .int .u32 0, .int .u32 0, .int .u32 0, .int .u32 0, .int .u32 0, .int .u32 0, .int .u32 0, .int .u32 0, .int .u32 0, .int .u32 0, .int .u32 0, .int .u32 0, .int .u32 0, .int .u32 0, .int .u32 0, .int .u32 0, .int .u32 0, .int .u32 0, .int .u32 0, .int .u32 0, .int .u32 0, .int .u32 0, .int .u32 0, .int .u32 0, .int .u32 0, .int .u32 0, .int .u32 0, .int .u32 0, .int .u32 0, .int .u32 0, .int .u32 0, .int .u32 0, .int .u32 0, .int .u32 0, .int .u32 0, .int .u32 0, .int .u32 0, .int .u32 0, .int .u32 0, .int .u32 0, .int .u32 0] := by rw [digA_zero]; rfl

set_option maxHeartbeats 3200000 in
set_option maxRecDepth 100000 in
theorem mul_any (a b : Nat) (w : World) (ha : Fit a) (hb : Fit b) :
    Calls Try.prog 43 #[.agg (natA a), .agg (natA b)] w (RetN w.heap.size w (mulN a b) (mulE a b)) := by
  have HFa := Lib.hid ha
  have HFb := Lib.hid hb
  have hca := cnt_le ha
  have hcb := cnt_le hb
  clear ha hb
  have HA : Hid (NatAt (((w.alloc (.cells (natA a) 29)).alloc (.cells (natA b) 29)).alloc (.cells z0 29)) (w.heap.size) (a)) := Lib.hid (by
    have h := NatAt.new w (a) 29
    replace h := h.alloc (.cells (natA b) 29)
    replace h := h.alloc (.cells z0 29)
    simpa using h)
  have HB : Hid (NatAt (((w.alloc (.cells (natA a) 29)).alloc (.cells (natA b) 29)).alloc (.cells z0 29)) (w.heap.size + 1) (b)) := Lib.hid (by
    have h := NatAt.new (w.alloc (.cells (natA a) 29)) (b) 29
    replace h := h.alloc (.cells z0 29)
    simpa using h)
  have HR : Hid (NatAt (((w.alloc (.cells (natA a) 29)).alloc (.cells (natA b) 29)).alloc (.cells z0 29)) (w.heap.size + 1 + 1) (0)) := Lib.hid (by
    have h := NatAt.new ((w.alloc (.cells (natA a) 29)).alloc (.cells (natA b) 29)) (0) 29
    rw [natA_zero] at h
    simpa using h)
  have HW : Hid (Below w.heap.size w (((w.alloc (.cells (natA a) 29)).alloc (.cells (natA b) 29)).alloc (.cells z0 29))) := Lib.hid (by
    have h := Below.refl w.heap.size w
    replace h := h.alloc h.size (.cells (natA a) 29)
    replace h := h.alloc h.size (.cells (natA b) 29)
    replace h := h.alloc h.size (.cells z0 29)
    exact h)
  have HSZ : Hid (w.heap.size + 1 + 1 + 1 = (((w.alloc (.cells (natA a) 29)).alloc (.cells (natA b) 29)).alloc (.cells z0 29)).heap.size) := Lib.hid (by simp)
  have HD4 : Hid (DAt ((((w.alloc (.cells (natA a) 29)).alloc (.cells (natA b) 29)).alloc (.cells z0 29)).alloc (.cells #[.int .u32 0, .int .u32 0, .int .u32 0, .int .u32 0, .int .u32 0, .int .u32 0, .int .u32 0, .int .u32 0, .int .u32 0, .int .u32 0, .int .u32 0, .int .u32 0, .int .u32 0, .int .u32 0, .int .u32 0, .int .u32 0, .int .u32 0, .int .u32 0, .int .u32 0, .int .u32 0, .int .u32 0, .int .u32 0, .int .u32 0, .int .u32 0, .int .u32 0, .int .u32 0, .int .u32 0, .int .u32 0, .int .u32 0, .int .u32 0, .int .u32 0, .int .u32 0, .int .u32 0, .int .u32 0, .int .u32 0, .int .u32 0, .int .u32 0, .int .u32 0, .int .u32 0, .int .u32 0, .int .u32 0, .int .u32 0, .int .u32 0, .int .u32 0, .int .u32 0, .int .u32 0, .int .u32 0, .int .u32 0, .int .u32 0, .int .u32 0, .int .u32 0, .int .u32 0, .int .u32 0, .int .u32 0, .int .u32 0, .int .u32 0, .int .u32 0, .int .u32 0, .int .u32 0, .int .u32 0, .int .u32 0, .int .u32 0, .int .u32 0, .int .u32 0] 87)) (w.heap.size + 1 + 1 + 1) 64 0) := Lib.hid ⟨87, by rw [HSZ.out, z64]; exact heap_alloc_new _ _⟩
  have HA4 : Hid (NatAt ((((w.alloc (.cells (natA a) 29)).alloc (.cells (natA b) 29)).alloc (.cells z0 29)).alloc (.cells #[.int .u32 0, .int .u32 0, .int .u32 0, .int .u32 0, .int .u32 0, .int .u32 0, .int .u32 0, .int .u32 0, .int .u32 0, .int .u32 0, .int .u32 0, .int .u32 0, .int .u32 0, .int .u32 0, .int .u32 0, .int .u32 0, .int .u32 0, .int .u32 0, .int .u32 0, .int .u32 0, .int .u32 0, .int .u32 0, .int .u32 0, .int .u32 0, .int .u32 0, .int .u32 0, .int .u32 0, .int .u32 0, .int .u32 0, .int .u32 0, .int .u32 0, .int .u32 0, .int .u32 0, .int .u32 0, .int .u32 0, .int .u32 0, .int .u32 0, .int .u32 0, .int .u32 0, .int .u32 0, .int .u32 0, .int .u32 0, .int .u32 0, .int .u32 0, .int .u32 0, .int .u32 0, .int .u32 0, .int .u32 0, .int .u32 0, .int .u32 0, .int .u32 0, .int .u32 0, .int .u32 0, .int .u32 0, .int .u32 0, .int .u32 0, .int .u32 0, .int .u32 0, .int .u32 0, .int .u32 0, .int .u32 0, .int .u32 0, .int .u32 0, .int .u32 0] 87)) w.heap.size a) := Lib.hid (HA.out.alloc _)
  have HB4 : Hid (NatAt ((((w.alloc (.cells (natA a) 29)).alloc (.cells (natA b) 29)).alloc (.cells z0 29)).alloc (.cells #[.int .u32 0, .int .u32 0, .int .u32 0, .int .u32 0, .int .u32 0, .int .u32 0, .int .u32 0, .int .u32 0, .int .u32 0, .int .u32 0, .int .u32 0, .int .u32 0, .int .u32 0, .int .u32 0, .int .u32 0, .int .u32 0, .int .u32 0, .int .u32 0, .int .u32 0, .int .u32 0, .int .u32 0, .int .u32 0, .int .u32 0, .int .u32 0, .int .u32 0, .int .u32 0, .int .u32 0, .int .u32 0, .int .u32 0, .int .u32 0, .int .u32 0, .int .u32 0, .int .u32 0, .int .u32 0, .int .u32 0, .int .u32 0, .int .u32 0, .int .u32 0, .int .u32 0, .int .u32 0, .int .u32 0, .int .u32 0, .int .u32 0, .int .u32 0, .int .u32 0, .int .u32 0, .int .u32 0, .int .u32 0, .int .u32 0, .int .u32 0, .int .u32 0, .int .u32 0, .int .u32 0, .int .u32 0, .int .u32 0, .int .u32 0, .int .u32 0, .int .u32 0, .int .u32 0, .int .u32 0, .int .u32 0, .int .u32 0, .int .u32 0, .int .u32 0] 87)) (w.heap.size + 1) b) := Lib.hid (HB.out.alloc _)
  have HR4 : Hid (NatAt ((((w.alloc (.cells (natA a) 29)).alloc (.cells (natA b) 29)).alloc (.cells z0 29)).alloc (.cells #[.int .u32 0, .int .u32 0, .int .u32 0, .int .u32 0, .int .u32 0, .int .u32 0, .int .u32 0, .int .u32 0, .int .u32 0, .int .u32 0, .int .u32 0, .int .u32 0, .int .u32 0, .int .u32 0, .int .u32 0, .int .u32 0, .int .u32 0, .int .u32 0, .int .u32 0, .int .u32 0, .int .u32 0, .int .u32 0, .int .u32 0, .int .u32 0, .int .u32 0, .int .u32 0, .int .u32 0, .int .u32 0, .int .u32 0, .int .u32 0, .int .u32 0, .int .u32 0, .int .u32 0, .int .u32 0, .int .u32 0, .int .u32 0, .int .u32 0, .int .u32 0, .int .u32 0, .int .u32 0, .int .u32 0, .int .u32 0, .int .u32 0, .int .u32 0, .int .u32 0, .int .u32 0, .int .u32 0, .int .u32 0, .int .u32 0, .int .u32 0, .int .u32 0, .int .u32 0, .int .u32 0, .int .u32 0, .int .u32 0, .int .u32 0, .int .u32 0, .int .u32 0, .int .u32 0, .int .u32 0, .int .u32 0, .int .u32 0, .int .u32 0, .int .u32 0] 87)) (w.heap.size + 1 + 1) 0) := Lib.hid (HR.out.alloc _)
  have HW4 : Hid (Below w.heap.size w ((((w.alloc (.cells (natA a) 29)).alloc (.cells (natA b) 29)).alloc (.cells z0 29)).alloc (.cells #[.int .u32 0, .int .u32 0, .int .u32 0, .int .u32 0, .int .u32 0, .int .u32 0, .int .u32 0, .int .u32 0, .int .u32 0, .int .u32 0, .int .u32 0, .int .u32 0, .int .u32 0, .int .u32 0, .int .u32 0, .int .u32 0, .int .u32 0, .int .u32 0, .int .u32 0, .int .u32 0, .int .u32 0, .int .u32 0, .int .u32 0, .int .u32 0, .int .u32 0, .int .u32 0, .int .u32 0, .int .u32 0, .int .u32 0, .int .u32 0, .int .u32 0, .int .u32 0, .int .u32 0, .int .u32 0, .int .u32 0, .int .u32 0, .int .u32 0, .int .u32 0, .int .u32 0, .int .u32 0, .int .u32 0, .int .u32 0, .int .u32 0, .int .u32 0, .int .u32 0, .int .u32 0, .int .u32 0, .int .u32 0, .int .u32 0, .int .u32 0, .int .u32 0, .int .u32 0, .int .u32 0, .int .u32 0, .int .u32 0, .int .u32 0, .int .u32 0, .int .u32 0, .int .u32 0, .int .u32 0, .int .u32 0, .int .u32 0, .int .u32 0, .int .u32 0] 87))) := Lib.hid (HW.out.alloc (by rw [← HSZ.out]; omega) _)
  clear HA HB HR HW HSZ
  go_enter Try.func43, Try.ntmps43
  go_wp2_with fail
  generalize ((((w.alloc (.cells (natA a) 29)).alloc (.cells (natA b) 29)).alloc (.cells z0 29)).alloc (.cells #[.int .u32 0, .int .u32 0, .int .u32 0, .int .u32 0, .int .u32 0, .int .u32 0, .int .u32 0, .int .u32 0, .int .u32 0, .int .u32 0, .int .u32 0, .int .u32 0, .int .u32 0, .int .u32 0, .int .u32 0, .int .u32 0, .int .u32 0, .int .u32 0, .int .u32 0, .int .u32 0, .int .u32 0, .int .u32 0, .int .u32 0, .int .u32 0, .int .u32 0, .int .u32 0, .int .u32 0, .int .u32 0, .int .u32 0, .int .u32 0, .int .u32 0, .int .u32 0, .int .u32 0, .int .u32 0, .int .u32 0, .int .u32 0, .int .u32 0, .int .u32 0, .int .u32 0, .int .u32 0, .int .u32 0, .int .u32 0, .int .u32 0, .int .u32 0, .int .u32 0, .int .u32 0, .int .u32 0, .int .u32 0, .int .u32 0, .int .u32 0, .int .u32 0, .int .u32 0, .int .u32 0, .int .u32 0, .int .u32 0, .int .u32 0, .int .u32 0, .int .u32 0, .int .u32 0, .int .u32 0, .int .u32 0, .int .u32 0, .int .u32 0, .int .u32 0] 87)) = w4 at HD4 HA4 HB4 HR4 HW4 ⊢
  refine region_road Later [(0, true), (1, true), (3, true), (4, true), (2, false), (5, false), (6, true), (7, true)] (by kernel_rfl) (by kernel_rfl) (by kernel_rfl) (by kernel_rfl) (by kernel_rfl) (by kernel_rfl) later_refl later_trans (fun _ _ d _ _ h => by cases d <;> exact h) ?_
  refine seqR_at (o := ?_) ?_ ?_
  rotate_left
  · (conv => (lhs; whnf; arg 1; whnf))
  refine seqR_y (v := ?_) (by rfl) (fun W hW => ?_) ?_
  rotate_left
  · go_simp; try with_reducible rfl
  try simp only [Act.put, List.setIfInBounds_toArray, List.set_cons_zero, List.set_cons_succ]
  refine seqR_at (o := ?_) ?_ ?_
  rotate_left
  · (conv => (lhs; whnf; arg 1; whnf))
  refine seqR_y (v := ?_) (by rfl) (fun W hW => ?_) ?_
  rotate_left
  · (refine exec_ldN (x := .tmp 17) ntDigits ?_ ?_ (HA4.out.drew.below hW)) <;> rfl
  try simp only [Act.put, List.setIfInBounds_toArray, List.set_cons_zero, List.set_cons_succ]
  refine seqR_at (o := ?_) ?_ ?_
  rotate_left
  · (conv => (lhs; whnf; arg 1; whnf))
  refine seqR_y (v := ?_) (by rfl) (fun W hW => ?_) ?_
  rotate_left
  · go_simp; try with_reducible rfl
  try simp only [Act.put, List.setIfInBounds_toArray, List.set_cons_zero, List.set_cons_succ]
  refine seqR_at (o := ?_) ?_ ?_
  rotate_left
  · (conv => (lhs; whnf; arg 1; whnf))
  refine seqR_y (v := ?_) (by rfl) (fun W hW => ?_) ?_
  rotate_left
  · (refine exec_ldN (x := .tmp 20) ntDigits ?_ ?_ (HB4.out.drew.below hW)) <;> rfl
  try simp only [Act.put, List.setIfInBounds_toArray, List.set_cons_zero, List.set_cons_succ]
  refine seqR_at (o := ?_) ?_ ?_
  rotate_left
  · (conv => (lhs; whnf; arg 1; whnf))
  refine seqR_c (by rfl) (fun K hK => ?_)
  go_simp
  refine (count_any a _ HFa.out).mono ?_
  rintro e w5 ⟨rfl, hb5⟩
  have HB5 := Lib.hid hb5
  clear hb5
  refine hK _ _ HB5.out ?_
  try simp only [Act.put, List.setIfInBounds_toArray, List.set_cons_zero, List.set_cons_succ]
  refine seqR_at (o := ?_) ?_ ?_
  rotate_left
  · (conv => (lhs; whnf; arg 1; whnf))
  refine seqR_c (by rfl) (fun K hK => ?_)
  go_simp
  refine (count_any b _ HFb.out).mono ?_
  rintro e w6 ⟨rfl, hb6⟩
  have HB6 := Lib.hid hb6
  clear hb6
  refine hK _ _ HB6.out ?_
  try simp only [Act.put, List.setIfInBounds_toArray, List.set_cons_zero, List.set_cons_succ]
  refine seqR_at (o := ?_) ?_ ?_
  rotate_left
  · (conv => (lhs; whnf; arg 1; whnf))
  refine seqR_y (v := ?_) (by rfl) (fun W hW => ?_) ?_
  rotate_left
  · go_simp; try with_reducible rfl
  try simp only [Act.put, List.setIfInBounds_toArray, List.set_cons_zero, List.set_cons_succ]
  refine seqR_at (o := ?_) ?_ ?_
  rotate_left
  · (conv => (lhs; whnf; arg 1; whnf))
  refine seqR_y (v := ?_) (by rfl) (fun W hW => ?_) ?_
  rotate_left
  · go_simp; try with_reducible rfl
  try simp only [Act.put, List.setIfInBounds_toArray, List.set_cons_zero, List.set_cons_succ]
  refine seqR_end ?_
  have HD6 : Hid (DAt w6 (w.heap.size + 1 + 1 + 1) 64 0) := Lib.hid ((HD4.out.drew.below HB5.out).below HB6.out)
  have HA6 : Hid (NatAt w6 w.heap.size a) := Lib.hid ((HA4.out.drew.below HB5.out).below HB6.out)
  have HBb6 : Hid (NatAt w6 (w.heap.size + 1) b) := Lib.hid ((HB4.out.drew.below HB5.out).below HB6.out)
  have HR6 : Hid (NatAt w6 (w.heap.size + 1 + 1) 0) := Lib.hid ((HR4.out.drew.below HB5.out).below HB6.out)
  have HW6 : Hid (Below w.heap.size w w6) := Lib.hid ((HW4.out.drew.trans (Below.mono HB5.out HW4.out.size)).trans (Below.mono HB6.out (Nat.le_trans HW4.out.size HB5.out.size)))
  clear HD4 HA4 HB4 HR4 HW4 HB5 HB6
  generalize hna : cnt a = na at *
  generalize hnb : cnt b = nb at *
  have HNA := Lib.hid hna
  have HNB := Lib.hid hnb
  clear hna hnb
  go_wp2_with fail
  go_loopw [24] (fun i wr => ∃ k : Nat, k ≤ na ∧ i = .int .i64 (k : Int) ∧ DAt wr (w.heap.size + 1 + 1 + 1) 64 (a % B32 k * b) ∧ w6.grownBy wr (some (w.heap.size + 1 + 1 + 1))) (fun i _ => ((na : Int) - intOf i).toNat)
  case atStart => exact ⟨0, Nat.zero_le _, rfl, by rw [B32_zero, Nat.mod_one, Nat.zero_mul]; exact HD6.out, World.grownBy.refl _ _⟩
  case round =>
    obtain ⟨i, hi, rfl, hd, hg⟩ := hrel
    have HD := Lib.hid hd
    have HG := Lib.hid hg
    clear hd hg HD6
    by_cases hlt : i < na
    · have hii : (i : Int) < (na : Int) := by omega
      have HI := Lib.hid hlt
      clear hlt hi
      go_wp2_with fail
      go_loopw [10, 28] (fun y j wr => ∃ k M c : Nat, k ≤ nb ∧ j = .int .i64 (k : Int) ∧ y = .int .u64 (c : Int) ∧ MulB a b i k M c ∧ M < B32 (i + nb) ∧ DAt wr (w.heap.size + 1 + 1 + 1) 64 M ∧ w6.grownBy wr (some (w.heap.size + 1 + 1 + 1))) (fun _ j _ => ((nb : Int) - intOf j).toNat)
      case atStart => exact ⟨0, _, 0, Nat.zero_le _, rfl, rfl, MulB.start a b i, mul_low HNB.out, HD.out, HG.out⟩
      case round =>
        clear HD HG
        obtain ⟨k, M, c, hk, rfl, rfl, hM, hMl, hd, hg⟩ := hrel
        have HD := Lib.hid hd
        have HG := Lib.hid hg
        have HM := Lib.hid hM
        have HML := Lib.hid hMl
        have hc1 : (c : Int) < 4294967296 := by have := hM.2; omega
        have hc0 : (0 : Int) ≤ (c : Int) := by omega
        clear hd hg hM hMl
        by_cases hkl : k < nb
        · have hki : (k : Int) < (nb : Int) := by omega
          have HK := Lib.hid hkl
          have hp64 : i + k < 64 := by have := HI.out; omega
          obtain ⟨t, ht⟩ : ∃ t, t = dig M (i + k) + dig a i * dig b k + c := ⟨_, rfl⟩
          have HNX := Lib.hid (HM.out.next ht)
          have cM := HD.out.cell hp64
          have fM := fun n : Nat => (HD.out.drewN n).frozen (i + k)
          have cA := (HA6.out.grown HG.out (by simp <;> omega)).cell (show i < 32 by have := HI.out; omega)
          have cB := (HBb6.out.grown HG.out (by simp <;> omega)).cell (show k < 32 by have := HK.out; omega)
          obtain ⟨m, hm⟩ : ∃ m : Int, ((dig a i : Nat) : Int) * ((dig b k : Nat) : Int) = m := ⟨_, rfl⟩
          have d1 := dig_lt M (i + k)
          have d2 := dig_lt a i
          have d3 := dig_lt b k
          have hm0 : 0 ≤ m := by rw [← hm]; exact Int.mul_nonneg (by omega) (by omega)
          have hm1 : m ≤ 4294967295 * 4294967295 := by rw [← hm]; exact Int.mul_le_mul (by omega) (by omega) (by omega) (by omega)
          have htI : (t : Int) = m + ((dig M (i + k) : Nat) : Int) + (c : Int) := by
            rw [← hm, ht]
            simp
            omega
          have w1 : IntKind.u64.wrap ((dig a i : Nat) : Int) = ((dig a i : Nat) : Int) := by rw [IntKind.wrap_u64]; omega
          have w2 : IntKind.u64.wrap ((dig b k : Nat) : Int) = ((dig b k : Nat) : Int) := by rw [IntKind.wrap_u64]; omega
          have w3 : IntKind.u64.wrap ((dig M (i + k) : Nat) : Int) = ((dig M (i + k) : Nat) : Int) := by rw [IntKind.wrap_u64]; omega
          have w4 : IntKind.u64.wrap m = m := by rw [IntKind.wrap_u64]; omega
          have w5 : IntKind.u64.wrap (m + ((dig M (i + k) : Nat) : Int)) = m + ((dig M (i + k) : Nat) : Int) := by rw [IntKind.wrap_u64]; omega
          have w7 : IntKind.u64.wrap (m + ((dig M (i + k) : Nat) : Int) + (c : Int)) = (t : Int) := by rw [IntKind.wrap_u64, htI]; omega
          have w8 : IntKind.i64.wrap ((i : Int) + (k : Int)) = (i : Int) + (k : Int) := IntWalk.i64_in _ (by omega)
          have w9 : ((i : Int) + (k : Int)).toNat = i + k := by omega
          have w10 : 0 ≤ (i : Int) + (k : Int) := by omega
          have w11 : (i : Int) + (k : Int) < 64 := by omega
          have w12 : (i : Int) < 32 := by omega
          have w13 : (k : Int) < 32 := by omega
          have ht0 : 0 ≤ (t : Int) := by omega
          obtain ⟨c', hc'⟩ : ∃ c', c' = t / 4294967296 := ⟨_, rfl⟩
          obtain ⟨x', hx'⟩ : ∃ x', x' = t % 4294967296 := ⟨_, rfl⟩
          have HT : Hid ((t : Int) % 4294967296 = (x' : Int) ∧ (t : Int) / 4294967296 = (c' : Int) ∧ (t : Int) < 18446744073709551616) := Lib.hid (by have := HNX.out.2; omega)
          have hx'l : x' < 4294967296 := by omega
          rw [← hc', ← hx'] at HNX
          have HXL := Lib.hid hx'l
          clear hc' hx' hx'l
          clear ht htI d1 d2 d3
          generalize ((dig M (i + k) : Nat) : Int) = z at *
          generalize ((dig a i : Nat) : Int) = x at *
          generalize ((dig b k : Nat) : Int) = y at *
          go_wp2_with fail
          go_quiet (fail)
          clear w1 w2 w3 w4 w5 w7 w8 hm
          have h1 := HT.out.1
          have h2 := HT.out.2.1
          have h3 := HT.out.2.2
          go_wp2_with fail
          have hset := (HD.out.drewN nq).set (x := x') hp64 HXL.out (x' : Int) rfl
          have HSET := Lib.hid hset.1
          have HG2 := Lib.hid (grown_trans (grown_drewN HG.out nq) hset.2)
          go_roundw
          case rel => exact ⟨k + 1, _, _, by have := HK.out; omega, by go_num, rfl, HNX.out.1, setB_lt HXL.out (by have := HK.out; omega) HML.out, HSET.out, HG2.out⟩
          case measure => have := HK.out; simp [intOf]; omega
        · obtain rfl : k = nb := by omega
          have hp64 : i + k < 64 := by have := HI.out; omega
          have HDN := Lib.hid (HM.out.done (b := b) (by rw [← HNB.out]; exact lt_cnt b) HML.out)
          have hcn : c < 4294967296 := by omega
          have w8 : (i : Int) + (k : Int) < 64 := by omega
          have fM := HD.out.frozen (i + k)
          have cM := HD.out.cell hp64
          generalize ((dig M (i + k) : Nat) : Int) = z at *
          have HCN := Lib.hid hcn
          clear hcn
          go_wp2_with fail
          have hset := HD.out.set (x := c) hp64 HCN.out (c : Int) rfl
          rw [HDN.out] at hset
          have HSET := Lib.hid hset.1
          have HG2 := Lib.hid (grown_trans HG.out hset.2)
          go_roundw
          case rel => exact ⟨i + 1, by have := HI.out; omega, by go_num, HSET.out, HG2.out⟩
          case measure => have := HI.out; simp [intOf]; omega
    · have hP : Hid (a % B32 i * b = a * b) := Lib.hid (by
        have h1 := lt_cnt a
        rw [HNA.out] at h1
        rw [Nat.mod_eq_of_lt (lt_B32_of_le h1 (by omega))])
      have hP64 : Hid (a * b < B32 64) := Lib.hid (by
        have h1 := HFa.out
        have h2 := HFb.out
        unfold Fit at h1 h2
        rw [show (64 : Nat) = 32 + 32 from rfl, B32_add]
        rcases Nat.eq_zero_or_pos b with rfl | hb
        · rw [Nat.mul_zero]; exact Nat.mul_pos (B32_pos _) (B32_pos _)
        · exact Nat.mul_lt_mul'' h1 h2)
      have HD7 : Hid (DAt wr (w.heap.size + 1 + 1 + 1) 64 (a * b)) := Lib.hid (by rw [← hP.out]; exact HD.out)
      have HR7 : Hid (NatAt wr (w.heap.size + 1 + 1) 0) := Lib.hid (HR6.out.grown HG.out (by simp <;> omega))
      have HW7 : Hid (Below w.heap.size w wr) := Lib.hid (HW6.out.grown HG.out HW6.out.size (fun k e => by injection e with e; omega))
      clear HD HG HA6 HBb6 HR6 HW6 hP
      have HS7 : Hid (w.heap.size + 3 < wr.heap.size) := Lib.hid HD7.out.lt
      have HO8 : Hid (NatAt (wr.alloc (.cells z0 29)) wr.heap.size 0) := Lib.hid (by
        have h := NatAt.new wr 0 29
        rw [natA_zero] at h
        exact h)
      have HD8 : Hid (DAt (wr.alloc (.cells z0 29)) (w.heap.size + 1 + 1 + 1) 64 (a * b)) := Lib.hid (HD7.out.alloc _)
      have HR8 : Hid (NatAt (wr.alloc (.cells z0 29)) (w.heap.size + 1 + 1) 0) := Lib.hid (HR7.out.alloc _)
      have HW8 : Hid (Below w.heap.size w (wr.alloc (.cells z0 29))) := Lib.hid (HW7.out.alloc (by have := HS7.out; omega) _)
      clear HD7 HR7 HW7
      go_wp2_with fail
      generalize wr.alloc (.cells z0 29) = w8 at HO8 HD8 HR8 HW8 ⊢
      refine wp_region_still_tail 4 (by kernel_rfl) (by kernel_rfl) ?_
      simp only [List.take_succ_cons, List.take_zero, List.drop_succ_cons, List.drop_zero]
      repeat still_step
      try refine wpStill_nil ?_
      change wpList _ _ _ _ _ w8.drew
      obtain ⟨T8, hT8⟩ := HO8.out
      refine wpList_copy_splice rfl (.tmp 71) (.tmp 72) 88 88 rfl 24 Try.underlying88 (by kernel_rfl) (some ⟨wr.heap.size, 0, none⟩) (some ⟨w.heap.size + 1 + 1 + 1, 0, none⟩) 32 32 32 64 rfl rfl
        wr.heap.size 0 (digL 32 0) T8 hT8 (digL 32 (a * b)) (by rw [digL_length]; rfl) (fun _ => ⟨rfl, _, rfl, fun j v hv => ?_⟩) (by rw [digL_length, digL_length]; exact Nat.le_refl _) (digL_one _ _) wr.heap.size w8 ((Below.refl _ _).drew) (Nat.le_refl _) ?_
      · have hj : j < 32 := by
          have := (List.getElem?_eq_some_iff.1 hv).1
          rwa [digL_length] at this
        rw [digL_get 32 _ j hj] at hv
        injection hv with hv
        subst hv
        rw [add_lit', Nat.zero_add]
        exact HD8.out.drew.cell (show j < 64 by omega)
      intro w9 hw9 hb9
      have HO9 : Hid (NatAt w9 wr.heap.size (a * b)) := Lib.hid ⟨T8, by
        have h1 := hw9.out
        rw [h1]
        unfold splice
        rw [List.take_zero, List.nil_append, List.drop_of_length_le (by rw [digL_length, digL_length]; exact Nat.le_refl _), List.append_nil]
        rfl⟩
      have HD9 := Lib.hid (HD8.out.below' hb9 (by have := HS7.out; omega))
      have HR9 : Hid (NatAt w9 (w.heap.size + 1 + 1) 0) := Lib.hid (DAt.nat ((DAt.of_nat HR8.out).below' hb9 (by have := HS7.out; omega)))
      have HW9 : Hid (Below w.heap.size w w9) := Lib.hid (HW8.out.trans (hb9.mono (by have := HS7.out; omega)))
      clear hw9 hb9 HO8 HD8 HR8 HW8 hT8
      generalize wr.heap.size = Bo at *
      go_wp2_with fail
      go_loop [14, 76] (fun o i => ∃ k v : Nat, k ≤ 32 ∧ i = .int .i64 (k : Int) ∧ o = .int .u32 (v : Int) ∧ v < 4294967296 ∧ (v = 0 ↔ ∀ j, j < k → dig (a * b) (32 + j) = 0)) (fun _ i => (32 - intOf i).toNat)
      case atStart => exact ⟨0, 0, Nat.zero_le _, rfl, rfl, by decide, by simp⟩
      case round =>
        obtain ⟨k, v, hk, rfl, rfl, hv, hz⟩ := hrel
        have HV := Lib.hid hv
        have HZ := Lib.hid hz
        clear hv hz
        by_cases hkl : k < 32
        · have hki : (k : Int) < 32 := by omega
          have cD := HD9.out.cell (show 32 + k < 64 by omega)
          have hdl := dig_lt' (a * b) (32 + k)
          have HDL := Lib.hid hdl
          have HOR := Lib.hid (u32_or_nat v (dig (a * b) (32 + k)) HV.out hdl)
          have hor : v ||| dig (a * b) (32 + k) < 4294967296 := by rw [← p32] at *; exact Nat.or_lt_two_pow HV.out hdl
          have HORL := Lib.hid hor
          have HZ2 : Hid (v ||| dig (a * b) (32 + k) = 0 ↔ ∀ j, j < k + 1 → dig (a * b) (32 + j) = 0) := Lib.hid (by
            rw [Nat.or_eq_zero_iff, HZ.out]
            constructor
            · rintro ⟨h1, h2⟩ j hj
              by_cases e : j = k
              · subst e; exact h2
              · exact h1 j (by omega)
            · intro h
              exact ⟨fun j hj => h j (by omega), h k (by omega)⟩)
          clear hdl hor HZ
          generalize hD : dig (a * b) (32 + k) = D at *
          have HD := Lib.hid hD
          clear hD
          go_wp2_with fail
          go_round
          case rel => exact ⟨k + 1, v ||| D, by omega, by go_num, by rw [HOR.out], HORL.out, HZ2.out⟩
          case measure => simp [intOf]; omega
        · obtain rfl : k = 32 := by omega
          have HF : Hid (v = 0 ↔ Fit (a * b)) := Lib.hid (HZ.out.trans (over_fit hP64.out))
          clear HZ
          have hvn : Hid (mulN a b = (if (v : Int) = 0 then a * b else 0) ∧ mulE a b = if (v : Int) = 0 then 0 else 7) := Lib.hid (by
            unfold mulN mulE
            by_cases h : Fit (a * b)
            · have h0 : v = 0 := HF.out.2 h
              rw [if_pos h, if_pos h, if_pos (by omega), if_pos (by omega)]
              exact ⟨rfl, rfl⟩
            · have h0 : v ≠ 0 := fun h1 => h (HF.out.1 h1)
              rw [if_neg h, if_neg h, if_neg (by omega), if_neg (by omega)]
              exact ⟨rfl, rfl⟩)
          go_wp2_with (refine wpl_ldN ntNat rfl rfl rfl HO9.out ?_)
          refine (checked_any (a * b) (v : Int) 7 w9).mono ?_
          rintro e w10 ⟨rfl, hb10⟩
          rw [← hvn.out.1, ← hvn.out.2]
          have HR10 := Lib.hid (HR9.out.below hb10)
          have HW10 := Lib.hid (HW9.out.trans (hb10.mono HW9.out.size))
          clear hb10
          go_wp2_with (refine wpl_stN ntNat rfl rfl rfl rfl HR10.out ?_; intro w11 hn11 hg11; have HN11 := Lib.hid hn11; have HG11 := Lib.hid hg11; clear hn11 hg11)
          refine bodyPost_ret (results_nat rfl _ _ rfl HN11.out) rfl ?_
          exact ⟨rfl, HW10.out.grown HG11.out HW10.out.size (fun j e => by injection e with e; omega)⟩

end Go.Proofs.Ytomiapceefbmeaa

set_option linter.unusedVariables false
set_option linter.unusedSimpArgs false
set_option maxRecDepth 20000
namespace Go.Proofs.Ytomiapceefbmeaa
open Go.RowKit

/-- A type of N cells. -/
def DT (P : Program) (T : TypeId) (N : Nat) : Prop := ∃ d, P.underlying T = some d ∧ d.isRow = true ∧ (P.info? T).map (·.size) = some N
theorem dtWide : DT Try.prog 79 33 := ⟨_, Try.underlying79, rfl, by kernel_rfl⟩
theorem dtArr : DT Try.prog 25 32 := ⟨_, Try.underlying25, rfl, by kernel_rfl⟩
section
variable {P : Program} {w : World}
theorem wpl_ldD {ops : Array Oper} {rest : List Oper} {o : Oper} {a : Act} {Q : Exit → Act → World → Prop} {T : TypeId} {N : Nat} (hT : DT P T N) (hgd : o.guard = none) {x : Operand} (ho : o.op = .load T x)
    {B n : Nat} (hx : a.eval x = .pointer (some ⟨B, 0, none⟩)) (h : DAt w B N n) (hk : wpList P ops Q rest (a.put o.dst (.agg (digA N n))) w) : wpList P ops Q (o :: rest) a w := by
  obtain ⟨d, h1, h2, h3⟩ := hT
  exact wpList_load_mid hgd T x ho B 0 hx (digL N n) d h.range h1 h2 (by rw [digL_length]; exact h3) hk
theorem setCells_dig {B N n : Nat} (m : Nat) (h : DAt w B N n) : DAt (w.setCells B 0 (digL N m)) B N m ∧ w.grownBy (w.setCells B 0 (digL N m)) (some B) := by
  refine ⟨?_, grown_setCells B _ 0 w⟩
  obtain ⟨T, h⟩ := h
  exact ⟨T, setCells_whole h (by rw [digL_length, digA_size])⟩
theorem wpl_stD {ops : Array Oper} {rest : List Oper} {o : Oper} {a : Act} {Q : Exit → Act → World → Prop} {T : TypeId} {N : Nat} (hT : DT P T N) (hgd : o.guard = none) {x y : Operand} (ho : o.op = .store T x y)
    {B n m : Nat} (hx : a.eval x = .pointer (some ⟨B, 0, none⟩)) (hy : a.eval y = .agg (digA N m)) (h : DAt w B N n)
    (hk : ∀ w', DAt w' B N m → w.grownBy w' (some B) → wpList P ops Q rest (a.put o.dst undef) w') : wpList P ops Q (o :: rest) a w := by
  obtain ⟨d, h1, h2, h3⟩ := hT
  obtain ⟨g1, g2⟩ := setCells_dig m h
  refine wpList_store_mid hgd T x y ho B 0 (digA N m) hx hy (by rw [digA_size]; exact h.there) (by rw [digA_size]; exact h3) (all_oneCell_toArray (digL_one N m)) ?_
  exact hk _ g1 g2
theorem digLoad_run {T : TypeId} {N : Nat} (hT : DT P T N) {W : World} {B n : Nat} (h : DAt W B N n) : (Instr.loadAt T (.pointer (some ⟨B, 0, none⟩))).run P W = .ok (.agg (digA N n)) W := by
  obtain ⟨d, h1, h2, h3⟩ := hT
  exact run_loadAt_mid W B 0 T (digL N n) d h.range h1 h2 (by rw [digL_length]; exact h3)
end
theorem results_wide {fn : Func} {p : Tmp} (h : fn.results = #[.cell p 79]) (tmps : Array Value) (w : World) {B n : Nat} (hp : tmps.getD p undef = .pointer (some ⟨B, 0, none⟩)) (hn : DAt w B 33 n) :
    (results fn tmps).run Try.prog w = .ok (.agg (digA 33 n)) w := by
  obtain ⟨T, hT⟩ := hn
  exact results_cell_row h tmps w B T (digA 33 n) (0, 0) _ hp hT Try.underlying79 rfl (by rw [digA_size]; kernel_rfl)

theorem z33 : digA 33 0 = #[.int .u32 0, .int .u32 0, .int .u32 0, .int .u32 0, .int .u32 0, .int .u32 0, .int .u32 0, .int .u32 0, .int .u32 0, .int .u32 0, .int .u32 0, .int .u32 0, .int .u32 0, .int .u32 0, .int .u32 0, .int .u32 0, .int .u32 0, .int .u32 0, .int .u32 0, .int .u32 0, .int .u32 0, .int .u32 0, .int .u32 0, .int .u32 0, .int .u32 0, .int .u32 0, .int .u32 0, .int .u32 0, .int .u32 0, .int .u32 0, .int .u32 0, .int .u32 0, .int .u32 0] := by rw [digA_zero]; rfl
theorem index_dig (a k : Nat) (hk : k < 32) (W : World) : (Instr.index 25 (.agg (digA 32 a)) (.int .i64 (k : Int))).run Try.prog W = .ok (.int .u32 ((dig a k : Nat) : Int)) W := by
  have h1 := digA_get 32 a k hk
  have h2 : (k : Int) < 32 := by omega
  have h3 : (0 : Int) ≤ (k : Int) := by omega
  have h4 := Try.underlying25
  simp [Instr.index, run_underlying h4, go_sem, h1, h2, h3]
  intro h
  omega
theorem or_last (x y : Nat) (hx : x < 4294967296) (hy : y < 4294967296) : bits .or .u64 ((x : Int) * 4294967296) (y : Int) = ((x * 4294967296 + y : Nat) : Int) := by
  have h := or_join (y : Int) (x : Int) (by omega) (by omega) (by omega) (by omega)
  rw [h]
  omega

theorem setB_mod (A k : Nat) : setB (A % B32 k) k (dig A k) = A % B32 (k + 1) := by
  have h1 := setB_eq (A % B32 k) k (dig A k)
  rw [dig_high (Nat.mod_lt _ (B32_pos k)), Nat.zero_mul, Nat.add_zero] at h1
  rw [h1, mod_step, Nat.add_comm]
theorem lastD_succ (a k : Nat) : lastD a (k + 1) = dig a k := by unfold lastD; rw [if_neg (by omega), Nat.add_sub_cancel]
theorem cast_pow (N s : Nat) : (N : Int) * 2 ^ s = ((N * 2 ^ s : Nat) : Int) := by simp
theorem moved_val (a s k : Nat) (hs : s ≤ 32) : IntKind.u64.wrap (bits .or .u64 (((dig a k : Nat) : Int) * 4294967296) ((lastD a k : Nat) : Int) * 2 ^ s) / 4294967296 % 4294967296 = ((dig (a * 2 ^ s) k : Nat) : Int) := by
  rw [or_last _ _ (dig_lt' a k) (lastD_lt a k), cast_pow, IntKind.wrap_u64, ← moved_dig a s k hs]
  generalize (dig a k * 4294967296 + lastD a k) * 2 ^ s = q
  omega
theorem top_val (a s : Nat) (hs : s ≤ 32) (ha : Fit a) : IntKind.u64.wrap (((lastD a 32 : Nat) : Int) * 2 ^ s) / 4294967296 % 4294967296 = ((dig (a * 2 ^ s) 32 : Nat) : Int) := by
  have h := moved_top a s hs ha
  have h2 := dig_lt' (a * 2 ^ s) 32
  have e : lastD a 32 = dig a 31 := lastD_succ a 31
  have h3 : dig a 31 * 2 ^ s < 18446744073709551616 := by
    have h4 : 2 ^ s ≤ 4294967296 := Nat.pow_le_pow_right (n := 2) (by decide) hs
    have h5 : dig a 31 * 2 ^ s ≤ 4294967295 * 4294967296 := Nat.mul_le_mul (by have := dig_lt' a 31; omega) h4
    omega
  rw [cast_pow, IntKind.wrap_u64, e, ← h]
  rw [← h] at h2
  generalize dig a 31 * 2 ^ s = q at *
  omega

set_option maxHeartbeats 3200000 in
theorem moved_any (a s : Nat) (w : World) (ha : Fit a) (hs : s < 32) :
    Calls Try.prog 54 #[.agg (natA a), .int .i64 (s : Int)] w fun e w' => e = .returned (.agg (digA 33 (a * 2 ^ s))) ∧ Below w.heap.size w w' := by
  have HF := Lib.hid ha
  have hsi : (s : Int) < 32 := by omega
  have hs0 : 0 ≤ (s : Int) := by omega
  have HS := Lib.hid hs
  have HA : Hid (NatAt ((w.alloc (.cells (natA a) 29)).alloc (.cells #[.int .u32 0, .int .u32 0, .int .u32 0, .int .u32 0, .int .u32 0, .int .u32 0, .int .u32 0, .int .u32 0, .int .u32 0, .int .u32 0, .int .u32 0, .int .u32 0, .int .u32 0, .int .u32 0, .int .u32 0, .int .u32 0, .int .u32 0, .int .u32 0, .int .u32 0, .int .u32 0, .int .u32 0, .int .u32 0, .int .u32 0, .int .u32 0, .int .u32 0, .int .u32 0, .int .u32 0, .int .u32 0, .int .u32 0, .int .u32 0, .int .u32 0, .int .u32 0, .int .u32 0] 79)) w.heap.size a) := Lib.hid ((NatAt.new w a 29).alloc _)
  have HO : Hid (DAt ((w.alloc (.cells (natA a) 29)).alloc (.cells #[.int .u32 0, .int .u32 0, .int .u32 0, .int .u32 0, .int .u32 0, .int .u32 0, .int .u32 0, .int .u32 0, .int .u32 0, .int .u32 0, .int .u32 0, .int .u32 0, .int .u32 0, .int .u32 0, .int .u32 0, .int .u32 0, .int .u32 0, .int .u32 0, .int .u32 0, .int .u32 0, .int .u32 0, .int .u32 0, .int .u32 0, .int .u32 0, .int .u32 0, .int .u32 0, .int .u32 0, .int .u32 0, .int .u32 0, .int .u32 0, .int .u32 0, .int .u32 0, .int .u32 0] 79)) (w.heap.size + 1) 33 0) := Lib.hid ⟨79, by
    rw [z33]
    have h1 := heap_alloc_new (w.alloc (.cells (natA a) 29)) (.cells #[.int .u32 0, .int .u32 0, .int .u32 0, .int .u32 0, .int .u32 0, .int .u32 0, .int .u32 0, .int .u32 0, .int .u32 0, .int .u32 0, .int .u32 0, .int .u32 0, .int .u32 0, .int .u32 0, .int .u32 0, .int .u32 0, .int .u32 0, .int .u32 0, .int .u32 0, .int .u32 0, .int .u32 0, .int .u32 0, .int .u32 0, .int .u32 0, .int .u32 0, .int .u32 0, .int .u32 0, .int .u32 0, .int .u32 0, .int .u32 0, .int .u32 0, .int .u32 0, .int .u32 0] 79)
    rw [World.size_alloc] at h1
    exact h1⟩
  have HW : Hid (Below w.heap.size w ((w.alloc (.cells (natA a) 29)).alloc (.cells #[.int .u32 0, .int .u32 0, .int .u32 0, .int .u32 0, .int .u32 0, .int .u32 0, .int .u32 0, .int .u32 0, .int .u32 0, .int .u32 0, .int .u32 0, .int .u32 0, .int .u32 0, .int .u32 0, .int .u32 0, .int .u32 0, .int .u32 0, .int .u32 0, .int .u32 0, .int .u32 0, .int .u32 0, .int .u32 0, .int .u32 0, .int .u32 0, .int .u32 0, .int .u32 0, .int .u32 0, .int .u32 0, .int .u32 0, .int .u32 0, .int .u32 0, .int .u32 0, .int .u32 0] 79))) := Lib.hid (((Below.refl _ _).alloc (Nat.le_refl _) _).alloc (by simp) _)
  clear ha hs
  go_enter Try.func54, Try.ntmps54
  go_wp2_with (refine wpl_ldD dtArr rfl rfl rfl (DAt.of_nat HA.out) ?_)
  generalize ((w.alloc (.cells (natA a) 29)).alloc (.cells #[.int .u32 0, .int .u32 0, .int .u32 0, .int .u32 0, .int .u32 0, .int .u32 0, .int .u32 0, .int .u32 0, .int .u32 0, .int .u32 0, .int .u32 0, .int .u32 0, .int .u32 0, .int .u32 0, .int .u32 0, .int .u32 0, .int .u32 0, .int .u32 0, .int .u32 0, .int .u32 0, .int .u32 0, .int .u32 0, .int .u32 0, .int .u32 0, .int .u32 0, .int .u32 0, .int .u32 0, .int .u32 0, .int .u32 0, .int .u32 0, .int .u32 0, .int .u32 0, .int .u32 0] 79)) = w1 at HA HO HW ⊢
  have HL0 : Hid (lastD a 0 = 0) := Lib.hid rfl
  go_loopw [5, 11] (fun l c wr => ∃ k : Nat, k ≤ 32 ∧ c = .int .i64 (k : Int) ∧ l = .int .u32 ((lastD a k : Nat) : Int) ∧ DAt wr (w.heap.size + 1) 33 (a * 2 ^ s % B32 k) ∧ w1.grownBy wr (some (w.heap.size + 1))) (fun _ c _ => (32 - intOf c).toNat)
  case atStart => exact ⟨0, Nat.zero_le _, rfl, by rw [HL0.out]; rfl, by rw [B32_zero, Nat.mod_one]; exact HO.out, World.grownBy.refl _ _⟩
  case round =>
    clear HL0 HO
    obtain ⟨k, hk, rfl, rfl, hd, hg⟩ := hrel
    have HD := Lib.hid hd
    have HG := Lib.hid hg
    clear hd hg
    by_cases hkl : k < 32
    · have hki : (k : Int) < 32 := by omega
      have hix := index_dig a k hkl
      have HK := Lib.hid hkl
      have fM := HD.out.frozen k
      have cM := HD.out.cell (show k < 33 by omega)
      have hx := dig_lt' a k
      have hl := lastD_lt a k
      have HV := Lib.hid (moved_val a s k (Nat.le_of_lt HS.out))
      have hxi : ((dig a k : Nat) : Int) < 4294967296 := by omega
      have hli : ((lastD a k : Nat) : Int) < 4294967296 := by omega
      have hx0 : 0 ≤ ((dig a k : Nat) : Int) := by omega
      have hl0 : 0 ≤ ((lastD a k : Nat) : Int) := by omega
      have HLN : Hid (lastD a (k + 1) = dig a k) := Lib.hid rfl
      generalize ((dig (a * 2 ^ s % B32 k) k : Nat) : Int) = z at cM
      clear hx hl hkl
      obtain ⟨x, hxe⟩ : ∃ x : Int, x = ((dig a k : Nat) : Int) := ⟨_, rfl⟩
      rw [← hxe] at hix HV hxi hx0
      have HXE := Lib.hid hxe
      clear hxe
      generalize ((lastD a k : Nat) : Int) = l at *
      go_wp2_with fail
      have hset := HD.out.set (x := dig (a * 2 ^ s) k) (show k < 33 by have := HK.out; omega) (dig_lt' _ _) _ HV.out
      rw [setB_mod] at hset
      have HSET := Lib.hid hset.1
      have HG2 := Lib.hid (grown_trans HG.out hset.2)
      clear hset
      go_roundw
      case rel => exact ⟨k + 1, by have := HK.out; omega, by go_num, by rw [HLN.out]; exact HXE.out ▸ rfl, HSET.out, HG2.out⟩
      case measure => simp [intOf]; omega
    · obtain rfl : k = 32 := by omega
      have HV := Lib.hid (top_val a s (Nat.le_of_lt HS.out) HF.out)
      have fM := HD.out.frozen 32
      have cM := HD.out.cell (show 32 < 33 by omega)
      have hl := lastD_lt a 32
      have hli : ((lastD a 32 : Nat) : Int) < 4294967296 := by omega
      have hl0 : 0 ≤ ((lastD a 32 : Nat) : Int) := by omega
      generalize ((dig (a * 2 ^ s % B32 32) 32 : Nat) : Int) = z at cM
      clear hl
      generalize ((lastD a 32 : Nat) : Int) = l at *
      have hset := HD.out.set (x := dig (a * 2 ^ s) 32) (show 32 < 33 by omega) (dig_lt' _ _) _ HV.out
      rw [setB_mod, Nat.mod_eq_of_lt (moved_lt a s (Nat.le_of_lt HS.out) HF.out)] at hset
      have HSET := Lib.hid hset.1
      have HG2 := Lib.hid (grown_trans HG.out hset.2)
      clear hset
      go_wp2_with (first | (refine wpl_ldD dtWide rfl rfl rfl HSET.out ?_) | (refine wpl_stD dtWide rfl rfl rfl rfl HSET.out ?_; intro w9 hn9 hg9; have HN9 := Lib.hid hn9; have HG9 := Lib.hid hg9; clear hn9 hg9))
      refine bodyPost_ret (results_wide rfl _ _ rfl HN9.out) rfl ?_
      exact ⟨rfl, (HW.out.grown HG2.out HW.out.size (fun j e => by injection e with e; omega)).grown HG9.out (Nat.le_trans HW.out.size HG2.out.size) (fun j e => by injection e with e; omega)⟩

end Go.Proofs.Ytomiapceefbmeaa
