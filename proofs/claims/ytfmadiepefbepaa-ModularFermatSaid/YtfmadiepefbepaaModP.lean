/- Plain: Fermat's little theorem; the inverse by Euclid. No program here but in the import. -/
import Derived.Test.YtfmadiepefbepaaModL4
set_option linter.unusedVariables false
namespace Go.Proofs.Ytfmadiepefbepaa
theorem IsP.coprime {p k : Nat} (h : IsP p) (h0 : 0 < k) (hk : k < p) : Nat.Coprime p k := by
  obtain ⟨c, hc⟩ := Nat.gcd_dvd_left p k
  have hle : Nat.gcd p k ≤ k := Nat.le_of_dvd h0 (Nat.gcd_dvd_right p k)
  have hpos : 0 < Nat.gcd p k := Nat.gcd_pos_of_pos_right _ h0
  unfold Nat.Coprime
  generalize Nat.gcd p k = g at *
  rcases Nat.lt_or_ge g 2 with h1 | h1
  · omega
  · have := prime_dvd h h1 (by rw [Nat.mul_comm]; exact hc.symm)
    omega

/-- Binomial coefficients. -/
def ch : Nat → Nat → Nat
  | _, 0 => 1
  | 0, _ + 1 => 0
  | n + 1, k + 1 => ch n k + ch n (k + 1)
theorem ch_zero (n : Nat) : ch n 0 = 1 := by cases n <;> rfl
theorem ch_succ (n k : Nat) : ch (n + 1) (k + 1) = ch n k + ch n (k + 1) := rfl
theorem ch_lt : ∀ (n k : Nat), n < k → ch n k = 0
  | _, 0, h => by omega
  | 0, _ + 1, _ => rfl
  | n + 1, k + 1, h => by rw [ch_succ, ch_lt n k (by omega), ch_lt n (k + 1) (by omega)]
theorem ch_self : ∀ n, ch n n = 1
  | 0 => rfl
  | n + 1 => by rw [ch_succ, ch_self n, ch_lt n (n + 1) (by omega)]
theorem ch_mul : ∀ (n k : Nat), (k + 1) * ch (n + 1) (k + 1) = (n + 1) * ch n k
  | 0, 0 => rfl
  | 0, k + 1 => by
    have h1 : ch 1 (k + 2) = 0 := ch_lt _ _ (by omega)
    have h2 : ch 0 (k + 1) = 0 := rfl
    rw [h1, h2]
    simp
  | n + 1, 0 => by
    have h := ch_mul n 0
    have h3 := ch_succ n 0
    have h4 := ch_succ (n + 1) 0
    rw [ch_zero] at h h3 h4
    rw [ch_zero, h4]
    grind
  | n + 1, k + 1 => by
    have h1 := ch_mul n k
    have h2 := ch_mul n (k + 1)
    have h3 := ch_succ n k
    have h4 := ch_succ (n + 1) (k + 1)
    rw [h4]
    grind
/-- A polynomial's value. -/
def pv (f : Nat → Nat) (a : Nat) : Nat → Nat
  | 0 => f 0
  | k + 1 => pv f a k + f (k + 1) * a ^ (k + 1)
theorem pv_step (n a : Nat) : ∀ k, pv (ch (n + 1)) a (k + 1) = pv (ch n) a (k + 1) + a * pv (ch n) a k
  | 0 => by simp only [pv, ch_zero, ch_succ]; grind
  | k + 1 => by
    have h := pv_step n a k
    rw [show pv (ch (n + 1)) a (k + 1 + 1) = pv (ch (n + 1)) a (k + 1) + ch (n + 1) (k + 1 + 1) * a ^ (k + 1 + 1) from rfl, h, ch_succ]
    rw [show pv (ch n) a (k + 1 + 1) = pv (ch n) a (k + 1) + ch n (k + 1 + 1) * a ^ (k + 1 + 1) from rfl]
    rw [show pv (ch n) a (k + 1) = pv (ch n) a k + ch n (k + 1) * a ^ (k + 1) from rfl]
    rw [Nat.pow_succ a (k + 1)]
    grind
theorem pv_pow (a : Nat) : ∀ n, pv (ch n) a n = (a + 1) ^ n
  | 0 => rfl
  | n + 1 => by
    rw [pv_step, show pv (ch n) a (n + 1) = pv (ch n) a n + ch n (n + 1) * a ^ (n + 1) from rfl, ch_lt n (n + 1) (by omega), pv_pow a n, Nat.pow_succ]
    grind
theorem pv_mod {p : Nat} (h : IsP p) (a : Nat) : ∀ k, k < p → pv (ch p) a k % p = 1
  | 0, _ => by
    show ch p 0 % p = 1
    rw [ch_zero]
    exact Nat.mod_eq_of_lt (by have := h.1; omega)
  | k + 1, hk => by
    have ih := pv_mod h a k (by omega)
    obtain ⟨n, rfl⟩ : ∃ n, p = n + 1 := ⟨p - 1, by omega⟩
    have h1 : n + 1 ∣ ch (n + 1) (k + 1) * (k + 1) := ⟨ch n k, by rw [← ch_mul, Nat.mul_comm]⟩
    have h2 : n + 1 ∣ ch (n + 1) (k + 1) := (h.coprime (Nat.succ_pos k) hk).dvd_of_dvd_mul_right h1
    obtain ⟨c, hc⟩ := h2
    show (pv (ch (n + 1)) a k + ch (n + 1) (k + 1) * a ^ (k + 1)) % (n + 1) = 1
    rw [hc, Nat.mul_assoc, Nat.add_mul_mod_self_left, ih]
/-- Fermat's little theorem. -/
theorem fermat {p : Nat} (h : IsP p) : ∀ a, a ^ p % p = a % p
  | 0 => by rw [Nat.zero_pow (by have := h.1; omega)]
  | a + 1 => by
    obtain ⟨n, hn⟩ : ∃ n, p = n + 1 := ⟨p - 1, by have := h.1; omega⟩
    have h1 := pv_mod h a n (by omega)
    have h2 := pv_pow a p
    have h3 : pv (ch p) a p = pv (ch p) a n + a ^ p := by
      rw [hn]
      show pv (ch (n + 1)) a n + ch (n + 1) (n + 1) * a ^ (n + 1) = _
      rw [ch_self, Nat.one_mul]
    rw [← h2, h3, Nat.add_mod, h1, fermat h a, Nat.add_comm 1, Nat.mod_add_mod]

/-- X is congruent to the product, modulo m: as integers. -/
def Cg (m a r x : Nat) : Prop := ∃ t : Int, (a : Int) * x = r + m * t
theorem cg_next {m a r s x y : Nat} (hm : 0 < m) (hx : Cg m a r x) (hy : Cg m a s y) : Cg m a (r % s) ((x + m - (r / s % m) * y % m) % m) := by
  obtain ⟨t, ht⟩ := hx
  obtain ⟨u, hu⟩ := hy
  have hlt : (r / s % m) * y % m < m := Nat.mod_lt _ hm
  obtain ⟨z, hz⟩ : ∃ z, (r / s % m) * y % m = z := ⟨_, rfl⟩
  rw [hz] at hlt ⊢
  have e1 : (r / s % m) * y = m * ((r / s % m) * y / m) + z := by rw [← hz]; exact (Nat.div_add_mod _ _).symm
  have e2 : r / s = m * (r / s / m) + r / s % m := (Nat.div_add_mod _ _).symm
  have e3 : x + m - z = m * ((x + m - z) / m) + (x + m - z) % m := (Nat.div_add_mod _ _).symm
  have e4 : r = s * (r / s) + r % s := (Nat.div_add_mod _ _).symm
  generalize r / s % m = q at *
  generalize r / s / m = q2 at *
  generalize r / s = q3 at *
  generalize q * y / m = c1 at *
  generalize (x + m - z) % m = v at *
  generalize (x + m - z) / m = c2 at *
  generalize r % s = r' at *
  have f1 : (q : Int) * y = m * c1 + z := by exact_mod_cast e1
  have f2 : (q3 : Int) = m * q2 + q := by exact_mod_cast e2
  have f3 : (x : Int) + m - z = m * c2 + v := by omega
  have f4 : (r : Int) = s * q3 + r' := by exact_mod_cast e4
  refine ⟨t + a * (1 - c2 + c1) - q * u + s * q2, ?_⟩
  grind
theorem invF_spec {m a : Nat} (hm : 0 < m) : ∀ (f r s x y : Nat), s ≤ f → Cg m a r x → Cg m a s y → (invF m f r s x y).1 = Nat.gcd r s ∧ Cg m a (invF m f r s x y).1 (invF m f r s x y).2
  | 0, r, s, x, y, hs, hx, hy => by
    obtain rfl : s = 0 := by omega
    rw [invF_zero]
    exact ⟨(Nat.gcd_zero_right _).symm, hx⟩
  | f + 1, r, s, x, y, hs, hx, hy => by
    by_cases h : s = 0
    · subst h
      rw [invF_zero]
      exact ⟨(Nat.gcd_zero_right _).symm, hx⟩
    · rw [invF_step h]
      have hlt := Nat.mod_lt r (Nat.pos_of_ne_zero h)
      obtain ⟨h1, h2⟩ := invF_spec hm f s (r % s) y _ (by omega) hy (cg_next hm hx hy)
      exact ⟨by rw [h1, Nat.gcd_comm r s, Nat.gcd_rec s r, Nat.gcd_comm], h2⟩
theorem cg_mod {m a r x : Nat} (h : Cg m a r x) : a * x % m = r % m := by
  obtain ⟨t, ht⟩ := h
  have h1 : ((a * x : Nat) : Int) % m = (r : Int) % m := by
    rw [Int.natCast_mul, ht, Int.add_mul_emod_self_left]
  exact_mod_cast h1
theorem invS_spec {m a : Nat} (hm : 0 < m) : (invS m a).1 = Nat.gcd a m ∧ a * (invS m a).2 % m = (invS m a).1 % m := by
  have hx : Cg m a m 0 := ⟨-1, by simp; omega⟩
  have hy : Cg m a (a % m) (1 % m) := by
    have e1 : a = m * (a / m) + a % m := (Nat.div_add_mod _ _).symm
    have e2 : 1 = m * (1 / m) + 1 % m := (Nat.div_add_mod _ _).symm
    generalize a % m = b at *
    generalize a / m = c at *
    generalize 1 % m = d at *
    generalize 1 / m = e at *
    have f1 : (a : Int) = m * c + b := by exact_mod_cast e1
    have f2 : (1 : Int) = m * e + d := by exact_mod_cast e2
    refine ⟨c - a * e, ?_⟩
    grind
  obtain ⟨h1, h2⟩ := invF_spec hm (a % m) m (a % m) 0 (1 % m) (Nat.le_refl _) hx hy
  refine ⟨?_, cg_mod h2⟩
  show (invF m (a % m) m (a % m) 0 (1 % m)).1 = _
  rw [h1, Nat.gcd_comm m, ← Nat.gcd_rec, Nat.gcd_comm]

/-- Does none of 2^d numbers from lo on divide n? -/
def noDiv (n : Nat) : Nat → Nat → Bool
  | 0, lo => n % lo != 0
  | d + 1, lo => noDiv n d lo && noDiv n d (lo + 2 ^ d)
theorem noDiv_spec (n : Nat) : ∀ (d lo : Nat), noDiv n d lo = true → ∀ k, lo ≤ k → k < lo + 2 ^ d → n % k ≠ 0
  | 0, lo, h, k, h1, h2 => by
    have : k = lo := by simp at h2; omega
    subst this
    simpa [noDiv] using h
  | d + 1, lo, h, k, h1, h2 => by
    unfold noDiv at h
    rw [Bool.and_eq_true] at h
    rcases Nat.lt_or_ge k (lo + 2 ^ d) with h3 | h3
    · exact noDiv_spec n d lo h.1 k h1 h3
    · exact noDiv_spec n d (lo + 2 ^ d) h.2 k h3 (by rw [Nat.pow_succ] at h2; omega)
theorem isP_of {n d : Nat} (h2 : 2 ≤ n) (h : noDiv n d 2 = true) (hd : n < (2 + 2 ^ d) * (2 + 2 ^ d)) : IsP n := by
  refine ⟨h2, fun k hk hkk => noDiv_spec n d 2 h k hk ?_⟩
  rcases Nat.lt_or_ge k (2 + 2 ^ d) with h1 | h1
  · exact h1
  · have := Nat.mul_le_mul h1 h1
    omega
theorem isP_2 : IsP 2 := ⟨by decide, fun d h2 hd => by have := Nat.mul_le_mul h2 h2; omega⟩
theorem isP_3 : IsP 3 := ⟨by decide, fun d h2 hd => by have := Nat.mul_le_mul h2 h2; omega⟩
theorem isP_2879' : IsP 2879 := isP_of (d := 6) (by decide) (by kernel_rfl) (by decide)
theorem isP_71850239 : IsP 71850239 := isP_of (d := 14) (by decide) (by kernel_rfl) (by decide)
theorem isP_2444789759 : IsP 2444789759 := isP_of (d := 16) (by decide) (by kernel_rfl) (by decide)
end Go.Proofs.Ytfmadiepefbepaa
