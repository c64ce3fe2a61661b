/- The distinguished encoding, in plain Lean: what the elements of values are. No program in sight. -/
namespace Go.Proofs.Yteepfeggkocakaa.Der

/-- Byte i of a number in two's complement, the least significant one first. -/
def byteAt (v : Int) (i : Nat) : UInt8 := UInt8.ofNat (v / 256 ^ i % 256).toNat

theorem byteAt_toNat (v : Int) (i : Nat) : ((byteAt v i).toNat : Int) = v / 256 ^ i % 256 := by
  have h0 : 0 ≤ v / 256 ^ i % 256 := Int.emod_nonneg _ (by decide)
  have h1 : v / 256 ^ i % 256 < 256 := Int.emod_lt_of_pos _ (by decide)
  unfold byteAt
  rw [UInt8.toNat_ofNat']
  omega

/-- A number in n bytes, the most significant one first. -/
def numB (v : Int) : Nat → List UInt8
  | 0 => []
  | n + 1 => byteAt v n :: numB v n

theorem numB_length (v : Int) (n : Nat) : (numB v n).length = n := by
  induction n with
  | zero => rfl
  | succ n ih => simp [numB, ih]

theorem numB_get (v : Int) (n k : Nat) (hk : k < n) : (numB v n)[k]? = some (byteAt v (n - 1 - k)) := by
  induction n generalizing k with
  | zero => omega
  | succ n ih =>
    cases k with
    | zero => simp [numB]
    | succ k =>
      simp only [numB, List.getElem?_cons_succ]
      rw [ih k (by omega)]
      congr 2
      omega

theorem numB_getElem (v : Int) (n k : Nat) (hk : k < (numB v n).length) : (numB v n)[k] = byteAt v (n - 1 - k) := by
  have h := numB_get v n k (by simpa [numB_length] using hk)
  rw [List.getElem?_eq_getElem hk] at h
  exact Option.some.inj h

/-- The number of bytes, as it is. -/
def ofB (acc : Int) : List UInt8 → Int
  | [] => acc
  | x :: xs => ofB (acc * 256 + (x.toNat : Int)) xs

theorem ofB_append (acc : Int) (xs ys : List UInt8) : ofB acc (xs ++ ys) = ofB (ofB acc xs) ys := by
  induction xs generalizing acc with
  | nil => rfl
  | cons x xs ih => simp [ofB, ih]

theorem ofB_bounds (xs : List UInt8) : ∀ acc : Int, 0 ≤ acc → 0 ≤ ofB acc xs ∧ ofB acc xs < (acc + 1) * 256 ^ xs.length := by
  induction xs with
  | nil => intro acc h; simp [ofB]; omega
  | cons x xs ih =>
    intro acc h
    have hx : (x.toNat : Int) < 256 := by have := x.toNat_lt; omega
    have h1 := ih (acc * 256 + (x.toNat : Int)) (by omega)
    refine ⟨h1.1, Int.lt_of_lt_of_le h1.2 ?_⟩
    rw [List.length_cons, Int.pow_succ, Int.mul_comm (256 ^ xs.length) 256, ← Int.mul_assoc]
    exact Int.mul_le_mul_of_nonneg_right (by omega) (Int.pow_nonneg (by decide))

/-- The sign with which bytes begin, in two's complement. -/
def sgn : List UInt8 → Int
  | [] => 0
  | x :: _ => if x.toNat < 128 then 0 else -1

theorem ofB_signed (xs : List UInt8) (h : xs ≠ []) : -(128 * 256 ^ (xs.length - 1)) ≤ ofB (sgn xs) xs ∧ ofB (sgn xs) xs < 128 * 256 ^ (xs.length - 1) := by
  rcases xs with _ | ⟨x, xs⟩
  · exact absurd rfl h
  · have gen : ∀ (ys : List UInt8) (acc : Int), acc * 256 ^ ys.length ≤ ofB acc ys ∧ ofB acc ys < (acc + 1) * 256 ^ ys.length := by
      intro ys
      induction ys with
      | nil => intro acc; simp [ofB]; omega
      | cons y ys ih =>
        intro acc
        have hy : (y.toNat : Int) < 256 := by have := y.toNat_lt; omega
        have h1 := ih (acc * 256 + (y.toNat : Int))
        have hp : (0 : Int) ≤ 256 ^ ys.length := Int.pow_nonneg (by decide)
        have e : (256 : Int) ^ (ys.length + 1) = 256 * 256 ^ ys.length := by rw [Int.pow_succ, Int.mul_comm]
        rw [List.length_cons, e, ← Int.mul_assoc, ← Int.mul_assoc]
        refine ⟨Int.le_trans ?_ h1.1, Int.lt_of_lt_of_le h1.2 ?_⟩
        · exact Int.mul_le_mul_of_nonneg_right (by omega) hp
        · exact Int.mul_le_mul_of_nonneg_right (by omega) hp
    have hx : (x.toNat : Int) < 256 := by have := x.toNat_lt; omega
    have h1 := gen xs ((sgn (x :: xs)) * 256 + (x.toNat : Int))
    have hp : (0 : Int) ≤ 256 ^ xs.length := Int.pow_nonneg (by decide)
    have hs : -128 ≤ (sgn (x :: xs)) * 256 + (x.toNat : Int) ∧ (sgn (x :: xs)) * 256 + (x.toNat : Int) < 128 := by
      have e : sgn (x :: xs) = if x.toNat < 128 then 0 else -1 := rfl
      rw [e]
      by_cases h' : x.toNat < 128
      · rw [if_pos h']; omega
      · rw [if_neg h']; omega
    simp only [List.length_cons, Nat.add_sub_cancel, ofB]
    refine ⟨Int.le_trans ?_ h1.1, Int.lt_of_lt_of_le h1.2 ?_⟩
    · rw [← Int.neg_mul]
      exact Int.mul_le_mul_of_nonneg_right hs.1 hp
    · exact Int.mul_le_mul_of_nonneg_right (by omega) hp

/-- The bytes of a length. -/
def lenB (n : Nat) : List UInt8 :=
  if n < 128 then [byteAt n 0] else if n < 256 then byteAt 129 0 :: numB n 1 else if n < 65536 then byteAt 130 0 :: numB n 2 else byteAt 131 0 :: numB n 3

theorem lenB_length (n : Nat) : (lenB n).length ≤ 4 := by
  unfold lenB
  split
  · simp
  · split
    · simp [numB_length]
    · split <;> simp [numB_length]

/-- An element. -/
def elem (tag : Int) (xs : List UInt8) : List UInt8 := byteAt tag 0 :: (lenB xs.length ++ xs)

theorem elem_length (tag : Int) (xs : List UInt8) : (elem tag xs).length ≤ xs.length + 5 := by
  have := lenB_length xs.length
  simp only [elem, List.length_cons, List.length_append]
  omega
theorem elem_pos (tag : Int) (xs : List UInt8) : 0 < (elem tag xs).length := by simp only [elem, List.length_cons]; omega

/-- Does a number fit into m bytes in two's complement? -/
def fits (v : Int) (m : Nat) : Prop := -(128 * 256 ^ (m - 1)) ≤ v ∧ v < 128 * 256 ^ (m - 1)
instance (v : Int) (m : Nat) : Decidable (fits v m) := by unfold fits; infer_instance

/-- The number of bytes of an integer. -/
def intLen (v : Int) : Nat := if fits v 1 then 1 else if fits v 2 then 2 else if fits v 3 then 3 else if fits v 4 then 4 else if fits v 5 then 5 else if fits v 6 then 6 else if fits v 7 then 7 else 8

theorem fits_mono {v : Int} {m n : Nat} (h : m ≤ n) (hf : fits v m) : fits v n := by
  unfold fits at *
  have h1 : (256 : Int) ^ (m - 1) ≤ 256 ^ (n - 1) := by
    have : (256 : Nat) ^ (m - 1) ≤ 256 ^ (n - 1) := Nat.pow_le_pow_right (by decide) (by omega)
    have h2 : ((256 ^ (m - 1) : Nat) : Int) ≤ ((256 ^ (n - 1) : Nat) : Int) := Int.ofNat_le.2 this
    rw [Int.natCast_pow, Int.natCast_pow] at h2
    exact h2
  omega

theorem intLen_eq {v : Int} {m : Nat} (h1 : 1 ≤ m) (h8 : m ≤ 8) (hf : fits v m) (hn : m = 1 ∨ ¬ fits v (m - 1)) : intLen v = m := by
  have hno : ∀ j, j < m → 1 ≤ j → ¬ fits v j := fun j hj h1j hfj => by
    rcases hn with rfl | hn
    · omega
    · exact hn (fits_mono (by omega) hfj)
  have hyes : ∀ j, m ≤ j → fits v j := fun j hj => fits_mono hj hf
  unfold intLen
  match m, h1, h8 with
  | 1, _, _ => rw [if_pos hf]
  | 2, _, _ => rw [if_neg (hno 1 (by omega) (by omega)), if_pos hf]
  | 3, _, _ => rw [if_neg (hno 1 (by omega) (by omega)), if_neg (hno 2 (by omega) (by omega)), if_pos hf]
  | 4, _, _ => rw [if_neg (hno 1 (by omega) (by omega)), if_neg (hno 2 (by omega) (by omega)), if_neg (hno 3 (by omega) (by omega)), if_pos hf]
  | 5, _, _ => rw [if_neg (hno 1 (by omega) (by omega)), if_neg (hno 2 (by omega) (by omega)), if_neg (hno 3 (by omega) (by omega)), if_neg (hno 4 (by omega) (by omega)), if_pos hf]
  | 6, _, _ => rw [if_neg (hno 1 (by omega) (by omega)), if_neg (hno 2 (by omega) (by omega)), if_neg (hno 3 (by omega) (by omega)), if_neg (hno 4 (by omega) (by omega)), if_neg (hno 5 (by omega) (by omega)), if_pos hf]
  | 7, _, _ => rw [if_neg (hno 1 (by omega) (by omega)), if_neg (hno 2 (by omega) (by omega)), if_neg (hno 3 (by omega) (by omega)), if_neg (hno 4 (by omega) (by omega)), if_neg (hno 5 (by omega) (by omega)), if_neg (hno 6 (by omega) (by omega)), if_pos hf]
  | 8, _, _ => rw [if_neg (hno 1 (by omega) (by omega)), if_neg (hno 2 (by omega) (by omega)), if_neg (hno 3 (by omega) (by omega)), if_neg (hno 4 (by omega) (by omega)), if_neg (hno 5 (by omega) (by omega)), if_neg (hno 6 (by omega) (by omega)), if_neg (hno 7 (by omega) (by omega))]

theorem intLen_bounds (v : Int) : 1 ≤ intLen v ∧ intLen v ≤ 8 := by
  unfold intLen
  repeat' split
  all_goals omega

/-- The element of an integer (of at most 2^62), of a time, of flags, of a boolean, of octets, of a string. -/
def intE (v : Int) : List UInt8 := if v < -4611686018427387904 ∨ 4611686018427387904 < v then [] else elem 2 (numB v (intLen v))
def timeE (t : Int) : List UInt8 := if t < 0 ∨ 1099511627776 < t then [] else elem 24 (numB t 6)
def bitsE (f : Int) : List UInt8 := elem 3 (byteAt 0 0 :: numB f 4)
def boolE (b : Bool) : List UInt8 := elem 1 [if b then byteAt 255 0 else byteAt 0 0]
/-- An element with a number around another one. -/
def wrapE (tag n : Int) (xs : List UInt8) : List UInt8 := if n < 0 ∨ 30 < n ∨ xs = [] then [] else elem (tag + n) xs

theorem intE_length (v : Int) : (intE v).length ≤ 13 := by
  unfold intE
  split
  · simp
  · have h1 := elem_length 2 (numB v (intLen v))
    have h2 := intLen_bounds v
    rw [numB_length] at h1
    omega

/-! ### Reading: from the beginning of bytes; what comes back: the value and how many bytes were passed, or an error -/
def lenP : List UInt8 → Except Int (Nat × Nat)
  | [] => .error 4
  | x :: r =>
    if x.toNat < 128 then .ok (x.toNat, 1)
    else if x.toNat - 128 < 1 ∨ 3 < x.toNat - 128 then .error 6
    else if r.length < x.toNat - 128 then .error 4
    else if 128 ≤ (ofB 0 (r.take (x.toNat - 128))).toNat ∧ 256 ^ (x.toNat - 128 - 1) ≤ (ofB 0 (r.take (x.toNat - 128))).toNat then .ok ((ofB 0 (r.take (x.toNat - 128))).toNat, 1 + (x.toNat - 128))
    else .error 6

def contP (tag : Int) : List UInt8 → Except Int (List UInt8 × Nat)
  | [] => .error 4
  | x :: r =>
    if (x.toNat : Int) ≠ tag then .error 6
    else match lenP r with
      | .error e => .error e
      | .ok (n, c) => if r.length < c + n then .error 4 else .ok ((r.drop c).take n, 1 + c + n)

theorem lenP_le {ys : List UInt8} {n c : Nat} (h : lenP ys = .ok (n, c)) : c ≤ ys.length ∧ n ≤ 16777215 := by
  cases ys with
  | nil => simp [lenP] at h
  | cons x r =>
    simp only [lenP] at h
    split at h
    · injection h with h
      injection h with h1 h2
      subst h1 h2
      have := x.toNat_lt
      simp only [List.length_cons]
      omega
    · split at h
      · cases h
      · split at h
        · cases h
        · split at h
          · rename_i h1 h2 h3 h4
            injection h with h
            injection h with h5 h6
            subst h5 h6
            simp only [List.length_cons]
            have hb := ofB_bounds (r.take (x.toNat - 128)) 0 (by decide)
            have hl : (r.take (x.toNat - 128)).length ≤ 3 := by rw [List.length_take]; omega
            have hp : (256 : Int) ^ (r.take (x.toNat - 128)).length ≤ 256 ^ 3 := by
              have h2 : ((256 ^ (r.take (x.toNat - 128)).length : Nat) : Int) ≤ ((256 ^ 3 : Nat) : Int) := Int.ofNat_le.2 (Nat.pow_le_pow_right (by decide) hl)
              rw [Int.natCast_pow, Int.natCast_pow] at h2
              exact h2
            have e3 : (256 : Int) ^ 3 = 16777216 := by decide
            rw [e3] at hp
            generalize (256 : Int) ^ (r.take (x.toNat - 128)).length = P at *
            omega
          · cases h

theorem contP_le {tag : Int} {ys xs : List UInt8} {c : Nat} (h : contP tag ys = .ok (xs, c)) : c ≤ ys.length ∧ xs.length ≤ c ∧ xs.length ≤ 16777215 := by
  cases ys with
  | nil => simp [contP] at h
  | cons x r =>
    simp only [contP] at h
    split at h
    · cases h
    · split at h
      · cases h
      · rename_i n c' hl
        split at h
        · cases h
        · injection h with h
          injection h with h1 h2
          subst h1 h2
          have := lenP_le hl
          simp only [List.length_cons, List.length_take, List.length_drop]
          omega

end Go.Proofs.Yteepfeggkocakaa.Der
