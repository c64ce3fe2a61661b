/- Numbers of 32 digits in memory: a value of type Nat, read and written whole. · Numbers and their digits to the base 2^32, in plain Lean. -/
import Derived.Test.YtomiapceefbmeaaBase
import Derived.Deep.MidRow
import Derived.ChangeKeysEq
import Derived.Deep.QuietTactic
import Derived.BigQuiet
set_option linter.unusedVariables false
set_option linter.unusedSimpArgs false
set_option maxRecDepth 20000
namespace Go.Proofs.Ytomiapceefbmeaa
/-- The cells of the number 0. -/
abbrev z0 : Array Value := #[.int .u32 0, .int .u32 0, .int .u32 0, .int .u32 0, .int .u32 0, .int .u32 0, .int .u32 0, .int .u32 0, .int .u32 0, .int .u32 0, .int .u32 0, .int .u32 0, .int .u32 0, .int .u32 0, .int .u32 0, .int .u32 0, .int .u32 0, .int .u32 0, .int .u32 0, .int .u32 0, .int .u32 0, .int .u32 0, .int .u32 0, .int .u32 0, .int .u32 0, .int .u32 0, .int .u32 0, .int .u32 0, .int .u32 0, .int .u32 0, .int .u32 0, .int .u32 0]
open Go.RowKit

/-- Digit i to the base 2^32. -/
def dig (n i : Nat) : Nat := n / 2 ^ (32 * i) % 2 ^ 32
def natL (n : Nat) : List Value := (List.range 32).map fun i => .int .u32 ((dig n i : Nat) : Int)
def natA (n : Nat) : Array Value := (natL n).toArray
def natV (n : Nat) : Value := .agg (natA n)

theorem natL_length (n : Nat) : (natL n).length = 32 := by simp [natL]
theorem natA_size (n : Nat) : (natA n).size = 32 := by simp [natA, natL]
theorem natL_get (n i : Nat) (hi : i < 32) : (natL n)[i]? = some (.int .u32 ((dig n i : Nat) : Int)) := by simp [natL, hi]
theorem natA_get (n i : Nat) (hi : i < 32) : (natA n)[i]? = some (.int .u32 ((dig n i : Nat) : Int)) := by simp [natA, natL_get n i hi]
theorem dig_lt (n i : Nat) : (dig n i : Int) < 4294967296 := by
  have h : dig n i < 2 ^ 32 := Nat.mod_lt _ (Nat.two_pow_pos 32)
  have e : (2 : Nat) ^ 32 = 4294967296 := by decide
  omega
theorem natL_one (n : Nat) : ∀ v ∈ natL n, v.oneCell' = true := by
  intro v hv
  simp only [natL, List.mem_map] at hv
  obtain ⟨i, _, rfl⟩ := hv
  rfl

/-- Block B holds the number n. -/
def NatAt (w : World) (B n : Nat) : Prop := ∃ T, w.heap[B]? = some (.cells (natA n) T (0, 0))
section
variable {w w' : World} {B n : Nat}
theorem NatAt.lt (h : NatAt w B n) : B < w.heap.size := let ⟨_, h⟩ := h; (Array.getElem?_eq_some_iff.1 h).1
theorem NatAt.cell (h : NatAt w B n) {i : Nat} (hi : i < 32) : w.cell? ⟨B, i, none⟩ = some (.int .u32 ((dig n i : Nat) : Int)) := by
  obtain ⟨T, h⟩ := h
  rw [cell_of_row w B i _ _ (0, 0) h, natA_get n i hi]
theorem NatAt.frozen (h : NatAt w B n) (i : Nat) : w.frozen? ⟨B, i, none⟩ = false := let ⟨_, h⟩ := h; frozen_of_row w B i _ _ h
theorem NatAt.below (h : NatAt w B n) (hb : Below w.heap.size w w') : NatAt w' B n := by
  have hlt := h.lt
  obtain ⟨T, h⟩ := h
  exact ⟨T, by rw [hb.block B hlt]; exact h⟩
theorem NatAt.grown {row : Option Nat} (h : NatAt w B n) (hg : w.grownBy w' row) (hne : some B ≠ row) : NatAt w' B n := by
  have hlt := h.lt
  obtain ⟨T, h⟩ := h
  exact ⟨T, by rw [hg.block B hlt hne]; exact h⟩
theorem NatAt.new (w : World) (n : Nat) (T : TypeId) : NatAt (w.alloc (.cells (natA n) T)) w.heap.size n := ⟨T, heap_alloc_new w _⟩
theorem NatAt.alloc (h : NatAt w B n) (o : Obj) : NatAt (w.alloc o) B n := h.below ((Below.refl _ _).alloc (Nat.le_refl _) _)
theorem NatAt.drew (h : NatAt w B n) : NatAt w.drew B n := h
theorem NatAt.drewN (h : NatAt w B n) (m : Nat) : NatAt (w.drewN m) B n := h
theorem NatAt.range (h : NatAt w B n) : w.rangeAt B 0 (natL n) := by
  intro j v hv
  have hj : j < 32 := by
    have := (List.getElem?_eq_some_iff.1 hv).1
    rwa [natL_length] at this
  rw [natL_get n j hj] at hv
  rw [Nat.zero_add, h.cell hj, hv]
theorem NatAt.there (h : NatAt w B n) : w.there B 0 32 := fun j hj => by
  rw [Nat.zero_add]
  exact ⟨by rw [h.cell hj]; rfl, h.frozen j⟩
end

/-- A type of 32 cells. -/
def NT (P : Program) (T : TypeId) : Prop := ∃ d, P.underlying T = some d ∧ d.isRow = true ∧ (P.info? T).map (·.size) = some 32

section
variable {P : Program} {w : World}
theorem wpl_ldN {ops : Array Oper} {rest : List Oper} {o : Oper} {a : Act} {Q : Exit → Act → World → Prop} {T : TypeId} (hT : NT P T) (hgd : o.guard = none) {x : Operand} (ho : o.op = .load T x)
    {B n : Nat} (hx : a.eval x = .pointer (some ⟨B, 0, none⟩)) (h : NatAt w B n) (hk : wpList P ops Q rest (a.put o.dst (.agg (natA n))) w) : wpList P ops Q (o :: rest) a w := by
  obtain ⟨d, h1, h2, h3⟩ := hT
  exact wpList_load_mid hgd T x ho B 0 hx (natL n) d h.range h1 h2 (by rw [natL_length]; exact h3) hk

theorem setCells_row (b : Nat) (T : TypeId) : ∀ (vs : List Value) (o : Nat) (w : World) (cs : Array Value), w.heap[b]? = some (.cells cs T (0, 0)) →
    ∃ cs', (w.setCells b o vs).heap[b]? = some (.cells cs' T (0, 0)) ∧ cs'.size = cs.size ∧ (∀ j, j < o → cs'[j]? = cs[j]?) ∧ ∀ j, j < vs.length → o + j < cs.size → cs'[o + j]? = vs[j]?
  | [], o, w, cs, h => ⟨cs, h, rfl, fun _ _ => rfl, fun j hj => by simp at hj⟩
  | v :: r, o, w, cs, h => by
    have h1 := heap_setCell_same w b o _ _ v h
    obtain ⟨cs', g1, g2, g3, g4⟩ := setCells_row b T r (o + 1) _ _ h1
    refine ⟨cs', g1, by rw [g2]; simp, fun j hj => ?_, fun j hj hjs => ?_⟩
    · rw [g3 j (by omega), Array.getElem?_setIfInBounds_ne (by omega)]
    · cases j with
      | zero =>
        rw [Nat.add_zero, g3 o (by omega), Array.getElem?_setIfInBounds_self_of_lt (by simpa using hjs)]
        rfl
      | succ j =>
        have := g4 j (by simpa using hj) (by simp; omega)
        rw [show o + (j + 1) = o + 1 + j from by omega, this]
        rfl
theorem grown_setCells (b : Nat) : ∀ (vs : List Value) (o : Nat) (w : World), w.grownBy (w.setCells b o vs) (some b)
  | [], _, w => World.grownBy.refl _ _
  | v :: r, o, w => by
    have h1 := grown_setCells b r (o + 1) (w.setCell ⟨b, o, none⟩ v)
    refine ⟨h1.os, h1.tape, h1.output, by have := h1.size; simpa [World.setCells] using this, fun j hj hne => ?_⟩
    have h2 := h1.block j (by simpa using hj) hne
    rw [World.setCells, h2]
    exact heap_setCell_other w ⟨b, o, none⟩ j v (fun e => hne (by simp [e]))
theorem setCells_whole {B : Nat} {T : TypeId} {cs : Array Value} {l : List Value} (h : w.heap[B]? = some (.cells cs T (0, 0))) (hl : l.length = cs.size) : (w.setCells B 0 l).heap[B]? = some (.cells l.toArray T (0, 0)) := by
  obtain ⟨cs', g1, g2, _, g4⟩ := setCells_row B T l 0 w _ h
  rw [g1]
  congr 2
  apply Array.ext_getElem?
  intro j
  rcases Nat.lt_or_ge j l.length with hj | hj
  · have h1 := g4 j hj (by omega)
    rw [Nat.zero_add] at h1
    rw [h1, List.getElem?_toArray]
  · rw [Array.getElem?_eq_none (by omega), Array.getElem?_eq_none (by simpa using hj)]
theorem setCells_nat {B n : Nat} (m : Nat) (h : NatAt w B n) : NatAt (w.setCells B 0 (natL m)) B m ∧ w.grownBy (w.setCells B 0 (natL m)) (some B) := by
  refine ⟨?_, grown_setCells B _ 0 w⟩
  obtain ⟨T, h⟩ := h
  exact ⟨T, setCells_whole h (by rw [natL_length, natA_size])⟩

theorem wpl_stN {ops : Array Oper} {rest : List Oper} {o : Oper} {a : Act} {Q : Exit → Act → World → Prop} {T : TypeId} (hT : NT P T) (hgd : o.guard = none) {x y : Operand} (ho : o.op = .store T x y)
    {B n m : Nat} (hx : a.eval x = .pointer (some ⟨B, 0, none⟩)) (hy : a.eval y = .agg (natA m)) (h : NatAt w B n)
    (hk : ∀ w', NatAt w' B m → w.grownBy w' (some B) → wpList P ops Q rest (a.put o.dst undef) w') : wpList P ops Q (o :: rest) a w := by
  obtain ⟨d, h1, h2, h3⟩ := hT
  obtain ⟨g1, g2⟩ := setCells_nat m h
  refine wpList_store_mid hgd T x y ho B 0 (natA m) hx hy (by rw [natA_size]; exact h.there) (by rw [natA_size]; exact h3) (all_oneCell_toArray (natL_one m)) ?_
  exact hk _ g1 g2
end

end Go.Proofs.Ytomiapceefbmeaa

set_option linter.unusedVariables false
set_option linter.unusedSimpArgs false
set_option maxRecDepth 20000
namespace Go.Proofs.Ytomiapceefbmeaa
open Go.RowKit

def B32 (k : Nat) : Nat := 2 ^ (32 * k)
theorem B32_pos (k : Nat) : 0 < B32 k := Nat.two_pow_pos _
theorem B32_zero : B32 0 = 1 := rfl
theorem B32_succ (k : Nat) : B32 (k + 1) = B32 k * B32 1 := by
  unfold B32
  rw [← Nat.pow_add]
  congr 1
theorem B32_mono {k m : Nat} (h : k ≤ m) : B32 k ≤ B32 m := Nat.pow_le_pow_right (by decide) (by omega)
theorem dig_eq (n k : Nat) : dig n k = n / B32 k % B32 1 := rfl
theorem div_step (n k : Nat) : n / B32 k = n / B32 (k + 1) * B32 1 + dig n k := by
  rw [B32_succ, ← Nat.div_div_eq_div_mul, dig_eq, Nat.mul_comm]
  exact (Nat.div_add_mod _ _).symm
theorem dig_B1 (n k : Nat) : dig n k < B32 1 := Nat.mod_lt _ (B32_pos 1)
theorem mod_step (n k : Nat) : n % B32 (k + 1) = dig n k * B32 k + n % B32 k := by
  rw [B32_succ, Nat.mod_mul, dig_eq, Nat.mul_comm (B32 k)]
  omega
theorem dig_high {n k : Nat} (h : n < B32 k) : dig n k = 0 := by rw [dig_eq, Nat.div_eq_of_lt h, Nat.zero_mod]
/-- Numbers of at most 32 digits. -/
def Fit (n : Nat) : Prop := n < B32 32
instance (n : Nat) : Decidable (Fit n) := by unfold Fit; infer_instance
theorem Fit.zero : Fit 0 := B32_pos 32
theorem ext_dig {a b : Nat} (ha : Fit a) (hb : Fit b) (h : ∀ i, i < 32 → dig a i = dig b i) : a = b := by
  have key : ∀ k, k ≤ 32 → a / B32 (32 - k) = b / B32 (32 - k) := by
    intro k
    induction k with
    | zero => intro _; rw [Nat.div_eq_of_lt ha, Nat.div_eq_of_lt hb]
    | succ k ih =>
      intro hk
      have h1 := ih (by omega)
      rw [div_step a, div_step b, show 32 - (k + 1) + 1 = 32 - k from by omega, h1, h _ (by omega)]
  have := key 32 (Nat.le_refl _)
  rw [Nat.sub_self, B32_zero, Nat.div_one, Nat.div_one] at this
  exact this
/-- Two numbers alike from digit k + 1 on, the first one's digit k less. -/
theorem lt_of_dig {a b k : Nat} (h : a / B32 (k + 1) = b / B32 (k + 1)) (hd : dig a k < dig b k) : a < b := by
  have h1 : a / B32 k < b / B32 k := by rw [div_step a, div_step b, h]; omega
  exact Nat.lt_of_div_lt_div h1

/-- The number of digits. -/
def cnt (n : Nat) : Nat := if n = 0 then 0 else Nat.log2 n / 32 + 1
theorem cnt_eq {n k : Nat} (h1 : n < B32 k) (h2 : k = 0 ∨ B32 (k - 1) ≤ n) : cnt n = k := by
  unfold cnt
  rcases Nat.eq_zero_or_pos k with rfl | hk
  · rw [B32_zero] at h1
    rw [if_pos (by omega)]
  · rcases h2 with h2 | h2
    · omega
    have hn : n ≠ 0 := by have := B32_pos (k - 1); omega
    rw [if_neg hn]
    have h3 : Nat.log2 n < 32 * k := (Nat.log2_lt hn).2 h1
    have h4 : 32 * (k - 1) ≤ Nat.log2 n := (Nat.le_log2 hn).2 h2
    omega
theorem lt_cnt (n : Nat) : n < B32 (cnt n) := by
  unfold cnt
  by_cases hn : n = 0
  · rw [if_pos hn, hn]; exact B32_pos 0
  · rw [if_neg hn]
    exact (Nat.log2_lt hn).1 (by omega)
theorem cnt_le' {n m : Nat} (h : n < B32 m) : cnt n ≤ m := by
  unfold cnt
  by_cases hn : n = 0
  · rw [if_pos hn]; omega
  · rw [if_neg hn]
    have := (Nat.log2_lt hn).2 h
    omega
theorem cnt_le {n : Nat} (h : Fit n) : cnt n ≤ 32 := cnt_le' h

/-- The number of bits. -/
def bl (n : Nat) : Nat := if n = 0 then 0 else Nat.log2 n + 1
theorem lt_bl (n : Nat) : n < 2 ^ bl n := by
  unfold bl
  by_cases hn : n = 0
  · rw [if_pos hn, hn]; exact Nat.two_pow_pos _
  · rw [if_neg hn]
    exact (Nat.log2_lt hn).1 (by omega)
theorem bl_le {n k : Nat} (h : n < 2 ^ k) : bl n ≤ k := by
  unfold bl
  by_cases hn : n = 0
  · rw [if_pos hn]; omega
  · rw [if_neg hn]
    exact (Nat.log2_lt hn).2 h
theorem bl_eq {n k : Nat} (h1 : n < 2 ^ k) (h2 : k = 0 ∨ 2 ^ (k - 1) ≤ n) : bl n = k := by
  unfold bl
  rcases Nat.eq_zero_or_pos k with rfl | hk
  · rw [Nat.pow_zero] at h1
    rw [if_pos (by omega)]
  · rcases h2 with h2 | h2
    · omega
    have hn : n ≠ 0 := by have := Nat.two_pow_pos (k - 1); omega
    rw [if_neg hn]
    have h3 : Nat.log2 n < k := (Nat.log2_lt hn).2 h1
    have h4 : k - 1 ≤ Nat.log2 n := (Nat.le_log2 hn).2 h2
    omega

end Go.Proofs.Ytomiapceefbmeaa
