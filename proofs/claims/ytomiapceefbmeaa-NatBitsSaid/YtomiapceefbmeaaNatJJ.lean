/- Equality of two numbers as an operation; contracts of nat by case; boxes of numbers. -/
import Derived.Test.YtomiapceefbmeaaNatHH
import Derived.Test.YtomiapceefbmeaaNatJ
import Derived.Test.YtomiapceefbmeaaNatT
import Derived.Test.YtomiapceefbmeaaNatH
import Derived.BigFrame
set_option linter.unusedVariables false
set_option linter.unusedSimpArgs false
set_option maxRecDepth 20000
namespace Go.Proofs.Ytomiapceefbmeaa
open Go.RowKit

theorem neq_nat (a b : Nat) (w : World) (ha : Fit a) (hb : Fit b) : (binOp .neq 29 (.agg (natA a)) (.agg (natA b))).run Try.prog w = .ok (.bool (!decide (a = b))) w := by
  have h := equal_nat a b w ha hb
  rw [run_eql_struct] at h
  rw [run_neq_struct]
  cases hq : (Op.equalIn 10000 29 (.agg (natA a)) (.agg (natA b))).run Try.prog w with
  | ok v w1 =>
    rw [hq, Result.andThen_ok] at h
    injection h with h1 h2
    injection h1 with h1
    rw [Result.andThen_ok, h1, h2]
  | _ => rw [hq] at h; simp [Result.andThen] at h
theorem guard_nat (op : BinOp) (x y : Operand) (a b : Nat) (w : World) : (eqGuard op 29 x y (.agg (natA a)) (.agg (natA b))).run Try.prog w = .ok () w := by
  have h1 : (Try.prog.eqGuardType Try.prog.depth 29) = false := by kernel_rfl
  have hp : ∀ W, (Sem.program Sem.pure).run Try.prog W = .ok Try.prog W := fun W => rfl
  unfold eqGuard
  cases op <;> first | rfl | simp [program, Sem.run_bind, h1, hp]

section
variable {o : Oper} {ρ : Operand → Value} {x y : Operand} {t' : TypeId} {a b : Nat} {W : World}
theorem exec_eqN (ho : o.op = .binOp .eql 29 x y t') (hx : ρ x = .agg (natA a)) (hy : ρ y = .agg (natA b)) (ha : Fit a) (hb : Fit b) :
    (execOp ρ o).run Try.prog W = .ok (.value (.bool (decide (a = b)))) W := by
  unfold execOp
  simp only [ho, hx, hy, Sem.run_bind, guard_nat, equal_nat a b W ha hb, Result.andThen_ok, Sem.run_pure]
theorem exec_neN (ho : o.op = .binOp .neq 29 x y t') (hx : ρ x = .agg (natA a)) (hy : ρ y = .agg (natA b)) (ha : Fit a) (hb : Fit b) :
    (execOp ρ o).run Try.prog W = .ok (.value (.bool (!decide (a = b)))) W := by
  unfold execOp
  simp only [ho, hx, hy, Sem.run_bind, guard_nat, neq_nat a b W ha hb, Result.andThen_ok, Sem.run_pure]
end
section
variable {P : Program} {w : World} {ops : Array Oper} {rest : List Oper} {o : Oper} {ac : Act} {Q : Exit → Act → World → Prop}
theorem wp_of_run {v : Value} (h : (execOp ac.eval o).run P w = .ok (.value v) w) {K : Act → World → Prop} (hK : K (ac.put o.dst v) w) : o.wp P ac w K Q := by
  unfold Oper.wp
  rw [h]
  exact hK
theorem wpl_run (hw : Region.wanted o (yielded ops ac.tmps) = true) {v : Value} (h : (execOp ac.eval o).run P w = .ok (.value v) w) (hk : wpList P ops Q rest (ac.put o.dst v) w) : wpList P ops Q (o :: rest) ac w :=
  BigFrame.wpList_want hw fun K hK => wp_of_run h (hK _ _ hk)
end
section
variable {w : World} {ops : Array Oper} {rest : List Oper} {o : Oper} {ac : Act} {Q : Exit → Act → World → Prop} {x y : Operand} {t' : TypeId} {a b : Nat}
theorem wpl_eqN (hw : Region.wanted o (yielded ops ac.tmps) = true) (ho : o.op = .binOp .eql 29 x y t') (hx : ac.eval x = .agg (natA a)) (hy : ac.eval y = .agg (natA b)) (ha : Fit a) (hb : Fit b) {v : Bool} (hv : decide (a = b) = v)
    (hk : wpList Try.prog ops Q rest (ac.put o.dst (.bool v)) w) : wpList Try.prog ops Q (o :: rest) ac w :=
  wpl_run hw (exec_eqN ho hx hy ha hb) (by rw [hv]; exact hk)
theorem wpl_neN (hw : Region.wanted o (yielded ops ac.tmps) = true) (ho : o.op = .binOp .neq 29 x y t') (hx : ac.eval x = .agg (natA a)) (hy : ac.eval y = .agg (natA b)) (ha : Fit a) (hb : Fit b) {v : Bool} (hv : (!decide (a = b)) = v)
    (hk : wpList Try.prog ops Q rest (ac.put o.dst (.bool v)) w) : wpList Try.prog ops Q (o :: rest) ac w :=
  wpl_run hw (exec_neN ho hx hy ha hb) (by rw [hv]; exact hk)
end

/-! ### New boxes -/
theorem NatAt.zero (w : World) : NatAt (w.alloc (.cells z0 29)) w.heap.size 0 := by
  have h := NatAt.new w 0 29
  rwa [natA_zero] at h
theorem NatAt.zeroA (w : World) : NatAt ((w.alloc (.cells z0 29)).alloc (.cells z0 29)) w.heap.size 0 := (NatAt.zero w).alloc _
theorem NatAt.zeroB (w : World) : NatAt ((w.alloc (.cells z0 29)).alloc (.cells z0 29)) (w.heap.size + 1) 0 := by
  have h := NatAt.zero (w.alloc (.cells z0 29))
  rwa [World.size_alloc] at h
theorem below_zero {B : Nat} {w p : World} (h : Below B w p) (hb : B ≤ p.heap.size) : Below B w (p.alloc (.cells z0 29)) := h.alloc hb _
theorem fit_num {xs : List UInt8} (h : xs.length ≤ 128) : Fit (numN xs) := Nat.lt_of_lt_of_le (numN_lt xs) (pow_le_B32 (by omega))

/-! ### Contracts by case -/
section
variable {a b s : Nat}
theorem add_ok (w : World) (ha : Fit a) (hb : Fit b) (h : a + b = s) (hs : Fit s) :
    Calls Try.prog 36 #[.agg (natA a), .agg (natA b)] w fun e w' => e = .returned (.tuple #[.agg (natA s), .int .i64 0]) ∧ Below w.heap.size w w' := by
  subst h
  have h1 := add_any a b w ha hb
  unfold Fit at hs
  rwa [if_pos hs, if_pos hs] at h1
theorem add_full (w : World) (ha : Fit a) (hb : Fit b) (hs : ¬ Fit (a + b)) :
    Calls Try.prog 36 #[.agg (natA a), .agg (natA b)] w fun e w' => e = .returned (.tuple #[.agg (natA 0), .int .i64 7]) ∧ Below w.heap.size w w' := by
  have h1 := add_any a b w ha hb
  unfold Fit at hs
  rwa [if_neg hs, if_neg hs] at h1
theorem sub_ok (w : World) (ha : Fit a) (hb : Fit b) (h : b ≤ a) (hs : a - b = s) :
    Calls Try.prog 37 #[.agg (natA a), .agg (natA b)] w fun e w' => e = .returned (.tuple #[.agg (natA s), .int .i64 0]) ∧ Below w.heap.size w w' := by
  subst hs
  have h1 := sub_any a b w ha hb
  rwa [if_pos h, if_pos h] at h1
theorem sub_under (w : World) (ha : Fit a) (hb : Fit b) (h : a < b) :
    Calls Try.prog 37 #[.agg (natA a), .agg (natA b)] w fun e w' => e = .returned (.tuple #[.agg (natA 0), .int .i64 3]) ∧ Below w.heap.size w w' := by
  have h1 := sub_any a b w ha hb
  rwa [if_neg (by omega), if_neg (by omega)] at h1
theorem mul_ok (w : World) (ha : Fit a) (hb : Fit b) (h : a * b = s) (hs : Fit s) :
    Calls Try.prog 43 #[.agg (natA a), .agg (natA b)] w fun e w' => e = .returned (.tuple #[.agg (natA s), .int .i64 0]) ∧ Below w.heap.size w w' := by
  subst h
  have h1 := mul_any a b w ha hb
  unfold mulN mulE at h1
  rw [if_pos hs, if_pos hs] at h1
  exact h1
theorem mul_full (w : World) (ha : Fit a) (hb : Fit b) (hs : ¬ Fit (a * b)) :
    Calls Try.prog 43 #[.agg (natA a), .agg (natA b)] w fun e w' => e = .returned (.tuple #[.agg (natA 0), .int .i64 7]) ∧ Below w.heap.size w w' := by
  have h1 := mul_any a b w ha hb
  unfold mulN mulE at h1
  rw [if_neg hs, if_neg hs] at h1
  exact h1
theorem div_ok {q r : Nat} (w : World) (ha : Fit a) (hb : Fit b) (h : b ≠ 0) (hq : a / b = q) (hr : a % b = r) :
    Calls Try.prog 33 #[.agg (natA a), .agg (natA b)] w fun e w' => e = .returned (.tuple #[.agg (natA q), .agg (natA r), .int .i64 0]) ∧ Below w.heap.size w w' := by
  subst hq
  subst hr
  have h1 := divide_any a b w ha hb
  unfold divA divR divE at h1
  rw [if_neg h, if_neg h, if_neg h] at h1
  exact h1
theorem div_zero (w : World) (ha : Fit a) :
    Calls Try.prog 33 #[.agg (natA a), .agg (natA 0)] w fun e w' => e = .returned (.tuple #[.agg (natA 0), .agg (natA 0), .int .i64 2]) ∧ Below w.heap.size w w' := by
  have h1 := divide_any a 0 w ha Fit.zero
  unfold divA divR divE at h1
  rw [if_pos rfl, if_pos rfl, if_pos rfl] at h1
  exact h1
theorem gcd_ok (w : World) (ha : Fit a) (hb : Fit b) (h : Nat.gcd a b = s) :
    Calls Try.prog 31 #[.agg (natA a), .agg (natA b)] w fun e w' => e = .returned (.agg (natA s)) ∧ Below w.heap.size w w' := by
  subst h
  exact gcd_any a b w ha hb
theorem compare_ok {c : Int} (w : World) (ha : Fit a) (hb : Fit b) (h : cmpI a b = c) :
    Calls Try.prog 35 #[.agg (natA a), .agg (natA b)] w fun e w' => e = .returned (.int .i64 c) ∧ Below w.heap.size w w' := by
  subst h
  exact compare_any a b w ha hb
theorem isZero_ok {c : Bool} (w : World) (ha : Fit a) (h : decide (a = 0) = c) :
    Calls Try.prog 15 #[.agg (natA a)] w fun e w' => e = .returned (.bool c) ∧ Below w.heap.size w w' := by
  subst h
  exact isZero_any a w ha
theorem isZero_zero (w : World) :
    Calls Try.prog 15 #[.agg (natA 0)] w fun e w' => e = .returned (.bool true) ∧ Below w.heap.size w w' := isZero_any 0 w Fit.zero
theorem fromBytes_ok {xs : List UInt8} (v : Value) (w : World) (h : Byt w v xs) (hl : xs.length ≤ 200) (hs : numN xs = s) (hf : Fit s) :
    Calls Try.prog 12 #[v] w fun e w' => e = .returned (.tuple #[.agg (natA s), .int .i64 0]) ∧ Below w.heap.size w w' := by
  subst hs
  have h1 := fromBytes_any v xs w h (by unfold lim; omega)
  rwa [fromN, fromE, if_pos hf, if_pos hf] at h1
theorem fromBytes_full {xs : List UInt8} (v : Value) (w : World) (h : Byt w v xs) (hl : xs.length ≤ 200) (hf : ¬ Fit (numN xs)) :
    Calls Try.prog 12 #[v] w fun e w' => e = .returned (.tuple #[.agg (natA 0), .int .i64 7]) ∧ Below w.heap.size w w' := by
  have h1 := fromBytes_any v xs w h (by unfold lim; omega)
  rwa [fromN, fromE, if_neg hf, if_neg hf] at h1
theorem made_ok {xs : List UInt8} (v : Value) (w : World) (h : Byt w v xs) (hl : xs.length ≤ 200) (hs : numN xs = s) (hf : Fit s) :
    Calls Try.prog 23 #[v] w (RetM w s s true) := by
  subst hs
  exact made_fit v xs w h hl hf
theorem same_ok {n : Nat} {c : Bool} (v : Value) (w : World) (ha : Fit a) (hn : Lst w v n) (hs : Sz n) (h : decide (a = n) = c) :
    Calls Try.prog 16 #[.agg (natA a), v] w fun e w' => e = .returned (.bool c) ∧ Below w.heap.size w w' := by
  subst h
  exact same_any a n v w ha hn hs
theorem rfits_ok {n : Nat} {c : Bool} (v : Value) (w : World) (hn : Lst w v n) (hs : Sz n) (h : decide (Fit n) = c) :
    Calls Try.prog 14 #[v] w fun e w' => e = .returned (.bool c) ∧ w = w' := by
  have h1 := fits_any v n w hn hs
  have e : decide ((bl n : Int) ≤ 1024) = decide (Fit n) := by
    rw [decide_eq_decide, ← bl_fit]
    omega
  rwa [e, h] at h1
theorem rcompare_ok {c : Int} (u v : Value) (w : World) (hu : Lst w u a) (hv : Lst w v b) (ha : Sz a) (hb : Sz b) (h : cmpI a b = c) :
    Calls Try.prog 25 #[u, v] w fun e w' => e = .returned (.int .i64 c) ∧ w = w' := by
  subst h
  exact rcompare_any u v a b w hu hv ha hb
theorem rof_ok {c : Nat} (V : Int) (w : World) (hc : V = (c : Int)) (hV : V ≤ 9223372036854775807) : Calls Try.prog 22 #[.int .i64 V] w (RetL w c) := by
  subst hc
  exact of_any c w (by unfold maxI; omega)
theorem radd_ok (u v : Value) (w : World) (hu : Lst w u a) (hv : Lst w v b) (ha : Sz a) (hb : Sz b) (h : a + b = s) : Calls Try.prog 38 #[u, v] w (RetL w s) := by
  subst h
  exact radd_any u v a b w hu hv ha hb
theorem rmul_ok (u v : Value) (w : World) (hu : Lst w u a) (hv : Lst w v b) (ha : Sz a) (hb : Sz b) (h : a * b = s) : Calls Try.prog 44 #[u, v] w (RetL w s) := by
  subst h
  exact rmul_any u v a b w hu hv ha hb
theorem rsub_ok (u v : Value) (w : World) (hu : Lst w u a) (hv : Lst w v b) (ha : Sz a) (hb : Sz b) (hle : b ≤ a) (h : a - b = s) : Calls Try.prog 39 #[u, v] w (RetL w s) := by
  subst h
  exact rsub_any u v a b w hu hv ha hb hle
theorem div_zero' (w : World) (ha : Fit a) (hb : b = 0) :
    Calls Try.prog 33 #[.agg (natA a), .agg (natA b)] w fun e w' => e = .returned (.tuple #[.agg (natA 0), .agg (natA 0), .int .i64 2]) ∧ Below w.heap.size w w' := by
  subst hb
  exact div_zero w ha
theorem rdivide_ok {q r : Nat} (u v : Value) (w : World) (hu : Lst w u a) (hv : Lst w v b) (ha : c16 a ≤ 90000) (hb : c16 b ≤ 90000) (hb0 : b ≠ 0) (hq : a / b = q) (hr : a % b = r) :
    Calls Try.prog 34 #[u, v] w (RetLL w q r) := by
  subst hq
  subst hr
  exact rdivide_any u v a b w hu hv ha hb hb0
theorem made_over {xs : List UInt8} (v : Value) (w : World) (h : Byt w v xs) (hl : xs.length ≤ 200) (hs : numN xs = s) (hf : ¬ Fit s) :
    Calls Try.prog 23 #[v] w (RetM w 0 s false) := by
  subst hs
  exact made_unfit v xs w h hl hf
/-- The bound of Int. -/
def q62 : Nat := 4611686018427387904
theorem int_big (ha : Fit a) (h : q62 < a) (w : World) :
    Calls Try.prog 24 #[.agg (natA a)] w fun e w' => e = .returned (.tuple #[.int .i64 0, .int .i64 3]) ∧ Below w.heap.size w w' := by
  have h1 := int_any a w ha
  unfold intN intE' at h1
  unfold q62 at h
  rwa [if_neg (by omega), if_neg (by omega)] at h1
theorem int_small (ha : Fit a) (h : ¬ q62 < a) (w : World) :
    Calls Try.prog 24 #[.agg (natA a)] w fun e w' => e = .returned (.tuple #[.int .i64 (a : Int), .int .i64 0]) ∧ Below w.heap.size w w' := by
  have h1 := int_any a w ha
  unfold intN intE' at h1
  unfold q62 at h
  rwa [if_pos (by omega), if_pos (by omega)] at h1
theorem small_int (h : ¬ q62 < a) : (a : Int) ≤ 9223372036854775807 := by unfold q62 at h; omega
theorem fit_int {v : Nat} (h : (v : Int) ≤ 9223372036854775807) : Fit v := by
  refine Nat.lt_of_lt_of_le (m := 2 ^ 64) (by omega) (pow_le_B32 (k := 32) (by decide))
theorem c16_int {v : Nat} (h : (v : Int) ≤ 9223372036854775807) : c16 v ≤ 4 := c16_le (by unfold X16; omega)
theorem sz_int {v : Nat} (h : (v : Int) ≤ 9223372036854775807) : Sz v := Nat.le_trans (c16_int h) (by decide)
theorem sz_q62 : Sz q62 := sz_int (by unfold q62; omega)
theorem cmp_self (a : Nat) : cmpI a a = 0 := by unfold cmpI; rw [if_neg (Nat.lt_irrefl _), if_neg (Nat.lt_irrefl _)]
end
theorem c16_mul {a b p q : Nat} (ha : c16 a ≤ p) (hb : c16 b ≤ q) : c16 (a * b) ≤ p + q := c16_le (by
  have h1 : a < X16 p := Nat.lt_of_lt_of_le (lt_c16 a) (Nat.pow_le_pow_right (by decide) (by omega))
  have h2 : b < X16 q := Nat.lt_of_lt_of_le (lt_c16 b) (Nat.pow_le_pow_right (by decide) (by omega))
  have h3 : X16 (p + q) = X16 p * X16 q := by unfold X16; rw [← Nat.pow_add]; congr 1; omega
  rw [h3]
  exact Nat.mul_lt_mul'' h1 h2)
theorem Sz.of {a k : Nat} (h : c16 a ≤ k) (hk : k ≤ 100000) : Sz a := Nat.le_trans h hk
theorem Sz.mono {a b : Nat} (hb : Sz b) (h : a ≤ b) : Sz a := Nat.le_trans (c16_mono h) hb

end Go.Proofs.Ytomiapceefbmeaa
