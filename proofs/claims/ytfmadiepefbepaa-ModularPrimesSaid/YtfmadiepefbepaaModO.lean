/- Three boxes at once; the guarded load of a number; walk: known (printed by genmodo.py). -/
import Derived.Test.YtfmadiepefbepaaModN
set_option linter.unusedVariables false
set_option linter.unusedSimpArgs false
set_option maxRecDepth 100000
namespace Go.Proofs.Ytfmadiepefbepaa
open Go.RowKit Go.Shelf
attribute [local go_sem] Oper.semAt_some
theorem NatAt.z3A (w : World) : NatAt (((w.alloc (.cells z0 37)).alloc (.cells z0 37)).alloc (.cells z0 37)) w.heap.size 0 := (NatAt.zeroA w).alloc _
theorem NatAt.z3B (w : World) : NatAt (((w.alloc (.cells z0 37)).alloc (.cells z0 37)).alloc (.cells z0 37)) (w.heap.size + 1) 0 := (NatAt.zeroB w).alloc _
theorem NatAt.z3C (w : World) : NatAt (((w.alloc (.cells z0 37)).alloc (.cells z0 37)).alloc (.cells z0 37)) (w.heap.size + 1 + 1) 0 := by
  have h := NatAt.zero ((w.alloc (.cells z0 37)).alloc (.cells z0 37))
  rwa [World.size_alloc, World.size_alloc] at h
theorem below_z3 {B : Nat} {v w : World} (h : Below B v w) (hb : B ≤ w.heap.size) : Below B v (((w.alloc (.cells z0 37)).alloc (.cells z0 37)).alloc (.cells z0 37)) :=
  below_zero (below_zero (below_zero h hb) (by rw [World.size_alloc]; omega)) (by rw [World.size_alloc, World.size_alloc]; omega)
theorem wpl_ldN_g {P : Program} {w : World} {ops : Array Oper} {rest : List Oper} {o : Oper} {a : Act} {Q : Exit → Act → World → Prop} {T : TypeId} (hT : NT P T) (hw : Region.wanted o (yielded ops a.tmps) = true) {x : Operand} (ho : o.op = .load T x)
    {B n : Nat} (hx : a.eval x = .pointer (some ⟨B, 0, none⟩)) (h : NatAt w B n) (hk : wpList P ops Q rest (a.put o.dst (.agg (natA n))) w) : wpList P ops Q (o :: rest) a w :=
  BigFrame.wpList_want hw fun K hK => wp_ld_dig (N := 32) hT ho hx (DAt.of_nat h) (hK _ _ hk)

theorem small_fit2 {n : Nat} (h : n < 4294967296) : Fit n := Nat.lt_of_lt_of_le h (by
  have e : B32 1 = 4294967296 := B1_eq
  rw [← e]
  exact B32_mono (by decide))
theorem small_q62 {n : Nat} (h : n < 100) : ¬ q62 < n := by
  have : 100 ≤ q62 := by unfold q62; decide
  omega
theorem bool_false {b : Bool} (h : ¬ b = true) : b = false := by cases b; rfl; exact absurd rfl h
theorem isP_two : IsP (2 : Int).toNat := ⟨by decide, fun d h2 hd => by
  have h1 : d * d ≤ 2 := hd
  have h3 := Nat.mul_le_mul h2 h2
  omega⟩
theorem isP_small : ∀ d, d < 54 → 2 ≤ d → 2879 % d ≠ 0 := by decide
theorem isP_2879 : IsP (2879 : Int).toNat := ⟨by decide, fun d h2 hd => by
  have h1 : d * d ≤ 2879 := hd
  refine isP_small d ?_ h2
  rcases Nat.lt_or_ge d 54 with h | h
  · exact h
  · have h3 := Nat.mul_le_mul h h
    omega⟩

/-! The factors of 12. -/
theorem IsP.odd {p : Nat} (h : IsP p) : p < 4 ∨ p % 2 ≠ 0 := by
  rcases Nat.lt_or_ge p 4 with h4 | h4
  · exact .inl h4
  · exact .inr (h.2 2 (Nat.le_refl _) h4)
theorem fac_small {r q : Nat} {x : Fac} {s : Nat × Nat} (h : stepF (some (r, q)) x.1 = some s) (hr : 1 ≤ r) (hR : r < 16) : x.1.1 < 16 ∧ x.1.2 < 4 ∧ q < x.1.1 ∧ s = (r / x.1.1 ^ x.1.2, x.1.1) ∧ r % x.1.1 ^ x.1.2 = 0 ∧ r / x.1.1 ^ x.1.2 % x.1.1 ≠ 0 := by
  unfold stepF at h
  dsimp only at h
  split at h
  · rename_i hc
    obtain ⟨h1, h2, h3⟩ := hc
    injection h with h
    have h4 : x.1.1 ^ x.1.2 ≤ r := Nat.le_of_dvd hr (Nat.dvd_of_mod_eq_zero h2)
    have h5 : x.1.1 ≤ x.1.1 ^ x.1.2 := by
      have := Nat.pow_le_pow_right (n := x.1.1) (by have := x.2.1.1; omega) x.2.2.2.1
      rwa [Nat.pow_one] at this
    have h6 : 2 ^ x.1.2 ≤ x.1.1 ^ x.1.2 := Nat.pow_le_pow_left x.2.1.1 _
    refine ⟨by omega, ?_, h1, h.symm, h2, h3⟩
    rcases Nat.lt_or_ge x.1.2 4 with h7 | h7
    · exact h7
    · have := Nat.pow_le_pow_right (n := 2) (by omega) h7
      omega
  · cases h
def okF (r q p n : Nat) : Bool := decide (q < p) && decide (1 ≤ n) && (decide (p < 4) || p % 2 != 0) && (r % p ^ n == 0)
theorem okF_of {r q p n : Nat} (h1 : q < p) (h2 : 1 ≤ n) (h3 : p < 4 ∨ p % 2 ≠ 0) (h4 : r % p ^ n = 0) : okF r q p n = true := by
  unfold okF
  rw [decide_eq_true h1, decide_eq_true h2, h4]
  rcases h3 with h | h
  · rw [decide_eq_true h]; rfl
  · rw [show (p % 2 != 0) = true from by simpa using h, Bool.or_true]; rfl
theorem fac12a : ∀ p < 16, ∀ n < 4, okF 12 1 p n = true → (p = 2 ∧ n = 1) ∨ (p = 2 ∧ n = 2) ∨ (p = 3 ∧ n = 1) := by decide
theorem fac12b : ∀ p < 16, ∀ n < 4, okF 3 2 p n = true → p = 3 ∧ n = 1 := by decide
theorem fac12c : ∀ p < 16, ∀ n < 4, ¬ okF 4 3 p n = true := by decide
theorem fac12d : ∀ p < 16, ∀ n < 4, ¬ okF 1 3 p n = true := by decide
theorem facF_none (l : List Fac) : l.foldl (fun s x => stepF s x.1) none = none := by
  induction l with
  | nil => rfl
  | cons x l ih => exact ih
theorem facF_cons {s : Option (Nat × Nat)} {x : Fac} {l : List Fac} {t : Nat × Nat} (h : (x :: l).foldl (fun s x => stepF s x.1) s = some t) : ∃ u, stepF s x.1 = some u ∧ l.foldl (fun s x => stepF s x.1) (some u) = some t := by
  rw [List.foldl_cons] at h
  cases hs : stepF s x.1 with
  | none => rw [hs, facF_none] at h; cases h
  | some u => rw [hs] at h; exact ⟨u, rfl, h⟩
theorem fac12 {xs : List Fac} (h : FacsAll 12 xs) : xs.map (·.1) = [(2, 2), (3, 1)] := by
  rcases h with ⟨m, hm, -, -, q, hq⟩ | ⟨h, -⟩
  · obtain rfl : m = 12 := by omega
    unfold facS at hq
    cases xs with
    | nil => simp at hq
    | cons x l =>
      obtain ⟨u, h1, h2⟩ := facF_cons hq
      obtain ⟨a1, a2, a3, rfl, a5, a6⟩ := fac_small h1 (by omega) (by omega)
      rcases fac12a _ a1 _ a2 (okF_of a3 x.2.2.2.1 x.2.1.odd a5) with ⟨e1, e2⟩ | ⟨e1, e2⟩ | ⟨e1, e2⟩
      · rw [e1, e2] at a6; exact absurd rfl a6
      · rw [e1, e2] at h2
        cases l with
        | nil => simp at h2
        | cons y l =>
          obtain ⟨u, h3, h4⟩ := facF_cons h2
          obtain ⟨b1, b2, b3, rfl, b5, b6⟩ := fac_small h3 (by omega) (by omega)
          obtain ⟨e3, e4⟩ := fac12b _ b1 _ b2 (okF_of b3 y.2.2.2.1 y.2.1.odd b5)
          rw [e3, e4] at h4
          cases l with
          | nil =>
            have e5 : x.1 = (2, 2) := Prod.ext e1 e2
            have e6 : y.1 = (3, 1) := Prod.ext e3 e4
            simp [e5, e6]
          | cons z l =>
            obtain ⟨u, h5, h6⟩ := facF_cons h4
            obtain ⟨c1, c2, c3, -, c5, -⟩ := fac_small h5 (by omega) (by omega)
            exact absurd (okF_of c3 z.2.2.2.1 z.2.1.odd c5) (fac12d _ c1 _ c2)
      · rw [e1, e2] at h2
        cases l with
        | nil => simp at h2
        | cons y l =>
          obtain ⟨u, h3, h4⟩ := facF_cons h2
          obtain ⟨b1, b2, b3, -, b5, -⟩ := fac_small h3 (by omega) (by omega)
          exact absurd (okF_of b3 y.2.2.2.1 y.2.1.odd b5) (fac12c _ b1 _ b2)
  · omega
theorem run_equalIn_func_nil {P : Program} (w : World) (d : Nat) (t : TypeId) {ps rs : Array TypeId} {v : Bool} (h : P.underlying t = some (.func ps rs v)) (f : Fn) (a b : Array Value) : (Op.equalIn (d + 1) t (.func f a b) .nilFunc).run P w = .ok false w := by
  simp [Op.equalIn, run_underlying h]
theorem run_eql_func_nil {P : Program} (w : World) (t : TypeId) {ps rs : Array TypeId} {v : Bool} (h : P.underlying t = some (.func ps rs v)) (f : Fn) (a b : Array Value) : (binOp .eql t (.func f a b) .nilFunc).run P w = .ok (.bool false) w := by
  simp only [binOp]
  simp [show Op.equal t (.func f a b) .nilFunc = Op.equalIn (9999 + 1) t (.func f a b) .nilFunc from rfl, run_equalIn_func_nil w 9999 t h f a b]
theorem run_eqF (w : World) (f : Fn) (a b : Array Value) : (binOp .eql 27 (.func f a b) .nilFunc).run Try.prog w = .ok (.bool false) w := run_eql_func_nil w _ Try.underlying27 f a b
/-- What the loop of known reckons. -/
def uS (s : Int) (x : Nat × Nat) : Int := wrap64 (wrap64 (wrap64 (100 * s) + 10 * (x.1 : Int)) + (x.2 : Int))
def uF (l : List (Nat × Nat)) : Int := l.foldl uS 0
theorem uF_snoc (l : List (Nat × Nat)) (x : Nat × Nat) : uF (l ++ [x]) = uS (uF l) x := by unfold uF; rw [List.foldl_append]; rfl
theorem uF_12 : uF [(2, 2), (3, 1)] = 2231 := by simp [uF, uS, wrap64]

/-- A loop over an iterator of two variables that lie in no box. -/
theorem wpIn_rangeFunc_own2 {F : Fence} {n : Nat} {P : Program} {α : Type} {g : Operand} {q q' k k' : Nat} {assign body : Code} {Q : Exit → Act → World → Prop} {a : Act} {w : World}
    (hro : F.round = none) (h1 : 1 ≤ n) {gf : Nat} {lb : Array Value} (hg : a.eval g = .func (.func gf) #[] lb) (hFg : F.fn gf) (eg : ∀ args w, (callFunc gf args).run P w = .ok (.enter gf args) w)
    {e e' : α → Value} {Kp : World → World → Prop} {S Sp : List α → Prop} {N : Nat} {w0 : World} (hseq : SeqStopsK F (n - 1) P gf lb (fun x => #[e x, e' x]) Kp S Sp N w0)
    (hKt : ∀ {A B C : World}, Kp A B → Kp B C → Kp A C) (hKb : ∀ (W : World) (l : Nat) (o o' : Obj), w.heap.size ≤ l → W.heap[l]? = some o → o.isCells = false → o.isWalk = false → Kp W (W.putObj l o')) (hb0 : Below w0.heap.size w0 w)
    (I : List α → World → Prop) (Ix : Code → List α → World → Prop) (hI : OwnFrom w.heap.size I) (hIx : ∀ c, OwnFrom w.heap.size (Ix c)) (h0 : I [] w)
    (hassign : ∀ (l : Nat) (x : α) (W : World) (K : Act → World → Prop), K { tmps := (((a.tmps.setIfInBounds q (e x)).setIfInBounds q' (e' x)).setIfInBounds k (e x)).setIfInBounds k' (e' x), defers := [] } W →
      assign.wpIn (F.inRound l) (n - 1 - 1) P (Exit.then K (fun _ _ _ => False)) { tmps := (a.tmps.setIfInBounds q (e x)).setIfInBounds q' (e' x), defers := [] } W)
    (hbody : ∀ (l : Nat) (pre : List α) (x : α) (W : World), I pre W → pre.length < N → body.wpIn (F.inRound l) (n - 1 - 1) P (ownPostK Kp I Ix (pre ++ [x]) W) { tmps := (((a.tmps.setIfInBounds q (e x)).setIfInBounds q' (e' x)).setIfInBounds k (e x)).setIfInBounds k' (e' x), defers := [] } W)
    (hdone : ∀ (D : Nat) (xs : List α) (W : World), w.heap.size ≤ D → S xs → I xs W → W.heap[D]? = some (.deferred (some [])) → Q .normal { a with defers := { target := .collected D, args := #[] } :: a.defers } W)
    (hstop : ∀ (D : Nat) (c : Code) (pre : List α) (W : World), w.heap.size ≤ D → Sp pre → Ix c pre W → W.heap[D]? = some (.deferred (some [])) → c.wpIn F n P Q { a with defers := { target := .collected D, args := #[] } :: a.defers } W) :
    (Code.rangeFunc g #[q, q'] assign body).wpIn F n P Q a w :=
  wpIn_rangeFunc_ownF hro h1 hg hFg eg hseq hKt hKb hb0 (fun _ => rfl) I Ix hI hIx h0 (fun x => { tmps := (((a.tmps.setIfInBounds q (e x)).setIfInBounds q' (e' x)).setIfInBounds k (e x)).setIfInBounds k' (e' x), defers := [] })
    (fun l x W K hK => by simpa using hassign l x W K hK) hbody hdone hstop

set_option maxHeartbeats 12800000 in
theorem known2_any (w : World) : Calls Try.prog 10 #[] w fun e w' => e = .returned (.bool true) ∧ Below w.heap.size w w' := by
  obtain ⟨n0, hc0⟩ : ∃ n : Nat, n = 0 := ⟨_, rfl⟩
  obtain ⟨n1, hc1⟩ : ∃ n : Nat, n = 1 := ⟨_, rfl⟩
  obtain ⟨n2, hc2⟩ : ∃ n : Nat, n = 2 := ⟨_, rfl⟩
  obtain ⟨n3, hc3⟩ : ∃ n : Nat, n = 3 := ⟨_, rfl⟩
  obtain ⟨n4, hc4⟩ : ∃ n : Nat, n = 4 := ⟨_, rfl⟩
  obtain ⟨n5, hc5⟩ : ∃ n : Nat, n = 5 := ⟨_, rfl⟩
  obtain ⟨n6, hc6⟩ : ∃ n : Nat, n = 6 := ⟨_, rfl⟩
  obtain ⟨n7, hc7⟩ : ∃ n : Nat, n = 7 := ⟨_, rfl⟩
  have KI1 : Hid (∀ W, Calls Try.prog 22 #[.int .i64 1] W fun e w' => e = .returned (.agg (natA n1)) ∧ Below W.heap.size W w') := Lib.hid (by
    intro W
    rw [hc1]
    exact number_ok (n := 1) W (by decide)
  )
  have KI2 : Hid (∀ W, Calls Try.prog 22 #[.int .i64 2] W fun e w' => e = .returned (.agg (natA n2)) ∧ Below W.heap.size W w') := Lib.hid (by
    intro W
    rw [hc2]
    exact number_ok (n := 2) W (by decide)
  )
  have KI3 : Hid (∀ W, Calls Try.prog 22 #[.int .i64 3] W fun e w' => e = .returned (.agg (natA n3)) ∧ Below W.heap.size W w') := Lib.hid (by
    intro W
    rw [hc3]
    exact number_ok (n := 3) W (by decide)
  )
  have KI4 : Hid (∀ W, Calls Try.prog 22 #[.int .i64 4] W fun e w' => e = .returned (.agg (natA n4)) ∧ Below W.heap.size W w') := Lib.hid (by
    intro W
    rw [hc4]
    exact number_ok (n := 4) W (by decide)
  )
  have KI5 : Hid (∀ W, Calls Try.prog 22 #[.int .i64 5] W fun e w' => e = .returned (.agg (natA n5)) ∧ Below W.heap.size W w') := Lib.hid (by
    intro W
    rw [hc5]
    exact number_ok (n := 5) W (by decide)
  )
  have KI6 : Hid (∀ W, Calls Try.prog 22 #[.int .i64 6] W fun e w' => e = .returned (.agg (natA n6)) ∧ Below W.heap.size W w') := Lib.hid (by
    intro W
    rw [hc6]
    exact number_ok (n := 6) W (by decide)
  )
  have KI7 : Hid (∀ W, Calls Try.prog 22 #[.int .i64 7] W fun e w' => e = .returned (.agg (natA n7)) ∧ Below W.heap.size W w') := Lib.hid (by
    intro W
    rw [hc7]
    exact number_ok (n := 7) W (by decide)
  )
  have KR0 : Hid (∀ W, Calls Try.prog 33 #[.agg (natA n0), .int .i64 0, .int .i64 0] W fun e w' => e = .returned (.bool true) ∧ Below W.heap.size W w') := Lib.hid (by
    intro W
    have h := result_ok (n := n0) W (by rw [hc0]; exact small_fit2 (by decide)) (by rw [hc0]; exact small_q62 (by decide)) (by rw [hc0]; decide)
    rwa [show ((n0 : Nat) : Int) = 0 from by rw [hc0]; rfl] at h
  )
  have KR2 : Hid (∀ W, Calls Try.prog 33 #[.agg (natA n2), .int .i64 0, .int .i64 2] W fun e w' => e = .returned (.bool true) ∧ Below W.heap.size W w') := Lib.hid (by
    intro W
    have h := result_ok (n := n2) W (by rw [hc2]; exact small_fit2 (by decide)) (by rw [hc2]; exact small_q62 (by decide)) (by rw [hc2]; decide)
    rwa [show ((n2 : Nat) : Int) = 2 from by rw [hc2]; rfl] at h
  )
  have KR4 : Hid (∀ W, Calls Try.prog 33 #[.agg (natA n4), .int .i64 0, .int .i64 4] W fun e w' => e = .returned (.bool true) ∧ Below W.heap.size W w') := Lib.hid (by
    intro W
    have h := result_ok (n := n4) W (by rw [hc4]; exact small_fit2 (by decide)) (by rw [hc4]; exact small_q62 (by decide)) (by rw [hc4]; decide)
    rwa [show ((n4 : Nat) : Int) = 4 from by rw [hc4]; rfl] at h
  )
  have KR5 : Hid (∀ W, Calls Try.prog 33 #[.agg (natA n5), .int .i64 0, .int .i64 5] W fun e w' => e = .returned (.bool true) ∧ Below W.heap.size W w') := Lib.hid (by
    intro W
    have h := result_ok (n := n5) W (by rw [hc5]; exact small_fit2 (by decide)) (by rw [hc5]; exact small_q62 (by decide)) (by rw [hc5]; decide)
    rwa [show ((n5 : Nat) : Int) = 5 from by rw [hc5]; rfl] at h
  )
  have KR6 : Hid (∀ W, Calls Try.prog 33 #[.agg (natA n6), .int .i64 0, .int .i64 6] W fun e w' => e = .returned (.bool true) ∧ Below W.heap.size W w') := Lib.hid (by
    intro W
    have h := result_ok (n := n6) W (by rw [hc6]; exact small_fit2 (by decide)) (by rw [hc6]; exact small_q62 (by decide)) (by rw [hc6]; decide)
    rwa [show ((n6 : Nat) : Int) = 6 from by rw [hc6]; rfl] at h
  )
  have KAdd : Hid (∀ W, Calls Try.prog 16 #[.agg (natA n5), .agg (natA n6), .agg (natA n7)] W fun e w' => e = .returned (.tuple #[.agg (natA n4), .int .i64 0]) ∧ Below W.heap.size W w') := Lib.hid (by
    intro W
    exact madd_ok W (by rw [hc7]; exact small_fit2 (by decide)) (by rw [hc7]; decide) (by rw [hc5]; exact small_fit2 (by decide)) (by rw [hc6]; exact small_fit2 (by decide)) (by rw [hc5, hc6, hc7, hc4])
  )
  have KSub : Hid (∀ W, Calls Try.prog 18 #[.agg (natA n5), .agg (natA n6), .agg (natA n7)] W fun e w' => e = .returned (.tuple #[.agg (natA n6), .int .i64 0]) ∧ Below W.heap.size W w') := Lib.hid (by
    intro W
    exact msub_ok W (by rw [hc7]; exact small_fit2 (by decide)) (by rw [hc7]; decide) (by rw [hc5]; exact small_fit2 (by decide)) (by rw [hc6]; exact small_fit2 (by decide)) (by rw [hc5, hc6, hc7])
  )
  have KMul : Hid (∀ W, Calls Try.prog 17 #[.agg (natA n5), .agg (natA n6), .agg (natA n7)] W fun e w' => e = .returned (.tuple #[.agg (natA n2), .int .i64 0]) ∧ Below W.heap.size W w') := Lib.hid (by
    intro W
    exact mmul_ok W (by rw [hc7]; exact small_fit2 (by decide)) (by rw [hc7]; decide) (by rw [hc5]; exact small_fit2 (by decide)) (by rw [hc6]; exact small_fit2 (by decide)) (by rw [hc5, hc6, hc7, hc2])
  )
  have KExp : Hid (∀ W, Calls Try.prog 21 #[.agg (natA n3), .agg (natA n4), .agg (natA n7)] W fun e w' => e = .returned (.tuple #[.agg (natA n4), .int .i64 0]) ∧ Below W.heap.size W w') := Lib.hid (by
    intro W
    exact mexp_ok W (by rw [hc7]; exact small_fit2 (by decide)) (by rw [hc7]; decide) (by rw [hc3]; exact small_fit2 (by decide)) (by rw [hc4]; exact small_fit2 (by decide)) (by rw [hc3, hc4, hc7])
  )
  have KExpZ : Hid (∀ W, Calls Try.prog 21 #[.agg (natA n3), .agg z0, .agg (natA n1)] W fun e w' => e = .returned (.tuple #[.agg (natA n0), .int .i64 0]) ∧ Below W.heap.size W w') := Lib.hid (by
    intro W
    have h := mexp_ok (m := n1) (a := n3) (x := 0) (r := n0) W (by rw [hc1]; exact small_fit2 (by decide)) (by rw [hc1]; decide) (by rw [hc3]; exact small_fit2 (by decide)) Fit.zero (by rw [hc3, hc1, hc0])
    rwa [natA_zero] at h
  )
  have KInv : Hid (∀ W, Calls Try.prog 27 #[.agg (natA n3), .agg (natA n7)] W fun e w' => e = .returned (.tuple #[.agg (natA n5), .int .i64 0]) ∧ Below W.heap.size W w') := Lib.hid (by
    intro W
    exact inverse_is W (by rw [hc7]; exact small_fit2 (by decide)) (by rw [hc7]; decide) (by rw [hc3]; exact small_fit2 (by decide)) (by rw [hc3, hc7, hc5]; decide)
  )
  have KInvN : Hid (∀ W, Calls Try.prog 27 #[.agg (natA n2), .agg (natA n4)] W fun e w' => e = .returned (.tuple #[.agg (natA 0), .int .i64 9]) ∧ Below W.heap.size W w') := Lib.hid (by
    intro W
    exact inverse_no (r := (invS n4 n2).1) (x := (invS n4 n2).2) W (by rw [hc4]; exact small_fit2 (by decide)) (by rw [hc4]; decide) (by rw [hc2]; exact small_fit2 (by decide)) rfl (by rw [hc2, hc4]; decide)
  )
  have KInv1 : Hid (∀ W, Calls Try.prog 27 #[.agg z0, .agg (natA n1)] W fun e w' => e = .returned (.tuple #[.agg (natA n0), .int .i64 0]) ∧ Below W.heap.size W w') := Lib.hid (by
    intro W
    have h := inverse_is (m := n1) (a := 0) (x := n0) W (by rw [hc1]; exact small_fit2 (by decide)) (by rw [hc1]; decide) Fit.zero (by rw [hc1, hc0]; decide)
    rwa [natA_zero] at h
  )
  have KInvZ : Hid (∀ W, Calls Try.prog 27 #[.agg (natA n5), .agg z0] W fun e w' => e = .returned (.tuple #[.agg (natA 0), .int .i64 2]) ∧ Below W.heap.size W w') := Lib.hid (by
    intro W
    obtain ⟨z, hz⟩ : ∃ z : Nat, z = 0 := ⟨_, rfl⟩
    have h := inverse_zero (m := z) (a := n5) W hz
    have hz2 : natA z = z0 := by rw [hz, natA_zero]
    rwa [hz2] at h
  )
  have KP1 : Hid (∀ W, Calls Try.prog 11 #[.int .i64 1] W fun e w' => e = .returned (.tuple #[.bool false, .int .i64 0]) ∧ Below W.heap.size W w') := Lib.hid (by
    intro W
    refine (prime_any 1 W).mono ?_
    rintro e w' ⟨b, c, rfl, hb, -, -, hx⟩
    obtain ⟨rfl, hz⟩ := hx (by decide) (by decide)
    have hz' : b = false := bool_false (fun h => not_isP_one (hz.1 h))
    rw [hz']
    exact ⟨rfl, hb⟩
  )
  have KP2 : Hid (∀ W, Calls Try.prog 11 #[.int .i64 2] W fun e w' => e = .returned (.tuple #[.bool true, .int .i64 0]) ∧ Below W.heap.size W w') := Lib.hid (by
    intro W
    refine (prime_any 2 W).mono ?_
    rintro e w' ⟨b, c, rfl, hb, -, -, hx⟩
    obtain ⟨rfl, hz⟩ := hx (by decide) (by decide)
    have hz' : b = true := hz.2 isP_two
    rw [hz']
    exact ⟨rfl, hb⟩
  )
  have KP3 : Hid (∀ W, Calls Try.prog 11 #[.int .i64 2879] W fun e w' => e = .returned (.tuple #[.bool true, .int .i64 0]) ∧ Below W.heap.size W w') := Lib.hid (by
    intro W
    refine (prime_any 2879 W).mono ?_
    rintro e w' ⟨b, c, rfl, hb, -, -, hx⟩
    obtain ⟨rfl, hz⟩ := hx (by decide) (by decide)
    have hz' : b = true := hz.2 isP_2879
    rw [hz']
    exact ⟨rfl, hb⟩
  )
  have KPm : Hid (∀ W, Calls Try.prog 11 #[.int .i64 (-1)] W fun e w' => e = .returned (.tuple #[.bool false, .int .i64 2]) ∧ Below W.heap.size W w') := Lib.hid (by
    intro W
    refine (prime_any (-1) W).mono ?_
    rintro e w' ⟨b, c, rfl, hb, hx, -, -⟩
    obtain ⟨rfl, rfl⟩ := hx (by decide)
    exact ⟨rfl, hb⟩
  )
  clear hc0 hc1 hc2 hc3 hc4 hc5 hc6 hc7
  refine (callsIn_wide (n := 8)).1 ?_
  refine callsIn_of_wp_marks Try.func10 rfl trivial ?_ rfl
  refine wpIn_wide.2 ?_
  simp only [Try.ntmps10, List.size_toArray, List.length_cons, List.length_nil, Nat.reduceAdd, Nat.reduceSub, Array.replicate_succ, Array.replicate_zero, List.push_toArray, List.append_toArray, List.nil_append, List.cons_append]
  go_wp2_with fail
  refine (KI5.out _).mono ?_
  rintro e p1 ⟨rfl, hb⟩
  have W_1 := Lib.hid (hb)
  clear hb 
  go_wp2_with fail
  refine (KI6.out _).mono ?_
  rintro e p2 ⟨rfl, hb⟩
  have W_2 := Lib.hid (W_1.out.trans (hb.mono W_1.out.size))
  clear hb W_1
  go_wp2_with fail
  refine (KI7.out _).mono ?_
  rintro e p3 ⟨rfl, hb⟩
  have W_3 := Lib.hid (W_2.out.trans (hb.mono W_2.out.size))
  clear hb W_2
  go_wp2_with fail
  refine (KAdd.out _).mono ?_
  rintro e p4 ⟨rfl, hb⟩
  have XT0_4 := Lib.hid (NatAt.zero p4)
  have XA_4 := Lib.hid (below_zero hb hb.size)
  have hsz_4 : Hid (p3.heap.size ≤ p4.heap.size) := Lib.hid hb.size
  clear hb
  go_wp2_with (first | go_skip | (refine wpl_stN ntNat rfl rfl rfl rfl XT0_4.out ?_; intro q4 hn hg; have XB0_4 := Lib.hid (XA_4.out.grown hg XA_4.out.size (fun j e => by injection e with e; rw [← e]; have := hsz_4.out; omega)); have XS00_4 := Lib.hid hn; have W_4 := Lib.hid (W_3.out.trans (XB0_4.out.mono W_3.out.size)); have A_4 := XS00_4; clear hn hg W_3 XT0_4 XA_4 XS00_4 XB0_4 hsz_4) | (refine wpl_ldN ntNat rfl rfl rfl A_4.out ?_) | (refine wpl_ldN_g ntNat ?hw rfl rfl A_4.out ?_; (case hw => rfl)))
  refine (KI5.out _).mono ?_
  rintro e p5 ⟨rfl, hb⟩
  have A_5 := Lib.hid (A_4.out.below hb)
  have W_5 := Lib.hid (W_4.out.trans (hb.mono W_4.out.size))
  clear hb A_4 W_4
  go_wp2_with (first | go_skip | (refine wpl_ldN ntNat rfl rfl rfl A_5.out ?_) | (refine wpl_ldN_g ntNat ?hw rfl rfl A_5.out ?_; (case hw => rfl)))
  refine (KI6.out _).mono ?_
  rintro e p6 ⟨rfl, hb⟩
  have A_6 := Lib.hid (A_5.out.below hb)
  have W_6 := Lib.hid (W_5.out.trans (hb.mono W_5.out.size))
  clear hb A_5 W_5
  go_wp2_with (first | go_skip | (refine wpl_ldN ntNat rfl rfl rfl A_6.out ?_) | (refine wpl_ldN_g ntNat ?hw rfl rfl A_6.out ?_; (case hw => rfl)))
  refine (KI7.out _).mono ?_
  rintro e p7 ⟨rfl, hb⟩
  have A_7 := Lib.hid (A_6.out.below hb)
  have W_7 := Lib.hid (W_6.out.trans (hb.mono W_6.out.size))
  clear hb A_6 W_6
  go_wp2_with (first | go_skip | (refine wpl_ldN ntNat rfl rfl rfl A_7.out ?_) | (refine wpl_ldN_g ntNat ?hw rfl rfl A_7.out ?_; (case hw => rfl)))
  refine (KSub.out _).mono ?_
  rintro e p8 ⟨rfl, hb⟩
  have XT0_8 := Lib.hid (NatAt.zero p8)
  have XA_8 := Lib.hid (below_zero hb hb.size)
  have hsz_8 : Hid (p7.heap.size ≤ p8.heap.size) := Lib.hid hb.size
  clear hb
  go_wp2_with (first | go_skip | (refine wpl_stN ntNat rfl rfl rfl rfl XT0_8.out ?_; intro q8 hn hg; have XB0_8 := Lib.hid (XA_8.out.grown hg XA_8.out.size (fun j e => by injection e with e; rw [← e]; have := hsz_8.out; omega)); have XS00_8 := Lib.hid hn; have A_8 := Lib.hid (A_7.out.below XB0_8.out); have W_8 := Lib.hid (W_7.out.trans (XB0_8.out.mono W_7.out.size)); have B_8 := XS00_8; clear hn hg A_7 W_7 XT0_8 XA_8 XS00_8 XB0_8 hsz_8) | (refine wpl_ldN ntNat rfl rfl rfl A_8.out ?_) | (refine wpl_ldN_g ntNat ?hw rfl rfl A_8.out ?_; (case hw => rfl)) | (refine wpl_ldN ntNat rfl rfl rfl B_8.out ?_) | (refine wpl_ldN_g ntNat ?hw rfl rfl B_8.out ?_; (case hw => rfl)))
  refine (KI5.out _).mono ?_
  rintro e p9 ⟨rfl, hb⟩
  have A_9 := Lib.hid (A_8.out.below hb)
  have B_9 := Lib.hid (B_8.out.below hb)
  have W_9 := Lib.hid (W_8.out.trans (hb.mono W_8.out.size))
  clear hb A_8 B_8 W_8
  go_wp2_with (first | go_skip | (refine wpl_ldN ntNat rfl rfl rfl A_9.out ?_) | (refine wpl_ldN_g ntNat ?hw rfl rfl A_9.out ?_; (case hw => rfl)) | (refine wpl_ldN ntNat rfl rfl rfl B_9.out ?_) | (refine wpl_ldN_g ntNat ?hw rfl rfl B_9.out ?_; (case hw => rfl)))
  refine (KI6.out _).mono ?_
  rintro e p10 ⟨rfl, hb⟩
  have A_10 := Lib.hid (A_9.out.below hb)
  have B_10 := Lib.hid (B_9.out.below hb)
  have W_10 := Lib.hid (W_9.out.trans (hb.mono W_9.out.size))
  clear hb A_9 B_9 W_9
  go_wp2_with (first | go_skip | (refine wpl_ldN ntNat rfl rfl rfl A_10.out ?_) | (refine wpl_ldN_g ntNat ?hw rfl rfl A_10.out ?_; (case hw => rfl)) | (refine wpl_ldN ntNat rfl rfl rfl B_10.out ?_) | (refine wpl_ldN_g ntNat ?hw rfl rfl B_10.out ?_; (case hw => rfl)))
  refine (KI7.out _).mono ?_
  rintro e p11 ⟨rfl, hb⟩
  have A_11 := Lib.hid (A_10.out.below hb)
  have B_11 := Lib.hid (B_10.out.below hb)
  have W_11 := Lib.hid (W_10.out.trans (hb.mono W_10.out.size))
  clear hb A_10 B_10 W_10
  go_wp2_with (first | go_skip | (refine wpl_ldN ntNat rfl rfl rfl A_11.out ?_) | (refine wpl_ldN_g ntNat ?hw rfl rfl A_11.out ?_; (case hw => rfl)) | (refine wpl_ldN ntNat rfl rfl rfl B_11.out ?_) | (refine wpl_ldN_g ntNat ?hw rfl rfl B_11.out ?_; (case hw => rfl)))
  refine (KMul.out _).mono ?_
  rintro e p12 ⟨rfl, hb⟩
  have XT0_12 := Lib.hid (NatAt.zero p12)
  have XA_12 := Lib.hid (below_zero hb hb.size)
  have hsz_12 : Hid (p11.heap.size ≤ p12.heap.size) := Lib.hid hb.size
  clear hb
  go_wp2_with (first | go_skip | (refine wpl_stN ntNat rfl rfl rfl rfl XT0_12.out ?_; intro q12 hn hg; have XB0_12 := Lib.hid (XA_12.out.grown hg XA_12.out.size (fun j e => by injection e with e; rw [← e]; have := hsz_12.out; omega)); have XS00_12 := Lib.hid hn; have A_12 := Lib.hid (A_11.out.below XB0_12.out); have B_12 := Lib.hid (B_11.out.below XB0_12.out); have W_12 := Lib.hid (W_11.out.trans (XB0_12.out.mono W_11.out.size)); have C_12 := XS00_12; clear hn hg A_11 B_11 W_11 XT0_12 XA_12 XS00_12 XB0_12 hsz_12) | (refine wpl_ldN ntNat rfl rfl rfl A_12.out ?_) | (refine wpl_ldN_g ntNat ?hw rfl rfl A_12.out ?_; (case hw => rfl)) | (refine wpl_ldN ntNat rfl rfl rfl B_12.out ?_) | (refine wpl_ldN_g ntNat ?hw rfl rfl B_12.out ?_; (case hw => rfl)) | (refine wpl_ldN ntNat rfl rfl rfl C_12.out ?_) | (refine wpl_ldN_g ntNat ?hw rfl rfl C_12.out ?_; (case hw => rfl)))
  refine (KI3.out _).mono ?_
  rintro e p13 ⟨rfl, hb⟩
  have A_13 := Lib.hid (A_12.out.below hb)
  have B_13 := Lib.hid (B_12.out.below hb)
  have C_13 := Lib.hid (C_12.out.below hb)
  have W_13 := Lib.hid (W_12.out.trans (hb.mono W_12.out.size))
  clear hb A_12 B_12 C_12 W_12
  go_wp2_with (first | go_skip | (refine wpl_ldN ntNat rfl rfl rfl A_13.out ?_) | (refine wpl_ldN_g ntNat ?hw rfl rfl A_13.out ?_; (case hw => rfl)) | (refine wpl_ldN ntNat rfl rfl rfl B_13.out ?_) | (refine wpl_ldN_g ntNat ?hw rfl rfl B_13.out ?_; (case hw => rfl)) | (refine wpl_ldN ntNat rfl rfl rfl C_13.out ?_) | (refine wpl_ldN_g ntNat ?hw rfl rfl C_13.out ?_; (case hw => rfl)))
  refine (KI4.out _).mono ?_
  rintro e p14 ⟨rfl, hb⟩
  have A_14 := Lib.hid (A_13.out.below hb)
  have B_14 := Lib.hid (B_13.out.below hb)
  have C_14 := Lib.hid (C_13.out.below hb)
  have W_14 := Lib.hid (W_13.out.trans (hb.mono W_13.out.size))
  clear hb A_13 B_13 C_13 W_13
  go_wp2_with (first | go_skip | (refine wpl_ldN ntNat rfl rfl rfl A_14.out ?_) | (refine wpl_ldN_g ntNat ?hw rfl rfl A_14.out ?_; (case hw => rfl)) | (refine wpl_ldN ntNat rfl rfl rfl B_14.out ?_) | (refine wpl_ldN_g ntNat ?hw rfl rfl B_14.out ?_; (case hw => rfl)) | (refine wpl_ldN ntNat rfl rfl rfl C_14.out ?_) | (refine wpl_ldN_g ntNat ?hw rfl rfl C_14.out ?_; (case hw => rfl)))
  refine (KI7.out _).mono ?_
  rintro e p15 ⟨rfl, hb⟩
  have A_15 := Lib.hid (A_14.out.below hb)
  have B_15 := Lib.hid (B_14.out.below hb)
  have C_15 := Lib.hid (C_14.out.below hb)
  have W_15 := Lib.hid (W_14.out.trans (hb.mono W_14.out.size))
  clear hb A_14 B_14 C_14 W_14
  go_wp2_with (first | go_skip | (refine wpl_ldN ntNat rfl rfl rfl A_15.out ?_) | (refine wpl_ldN_g ntNat ?hw rfl rfl A_15.out ?_; (case hw => rfl)) | (refine wpl_ldN ntNat rfl rfl rfl B_15.out ?_) | (refine wpl_ldN_g ntNat ?hw rfl rfl B_15.out ?_; (case hw => rfl)) | (refine wpl_ldN ntNat rfl rfl rfl C_15.out ?_) | (refine wpl_ldN_g ntNat ?hw rfl rfl C_15.out ?_; (case hw => rfl)))
  refine (KExp.out _).mono ?_
  rintro e p16 ⟨rfl, hb⟩
  have XT0_16 := Lib.hid (NatAt.zero p16)
  have XA_16 := Lib.hid (below_zero hb hb.size)
  have hsz_16 : Hid (p15.heap.size ≤ p16.heap.size) := Lib.hid hb.size
  clear hb
  go_wp2_with (first | go_skip | (refine wpl_stN ntNat rfl rfl rfl rfl XT0_16.out ?_; intro q16 hn hg; have XB0_16 := Lib.hid (XA_16.out.grown hg XA_16.out.size (fun j e => by injection e with e; rw [← e]; have := hsz_16.out; omega)); have XS00_16 := Lib.hid hn; have A_16 := Lib.hid (A_15.out.below XB0_16.out); have B_16 := Lib.hid (B_15.out.below XB0_16.out); have C_16 := Lib.hid (C_15.out.below XB0_16.out); have W_16 := Lib.hid (W_15.out.trans (XB0_16.out.mono W_15.out.size)); have D_16 := XS00_16; clear hn hg A_15 B_15 C_15 W_15 XT0_16 XA_16 XS00_16 XB0_16 hsz_16) | (refine wpl_ldN ntNat rfl rfl rfl A_16.out ?_) | (refine wpl_ldN_g ntNat ?hw rfl rfl A_16.out ?_; (case hw => rfl)) | (refine wpl_ldN ntNat rfl rfl rfl B_16.out ?_) | (refine wpl_ldN_g ntNat ?hw rfl rfl B_16.out ?_; (case hw => rfl)) | (refine wpl_ldN ntNat rfl rfl rfl C_16.out ?_) | (refine wpl_ldN_g ntNat ?hw rfl rfl C_16.out ?_; (case hw => rfl)) | (refine wpl_ldN ntNat rfl rfl rfl D_16.out ?_) | (refine wpl_ldN_g ntNat ?hw rfl rfl D_16.out ?_; (case hw => rfl)))
  refine (KI3.out _).mono ?_
  rintro e p17 ⟨rfl, hb⟩
  have A_17 := Lib.hid (A_16.out.below hb)
  have B_17 := Lib.hid (B_16.out.below hb)
  have C_17 := Lib.hid (C_16.out.below hb)
  have D_17 := Lib.hid (D_16.out.below hb)
  have W_17 := Lib.hid (W_16.out.trans (hb.mono W_16.out.size))
  clear hb A_16 B_16 C_16 D_16 W_16
  go_wp2_with (first | go_skip | (refine wpl_ldN ntNat rfl rfl rfl A_17.out ?_) | (refine wpl_ldN_g ntNat ?hw rfl rfl A_17.out ?_; (case hw => rfl)) | (refine wpl_ldN ntNat rfl rfl rfl B_17.out ?_) | (refine wpl_ldN_g ntNat ?hw rfl rfl B_17.out ?_; (case hw => rfl)) | (refine wpl_ldN ntNat rfl rfl rfl C_17.out ?_) | (refine wpl_ldN_g ntNat ?hw rfl rfl C_17.out ?_; (case hw => rfl)) | (refine wpl_ldN ntNat rfl rfl rfl D_17.out ?_) | (refine wpl_ldN_g ntNat ?hw rfl rfl D_17.out ?_; (case hw => rfl)))
  refine (KI1.out _).mono ?_
  rintro e p18 ⟨rfl, hb⟩
  have A_18 := Lib.hid (A_17.out.below hb)
  have B_18 := Lib.hid (B_17.out.below hb)
  have C_18 := Lib.hid (C_17.out.below hb)
  have D_18 := Lib.hid (D_17.out.below hb)
  have W_18 := Lib.hid (W_17.out.trans (hb.mono W_17.out.size))
  clear hb A_17 B_17 C_17 D_17 W_17
  go_wp2_with (first | go_skip | (refine wpl_ldN ntNat rfl rfl rfl A_18.out ?_) | (refine wpl_ldN_g ntNat ?hw rfl rfl A_18.out ?_; (case hw => rfl)) | (refine wpl_ldN ntNat rfl rfl rfl B_18.out ?_) | (refine wpl_ldN_g ntNat ?hw rfl rfl B_18.out ?_; (case hw => rfl)) | (refine wpl_ldN ntNat rfl rfl rfl C_18.out ?_) | (refine wpl_ldN_g ntNat ?hw rfl rfl C_18.out ?_; (case hw => rfl)) | (refine wpl_ldN ntNat rfl rfl rfl D_18.out ?_) | (refine wpl_ldN_g ntNat ?hw rfl rfl D_18.out ?_; (case hw => rfl)))
  refine (KExpZ.out _).mono ?_
  rintro e p19 ⟨rfl, hb⟩
  have XT0_19 := Lib.hid (NatAt.zero p19)
  have XA_19 := Lib.hid (below_zero hb hb.size)
  have hsz_19 : Hid (p18.heap.size ≤ p19.heap.size) := Lib.hid hb.size
  clear hb
  go_wp2_with (first | go_skip | (refine wpl_stN ntNat rfl rfl rfl rfl XT0_19.out ?_; intro q19 hn hg; have XB0_19 := Lib.hid (XA_19.out.grown hg XA_19.out.size (fun j e => by injection e with e; rw [← e]; have := hsz_19.out; omega)); have XS00_19 := Lib.hid hn; have A_19 := Lib.hid (A_18.out.below XB0_19.out); have B_19 := Lib.hid (B_18.out.below XB0_19.out); have C_19 := Lib.hid (C_18.out.below XB0_19.out); have D_19 := Lib.hid (D_18.out.below XB0_19.out); have W_19 := Lib.hid (W_18.out.trans (XB0_19.out.mono W_18.out.size)); have E_19 := XS00_19; clear hn hg A_18 B_18 C_18 D_18 W_18 XT0_19 XA_19 XS00_19 XB0_19 hsz_19) | (refine wpl_ldN ntNat rfl rfl rfl A_19.out ?_) | (refine wpl_ldN_g ntNat ?hw rfl rfl A_19.out ?_; (case hw => rfl)) | (refine wpl_ldN ntNat rfl rfl rfl B_19.out ?_) | (refine wpl_ldN_g ntNat ?hw rfl rfl B_19.out ?_; (case hw => rfl)) | (refine wpl_ldN ntNat rfl rfl rfl C_19.out ?_) | (refine wpl_ldN_g ntNat ?hw rfl rfl C_19.out ?_; (case hw => rfl)) | (refine wpl_ldN ntNat rfl rfl rfl D_19.out ?_) | (refine wpl_ldN_g ntNat ?hw rfl rfl D_19.out ?_; (case hw => rfl)) | (refine wpl_ldN ntNat rfl rfl rfl E_19.out ?_) | (refine wpl_ldN_g ntNat ?hw rfl rfl E_19.out ?_; (case hw => rfl)))
  refine (KR4.out _).mono ?_
  rintro e p20 ⟨rfl, hb⟩
  have A_20 := Lib.hid (A_19.out.below hb)
  have B_20 := Lib.hid (B_19.out.below hb)
  have C_20 := Lib.hid (C_19.out.below hb)
  have D_20 := Lib.hid (D_19.out.below hb)
  have E_20 := Lib.hid (E_19.out.below hb)
  have W_20 := Lib.hid (W_19.out.trans (hb.mono W_19.out.size))
  clear hb A_19 B_19 C_19 D_19 E_19 W_19
  go_wp2_with (first | go_skip | (refine wpl_ldN ntNat rfl rfl rfl A_20.out ?_) | (refine wpl_ldN_g ntNat ?hw rfl rfl A_20.out ?_; (case hw => rfl)) | (refine wpl_ldN ntNat rfl rfl rfl B_20.out ?_) | (refine wpl_ldN_g ntNat ?hw rfl rfl B_20.out ?_; (case hw => rfl)) | (refine wpl_ldN ntNat rfl rfl rfl C_20.out ?_) | (refine wpl_ldN_g ntNat ?hw rfl rfl C_20.out ?_; (case hw => rfl)) | (refine wpl_ldN ntNat rfl rfl rfl D_20.out ?_) | (refine wpl_ldN_g ntNat ?hw rfl rfl D_20.out ?_; (case hw => rfl)) | (refine wpl_ldN ntNat rfl rfl rfl E_20.out ?_) | (refine wpl_ldN_g ntNat ?hw rfl rfl E_20.out ?_; (case hw => rfl)))
  refine (KR6.out _).mono ?_
  rintro e p21 ⟨rfl, hb⟩
  have A_21 := Lib.hid (A_20.out.below hb)
  have B_21 := Lib.hid (B_20.out.below hb)
  have C_21 := Lib.hid (C_20.out.below hb)
  have D_21 := Lib.hid (D_20.out.below hb)
  have E_21 := Lib.hid (E_20.out.below hb)
  have W_21 := Lib.hid (W_20.out.trans (hb.mono W_20.out.size))
  clear hb A_20 B_20 C_20 D_20 E_20 W_20
  go_wp2_with (first | go_skip | (refine wpl_ldN ntNat rfl rfl rfl A_21.out ?_) | (refine wpl_ldN_g ntNat ?hw rfl rfl A_21.out ?_; (case hw => rfl)) | (refine wpl_ldN ntNat rfl rfl rfl B_21.out ?_) | (refine wpl_ldN_g ntNat ?hw rfl rfl B_21.out ?_; (case hw => rfl)) | (refine wpl_ldN ntNat rfl rfl rfl C_21.out ?_) | (refine wpl_ldN_g ntNat ?hw rfl rfl C_21.out ?_; (case hw => rfl)) | (refine wpl_ldN ntNat rfl rfl rfl D_21.out ?_) | (refine wpl_ldN_g ntNat ?hw rfl rfl D_21.out ?_; (case hw => rfl)) | (refine wpl_ldN ntNat rfl rfl rfl E_21.out ?_) | (refine wpl_ldN_g ntNat ?hw rfl rfl E_21.out ?_; (case hw => rfl)))
  refine (KR2.out _).mono ?_
  rintro e p22 ⟨rfl, hb⟩
  have A_22 := Lib.hid (A_21.out.below hb)
  have B_22 := Lib.hid (B_21.out.below hb)
  have C_22 := Lib.hid (C_21.out.below hb)
  have D_22 := Lib.hid (D_21.out.below hb)
  have E_22 := Lib.hid (E_21.out.below hb)
  have W_22 := Lib.hid (W_21.out.trans (hb.mono W_21.out.size))
  clear hb A_21 B_21 C_21 D_21 E_21 W_21
  go_wp2_with (first | go_skip | (refine wpl_ldN ntNat rfl rfl rfl A_22.out ?_) | (refine wpl_ldN_g ntNat ?hw rfl rfl A_22.out ?_; (case hw => rfl)) | (refine wpl_ldN ntNat rfl rfl rfl B_22.out ?_) | (refine wpl_ldN_g ntNat ?hw rfl rfl B_22.out ?_; (case hw => rfl)) | (refine wpl_ldN ntNat rfl rfl rfl C_22.out ?_) | (refine wpl_ldN_g ntNat ?hw rfl rfl C_22.out ?_; (case hw => rfl)) | (refine wpl_ldN ntNat rfl rfl rfl D_22.out ?_) | (refine wpl_ldN_g ntNat ?hw rfl rfl D_22.out ?_; (case hw => rfl)) | (refine wpl_ldN ntNat rfl rfl rfl E_22.out ?_) | (refine wpl_ldN_g ntNat ?hw rfl rfl E_22.out ?_; (case hw => rfl)))
  refine (KR4.out _).mono ?_
  rintro e p23 ⟨rfl, hb⟩
  have A_23 := Lib.hid (A_22.out.below hb)
  have B_23 := Lib.hid (B_22.out.below hb)
  have C_23 := Lib.hid (C_22.out.below hb)
  have D_23 := Lib.hid (D_22.out.below hb)
  have E_23 := Lib.hid (E_22.out.below hb)
  have W_23 := Lib.hid (W_22.out.trans (hb.mono W_22.out.size))
  clear hb A_22 B_22 C_22 D_22 E_22 W_22
  go_wp2_with (first | go_skip | (refine wpl_ldN ntNat rfl rfl rfl A_23.out ?_) | (refine wpl_ldN_g ntNat ?hw rfl rfl A_23.out ?_; (case hw => rfl)) | (refine wpl_ldN ntNat rfl rfl rfl B_23.out ?_) | (refine wpl_ldN_g ntNat ?hw rfl rfl B_23.out ?_; (case hw => rfl)) | (refine wpl_ldN ntNat rfl rfl rfl C_23.out ?_) | (refine wpl_ldN_g ntNat ?hw rfl rfl C_23.out ?_; (case hw => rfl)) | (refine wpl_ldN ntNat rfl rfl rfl D_23.out ?_) | (refine wpl_ldN_g ntNat ?hw rfl rfl D_23.out ?_; (case hw => rfl)) | (refine wpl_ldN ntNat rfl rfl rfl E_23.out ?_) | (refine wpl_ldN_g ntNat ?hw rfl rfl E_23.out ?_; (case hw => rfl)))
  refine (KR0.out _).mono ?_
  rintro e p24 ⟨rfl, hb⟩
  have A_24 := Lib.hid (A_23.out.below hb)
  have B_24 := Lib.hid (B_23.out.below hb)
  have C_24 := Lib.hid (C_23.out.below hb)
  have D_24 := Lib.hid (D_23.out.below hb)
  have E_24 := Lib.hid (E_23.out.below hb)
  have W_24 := Lib.hid (W_23.out.trans (hb.mono W_23.out.size))
  clear hb A_23 B_23 C_23 D_23 E_23 W_23
  go_wp2_with (first | go_skip | (refine wpl_ldN ntNat rfl rfl rfl A_24.out ?_) | (refine wpl_ldN_g ntNat ?hw rfl rfl A_24.out ?_; (case hw => rfl)) | (refine wpl_ldN ntNat rfl rfl rfl B_24.out ?_) | (refine wpl_ldN_g ntNat ?hw rfl rfl B_24.out ?_; (case hw => rfl)) | (refine wpl_ldN ntNat rfl rfl rfl C_24.out ?_) | (refine wpl_ldN_g ntNat ?hw rfl rfl C_24.out ?_; (case hw => rfl)) | (refine wpl_ldN ntNat rfl rfl rfl D_24.out ?_) | (refine wpl_ldN_g ntNat ?hw rfl rfl D_24.out ?_; (case hw => rfl)) | (refine wpl_ldN ntNat rfl rfl rfl E_24.out ?_) | (refine wpl_ldN_g ntNat ?hw rfl rfl E_24.out ?_; (case hw => rfl)))
  clear A_24
  clear B_24
  clear C_24
  clear D_24
  clear E_24
  refine (KI3.out _).mono ?_
  rintro e p25 ⟨rfl, hb⟩
  have W_25 := Lib.hid (W_24.out.trans (hb.mono W_24.out.size))
  clear hb W_24
  go_wp2_with fail
  refine (KI7.out _).mono ?_
  rintro e p26 ⟨rfl, hb⟩
  have W_26 := Lib.hid (W_25.out.trans (hb.mono W_25.out.size))
  clear hb W_25
  go_wp2_with fail
  refine (KInv.out _).mono ?_
  rintro e p27 ⟨rfl, hb⟩
  have XT0_27 := Lib.hid (NatAt.zero p27)
  have XA_27 := Lib.hid (below_zero hb hb.size)
  have hsz_27 : Hid (p26.heap.size ≤ p27.heap.size) := Lib.hid hb.size
  clear hb
  go_wp2_with (first | go_skip | (refine wpl_stN ntNat rfl rfl rfl rfl XT0_27.out ?_; intro q27 hn hg; have XB0_27 := Lib.hid (XA_27.out.grown hg XA_27.out.size (fun j e => by injection e with e; rw [← e]; have := hsz_27.out; omega)); have XS00_27 := Lib.hid hn; have W_27 := Lib.hid (W_26.out.trans (XB0_27.out.mono W_26.out.size)); have X_27 := XS00_27; clear hn hg W_26 XT0_27 XA_27 XS00_27 XB0_27 hsz_27) | (refine wpl_ldN ntNat rfl rfl rfl X_27.out ?_) | (refine wpl_ldN_g ntNat ?hw rfl rfl X_27.out ?_; (case hw => rfl)))
  refine (KI2.out _).mono ?_
  rintro e p28 ⟨rfl, hb⟩
  have X_28 := Lib.hid (X_27.out.below hb)
  have W_28 := Lib.hid (W_27.out.trans (hb.mono W_27.out.size))
  clear hb X_27 W_27
  go_wp2_with (first | go_skip | (refine wpl_ldN ntNat rfl rfl rfl X_28.out ?_) | (refine wpl_ldN_g ntNat ?hw rfl rfl X_28.out ?_; (case hw => rfl)))
  refine (KI4.out _).mono ?_
  rintro e p29 ⟨rfl, hb⟩
  have X_29 := Lib.hid (X_28.out.below hb)
  have W_29 := Lib.hid (W_28.out.trans (hb.mono W_28.out.size))
  clear hb X_28 W_28
  go_wp2_with (first | go_skip | (refine wpl_ldN ntNat rfl rfl rfl X_29.out ?_) | (refine wpl_ldN_g ntNat ?hw rfl rfl X_29.out ?_; (case hw => rfl)))
  refine (KInvN.out _).mono ?_
  rintro e p30 ⟨rfl, hb⟩
  have XT0_30 := Lib.hid (NatAt.zero p30)
  have XA_30 := Lib.hid (below_zero hb hb.size)
  have hsz_30 : Hid (p29.heap.size ≤ p30.heap.size) := Lib.hid hb.size
  clear hb
  go_wp2_with (first | go_skip | (refine wpl_stN ntNat rfl rfl rfl rfl XT0_30.out ?_; intro q30 hn hg; have XB0_30 := Lib.hid (XA_30.out.grown hg XA_30.out.size (fun j e => by injection e with e; rw [← e]; have := hsz_30.out; omega)); have XS00_30 := Lib.hid hn; have X_30 := Lib.hid (X_29.out.below XB0_30.out); have W_30 := Lib.hid (W_29.out.trans (XB0_30.out.mono W_29.out.size)); clear hn hg X_29 W_29 XT0_30 XA_30 XS00_30 XB0_30 hsz_30) | (refine wpl_ldN ntNat rfl rfl rfl X_30.out ?_) | (refine wpl_ldN_g ntNat ?hw rfl rfl X_30.out ?_; (case hw => rfl)))
  refine (KI1.out _).mono ?_
  rintro e p31 ⟨rfl, hb⟩
  have X_31 := Lib.hid (X_30.out.below hb)
  have W_31 := Lib.hid (W_30.out.trans (hb.mono W_30.out.size))
  clear hb X_30 W_30
  go_wp2_with (first | go_skip | (refine wpl_ldN ntNat rfl rfl rfl X_31.out ?_) | (refine wpl_ldN_g ntNat ?hw rfl rfl X_31.out ?_; (case hw => rfl)))
  refine (KInv1.out _).mono ?_
  rintro e p32 ⟨rfl, hb⟩
  have XT0_32 := Lib.hid (NatAt.zero p32)
  have XA_32 := Lib.hid (below_zero hb hb.size)
  have hsz_32 : Hid (p31.heap.size ≤ p32.heap.size) := Lib.hid hb.size
  clear hb
  go_wp2_with (first | go_skip | (refine wpl_stN ntNat rfl rfl rfl rfl XT0_32.out ?_; intro q32 hn hg; have XB0_32 := Lib.hid (XA_32.out.grown hg XA_32.out.size (fun j e => by injection e with e; rw [← e]; have := hsz_32.out; omega)); have XS00_32 := Lib.hid hn; have X_32 := Lib.hid (X_31.out.below XB0_32.out); have W_32 := Lib.hid (W_31.out.trans (XB0_32.out.mono W_31.out.size)); have Y_32 := XS00_32; clear hn hg X_31 W_31 XT0_32 XA_32 XS00_32 XB0_32 hsz_32) | (refine wpl_ldN ntNat rfl rfl rfl X_32.out ?_) | (refine wpl_ldN_g ntNat ?hw rfl rfl X_32.out ?_; (case hw => rfl)) | (refine wpl_ldN ntNat rfl rfl rfl Y_32.out ?_) | (refine wpl_ldN_g ntNat ?hw rfl rfl Y_32.out ?_; (case hw => rfl)))
  refine (KI5.out _).mono ?_
  rintro e p33 ⟨rfl, hb⟩
  have X_33 := Lib.hid (X_32.out.below hb)
  have Y_33 := Lib.hid (Y_32.out.below hb)
  have W_33 := Lib.hid (W_32.out.trans (hb.mono W_32.out.size))
  clear hb X_32 Y_32 W_32
  go_wp2_with (first | go_skip | (refine wpl_ldN ntNat rfl rfl rfl X_33.out ?_) | (refine wpl_ldN_g ntNat ?hw rfl rfl X_33.out ?_; (case hw => rfl)) | (refine wpl_ldN ntNat rfl rfl rfl Y_33.out ?_) | (refine wpl_ldN_g ntNat ?hw rfl rfl Y_33.out ?_; (case hw => rfl)))
  refine (KInvZ.out _).mono ?_
  rintro e p34 ⟨rfl, hb⟩
  have XT0_34 := Lib.hid (NatAt.zero p34)
  have XA_34 := Lib.hid (below_zero hb hb.size)
  have hsz_34 : Hid (p33.heap.size ≤ p34.heap.size) := Lib.hid hb.size
  clear hb
  go_wp2_with (first | go_skip | (refine wpl_stN ntNat rfl rfl rfl rfl XT0_34.out ?_; intro q34 hn hg; have XB0_34 := Lib.hid (XA_34.out.grown hg XA_34.out.size (fun j e => by injection e with e; rw [← e]; have := hsz_34.out; omega)); have XS00_34 := Lib.hid hn; have X_34 := Lib.hid (X_33.out.below XB0_34.out); have Y_34 := Lib.hid (Y_33.out.below XB0_34.out); have W_34 := Lib.hid (W_33.out.trans (XB0_34.out.mono W_33.out.size)); clear hn hg X_33 Y_33 W_33 XT0_34 XA_34 XS00_34 XB0_34 hsz_34) | (refine wpl_ldN ntNat rfl rfl rfl X_34.out ?_) | (refine wpl_ldN_g ntNat ?hw rfl rfl X_34.out ?_; (case hw => rfl)) | (refine wpl_ldN ntNat rfl rfl rfl Y_34.out ?_) | (refine wpl_ldN_g ntNat ?hw rfl rfl Y_34.out ?_; (case hw => rfl)))
  refine (KR5.out _).mono ?_
  rintro e p35 ⟨rfl, hb⟩
  have X_35 := Lib.hid (X_34.out.below hb)
  have Y_35 := Lib.hid (Y_34.out.below hb)
  have W_35 := Lib.hid (W_34.out.trans (hb.mono W_34.out.size))
  clear hb X_34 Y_34 W_34
  go_wp2_with (first | go_skip | (refine wpl_ldN ntNat rfl rfl rfl X_35.out ?_) | (refine wpl_ldN_g ntNat ?hw rfl rfl X_35.out ?_; (case hw => rfl)) | (refine wpl_ldN ntNat rfl rfl rfl Y_35.out ?_) | (refine wpl_ldN_g ntNat ?hw rfl rfl Y_35.out ?_; (case hw => rfl)))
  refine (KR0.out _).mono ?_
  rintro e p36 ⟨rfl, hb⟩
  have X_36 := Lib.hid (X_35.out.below hb)
  have Y_36 := Lib.hid (Y_35.out.below hb)
  have W_36 := Lib.hid (W_35.out.trans (hb.mono W_35.out.size))
  clear hb X_35 Y_35 W_35
  go_wp2_with (first | go_skip | (refine wpl_ldN ntNat rfl rfl rfl X_36.out ?_) | (refine wpl_ldN_g ntNat ?hw rfl rfl X_36.out ?_; (case hw => rfl)) | (refine wpl_ldN ntNat rfl rfl rfl Y_36.out ?_) | (refine wpl_ldN_g ntNat ?hw rfl rfl Y_36.out ?_; (case hw => rfl)))
  clear X_36
  clear Y_36
  refine (KP1.out _).mono ?_
  rintro e p37 ⟨rfl, hb⟩
  have W_37 := Lib.hid (W_36.out.trans (hb.mono W_36.out.size))
  clear hb W_36
  go_wp2_with fail
  refine (KP2.out _).mono ?_
  rintro e p38 ⟨rfl, hb⟩
  have W_38 := Lib.hid (W_37.out.trans (hb.mono W_37.out.size))
  clear hb W_37
  go_wp2_with fail
  refine (KP3.out _).mono ?_
  rintro e p39 ⟨rfl, hb⟩
  have W_39 := Lib.hid (W_38.out.trans (hb.mono W_38.out.size))
  clear hb W_38
  go_wp2_with fail
  refine (KPm.out _).mono ?_
  rintro e p40 ⟨rfl, hb⟩
  have W_40 := Lib.hid (W_39.out.trans (hb.mono W_39.out.size))
  clear hb W_39
  go_wp2_with fail
  refine (factors_any 12 _).mono ?_
  rintro e p41 ⟨rfl, hb, hn⟩
  have W_41 := Lib.hid (W_40.out.trans (hb.mono W_40.out.size))
  have NV := Lib.hid hn
  have NL := Lib.hid hn.lt
  generalize p40.heap.size = Bn at *
  clear hb hn W_40
  have U1 := Lib.hid (OneAt.new p41 (.int .i64 0) 3)
  have U2 := Lib.hid (NV.out.alloc (.cells #[.int .i64 0] 3))
  have U3 := Lib.hid (W_41.out.alloc W_41.out.size (.cells #[.int .i64 0] 3))
  have U4 : Hid (Bn < (p41.alloc (.cells #[.int .i64 0] 3)).heap.size) := Lib.hid (by rw [World.size_alloc]; have := NL.out; omega)
  have U5 : Hid (w.heap.size ≤ p41.heap.size) := Lib.hid W_41.out.size
  have NBU : Hid (Bn ≠ p41.heap.size) := Lib.hid (by have := NL.out; omega)
  clear NV NL W_41
  go_wp2_with (first | go_skip | (rw [run_eqF]))
  generalize (p41.alloc (.cells #[.int .i64 0] 3)) = w5 at U1 U2 U3 U4 ⊢
  generalize p41.heap.size = Bu at *
  refine (wpIn_wide (n := 8)).1 ?_
  refine wpIn_rangeFunc_own2 (F := Fence.wide) (q := 183) (q' := 184) (k := 29) (k' := 30) (e := fun x : Fac => .int .i64 (x.1.1 : Int)) (e' := fun x : Fac => .int .i64 (x.1.2 : Int)) rfl (by decide) (gf := 34) (lb := #[.pointer (some ⟨Bn, 0, none⟩)]) rfl trivial (enters_of Try.func34 (by kernel_rfl) rfl)
    (factors1_stops 12 7 Bn w5 U2.out) KeepB.trans (keepB_put U4.out) (Below.refl _ _)
    (fun pre W => (OneAt W Bu (.int .i64 (uF (pre.map (·.1)))) ∧ OneAt W Bn (.int .i64 12)) ∧ Below w.heap.size w W)
    (fun _ _ _ => False)
    (OwnFrom.and (Own.from (fun s A B row hs hg hr => ⟨hs.1.own hg hr, hs.2.own hg hr⟩) _) (ownFrom_below (Nat.le_refl _) U3.out.size))
    (fun _ _ _ _ _ hs _ _ => hs)
    ⟨⟨U1.out, U2.out⟩, U3.out⟩ ?assign ?body ?done ?stop
  case assign =>
    intro l x W K hK
    simp only [List.setIfInBounds_toArray, List.set_cons_zero, List.set_cons_succ] at hK ⊢
    gi_wp2
    exact hK
  case stop =>
    rintro D c pre W _ _ h _
    exact h.elim
  case body =>
    rintro l pre x W ⟨⟨hu, hn⟩, hB⟩ _
    simp only [List.setIfInBounds_toArray, List.set_cons_zero, List.set_cons_succ]
    have hp : (pre ++ [x]).map (·.1) = pre.map (·.1) ++ [x.1] := by simp
    have hs : uF ((pre ++ [x]).map (·.1)) = uS (uF (pre.map (·.1))) x.1 := by rw [hp, uF_snoc]
    have HS := Lib.hid hs
    generalize pre ++ [x] = pre2 at *
    generalize uF (pre.map (·.1)) = u at *
    have hc := hu.cell
    have hf := hu.frozen
    clear hp hs
    gi_wp2
    obtain ⟨hs1, hg1⟩ := hu.set (.int .i64 (uS u x.1))
    exact ⟨KeepsOthers.setCell _ _ _, KeepB.grown hg1 hn.lt (fun e => by injection e with e; exact NBU.out e.symm), ⟨by rw [HS.out]; exact hs1, hn.grown hg1 (fun e => by injection e with e; exact NBU.out e)⟩, hB.grown hg1 hB.size (fun j e => by injection e with e; have := U5.out; omega)⟩
  case done =>
    rintro D ys W hD hS ⟨⟨hu, hn⟩, hB⟩ hK
    rw [fac12 hS, uF_12] at hu
    have hc := hu.cell
    clear hn hS
    go_wp2_with fail
    refine ⟨by simp, .inl ⟨_, _, rfl, run_takeDeferred hK, ?_⟩⟩
    exact ⟨_, results_tmp rfl _ _ _, rfl, hB.trans (belowK_b (w := w) (Nat.le_refl _) W D _ _ (Nat.le_trans U3.out.size hD) hK rfl rfl)⟩
end Go.Proofs.Ytfmadiepefbepaa
