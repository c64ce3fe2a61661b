/- A scope through which a fenced run goes without a goto. No program here. · Walk: Factors and the function that it returns. -/
import Derived.Test.YtfmadiepefbepaaModL
set_option linter.unusedVariables false
set_option linter.unusedSimpArgs false
set_option maxRecDepth 20000
namespace Go.Proofs.Ytfmadiepefbepaa
open Go.RowKit Go.Shelf
attribute [local go_sem] Oper.semAt_some

section
variable {P : Program} {b : Frame} {a : Act} {k : List Item} {cs : List Frame} {w : World} {Q : Exit → Act → World → Prop} {F : Fence} {n : Nat}
theorem stepR_scope {c : Code} : step P (lone (b.atR a (.code (.scope c) :: k)) cs w) = .next (lone (b.atR a (.code c :: .inScope c :: k)) cs w) :=
  step_lone_go (by simp [stepG, stepG.exec, Frame.atR])
theorem stepR_inScope {c : Code} : step P (lone (b.atR a (.inScope c :: k)) cs w) = .next (lone (b.atR a k) cs w) :=
  step_lone_go (by simp [stepG, stepG.exec, Frame.atR])
def noGoto (Q : Exit → Act → World → Prop) : Exit → Act → World → Prop
  | .goto _, _, _ => False
  | e, a, w => Q e a w
theorem wpIn_scope {c : Code} (h : c.wpIn F n P (noGoto Q) a w) : (Code.scope c).wpIn F n P Q a w := by
  intro b k cs hro hb hr
  have h0 : (lone (b.atR a (.code (.scope c) :: k)) cs w).fenced P F := fenced_calm hb hr rfl
  obtain ⟨e, a₁, w₁, hq, harr⟩ := h b (.inScope c :: k) cs hro hb hr
  cases e with
  | normal => exact ⟨.normal, a₁, w₁, hq, .head h0 stepR_scope (StepsIn.trans harr (.one (fenced_calm hb hr rfl) stepR_inScope))⟩
  | exit id =>
    have hx : exitTo id (.inScope c :: k) = exitTo id k := by simp [exitTo]
    exact ⟨.exit id, a₁, w₁, hq, fun k' hk => .head h0 stepR_scope (harr.1 k' (by rw [hx]; exact hk)),
      fun hr' hk => let ⟨k₁, h1, h2⟩ := harr.2 hr' (by rw [hx]; exact hk); ⟨k₁, h1, .head h0 stepR_scope h2⟩⟩
  | goto l => exact hq.elim
  | ret => exact ⟨_, a₁, w₁, hq, .of_steps (.one h0 stepR_scope) harr⟩
  | panic ch => exact ⟨_, a₁, w₁, hq, .of_steps (.one h0 stepR_scope) harr⟩
  | outgrown => exact ⟨_, a₁, w₁, hq, .of_steps (.one h0 stepR_scope) harr⟩
@[go_sem] theorem noGoto_normal : noGoto Q .normal a w = Q .normal a w := rfl
@[go_sem] theorem noGoto_exit (id : Nat) : noGoto Q (.exit id) a w = Q (.exit id) a w := rfl
@[go_sem] theorem noGoto_ret : noGoto Q .ret a w = Q .ret a w := rfl
@[go_sem] theorem noGoto_panic (ch : List PanicEntry) : noGoto Q (.panic ch) a w = Q (.panic ch) a w := rfl
end

theorem exec_ldI {o : Oper} {ρ : Operand → Value} {x : Operand} (ho : o.op = .load 3 x) {W : World} {B : Nat} {v : Int} (hx : ρ x = .pointer (some ⟨B, 0, none⟩)) (h : OneAt W B (.int .i64 v)) :
    (execOp ρ o).run Try.prog W = .ok (.value (.int .i64 v)) W := by
  have hc := h.cell
  unfold execOp
  simp only [ho, hx, Sem.run_bind]
  go_simp
theorem wplIn_ldI_g {F : Fence} {r : Nat} {w : World} {ops : Array Oper} {rest : List Oper} {o : Oper} {a : Act} {Q : Exit → Act → World → Prop} (hw : Region.wanted o (yielded ops a.tmps) = true) {x : Operand} (ho : o.op = .load 3 x)
    {B : Nat} {v : Int} (hx : a.eval x = .pointer (some ⟨B, 0, none⟩)) (h : OneAt w B (.int .i64 v)) (hk : wpListIn F r Try.prog ops Q rest (a.put o.dst (.int .i64 v)) w) : wpListIn F r Try.prog ops Q (o :: rest) a w := by
  refine wpListIn_step fun K hK => ?_
  rw [if_pos hw]
  refine wpIn_of_load ho ?_
  unfold Oper.wp
  rw [exec_ldI ho hx h]
  exact hK _ _ hk

theorem wplIn_lss_g {F : Fence} {r : Nat} {w : World} {ops : Array Oper} {rest : List Oper} {o : Oper} {a : Act} {Q : Exit → Act → World → Prop} (hw : Region.wanted o (yielded ops a.tmps) = true) {x y : Operand} {b : Bool} {v u : Int} (ho : o.op = .binOp .lss 3 x y 3)
    (hx : a.eval x = .int .i64 v) (hy : a.eval y = .int .i64 u) (hb : decide (v < u) = b) (hk : wpListIn F r Try.prog ops Q rest (a.put o.dst (.bool b)) w) : wpListIn F r Try.prog ops Q (o :: rest) a w := by
  refine wpListIn_step fun K hK => ?_
  rw [if_pos hw]
  have e : (execOp a.eval o).run Try.prog w = .ok (.value (.bool b)) w := by
    unfold execOp
    simp only [ho, hx, hy, Sem.run_bind]
    rw [← hb]
    go_simp
  have hp : plainOp o = true := by unfold plainOp; rw [ho]
  unfold Oper.wpIn
  rw [plain_about hp, plain_semAt hp, e]
  exact ⟨fun f hf => (by cases hf), hK _ _ hk⟩

/-- A factor: a prime and its exponent. -/
abbrev Fac := { x : Nat × Nat // IsP x.1 ∧ x.1 < 4294967296 ∧ 1 ≤ x.2 ∧ x.2 ≤ 64 }
def encF (x : Fac) : Array Value := #[.int .i64 (x.1.1 : Int), .int .i64 (x.1.2 : Int)]
/-- What is left of a number, and the last prime: behind one factor more. -/
def stepF (s : Option (Nat × Nat)) (x : Nat × Nat) : Option (Nat × Nat) :=
  match s with
  | none => none
  | some (r, q) => if q < x.1 ∧ r % x.1 ^ x.2 = 0 ∧ r / x.1 ^ x.2 % x.1 ≠ 0 then some (r / x.1 ^ x.2, x.1) else none
def facS (v : Nat) (l : List Fac) : Option (Nat × Nat) := l.foldl (fun s x => stepF s x.1) (some (v, 1))
theorem facS_snoc (v : Nat) (l : List Fac) (x : Fac) : facS v (l ++ [x]) = stepF (facS v l) x.1 := by unfold facS; rw [List.foldl_append]; rfl
theorem facS_nil (v : Nat) : facS v [] = some (v, 1) := rfl
theorem stepF_some {r q : Nat} {s : Option (Nat × Nat)} {x : Nat × Nat} (h : stepF s x = some (r, q)) :
    ∃ r0 q0, s = some (r0, q0) ∧ q = x.1 ∧ q0 < x.1 ∧ r0 = r * x.1 ^ x.2 ∧ r % x.1 ≠ 0 := by
  unfold stepF at h
  split at h
  · cases h
  · rename_i r0 q0
    split at h
    · rename_i hc
      obtain ⟨h1, h2, h3⟩ := hc
      injection h with h
      injection h with ha hb
      refine ⟨r0, q0, rfl, hb.symm, h1, ?_, by rw [← ha]; exact h3⟩
      rw [← ha]
      exact (Nat.div_mul_cancel (Nat.dvd_of_mod_eq_zero h2)).symm
    · cases h
theorem stepF_ok {r q p n : Nat} (hp : 0 < p) (h1 : q < p) (h2 : r % p ≠ 0) : stepF (some (r * p ^ n, q)) (p, n) = some (r, p) := by
  have hd : r * p ^ n / p ^ n = r := Nat.mul_div_cancel _ (Nat.pow_pos hp)
  unfold stepF
  dsimp only
  rw [hd, Nat.mul_mod_left, if_pos ⟨h1, rfl, h2⟩]
theorem facS_size (v : Nat) (hv : 1 ≤ v) : ∀ (l : List Fac) (r q : Nat), facS v l.reverse = some (r, q) → 2 ^ l.length * r ≤ v ∧ 1 ≤ r
  | [], r, q, h => by
    rw [List.reverse_nil, facS_nil] at h
    injection h with h
    injection h with h1 h2
    subst h1
    simp
    exact hv
  | x :: l, r, q, h => by
    rw [List.reverse_cons, facS_snoc] at h
    obtain ⟨r0, q0, h0, h1, h2, h3, h4⟩ := stepF_some h
    obtain ⟨ih1, ih2⟩ := facS_size v hv l r0 q0 h0
    have hr : 1 ≤ r := by
      rcases Nat.eq_zero_or_pos r with hr | hr
      · rw [h3, hr, Nat.zero_mul] at ih2; omega
      · exact hr
    refine ⟨?_, hr⟩
    have hx2 : 2 ≤ x.1.1 ^ x.1.2 := Nat.le_trans x.2.1.1 (by
      have := Nat.pow_le_pow_right (n := x.1.1) (by have := x.2.1.1; omega) x.2.2.2.1
      rwa [Nat.pow_one] at this)
    have hm : 2 * r ≤ r0 := by rw [h3, Nat.mul_comm 2 r]; exact Nat.mul_le_mul_left r hx2
    rw [List.length_cons, Nat.pow_succ, Nat.mul_assoc]
    exact Nat.le_trans (Nat.mul_le_mul_left _ hm) ih1
theorem facS_len {v : Nat} {l : List Fac} {r q : Nat} (hv : 1 ≤ v) (hv2 : v < 4294967296) (h : facS v l = some (r, q)) : l.length < 33 ∧ 1 ≤ r ∧ r ≤ v := by
  obtain ⟨h1, h2⟩ := facS_size v hv l.reverse r q (by rw [List.reverse_reverse]; exact h)
  rw [List.length_reverse] at h1
  have h3 : 2 ^ l.length ≤ v := Nat.le_trans (Nat.le_mul_of_pos_right _ h2) h1
  refine ⟨?_, h2, Nat.le_trans (Nat.le_mul_of_pos_left _ (Nat.two_pow_pos _)) h1⟩
  rcases Nat.lt_or_ge l.length 33 with h | h
  · exact h
  · have := Nat.pow_le_pow_right (n := 2) (by omega) h
    omega

/-- Nothing from 2 on and below p divides r. -/
def NoDiv (r p : Nat) : Prop := ∀ d, 2 ≤ d → d < p → r % d ≠ 0
theorem NoDiv.le {r p : Nat} (h : NoDiv r p) (hr : 1 < r) : p ≤ r := by
  rcases Nat.lt_or_ge r p with h1 | h1
  · exact absurd (Nat.mod_self r) (h r hr h1)
  · exact h1
theorem NoDiv.isP {r p : Nat} (h : NoDiv r p) (hp : 2 ≤ p) (hd : r % p = 0) : IsP p := by
  refine ⟨hp, fun d h2 hdd h0 => ?_⟩
  have hlt : d < p := by
    rcases Nat.lt_or_ge d p with h1 | h1
    · exact h1
    · have h3 := Nat.mul_le_mul h1 h1
      have h4 : p * 2 ≤ p * p := Nat.mul_le_mul_left p hp
      omega
  exact h d h2 hlt (Nat.mod_eq_zero_of_dvd (Nat.dvd_trans (Nat.dvd_of_mod_eq_zero h0) (Nat.dvd_of_mod_eq_zero hd)))
theorem NoDiv.isP_self {r p : Nat} (h : NoDiv r p) (hr : 1 < r) (hp : r < p * p) : IsP r := by
  refine ⟨hr, fun d h2 hdd => h d h2 ?_⟩
  rcases Nat.lt_or_ge d p with h1 | h1
  · exact h1
  · have h3 := Nat.mul_le_mul h1 h1
    omega
theorem NoDiv.next {r r' p n : Nat} (h : NoDiv r p) (he : r' * p ^ n = r) (h0 : r' % p ≠ 0) : NoDiv r' (p + 1) := by
  intro d h2 hd hz
  rcases Nat.lt_or_ge d p with h1 | h1
  · refine h d h2 h1 (Nat.mod_eq_zero_of_dvd ?_)
    rw [← he]
    exact Nat.dvd_trans (Nat.dvd_of_mod_eq_zero hz) (Nat.dvd_mul_right _ _)
  · obtain rfl : d = p := by omega
    exact h0 hz
theorem pow_exp_le {p n r m : Nat} (hp : 2 ≤ p) (hr : 1 ≤ r) (he : r * p ^ n = m) (hm : m < 4294967296) : n < 33 := by
  rcases Nat.lt_or_ge n 33 with h | h
  · exact h
  · have h1 := Nat.pow_le_pow_right (n := 2) (by omega) h
    have h2 := Nat.pow_le_pow_left hp n
    have h3 : p ^ n ≤ r * p ^ n := Nat.le_mul_of_pos_left _ hr
    omega

theorem quot_small {s r P k : Nat} (hP : 2 ≤ P) (he : s * P ^ k = r) (hr : r < 4294967296) : s / P ≤ 4294967295 := by
  have h1 : s ≤ r := by rw [← he]; exact Nat.le_mul_of_pos_right _ (Nat.pow_pos (by omega))
  have h2 := Nat.div_le_self s P
  omega
theorem dvd_pow {s r P k : Nat} (he : s * P ^ k = r) (hk : 1 ≤ k) : r % P = 0 := by
  obtain ⟨j, rfl⟩ : ∃ j, k = j + 1 := ⟨k - 1, by omega⟩
  rw [← he, Nat.pow_succ, ← Nat.mul_assoc]
  exact Nat.mul_mod_left _ _
/-- All factors have come. -/
def FacsAll (v : Int) (xs : List Fac) : Prop := (∃ m : Nat, v = (m : Int) ∧ 1 ≤ m ∧ m < 4294967296 ∧ ∃ q, facS m xs = some (1, q)) ∨ ((v ≤ 0 ∨ 4294967296 ≤ v) ∧ xs = [])
/-- The first factors have come. -/
def FacsPre (v : Int) (xs : List Fac) : Prop := ∃ m : Nat, v = (m : Int) ∧ 2 ≤ m ∧ m < 4294967296 ∧ xs ≠ [] ∧ ∃ s, facS m xs = some s

/-- What holds between two passes. -/
def FacI (m r p q : Nat) (pre : List Fac) : Prop := facS m pre = some (r, q) ∧ q < p ∧ 2 ≤ p ∧ (1 < r → NoDiv r p ∧ p ≤ 65537)
theorem FacI.skip {m r p q : Nat} {pre : List Fac} (h : FacI m r p q pre) (hd : NoDiv r p) (hpp : p * p ≤ r) (hr : r < 4294967296) (h0 : r % p ≠ 0) : FacI m r (p + 1) q pre :=
  ⟨h.1, by have := h.2.1; omega, by have := h.2.2.1; omega, fun _ => ⟨hd.next (n := 0) (r := r) (by rw [Nat.pow_zero, Nat.mul_one]) h0, by have := sq_bound hpp hr; omega⟩⟩
theorem FacI.take {m r p q s k : Nat} {pre : List Fac} {x : Fac} (h : FacI m r p q pre) (hd : NoDiv r p) (hpp : p * p ≤ r) (hr : r < 4294967296) (he : s * p ^ k = r) (h0 : s % p ≠ 0) (hx : x.1 = (p, k)) : FacI m s (p + 1) p (pre ++ [x]) := by
  refine ⟨?_, by omega, by have := h.2.2.1; omega, fun _ => ⟨hd.next he h0, by have := sq_bound hpp hr; omega⟩⟩
  rw [facS_snoc, h.1, hx, ← he]
  exact stepF_ok (by have := h.2.2.1; omega) h.2.1 h0
theorem one_of_self {r s k : Nat} (hr : 1 < r) (he : s * r ^ k = r) (hk : 1 ≤ k) : s = 1 := by
  obtain ⟨j, rfl⟩ : ∃ j, k = j + 1 := ⟨k - 1, by omega⟩
  rw [Nat.pow_succ, ← Nat.mul_assoc] at he
  have h1 : s * r ^ j * r = 1 * r := by rw [he, Nat.one_mul]
  have h2 := Nat.mul_right_cancel (by omega) h1
  exact Nat.eq_one_of_mul_eq_one_right h2
theorem FacI.last {m r p q s k : Nat} {pre : List Fac} {x : Fac} (h : FacI m r p q pre) (hpr : p ≤ r) (hr : 1 < r) (he : s * r ^ k = r) (hk : 1 ≤ k) (h0 : s % r ≠ 0) (hx : x.1 = (r, k)) : FacI m s (r + 1) r (pre ++ [x]) := by
  have hs := one_of_self hr he hk
  refine ⟨?_, by omega, by omega, fun h1 => by omega⟩
  rw [facS_snoc, h.1, hx]
  have := stepF_ok (r := s) (q := q) (p := r) (n := k) (by omega) (by have := h.2.1; omega) h0
  rwa [he] at this
theorem fac_meas {s r P p : Nat} (hr : 1 < r) (hp : p ≤ 65537) (h : 1 < s → p ≤ P) :
    (if intOf (.int .i64 (s : Int)) ≤ 1 then 0 else 70000 - (intOf (.int .i64 ((P : Int) + 1))).toNat) < if intOf (.int .i64 (r : Int)) ≤ 1 then 0 else 70000 - (intOf (.int .i64 (p : Int))).toNat := by
  show (if (s : Int) ≤ 1 then 0 else 70000 - ((P : Int) + 1).toNat) < if (r : Int) ≤ 1 then 0 else 70000 - (p : Int).toNat
  rw [if_neg (show ¬ (r : Int) ≤ 1 by omega)]
  split
  · omega
  · have := h (by omega); omega
theorem FacI.pre {m r p q : Nat} {pre : List Fac} (h : FacI m r p q pre) (hm : 2 ≤ m) (hM : m < 4294967296) (hne : pre ≠ []) : FacsPre (m : Int) pre := ⟨m, rfl, hm, hM, hne, _, h.1⟩

theorem OneAt.keepB {w w' : World} {B : Nat} {v : Value} (h : OneAt w B v) (k : KeepB B w w') : OneAt w' B v := by
  obtain ⟨T, h⟩ := h
  exact ⟨T, by rw [k.1]; exact h⟩
set_option maxHeartbeats 6400000 in
theorem factors1_stops (v : Int) (n Bn : Nat) (w : World) (hA : OneAt w Bn (.int .i64 v)) :
    SeqStopsK Fence.wide n Try.prog 34 #[.pointer (some ⟨Bn, 0, none⟩)] encF (KeepB Bn) (FacsAll v) (FacsPre v) 33 w := by
  intro l J Jx W hW hJ hJx hY h0
  have HA0 := Lib.hid (hA.below hW)
  have HY := Lib.hid hY
  have HJ0 := Lib.hid h0
  have hc := HA0.out.cell
  clear hA hJ hJx hY h0 hW
  refine callsIn_of_wp Try.func34 rfl trivial ?_ rfl
  simp only [Try.ntmps34, List.size_toArray, List.length_cons, List.length_nil, Nat.reduceAdd, Nat.reduceSub, Array.replicate_succ, Array.replicate_zero, List.push_toArray, List.append_toArray, List.nil_append, List.cons_append]
  refine wpIn_scope ?_
  gi_wp2
  refine wpIn_label ?_
  gi_wp2
  by_cases hin : 2 ≤ v ∧ v < 4294967296
  · obtain ⟨m, rfl⟩ := Int.eq_ofNat_of_zero_le (show 0 ≤ v by omega)
    have hm2 : 2 ≤ m := by omega
    have hmL : m < 4294967296 := by omega
    have HM2 := Lib.hid hm2
    have HML := Lib.hid hmL
    have hvb : (m : Int) < 4294967296 := by omega
    clear hin hm2 hmL hc
    gi_loopw [3, 4] (fun x y wr => ∃ (r p q : Nat) (pre : List Fac), x = .int .i64 (r : Int) ∧ y = .int .i64 (p : Int) ∧ FacI m r p q pre ∧ OneAt wr Bn (.int .i64 (m : Int)) ∧ J pre wr) (fun x y _ => if intOf x ≤ 1 then 0 else 70000 - (intOf y).toNat)
    case atStart => exact ⟨m, 2, 1, [], rfl, rfl, ⟨rfl, by omega, by omega, fun _ => ⟨fun d h1 h2 => by omega, by omega⟩⟩, HA0.out, HJ0.out⟩
    case round =>
      obtain ⟨r, p, q, pre, rfl, rfl, hfi, hA4, hJ4⟩ := hrel
      have HFI := Lib.hid hfi
      obtain ⟨hf, hqp, hp2, hnd⟩ := hfi
      obtain ⟨hl33, hr1, hrm⟩ := facS_len (by have := HM2.out; omega) HML.out hf
      have HL := Lib.hid hl33
      have HR1 := Lib.hid hr1
      have HRM : Hid (r < 4294967296) := Lib.hid (by have := HML.out; omega)
      have HF := Lib.hid hf
      have HQP := Lib.hid hqp
      have HP2 := Lib.hid hp2
      have HND := Lib.hid hnd
      have HA4 := Lib.hid hA4
      have HJ4 := Lib.hid hJ4
      clear hl33 hr1 hrm hf hqp hp2 hnd hA4 hJ4
      by_cases hgt : 1 < r
      · have HGT := Lib.hid hgt
        obtain ⟨hN, hpb⟩ := HND.out hgt
        have HN := Lib.hid hN
        have HPB := Lib.hid hpb
        have hpr := hN.le hgt
        have HPR := Lib.hid hpr
        have g1 : (1 : Int) < (r : Int) := by omega
        have g2 := decide_eq_true g1
        have g3 := decide_eq_true hvb
        obtain ⟨qq, hqq⟩ : ∃ qq, p * p = qq := ⟨_, rfl⟩
        have hqb : p * p ≤ 65537 * 65537 := Nat.mul_le_mul hpb hpb
        have hw : IntKind.i64.wrap ((p : Int) * (p : Int)) = (qq : Int) := by
          rw [← hqq, Int.natCast_mul, IntKind.wrap_i64]
          have h1 := Int.ofNat_le.2 hqb
          rw [Int.natCast_mul] at h1
          have h2 : 0 ≤ (p : Int) * (p : Int) := Int.mul_nonneg (by omega) (by omega)
          generalize (p : Int) * (p : Int) = y at *
          omega
        have HQQ := Lib.hid hqq
        clear hgt hN hpb hpr hqb hqq
        have HG3 := Lib.hid g3
        clear hvb g3 g2
        by_cases hbig : r < qq
        · have g4 : (r : Int) < (qq : Int) := by omega
          have HBIG := Lib.hid hbig
          clear hbig
          have HPP : Hid (2 ≤ r) := Lib.hid (by exact HGT.out)
          have HPI : Hid (r % r = 0 → IsP r) := Lib.hid (by exact fun _ => HN.out.isP_self HGT.out (by rw [HQQ.out]; exact HBIG.out))
          have hP0 : (2 : Int) ≤ (r : Int) := by have := HPP.out; omega
          have HPL : Hid (r < 4294967296) := Lib.hid (by have := HRM.out; have := HPR.out; omega)
          gi_wp2_with (first | (refine wplIn_ldI_g rfl rfl rfl HA4.out ?_) | (refine wplIn_lss_g rfl rfl rfl rfl HG3.out ?_))
          gi_loop [3, 5] (fun x y => ∃ (s k : Nat), x = .int .i64 (s : Int) ∧ y = .int .i64 (k : Int) ∧ s * r ^ k = r ∧ 1 ≤ s) (fun x _ => (intOf x).toNat)
          case atStart => exact ⟨r, 0, rfl, rfl, by rw [Nat.pow_zero, Nat.mul_one], HR1.out⟩
          case round =>
            obtain ⟨s, k, rfl, rfl, he, hs1⟩ := hrel
            have hk33 := pow_exp_le HPP.out hs1 he HRM.out
            have HK := Lib.hid hk33
            have hkI : (k : Int) < 33 := by omega
            have HE := Lib.hid he
            have HS1 := Lib.hid hs1
            obtain ⟨mm, hm⟩ : ∃ mm, s % r = mm := ⟨_, rfl⟩
            obtain ⟨s', hs'⟩ : ∃ s', s / r = s' := ⟨_, rfl⟩
            have ht : (s : Int).tmod (r : Int) = (mm : Int) := by rw [Int.tmod_eq_emod_of_nonneg (by omega), ← hm]; exact (Int.natCast_emod _ _).symm
            have hd : (s : Int).tdiv (r : Int) = (s' : Int) := by rw [Int.tdiv_eq_ediv_of_nonneg (by omega), ← hs']; exact (Int.natCast_ediv _ _).symm
            have ht2 : (s : Int) % (r : Int) = (mm : Int) := by rw [← hm]; exact (Int.natCast_emod _ _).symm
            have hd2 : (s : Int) / (r : Int) = (s' : Int) := by rw [← hs']; exact (Int.natCast_ediv _ _).symm
            have hsb : s' ≤ 4294967295 := by rw [← hs']; exact quot_small HPP.out he HRM.out
            have hsw : IntKind.i64.wrap (s' : Int) = (s' : Int) := by rw [IntKind.wrap_i64]; omega
            have HM := Lib.hid hm
            have HS' := Lib.hid hs'
            clear he hs1 hk33 hm hs' hsb
            by_cases h0 : mm = 0
            · have d2 : ((mm : Int) == 0) = true := by rw [h0]; rfl
              have H0 := Lib.hid h0
              have d3 : (mm : Int) = 0 := by rw [h0]; rfl
              clear h0
              gi_wp2_with fail
              go_round
              case rel =>
                have e1 : s' * r = s := by rw [← HS'.out]; exact Nat.div_mul_cancel (Nat.dvd_of_mod_eq_zero (by rw [HM.out]; exact H0.out))
                refine ⟨s', k + 1, rfl, by go_num, by rw [Nat.pow_succ, Nat.mul_comm (r ^ k), ← Nat.mul_assoc, e1]; exact HE.out, ?_⟩
                rcases Nat.eq_zero_or_pos s' with h | h
                · rw [h, Nat.zero_mul] at e1; have := HS1.out; omega
                · exact h
              case measure =>
                simp only [intOf]
                have e1 : s / r < s := Nat.div_lt_self HS1.out (by have := HPP.out; omega)
                rw [HS'.out] at e1
                omega
            · have d2 : ((mm : Int) == 0) = false := by rw [beq_eq_false_iff_ne]; omega
              have d3 : ¬ (mm : Int) = 0 := by omega
              have H0 : Hid (s % r ≠ 0) := Lib.hid (by rw [HM.out]; exact h0)
              clear h0
              by_cases hk0 : k = 0
              · subst hk0
                have HE2 : Hid (s = r) := Lib.hid (by have := HE.out; rwa [Nat.pow_zero, Nat.mul_one] at this)
                have hpw : IntKind.i64.wrap ((r : Int) + 1) = (r : Int) + 1 := by have := HRM.out; have := HPB.out; rw [IntKind.wrap_i64]; omega
                repeat (first | go_values | gi_guarded | gi_step | gi_upon | gi_back)
                refine ⟨fun _ h => (by cases h), ?_⟩
                repeat (first | go_values | gi_guarded | gi_step | gi_upon | gi_back)
                go_roundw
                case rel => exact absurd (by rw [HE2.out]; exact Nat.mod_self _) H0.out
                case measure => exact absurd (by rw [HE2.out]; exact Nat.mod_self _) H0.out
              · have hk1 : (0 : Int) < (k : Int) := by omega
                have HK1 : Hid (1 ≤ k) := Lib.hid (by omega)
                have hpw : IntKind.i64.wrap ((r : Int) + 1) = (r : Int) + 1 := by have := HRM.out; have := HPB.out; rw [IntKind.wrap_i64]; omega
                have hk2 : decide (0 < k) = true := decide_eq_true HK1.out
                clear hk0
                obtain ⟨x, hx⟩ : ∃ x : Fac, x.1 = (r, k) := ⟨⟨(r, k), HPI.out (dvd_pow HE.out HK1.out), HPL.out, HK1.out, by have := HK.out; omega⟩, rfl⟩
                obtain ⟨fn, tmps, assign, body, hy, hR⟩ := HY.out pre x wr HJ4.out HL.out
                dsimp only [encF] at hy
                rw [hx] at hy
                dsimp only at hy
                have HX := Lib.hid hx
                clear hx
                repeat (first | go_values | gi_guarded | gi_step | gi_back)
                refine ⟨fun h => (by cases h), hR.mono ?_⟩
                have HI2 : Hid (FacI m s (r + 1) r (pre ++ [x])) := Lib.hid (HFI.out.last HPR.out HGT.out HE.out HK1.out H0.out HX.out)
                rintro e W' (⟨rfl, hJ', hk'⟩ | ⟨rfl, hJx'⟩)
                · have HJ' := Lib.hid hJ'
                  have HK' := Lib.hid hk'
                  clear hJ' hk' hR hy
                  gi_wp2_with fail
                  go_roundw
                  case rel => exact ⟨s, r + 1, r, pre ++ [x], rfl, by go_num, HI2.out, HA4.out.keepB HK'.out, HJ'.out⟩
                  case measure => exact fac_meas HGT.out HPB.out (fun _ => HPR.out)
                · have HJx' := Lib.hid hJx'
                  clear hJx' hR hy
                  gi_wp2_with fail
                  rw [noGoto_normal]
                  go_end0
                  exact ⟨⟨_, rfl⟩, .inr ⟨pre ++ [x], HI2.out.pre HM2.out HML.out (by simp), HJx'.out⟩⟩
        · have g4 : decide (r < qq) = false := decide_eq_false hbig
          have HBIG := Lib.hid hbig
          clear hbig
          have HPP : Hid (2 ≤ p) := Lib.hid (by exact HP2.out)
          have HPI : Hid (r % p = 0 → IsP p) := Lib.hid (by exact fun h => HN.out.isP HP2.out h)
          have hP0 : (2 : Int) ≤ (p : Int) := by have := HPP.out; omega
          have HPL : Hid (p < 4294967296) := Lib.hid (by have := HRM.out; have := HPR.out; omega)
          gi_wp2_with (first | (refine wplIn_ldI_g rfl rfl rfl HA4.out ?_) | (refine wplIn_lss_g rfl rfl rfl rfl HG3.out ?_))
          gi_loop [3, 5] (fun x y => ∃ (s k : Nat), x = .int .i64 (s : Int) ∧ y = .int .i64 (k : Int) ∧ s * p ^ k = r ∧ 1 ≤ s) (fun x _ => (intOf x).toNat)
          case atStart => exact ⟨r, 0, rfl, rfl, by rw [Nat.pow_zero, Nat.mul_one], HR1.out⟩
          case round =>
            obtain ⟨s, k, rfl, rfl, he, hs1⟩ := hrel
            have hk33 := pow_exp_le HPP.out hs1 he HRM.out
            have HK := Lib.hid hk33
            have hkI : (k : Int) < 33 := by omega
            have HE := Lib.hid he
            have HS1 := Lib.hid hs1
            obtain ⟨mm, hm⟩ : ∃ mm, s % p = mm := ⟨_, rfl⟩
            obtain ⟨s', hs'⟩ : ∃ s', s / p = s' := ⟨_, rfl⟩
            have ht : (s : Int).tmod (p : Int) = (mm : Int) := by rw [Int.tmod_eq_emod_of_nonneg (by omega), ← hm]; exact (Int.natCast_emod _ _).symm
            have hd : (s : Int).tdiv (p : Int) = (s' : Int) := by rw [Int.tdiv_eq_ediv_of_nonneg (by omega), ← hs']; exact (Int.natCast_ediv _ _).symm
            have ht2 : (s : Int) % (p : Int) = (mm : Int) := by rw [← hm]; exact (Int.natCast_emod _ _).symm
            have hd2 : (s : Int) / (p : Int) = (s' : Int) := by rw [← hs']; exact (Int.natCast_ediv _ _).symm
            have hsb : s' ≤ 4294967295 := by rw [← hs']; exact quot_small HPP.out he HRM.out
            have hsw : IntKind.i64.wrap (s' : Int) = (s' : Int) := by rw [IntKind.wrap_i64]; omega
            have HM := Lib.hid hm
            have HS' := Lib.hid hs'
            clear he hs1 hk33 hm hs' hsb
            by_cases h0 : mm = 0
            · have d2 : ((mm : Int) == 0) = true := by rw [h0]; rfl
              have H0 := Lib.hid h0
              have d3 : (mm : Int) = 0 := by rw [h0]; rfl
              clear h0
              gi_wp2_with fail
              go_round
              case rel =>
                have e1 : s' * p = s := by rw [← HS'.out]; exact Nat.div_mul_cancel (Nat.dvd_of_mod_eq_zero (by rw [HM.out]; exact H0.out))
                refine ⟨s', k + 1, rfl, by go_num, by rw [Nat.pow_succ, Nat.mul_comm (p ^ k), ← Nat.mul_assoc, e1]; exact HE.out, ?_⟩
                rcases Nat.eq_zero_or_pos s' with h | h
                · rw [h, Nat.zero_mul] at e1; have := HS1.out; omega
                · exact h
              case measure =>
                simp only [intOf]
                have e1 : s / p < s := Nat.div_lt_self HS1.out (by have := HPP.out; omega)
                rw [HS'.out] at e1
                omega
            · have d2 : ((mm : Int) == 0) = false := by rw [beq_eq_false_iff_ne]; omega
              have d3 : ¬ (mm : Int) = 0 := by omega
              have H0 : Hid (s % p ≠ 0) := Lib.hid (by rw [HM.out]; exact h0)
              clear h0
              by_cases hk0 : k = 0
              · subst hk0
                have HE2 : Hid (s = r) := Lib.hid (by have := HE.out; rwa [Nat.pow_zero, Nat.mul_one] at this)
                have hpw : IntKind.i64.wrap ((p : Int) + 1) = (p : Int) + 1 := by have := HRM.out; have := HPB.out; rw [IntKind.wrap_i64]; omega
                repeat (first | go_values | gi_guarded | gi_step | gi_upon | gi_back)
                refine ⟨fun _ h => (by cases h), ?_⟩
                repeat (first | go_values | gi_guarded | gi_step | gi_upon | gi_back)
                go_roundw
                case rel => exact ⟨s, p + 1, q, pre, rfl, by go_num, by have h := H0.out; rw [HE2.out] at h ⊢; exact HFI.out.skip HN.out (by have := HBIG.out; have := HQQ.out; omega) HRM.out h, HA4.out, HJ4.out⟩
                case measure => exact fac_meas HGT.out HPB.out (fun _ => Nat.le_refl _)
              · have hk1 : (0 : Int) < (k : Int) := by omega
                have HK1 : Hid (1 ≤ k) := Lib.hid (by omega)
                have hpw : IntKind.i64.wrap ((p : Int) + 1) = (p : Int) + 1 := by have := HRM.out; have := HPB.out; rw [IntKind.wrap_i64]; omega
                have hk2 : decide (0 < k) = true := decide_eq_true HK1.out
                clear hk0
                obtain ⟨x, hx⟩ : ∃ x : Fac, x.1 = (p, k) := ⟨⟨(p, k), HPI.out (dvd_pow HE.out HK1.out), HPL.out, HK1.out, by have := HK.out; omega⟩, rfl⟩
                obtain ⟨fn, tmps, assign, body, hy, hR⟩ := HY.out pre x wr HJ4.out HL.out
                dsimp only [encF] at hy
                rw [hx] at hy
                dsimp only at hy
                have HX := Lib.hid hx
                clear hx
                repeat (first | go_values | gi_guarded | gi_step | gi_back)
                refine ⟨fun h => (by cases h), hR.mono ?_⟩
                have HI2 : Hid (FacI m s (p + 1) p (pre ++ [x])) := Lib.hid (HFI.out.take HN.out (by have := HBIG.out; have := HQQ.out; omega) HRM.out HE.out H0.out HX.out)
                rintro e W' (⟨rfl, hJ', hk'⟩ | ⟨rfl, hJx'⟩)
                · have HJ' := Lib.hid hJ'
                  have HK' := Lib.hid hk'
                  clear hJ' hk' hR hy
                  gi_wp2_with fail
                  go_roundw
                  case rel => exact ⟨s, p + 1, p, pre ++ [x], rfl, by go_num, HI2.out, HA4.out.keepB HK'.out, HJ'.out⟩
                  case measure => exact fac_meas HGT.out HPB.out (fun _ => Nat.le_refl _)
                · have HJx' := Lib.hid hJx'
                  clear hJx' hR hy
                  gi_wp2_with fail
                  rw [noGoto_normal]
                  go_end0
                  exact ⟨⟨_, rfl⟩, .inr ⟨pre ++ [x], HI2.out.pre HM2.out HML.out (by simp), HJx'.out⟩⟩
      · have hr1' : r = 1 := by have := HR1.out; omega
        have HE1 := Lib.hid hr1'
        have g1 : ¬ (1 : Int) < (r : Int) := by omega
        have g2 : decide (1 < r) = false := decide_eq_false (by omega)
        clear hgt hr1'
        gi_wp2_with fail
        try rw [noGoto_normal]
        go_end0
        refine ⟨⟨_, rfl⟩, .inl ⟨pre, .inl ⟨m, rfl, by have := HM2.out; omega, HML.out, q, ?_⟩, HJ4.out⟩⟩
        have := HF.out
        rwa [HE1.out] at this
  · gi_loopw [3] (fun x wr => x = .int .i64 v ∧ OneAt wr Bn (.int .i64 v) ∧ J [] wr) (fun _ _ => 0)
    case atStart => exact ⟨rfl, HA0.out, HJ0.out⟩
    case round =>
      obtain ⟨rfl, hA4, hJ4⟩ := hrel
      have HA4 := Lib.hid hA4
      have HJ4 := Lib.hid hJ4
      have HIN := Lib.hid hin
      clear hA4 hJ4 hin hc
      by_cases hgt : 1 < v
      · have g3 : decide (v < 4294967296) = false := decide_eq_false (fun h => HIN.out ⟨by omega, h⟩)
        have HG3 := Lib.hid g3
        have g2 := decide_eq_true hgt
        have HGT := Lib.hid hgt
        clear g3
        gi_wp2_with (first | (refine wplIn_ldI_g rfl rfl rfl HA4.out ?_) | (refine wplIn_lss_g rfl rfl rfl rfl HG3.out ?_))
        try rw [noGoto_normal]
        go_end0
        exact ⟨⟨_, rfl⟩, .inl ⟨[], .inr ⟨.inr (by rcases Int.lt_or_le v 4294967296 with h | h; exact absurd ⟨by have := HGT.out; omega, h⟩ HIN.out; exact h), rfl⟩, HJ4.out⟩⟩
      · have g2 := decide_eq_false hgt
        have HGT := Lib.hid hgt
        gi_wp2_with fail
        try rw [noGoto_normal]
        go_end0
        refine ⟨⟨_, rfl⟩, .inl ⟨[], ?_, HJ4.out⟩⟩
        rcases Int.lt_or_le 0 v with h | h
        · obtain rfl : v = 1 := by have := HGT.out; omega
          exact .inl ⟨1, rfl, by omega, by omega, 1, rfl⟩
        · exact .inr ⟨.inl h, rfl⟩

theorem factors_any (v : Int) (w : World) :
    Calls Try.prog 12 #[.int .i64 v] w fun e w' => e = .returned (.func (.func 34) #[] #[.pointer (some ⟨w.heap.size, 0, none⟩)]) ∧ Below w.heap.size w w' ∧ OneAt w' w.heap.size (.int .i64 v) := by
  have HA : Hid (OneAt (w.alloc (.cells #[.int .i64 v] 3)) w.heap.size (.int .i64 v)) := Lib.hid (OneAt.new w _ _)
  have HW : Hid (Below w.heap.size w (w.alloc (.cells #[.int .i64 v] 3))) := Lib.hid ((Below.refl _ w).alloc (Nat.le_refl _) _)
  go_enter Try.func12, Try.ntmps12
  go_wp2_with fail
  go_ret
  exact ⟨rfl, HW.out, HA.out⟩
end Go.Proofs.Ytfmadiepefbepaa
