/- Walks of the reference of numbers: trim, digit, Bit, BitLen, Fits, Compare. · Walks of the reference of numbers: Compare, Of, From, Add, Sub. -/
import Derived.Test.YtomiapceefbmeaaRefSpec
import Derived.Test.YtomiapceefbmeaaNatB
import Derived.WalkKit
import Derived.ProofKit
import Derived.Test.YtomiapceefbmeaaNatJ
set_option linter.unusedVariables false
set_option linter.unusedSimpArgs false
set_option maxRecDepth 20000
namespace Go.Proofs.Ytomiapceefbmeaa
open Go.RowKit

/-- The bound on lengths that all walks of the reference take. -/
def Sz (n : Nat) : Prop := c16 n ≤ 100000
theorem Sz.le {n : Nat} (h : Sz n) : c16 n ≤ 100000 := h

set_option maxHeartbeats 800000 in
theorem trim_any (v : Value) (V k : Nat) (w : World) (h : Its w v (fL V k)) (hk : k ≤ 1000000) (hV : V < X16 k) :
    Calls Try.prog 46 #[v] w fun e w' => ∃ v', e = .returned v' ∧ Lst w' v' V ∧ w = w' ∧ v'.ownBlock = v.ownBlock := by
  obtain ⟨A, c, rfl, hc1, hc2, _⟩ := h.len
  rw [fL_length] at hc1 ⊢
  have hcm : c ≤ 9223372036854775807 := hc2
  have H := Lib.hid h
  have HV := Lib.hid hV
  have HC := Lib.hid hcm
  clear h hV hc2 hcm
  go_enter Try.func46, Try.ntmps46
  go_wp2_with fail
  go_loop [3] (fun i => ∃ j : Nat, j ≤ k ∧ i = .int .i64 (j : Int) ∧ V < X16 j) (fun i => (intOf i).toNat)
  case atStart => exact ⟨k, Nat.le_refl _, rfl, HV.out⟩
  case round =>
    obtain ⟨j, hj, rfl, hlt⟩ := hrel
    have HL := Lib.hid hlt
    clear hlt
    by_cases h0 : j = 0
    · subst h0
      have hz : Hid (c16 V = 0) := Lib.hid (by have := c16_le HL.out; omega)
      go_wp2_with fail
      go_ret
      refine ⟨_, rfl, ?_, rfl, by first | rfl | (cases A <;> rfl)⟩
      have h1 := Lst.of_fL H.out HV.out
      rw [hz.out] at h1
      exact h1
    · obtain ⟨i, rfl⟩ : ∃ i, j = i + 1 := ⟨j - 1, by omega⟩
      have e2 : ((i + 1 : Nat) : Int) = (i : Int) + 1 := by omega
      have hi0 : (0 : Int) ≤ (i : Int) := by omega
      have hi1 : (i : Int) < (k : Int) := by omega
      obtain ⟨b, off, c', hA, _, hcell⟩ := H.out.at_ (fL_get V k i (by omega))
      rw [fL_length] at hA
      injection hA with hA _ hc'
      subst hA hc'
      rw [e2]
      by_cases hd : d16 V i = 0
      · have hm : Hid (V < X16 i) := Lib.hid (by
          have h1 := div16_step V i
          rw [Nat.div_eq_of_lt HL.out, hd] at h1
          exact (Nat.div_eq_zero_iff_lt (X16_pos i)).1 (by omega))
        rw [hd] at hcell
        clear hd e2 h0
        go_wp2_with fail
        go_round
        case rel => exact ⟨i, by omega, rfl, hm.out⟩
        case measure => simp [intOf]
      · have he : Hid (c16 V = i + 1) := Lib.hid (c16_eq HL.out (.inr (by rw [Nat.add_sub_cancel]; exact hd)))
        have hz : (((d16 V i : Nat) : Int) == 0) = false := by rw [beq_eq_false_iff_ne]; omega
        clear hd h0
        generalize ((d16 V i : Nat) : Int) = x at *
        go_wp2_with fail
        go_ret
        refine ⟨_, rfl, ?_, rfl, by first | rfl | (cases A <;> rfl)⟩
        have h1 := Lst.of_fL H.out HV.out
        rw [he.out] at h1
        exact h1

set_option maxHeartbeats 800000 in
theorem digit_any (v : Value) (n : Nat) (i : Int) (w : World) (h : Lst w v n) (hn : Sz n) :
    Calls Try.prog 48 #[v, .int .i64 i] w fun e w' => e = .returned (.int .i64 (dI n i)) ∧ w = w' := by
  obtain ⟨A, c, rfl, hc1, hc2, _⟩ := h.len
  have hs := hn.le
  have H := Lib.hid h
  clear h hc2 hn
  by_cases h0 : i < 0
  · have hd : Hid (dI n i = 0) := Lib.hid (dI_neg n h0)
    go_enter Try.func48, Try.ntmps48
    go_wp2
    go_ret
    exact ⟨by rw [hd.out]; rfl, rfl⟩
  · obtain ⟨k, rfl⟩ : ∃ k : Nat, i = (k : Int) := ⟨i.toNat, by omega⟩
    clear h0
    have hk0 : (0 : Int) ≤ (k : Int) := by omega
    by_cases hk : k < c16 n
    · obtain ⟨b, off, c', hA, _, hcell⟩ := H.out.at_ hk
      injection hA with hA _ hc'
      subst hA hc'
      have hd : Hid (dI n (k : Int) = ((d16 n k : Nat) : Int)) := Lib.hid (dI_nat n k)
      generalize ((d16 n k : Nat) : Int) = x at *
      go_enter Try.func48, Try.ntmps48
      go_wp2
      go_ret
      exact ⟨by rw [hd.out]; rfl, rfl⟩
    · have hd : Hid (dI n (k : Int) = 0) := Lib.hid (by rw [dI_nat, d16_high (Nat.lt_of_lt_of_le (lt_c16 n) (X16_mono (by omega)))]; rfl)
      go_enter Try.func48, Try.ntmps48
      go_wp2
      go_ret
      exact ⟨by rw [hd.out]; rfl, rfl⟩

/-- The greatest int, behind a name. -/
def maxI : Int := 9223372036854775807
theorem maxI_le {i : Int} (h : i ≤ maxI) : i ≤ 9223372036854775807 := h
theorem le_maxI {i : Int} (h : i ≤ 9223372036854775807) : i ≤ maxI := h
theorem quo16 {i : Int} (h0 : 0 ≤ i) (h : i ≤ maxI) : wrap64 (i.tdiv 16) = i / 16 := by
  have := maxI_le h
  rw [Int.tdiv_eq_ediv_of_nonneg h0]
  unfold wrap64
  omega

set_option maxHeartbeats 800000 in
theorem rbit_any (v : Value) (n : Nat) (i : Int) (w : World) (h : Lst w v n) (hn : Sz n) (hi : i ≤ maxI) :
    Calls Try.prog 29 #[v, .int .i64 i] w fun e w' => e = .returned (.int .i64 (tI n i)) ∧ w = w' := by
  have H := Lib.hid h
  have HN := Lib.hid hn
  clear h hn
  by_cases h0 : i < 0
  · have hd : Hid (tI n i = 0) := Lib.hid (by unfold tI; rw [if_pos h0])
    go_enter Try.func29, Try.ntmps29
    go_wp2
    go_ret
    exact ⟨by rw [hd.out]; rfl, rfl⟩
  · have h0' : 0 ≤ i := by omega
    have HQ := Lib.hid (quo16 h0' hi)
    clear h0 hi
    obtain ⟨g1, g2⟩ := dI_range n (i / 16)
    have g3 : 0 ≤ dI n (i / 16) / 2 ^ (i % 16).toNat := Int.ediv_nonneg g1 (Int.le_of_lt (Int.pow_pos (by decide)))
    have hd : Hid (dI n (i / 16) / 2 ^ (i % 16).toNat % 2 = tI n i) := Lib.hid (by
      obtain ⟨k, rfl⟩ : ∃ k : Nat, i = (k : Int) := ⟨i.toNat, by omega⟩
      rw [show ((k : Int) / 16) = ((k / 16 : Nat) : Int) from by omega, dI_nat, show ((k : Int) % 16) = ((k % 16 : Nat) : Int) from by omega, Int.toNat_natCast, tI_nat, ← bit_of_d16]
      simp)
    go_enter Try.func29, Try.ntmps29
    go_wp2_with fail
    rw [HQ.out]
    refine (digit_any _ n _ w H.out HN.out).mono ?_
    rintro e w' ⟨rfl, rfl⟩
    generalize dI n (i / 16) = x at *
    go_wp2_with fail
    go_ret
    exact ⟨by rw [← hd.out]; rfl, rfl⟩

set_option maxHeartbeats 800000 in
theorem rbitLen_any (v : Value) (n : Nat) (w : World) (h : Lst w v n) (hn : Sz n) :
    Calls Try.prog 27 #[v] w fun e w' => e = .returned (.int .i64 (bl n)) ∧ w = w' := by
  obtain ⟨A, c, rfl, _, _, _⟩ := h.len
  have hs := hn.le
  have H := Lib.hid h
  have HN := Lib.hid hn
  have HB : Hid (n < 2 ^ (16 * c16 n)) := Lib.hid (lt_c16 n)
  clear h hn
  go_enter Try.func27, Try.ntmps27
  go_wp2_with fail
  go_loop [3] (fun i => ∃ j : Nat, j ≤ 16 * c16 n ∧ i = .int .i64 (j : Int) ∧ n < 2 ^ j) (fun i => (intOf i).toNat)
  case atStart => exact ⟨16 * c16 n, Nat.le_refl _, by go_num, HB.out⟩
  case round =>
    obtain ⟨j, hj, rfl, hlt⟩ := hrel
    have HL := Lib.hid hlt
    clear hlt
    by_cases h0 : j = 0
    · subst h0
      have hz : Hid (bl n = 0) := Lib.hid (bl_eq HL.out (.inl rfl))
      go_wp2_with fail
      go_ret
      exact ⟨by rw [hz.out]; rfl, rfl⟩
    · obtain ⟨i, rfl⟩ : ∃ i, j = i + 1 := ⟨j - 1, by omega⟩
      have e2 : ((i + 1 : Nat) : Int) = (i : Int) + 1 := by omega
      have hi0 : (0 : Int) ≤ (i : Int) := by omega
      rw [e2]
      by_cases hd : n / 2 ^ i % 2 = 0
      · have hm : Hid (n < 2 ^ i) := Lib.hid (by
          have h1 := HL.out
          rw [Nat.pow_succ] at h1
          have h2 : n / 2 ^ i < 2 := (Nat.div_lt_iff_lt_mul (Nat.two_pow_pos _)).2 (by omega)
          refine (Nat.div_eq_zero_iff_lt (Nat.two_pow_pos i)).1 ?_
          generalize n / 2 ^ i = q at *
          omega)
        have ht : Hid (tI n (i : Int) = 0) := Lib.hid (by rw [tI_nat, hd]; rfl)
        clear hd e2 h0
        go_wp2_with fail
        refine (rbit_any _ n _ w H.out HN.out (le_maxI (by omega))).mono ?_
        rintro e w' ⟨rfl, rfl⟩
        rw [ht.out]
        go_wp2_with fail
        go_round
        case rel => exact ⟨i, by omega, rfl, hm.out⟩
        case measure => simp [intOf]
      · have he : Hid (bl n = i + 1) := Lib.hid (bl_eq HL.out (.inr (by
          rw [Nat.add_sub_cancel]
          rcases Nat.lt_or_ge n (2 ^ i) with h1 | h1
          · rw [Nat.div_eq_of_lt h1] at hd; omega
          · exact h1)))
        have ht : Hid (tI n (i : Int) = 1) := Lib.hid (by
          rw [tI_nat]
          have := Nat.mod_lt (n / 2 ^ i) (show 0 < 2 by decide)
          omega)
        clear hd h0
        go_wp2_with fail
        refine (rbit_any _ n _ w H.out HN.out (le_maxI (by omega))).mono ?_
        rintro e w' ⟨rfl, rfl⟩
        rw [ht.out]
        go_wp2_with fail
        go_ret
        exact ⟨by rw [he.out, e2]; rfl, rfl⟩

set_option maxHeartbeats 800000 in
theorem fits_any (v : Value) (n : Nat) (w : World) (h : Lst w v n) (hn : Sz n) :
    Calls Try.prog 14 #[v] w fun e w' => e = .returned (.bool (decide ((bl n : Int) ≤ 1024))) ∧ w = w' := by
  have H := Lib.hid h
  have HN := Lib.hid hn
  clear h hn
  go_enter Try.func14, Try.ntmps14
  go_wp2_with fail
  refine (rbitLen_any _ n w H.out HN.out).mono ?_
  rintro e w' ⟨rfl, rfl⟩
  go_wp2_with fail
  go_ret
  exact ⟨rfl, rfl⟩

end Go.Proofs.Ytomiapceefbmeaa

set_option linter.unusedVariables false
set_option linter.unusedSimpArgs false
set_option maxRecDepth 20000
namespace Go.Proofs.Ytomiapceefbmeaa
open Go.RowKit

set_option maxHeartbeats 1600000 in
theorem rcompare_any (u v : Value) (a b : Nat) (w : World) (hu : Lst w u a) (hv : Lst w v b) (ha : Sz a) (hb : Sz b) :
    Calls Try.prog 25 #[u, v] w fun e w' => e = .returned (.int .i64 (cmpI a b)) ∧ w = w' := by
  obtain ⟨A, c, rfl, _, _, _⟩ := hu.len
  obtain ⟨B, d, rfl, _, _, _⟩ := hv.len
  have hs1 := ha.le
  have hs2 := hb.le
  obtain ⟨M, hM⟩ : ∃ M : Nat, M = max (c16 a) (c16 b) := ⟨_, rfl⟩
  have HM : Hid ((max (c16 a : Int) (c16 b : Int)) = (M : Int)) := Lib.hid (by omega)
  have hM1 : M ≤ 100000 := by omega
  have HD : Hid (a / X16 M = b / X16 M) := Lib.hid (by
    rw [Nat.div_eq_of_lt (Nat.lt_of_lt_of_le (lt_c16 a) (X16_mono (by omega))), Nat.div_eq_of_lt (Nat.lt_of_lt_of_le (lt_c16 b) (X16_mono (by omega)))])
  clear hM
  have HU := Lib.hid hu
  have HV := Lib.hid hv
  have HA := Lib.hid ha
  have HB := Lib.hid hb
  clear hu hv ha hb
  go_enter Try.func25, Try.ntmps25
  go_wp2_with fail
  rw [HM.out]
  go_loop [5] (fun i => ∃ k : Nat, k ≤ 100000 ∧ i = .int .i64 ((k : Int) - 1) ∧ a / X16 k = b / X16 k) (fun i => (intOf i + 1).toNat)
  case atStart => exact ⟨M, hM1, rfl, HD.out⟩
  case round =>
    clear HD HM hM1
    obtain ⟨k, hk, rfl, hdiv⟩ := hrel
    have HD := Lib.hid hdiv
    clear hdiv
    by_cases h0 : k = 0
    · subst h0
      have he : Hid (cmpI a b = 0) := by
        have := HD.out
        rw [X16_zero, Nat.div_one, Nat.div_one] at this
        subst this
        unfold Hid cmpI
        rw [if_neg (Nat.lt_irrefl _), if_neg (Nat.lt_irrefl _)]
      go_wp2_with fail
      go_ret
      exact ⟨by rw [he.out]; rfl, rfl⟩
    · obtain ⟨j, rfl⟩ : ∃ j, k = j + 1 := ⟨k - 1, by omega⟩
      have e1 : ((j + 1 : Nat) : Int) - 1 = (j : Int) := by omega
      rw [e1]
      have hj0 : (0 : Int) ≤ (j : Int) := by omega
      clear e1 h0
      have HX : Hid (dI a (j : Int) = ((d16 a j : Nat) : Int)) := Lib.hid (dI_nat a j)
      have HY : Hid (dI b (j : Int) = ((d16 b j : Nat) : Int)) := Lib.hid (dI_nat b j)
      rcases Nat.lt_trichotomy (d16 a j) (d16 b j) with h1 | h1 | h1
      · have he : Hid (cmpI a b = -1) := by
          unfold Hid cmpI
          rw [if_pos (lt_of_d16 HD.out h1)]
        have hd : decide (dI a (j : Int) < dI b (j : Int)) = true := by rw [HX.out, HY.out]; simpa using h1
        clear h1
        go_wp2_with fail
        refine (digit_any _ a _ w HU.out HA.out).mono ?_
        rintro e w' ⟨rfl, rfl⟩
        go_wp2_with fail
        refine (digit_any _ b _ w HV.out HB.out).mono ?_
        rintro e w' ⟨rfl, rfl⟩
        go_wp2_with fail
        go_ret
        exact ⟨by rw [he.out]; rfl, rfl⟩
      · have hd : decide (dI a (j : Int) < dI b (j : Int)) = false := by rw [HX.out, HY.out]; simp; omega
        have hd2 : decide (dI b (j : Int) < dI a (j : Int)) = false := by rw [HX.out, HY.out]; simp; omega
        have hq : Hid (a / X16 j = b / X16 j) := by unfold Hid; rw [div16_step a, div16_step b, HD.out, h1]
        clear h1
        go_wp2_with fail
        refine (digit_any _ a _ w HU.out HA.out).mono ?_
        rintro e w' ⟨rfl, rfl⟩
        go_wp2_with fail
        refine (digit_any _ b _ w HV.out HB.out).mono ?_
        rintro e w' ⟨rfl, rfl⟩
        go_wp2_with fail
        refine (digit_any _ a _ w HU.out HA.out).mono ?_
        rintro e w' ⟨rfl, rfl⟩
        go_wp2_with fail
        refine (digit_any _ b _ w HV.out HB.out).mono ?_
        rintro e w' ⟨rfl, rfl⟩
        go_wp2_with fail
        go_round
        case rel => exact ⟨j, by omega, rfl, hq.out⟩
        case measure => simp [intOf]
      · have he : Hid (cmpI a b = 1) := by
          have h2 := lt_of_d16 HD.out.symm h1
          unfold Hid cmpI
          rw [if_neg (by omega), if_pos h2]
        have hd : decide (dI a (j : Int) < dI b (j : Int)) = false := by rw [HX.out, HY.out]; simp; omega
        have hd2 : decide (dI b (j : Int) < dI a (j : Int)) = true := by rw [HX.out, HY.out]; simpa using h1
        clear h1
        go_wp2_with fail
        refine (digit_any _ a _ w HU.out HA.out).mono ?_
        rintro e w' ⟨rfl, rfl⟩
        go_wp2_with fail
        refine (digit_any _ b _ w HV.out HB.out).mono ?_
        rintro e w' ⟨rfl, rfl⟩
        go_wp2_with fail
        refine (digit_any _ a _ w HU.out HA.out).mono ?_
        rintro e w' ⟨rfl, rfl⟩
        go_wp2_with fail
        refine (digit_any _ b _ w HV.out HB.out).mono ?_
        rintro e w' ⟨rfl, rfl⟩
        go_wp2_with fail
        go_ret
        exact ⟨by rw [he.out]; rfl, rfl⟩

/-! ### Rows of ints of the call's own -/
theorem infoI64 : (Try.prog.info? 3).map (fun i => (i.zero, i.size, i.bytes)) = some (some (.int .i64 0), 1, 8) := by kernel_rfl
theorem eiI64 : EI Try.prog 33 3 (.int .i64 0) 8 := by
  obtain ⟨i0, hi, hz0, hz1, hz2⟩ := info_parts infoI64
  exact ⟨Try.underlying33, ⟨i0, hi, hz0, hz1, hz2⟩, rfl⟩
def OwnI (w : World) (base : Nat) (v : Value) (xs : List Int) : Prop := w.ownsRow base 3 1 v xs.length (xs.map i64v)
theorem OwnI.its {w : World} {base : Nat} {v : Value} {xs : List Int} (h : OwnI w base v xs) : Its w v xs := Sl.of_own h
theorem OwnI.below {w w' : World} {base : Nat} {v : Value} {xs : List Int} (h : OwnI w base v xs) (hb : Below w.heap.size w w') : OwnI w' base v xs := own_below h hb
theorem OwnI.nil (w : World) (base : Nat) : OwnI w base (.slice none 0 0) [] := World.ownsRow_nil _ _ _ _
section
variable {P : Program} {w0 : World}
/-- append of one int onto a row of the call's own. -/
theorem wpl_append_i1 {ops : Array Oper} {rest : List Oper} {o : Oper} {a : Act} {Q : Exit → Act → World → Prop} (hgd : o.guard = none) (s x : Operand) (t T : TypeId)
    (ho : o.op = .call { callee := .builtin .append, args := #[s, x], argTypes := #[t, t] }) {z : Value} (E : EI P t 3 z 8)
    (base : Nat) (v : Value) (xs : List Int) (n : Nat) (hn : xs.length = n) (hs : a.eval s = v) (hown : OwnI w0 base v xs) (d : Int) (hx : a.eval x = .slice (some ⟨w0.heap.size, 0, none⟩) 1 1)
    (hlen : n ≤ 1000000) (hbase : base ≤ w0.heap.size)
    (h : ∀ (A : Option Addr) (c : Nat) w', OwnI w' base (.slice A (n + 1) c) (xs ++ [d]) → Below base w0 w' → wpList P ops Q rest (a.put o.dst (.slice A (n + 1) c)) w') :
    wpList P ops Q (o :: rest) a (w0.alloc (.cells #[.int .i64 d] T)) := by
  subst hn
  have hsrc : Sl (w0.alloc (.cells #[.int .i64 d] T)) (.slice (some ⟨w0.heap.size, 0, none⟩) 1 1) [i64v d] := by
    refine ⟨some ⟨w0.heap.size, 0, none⟩, 1, rfl, Nat.le_refl _, by unfold maxLen; omega, by simp, fun _ => ⟨w0.heap.size, 0, rfl, by simp, fun j u hu => ?_⟩⟩
    have hj : j = 0 := by have := (List.getElem?_eq_some_iff.1 hu).1; simpa using this
    subst hj
    simp only [List.getElem?_cons_zero, Option.some.injEq] at hu
    rw [← hu]
    exact World.cell?_alloc_mark w0 #[.int .i64 d] T (0, 0) 0
  have hown' : (w0.alloc (.cells #[.int .i64 d] T)).ownsRow base 3 1 v xs.length (xs.map i64v) := own_below hown ((Below.refl _ _).alloc (Nat.le_refl _) _)
  refine wpl_append hgd s x t ho E base v xs.length (xs.map i64v) hs hown' _ _ hx hsrc (by simp [i64v, Value.oneCell']) (by simp [maxLen]; omega) (by simp; omega) (by simp; omega) fun v' w' g1 g2 g3 => ?_
  have g4 : OwnI w' base v' (xs ++ [d]) := by
    unfold OwnI
    rw [List.length_append, List.map_append]
    simpa using g1
  obtain ⟨A, c, rfl, _⟩ := Its.len g4.its
  rw [List.length_append] at *
  refine h A c w' g4 ?_
  exact (((Below.refl base w0).alloc hbase _).trans (below_of_own hown' g2 (by simp; omega)))
end

/-! ### Plain sums -/
theorem of_step (V k : Nat) : (V / X16 k) % 65536 = d16 V k ∧ V / X16 k / 65536 = V / X16 (k + 1) := by
  refine ⟨rfl, ?_⟩
  rw [X16_succ, Nat.div_div_eq_div_mul]

set_option maxHeartbeats 1600000 in
theorem of_any (V : Nat) (w : World) (hV : (V : Int) ≤ maxI) :
    Calls Try.prog 22 #[.int .i64 (V : Int)] w (RetL w V) := by
  have hc : c16 V ≤ 100000 := by
    have h1 : V < X16 4 := by
      have := maxI_le hV
      have e : X16 4 = 18446744073709551616 := by decide
      omega
    have := c16_le h1
    omega
  have HM := Lib.hid hV
  have HC := Lib.hid hc
  clear hc hV
  go_enter Try.func22, Try.ntmps22
  go_wp2_with fail
  go_loopw [0, 3] (fun x v wr => ∃ k : Nat, k ≤ c16 V ∧ x = .int .i64 ((V / X16 k : Nat) : Int) ∧ OwnI wr w.heap.size v (fL V k) ∧ Below w.heap.size w wr) (fun x _ _ => (intOf x).toNat)
  case atStart => exact ⟨0, Nat.zero_le _, by rw [X16_zero, Nat.div_one], OwnI.nil _ _, Below.refl _ _⟩
  case round =>
    obtain ⟨k, hk, rfl, hown, hb⟩ := hrel
    have HO := Lib.hid hown
    have hbs := hb.size
    have HB := Lib.hid hb
    have HK := Lib.hid hk
    clear hown hb
    by_cases h0 : V / X16 k = 0
    · have hz : Hid (c16 V = k) := Lib.hid (by
        have h1 : V < X16 k := (Nat.div_eq_zero_iff_lt (X16_pos k)).1 h0
        have := c16_le h1
        omega)
      have e0 : ((V / X16 k : Nat) : Int) = 0 := by rw [h0]; rfl
      rw [e0]
      clear h0 e0 hk
      go_wp2_with fail
      go_ret
      refine ⟨_, rfl, ?_, HB.out, fun g hg => (HO.out.lt g hg).1⟩
      have h1 := HO.out.its
      unfold Lst dL
      rw [hz.out]
      exact h1
    · have hlt : Hid (k < c16 V) := Lib.hid (by
        rcases Nat.lt_or_ge k (c16 V) with h1 | h1
        · exact h1
        · exact absurd (Nat.div_eq_of_lt (Nat.lt_of_lt_of_le (lt_c16 V) (X16_mono h1))) h0)
      have hk2 : k ≤ 1000000 := by have := HC.out; omega
      have hpos : (0 : Int) < ((V / X16 k : Nat) : Int) := Int.natCast_pos.2 (Nat.pos_of_ne_zero h0)
      have HT := Lib.hid (of_step V k)
      have hle : ((V / X16 k : Nat) : Int) ≤ 9223372036854775807 := by
        have h1 := Nat.div_le_self V (X16 k)
        have h2 := maxI_le HM.out
        omega
      have HE : Hid (((V / X16 k : Nat) : Int) % 65536 = ((d16 V k : Nat) : Int) ∧ ((V / X16 k : Nat) : Int) / 65536 = ((V / X16 (k + 1) : Nat) : Int)) := Lib.hid (by
        obtain ⟨h1, h2⟩ := HT.out
        constructor
        · rw [← h1]; rfl
        · rw [← h2]; rfl)
      have HLE := Lib.hid hle
      clear h0 hk hle
      obtain ⟨x, hx⟩ : ∃ x : Int, x = ((V / X16 k : Nat) : Int) := ⟨_, rfl⟩
      rw [← hx] at hpos HE HLE ⊢
      have hb1 := HLE.out
      have HX := Lib.hid hx
      clear hx HLE
      go_wp2_with (at_builtin; refine wpl_append_i1 rfl (.tmp 6) (.tmp 9) 33 _ rfl eiI64 w.heap.size _ (fL V k) k (fL_length _ _) rfl HO.out _ rfl hk2 hbs ?_; intro A c w2 hown2 hb2)
      rw [HE.out.1, ← fL_succ] at hown2
      have HO2 := Lib.hid hown2
      have HB2 := Lib.hid (HB.out.trans hb2)
      clear hown2 hb2
      go_wp2_with fail
      rw [HE.out.2]
      go_roundw
      case rel => exact ⟨k + 1, hlt.out, rfl, HO2.out, HB2.out⟩
      case measure =>
        have h1 := HE.out.2
        simp [intOf]
        omega

end Go.Proofs.Ytomiapceefbmeaa
