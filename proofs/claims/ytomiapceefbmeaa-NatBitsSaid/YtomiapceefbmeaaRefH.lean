/- Walk of the reference of numbers: Mul. · Plain: the reference's division, digit by digit; a digit ahead of a row. · Walks of the reference of numbers: Divide, GCD. -/
import Derived.Test.YtomiapceefbmeaaRefE
import Derived.IntWalk
set_option linter.unusedVariables false
set_option linter.unusedSimpArgs false
set_option maxRecDepth 20000
namespace Go.Proofs.Ytomiapceefbmeaa
open Go.RowKit

/-! ### Plain: one digit set -/
def setD (M j x : Nat) : Nat := M / X16 (j + 1) * X16 (j + 1) + x * X16 j + M % X16 j
theorem setD_eq (M j x : Nat) : setD M j x + d16 M j * X16 j = M + x * X16 j := by
  unfold setD
  have h1 := Nat.div_add_mod M (X16 (j + 1))
  have h2 := mod16_step M j
  rw [Nat.mul_comm] at h1
  omega
theorem setD_same {M j x : Nat} (hx : x < 65536) : d16 (setD M j x) j = x := by
  unfold setD d16
  have h : M / X16 (j + 1) * X16 (j + 1) + x * X16 j + M % X16 j = X16 j * (M / X16 (j + 1) * 65536 + x) + M % X16 j := by
    have e1 : M / X16 (j + 1) * X16 (j + 1) = X16 j * (M / X16 (j + 1) * 65536) := by
      generalize M / X16 (j + 1) = q
      rw [X16_succ]
      simp only [Nat.mul_assoc, Nat.mul_left_comm, Nat.mul_comm]
    rw [e1, Nat.mul_add, Nat.mul_comm x]
  rw [h, Nat.mul_add_div (X16_pos j), Nat.div_eq_of_lt (Nat.mod_lt _ (X16_pos j)), Nat.add_zero]
  omega
theorem setD_other {M j x i : Nat} (hx : x < 65536) (hi : i ≠ j) : d16 (setD M j x) i = d16 M i := by
  rcases Nat.lt_or_ge i j with h | h
  · rw [← d16_mod (k := j) h, ← d16_mod (n := M) (k := j) h]
    congr 1
    unfold setD
    have e : M / X16 (j + 1) * X16 (j + 1) + x * X16 j + M % X16 j = M % X16 j + (M / X16 (j + 1) * 65536 + x) * X16 j := by
      rw [X16_succ, Nat.add_mul, Nat.mul_assoc _ 65536, Nat.mul_comm 65536]; omega
    rw [e, Nat.add_mul_mod_self_right, Nat.mod_mod]
  · obtain ⟨m, rfl⟩ : ∃ m, i = j + 1 + m := ⟨i - j - 1, by omega⟩
    unfold d16
    rw [X16_add (j + 1), ← Nat.div_div_eq_div_mul, ← Nat.div_div_eq_div_mul]
    congr 2
    unfold setD
    have h1 : x * X16 j + M % X16 j < X16 (j + 1) := by
      rw [X16_succ]
      have h2 := Nat.mod_lt M (X16_pos j)
      have h3 : (x + 1) * X16 j ≤ 65536 * X16 j := Nat.mul_le_mul_right _ hx
      rw [Nat.add_mul, Nat.one_mul] at h3
      rw [Nat.mul_comm (X16 j)]
      omega
    rw [Nat.add_assoc, Nat.mul_comm, Nat.mul_add_div (X16_pos _), Nat.div_eq_of_lt h1, Nat.add_zero]
theorem fL_set (M L j x : Nat) (hj : j < L) (hx : x < 65536) : (fL M L).set j (x : Int) = fL (setD M j x) L := by
  apply List.ext_getElem?
  intro i
  rcases Nat.lt_or_ge i L with h | h
  · rw [fL_get _ _ _ h, List.getElem?_set]
    by_cases e : j = i
    · subst e
      rw [if_pos rfl, if_pos (by rw [fL_length]; exact h), setD_same hx]
    · rw [if_neg e, fL_get _ _ _ h, setD_other hx (Ne.symm e)]
  · rw [List.getElem?_eq_none (by rw [List.length_set, fL_length]; exact h), List.getElem?_eq_none (by rw [fL_length]; exact h)]

/-- Where the inner loop of Mul stands. -/
def MulAt (a b i k M c : Nat) : Prop := M + c * X16 (i + k) = a % X16 i * b + d16 a i * X16 i * (b % X16 k) ∧ c < 65536
theorem MulAt.start (a b i : Nat) : MulAt a b i 0 (a % X16 i * b) 0 := by
  unfold MulAt
  rw [X16_zero, Nat.mod_one, Nat.mul_zero, Nat.zero_mul]
  exact ⟨rfl, by decide⟩
theorem MulAt.le {a b i k M c : Nat} (h : MulAt a b i k M c) : M + c * X16 (i + k) ≤ a % X16 (i + 1) * b := by
  rw [h.1, mod16_step, Nat.add_mul, Nat.add_comm]
  exact Nat.add_le_add_right (Nat.mul_le_mul_left _ (Nat.mod_le _ _)) _
theorem MulAt.bound {a b i k M c : Nat} (h : MulAt a b i k M c) : M + c * X16 (i + k) < X16 (i + 1 + c16 b) := by
  refine Nat.lt_of_le_of_lt h.le ?_
  rw [X16_add (i + 1) (c16 b)]
  rcases Nat.eq_zero_or_pos b with rfl | hb
  · rw [Nat.mul_zero]; exact Nat.mul_pos (X16_pos _) (X16_pos _)
  · exact Nat.mul_lt_mul'' (Nat.mod_lt _ (X16_pos _)) (lt_c16 b)
theorem MulAt.index {a b i k M c : Nat} (h : MulAt a b i k M c) (hc : 0 < c) : k ≤ c16 b := by
  have h1 := h.bound
  rcases Nat.lt_or_ge (c16 b) k with h2 | h2
  · exfalso
    have h3 : X16 (i + 1 + c16 b) ≤ X16 (i + k) := X16_mono (by omega)
    have h4 : 1 * X16 (i + k) ≤ c * X16 (i + k) := Nat.mul_le_mul_right _ hc
    omega
  · exact h2
theorem MulAt.next {a b i k M c t : Nat} (h : MulAt a b i k M c) (ht : t = d16 M (i + k) + d16 a i * d16 b k + c) : MulAt a b i (k + 1) (setD M (i + k) (t % 65536)) (t / 65536) := by
  have h1 := setD_eq M (i + k) (t % 65536)
  have h2 := Nat.div_add_mod t 65536
  obtain ⟨h3, h4⟩ := h
  have d1 := d16_lt M (i + k)
  have d2 := d16_lt a i
  have d3 := d16_lt b k
  have h5 : d16 a i * d16 b k ≤ 65535 * 65535 := Nat.mul_le_mul (by omega) (by omega)
  refine ⟨?_, ?_⟩
  · rw [mod16_step b, Nat.mul_add]
    have e1 : d16 a i * X16 i * (d16 b k * X16 k) = d16 a i * d16 b k * X16 (i + k) := by
      rw [X16_add]
      simp only [Nat.mul_assoc, Nat.mul_left_comm, Nat.mul_comm]
    rw [e1, show i + (k + 1) = i + k + 1 from rfl, X16_succ]
    have e2 : t / 65536 * (X16 (i + k) * 65536) = 65536 * (t / 65536) * X16 (i + k) := by
      simp only [Nat.mul_assoc, Nat.mul_left_comm, Nat.mul_comm]
    have e3 : t * X16 (i + k) = 65536 * (t / 65536) * X16 (i + k) + t % 65536 * X16 (i + k) := by rw [← Nat.add_mul, h2]
    have e4 : t * X16 (i + k) = d16 M (i + k) * X16 (i + k) + d16 a i * d16 b k * X16 (i + k) + c * X16 (i + k) := by rw [ht, Nat.add_mul, Nat.add_mul]
    rw [e2]
    generalize d16 a i * d16 b k * X16 (i + k) = p1 at *
    generalize 65536 * (t / 65536) * X16 (i + k) = p2 at *
    generalize t % 65536 * X16 (i + k) = p3 at *
    generalize t * X16 (i + k) = p4 at *
    generalize d16 M (i + k) * X16 (i + k) = p5 at *
    generalize c * X16 (i + k) = p6 at *
    generalize d16 a i * X16 i * (b % X16 k) = p7 at *
    generalize a % X16 i * b = p8 at *
    omega
  · generalize d16 a i * d16 b k = p at *
    omega
theorem MulAt.done {a b i k M : Nat} (h : MulAt a b i k M 0) (hk : c16 b ≤ k) : M = a % X16 (i + 1) * b := by
  have h1 := h.1
  rw [Nat.zero_mul, Nat.add_zero, Nat.mod_eq_of_lt (Nat.lt_of_lt_of_le (lt_c16 b) (X16_mono hk))] at h1
  rw [h1, mod16_step, Nat.add_mul, Nat.add_comm]

theorem Lst.drewN {w : World} {v : Value} {n : Nat} (h : Lst w v n) (m : Nat) : Lst (w.drewN m) v n := h
theorem digit_q (v : Value) (n : Nat) (i : Int) (w : World) (h : Lst w v n) (hn : Sz n) :
    Calls Try.prog 48 #[v, .int .i64 i] w fun e w' => e = .returned (.int .i64 (dI n i)) ∧ w' = w :=
  (digit_any v n i w h hn).mono fun _ _ ⟨h1, h2⟩ => ⟨h1, h2.symm⟩
theorem below_drewN {B : Nat} {a w : World} (h : Below B a w) (m : Nat) : Below B a (w.drewN m) := ⟨h.os, h.tape, h.output, h.size, h.block⟩
theorem own_drewN {w : World} {base : Nat} {e : TypeId} {size : Nat} {v : Value} {n : Nat} {xs : List Value} (h : w.ownsRow base e size v n xs) (m : Nat) : (w.drewN m).ownsRow base e size v n xs := h

set_option maxHeartbeats 3200000 in
set_option maxRecDepth 100000 in
theorem rmul_any (u v : Value) (a b : Nat) (w : World) (hu : Lst w u a) (hv : Lst w v b) (ha : Sz a) (hb : Sz b) :
    Calls Try.prog 44 #[u, v] w (RetL w (a * b)) := by
  obtain ⟨A, ca, rfl, _, _, _⟩ := hu.len
  obtain ⟨B, cb, rfl, _, _, _⟩ := hv.len
  have hs1 := ha.le
  have hs2 := hb.le
  obtain ⟨i0, hi, hz0, hz1, hz2⟩ := info_parts infoI64
  obtain ⟨L, hL⟩ : ∃ L, L = c16 a + c16 b + 1 := ⟨_, rfl⟩
  have hLi : (c16 a : Int) + (c16 b : Int) + 1 = (L : Int) := by omega
  have hLl : L ≤ 200001 := by omega
  have HU := Lib.hid hu
  have HV := Lib.hid hv
  have HA := Lib.hid ha
  have HB := Lib.hid hb
  have HL := Lib.hid hL
  clear hu hv ha hb hL
  go_enter Try.func44, Try.ntmps44
  go_wp2_with (refine wpList_make_full _ rfl (.tmp 15) (.tmp 15) 33 rfl w.heap.size 3 i0 (.int .i64 0) 1 Try.underlying33 hi hz0 hz1 .i64 .i64 (L : Int) (L : Int) L rfl rfl rfl rfl (by rw [hz2]; omega) (by unfold maxLen; omega) (Nat.le_refl _) ?_; intro w1 hown1 hg1)
  have hb1 : Below w.heap.size w w1 := below_of_none hg1 (Nat.le_refl _)
  have ho1 : w1.ownsRow w.heap.size 3 1 (.slice (some ⟨w.heap.size, 0, none⟩) L L) L ((fL (a % X16 0 * b) L).map i64v) := by
    have e : fL (a % X16 0 * b) L = List.replicate L 0 := by
      have := fL_zeros 0 L
      rw [Nat.zero_mul] at this
      rw [X16_zero, Nat.mod_one, Nat.zero_mul, this]
    rw [e, ← made_i64]
    exact hown1
  have HO1 := Lib.hid ho1
  have HB1 := Lib.hid hb1
  clear ho1 hb1 hown1 hg1
  go_wp2_with fail
  go_loopw [6, 7, 8, 9] (fun i _ _ _ wr => ∃ k : Nat, k ≤ c16 a ∧ i = .int .i64 (k : Int) ∧ wr.ownsRow w.heap.size 3 1 (.slice (some ⟨w.heap.size, 0, none⟩) L L) L ((fL (a % X16 k * b) L).map i64v) ∧ Below w.heap.size w wr) (fun i _ _ _ _ => ((c16 a : Int) - intOf i).toNat)
  case atStart => exact ⟨0, Nat.zero_le _, rfl, HO1.out, HB1.out⟩
  case round =>
    clear HO1 HB1
    obtain ⟨i, hk, rfl, hown, hbw⟩ := hrel
    have HO := Lib.hid hown
    have hbs := hbw.size
    have HW := Lib.hid hbw
    clear hown hbw
    by_cases hlt : i < c16 a
    · obtain ⟨b0, off, c0, hA, _, hca⟩ := (HU.out.below HW.out).at_ hlt
      injection hA with hA _ hc'
      subst hA hc'
      have HK := Lib.hid hk
      have HCA := Lib.hid hca
      clear hk hca
      go_wp2_with fail
      go_loopw [7, 8, 9] (fun y j _ wr => ∃ k M c : Nat, k ≤ c16 b + 1 ∧ j = .int .i64 (k : Int) ∧ y = .int .i64 (c : Int) ∧ MulAt a b i k M c ∧ wr.ownsRow w.heap.size 3 1 (.slice (some ⟨w.heap.size, 0, none⟩) L L) L ((fL M L).map i64v) ∧ Below w.heap.size w wr) (fun _ j _ _ => ((c16 b : Int) + 2 - intOf j).toNat)
      case atStart => exact ⟨0, _, 0, Nat.zero_le _, rfl, rfl, MulAt.start a b i, HO.out, HW.out⟩
      case round =>
        clear HO HW HCA hbs
        obtain ⟨k, M, c, hk, rfl, rfl, hM, hown, hbw⟩ := hrel
        have HO := Lib.hid hown
        have hbs := hbw.size
        have HW := Lib.hid hbw
        have HM := Lib.hid hM
        have hc1 : (c : Int) < 65536 := by have := hM.2; omega
        have hc0 : (0 : Int) ≤ (c : Int) := by omega
        clear hown hbw hM
        by_cases hx : ¬ k < c16 b ∧ c = 0
        · obtain ⟨h1, rfl⟩ := hx
          have HD := Lib.hid (HM.out.done (Nat.not_lt.1 h1))
          clear hc0 hc1
          go_wp2_with fail
          go_roundw
          case rel => exact ⟨i + 1, by have := HK.out; omega, by go_num, by rw [← HD.out]; exact HO.out, HW.out⟩
          case measure => simp [intOf]; omega
        · have hc : k < c16 b ∨ (¬ k < c16 b ∧ (0 : Int) < (c : Int)) := by omega
          have hk3 : k ≤ c16 b := by
            rcases hc with h | h
            · omega
            · exact HM.out.index (by omega)
          have hp : i + k < L := by have := HL.out; omega
          obtain ⟨t, ht⟩ : ∃ t, t = d16 M (i + k) + d16 a i * d16 b k + c := ⟨_, rfl⟩
          have HN := Lib.hid (HM.out.next ht)
          have HT := Lib.hid ht
          have h65 : t % 65536 < 65536 := Nat.mod_lt _ (by decide)
          have HF := Lib.hid (fL_set M L (i + k) (t % 65536) hp h65)
          have hf : ∀ n : Nat, (wr.drewN n).frozen? ⟨w.heap.size, i + k, none⟩ = false := fun n => (own_drewN HO.out n).frozenAt (i + k)
          have hc2 : wr.cell? ⟨w.heap.size, i + k, none⟩ = some (.int .i64 ((d16 M (i + k) : Nat) : Int)) := by
            have h1 := HO.out.cellAt (i + k) (by simpa using hp)
            rw [List.getElem?_map, fL_get M L (i + k) hp] at h1
            exact h1
          have hc3 := ((HU.out.below HW.out).at_ hlt)
          obtain ⟨b1, off1, c1, hA, _, hc4⟩ := hc3
          injection hA with hA _ hc'
          injection hA with hA
          injection hA with hA1 hA2
          subst hA1 hA2
          clear hc'
          have HD := Lib.hid (fun m => digit_q _ b (k : Int) (wr.drewN m) ((HV.out.below HW.out).drewN m) HB.out)
          have d1 := d16_lt M (i + k)
          have d2 := d16_lt a i
          obtain ⟨y0, y1⟩ := dI_range b (k : Int)
          have HY := Lib.hid (dI_nat b k)
          obtain ⟨m, hm⟩ : ∃ m : Int, ((d16 a i : Nat) : Int) * dI b (k : Int) = m := ⟨_, rfl⟩
          have hm0 : 0 ≤ m := by rw [← hm]; exact Int.mul_nonneg (by omega) y0
          have hm1 : m ≤ 65535 * 65535 := by rw [← hm]; exact Int.mul_le_mul (by omega) (by omega) y0 (by omega)
          have htI : (t : Int) = ((d16 M (i + k) : Nat) : Int) + m + (c : Int) := by
            rw [← hm, HY.out, ht]
            simp
          have hw1 : IntKind.i64.wrap ((i : Int) + (k : Int)) = (i : Int) + (k : Int) := IntWalk.i64_in _ (by omega)
          have hw1b : ((i : Int) + (k : Int)).toNat = i + k := by omega
          have hw1c : 0 ≤ (i : Int) + (k : Int) := by omega
          have hw1d : (i : Int) + (k : Int) < (L : Int) := by omega
          have hw2 : IntKind.i64.wrap m = m := IntWalk.i64_in _ (by omega)
          have hw3 : IntKind.i64.wrap (((d16 M (i + k) : Nat) : Int) + m) = ((d16 M (i + k) : Nat) : Int) + m := IntWalk.i64_in _ (by omega)
          have hw4 : IntKind.i64.wrap (((d16 M (i + k) : Nat) : Int) + m + (c : Int)) = (t : Int) := by
            rw [htI]
            exact IntWalk.i64_in _ (by omega)
          have ht0 : 0 ≤ (t : Int) := by omega
          have ht1 : (t : Int) ≤ 4294967295 := by omega
          have HE := Lib.hid (show (t : Int) % 65536 = ((t % 65536 : Nat) : Int) ∧ (t : Int) / 65536 = ((t / 65536 : Nat) : Int) from by omega)
          clear ht htI hx HY d1 d2
          generalize ((d16 M (i + k) : Nat) : Int) = z at *
          generalize ((d16 a i : Nat) : Int) = x at *
          generalize dI b (k : Int) = y at *
          have HK3 := Lib.hid hk3
          clear hk3 HT HM
          generalize (c : Int) = ci at *
          rcases hc with h | ⟨h, h3⟩
          all_goals
            go_wp2_with fail
            go_quiet ((go_at_call 48; exact Calls.quiet_of_same (HD.out _)))
            go_wp2_with fail
            have hs := ((own_drewN HO.out nq).stored (i + k) (Value.int .i64 ((t : Int) % 65536))).1
            rw [HE.out.1, show Value.int IntKind.i64 ((t % 65536 : Nat) : Int) = i64v ((t % 65536 : Nat) : Int) from rfl, ← List.map_set, HF.out] at hs
            have HS := Lib.hid hs
            have HBW := Lib.hid ((below_drewN HW.out nq).setCell (p := ⟨w.heap.size, i + k, none⟩) (Nat.le_refl _) (i64v ((t % 65536 : Nat) : Int)))
            clear hs
            go_roundw
            case rel => exact ⟨k + 1, _, _, by have := HK3.out; omega, by go_num, by rw [HE.out.2], HN.out, by rw [HE.out.1]; exact HS.out, by rw [HE.out.1]; exact HBW.out⟩
            case measure => have := HK3.out; simp [intOf]; omega
    · have HT : Hid (a % X16 i * b = a * b) := Lib.hid (by rw [Nat.mod_eq_of_lt (Nat.lt_of_lt_of_le (lt_c16 a) (X16_mono (by omega)))])
      have HV3 : Hid (a * b < X16 L) := Lib.hid (by
        rw [HL.out, X16_succ, X16_add]
        have h1 : a * b ≤ X16 (c16 a) * X16 (c16 b) := Nat.mul_le_mul (Nat.le_of_lt (lt_c16 a)) (Nat.le_of_lt (lt_c16 b))
        have h2 := Nat.mul_pos (X16_pos (c16 a)) (X16_pos (c16 b))
        omega)
      have HI : Hid (Its wr (.slice (some ⟨w.heap.size, 0, none⟩) L L) (fL (a * b) L)) := Lib.hid (by
        have h1 := Sl.of_own HO.out
        rw [HT.out] at h1
        exact h1)
      go_wp2_with fail
      refine (trim_any _ (a * b) L wr HI.out (by omega) HV3.out).mono ?_
      rintro e w' ⟨v', rfl, hv', rfl, hvo⟩
      have HVO := Lib.hid hvo
      clear hvo
      go_wp2_with fail
      go_ret
      exact ⟨_, rfl, hv', HW.out, fun g hg => (HO.out.lt g (HVO.out ▸ hg)).1⟩

end Go.Proofs.Ytomiapceefbmeaa

set_option linter.unusedVariables false
set_option linter.unusedSimpArgs false
set_option maxRecDepth 20000
namespace Go.Proofs.Ytomiapceefbmeaa
open Go.RowKit

/-- Digits below one digit more. -/
theorem fL_cons (R c x : Nat) (hx : x < 65536) : fL (R * 65536 + x) (c + 1) = (x : Int) :: fL R c := by
  apply List.ext_getElem?
  intro i
  rcases Nat.lt_or_ge i (c + 1) with h | h
  · rw [fL_get _ _ _ h]
    rcases i with _ | i
    · simp only [List.getElem?_cons_zero]
      unfold d16
      rw [X16_zero, Nat.div_one]
      congr 2
      omega
    · rw [List.getElem?_cons_succ, fL_get _ _ _ (by omega)]
      congr 2
      unfold d16
      rw [X16_succ, Nat.mul_comm (X16 i), ← Nat.div_div_eq_div_mul]
      congr 2
      congr 1
      omega
  · rw [List.getElem?_eq_none (by rw [fL_length]; exact h), List.getElem?_eq_none (by rw [List.length_cons, fL_length]; exact h)]
theorem rest_lt {R c x : Nat} (hx : x < 65536) (hR : R < X16 c) : R * 65536 + x < X16 (c + 1) := by
  rw [X16_succ]
  omega

/-- Where Divide stands: k digits are left. -/
def dvR (a b k : Nat) : Nat := a / X16 k % b
def dvQ (a b k : Nat) : Nat := a / X16 k / b * X16 k
/-- The rest with one digit more. -/
def dvN (a b i : Nat) : Nat := dvR a b (i + 1) * 65536 + d16 a i
theorem dv_start {a b : Nat} : dvR a b (c16 a) = 0 ∧ dvQ a b (c16 a) = 0 := by
  unfold dvR dvQ
  rw [Nat.div_eq_of_lt (lt_c16 a), Nat.zero_mod, Nat.zero_div, Nat.zero_mul]
  exact ⟨rfl, rfl⟩
theorem dv_end {a b : Nat} : dvR a b 0 = a % b ∧ dvQ a b 0 = a / b := by
  unfold dvR dvQ
  rw [X16_zero, Nat.div_one, Nat.mul_one]
  exact ⟨rfl, rfl⟩
theorem dv_split (a b i : Nat) : a / X16 i = b * (a / X16 (i + 1) / b * 65536) + dvN a b i := by
  unfold dvN dvR
  have h1 := div16_step a i
  have h2 := Nat.div_add_mod (a / X16 (i + 1)) b
  rw [h1]
  generalize a / X16 (i + 1) = A at *
  rw [← Nat.mul_assoc]
  generalize b * (A / b) = p at *
  omega
theorem dv_step {a b i : Nat} (hb : 0 < b) : dvR a b i = dvN a b i % b ∧ dvQ a b i = dvQ a b (i + 1) + dvN a b i / b * X16 i := by
  constructor
  · show a / X16 i % b = _
    rw [dv_split a b i, Nat.mul_add_mod]
  · show a / X16 i / b * X16 i = a / X16 (i + 1) / b * X16 (i + 1) + _
    rw [dv_split a b i, Nat.mul_add_div hb, Nat.add_mul, X16_succ]
    congr 1
    generalize a / (X16 i * 65536) / b = q
    simp only [Nat.mul_assoc, Nat.mul_left_comm, Nat.mul_comm]
theorem dv_lt {a b i : Nat} (hb : 0 < b) : dvN a b i < b * 65536 := by
  unfold dvN
  have h1 := Nat.mod_lt (a / X16 (i + 1)) hb
  have h2 := d16_lt a i
  unfold dvR
  omega
theorem dv_digit {a b i : Nat} (hb : 0 < b) : dvN a b i / b < 65536 := (Nat.div_lt_iff_lt_mul hb).2 (by have := dv_lt (a := a) (i := i) hb; rw [Nat.mul_comm]; exact this)
theorem dv_set {a b i : Nat} (hb : 0 < b) : setD (dvQ a b (i + 1)) i (dvN a b i / b) = dvQ a b i := by
  have h1 := setD_eq (dvQ a b (i + 1)) i (dvN a b i / b)
  have h2 : d16 (dvQ a b (i + 1)) i = 0 := d16_shift_low _ (Nat.lt_succ_self i)
  rw [h2, Nat.zero_mul, Nat.add_zero] at h1
  rw [h1, (dv_step (i := i) hb).2]
theorem dv_size {a b i : Nat} (hb : 0 < b) : c16 (dvN a b i) ≤ c16 b + 1 := by
  refine c16_le ?_
  rw [X16_succ]
  exact Nat.lt_of_lt_of_le (dv_lt hb) (Nat.mul_le_mul_right _ (Nat.le_of_lt (lt_c16 b)))

/-- The first digits, as the estimate takes them. -/
theorem top_three {R n : Nat} (hR : R < X16 (n + 2)) : (dI R ((n : Int) + 1) * 65536 + dI R (n : Int)) * 65536 + dI R ((n : Int) - 1) = ((R * 65536 / X16 n : Nat) : Int) := by
  have e1 : dI R ((n : Int) + 1) = ((d16 R (n + 1) : Nat) : Int) := dI_nat R (n + 1)
  rw [e1, dI_nat]
  have h1 : d16 R (n + 1) = R / X16 (n + 1) := d16_top hR
  have h2 := div16_step R n
  rcases n with _ | m
  · rw [dI_neg R (by omega), X16_zero, Nat.div_one]
    rw [X16_zero, Nat.div_one] at h2
    rw [h1]
    omega
  · have e2 : (((m + 1 : Nat) : Int) - 1) = (m : Int) := by omega
    rw [e2, dI_nat, h1]
    have h3 := div16_step R m
    have h4 : R * 65536 / X16 (m + 1) = R / X16 m := by
      rw [X16_succ, Nat.mul_div_mul_right _ _ (by decide)]
    rw [h4]
    omega
theorem top_two {b n : Nat} (hb : b < X16 (n + 1)) : ((d16 b n : Nat) : Int) * 65536 + dI b ((n : Int) - 1) = ((b * 65536 / X16 n : Nat) : Int) := by
  have h1 : d16 b n = b / X16 n := d16_top hb
  rcases n with _ | m
  · rw [dI_neg b (by omega), h1, X16_zero, Nat.div_one, Nat.div_one]
    omega
  · have e2 : (((m + 1 : Nat) : Int) - 1) = (m : Int) := by omega
    rw [e2, dI_nat, h1]
    have h3 := div16_step b m
    have h4 : b * 65536 / X16 (m + 1) = b / X16 m := by
      rw [X16_succ, Nat.mul_div_mul_right _ _ (by decide)]
    rw [h4]
    omega
/-- The estimate is not too small. -/
theorem est_ge (R b X : Nat) (hX : 0 < X) (hd : 0 < b * 65536 / X) : R / b ≤ R * 65536 / X / (b * 65536 / X) := by
  rw [Nat.le_div_iff_mul_le hd, Nat.le_div_iff_mul_le hX]
  have h1 : b * 65536 / X * X ≤ b * 65536 := Nat.div_mul_le_self _ _
  have h2 : R / b * (b * 65536 / X) * X ≤ R / b * (b * 65536) := by
    rw [Nat.mul_assoc]
    exact Nat.mul_le_mul_left _ h1
  have h3 : R / b * (b * 65536) ≤ R * 65536 := by
    rw [← Nat.mul_assoc]
    exact Nat.mul_le_mul_right _ (Nat.div_mul_le_self _ _)
  omega
/-- Too great: one less. -/
theorem est_down {R b g : Nat} (hb : 0 < b) (h1 : R / b ≤ g) (h2 : R < b * g) : R / b + 1 ≤ g ∧ b * g - b = b * (g - 1) ∧ b ≤ b * g := by
  have h3 : R / b < g := (Nat.div_lt_iff_lt_mul hb).2 (by rw [Nat.mul_comm]; exact h2)
  obtain ⟨m, rfl⟩ : ∃ m, g = m + 1 := ⟨g - 1, by generalize R / b = q at *; omega⟩
  rw [Nat.mul_add, Nat.mul_one, Nat.add_sub_cancel, Nat.add_sub_cancel]
  exact ⟨h3, rfl, Nat.le_add_left _ _⟩
theorem est_fits {R b g : Nat} (hb : 0 < b) (h1 : R / b ≤ g) (h2 : ¬ R < b * g) : g = R / b := by
  have : g ≤ R / b := (Nat.le_div_iff_mul_le hb).2 (by rw [Nat.mul_comm]; exact Nat.not_lt.1 h2)
  omega

theorem wrap_min (T D : Nat) (h : (T : Int) < 281474976710656) : min (wrap64 ((T : Int) / (D : Int))) 65535 = ((min (T / D) 65535 : Nat) : Int) := by
  have h1 : T / D ≤ T := Nat.div_le_self _ _
  have e : (T : Int) / (D : Int) = ((T / D : Nat) : Int) := rfl
  rw [e]
  generalize T / D = q at *
  have e2 : wrap64 (q : Int) = q := by unfold wrap64; omega
  rw [e2]
  rcases Nat.le_total q 65535 with h2 | h2
  · rw [Nat.min_eq_left h2, Int.min_eq_left (by omega)]
  · rw [Nat.min_eq_right h2, Int.min_eq_right (by omega)]
    rfl
theorem sub_quot (R b : Nat) : R - b * (R / b) = R % b := by
  have h := Nat.div_add_mod R b
  omega

section
variable {P : Program} {w0 : World}
/-- A literal row of one, with a row that came in behind it. -/
theorem wpl_append_one {ops : Array Oper} {rest : List Oper} {o : Oper} {a : Act} {Q : Exit → Act → World → Prop} (hgd : o.guard = none) (s x : Operand) (t : TypeId)
    (ho : o.op = .call { callee := .builtin .append, args := #[s, x], argTypes := #[t, t] }) {z : Value} (E : EI P t 3 z 8)
    (d : Int) (hs : a.eval s = .slice (some ⟨w0.heap.size, 0, none⟩) 1 1) (y : Value) (ys : List Int) (n : Nat) (hn : ys.length = n) (hx : a.eval x = y) (hy : Its w0 y ys) (hlen : n ≤ 1000000)
    (h : ∀ (A : Option Addr) (c : Nat) w', Its w' (.slice A (n + 1) c) (d :: ys) → Below w0.heap.size w0 w' → (∀ g, (Value.slice A (n + 1) c).ownBlock = some g → w0.heap.size ≤ g) → wpList P ops Q rest (a.put o.dst (.slice A (n + 1) c)) w') :
    wpList P ops Q (o :: rest) a (w0.alloc (.cells #[.int .i64 d] 3)) := by
  subst hn
  have hown : (w0.alloc (.cells #[.int .i64 d] 3)).ownsRow w0.heap.size 3 1 (.slice (some ⟨w0.heap.size, 0, none⟩) 1 1) 1 [i64v d] := by
    have h1 := World.ownsRow_lit (base := w0.heap.size) (e := 3) (size := 1) w0 #[.int .i64 d] 1 (Nat.le_refl _) (by simp [maxLen]) (by simp)
    simpa [i64v] using h1
  have hsrc : Sl (w0.alloc (.cells #[.int .i64 d] 3)) y (ys.map i64v) := Sl.alloc hy _
  refine wpl_append hgd s x t ho E w0.heap.size _ 1 [i64v d] hs hown _ _ hx hsrc (by intro u hu; obtain ⟨q, _, rfl⟩ := List.mem_map.1 hu; rfl) (by simp [maxLen]; omega) (by simp; omega) (by simp) fun v' w' g1 g2 g3 => ?_
  have g4 : Its w' v' (d :: ys) := by
    have g5 := Sl.of_own g1
    simpa [Its] using g5
  obtain ⟨A, c, rfl, _⟩ := Its.len g4
  rw [List.length_cons] at *
  refine h A c w' g4 ?_ (fun g hg => (g1.lt g hg).1)
  exact (((Below.refl w0.heap.size w0).alloc (Nat.le_refl _) _).trans (below_of_own hown g2 (by simp)))
end

end Go.Proofs.Ytomiapceefbmeaa

set_option linter.unusedVariables false
set_option linter.unusedSimpArgs false
set_option maxRecDepth 20000
namespace Go.Proofs.Ytomiapceefbmeaa
open Go.RowKit

def RetLL (w : World) (q r : Nat) (e : Ending) (w' : World) : Prop := ∃ u v, e = .returned (.tuple #[u, v]) ∧ Lst w' u q ∧ Lst w' v r ∧ Below w.heap.size w w'

set_option maxHeartbeats 1600000 in
set_option maxRecDepth 100000 in
theorem rdivide_any (u v : Value) (a b : Nat) (w : World) (hu : Lst w u a) (hv : Lst w v b) (ha : c16 a ≤ 90000) (hb : c16 b ≤ 90000) (hb0 : b ≠ 0) :
    Calls Try.prog 34 #[u, v] w (RetLL w (a / b) (a % b)) := by
  obtain ⟨A, ca, rfl, _, _, _⟩ := hu.len
  obtain ⟨B, cb, rfl, _, _, _⟩ := hv.len
  obtain ⟨i0, hi, hz0, hz1, hz2⟩ := info_parts infoI64
  have HSA : Hid (Sz a) := Lib.hid (by unfold Sz; omega)
  have HSB : Hid (Sz b) := Lib.hid (by unfold Sz; omega)
  have HBP : Hid (0 < b) := Lib.hid (Nat.pos_of_ne_zero hb0)
  have HTOP := Lib.hid (top16 hb0)
  have hcb : c16 b ≠ 0 := fun h => hb0 (c16_eq_zero.1 h)
  clear hb0
  generalize hla : c16 a = la at *
  generalize hlb : c16 b = lb at *
  obtain ⟨m, rfl⟩ : ∃ m, lb = m + 1 := ⟨lb - 1, by omega⟩
  have HLA := Lib.hid hla
  have HLB := Lib.hid hlb
  have HU := Lib.hid hu
  have HV := Lib.hid hv
  clear hla hlb hu hv hcb
  go_enter Try.func34, Try.ntmps34
  go_wp2_with (refine wpList_make_full _ rfl (.tmp 15) (.tmp 15) 33 rfl w.heap.size 3 i0 (.int .i64 0) 1 Try.underlying33 hi hz0 hz1 .i64 .i64 (la : Int) (la : Int) la rfl rfl rfl rfl (by rw [hz2]; omega) (by unfold maxLen; omega) (Nat.le_refl _) ?_; intro w1 hown1 hg1)
  have hb1 : Below w.heap.size w w1 := below_of_none hg1 (Nat.le_refl _)
  have ho1 : w1.ownsRow w.heap.size 3 1 (.slice (some ⟨w.heap.size, 0, none⟩) la la) la ((fL (dvQ a b la) la).map i64v) := by
    have e : fL (dvQ a b la) la = List.replicate la 0 := by
      have := fL_zeros 0 la
      rw [Nat.zero_mul] at this
      rw [← HLA.out, dv_start.2, HLA.out, this]
    rw [e, ← made_i64]
    exact hown1
  have HO1 := Lib.hid ho1
  have HB1 := Lib.hid hb1
  have HR1 : Hid (Lst w1 (.slice none 0 0) (dvR a b la)) := Lib.hid (by rw [← HLA.out, dv_start.1]; exact Lst.nil _)
  have HZ1 : Hid (w.heap.size < w1.heap.size) := Lib.hid (by have := (ho1.lt w.heap.size rfl).2; omega)
  clear ho1 hb1 hown1 hg1
  go_wp2_with fail
  go_loopw [6, 9, 10, 11, 12, 13] (fun r i _ _ _ _ wr => ∃ k : Nat, k ≤ la ∧ i = .int .i64 ((k : Int) - 1) ∧ Lst wr r (dvR a b k) ∧ (∀ g, r.ownBlock = some g → w.heap.size < g) ∧ w.heap.size < wr.heap.size ∧ wr.ownsRow w.heap.size 3 1 (.slice (some ⟨w.heap.size, 0, none⟩) la la) la ((fL (dvQ a b k) la).map i64v) ∧ Below w.heap.size w wr) (fun _ i _ _ _ _ _ => (intOf i + 1).toNat)
  case atStart => exact ⟨la, Nat.le_refl _, rfl, HR1.out, (fun g h => by cases h), HZ1.out, HO1.out, HB1.out⟩
  case round =>
    clear HO1 HB1 HR1 HZ1
    obtain ⟨k, hk, rfl, hR, hfr, hsz, hown, hbw⟩ := hrel
    have HFR := Lib.hid hfr
    clear hfr
    obtain ⟨Ar, cr, rfl, _, _, _⟩ := hR.len
    have hcr : c16 (dvR a b k) ≤ m + 1 := by
      rw [← HLB.out]
      exact c16_mono (Nat.le_of_lt (Nat.mod_lt _ HBP.out))
    generalize hrl : c16 (dvR a b k) = rl at *
    have HRL := Lib.hid hrl
    have HR := Lib.hid hR
    have HO := Lib.hid hown
    have hbs := hbw.size
    have HW := Lib.hid hbw
    clear hown hbw hR hrl
    by_cases h0 : k = 0
    · subst h0
      have HQ : Hid (dvQ a b 0 < X16 la) := Lib.hid (by
        rw [dv_end.2, ← HLA.out]
        exact Nat.lt_of_le_of_lt (Nat.div_le_self _ _) (lt_c16 a))
      have HI : Hid (Its wr (.slice (some ⟨w.heap.size, 0, none⟩) la la) (fL (dvQ a b 0) la)) := Lib.hid (Sl.of_own HO.out)
      go_wp2_with fail
      refine (trim_any _ (dvQ a b 0) la wr HI.out (by omega) HQ.out).mono ?_
      rintro e w' ⟨v', rfl, hv', rfl, hvo⟩
      have HV' := Lib.hid hv'
      clear hvo hv'
      go_wp2_with fail
      go_ret2
      refine ⟨_, _, rfl, ?_, ?_, HW.out⟩
      · rw [← dv_end.2]; exact HV'.out
      · rw [← dv_end.1]; exact HR.out
    · obtain ⟨i, rfl⟩ : ∃ i, k = i + 1 := ⟨k - 1, by omega⟩
      have e1 : ((i + 1 : Nat) : Int) - 1 = (i : Int) := by omega
      rw [e1]
      have hi0 : (0 : Int) ≤ (i : Int) := by omega
      have hila : (i : Int) < (la : Int) := by omega
      clear e1 h0
      obtain ⟨b0, off, c0, hA, hbl, hca⟩ := (HU.out.below HW.out).at_ (k := i) (by rw [HLA.out]; omega)
      rw [HLA.out] at hA
      injection hA with hA _ hc'
      subst hA hc'
      clear hbl
      have HK := Lib.hid hk
      clear hk
      go_wp2_with (at_builtin; refine wpl_append_one rfl (.tmp 30) (.tmp 31) 33 rfl eiI64 _ rfl _ (dL (dvR a b (i + 1))) rl (by rw [dL_length]; exact HRL.out) rfl HR.out (by omega) ?_; intro A2 c2 w2 hits2 hb2 hfr2)
      have HF2 := Lib.hid hfr2
      clear hfr2
      obtain ⟨R, hR⟩ : ∃ R, R = dvN a b i := ⟨_, rfl⟩
      have HRD := Lib.hid hR
      have HI : Hid (Its w2 (.slice A2 (rl + 1) c2) (fL R (rl + 1))) := Lib.hid (by
        rw [hR, dvN, fL_cons _ _ _ (d16_lt a i)]
        have h1 := hits2
        unfold dL at h1
        rw [HRL.out] at h1
        exact h1)
      have HLT : Hid (R < X16 (rl + 1)) := Lib.hid (by
        rw [hR, dvN]
        refine rest_lt (d16_lt a i) ?_
        rw [← HRL.out]
        exact lt_c16 _)
      have HSR : Hid (Sz R) := Lib.hid (by unfold Sz; have := c16_le HLT.out; omega)
      have HR3 : Hid (R < X16 (m + 2)) := Lib.hid (Nat.lt_of_lt_of_le HLT.out (X16_mono (by omega)))
      have HW2 := Lib.hid (HW.out.trans (hb2.mono hbs))
      have HB2 := Lib.hid hb2
      have HO2 := Lib.hid (own_below HO.out hb2)
      clear hits2 hb2 hR
      refine (trim_any _ R (rl + 1) w2 HI.out (by omega) HLT.out).mono ?_
      rintro e w3 ⟨v3, rfl, hv3, rfl, hvo3⟩
      have HV3 := Lib.hid hv3
      have HF3 : Hid (∀ g, v3.ownBlock = some g → w.heap.size < g) := Lib.hid (fun g hg => by have := HF2.out g (hvo3 ▸ hg); omega)
      clear hv3 HI HLT hvo3 HF2
      go_wp2_with fail
      refine (digit_any _ R _ w2 HV3.out HSR.out).mono ?_
      rintro e w' ⟨rfl, rfl⟩
      obtain ⟨r20, r21⟩ := dI_range R ((m : Int) + 1)
      obtain ⟨r10, r11⟩ := dI_range R (m : Int)
      obtain ⟨r00, r01⟩ := dI_range R ((m : Int) - 1)
      go_wp2_with fail
      refine (digit_any _ R _ w2 HV3.out HSR.out).mono ?_
      rintro e w' ⟨rfl, rfl⟩
      go_wp2_with fail
      have e2 : (m : Int) + 1 - 2 = (m : Int) - 1 := by omega
      rw [e2]
      refine (digit_any _ R _ w2 HV3.out HSR.out).mono ?_
      rintro e w' ⟨rfl, rfl⟩
      obtain ⟨T, hT⟩ : ∃ T, T = R * 65536 / X16 m := ⟨_, rfl⟩
      have ht := top_three HR3.out
      rw [← hT] at ht
      have HTT := Lib.hid hT
      have HT := Lib.hid ht
      have ht1 : (T : Int) < 281474976710656 := by rw [← ht]; omega
      have ht0 : 0 ≤ (T : Int) := by omega
      generalize dI R ((m : Int) + 1) = r2 at *
      generalize dI R (m : Int) = r1 at *
      generalize dI R ((m : Int) - 1) = r0 at *
      clear ht hT e2
      go_wp2_with fail
      rw [HT.out]
      obtain ⟨b1, off1, cb1, hA, _, hcb⟩ := (HV.out.below (HW2.out)).at_ (k := m) (by rw [HLB.out]; omega)
      rw [HLB.out] at hA
      injection hA with hA _ hc'
      subst hA hc'
      obtain ⟨D, hD⟩ : ∃ D, D = b * 65536 / X16 m := ⟨_, rfl⟩
      have hd := top_two (b := b) (n := m) (by rw [← HLB.out]; exact lt_c16 b)
      rw [← hD] at hd
      have HDD := Lib.hid hD
      obtain ⟨y0, y1⟩ := dI_range b ((m : Int) - 1)
      have hx1 : ((d16 b m : Nat) : Int) < 65536 := by have := d16_lt b m; omega
      have hx0 : (0 : Int) < ((d16 b m : Nat) : Int) := by
        have h1 := HTOP.out
        rw [Nat.add_sub_cancel] at h1
        omega
      have hd0 : (0 : Int) < (D : Int) := by rw [← hd]; omega
      have hd1 : (D : Int) < 4294967296 := by rw [← hd]; omega
      have hw1 : IntKind.i64.wrap ((m : Int) + 1 - 1) = (m : Int) := by rw [show (m : Int) + 1 - 1 = (m : Int) from by omega]; exact IntWalk.i64_in _ (by omega)
      have hw2 : IntKind.i64.wrap (((d16 b m : Nat) : Int) * 65536) = ((d16 b m : Nat) : Int) * 65536 := IntWalk.i64_in _ (by omega)
      have hw3 : IntKind.i64.wrap ((m : Int) + 1 - 2) = (m : Int) - 1 := by rw [show (m : Int) + 1 - 2 = (m : Int) - 1 from by omega]; exact IntWalk.i64_in _ (by omega)
      have hw4 : IntKind.i64.wrap (((d16 b m : Nat) : Int) * 65536 + dI b ((m : Int) - 1)) = (D : Int) := by rw [hd]; exact IntWalk.i64_in _ (by omega)
      have HDC := Lib.hid (fun q => digit_q _ b ((m : Int) - 1) (w2.drewN q) ((HV.out.below HW2.out).drewN q) HSB.out)
      generalize ((d16 b m : Nat) : Int) = x at *
      generalize dI b ((m : Int) - 1) = y at *
      clear hd hD
      go_quiet ((go_at_call 48; exact Calls.quiet_of_same (HDC.out _)))
      clear hw1 hw2 hw3 hw4
      go_wp2_with fail
      have hG : ∃ G : Nat, min (wrap64 ((T : Int) / (D : Int))) 65535 = (G : Int) ∧ R / b ≤ G ∧ G ≤ 65535 := by
        have hDp : 0 < D := by omega
        refine ⟨min (T / D) 65535, wrap_min T D ht1, ?_, Nat.min_le_right _ _⟩
        · have h1 : R / b ≤ T / D := by
            rw [HTT.out, HDD.out]
            exact est_ge R b (X16 m) (X16_pos m) (by rw [← HDD.out]; exact hDp)
          have h2 : R / b < 65536 := by rw [HRD.out]; exact dv_digit HBP.out
          have h3 : R / b ≤ 65535 := by generalize R / b = q at *; omega
          exact Nat.le_min.2 ⟨h1, h3⟩
      obtain ⟨G, hG1, hG2, hG3⟩ := hG
      rw [hG1]
      have HG2 := Lib.hid hG2
      clear hG1 hG2 HT HTT HDD ht0 ht1 hd0 hd1 hx0 hx1 y0 y1 r20 r21 r10 r11 r00 r01
      refine (of_any G _ (le_maxI (by omega))).mono ?_
      rintro e w4 ⟨v4, rfl, hv4, hb4, hf4⟩
      clear hf4
      have HB4 : Hid (Below w2.heap.size w2 w4) := Lib.hid ((below_drewN (Below.refl _ _) nq).trans hb4)
      have HV4 := Lib.hid hv4
      clear hv4 hb4
      go_wp2_with fail
      refine (rmul_any _ _ b G w4 ((HV.out.below HW2.out).below HB4.out) HV4.out HSB.out (by unfold Sz; exact Nat.le_trans (c16_le (k := 1) (by rw [X16_one]; omega)) (by decide))).mono ?_
      rintro e w5 ⟨v5, rfl, hv5, hb5, hf5⟩
      have HB5 : Hid (Below w2.heap.size w2 w5) := Lib.hid (HB4.out.trans (hb5.mono HB4.out.size))
      have HS5 : Hid (w.heap.size < w4.heap.size) := Lib.hid (by have := HB4.out.size; have := HB2.out.size; omega)
      have HV5 := Lib.hid hv5
      have HF5 : Hid (∀ g, v5.ownBlock = some g → w.heap.size < g) := Lib.hid (fun g hg => by have := hf5 g hg; have := HS5.out; omega)
      clear hv5 hb5 hf5 HV4
      go_wp2_with fail
      go_loopw [12, 13] (fun g p wr => ∃ G : Nat, R / b ≤ G ∧ G ≤ 65535 ∧ g = .int .i64 (G : Int) ∧ Lst wr p (b * G) ∧ (∀ g, p.ownBlock = some g → w.heap.size < g) ∧ Below w2.heap.size w2 wr) (fun g _ _ => (intOf g).toNat)
      case atStart => exact ⟨G, HG2.out, hG3, rfl, HV5.out, HF5.out, HB5.out⟩
      case round =>
        clear HB5 HV5 HF5 HG2 hG3 HB4 HS5
        obtain ⟨G, hG1, hG2, rfl, hp, hfp, hb6⟩ := hrel
        have HP := Lib.hid hp
        have HFP := Lib.hid hfp
        have HB6 := Lib.hid hb6
        have HG1 := Lib.hid hG1
        have HSP : Hid (Sz (b * G)) := Lib.hid (by
          have h1 : b * G < X16 (m + 2) := by
            rw [X16_succ]
            have h2 : b < X16 (m + 1) := by rw [← HLB.out]; exact lt_c16 b
            exact Nat.lt_of_lt_of_le (Nat.mul_lt_mul_of_lt_of_le h2 (show G ≤ 65536 by omega) (by decide)) (Nat.le_refl _)
          have := c16_le h1
          unfold Sz
          omega)
        clear hp hfp hb6 hG1
        go_wp2_with fail
        refine (rcompare_any _ _ (b * G) R _ HP.out (HV3.out.below HB6.out) HSP.out HSR.out).mono ?_
        rintro e w7 ⟨rfl, rfl⟩
        by_cases hc : R < b * G
        · have HC : Hid (cmpI (b * G) R = 1) := Lib.hid (by unfold cmpI; rw [if_neg (by omega), if_pos hc])
          have HDN := Lib.hid (est_down HBP.out HG1.out hc)
          have hgp : (1 : Int) ≤ (G : Int) := by have := HDN.out.1; generalize R / b = q at *; omega
          rw [HC.out]
          clear hc
          go_wp2_with fail
          refine (rsub_any _ _ (b * G) b wr HP.out ((HV.out.below HW2.out).below HB6.out) HSP.out HSB.out HDN.out.2.2).mono ?_
          rintro e w8 ⟨v8, rfl, hv8, hb8, hf8⟩
          rw [HDN.out.2.1] at hv8
          have HV8 := Lib.hid hv8
          have HB8 := Lib.hid (HB6.out.trans (hb8.mono HB6.out.size))
          have HF8 : Hid (∀ g, v8.ownBlock = some g → w.heap.size < g) := Lib.hid (fun g hg => by have := hf8 g hg; have := HB6.out.size; have := HB2.out.size; omega)
          clear hv8 hb8 hf8
          go_wp2_with fail
          go_roundw
          case rel => exact ⟨G - 1, by have := HDN.out.1; generalize R / b = q at *; omega, by omega, by congr 1; omega, HV8.out, HF8.out, HB8.out⟩
          case measure => simp [intOf]; omega
        · have HC : Hid (cmpI (b * G) R ≤ 0) := Lib.hid (by unfold cmpI; split <;> simp_all)
          have HG : Hid (G = dvN a b i / b) := Lib.hid (by rw [← HRD.out]; exact est_fits HBP.out HG1.out hc)
          have HSET := Lib.hid (dv_set (a := a) (i := i) HBP.out)
          have HMOD : Hid (R - b * G = dvR a b i) := Lib.hid (by
            rw [HG.out, (dv_step (i := i) HBP.out).1, ← HRD.out]
            exact sub_quot R b)
          have HLE : Hid (b * G ≤ R) := Lib.hid (Nat.not_lt.1 hc)
          have hcc : decide (0 < cmpI (b * G) R) = false := decide_eq_false (by have := HC.out; omega)
          clear hc
          generalize cmpI (b * G) R = cc at *
          have HO6 := Lib.hid (own_below (own_below HO.out HB2.out) HB6.out)
          have hin : i < la := by omega
          have hcell : wr.cell? ⟨w.heap.size, i, none⟩ = some (.int .i64 ((d16 (dvQ a b (i + 1)) i : Nat) : Int)) := by
            have h1 := HO6.out.cellAt i (by simpa using hin)
            rw [List.getElem?_map, fL_get _ la i hin] at h1
            exact h1
          have hfz := HO6.out.frozenAt i
          have hst := HO6.out.stored i (Value.int .i64 (G : Int))
          have HST := Lib.hid hst
          clear hst hin
          generalize ((d16 (dvQ a b (i + 1)) i : Nat) : Int) = z at *
          simp only []
          repeat go_step
          have hsub : ∀ v n, Lst wr v n → (∀ g, v.ownBlock = some g → w.heap.size < g) → Lst (wr.setCell ⟨w.heap.size, i, none⟩ (.int .i64 (G : Int))) v n := fun v n hv hf =>
            Sl.grown hv HST.out.2 (fun g e h => by
              have h1 := hf g h
              simp at e
              omega)
          have HP9 := Lib.hid (hsub _ _ HP.out HFP.out)
          have HR9 := Lib.hid (hsub _ _ (HV3.out.below HB6.out) HF3.out)
          have HW9 : Hid (Below w.heap.size w (wr.setCell ⟨w.heap.size, i, none⟩ (.int .i64 (G : Int)))) := Lib.hid (((HW2.out).trans (HB6.out.mono (by have := HW2.out.size; omega))).setCell (p := ⟨w.heap.size, i, none⟩) (Nat.le_refl _) _)
          have HO9 : Hid ((wr.setCell ⟨w.heap.size, i, none⟩ (.int .i64 (G : Int))).ownsRow w.heap.size 3 1 (.slice (some ⟨w.heap.size, 0, none⟩) la la) la ((fL (dvQ a b i) la).map i64v)) := Lib.hid (by
            have h1 := HST.out.1
            rw [show Value.int IntKind.i64 (G : Int) = i64v (G : Int) from rfl, ← List.map_set, fL_set _ la i G (by omega) (by omega), HG.out, HSET.out] at h1
            rw [HG.out]
            exact h1)
          clear hsub HST hfz hcell HO6 HSET HC
          generalize wr.setCell ⟨w.heap.size, i, none⟩ (.int .i64 (G : Int)) = w9 at *
          refine (rsub_any _ _ R (b * G) w9 HR9.out HP9.out HSR.out HSP.out HLE.out).mono ?_
          rintro e w10 ⟨v10, rfl, hv10, hb10, hf10⟩
          rw [HMOD.out] at hv10
          have HV10 := Lib.hid hv10
          have HB10 := Lib.hid (HW9.out.trans (hb10.mono HW9.out.size))
          have HF10 := Lib.hid hf10
          have HO10 := Lib.hid (own_below HO9.out hb10)
          have HS9 := Lib.hid (HO9.out.lt w.heap.size rfl).2
          have HS10 := Lib.hid hb10.size
          clear hv10 hb10 hf10
          simp only []
          repeat go_step
          go_roundw
          case rel => exact ⟨i, by have := HK.out; omega, rfl, HV10.out, (fun g hg => Nat.lt_of_lt_of_le HS9.out (HF10.out g hg)), Nat.lt_of_lt_of_le HS9.out HS10.out, HO10.out, HB10.out⟩
          case measure => simp [intOf]

end Go.Proofs.Ytomiapceefbmeaa
