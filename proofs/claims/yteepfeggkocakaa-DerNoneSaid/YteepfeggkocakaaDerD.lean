/- Walks: integers, the program's and the reference's. -/
import Derived.Test.YteepfeggkocakaaDerC
set_option linter.unusedVariables false
set_option linter.unusedSimpArgs false
set_option maxRecDepth 20000
namespace Go.Proofs.Yteepfeggkocakaa
open Go.RowKit Der

theorem fits_iff (v : Int) (m : Nat) (hm : 1 ≤ m) (q : Int) (hq : q = v / 256 ^ (m - 1)) : fits v m ↔ -128 ≤ q ∧ q < 128 := by
  have hp : (0 : Int) < 256 ^ (m - 1) := Int.pow_pos (by decide)
  subst hq
  unfold fits
  rw [Int.le_ediv_iff_mul_le hp, Int.ediv_lt_iff_lt_mul hp, Int.neg_mul]

theorem div256 (v : Int) (m : Nat) : v / 256 ^ (m + 1) = v / 256 ^ m / 256 := by
  rw [Int.pow_succ, Int.ediv_ediv_of_nonneg (Int.pow_nonneg (by decide))]

/-- When a leading byte is not needed. -/
theorem strip_iff (v : Int) (m : Nat) (hm : 2 ≤ m) (hf : fits v m) (x y : Int) (hx : x = v / 256 ^ (m - 1) % 256) (hy : y = v / 256 ^ (m - 2) % 256) :
    fits v (m - 1) ↔ (x = 0 ∧ y < 128) ∨ (x = 255 ∧ 128 ≤ y) := by
  obtain ⟨k, rfl⟩ : ∃ k, m = k + 2 := ⟨m - 2, by omega⟩
  have h1 := (fits_iff v (k + 2) (by omega) _ rfl).1 hf
  have h2 := fits_iff v (k + 2 - 1) (by omega) _ rfl
  simp only [Nat.add_sub_cancel, show k + 2 - 1 = k + 1 from rfl, show k + 1 - 1 = k from rfl] at h1 h2 hx hy ⊢
  rw [h2]
  rw [div256] at h1 hx
  generalize v / 256 ^ k = q at *
  omega

theorem fits8 (v : Int) (h1 : -4611686018427387904 ≤ v) (h2 : v ≤ 4611686018427387904) : fits v 8 := by
  have e : (256 : Int) ^ 7 = 72057594037927936 := by decide
  unfold fits
  simp only [show (8 - 1 : Nat) = 7 from rfl, e]
  omega

set_option maxHeartbeats 3200000 in
theorem integer_any (v : Int) (w : World) : Calls Try.prog 19 #[.int .i64 v] w (RetB w (intE v)) := by
  by_cases hout : v < -4611686018427387904 ∨ 4611686018427387904 < v
  · have HE : Hid (intE v = []) := by unfold Hid intE; rw [if_pos hout]
    by_cases h1 : v < -4611686018427387904
    · have d1 : decide (v < -4611686018427387904) = true := decide_eq_true h1
      clear hout h1
      go_enter Try.func19, Try.ntmps19
      go_wp2_with fail
      go_ret
      exact ⟨_, rfl, by rw [HE.out]; exact World.ownsRow_nil _ _ _ _, Below.refl _ _⟩
    · have d1 : decide (v < -4611686018427387904) = false := decide_eq_false h1
      have d2 : decide (4611686018427387904 < v) = true := decide_eq_true (by omega)
      clear hout h1
      go_enter Try.func19, Try.ntmps19
      go_wp2_with fail
      go_ret
      exact ⟨_, rfl, by rw [HE.out]; exact World.ownsRow_nil _ _ _ _, Below.refl _ _⟩
  · have HE : Hid (intE v = elem 2 (numB v (intLen v))) := by unfold Hid intE; rw [if_neg hout]
    have d1 : decide (v < -4611686018427387904) = false := decide_eq_false (by omega)
    have d2 : decide (4611686018427387904 < v) = false := decide_eq_false (by omega)
    have HF := Lib.hid (fits8 v (by omega) (by omega))
    clear hout
    go_enter Try.func19, Try.ntmps19
    go_wp2_with fail
    refine (number_any v 8 _ (by omega)).mono ?_
    rintro e w1 ⟨v1, rfl, hown, hb⟩
    have hbyt := hown.byt
    obtain ⟨A, c, rfl, _, _, _⟩ := hbyt.len
    rw [numB_length] at hbyt
    have HB := Lib.hid hbyt
    clear hown hbyt
    go_wp2_with fail
    rw [numB_length]
    go_loop [3, 12] (fun b _ => ∃ (m : Nat) (A : Option Addr) (c : Nat), 1 ≤ m ∧ m ≤ 8 ∧ b = .slice A m c ∧ Byt w1 (.slice A m c) (numB v m) ∧ fits v m) (fun b _ => match b with | .slice _ m _ => m | _ => 0)
    case atStart => exact ⟨8, A, c, by omega, by omega, rfl, HB.out, HF.out⟩
    case round =>
      clear HB HF
      obtain ⟨m, A, c, hm1, hm8, rfl, hbyt, hfit⟩ := hrel
      have HB := Lib.hid hbyt
      have HF := Lib.hid hfit
      clear hbyt hfit
      by_cases h2 : 2 ≤ m
      · obtain ⟨b, off, c', hA, _, hc0⟩ := HB.out.at_ (k := 0) (by rw [numB_length]; omega)
        obtain ⟨b', off', c'', hA', _, hc1⟩ := HB.out.at_ (k := 1) (by rw [numB_length]; omega)
        rw [numB_length] at hA hA'
        injection hA with hA _ hc'
        subst hA hc'
        injection hA' with hA' _ hc''
        injection hA' with hA'
        injection hA' with hA1 hA2
        subst hA1 hA2 hc''
        rw [numB_getElem, show m - 1 - 0 = m - 1 from rfl] at hc0
        rw [numB_getElem, show m - 1 - 1 = m - 2 from rfl] at hc1
        rw [byteAt_toNat] at hc0 hc1
        rw [Nat.add_zero] at hc0
        have hst := strip_iff v m h2 HF.out _ _ rfl rfl
        generalize hX : v / 256 ^ (m - 1) % 256 = X at *
        generalize hY : v / 256 ^ (m - 2) % 256 = Y at *
        have hX0 : 0 ≤ X ∧ X < 256 := by rw [← hX]; exact ⟨Int.emod_nonneg _ (by decide), Int.emod_lt_of_pos _ (by decide)⟩
        have hY0 : 0 ≤ Y ∧ Y < 256 := by rw [← hY]; exact ⟨Int.emod_nonneg _ (by decide), Int.emod_lt_of_pos _ (by decide)⟩
        have HST := Lib.hid hst
        have h2' : (1 : Int) < (m : Int) := by omega
        clear hst hX hY
        by_cases hgo : fits v (m - 1)
        · have HFIT := Lib.hid hgo
          have hor := HST.out.1 hgo
          have hcut := HB.out.cut (l := 1) (hi := m) (m := c) rfl (by omega) (Nat.le_of_eq (numB_length v m).symm) (by obtain ⟨_, _, e, h, _⟩ := HB.out; injection e with _ _ e; subst e; simpa [numB_length] using h) (Nat.le_refl _)
          have hcap : 1 < c := by obtain ⟨_, _, e, h, _⟩ := HB.out; injection e with _ _ e; subst e; simp [numB_length] at h; omega
          rw [if_neg (by omega)] at hcut
          have ecut : ((numB v m).take m).drop 1 = numB v (m - 1) := by
            rw [List.take_of_length_le (Nat.le_of_eq (numB_length v m))]
            obtain ⟨k, rfl⟩ : ∃ k, m = k + 1 := ⟨m - 1, by omega⟩
            rfl
          rw [ecut] at hcut
          simp only [Option.map_some, add_lit'] at hcut
          have HCUT := Lib.hid hcut
          have hcne : ¬ c = 1 := by omega
          clear hgo hcut ecut
          rcases hor with ⟨hx, hy⟩ | ⟨hx, hy⟩
          · have t1 : (X == 0) = true := by simp [hx]
            have t2 : decide (Y < 128) = true := by simp; omega
            clear hx hy
            go_wp2_with fail
            go_round
            case rel => exact ⟨m - 1, _, _, by omega, by omega, rfl, HCUT.out, HFIT.out⟩
            case measure => simp; omega
          · have t1 : (X == 0) = false := by simp; omega
            have t2 : (X == 255) = true := by simp [hx]
            have t3 : decide (128 ≤ Y) = true := by simp; omega
            clear hx hy
            go_wp2_with fail
            go_round
            case rel => exact ⟨m - 1, _, _, by omega, by omega, rfl, HCUT.out, HFIT.out⟩
            case measure => simp; omega
        · have hno : ¬ ((X = 0 ∧ Y < 128) ∨ (X = 255 ∧ 128 ≤ Y)) := fun h => hgo (HST.out.2 h)
          have HGO := Lib.hid hgo
          clear hgo
          by_cases hx : X = 0
          · subst hx
            have t2 : decide (Y < 128) = false := by simp; omega
            clear hno
            go_wp2_with fail
            refine (element_one 2 _ _ (numB v m) w1 rfl HB.out (by simp [numB_length]; omega)).mono ?_
            rintro e w2 ⟨v2, rfl, hown2, hb2⟩
            go_wp2_with fail
            go_ret
            have hE : intE v = elem 2 (numB v m) := by rw [HE.out, intLen_eq (m := m) (by omega) (by omega) HF.out (.inr HGO.out)]
            rw [hE]
            exact RetB.of (hb.trans ((below1 _).mono hb.size)) hown2 hb2
          · have t1 : (X == 0) = false := by simp; omega
            by_cases hx2 : X = 255
            · have t2 : (X == 255) = true := by simp [hx2]
              have t3 : decide (128 ≤ Y) = false := by simp; omega
              clear hx hx2
              clear hno
              go_wp2_with fail
              refine (element_one 2 _ _ (numB v m) w1 rfl HB.out (by simp [numB_length]; omega)).mono ?_
              rintro e w2 ⟨v2, rfl, hown2, hb2⟩
              go_wp2_with fail
              go_ret
              have hE : intE v = elem 2 (numB v m) := by rw [HE.out, intLen_eq (m := m) (by omega) (by omega) HF.out (.inr HGO.out)]
              rw [hE]
              exact RetB.of (hb.trans ((below1 _).mono hb.size)) hown2 hb2
            · have t2 : (X == 255) = false := by simp; omega
              clear hx hx2
              clear hno
              go_wp2_with fail
              refine (element_one 2 _ _ (numB v m) w1 rfl HB.out (by simp [numB_length]; omega)).mono ?_
              rintro e w2 ⟨v2, rfl, hown2, hb2⟩
              go_wp2_with fail
              go_ret
              have hE : intE v = elem 2 (numB v m) := by rw [HE.out, intLen_eq (m := m) (by omega) (by omega) HF.out (.inr HGO.out)]
              rw [hE]
              exact RetB.of (hb.trans ((below1 _).mono hb.size)) hown2 hb2
      · obtain rfl : m = 1 := by omega
        go_wp2_with fail
        refine (element_one 2 _ _ (numB v 1) w1 rfl HB.out (by rw [numB_length]; omega)).mono ?_
        rintro e w2 ⟨v2, rfl, hown2, hb2⟩
        go_wp2_with fail
        go_ret
        have hE : intE v = elem 2 (numB v 1) := by rw [HE.out, intLen_eq (m := 1) (by omega) (by omega) HF.out (.inl rfl)]
        rw [hE]
        exact RetB.of (hb.trans ((below1 _).mono hb.size)) hown2 hb2

end Go.Proofs.Yteepfeggkocakaa
