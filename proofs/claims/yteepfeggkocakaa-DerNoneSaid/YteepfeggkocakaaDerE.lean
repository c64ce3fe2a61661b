/- Walks: the reference's integers. -/
import Derived.Test.YteepfeggkocakaaDerD
import Derived.Deep.DeepCutAuto
import Derived.Deep.CutBlock
set_option linter.unusedVariables false
set_option linter.unusedSimpArgs false
set_option maxRecDepth 20000
namespace Go.Proofs.Yteepfeggkocakaa
open Go.RowKit Der

/-- What the search for the number of bytes finds. -/
def Least (v : Int) (n : Value) : Prop := ∃ m : Nat, 1 ≤ m ∧ m ≤ 8 ∧ n = .int .i64 m ∧ fits v m ∧ (m = 1 ∨ ¬ fits v (m - 1))

theorem fits_lit (v : Int) (m : Nat) (a b : Int) (ha : a = -(128 * 256 ^ (m - 1))) (hb : b = 128 * 256 ^ (m - 1)) (h : fits v m) : decide (v < a) = false ∧ decide (b ≤ v) = false := by
  subst ha hb
  unfold fits at h
  exact ⟨decide_eq_false (by omega), decide_eq_false (by omega)⟩
theorem nofits_lit (v : Int) (m : Nat) (a b : Int) (ha : a = -(128 * 256 ^ (m - 1))) (hb : b = 128 * 256 ^ (m - 1)) (h : ¬ fits v m) : decide (v < a) = true ∨ (decide (v < a) = false ∧ decide (b ≤ v) = true) := by
  subst ha hb
  unfold fits at h
  by_cases h1 : v < -(128 * 256 ^ (m - 1))
  · exact .inl (decide_eq_true h1)
  · exact .inr ⟨decide_eq_false h1, decide_eq_true (by omega)⟩

set_option maxHeartbeats 6400000 in
theorem r_integer_any (v : Int) (w : World) (hv1 : -9223372036854775808 ≤ v) (hv2 : v ≤ 9223372036854775807) : Calls Try.prog 20 #[.int .i64 v] w (RetB w (intE v)) := by
  by_cases hout : v < -4611686018427387904 ∨ 4611686018427387904 < v
  · have HE : Hid (intE v = []) := by unfold Hid intE; rw [if_pos hout]
    by_cases h1 : v < -4611686018427387904
    · have d1 : decide (v < -4611686018427387904) = true := decide_eq_true h1
      clear hout h1 hv1 hv2
      go_enter Try.func20, Try.ntmps20
      go_wp2_with fail
      go_ret
      exact ⟨_, rfl, by rw [HE.out]; exact World.ownsRow_nil _ _ _ _, Below.refl _ _⟩
    · have d1 : decide (v < -4611686018427387904) = false := decide_eq_false h1
      have d2 : decide (4611686018427387904 < v) = true := decide_eq_true (by omega)
      clear hout h1 hv1 hv2
      go_enter Try.func20, Try.ntmps20
      go_wp2_with fail
      go_ret
      exact ⟨_, rfl, by rw [HE.out]; exact World.ownsRow_nil _ _ _ _, Below.refl _ _⟩
  · have HE : Hid (intE v = elem 2 (numB v (intLen v))) := by unfold Hid intE; rw [if_neg hout]
    have d1 : decide (v < -4611686018427387904) = false := decide_eq_false (by omega)
    have d2 : decide (4611686018427387904 < v) = false := decide_eq_false (by omega)
    have HF := Lib.hid (fits8 v (by omega) (by omega))
    clear hout hv1 hv2
    go_enter Try.func20, Try.ntmps20
    go_upto_block 0 with (fail)
    go_cut [3] (fun n w' => w = w' ∧ Least v n)
    case first =>
      go_wp2_with fail
      go_loop [3, 12] (fun n _ => ∃ m : Nat, 1 ≤ m ∧ m ≤ 7 ∧ n = .int .i64 m ∧ (m = 1 ∨ ¬ fits v (m - 1))) (fun n _ => 8 - (intOf n).toNat)
      case atStart => exact ⟨1, by omega, by omega, rfl, .inl rfl⟩
      case round =>
        obtain ⟨m, hm1, hm7, rfl, hno⟩ := hrel
        have HNO := Lib.hid hno
        clear hno
        by_cases hfit : fits v m
        · have HFIT := Lib.hid hfit
          clear hfit
          obtain rfl | rfl | rfl | rfl | rfl | rfl | rfl : m = 1 ∨ m = 2 ∨ m = 3 ∨ m = 4 ∨ m = 5 ∨ m = 6 ∨ m = 7 := by omega
          · obtain ⟨t1, t2⟩ := fits_lit v 1 (-128) 128 (by decide) (by decide) HFIT.out
            go_wp2_with fail
            go_meet
            exact ⟨rfl, 1, by omega, by omega, rfl, HFIT.out, .inl rfl⟩
          · obtain ⟨t1, t2⟩ := fits_lit v 2 (-32768) 32768 (by decide) (by decide) HFIT.out
            go_wp2_with fail
            go_meet
            exact ⟨rfl, 2, by omega, by omega, rfl, HFIT.out, HNO.out⟩
          · obtain ⟨t1, t2⟩ := fits_lit v 3 (-8388608) 8388608 (by decide) (by decide) HFIT.out
            go_wp2_with fail
            go_meet
            exact ⟨rfl, 3, by omega, by omega, rfl, HFIT.out, HNO.out⟩
          · obtain ⟨t1, t2⟩ := fits_lit v 4 (-2147483648) 2147483648 (by decide) (by decide) HFIT.out
            go_wp2_with fail
            go_meet
            exact ⟨rfl, 4, by omega, by omega, rfl, HFIT.out, HNO.out⟩
          · obtain ⟨t1, t2⟩ := fits_lit v 5 (-549755813888) 549755813888 (by decide) (by decide) HFIT.out
            go_wp2_with fail
            go_meet
            exact ⟨rfl, 5, by omega, by omega, rfl, HFIT.out, HNO.out⟩
          · obtain ⟨t1, t2⟩ := fits_lit v 6 (-140737488355328) 140737488355328 (by decide) (by decide) HFIT.out
            go_wp2_with fail
            go_meet
            exact ⟨rfl, 6, by omega, by omega, rfl, HFIT.out, HNO.out⟩
          · obtain ⟨t1, t2⟩ := fits_lit v 7 (-36028797018963968) 36028797018963968 (by decide) (by decide) HFIT.out
            go_wp2_with fail
            go_meet
            exact ⟨rfl, 7, by omega, by omega, rfl, HFIT.out, HNO.out⟩
        · have HFIT := Lib.hid hfit
          clear hfit
          obtain rfl | rfl | rfl | rfl | rfl | rfl | rfl : m = 1 ∨ m = 2 ∨ m = 3 ∨ m = 4 ∨ m = 5 ∨ m = 6 ∨ m = 7 := by omega
          · rcases nofits_lit v 1 (-128) 128 (by decide) (by decide) HFIT.out with t1 | ⟨t1, t2⟩
            all_goals
              go_wp2_with fail
              go_round
              case rel => exact ⟨2, by omega, by omega, rfl, .inr HFIT.out⟩
              case measure => simp [intOf]
          · rcases nofits_lit v 2 (-32768) 32768 (by decide) (by decide) HFIT.out with t1 | ⟨t1, t2⟩
            all_goals
              go_wp2_with fail
              go_round
              case rel => exact ⟨3, by omega, by omega, rfl, .inr HFIT.out⟩
              case measure => simp [intOf]
          · rcases nofits_lit v 3 (-8388608) 8388608 (by decide) (by decide) HFIT.out with t1 | ⟨t1, t2⟩
            all_goals
              go_wp2_with fail
              go_round
              case rel => exact ⟨4, by omega, by omega, rfl, .inr HFIT.out⟩
              case measure => simp [intOf]
          · rcases nofits_lit v 4 (-2147483648) 2147483648 (by decide) (by decide) HFIT.out with t1 | ⟨t1, t2⟩
            all_goals
              go_wp2_with fail
              go_round
              case rel => exact ⟨5, by omega, by omega, rfl, .inr HFIT.out⟩
              case measure => simp [intOf]
          · rcases nofits_lit v 5 (-549755813888) 549755813888 (by decide) (by decide) HFIT.out with t1 | ⟨t1, t2⟩
            all_goals
              go_wp2_with fail
              go_round
              case rel => exact ⟨6, by omega, by omega, rfl, .inr HFIT.out⟩
              case measure => simp [intOf]
          · rcases nofits_lit v 6 (-140737488355328) 140737488355328 (by decide) (by decide) HFIT.out with t1 | ⟨t1, t2⟩
            all_goals
              go_wp2_with fail
              go_round
              case rel => exact ⟨7, by omega, by omega, rfl, .inr HFIT.out⟩
              case measure => simp [intOf]
          · rcases nofits_lit v 7 (-36028797018963968) 36028797018963968 (by decide) (by decide) HFIT.out with t1 | ⟨t1, t2⟩
            all_goals
              go_wp2_with fail
              go_meet
              exact ⟨rfl, 8, by omega, by omega, rfl, HF.out, .inr HFIT.out⟩
    case rest =>
      obtain ⟨rfl, m, hm1, hm8, rfl, hfit, hno⟩ := hcut
      have HM : Hid (intLen v = m) := intLen_eq hm1 hm8 hfit hno
      clear hfit hno HF
      go_wp2_with fail
      go_loopw [4, 5] (fun b i wr => ∃ (j : Nat) (A : Option Addr) (c : Nat), j ≤ m ∧ i = .int .i64 ((j : Int) - 1) ∧ b = .slice A (m - j) c ∧ OwnB wr w.heap.size (.slice A (m - j) c) ((numB v m).take (m - j)) ∧ Below w.heap.size w wr) (fun _ i _ => (intOf i + 1).toNat)
      case atStart => exact ⟨m, none, 0, Nat.le_refl _, by go_num, by rw [Nat.sub_self], by rw [Nat.sub_self]; exact World.ownsRow_nil _ _ _ _, Below.refl _ _⟩
      case round =>
        obtain ⟨j, A, c, hj, rfl, rfl, hown, hb⟩ := hrel
        have HO := Lib.hid hown
        clear hown
        by_cases hj0 : 1 ≤ j
        · have e1 : Value.int .u8 (v / 2 ^ (8 * (j - 1)) % 256) = u8v (byteAt v (j - 1)) := by rw [u8v_byteAt, pow256]
          have HL := Lib.hid (byt_lit (w := wr) (g := wr.heap.size) (n := 1) (cs := #[.int .u8 (v / 2 ^ (8 * (j - 1)) % 256)]) [byteAt v (j - 1)] rfl (by rw [e1]; rfl) rfl (le_lim (by simp)))
          have HO2 := Lib.hid (HO.out.below (below1 (.cells #[.int .u8 (v / 2 ^ (8 * (j - 1)) % 256)] 5)))
          have hs := hb.size
          have hlt : ((numB v m).take (m - j)).length = m - j := by rw [List.length_take, numB_length]; omega
          have HLT := Lib.hid hlt
          clear e1 hlt
          go_wp2_with (at_builtin; go_loud (refine wpl_append_b rfl _ _ 24 rfl eiU8 w.heap.size (.slice A (m - j) c) _ rfl HO2.out _ [byteAt v (j - 1)] rfl HL.out (small_lim (by rw [HLT.out]; simp; omega)) (by simp; omega) ?_); intro A2 c2 w2 hown2 hg2 hat2; have HO3 := Lib.hid hown2; have HG2 := Lib.hid hg2; clear hown2 hg2 hat2)
          go_roundw
          case rel =>
            refine ⟨j - 1, A2, c2, by omega, by go_num, ?_, ?_, ?_⟩
            · have e : min (m - j) (numB v m).length + 1 = m - (j - 1) := by rw [numB_length]; omega
              rw [e]
            · have h1 := HO3.out
              have e : m - (j - 1) = (m - j) + 1 := by omega
              have e2 : (numB v m).take (m - (j - 1)) = (numB v m).take (m - j) ++ [byteAt v (j - 1)] := by
                have hk : m - j < (numB v m).length := by rw [numB_length]; omega
                rw [e, List.take_succ_eq_append_getElem hk, numB_getElem, show m - 1 - (m - j) = j - 1 from by omega]
              rw [e2]
              exact h1.respell (by rw [HLT.out]; simp; omega)
            · exact hb.trans ((below1 _).mono hb.size |>.trans (below_of_own HO2.out HG2.out (by simp; omega)))
          case measure => simp [intOf]; omega
        · obtain rfl : j = 0 := by omega
          have hall : (numB v m).take (m - 0) = numB v m := List.take_of_length_le (by rw [numB_length]; omega)
          go_wp2_with fail
          refine (make_any 2 _ (numB v m) wr (by have := HO.out.byt; rw [hall] at this; exact this) (by rw [numB_length]; omega)).mono ?_
          rintro e w2 ⟨v2, rfl, hown2, hb2⟩
          go_wp2_with fail
          go_ret
          have hE : intE v = elem 2 (numB v m) := by rw [HE.out, HM.out]
          rw [hE]
          exact RetB.of hb hown2 hb2
end Go.Proofs.Yteepfeggkocakaa
