/- Walk: the law ModularFermat (printed by genmodlaw.py). -/
import Derived.Test.YtfmadiepefbepaaModP
set_option linter.unusedVariables false
set_option linter.unusedSimpArgs false
set_option maxRecDepth 100000
namespace Go.Proofs.Ytfmadiepefbepaa
open Go.RowKit

/-- The primes of the law, by a number modulo 5. -/
def PCase (u : Int) (p : Nat) : Prop := (u % 5 = 0 ∧ p = 2) ∨ (u % 5 = 1 ∧ p = 3) ∨ (u % 5 = 2 ∧ p = 2879) ∨ (u % 5 = 3 ∧ p = 71850239) ∨ (u % 5 = 4 ∧ p = 2444789759)
theorem pcase_prime {u : Int} {p : Nat} (h : PCase u p) : IsP p := by
  rcases h with ⟨-, rfl⟩ | ⟨-, rfl⟩ | ⟨-, rfl⟩ | ⟨-, rfl⟩ | ⟨-, rfl⟩
  · exact isP_2
  · exact isP_3
  · exact isP_2879'
  · exact isP_71850239
  · exact isP_2444789759
theorem pcase_small {u : Int} {p : Nat} (h : PCase u p) : p < 4294967296 := by
  rcases h with ⟨-, rfl⟩ | ⟨-, rfl⟩ | ⟨-, rfl⟩ | ⟨-, rfl⟩ | ⟨-, rfl⟩ <;> decide
theorem pcase_all (u : Int) : ∃ p, PCase u p := by
  have h : u % 5 = 0 ∨ u % 5 = 1 ∨ u % 5 = 2 ∨ u % 5 = 3 ∨ u % 5 = 4 := by omega
  rcases h with h | h | h | h | h
  · exact ⟨2, .inl ⟨h, rfl⟩⟩
  · exact ⟨3, .inr (.inl ⟨h, rfl⟩)⟩
  · exact ⟨2879, .inr (.inr (.inl ⟨h, rfl⟩))⟩
  · exact ⟨71850239, .inr (.inr (.inr (.inl ⟨h, rfl⟩)))⟩
  · exact ⟨2444789759, .inr (.inr (.inr (.inr ⟨h, rfl⟩)))⟩

set_option maxHeartbeats 12800000 in
theorem fer_z (va : Value) (xa : List UInt8) (vc : Value) (xc : List UInt8) (w : World) (ha : Byt w va xa) (hc : Byt w vc xc) (la : xa.length ≤ 24) (lc : xc.length ≤ 24) (x z : Nat) (ex : numN xa = x) (ez : numN xc = z) (u : Int) (hu : 0 ≤ u ∧ u ≤ 255) (pp : Nat) (hcase : PCase u pp) (h0 : z = 0) :
    Calls Try.prog 8 #[va, vc, .int .u8 u] w fun e w' => e = .returned (.bool true) ∧ Below w.heap.size w w' := by
  have Ha := Lib.hid ha
  obtain ⟨Aa, ca, rfl, -⟩ := ha.len
  have HLx : Hid (xa.length ≤ 200) := Lib.hid (by omega)
  have HSx := Lib.hid (sz_num HLx.out)
  have HFx := Lib.hid (fit_num (xs := xa) (by omega))
  have HCx := Lib.hid (c16_num HLx.out)
  rw [ex] at HSx HFx HCx
  have HEx := Lib.hid ex
  have HKx : Hid (c16 x ≤ 1000) := Lib.hid (Nat.le_trans HCx.out (by decide))
  have Hc := Lib.hid hc
  obtain ⟨Ac, cc, rfl, -⟩ := hc.len
  have HLz : Hid (xc.length ≤ 200) := Lib.hid (by omega)
  have HSz := Lib.hid (sz_num HLz.out)
  have HFz := Lib.hid (fit_num (xs := xc) (by omega))
  have HCz := Lib.hid (c16_num HLz.out)
  rw [ez] at HSz HFz HCz
  have HEz := Lib.hid ez
  have HKz : Hid (c16 z ≤ 1000) := Lib.hid (Nat.le_trans HCz.out (by decide))
  have d0 : decide (24 < (xa.length : Int)) = false := decide_eq_false (by omega)
  have d1 : decide (24 < (xc.length : Int)) = false := decide_eq_false (by omega)
  have H0 := Lib.hid h0
  have HCASE := Lib.hid hcase
  have hP := pcase_prime hcase
  have HP := Lib.hid hP
  have FP : Hid (Fit pp) := Lib.hid (small_fit2 (pcase_small hcase))
  have P0 : Hid (pp ≠ 0) := Lib.hid (by have := hP.1; omega)
  obtain ⟨s, hs⟩ : ∃ s, x % pp = s := ⟨_, rfl⟩
  have ES2 := Lib.hid hs
  have ES1 : Hid (x ^ pp % pp = s) := Lib.hid (by rw [fermat hP x]; exact hs)
  have FS : Hid (Fit s) := Lib.hid (Nat.lt_trans (by rw [← hs]; exact Nat.mod_lt _ (by have := hP.1; omega)) FP.out)
  obtain ⟨n1, hn1⟩ : ∃ n : Nat, n = 1 := ⟨_, rfl⟩
  have FN1 : Hid (Fit n1) := Lib.hid (by rw [hn1]; exact small_fit2 (by decide))
  have KI1 : Hid (∀ W, Calls Try.prog 22 #[.int .i64 1] W fun e w' => e = .returned (.agg (natA n1)) ∧ Below W.heap.size W w') := Lib.hid (by intro W; rw [hn1]; exact number_ok (n := 1) W (by decide))
  clear ha hc la lc ex ez h0 hcase hP hs hn1
  go_enter Try.func8, Try.ntmps8
  go_wp2_with fail
  refine (made2_ok _ _ Ha.out HLx.out HEx.out HFx.out).mono ?_
  rintro e p1 ⟨rfl, hb⟩
  have A_1 := Lib.hid (Ha.out.below hb)
  have C_1 := Lib.hid (Hc.out.below hb)
  have W_1 := Lib.hid (hb)
  clear hb Ha Hc
  go_wp2_with fail
  refine (made2_ok _ _ C_1.out HLz.out HEz.out HFz.out).mono ?_
  rintro e p2 ⟨rfl, hb⟩
  have XT0_2 := Lib.hid (NatAt.zeroA p2)
  have XT1_2 := Lib.hid (NatAt.zeroB p2)
  have XA_2 := Lib.hid (below_zero (below_zero hb hb.size) (Nat.le_trans hb.size (by rw [World.size_alloc]; exact Nat.le_succ _)))
  have hsz_2 := Lib.hid hb.size
  clear hb
  go_upto_region 4 with (first | go_skip | (refine wpl_stN ntNat rfl rfl rfl rfl XT0_2.out ?_; intro r2_0 hn hg; have XB0_2 := Lib.hid (XA_2.out.grown hg XA_2.out.size (fun j e => by injection e with e; rw [← e]; have := hsz_2.out; omega)); have XS00_2 := Lib.hid hn; have XS01_2 := Lib.hid (XT1_2.out.grown hg (fun e => by injection e with e; omega)); clear hn hg XT0_2 XT1_2 XA_2) | (refine wpl_stN ntNat rfl rfl rfl rfl XS01_2.out ?_; intro q2 hn hg; have XB1_2 := Lib.hid (XB0_2.out.grown hg XB0_2.out.size (fun j e => by injection e with e; rw [← e]; have := hsz_2.out; omega)); have XS10_2 := Lib.hid (XS00_2.out.grown hg (fun e => by injection e with e; omega)); have XS11_2 := Lib.hid hn; have A_2 := Lib.hid (A_1.out.below XB1_2.out); have C_2 := Lib.hid (C_1.out.below XB1_2.out); have W_2 := Lib.hid (W_1.out.trans (XB1_2.out.mono W_1.out.size)); have x_2 := XS10_2; have z_2 := XS11_2; clear hn hg A_1 C_1 W_1 XS00_2 XS01_2 XB0_2 XS10_2 XS11_2 XB1_2 hsz_2) | (refine wpl_ldN ntNat rfl rfl rfl x_2.out ?_) | (refine wpl_ldN_g ntNat ?hw rfl rfl x_2.out ?_; (case hw => rfl)) | (refine wpl_ldN ntNat rfl rfl rfl z_2.out ?_) | (refine wpl_ldN_g ntNat ?hw rfl rfl z_2.out ?_; (case hw => rfl)))
  clear A_2
  clear C_2
  try simp only [Act.put, List.setIfInBounds_toArray, List.set_cons_zero, List.set_cons_succ]
  go_cut [9] from 33 to 38 (fun x wx => ∃ B, x = .pointer (some ⟨B, 0, none⟩) ∧ NatAt wx B pp ∧ Below q2.heap.size q2 wx)
  case first =>
    have hcase := HCASE.out
    clear x_2 z_2 W_2 HP ES1 ES2 P0 FP HCASE
    rcases hcase with ⟨hm, rfl⟩ | ⟨hm, rfl⟩ | ⟨hm, rfl⟩ | ⟨hm, rfl⟩ | ⟨hm, rfl⟩
    · have ht : u.tmod 5 = 0 := by rw [Int.tmod_eq_emod_of_nonneg hu.1]; exact hm
      obtain ⟨hu0, hu1⟩ := hu
      go_wp2_with fail
      refine (number_ok (n := 2) _ (by decide)).mono ?_
      rintro e p9 ⟨rfl, hb⟩
      have hb2 : Below q2.heap.size q2 p9 := Below.trans (Below.alloc (Below.refl _ _) (Nat.le_refl _) _) (hb.mono (by rw [World.size_alloc]; exact Nat.le_succ _))
      have XT := Lib.hid (NatAt.zero p9)
      have XS := Lib.hid hb2.size
      have XA := Lib.hid (below_zero hb2 hb2.size)
      clear hb hb2
      go_wp2_with (first | (refine wpl_stN ntNat rfl rfl rfl rfl XT.out ?_; intro q9 hn hg; have XB := Lib.hid (XA.out.grown hg XA.out.size (fun j e => by injection e with e; rw [← e]; exact XS.out)); have XN := Lib.hid hn; clear hn hg XT XA XS))
      go_meet
      case rel => exact ⟨_, rfl, XN.out, XB.out⟩
    · have ht : u.tmod 5 = 1 := by rw [Int.tmod_eq_emod_of_nonneg hu.1]; exact hm
      obtain ⟨hu0, hu1⟩ := hu
      go_wp2_with fail
      refine (number_ok (n := 3) _ (by decide)).mono ?_
      rintro e p9 ⟨rfl, hb⟩
      have hb2 : Below q2.heap.size q2 p9 := Below.trans (Below.alloc (Below.refl _ _) (Nat.le_refl _) _) (hb.mono (by rw [World.size_alloc]; exact Nat.le_succ _))
      have XT := Lib.hid (NatAt.zero p9)
      have XS := Lib.hid hb2.size
      have XA := Lib.hid (below_zero hb2 hb2.size)
      clear hb hb2
      go_wp2_with (first | (refine wpl_stN ntNat rfl rfl rfl rfl XT.out ?_; intro q9 hn hg; have XB := Lib.hid (XA.out.grown hg XA.out.size (fun j e => by injection e with e; rw [← e]; exact XS.out)); have XN := Lib.hid hn; clear hn hg XT XA XS))
      go_meet
      case rel => exact ⟨_, rfl, XN.out, XB.out⟩
    · have ht : u.tmod 5 = 2 := by rw [Int.tmod_eq_emod_of_nonneg hu.1]; exact hm
      obtain ⟨hu0, hu1⟩ := hu
      go_wp2_with fail
      refine (number_ok (n := 2879) _ (by decide)).mono ?_
      rintro e p9 ⟨rfl, hb⟩
      have hb2 : Below q2.heap.size q2 p9 := Below.trans (Below.alloc (Below.refl _ _) (Nat.le_refl _) _) (hb.mono (by rw [World.size_alloc]; exact Nat.le_succ _))
      have XT := Lib.hid (NatAt.zero p9)
      have XS := Lib.hid hb2.size
      have XA := Lib.hid (below_zero hb2 hb2.size)
      clear hb hb2
      go_wp2_with (first | (refine wpl_stN ntNat rfl rfl rfl rfl XT.out ?_; intro q9 hn hg; have XB := Lib.hid (XA.out.grown hg XA.out.size (fun j e => by injection e with e; rw [← e]; exact XS.out)); have XN := Lib.hid hn; clear hn hg XT XA XS))
      go_meet
      case rel => exact ⟨_, rfl, XN.out, XB.out⟩
    · have ht : u.tmod 5 = 3 := by rw [Int.tmod_eq_emod_of_nonneg hu.1]; exact hm
      obtain ⟨hu0, hu1⟩ := hu
      go_wp2_with fail
      refine (number_ok (n := 71850239) _ (by decide)).mono ?_
      rintro e p9 ⟨rfl, hb⟩
      have hb2 : Below q2.heap.size q2 p9 := Below.trans (Below.alloc (Below.refl _ _) (Nat.le_refl _) _) (hb.mono (by rw [World.size_alloc]; exact Nat.le_succ _))
      have XT := Lib.hid (NatAt.zero p9)
      have XS := Lib.hid hb2.size
      have XA := Lib.hid (below_zero hb2 hb2.size)
      clear hb hb2
      go_wp2_with (first | (refine wpl_stN ntNat rfl rfl rfl rfl XT.out ?_; intro q9 hn hg; have XB := Lib.hid (XA.out.grown hg XA.out.size (fun j e => by injection e with e; rw [← e]; exact XS.out)); have XN := Lib.hid hn; clear hn hg XT XA XS))
      go_meet
      case rel => exact ⟨_, rfl, XN.out, XB.out⟩
    · have ht : u.tmod 5 = 4 := by rw [Int.tmod_eq_emod_of_nonneg hu.1]; exact hm
      obtain ⟨hu0, hu1⟩ := hu
      go_wp2_with fail
      refine (number_ok (n := 2444789759) _ (by decide)).mono ?_
      rintro e p9 ⟨rfl, hb⟩
      have hb2 : Below q2.heap.size q2 p9 := Below.trans (Below.alloc (Below.refl _ _) (Nat.le_refl _) _) (hb.mono (by rw [World.size_alloc]; exact Nat.le_succ _))
      have XT := Lib.hid (NatAt.zero p9)
      have XS := Lib.hid hb2.size
      have XA := Lib.hid (below_zero hb2 hb2.size)
      clear hb hb2
      go_wp2_with (first | (refine wpl_stN ntNat rfl rfl rfl rfl XT.out ?_; intro q9 hn hg; have XB := Lib.hid (XA.out.grown hg XA.out.size (fun j e => by injection e with e; rw [← e]; exact XS.out)); have XN := Lib.hid hn; clear hn hg XT XA XS))
      go_meet
      case rel => exact ⟨_, rfl, XN.out, XB.out⟩
  case rest =>
    obtain ⟨b3, rfl, hn, hb⟩ := hcut
    have x_3 := Lib.hid (x_2.out.below hb)
    have z_3 := Lib.hid (z_2.out.below hb)
    have W_3 := Lib.hid (W_2.out.trans (hb.mono W_2.out.size))
    have p_3 := Lib.hid hn
    clear hn hb x_2 z_2 W_2
    generalize wc = p3 at *
    go_wp2_with (first | go_skip | (refine wpl_ldN ntNat rfl rfl rfl x_3.out ?_) | (refine wpl_ldN_g ntNat ?hw rfl rfl x_3.out ?_; (case hw => rfl)) | (refine wpl_ldN ntNat rfl rfl rfl z_3.out ?_) | (refine wpl_ldN_g ntNat ?hw rfl rfl z_3.out ?_; (case hw => rfl)) | (refine wpl_ldN ntNat rfl rfl rfl p_3.out ?_) | (refine wpl_ldN_g ntNat ?hw rfl rfl p_3.out ?_; (case hw => rfl)) | (refine wpl_neN (v := false) ?hw rfl rfl rfl ?ha ?hb ?hv ?_; (case hw => rfl); (case ha => (with_reducible (first | exact FS.out | exact FN1.out))); (case hb => (with_reducible (first | exact FS.out | exact FN1.out))); (case hv => simp)) | (refine wpl_eqN (v := true) ?hw rfl rfl rfl ?ha ?hb ?hv ?_; (case hw => rfl); (case ha => (with_reducible (first | exact FS.out | exact FN1.out))); (case hb => (with_reducible (first | exact FS.out | exact FN1.out))); (case hv => simp)))
    refine (mexp_ok _ FP.out P0.out HFx.out FP.out ES1.out).mono ?_
    rintro e p4 ⟨rfl, hb⟩
    have XT0_4 := Lib.hid (NatAt.zero p4)
    have XA_4 := Lib.hid (below_zero hb hb.size)
    have hsz_4 := Lib.hid hb.size
    clear hb
    go_wp2_with (first | go_skip | (refine wpl_stN ntNat rfl rfl rfl rfl XT0_4.out ?_; intro q4 hn hg; have XB0_4 := Lib.hid (XA_4.out.grown hg XA_4.out.size (fun j e => by injection e with e; rw [← e]; have := hsz_4.out; omega)); have XS00_4 := Lib.hid hn; have x_4 := Lib.hid (x_3.out.below XB0_4.out); have z_4 := Lib.hid (z_3.out.below XB0_4.out); have p_4 := Lib.hid (p_3.out.below XB0_4.out); have W_4 := Lib.hid (W_3.out.trans (XB0_4.out.mono W_3.out.size)); have e1_4 := XS00_4; clear hn hg x_3 z_3 p_3 W_3 XT0_4 XA_4 XS00_4 XB0_4 hsz_4) | (refine wpl_ldN ntNat rfl rfl rfl x_4.out ?_) | (refine wpl_ldN_g ntNat ?hw rfl rfl x_4.out ?_; (case hw => rfl)) | (refine wpl_ldN ntNat rfl rfl rfl z_4.out ?_) | (refine wpl_ldN_g ntNat ?hw rfl rfl z_4.out ?_; (case hw => rfl)) | (refine wpl_ldN ntNat rfl rfl rfl p_4.out ?_) | (refine wpl_ldN_g ntNat ?hw rfl rfl p_4.out ?_; (case hw => rfl)) | (refine wpl_ldN ntNat rfl rfl rfl e1_4.out ?_) | (refine wpl_ldN_g ntNat ?hw rfl rfl e1_4.out ?_; (case hw => rfl)) | (refine wpl_neN (v := false) ?hw rfl rfl rfl ?ha ?hb ?hv ?_; (case hw => rfl); (case ha => (with_reducible (first | exact FS.out | exact FN1.out))); (case hb => (with_reducible (first | exact FS.out | exact FN1.out))); (case hv => simp)) | (refine wpl_eqN (v := true) ?hw rfl rfl rfl ?ha ?hb ?hv ?_; (case hw => rfl); (case ha => (with_reducible (first | exact FS.out | exact FN1.out))); (case hb => (with_reducible (first | exact FS.out | exact FN1.out))); (case hv => simp)))
    refine (mred_ok _ FP.out P0.out HFx.out ES2.out).mono ?_
    rintro e p5 ⟨rfl, hb⟩
    have XT0_5 := Lib.hid (NatAt.zero p5)
    have XA_5 := Lib.hid (below_zero hb hb.size)
    have hsz_5 := Lib.hid hb.size
    clear hb
    go_wp2_with (first | go_skip | (refine wpl_stN ntNat rfl rfl rfl rfl XT0_5.out ?_; intro q5 hn hg; have XB0_5 := Lib.hid (XA_5.out.grown hg XA_5.out.size (fun j e => by injection e with e; rw [← e]; have := hsz_5.out; omega)); have XS00_5 := Lib.hid hn; have x_5 := Lib.hid (x_4.out.below XB0_5.out); have z_5 := Lib.hid (z_4.out.below XB0_5.out); have p_5 := Lib.hid (p_4.out.below XB0_5.out); have e1_5 := Lib.hid (e1_4.out.below XB0_5.out); have W_5 := Lib.hid (W_4.out.trans (XB0_5.out.mono W_4.out.size)); have e2_5 := XS00_5; clear hn hg x_4 z_4 p_4 e1_4 W_4 XT0_5 XA_5 XS00_5 XB0_5 hsz_5) | (refine wpl_ldN ntNat rfl rfl rfl x_5.out ?_) | (refine wpl_ldN_g ntNat ?hw rfl rfl x_5.out ?_; (case hw => rfl)) | (refine wpl_ldN ntNat rfl rfl rfl z_5.out ?_) | (refine wpl_ldN_g ntNat ?hw rfl rfl z_5.out ?_; (case hw => rfl)) | (refine wpl_ldN ntNat rfl rfl rfl p_5.out ?_) | (refine wpl_ldN_g ntNat ?hw rfl rfl p_5.out ?_; (case hw => rfl)) | (refine wpl_ldN ntNat rfl rfl rfl e1_5.out ?_) | (refine wpl_ldN_g ntNat ?hw rfl rfl e1_5.out ?_; (case hw => rfl)) | (refine wpl_ldN ntNat rfl rfl rfl e2_5.out ?_) | (refine wpl_ldN_g ntNat ?hw rfl rfl e2_5.out ?_; (case hw => rfl)) | (refine wpl_neN (v := false) ?hw rfl rfl rfl ?ha ?hb ?hv ?_; (case hw => rfl); (case ha => (with_reducible (first | exact FS.out | exact FN1.out))); (case hb => (with_reducible (first | exact FS.out | exact FN1.out))); (case hv => simp)) | (refine wpl_eqN (v := true) ?hw rfl rfl rfl ?ha ?hb ?hv ?_; (case hw => rfl); (case ha => (with_reducible (first | exact FS.out | exact FN1.out))); (case hb => (with_reducible (first | exact FS.out | exact FN1.out))); (case hv => simp)))
    clear e1_5
    clear e2_5
    clear p_5
    refine (isZero_ok _ HFz.out (c := true) (by simp [H0.out])).mono ?_
    rintro e p6 ⟨rfl, hb⟩
    have x_6 := Lib.hid (x_5.out.below hb)
    have z_6 := Lib.hid (z_5.out.below hb)
    have W_6 := Lib.hid (W_5.out.trans (hb.mono W_5.out.size))
    clear hb x_5 z_5 W_5
    go_wp2_with (first | go_skip | (refine wpl_ldN ntNat rfl rfl rfl x_6.out ?_) | (refine wpl_ldN_g ntNat ?hw rfl rfl x_6.out ?_; (case hw => rfl)) | (refine wpl_ldN ntNat rfl rfl rfl z_6.out ?_) | (refine wpl_ldN_g ntNat ?hw rfl rfl z_6.out ?_; (case hw => rfl)) | (refine wpl_neN (v := false) ?hw rfl rfl rfl ?ha ?hb ?hv ?_; (case hw => rfl); (case ha => (with_reducible (first | exact FS.out | exact FN1.out))); (case hb => (with_reducible (first | exact FS.out | exact FN1.out))); (case hv => simp)) | (refine wpl_eqN (v := true) ?hw rfl rfl rfl ?ha ?hb ?hv ?_; (case hw => rfl); (case ha => (with_reducible (first | exact FS.out | exact FN1.out))); (case hb => (with_reducible (first | exact FS.out | exact FN1.out))); (case hv => simp)))
    refine (known2_any _).mono ?_
    rintro e p7 ⟨rfl, hb⟩
    have x_7 := Lib.hid (x_6.out.below hb)
    have z_7 := Lib.hid (z_6.out.below hb)
    have W_7 := Lib.hid (W_6.out.trans (hb.mono W_6.out.size))
    clear hb x_6 z_6 W_6
    go_wp2_with (first | go_skip | (refine wpl_ldN ntNat rfl rfl rfl x_7.out ?_) | (refine wpl_ldN_g ntNat ?hw rfl rfl x_7.out ?_; (case hw => rfl)) | (refine wpl_ldN ntNat rfl rfl rfl z_7.out ?_) | (refine wpl_ldN_g ntNat ?hw rfl rfl z_7.out ?_; (case hw => rfl)) | (refine wpl_neN (v := false) ?hw rfl rfl rfl ?ha ?hb ?hv ?_; (case hw => rfl); (case ha => (with_reducible (first | exact FS.out | exact FN1.out))); (case hb => (with_reducible (first | exact FS.out | exact FN1.out))); (case hv => simp)) | (refine wpl_eqN (v := true) ?hw rfl rfl rfl ?ha ?hb ?hv ?_; (case hw => rfl); (case ha => (with_reducible (first | exact FS.out | exact FN1.out))); (case hb => (with_reducible (first | exact FS.out | exact FN1.out))); (case hv => simp)))
    go_ret
    exact ⟨rfl, W_7.out⟩

set_option maxHeartbeats 12800000 in
theorem fer_i (va : Value) (xa : List UInt8) (vc : Value) (xc : List UInt8) (w : World) (ha : Byt w va xa) (hc : Byt w vc xc) (la : xa.length ≤ 24) (lc : xc.length ≤ 24) (x z : Nat) (ex : numN xa = x) (ez : numN xc = z) (u : Int) (hu : 0 ≤ u ∧ u ≤ 255) (pp : Nat) (hcase : PCase u pp) (h0 : z ≠ 0) (hg : Nat.gcd x z = 1) :
    Calls Try.prog 8 #[va, vc, .int .u8 u] w fun e w' => e = .returned (.bool true) ∧ Below w.heap.size w w' := by
  have Ha := Lib.hid ha
  obtain ⟨Aa, ca, rfl, -⟩ := ha.len
  have HLx : Hid (xa.length ≤ 200) := Lib.hid (by omega)
  have HSx := Lib.hid (sz_num HLx.out)
  have HFx := Lib.hid (fit_num (xs := xa) (by omega))
  have HCx := Lib.hid (c16_num HLx.out)
  rw [ex] at HSx HFx HCx
  have HEx := Lib.hid ex
  have HKx : Hid (c16 x ≤ 1000) := Lib.hid (Nat.le_trans HCx.out (by decide))
  have Hc := Lib.hid hc
  obtain ⟨Ac, cc, rfl, -⟩ := hc.len
  have HLz : Hid (xc.length ≤ 200) := Lib.hid (by omega)
  have HSz := Lib.hid (sz_num HLz.out)
  have HFz := Lib.hid (fit_num (xs := xc) (by omega))
  have HCz := Lib.hid (c16_num HLz.out)
  rw [ez] at HSz HFz HCz
  have HEz := Lib.hid ez
  have HKz : Hid (c16 z ≤ 1000) := Lib.hid (Nat.le_trans HCz.out (by decide))
  have d0 : decide (24 < (xa.length : Int)) = false := decide_eq_false (by omega)
  have d1 : decide (24 < (xc.length : Int)) = false := decide_eq_false (by omega)
  have H0 := Lib.hid h0
  have HCASE := Lib.hid hcase
  have hP := pcase_prime hcase
  have HP := Lib.hid hP
  have FP : Hid (Fit pp) := Lib.hid (small_fit2 (pcase_small hcase))
  have P0 : Hid (pp ≠ 0) := Lib.hid (by have := hP.1; omega)
  obtain ⟨s, hs⟩ : ∃ s, x % pp = s := ⟨_, rfl⟩
  have ES2 := Lib.hid hs
  have ES1 : Hid (x ^ pp % pp = s) := Lib.hid (by rw [fermat hP x]; exact hs)
  have FS : Hid (Fit s) := Lib.hid (Nat.lt_trans (by rw [← hs]; exact Nat.mod_lt _ (by have := hP.1; omega)) FP.out)
  obtain ⟨n1, hn1⟩ : ∃ n : Nat, n = 1 := ⟨_, rfl⟩
  have FN1 : Hid (Fit n1) := Lib.hid (by rw [hn1]; exact small_fit2 (by decide))
  have KI1 : Hid (∀ W, Calls Try.prog 22 #[.int .i64 1] W fun e w' => e = .returned (.agg (natA n1)) ∧ Below W.heap.size W w') := Lib.hid (by intro W; rw [hn1]; exact number_ok (n := 1) W (by decide))
  obtain ⟨g, hg2⟩ : ∃ g, Nat.gcd x z = g := ⟨_, rfl⟩
  obtain ⟨i1, i2⟩ := invS_spec (m := z) (a := x) (Nat.pos_of_ne_zero h0)
  obtain ⟨⟨q, y⟩, hq⟩ : ∃ s, invS z x = s := ⟨_, rfl⟩
  rw [hq] at i1 i2
  dsimp only at i1 i2
  have KG : Hid (∀ W, Calls Try.prog 29 #[.agg (natA x), .agg (natA z)] W fun e w' => e = .returned (.agg (natA n1)) ∧ Below W.heap.size W w') := Lib.hid (by intro W; have h := gcd_any x z W HFx.out HFz.out; rw [hg, ← hn1] at h; exact h)
  rw [hg] at i1
  subst i1
  have HR := Lib.hid hq
  have Ly := invS_lt h0 hq
  have FY : Hid (Fit y) := Lib.hid (Nat.lt_trans Ly HFz.out)
  obtain ⟨oo, ho⟩ : ∃ o, 1 % z = o := ⟨_, rfl⟩
  have EO : Hid (x * y % z = oo) := Lib.hid (by rw [i2, ho])
  have EO2 : Hid (n1 % z = oo) := Lib.hid (by rw [hn1, ho])
  have FO : Hid (Fit oo) := Lib.hid (Nat.lt_trans (by rw [← ho]; exact Nat.mod_lt _ (Nat.pos_of_ne_zero h0)) HFz.out)
  clear hg hg2 i2 hq Ly ho
  clear ha hc la lc ex ez h0 hcase hP hs hn1
  go_enter Try.func8, Try.ntmps8
  go_wp2_with fail
  refine (made2_ok _ _ Ha.out HLx.out HEx.out HFx.out).mono ?_
  rintro e p1 ⟨rfl, hb⟩
  have A_1 := Lib.hid (Ha.out.below hb)
  have C_1 := Lib.hid (Hc.out.below hb)
  have W_1 := Lib.hid (hb)
  clear hb Ha Hc
  go_wp2_with fail
  refine (made2_ok _ _ C_1.out HLz.out HEz.out HFz.out).mono ?_
  rintro e p2 ⟨rfl, hb⟩
  have XT0_2 := Lib.hid (NatAt.zeroA p2)
  have XT1_2 := Lib.hid (NatAt.zeroB p2)
  have XA_2 := Lib.hid (below_zero (below_zero hb hb.size) (Nat.le_trans hb.size (by rw [World.size_alloc]; exact Nat.le_succ _)))
  have hsz_2 := Lib.hid hb.size
  clear hb
  go_upto_region 4 with (first | go_skip | (refine wpl_stN ntNat rfl rfl rfl rfl XT0_2.out ?_; intro r2_0 hn hg; have XB0_2 := Lib.hid (XA_2.out.grown hg XA_2.out.size (fun j e => by injection e with e; rw [← e]; have := hsz_2.out; omega)); have XS00_2 := Lib.hid hn; have XS01_2 := Lib.hid (XT1_2.out.grown hg (fun e => by injection e with e; omega)); clear hn hg XT0_2 XT1_2 XA_2) | (refine wpl_stN ntNat rfl rfl rfl rfl XS01_2.out ?_; intro q2 hn hg; have XB1_2 := Lib.hid (XB0_2.out.grown hg XB0_2.out.size (fun j e => by injection e with e; rw [← e]; have := hsz_2.out; omega)); have XS10_2 := Lib.hid (XS00_2.out.grown hg (fun e => by injection e with e; omega)); have XS11_2 := Lib.hid hn; have A_2 := Lib.hid (A_1.out.below XB1_2.out); have C_2 := Lib.hid (C_1.out.below XB1_2.out); have W_2 := Lib.hid (W_1.out.trans (XB1_2.out.mono W_1.out.size)); have x_2 := XS10_2; have z_2 := XS11_2; clear hn hg A_1 C_1 W_1 XS00_2 XS01_2 XB0_2 XS10_2 XS11_2 XB1_2 hsz_2) | (refine wpl_ldN ntNat rfl rfl rfl x_2.out ?_) | (refine wpl_ldN_g ntNat ?hw rfl rfl x_2.out ?_; (case hw => rfl)) | (refine wpl_ldN ntNat rfl rfl rfl z_2.out ?_) | (refine wpl_ldN_g ntNat ?hw rfl rfl z_2.out ?_; (case hw => rfl)))
  clear A_2
  clear C_2
  try simp only [Act.put, List.setIfInBounds_toArray, List.set_cons_zero, List.set_cons_succ]
  go_cut [9] from 33 to 38 (fun x wx => ∃ B, x = .pointer (some ⟨B, 0, none⟩) ∧ NatAt wx B pp ∧ Below q2.heap.size q2 wx)
  case first =>
    have hcase := HCASE.out
    clear x_2 z_2 W_2 HP ES1 ES2 P0 FP HCASE
    rcases hcase with ⟨hm, rfl⟩ | ⟨hm, rfl⟩ | ⟨hm, rfl⟩ | ⟨hm, rfl⟩ | ⟨hm, rfl⟩
    · have ht : u.tmod 5 = 0 := by rw [Int.tmod_eq_emod_of_nonneg hu.1]; exact hm
      obtain ⟨hu0, hu1⟩ := hu
      go_wp2_with fail
      refine (number_ok (n := 2) _ (by decide)).mono ?_
      rintro e p9 ⟨rfl, hb⟩
      have hb2 : Below q2.heap.size q2 p9 := Below.trans (Below.alloc (Below.refl _ _) (Nat.le_refl _) _) (hb.mono (by rw [World.size_alloc]; exact Nat.le_succ _))
      have XT := Lib.hid (NatAt.zero p9)
      have XS := Lib.hid hb2.size
      have XA := Lib.hid (below_zero hb2 hb2.size)
      clear hb hb2
      go_wp2_with (first | (refine wpl_stN ntNat rfl rfl rfl rfl XT.out ?_; intro q9 hn hg; have XB := Lib.hid (XA.out.grown hg XA.out.size (fun j e => by injection e with e; rw [← e]; exact XS.out)); have XN := Lib.hid hn; clear hn hg XT XA XS))
      go_meet
      case rel => exact ⟨_, rfl, XN.out, XB.out⟩
    · have ht : u.tmod 5 = 1 := by rw [Int.tmod_eq_emod_of_nonneg hu.1]; exact hm
      obtain ⟨hu0, hu1⟩ := hu
      go_wp2_with fail
      refine (number_ok (n := 3) _ (by decide)).mono ?_
      rintro e p9 ⟨rfl, hb⟩
      have hb2 : Below q2.heap.size q2 p9 := Below.trans (Below.alloc (Below.refl _ _) (Nat.le_refl _) _) (hb.mono (by rw [World.size_alloc]; exact Nat.le_succ _))
      have XT := Lib.hid (NatAt.zero p9)
      have XS := Lib.hid hb2.size
      have XA := Lib.hid (below_zero hb2 hb2.size)
      clear hb hb2
      go_wp2_with (first | (refine wpl_stN ntNat rfl rfl rfl rfl XT.out ?_; intro q9 hn hg; have XB := Lib.hid (XA.out.grown hg XA.out.size (fun j e => by injection e with e; rw [← e]; exact XS.out)); have XN := Lib.hid hn; clear hn hg XT XA XS))
      go_meet
      case rel => exact ⟨_, rfl, XN.out, XB.out⟩
    · have ht : u.tmod 5 = 2 := by rw [Int.tmod_eq_emod_of_nonneg hu.1]; exact hm
      obtain ⟨hu0, hu1⟩ := hu
      go_wp2_with fail
      refine (number_ok (n := 2879) _ (by decide)).mono ?_
      rintro e p9 ⟨rfl, hb⟩
      have hb2 : Below q2.heap.size q2 p9 := Below.trans (Below.alloc (Below.refl _ _) (Nat.le_refl _) _) (hb.mono (by rw [World.size_alloc]; exact Nat.le_succ _))
      have XT := Lib.hid (NatAt.zero p9)
      have XS := Lib.hid hb2.size
      have XA := Lib.hid (below_zero hb2 hb2.size)
      clear hb hb2
      go_wp2_with (first | (refine wpl_stN ntNat rfl rfl rfl rfl XT.out ?_; intro q9 hn hg; have XB := Lib.hid (XA.out.grown hg XA.out.size (fun j e => by injection e with e; rw [← e]; exact XS.out)); have XN := Lib.hid hn; clear hn hg XT XA XS))
      go_meet
      case rel => exact ⟨_, rfl, XN.out, XB.out⟩
    · have ht : u.tmod 5 = 3 := by rw [Int.tmod_eq_emod_of_nonneg hu.1]; exact hm
      obtain ⟨hu0, hu1⟩ := hu
      go_wp2_with fail
      refine (number_ok (n := 71850239) _ (by decide)).mono ?_
      rintro e p9 ⟨rfl, hb⟩
      have hb2 : Below q2.heap.size q2 p9 := Below.trans (Below.alloc (Below.refl _ _) (Nat.le_refl _) _) (hb.mono (by rw [World.size_alloc]; exact Nat.le_succ _))
      have XT := Lib.hid (NatAt.zero p9)
      have XS := Lib.hid hb2.size
      have XA := Lib.hid (below_zero hb2 hb2.size)
      clear hb hb2
      go_wp2_with (first | (refine wpl_stN ntNat rfl rfl rfl rfl XT.out ?_; intro q9 hn hg; have XB := Lib.hid (XA.out.grown hg XA.out.size (fun j e => by injection e with e; rw [← e]; exact XS.out)); have XN := Lib.hid hn; clear hn hg XT XA XS))
      go_meet
      case rel => exact ⟨_, rfl, XN.out, XB.out⟩
    · have ht : u.tmod 5 = 4 := by rw [Int.tmod_eq_emod_of_nonneg hu.1]; exact hm
      obtain ⟨hu0, hu1⟩ := hu
      go_wp2_with fail
      refine (number_ok (n := 2444789759) _ (by decide)).mono ?_
      rintro e p9 ⟨rfl, hb⟩
      have hb2 : Below q2.heap.size q2 p9 := Below.trans (Below.alloc (Below.refl _ _) (Nat.le_refl _) _) (hb.mono (by rw [World.size_alloc]; exact Nat.le_succ _))
      have XT := Lib.hid (NatAt.zero p9)
      have XS := Lib.hid hb2.size
      have XA := Lib.hid (below_zero hb2 hb2.size)
      clear hb hb2
      go_wp2_with (first | (refine wpl_stN ntNat rfl rfl rfl rfl XT.out ?_; intro q9 hn hg; have XB := Lib.hid (XA.out.grown hg XA.out.size (fun j e => by injection e with e; rw [← e]; exact XS.out)); have XN := Lib.hid hn; clear hn hg XT XA XS))
      go_meet
      case rel => exact ⟨_, rfl, XN.out, XB.out⟩
  case rest =>
    obtain ⟨b3, rfl, hn, hb⟩ := hcut
    have x_3 := Lib.hid (x_2.out.below hb)
    have z_3 := Lib.hid (z_2.out.below hb)
    have W_3 := Lib.hid (W_2.out.trans (hb.mono W_2.out.size))
    have p_3 := Lib.hid hn
    clear hn hb x_2 z_2 W_2
    generalize wc = p3 at *
    go_wp2_with (first | go_skip | (refine wpl_ldN ntNat rfl rfl rfl x_3.out ?_) | (refine wpl_ldN_g ntNat ?hw rfl rfl x_3.out ?_; (case hw => rfl)) | (refine wpl_ldN ntNat rfl rfl rfl z_3.out ?_) | (refine wpl_ldN_g ntNat ?hw rfl rfl z_3.out ?_; (case hw => rfl)) | (refine wpl_ldN ntNat rfl rfl rfl p_3.out ?_) | (refine wpl_ldN_g ntNat ?hw rfl rfl p_3.out ?_; (case hw => rfl)) | (refine wpl_neN (v := false) ?hw rfl rfl rfl ?ha ?hb ?hv ?_; (case hw => rfl); (case ha => (with_reducible (first | exact FS.out | exact FN1.out | exact FO.out))); (case hb => (with_reducible (first | exact FS.out | exact FN1.out | exact FO.out))); (case hv => simp)) | (refine wpl_eqN (v := true) ?hw rfl rfl rfl ?ha ?hb ?hv ?_; (case hw => rfl); (case ha => (with_reducible (first | exact FS.out | exact FN1.out | exact FO.out))); (case hb => (with_reducible (first | exact FS.out | exact FN1.out | exact FO.out))); (case hv => simp)))
    refine (mexp_ok _ FP.out P0.out HFx.out FP.out ES1.out).mono ?_
    rintro e p4 ⟨rfl, hb⟩
    have XT0_4 := Lib.hid (NatAt.zero p4)
    have XA_4 := Lib.hid (below_zero hb hb.size)
    have hsz_4 := Lib.hid hb.size
    clear hb
    go_wp2_with (first | go_skip | (refine wpl_stN ntNat rfl rfl rfl rfl XT0_4.out ?_; intro q4 hn hg; have XB0_4 := Lib.hid (XA_4.out.grown hg XA_4.out.size (fun j e => by injection e with e; rw [← e]; have := hsz_4.out; omega)); have XS00_4 := Lib.hid hn; have x_4 := Lib.hid (x_3.out.below XB0_4.out); have z_4 := Lib.hid (z_3.out.below XB0_4.out); have p_4 := Lib.hid (p_3.out.below XB0_4.out); have W_4 := Lib.hid (W_3.out.trans (XB0_4.out.mono W_3.out.size)); have e1_4 := XS00_4; clear hn hg x_3 z_3 p_3 W_3 XT0_4 XA_4 XS00_4 XB0_4 hsz_4) | (refine wpl_ldN ntNat rfl rfl rfl x_4.out ?_) | (refine wpl_ldN_g ntNat ?hw rfl rfl x_4.out ?_; (case hw => rfl)) | (refine wpl_ldN ntNat rfl rfl rfl z_4.out ?_) | (refine wpl_ldN_g ntNat ?hw rfl rfl z_4.out ?_; (case hw => rfl)) | (refine wpl_ldN ntNat rfl rfl rfl p_4.out ?_) | (refine wpl_ldN_g ntNat ?hw rfl rfl p_4.out ?_; (case hw => rfl)) | (refine wpl_ldN ntNat rfl rfl rfl e1_4.out ?_) | (refine wpl_ldN_g ntNat ?hw rfl rfl e1_4.out ?_; (case hw => rfl)) | (refine wpl_neN (v := false) ?hw rfl rfl rfl ?ha ?hb ?hv ?_; (case hw => rfl); (case ha => (with_reducible (first | exact FS.out | exact FN1.out | exact FO.out))); (case hb => (with_reducible (first | exact FS.out | exact FN1.out | exact FO.out))); (case hv => simp)) | (refine wpl_eqN (v := true) ?hw rfl rfl rfl ?ha ?hb ?hv ?_; (case hw => rfl); (case ha => (with_reducible (first | exact FS.out | exact FN1.out | exact FO.out))); (case hb => (with_reducible (first | exact FS.out | exact FN1.out | exact FO.out))); (case hv => simp)))
    refine (mred_ok _ FP.out P0.out HFx.out ES2.out).mono ?_
    rintro e p5 ⟨rfl, hb⟩
    have XT0_5 := Lib.hid (NatAt.zero p5)
    have XA_5 := Lib.hid (below_zero hb hb.size)
    have hsz_5 := Lib.hid hb.size
    clear hb
    go_wp2_with (first | go_skip | (refine wpl_stN ntNat rfl rfl rfl rfl XT0_5.out ?_; intro q5 hn hg; have XB0_5 := Lib.hid (XA_5.out.grown hg XA_5.out.size (fun j e => by injection e with e; rw [← e]; have := hsz_5.out; omega)); have XS00_5 := Lib.hid hn; have x_5 := Lib.hid (x_4.out.below XB0_5.out); have z_5 := Lib.hid (z_4.out.below XB0_5.out); have p_5 := Lib.hid (p_4.out.below XB0_5.out); have e1_5 := Lib.hid (e1_4.out.below XB0_5.out); have W_5 := Lib.hid (W_4.out.trans (XB0_5.out.mono W_4.out.size)); have e2_5 := XS00_5; clear hn hg x_4 z_4 p_4 e1_4 W_4 XT0_5 XA_5 XS00_5 XB0_5 hsz_5) | (refine wpl_ldN ntNat rfl rfl rfl x_5.out ?_) | (refine wpl_ldN_g ntNat ?hw rfl rfl x_5.out ?_; (case hw => rfl)) | (refine wpl_ldN ntNat rfl rfl rfl z_5.out ?_) | (refine wpl_ldN_g ntNat ?hw rfl rfl z_5.out ?_; (case hw => rfl)) | (refine wpl_ldN ntNat rfl rfl rfl p_5.out ?_) | (refine wpl_ldN_g ntNat ?hw rfl rfl p_5.out ?_; (case hw => rfl)) | (refine wpl_ldN ntNat rfl rfl rfl e1_5.out ?_) | (refine wpl_ldN_g ntNat ?hw rfl rfl e1_5.out ?_; (case hw => rfl)) | (refine wpl_ldN ntNat rfl rfl rfl e2_5.out ?_) | (refine wpl_ldN_g ntNat ?hw rfl rfl e2_5.out ?_; (case hw => rfl)) | (refine wpl_neN (v := false) ?hw rfl rfl rfl ?ha ?hb ?hv ?_; (case hw => rfl); (case ha => (with_reducible (first | exact FS.out | exact FN1.out | exact FO.out))); (case hb => (with_reducible (first | exact FS.out | exact FN1.out | exact FO.out))); (case hv => simp)) | (refine wpl_eqN (v := true) ?hw rfl rfl rfl ?ha ?hb ?hv ?_; (case hw => rfl); (case ha => (with_reducible (first | exact FS.out | exact FN1.out | exact FO.out))); (case hb => (with_reducible (first | exact FS.out | exact FN1.out | exact FO.out))); (case hv => simp)))
    clear e1_5
    clear e2_5
    clear p_5
    refine (isZero_ok _ HFz.out (c := false) (by simp [H0.out])).mono ?_
    rintro e p6 ⟨rfl, hb⟩
    have x_6 := Lib.hid (x_5.out.below hb)
    have z_6 := Lib.hid (z_5.out.below hb)
    have W_6 := Lib.hid (W_5.out.trans (hb.mono W_5.out.size))
    clear hb x_5 z_5 W_5
    go_wp2_with (first | go_skip | (refine wpl_ldN ntNat rfl rfl rfl x_6.out ?_) | (refine wpl_ldN_g ntNat ?hw rfl rfl x_6.out ?_; (case hw => rfl)) | (refine wpl_ldN ntNat rfl rfl rfl z_6.out ?_) | (refine wpl_ldN_g ntNat ?hw rfl rfl z_6.out ?_; (case hw => rfl)) | (refine wpl_neN (v := false) ?hw rfl rfl rfl ?ha ?hb ?hv ?_; (case hw => rfl); (case ha => (with_reducible (first | exact FS.out | exact FN1.out | exact FO.out))); (case hb => (with_reducible (first | exact FS.out | exact FN1.out | exact FO.out))); (case hv => simp)) | (refine wpl_eqN (v := true) ?hw rfl rfl rfl ?ha ?hb ?hv ?_; (case hw => rfl); (case ha => (with_reducible (first | exact FS.out | exact FN1.out | exact FO.out))); (case hb => (with_reducible (first | exact FS.out | exact FN1.out | exact FO.out))); (case hv => simp)))
    refine (inverse_is _ HFz.out H0.out HFx.out HR.out).mono ?_
    rintro e p7 ⟨rfl, hb⟩
    have XT0_7 := Lib.hid (NatAt.zero p7)
    have XA_7 := Lib.hid (below_zero hb hb.size)
    have hsz_7 := Lib.hid hb.size
    clear hb
    go_wp2_with (first | go_skip | (refine wpl_stN ntNat rfl rfl rfl rfl XT0_7.out ?_; intro q7 hn hg; have XB0_7 := Lib.hid (XA_7.out.grown hg XA_7.out.size (fun j e => by injection e with e; rw [← e]; have := hsz_7.out; omega)); have XS00_7 := Lib.hid hn; have x_7 := Lib.hid (x_6.out.below XB0_7.out); have z_7 := Lib.hid (z_6.out.below XB0_7.out); have W_7 := Lib.hid (W_6.out.trans (XB0_7.out.mono W_6.out.size)); have y_7 := XS00_7; clear hn hg x_6 z_6 W_6 XT0_7 XA_7 XS00_7 XB0_7 hsz_7) | (refine wpl_ldN ntNat rfl rfl rfl x_7.out ?_) | (refine wpl_ldN_g ntNat ?hw rfl rfl x_7.out ?_; (case hw => rfl)) | (refine wpl_ldN ntNat rfl rfl rfl z_7.out ?_) | (refine wpl_ldN_g ntNat ?hw rfl rfl z_7.out ?_; (case hw => rfl)) | (refine wpl_ldN ntNat rfl rfl rfl y_7.out ?_) | (refine wpl_ldN_g ntNat ?hw rfl rfl y_7.out ?_; (case hw => rfl)) | (refine wpl_neN (v := false) ?hw rfl rfl rfl ?ha ?hb ?hv ?_; (case hw => rfl); (case ha => (with_reducible (first | exact FS.out | exact FN1.out | exact FO.out))); (case hb => (with_reducible (first | exact FS.out | exact FN1.out | exact FO.out))); (case hv => simp)) | (refine wpl_eqN (v := true) ?hw rfl rfl rfl ?ha ?hb ?hv ?_; (case hw => rfl); (case ha => (with_reducible (first | exact FS.out | exact FN1.out | exact FO.out))); (case hb => (with_reducible (first | exact FS.out | exact FN1.out | exact FO.out))); (case hv => simp)))
    refine (KG.out _).mono ?_
    rintro e p8 ⟨rfl, hb⟩
    have x_8 := Lib.hid (x_7.out.below hb)
    have z_8 := Lib.hid (z_7.out.below hb)
    have y_8 := Lib.hid (y_7.out.below hb)
    have W_8 := Lib.hid (W_7.out.trans (hb.mono W_7.out.size))
    clear hb x_7 z_7 y_7 W_7
    go_wp2_with (first | go_skip | (refine wpl_ldN ntNat rfl rfl rfl x_8.out ?_) | (refine wpl_ldN_g ntNat ?hw rfl rfl x_8.out ?_; (case hw => rfl)) | (refine wpl_ldN ntNat rfl rfl rfl z_8.out ?_) | (refine wpl_ldN_g ntNat ?hw rfl rfl z_8.out ?_; (case hw => rfl)) | (refine wpl_ldN ntNat rfl rfl rfl y_8.out ?_) | (refine wpl_ldN_g ntNat ?hw rfl rfl y_8.out ?_; (case hw => rfl)) | (refine wpl_neN (v := false) ?hw rfl rfl rfl ?ha ?hb ?hv ?_; (case hw => rfl); (case ha => (with_reducible (first | exact FS.out | exact FN1.out | exact FO.out))); (case hb => (with_reducible (first | exact FS.out | exact FN1.out | exact FO.out))); (case hv => simp)) | (refine wpl_eqN (v := true) ?hw rfl rfl rfl ?ha ?hb ?hv ?_; (case hw => rfl); (case ha => (with_reducible (first | exact FS.out | exact FN1.out | exact FO.out))); (case hb => (with_reducible (first | exact FS.out | exact FN1.out | exact FO.out))); (case hv => simp)))
    refine (KI1.out _).mono ?_
    rintro e p9 ⟨rfl, hb⟩
    have x_9 := Lib.hid (x_8.out.below hb)
    have z_9 := Lib.hid (z_8.out.below hb)
    have y_9 := Lib.hid (y_8.out.below hb)
    have W_9 := Lib.hid (W_8.out.trans (hb.mono W_8.out.size))
    clear hb x_8 z_8 y_8 W_8
    go_wp2_with (first | go_skip | (refine wpl_ldN ntNat rfl rfl rfl x_9.out ?_) | (refine wpl_ldN_g ntNat ?hw rfl rfl x_9.out ?_; (case hw => rfl)) | (refine wpl_ldN ntNat rfl rfl rfl z_9.out ?_) | (refine wpl_ldN_g ntNat ?hw rfl rfl z_9.out ?_; (case hw => rfl)) | (refine wpl_ldN ntNat rfl rfl rfl y_9.out ?_) | (refine wpl_ldN_g ntNat ?hw rfl rfl y_9.out ?_; (case hw => rfl)) | (refine wpl_neN (v := false) ?hw rfl rfl rfl ?ha ?hb ?hv ?_; (case hw => rfl); (case ha => (with_reducible (first | exact FS.out | exact FN1.out | exact FO.out))); (case hb => (with_reducible (first | exact FS.out | exact FN1.out | exact FO.out))); (case hv => simp)) | (refine wpl_eqN (v := true) ?hw rfl rfl rfl ?ha ?hb ?hv ?_; (case hw => rfl); (case ha => (with_reducible (first | exact FS.out | exact FN1.out | exact FO.out))); (case hb => (with_reducible (first | exact FS.out | exact FN1.out | exact FO.out))); (case hv => simp)))
    refine (mmul_ok _ HFz.out H0.out HFx.out FY.out EO.out).mono ?_
    rintro e p10 ⟨rfl, hb⟩
    have XT0_10 := Lib.hid (NatAt.zero p10)
    have XA_10 := Lib.hid (below_zero hb hb.size)
    have hsz_10 := Lib.hid hb.size
    clear hb
    go_upto_region 15 with (first | go_skip | (refine wpl_stN ntNat rfl rfl rfl rfl XT0_10.out ?_; intro q10 hn hg; have XB0_10 := Lib.hid (XA_10.out.grown hg XA_10.out.size (fun j e => by injection e with e; rw [← e]; have := hsz_10.out; omega)); have XS00_10 := Lib.hid hn; have x_10 := Lib.hid (x_9.out.below XB0_10.out); have z_10 := Lib.hid (z_9.out.below XB0_10.out); have y_10 := Lib.hid (y_9.out.below XB0_10.out); have W_10 := Lib.hid (W_9.out.trans (XB0_10.out.mono W_9.out.size)); have o1_10 := XS00_10; clear hn hg x_9 z_9 y_9 W_9 XT0_10 XA_10 XS00_10 XB0_10 hsz_10) | (refine wpl_ldN ntNat rfl rfl rfl x_10.out ?_) | (refine wpl_ldN_g ntNat ?hw rfl rfl x_10.out ?_; (case hw => rfl)) | (refine wpl_ldN ntNat rfl rfl rfl z_10.out ?_) | (refine wpl_ldN_g ntNat ?hw rfl rfl z_10.out ?_; (case hw => rfl)) | (refine wpl_ldN ntNat rfl rfl rfl y_10.out ?_) | (refine wpl_ldN_g ntNat ?hw rfl rfl y_10.out ?_; (case hw => rfl)) | (refine wpl_ldN ntNat rfl rfl rfl o1_10.out ?_) | (refine wpl_ldN_g ntNat ?hw rfl rfl o1_10.out ?_; (case hw => rfl)) | (refine wpl_neN (v := false) ?hw rfl rfl rfl ?ha ?hb ?hv ?_; (case hw => rfl); (case ha => (with_reducible (first | exact FS.out | exact FN1.out | exact FO.out))); (case hb => (with_reducible (first | exact FS.out | exact FN1.out | exact FO.out))); (case hv => simp)) | (refine wpl_eqN (v := true) ?hw rfl rfl rfl ?ha ?hb ?hv ?_; (case hw => rfl); (case ha => (with_reducible (first | exact FS.out | exact FN1.out | exact FO.out))); (case hb => (with_reducible (first | exact FS.out | exact FN1.out | exact FO.out))); (case hv => simp)))
    clear x_10
    clear y_10
    try simp only [Act.put, List.setIfInBounds_toArray, List.set_cons_zero, List.set_cons_succ]
    go_cut [18, 19] from 89 to 94 (fun x y wx => ∃ B, x = .pointer (some ⟨B, 0, none⟩) ∧ y = .int .i64 0 ∧ NatAt wx B oo ∧ Below q10.heap.size q10 wx)
    case first =>
      have hRR : ∀ w9 : World, Below q10.heap.size w9 w9 := fun _ => Below.refl _ _
      have hRT : ∀ x y z : World, Below q10.heap.size x y → Below q10.heap.size y z → Below q10.heap.size x z := fun _ _ _ h1 h2 => h1.trans h2
      refine region_begin (fun x y => Below q10.heap.size x y) 9 (by kernel_rfl) (by kernel_rfl) ?_
      have BX : Hid (Below q10.heap.size q10 q10.drew) := Lib.hid (Below.refl q10.heap.size q10).drew
      have YY_z := Lib.hid z_10.out.drew
      have LT_z := Lib.hid z_10.out.lt
      clear z_10 o1_10 W_10
      generalize q10.drew = tq0 at BX YY_z ⊢
      refine anyR_at (o := ?_) (i := 1) ?_ ?_
      rotate_left
      · (conv => (lhs; whnf; arg 1; whnf))
      refine anyR_y hRR hRT (by kernel_rfl) (v := ?_) (by kernel_rfl) (by rfl) (fun W hW => ?_) ?_
      rotate_left
      · (refine exec_ldN (x := .tmp 8) ntNat ?_ ?_ (natAt_below (N := q10.heap.size) YY_z.out hW LT_z.out)) <;> rfl
      try simp only [Act.put, List.setIfInBounds_toArray, List.set_cons_zero, List.set_cons_succ]
      refine anyR_branch [0, 6] (by kernel_rfl) rfl ?_
      refine brs_cons (o := ?_) ?_ ?_ ?_
      rotate_left
      · (conv => (lhs; whnf; arg 1; whnf))
      · refine stepB_c (by rfl) (fun K hK => ?_)
        go_simp
        refine (KI1.out _).mono ?_
        rintro e tq1 ⟨rfl, hb⟩
        have z_1 := Lib.hid (YY_z.out.below hb)
        have B_1 := Lib.hid (BX.out.trans (hb.mono BX.out.size))
        have R_1 := Lib.hid (hb.mono BX.out.size)
        clear hb
        refine hK _ _ R_1.out ?_
        clear hK R_1
        try simp only [Act.put, List.setIfInBounds_toArray, List.set_cons_zero, List.set_cons_succ]
        refine anyR_branch [2, 6] (by kernel_rfl) rfl ?_
        refine brs_cons (o := ?_) ?_ ?_ ?_
        rotate_left
        · (conv => (lhs; whnf; arg 1; whnf))
        · refine stepB_c (by rfl) (fun K hK => ?_)
          go_simp
          refine (mred_ok _ HFz.out H0.out FN1.out EO2.out).mono ?_
          rintro e tq2 ⟨rfl, hb⟩
          have z_2 := Lib.hid (z_1.out.below hb)
          have B_2 := Lib.hid (B_1.out.trans (hb.mono B_1.out.size))
          have R_2 := Lib.hid (hb.mono B_1.out.size)
          clear hb
          refine hK _ _ R_2.out ?_
          clear hK R_2
          clear z_1 B_1
          try simp only [Act.put, List.setIfInBounds_toArray, List.set_cons_zero, List.set_cons_succ]
          refine anyR_at (o := ?_) (i := 3) ?_ ?_
          rotate_left
          · (conv => (lhs; whnf; arg 1; whnf))
          refine anyR_y hRR hRT (by kernel_rfl) (v := ?_) (by kernel_rfl) (by rfl) (fun W hW => ?_) ?_
          rotate_left
          · go_simp; try with_reducible rfl
          try simp only [Act.put, List.setIfInBounds_toArray, List.set_cons_zero, List.set_cons_succ]
          refine anyR_at (o := ?_) (i := 4) ?_ ?_
          rotate_left
          · (conv => (lhs; whnf; arg 1; whnf))
          refine anyR_y hRR hRT (by kernel_rfl) (v := ?_) (by kernel_rfl) (by rfl) (fun W hW => ?_) ?_
          rotate_left
          · go_simp; try with_reducible rfl
          try simp only [Act.put, List.setIfInBounds_toArray, List.set_cons_zero, List.set_cons_succ]
          refine anyR_at (o := ?_) (i := 5) ?_ ?_
          rotate_left
          · (conv => (lhs; whnf; arg 1; whnf))
          refine anyR_y hRR hRT (by kernel_rfl) (v := ?_) (by kernel_rfl) (by rfl) (fun W hW => ?_) ?_
          rotate_left
          · go_simp; try with_reducible rfl
          try simp only [Act.put, List.setIfInBounds_toArray, List.set_cons_zero, List.set_cons_succ]
          refine anyR_branch [6] (by kernel_rfl) rfl ?_
          refine brs_cons (o := ?_) ?_ ?_ ?_
          rotate_left
          · (conv => (lhs; whnf; arg 1; whnf))
          · refine stepB_c (by rfl) (fun K hK => ?_)
            go_simp
            have hb : Below tq2.heap.size tq2 (tq2.alloc (.cells z0 37)) := (Below.refl _ _).alloc (Nat.le_refl _) _
            have z_3 := Lib.hid (z_2.out.below hb)
            have B_3 := Lib.hid (B_2.out.trans (hb.mono B_2.out.size))
            have R_3 := Lib.hid (hb.mono B_2.out.size)
            have o2_3 := Lib.hid (NatAt.zero tq2)
            have mo2 : Hid (q10.heap.size ≤ tq2.heap.size) := Lib.hid B_2.out.size
            clear hb
            generalize (tq2.alloc (.cells z0 37)) = tq3 at *
            refine hK _ _ R_3.out ?_
            clear hK R_3
            generalize tq2.heap.size = bo2 at *
            clear z_2 B_2
            try simp only [Act.put, List.setIfInBounds_toArray, List.set_cons_zero, List.set_cons_succ]
            refine anyR_branch [7] (by kernel_rfl) rfl ?_
            refine brs_cons (o := ?_) ?_ ?_ ?_
            rotate_left
            · (conv => (lhs; whnf; arg 1; whnf))
            · refine stepB_c (by rfl) (fun K hK => ?_)
              refine wp_stN ntNat rfl rfl (m := oo) rfl o2_3.out ?_
              intro tq4 hd hg
              have o2_4 := Lib.hid hd
              have B_4 := Lib.hid (B_3.out.grown hg B_3.out.size (fun j e => by injection e with e; have := mo2.out; omega))
              have R_4 : Hid (Below (q10.heap.size) tq3 tq4) := Lib.hid ((Below.refl _ _).grown hg B_3.out.size (fun j e => by injection e with e; have := mo2.out; omega))
              clear hd hg
              refine hK _ _ R_4.out ?_
              clear hK R_4
              clear o2_3 z_3 B_3
              try simp only [Act.put, List.setIfInBounds_toArray, List.set_cons_zero, List.set_cons_succ]
              refine anyR_at (o := ?_) (i := 8) ?_ ?_
              rotate_left
              · (conv => (lhs; whnf; arg 1; whnf))
              refine anyR_y hRR hRT (by kernel_rfl) (v := ?_) (by kernel_rfl) (by rfl) (fun W hW => ?_) ?_
              rotate_left
              · go_simp; try with_reducible rfl
              try simp only [Act.put, List.setIfInBounds_toArray, List.set_cons_zero, List.set_cons_succ]
              refine anyR_end (by kernel_rfl) ?_
              dsimp only [Exit.then]
              go_step
              go_meet
              exact ⟨_, rfl, rfl, o2_4.out, B_4.out⟩
            exact brs_nil
          exact brs_nil
        refine brs_cons (o := ?_) ?_ ?_ ?_
        rotate_left
        · (conv => (lhs; whnf; arg 1; whnf))
        · refine stepB_c (by rfl) (fun K hK => ?_)
          go_simp
          have hb : Below tq1.heap.size tq1 (tq1.alloc (.cells z0 37)) := (Below.refl _ _).alloc (Nat.le_refl _) _
          have z_5 := Lib.hid (z_1.out.below hb)
          have B_5 := Lib.hid (B_1.out.trans (hb.mono B_1.out.size))
          have R_5 := Lib.hid (hb.mono B_1.out.size)
          have o2_5 := Lib.hid (NatAt.zero tq1)
          have mo2 : Hid (q10.heap.size ≤ tq1.heap.size) := Lib.hid B_1.out.size
          clear hb
          generalize (tq1.alloc (.cells z0 37)) = tq5 at *
          refine hK _ _ R_5.out ?_
          clear hK R_5
          generalize tq1.heap.size = bo2 at *
          clear z_1 B_1
          try simp only [Act.put, List.setIfInBounds_toArray, List.set_cons_zero, List.set_cons_succ]
          refine anyR_branch [2] (by kernel_rfl) rfl ?_
          refine brs_cons (o := ?_) ?_ ?_ ?_
          rotate_left
          · (conv => (lhs; whnf; arg 1; whnf))
          · refine stepB_c (by rfl) (fun K hK => ?_)
            go_simp
            refine (mred_ok _ HFz.out H0.out FN1.out EO2.out).mono ?_
            rintro e tq6 ⟨rfl, hb⟩
            have o2_6 := Lib.hid (o2_5.out.below hb)
            have z_6 := Lib.hid (z_5.out.below hb)
            have B_6 := Lib.hid (B_5.out.trans (hb.mono B_5.out.size))
            have R_6 := Lib.hid (hb.mono B_5.out.size)
            clear hb
            refine hK _ _ R_6.out ?_
            clear hK R_6
            clear o2_5 z_5 B_5
            try simp only [Act.put, List.setIfInBounds_toArray, List.set_cons_zero, List.set_cons_succ]
            refine anyR_at (o := ?_) (i := 3) ?_ ?_
            rotate_left
            · (conv => (lhs; whnf; arg 1; whnf))
            refine anyR_y hRR hRT (by kernel_rfl) (v := ?_) (by kernel_rfl) (by rfl) (fun W hW => ?_) ?_
            rotate_left
            · go_simp; try with_reducible rfl
            try simp only [Act.put, List.setIfInBounds_toArray, List.set_cons_zero, List.set_cons_succ]
            refine anyR_at (o := ?_) (i := 4) ?_ ?_
            rotate_left
            · (conv => (lhs; whnf; arg 1; whnf))
            refine anyR_y hRR hRT (by kernel_rfl) (v := ?_) (by kernel_rfl) (by rfl) (fun W hW => ?_) ?_
            rotate_left
            · go_simp; try with_reducible rfl
            try simp only [Act.put, List.setIfInBounds_toArray, List.set_cons_zero, List.set_cons_succ]
            refine anyR_at (o := ?_) (i := 5) ?_ ?_
            rotate_left
            · (conv => (lhs; whnf; arg 1; whnf))
            refine anyR_y hRR hRT (by kernel_rfl) (v := ?_) (by kernel_rfl) (by rfl) (fun W hW => ?_) ?_
            rotate_left
            · go_simp; try with_reducible rfl
            try simp only [Act.put, List.setIfInBounds_toArray, List.set_cons_zero, List.set_cons_succ]
            refine anyR_branch [7] (by kernel_rfl) rfl ?_
            refine brs_cons (o := ?_) ?_ ?_ ?_
            rotate_left
            · (conv => (lhs; whnf; arg 1; whnf))
            · refine stepB_c (by rfl) (fun K hK => ?_)
              refine wp_stN ntNat rfl rfl (m := oo) rfl o2_6.out ?_
              intro tq7 hd hg
              have o2_7 := Lib.hid hd
              have B_7 := Lib.hid (B_6.out.grown hg B_6.out.size (fun j e => by injection e with e; have := mo2.out; omega))
              have R_7 : Hid (Below (q10.heap.size) tq6 tq7) := Lib.hid ((Below.refl _ _).grown hg B_6.out.size (fun j e => by injection e with e; have := mo2.out; omega))
              clear hd hg
              refine hK _ _ R_7.out ?_
              clear hK R_7
              clear o2_6 z_6 B_6
              try simp only [Act.put, List.setIfInBounds_toArray, List.set_cons_zero, List.set_cons_succ]
              refine anyR_at (o := ?_) (i := 8) ?_ ?_
              rotate_left
              · (conv => (lhs; whnf; arg 1; whnf))
              refine anyR_y hRR hRT (by kernel_rfl) (v := ?_) (by kernel_rfl) (by rfl) (fun W hW => ?_) ?_
              rotate_left
              · go_simp; try with_reducible rfl
              try simp only [Act.put, List.setIfInBounds_toArray, List.set_cons_zero, List.set_cons_succ]
              refine anyR_end (by kernel_rfl) ?_
              dsimp only [Exit.then]
              go_step
              go_meet
              exact ⟨_, rfl, rfl, o2_7.out, B_7.out⟩
            exact brs_nil
          exact brs_nil
        exact brs_nil
      refine brs_cons (o := ?_) ?_ ?_ ?_
      rotate_left
      · (conv => (lhs; whnf; arg 1; whnf))
      · refine stepB_c (by rfl) (fun K hK => ?_)
        go_simp
        have hb : Below tq0.heap.size tq0 (tq0.alloc (.cells z0 37)) := (Below.refl _ _).alloc (Nat.le_refl _) _
        have z_8 := Lib.hid (YY_z.out.below hb)
        have B_8 := Lib.hid (BX.out.trans (hb.mono BX.out.size))
        have R_8 := Lib.hid (hb.mono BX.out.size)
        have o2_8 := Lib.hid (NatAt.zero tq0)
        have mo2 : Hid (q10.heap.size ≤ tq0.heap.size) := Lib.hid BX.out.size
        clear hb
        generalize (tq0.alloc (.cells z0 37)) = tq8 at *
        refine hK _ _ R_8.out ?_
        clear hK R_8
        generalize tq0.heap.size = bo2 at *
        try simp only [Act.put, List.setIfInBounds_toArray, List.set_cons_zero, List.set_cons_succ]
        refine anyR_branch [0] (by kernel_rfl) rfl ?_
        refine brs_cons (o := ?_) ?_ ?_ ?_
        rotate_left
        · (conv => (lhs; whnf; arg 1; whnf))
        · refine stepB_c (by rfl) (fun K hK => ?_)
          go_simp
          refine (KI1.out _).mono ?_
          rintro e tq9 ⟨rfl, hb⟩
          have o2_9 := Lib.hid (o2_8.out.below hb)
          have z_9 := Lib.hid (z_8.out.below hb)
          have B_9 := Lib.hid (B_8.out.trans (hb.mono B_8.out.size))
          have R_9 := Lib.hid (hb.mono B_8.out.size)
          clear hb
          refine hK _ _ R_9.out ?_
          clear hK R_9
          clear o2_8 z_8 B_8
          try simp only [Act.put, List.setIfInBounds_toArray, List.set_cons_zero, List.set_cons_succ]
          refine anyR_branch [2] (by kernel_rfl) rfl ?_
          refine brs_cons (o := ?_) ?_ ?_ ?_
          rotate_left
          · (conv => (lhs; whnf; arg 1; whnf))
          · refine stepB_c (by rfl) (fun K hK => ?_)
            go_simp
            refine (mred_ok _ HFz.out H0.out FN1.out EO2.out).mono ?_
            rintro e tq10 ⟨rfl, hb⟩
            have o2_10 := Lib.hid (o2_9.out.below hb)
            have z_10 := Lib.hid (z_9.out.below hb)
            have B_10 := Lib.hid (B_9.out.trans (hb.mono B_9.out.size))
            have R_10 := Lib.hid (hb.mono B_9.out.size)
            clear hb
            refine hK _ _ R_10.out ?_
            clear hK R_10
            clear o2_9 z_9 B_9
            try simp only [Act.put, List.setIfInBounds_toArray, List.set_cons_zero, List.set_cons_succ]
            refine anyR_at (o := ?_) (i := 3) ?_ ?_
            rotate_left
            · (conv => (lhs; whnf; arg 1; whnf))
            refine anyR_y hRR hRT (by kernel_rfl) (v := ?_) (by kernel_rfl) (by rfl) (fun W hW => ?_) ?_
            rotate_left
            · go_simp; try with_reducible rfl
            try simp only [Act.put, List.setIfInBounds_toArray, List.set_cons_zero, List.set_cons_succ]
            refine anyR_at (o := ?_) (i := 4) ?_ ?_
            rotate_left
            · (conv => (lhs; whnf; arg 1; whnf))
            refine anyR_y hRR hRT (by kernel_rfl) (v := ?_) (by kernel_rfl) (by rfl) (fun W hW => ?_) ?_
            rotate_left
            · go_simp; try with_reducible rfl
            try simp only [Act.put, List.setIfInBounds_toArray, List.set_cons_zero, List.set_cons_succ]
            refine anyR_at (o := ?_) (i := 5) ?_ ?_
            rotate_left
            · (conv => (lhs; whnf; arg 1; whnf))
            refine anyR_y hRR hRT (by kernel_rfl) (v := ?_) (by kernel_rfl) (by rfl) (fun W hW => ?_) ?_
            rotate_left
            · go_simp; try with_reducible rfl
            try simp only [Act.put, List.setIfInBounds_toArray, List.set_cons_zero, List.set_cons_succ]
            refine anyR_branch [7] (by kernel_rfl) rfl ?_
            refine brs_cons (o := ?_) ?_ ?_ ?_
            rotate_left
            · (conv => (lhs; whnf; arg 1; whnf))
            · refine stepB_c (by rfl) (fun K hK => ?_)
              refine wp_stN ntNat rfl rfl (m := oo) rfl o2_10.out ?_
              intro tq11 hd hg
              have o2_11 := Lib.hid hd
              have B_11 := Lib.hid (B_10.out.grown hg B_10.out.size (fun j e => by injection e with e; have := mo2.out; omega))
              have R_11 : Hid (Below (q10.heap.size) tq10 tq11) := Lib.hid ((Below.refl _ _).grown hg B_10.out.size (fun j e => by injection e with e; have := mo2.out; omega))
              clear hd hg
              refine hK _ _ R_11.out ?_
              clear hK R_11
              clear o2_10 z_10 B_10
              try simp only [Act.put, List.setIfInBounds_toArray, List.set_cons_zero, List.set_cons_succ]
              refine anyR_at (o := ?_) (i := 8) ?_ ?_
              rotate_left
              · (conv => (lhs; whnf; arg 1; whnf))
              refine anyR_y hRR hRT (by kernel_rfl) (v := ?_) (by kernel_rfl) (by rfl) (fun W hW => ?_) ?_
              rotate_left
              · go_simp; try with_reducible rfl
              try simp only [Act.put, List.setIfInBounds_toArray, List.set_cons_zero, List.set_cons_succ]
              refine anyR_end (by kernel_rfl) ?_
              dsimp only [Exit.then]
              go_step
              go_meet
              exact ⟨_, rfl, rfl, o2_11.out, B_11.out⟩
            exact brs_nil
          exact brs_nil
        exact brs_nil
      exact brs_nil
    case rest =>
      obtain ⟨b11, rfl, rfl, hn, hb⟩ := hcut
      have z_11 := Lib.hid (z_10.out.below hb)
      have o1_11 := Lib.hid (o1_10.out.below hb)
      have W_11 := Lib.hid (W_10.out.trans (hb.mono W_10.out.size))
      have o2_11 := Lib.hid hn
      clear hn hb z_10 o1_10 W_10
      generalize wc = p11 at *
      go_wp2_with (first | go_skip | (refine wpl_ldN ntNat rfl rfl rfl z_11.out ?_) | (refine wpl_ldN_g ntNat ?hw rfl rfl z_11.out ?_; (case hw => rfl)) | (refine wpl_ldN ntNat rfl rfl rfl o1_11.out ?_) | (refine wpl_ldN_g ntNat ?hw rfl rfl o1_11.out ?_; (case hw => rfl)) | (refine wpl_ldN ntNat rfl rfl rfl o2_11.out ?_) | (refine wpl_ldN_g ntNat ?hw rfl rfl o2_11.out ?_; (case hw => rfl)) | (refine wpl_neN (v := false) ?hw rfl rfl rfl ?ha ?hb ?hv ?_; (case hw => rfl); (case ha => (with_reducible (first | exact FS.out | exact FN1.out | exact FO.out))); (case hb => (with_reducible (first | exact FS.out | exact FN1.out | exact FO.out))); (case hv => simp)) | (refine wpl_eqN (v := true) ?hw rfl rfl rfl ?ha ?hb ?hv ?_; (case hw => rfl); (case ha => (with_reducible (first | exact FS.out | exact FN1.out | exact FO.out))); (case hb => (with_reducible (first | exact FS.out | exact FN1.out | exact FO.out))); (case hv => simp)))
      refine (known2_any _).mono ?_
      rintro e p12 ⟨rfl, hb⟩
      have z_12 := Lib.hid (z_11.out.below hb)
      have o1_12 := Lib.hid (o1_11.out.below hb)
      have o2_12 := Lib.hid (o2_11.out.below hb)
      have W_12 := Lib.hid (W_11.out.trans (hb.mono W_11.out.size))
      clear hb z_11 o1_11 o2_11 W_11
      go_wp2_with (first | go_skip | (refine wpl_ldN ntNat rfl rfl rfl z_12.out ?_) | (refine wpl_ldN_g ntNat ?hw rfl rfl z_12.out ?_; (case hw => rfl)) | (refine wpl_ldN ntNat rfl rfl rfl o1_12.out ?_) | (refine wpl_ldN_g ntNat ?hw rfl rfl o1_12.out ?_; (case hw => rfl)) | (refine wpl_ldN ntNat rfl rfl rfl o2_12.out ?_) | (refine wpl_ldN_g ntNat ?hw rfl rfl o2_12.out ?_; (case hw => rfl)) | (refine wpl_neN (v := false) ?hw rfl rfl rfl ?ha ?hb ?hv ?_; (case hw => rfl); (case ha => (with_reducible (first | exact FS.out | exact FN1.out | exact FO.out))); (case hb => (with_reducible (first | exact FS.out | exact FN1.out | exact FO.out))); (case hv => simp)) | (refine wpl_eqN (v := true) ?hw rfl rfl rfl ?ha ?hb ?hv ?_; (case hw => rfl); (case ha => (with_reducible (first | exact FS.out | exact FN1.out | exact FO.out))); (case hb => (with_reducible (first | exact FS.out | exact FN1.out | exact FO.out))); (case hv => simp)))
      go_ret
      exact ⟨rfl, W_12.out⟩

set_option maxHeartbeats 12800000 in
theorem fer_n (va : Value) (xa : List UInt8) (vc : Value) (xc : List UInt8) (w : World) (ha : Byt w va xa) (hc : Byt w vc xc) (la : xa.length ≤ 24) (lc : xc.length ≤ 24) (x z : Nat) (ex : numN xa = x) (ez : numN xc = z) (u : Int) (hu : 0 ≤ u ∧ u ≤ 255) (pp : Nat) (hcase : PCase u pp) (h0 : z ≠ 0) (hg : Nat.gcd x z ≠ 1) :
    Calls Try.prog 8 #[va, vc, .int .u8 u] w fun e w' => e = .returned (.bool true) ∧ Below w.heap.size w w' := by
  have Ha := Lib.hid ha
  obtain ⟨Aa, ca, rfl, -⟩ := ha.len
  have HLx : Hid (xa.length ≤ 200) := Lib.hid (by omega)
  have HSx := Lib.hid (sz_num HLx.out)
  have HFx := Lib.hid (fit_num (xs := xa) (by omega))
  have HCx := Lib.hid (c16_num HLx.out)
  rw [ex] at HSx HFx HCx
  have HEx := Lib.hid ex
  have HKx : Hid (c16 x ≤ 1000) := Lib.hid (Nat.le_trans HCx.out (by decide))
  have Hc := Lib.hid hc
  obtain ⟨Ac, cc, rfl, -⟩ := hc.len
  have HLz : Hid (xc.length ≤ 200) := Lib.hid (by omega)
  have HSz := Lib.hid (sz_num HLz.out)
  have HFz := Lib.hid (fit_num (xs := xc) (by omega))
  have HCz := Lib.hid (c16_num HLz.out)
  rw [ez] at HSz HFz HCz
  have HEz := Lib.hid ez
  have HKz : Hid (c16 z ≤ 1000) := Lib.hid (Nat.le_trans HCz.out (by decide))
  have d0 : decide (24 < (xa.length : Int)) = false := decide_eq_false (by omega)
  have d1 : decide (24 < (xc.length : Int)) = false := decide_eq_false (by omega)
  have H0 := Lib.hid h0
  have HCASE := Lib.hid hcase
  have hP := pcase_prime hcase
  have HP := Lib.hid hP
  have FP : Hid (Fit pp) := Lib.hid (small_fit2 (pcase_small hcase))
  have P0 : Hid (pp ≠ 0) := Lib.hid (by have := hP.1; omega)
  obtain ⟨s, hs⟩ : ∃ s, x % pp = s := ⟨_, rfl⟩
  have ES2 := Lib.hid hs
  have ES1 : Hid (x ^ pp % pp = s) := Lib.hid (by rw [fermat hP x]; exact hs)
  have FS : Hid (Fit s) := Lib.hid (Nat.lt_trans (by rw [← hs]; exact Nat.mod_lt _ (by have := hP.1; omega)) FP.out)
  obtain ⟨n1, hn1⟩ : ∃ n : Nat, n = 1 := ⟨_, rfl⟩
  have FN1 : Hid (Fit n1) := Lib.hid (by rw [hn1]; exact small_fit2 (by decide))
  have KI1 : Hid (∀ W, Calls Try.prog 22 #[.int .i64 1] W fun e w' => e = .returned (.agg (natA n1)) ∧ Below W.heap.size W w') := Lib.hid (by intro W; rw [hn1]; exact number_ok (n := 1) W (by decide))
  obtain ⟨g, hg2⟩ : ∃ g, Nat.gcd x z = g := ⟨_, rfl⟩
  obtain ⟨i1, i2⟩ := invS_spec (m := z) (a := x) (Nat.pos_of_ne_zero h0)
  obtain ⟨⟨q, y⟩, hq⟩ : ∃ s, invS z x = s := ⟨_, rfl⟩
  rw [hq] at i1 i2
  dsimp only at i1 i2
  have KG : Hid (∀ W, Calls Try.prog 29 #[.agg (natA x), .agg (natA z)] W fun e w' => e = .returned (.agg (natA g)) ∧ Below W.heap.size W w') := Lib.hid (by intro W; have h := gcd_any x z W HFx.out HFz.out; rw [hg2] at h; exact h)
  have HR := Lib.hid hq
  have HQ : Hid (q ≠ 1) := Lib.hid (by rw [i1]; exact hg)
  have FG : Hid (Fit g) := Lib.hid (by rw [← hg2]; exact Nat.lt_of_le_of_lt (Nat.gcd_le_right _ (Nat.pos_of_ne_zero h0)) HFz.out)
  have HGN : Hid (g ≠ n1) := Lib.hid (by rw [← hg2, hn1]; exact hg)
  clear hg hg2 i1 i2 hq
  clear ha hc la lc ex ez h0 hcase hP hs hn1
  go_enter Try.func8, Try.ntmps8
  go_wp2_with fail
  refine (made2_ok _ _ Ha.out HLx.out HEx.out HFx.out).mono ?_
  rintro e p1 ⟨rfl, hb⟩
  have A_1 := Lib.hid (Ha.out.below hb)
  have C_1 := Lib.hid (Hc.out.below hb)
  have W_1 := Lib.hid (hb)
  clear hb Ha Hc
  go_wp2_with fail
  refine (made2_ok _ _ C_1.out HLz.out HEz.out HFz.out).mono ?_
  rintro e p2 ⟨rfl, hb⟩
  have XT0_2 := Lib.hid (NatAt.zeroA p2)
  have XT1_2 := Lib.hid (NatAt.zeroB p2)
  have XA_2 := Lib.hid (below_zero (below_zero hb hb.size) (Nat.le_trans hb.size (by rw [World.size_alloc]; exact Nat.le_succ _)))
  have hsz_2 := Lib.hid hb.size
  clear hb
  go_upto_region 4 with (first | go_skip | (refine wpl_stN ntNat rfl rfl rfl rfl XT0_2.out ?_; intro r2_0 hn hg; have XB0_2 := Lib.hid (XA_2.out.grown hg XA_2.out.size (fun j e => by injection e with e; rw [← e]; have := hsz_2.out; omega)); have XS00_2 := Lib.hid hn; have XS01_2 := Lib.hid (XT1_2.out.grown hg (fun e => by injection e with e; omega)); clear hn hg XT0_2 XT1_2 XA_2) | (refine wpl_stN ntNat rfl rfl rfl rfl XS01_2.out ?_; intro q2 hn hg; have XB1_2 := Lib.hid (XB0_2.out.grown hg XB0_2.out.size (fun j e => by injection e with e; rw [← e]; have := hsz_2.out; omega)); have XS10_2 := Lib.hid (XS00_2.out.grown hg (fun e => by injection e with e; omega)); have XS11_2 := Lib.hid hn; have A_2 := Lib.hid (A_1.out.below XB1_2.out); have C_2 := Lib.hid (C_1.out.below XB1_2.out); have W_2 := Lib.hid (W_1.out.trans (XB1_2.out.mono W_1.out.size)); have x_2 := XS10_2; have z_2 := XS11_2; clear hn hg A_1 C_1 W_1 XS00_2 XS01_2 XB0_2 XS10_2 XS11_2 XB1_2 hsz_2) | (refine wpl_ldN ntNat rfl rfl rfl x_2.out ?_) | (refine wpl_ldN_g ntNat ?hw rfl rfl x_2.out ?_; (case hw => rfl)) | (refine wpl_ldN ntNat rfl rfl rfl z_2.out ?_) | (refine wpl_ldN_g ntNat ?hw rfl rfl z_2.out ?_; (case hw => rfl)))
  clear A_2
  clear C_2
  try simp only [Act.put, List.setIfInBounds_toArray, List.set_cons_zero, List.set_cons_succ]
  go_cut [9] from 33 to 38 (fun x wx => ∃ B, x = .pointer (some ⟨B, 0, none⟩) ∧ NatAt wx B pp ∧ Below q2.heap.size q2 wx)
  case first =>
    have hcase := HCASE.out
    clear x_2 z_2 W_2 HP ES1 ES2 P0 FP HCASE
    rcases hcase with ⟨hm, rfl⟩ | ⟨hm, rfl⟩ | ⟨hm, rfl⟩ | ⟨hm, rfl⟩ | ⟨hm, rfl⟩
    · have ht : u.tmod 5 = 0 := by rw [Int.tmod_eq_emod_of_nonneg hu.1]; exact hm
      obtain ⟨hu0, hu1⟩ := hu
      go_wp2_with fail
      refine (number_ok (n := 2) _ (by decide)).mono ?_
      rintro e p9 ⟨rfl, hb⟩
      have hb2 : Below q2.heap.size q2 p9 := Below.trans (Below.alloc (Below.refl _ _) (Nat.le_refl _) _) (hb.mono (by rw [World.size_alloc]; exact Nat.le_succ _))
      have XT := Lib.hid (NatAt.zero p9)
      have XS := Lib.hid hb2.size
      have XA := Lib.hid (below_zero hb2 hb2.size)
      clear hb hb2
      go_wp2_with (first | (refine wpl_stN ntNat rfl rfl rfl rfl XT.out ?_; intro q9 hn hg; have XB := Lib.hid (XA.out.grown hg XA.out.size (fun j e => by injection e with e; rw [← e]; exact XS.out)); have XN := Lib.hid hn; clear hn hg XT XA XS))
      go_meet
      case rel => exact ⟨_, rfl, XN.out, XB.out⟩
    · have ht : u.tmod 5 = 1 := by rw [Int.tmod_eq_emod_of_nonneg hu.1]; exact hm
      obtain ⟨hu0, hu1⟩ := hu
      go_wp2_with fail
      refine (number_ok (n := 3) _ (by decide)).mono ?_
      rintro e p9 ⟨rfl, hb⟩
      have hb2 : Below q2.heap.size q2 p9 := Below.trans (Below.alloc (Below.refl _ _) (Nat.le_refl _) _) (hb.mono (by rw [World.size_alloc]; exact Nat.le_succ _))
      have XT := Lib.hid (NatAt.zero p9)
      have XS := Lib.hid hb2.size
      have XA := Lib.hid (below_zero hb2 hb2.size)
      clear hb hb2
      go_wp2_with (first | (refine wpl_stN ntNat rfl rfl rfl rfl XT.out ?_; intro q9 hn hg; have XB := Lib.hid (XA.out.grown hg XA.out.size (fun j e => by injection e with e; rw [← e]; exact XS.out)); have XN := Lib.hid hn; clear hn hg XT XA XS))
      go_meet
      case rel => exact ⟨_, rfl, XN.out, XB.out⟩
    · have ht : u.tmod 5 = 2 := by rw [Int.tmod_eq_emod_of_nonneg hu.1]; exact hm
      obtain ⟨hu0, hu1⟩ := hu
      go_wp2_with fail
      refine (number_ok (n := 2879) _ (by decide)).mono ?_
      rintro e p9 ⟨rfl, hb⟩
      have hb2 : Below q2.heap.size q2 p9 := Below.trans (Below.alloc (Below.refl _ _) (Nat.le_refl _) _) (hb.mono (by rw [World.size_alloc]; exact Nat.le_succ _))
      have XT := Lib.hid (NatAt.zero p9)
      have XS := Lib.hid hb2.size
      have XA := Lib.hid (below_zero hb2 hb2.size)
      clear hb hb2
      go_wp2_with (first | (refine wpl_stN ntNat rfl rfl rfl rfl XT.out ?_; intro q9 hn hg; have XB := Lib.hid (XA.out.grown hg XA.out.size (fun j e => by injection e with e; rw [← e]; exact XS.out)); have XN := Lib.hid hn; clear hn hg XT XA XS))
      go_meet
      case rel => exact ⟨_, rfl, XN.out, XB.out⟩
    · have ht : u.tmod 5 = 3 := by rw [Int.tmod_eq_emod_of_nonneg hu.1]; exact hm
      obtain ⟨hu0, hu1⟩ := hu
      go_wp2_with fail
      refine (number_ok (n := 71850239) _ (by decide)).mono ?_
      rintro e p9 ⟨rfl, hb⟩
      have hb2 : Below q2.heap.size q2 p9 := Below.trans (Below.alloc (Below.refl _ _) (Nat.le_refl _) _) (hb.mono (by rw [World.size_alloc]; exact Nat.le_succ _))
      have XT := Lib.hid (NatAt.zero p9)
      have XS := Lib.hid hb2.size
      have XA := Lib.hid (below_zero hb2 hb2.size)
      clear hb hb2
      go_wp2_with (first | (refine wpl_stN ntNat rfl rfl rfl rfl XT.out ?_; intro q9 hn hg; have XB := Lib.hid (XA.out.grown hg XA.out.size (fun j e => by injection e with e; rw [← e]; exact XS.out)); have XN := Lib.hid hn; clear hn hg XT XA XS))
      go_meet
      case rel => exact ⟨_, rfl, XN.out, XB.out⟩
    · have ht : u.tmod 5 = 4 := by rw [Int.tmod_eq_emod_of_nonneg hu.1]; exact hm
      obtain ⟨hu0, hu1⟩ := hu
      go_wp2_with fail
      refine (number_ok (n := 2444789759) _ (by decide)).mono ?_
      rintro e p9 ⟨rfl, hb⟩
      have hb2 : Below q2.heap.size q2 p9 := Below.trans (Below.alloc (Below.refl _ _) (Nat.le_refl _) _) (hb.mono (by rw [World.size_alloc]; exact Nat.le_succ _))
      have XT := Lib.hid (NatAt.zero p9)
      have XS := Lib.hid hb2.size
      have XA := Lib.hid (below_zero hb2 hb2.size)
      clear hb hb2
      go_wp2_with (first | (refine wpl_stN ntNat rfl rfl rfl rfl XT.out ?_; intro q9 hn hg; have XB := Lib.hid (XA.out.grown hg XA.out.size (fun j e => by injection e with e; rw [← e]; exact XS.out)); have XN := Lib.hid hn; clear hn hg XT XA XS))
      go_meet
      case rel => exact ⟨_, rfl, XN.out, XB.out⟩
  case rest =>
    obtain ⟨b3, rfl, hn, hb⟩ := hcut
    have x_3 := Lib.hid (x_2.out.below hb)
    have z_3 := Lib.hid (z_2.out.below hb)
    have W_3 := Lib.hid (W_2.out.trans (hb.mono W_2.out.size))
    have p_3 := Lib.hid hn
    clear hn hb x_2 z_2 W_2
    generalize wc = p3 at *
    go_wp2_with (first | go_skip | (refine wpl_ldN ntNat rfl rfl rfl x_3.out ?_) | (refine wpl_ldN_g ntNat ?hw rfl rfl x_3.out ?_; (case hw => rfl)) | (refine wpl_ldN ntNat rfl rfl rfl z_3.out ?_) | (refine wpl_ldN_g ntNat ?hw rfl rfl z_3.out ?_; (case hw => rfl)) | (refine wpl_ldN ntNat rfl rfl rfl p_3.out ?_) | (refine wpl_ldN_g ntNat ?hw rfl rfl p_3.out ?_; (case hw => rfl)) | (refine wpl_neN (v := false) ?hw rfl rfl rfl ?ha ?hb ?hv ?_; (case hw => rfl); (case ha => (with_reducible (first | exact FS.out | exact FN1.out | exact FG.out))); (case hb => (with_reducible (first | exact FS.out | exact FN1.out | exact FG.out))); (case hv => simp)) | (refine wpl_eqN (v := true) ?hw rfl rfl rfl ?ha ?hb ?hv ?_; (case hw => rfl); (case ha => (with_reducible (first | exact FS.out | exact FN1.out | exact FG.out))); (case hb => (with_reducible (first | exact FS.out | exact FN1.out | exact FG.out))); (case hv => simp)) | (refine wpl_neN (v := true) ?hw rfl rfl rfl ?ha ?hb ?hv ?_; (case hw => rfl); (case ha => (with_reducible (first | exact FS.out | exact FN1.out | exact FG.out))); (case hb => (with_reducible (first | exact FS.out | exact FN1.out | exact FG.out))); (case hv => simp [HGN.out])))
    refine (mexp_ok _ FP.out P0.out HFx.out FP.out ES1.out).mono ?_
    rintro e p4 ⟨rfl, hb⟩
    have XT0_4 := Lib.hid (NatAt.zero p4)
    have XA_4 := Lib.hid (below_zero hb hb.size)
    have hsz_4 := Lib.hid hb.size
    clear hb
    go_wp2_with (first | go_skip | (refine wpl_stN ntNat rfl rfl rfl rfl XT0_4.out ?_; intro q4 hn hg; have XB0_4 := Lib.hid (XA_4.out.grown hg XA_4.out.size (fun j e => by injection e with e; rw [← e]; have := hsz_4.out; omega)); have XS00_4 := Lib.hid hn; have x_4 := Lib.hid (x_3.out.below XB0_4.out); have z_4 := Lib.hid (z_3.out.below XB0_4.out); have p_4 := Lib.hid (p_3.out.below XB0_4.out); have W_4 := Lib.hid (W_3.out.trans (XB0_4.out.mono W_3.out.size)); have e1_4 := XS00_4; clear hn hg x_3 z_3 p_3 W_3 XT0_4 XA_4 XS00_4 XB0_4 hsz_4) | (refine wpl_ldN ntNat rfl rfl rfl x_4.out ?_) | (refine wpl_ldN_g ntNat ?hw rfl rfl x_4.out ?_; (case hw => rfl)) | (refine wpl_ldN ntNat rfl rfl rfl z_4.out ?_) | (refine wpl_ldN_g ntNat ?hw rfl rfl z_4.out ?_; (case hw => rfl)) | (refine wpl_ldN ntNat rfl rfl rfl p_4.out ?_) | (refine wpl_ldN_g ntNat ?hw rfl rfl p_4.out ?_; (case hw => rfl)) | (refine wpl_ldN ntNat rfl rfl rfl e1_4.out ?_) | (refine wpl_ldN_g ntNat ?hw rfl rfl e1_4.out ?_; (case hw => rfl)) | (refine wpl_neN (v := false) ?hw rfl rfl rfl ?ha ?hb ?hv ?_; (case hw => rfl); (case ha => (with_reducible (first | exact FS.out | exact FN1.out | exact FG.out))); (case hb => (with_reducible (first | exact FS.out | exact FN1.out | exact FG.out))); (case hv => simp)) | (refine wpl_eqN (v := true) ?hw rfl rfl rfl ?ha ?hb ?hv ?_; (case hw => rfl); (case ha => (with_reducible (first | exact FS.out | exact FN1.out | exact FG.out))); (case hb => (with_reducible (first | exact FS.out | exact FN1.out | exact FG.out))); (case hv => simp)) | (refine wpl_neN (v := true) ?hw rfl rfl rfl ?ha ?hb ?hv ?_; (case hw => rfl); (case ha => (with_reducible (first | exact FS.out | exact FN1.out | exact FG.out))); (case hb => (with_reducible (first | exact FS.out | exact FN1.out | exact FG.out))); (case hv => simp [HGN.out])))
    refine (mred_ok _ FP.out P0.out HFx.out ES2.out).mono ?_
    rintro e p5 ⟨rfl, hb⟩
    have XT0_5 := Lib.hid (NatAt.zero p5)
    have XA_5 := Lib.hid (below_zero hb hb.size)
    have hsz_5 := Lib.hid hb.size
    clear hb
    go_wp2_with (first | go_skip | (refine wpl_stN ntNat rfl rfl rfl rfl XT0_5.out ?_; intro q5 hn hg; have XB0_5 := Lib.hid (XA_5.out.grown hg XA_5.out.size (fun j e => by injection e with e; rw [← e]; have := hsz_5.out; omega)); have XS00_5 := Lib.hid hn; have x_5 := Lib.hid (x_4.out.below XB0_5.out); have z_5 := Lib.hid (z_4.out.below XB0_5.out); have p_5 := Lib.hid (p_4.out.below XB0_5.out); have e1_5 := Lib.hid (e1_4.out.below XB0_5.out); have W_5 := Lib.hid (W_4.out.trans (XB0_5.out.mono W_4.out.size)); have e2_5 := XS00_5; clear hn hg x_4 z_4 p_4 e1_4 W_4 XT0_5 XA_5 XS00_5 XB0_5 hsz_5) | (refine wpl_ldN ntNat rfl rfl rfl x_5.out ?_) | (refine wpl_ldN_g ntNat ?hw rfl rfl x_5.out ?_; (case hw => rfl)) | (refine wpl_ldN ntNat rfl rfl rfl z_5.out ?_) | (refine wpl_ldN_g ntNat ?hw rfl rfl z_5.out ?_; (case hw => rfl)) | (refine wpl_ldN ntNat rfl rfl rfl p_5.out ?_) | (refine wpl_ldN_g ntNat ?hw rfl rfl p_5.out ?_; (case hw => rfl)) | (refine wpl_ldN ntNat rfl rfl rfl e1_5.out ?_) | (refine wpl_ldN_g ntNat ?hw rfl rfl e1_5.out ?_; (case hw => rfl)) | (refine wpl_ldN ntNat rfl rfl rfl e2_5.out ?_) | (refine wpl_ldN_g ntNat ?hw rfl rfl e2_5.out ?_; (case hw => rfl)) | (refine wpl_neN (v := false) ?hw rfl rfl rfl ?ha ?hb ?hv ?_; (case hw => rfl); (case ha => (with_reducible (first | exact FS.out | exact FN1.out | exact FG.out))); (case hb => (with_reducible (first | exact FS.out | exact FN1.out | exact FG.out))); (case hv => simp)) | (refine wpl_eqN (v := true) ?hw rfl rfl rfl ?ha ?hb ?hv ?_; (case hw => rfl); (case ha => (with_reducible (first | exact FS.out | exact FN1.out | exact FG.out))); (case hb => (with_reducible (first | exact FS.out | exact FN1.out | exact FG.out))); (case hv => simp)) | (refine wpl_neN (v := true) ?hw rfl rfl rfl ?ha ?hb ?hv ?_; (case hw => rfl); (case ha => (with_reducible (first | exact FS.out | exact FN1.out | exact FG.out))); (case hb => (with_reducible (first | exact FS.out | exact FN1.out | exact FG.out))); (case hv => simp [HGN.out])))
    clear e1_5
    clear e2_5
    clear p_5
    refine (isZero_ok _ HFz.out (c := false) (by simp [H0.out])).mono ?_
    rintro e p6 ⟨rfl, hb⟩
    have x_6 := Lib.hid (x_5.out.below hb)
    have z_6 := Lib.hid (z_5.out.below hb)
    have W_6 := Lib.hid (W_5.out.trans (hb.mono W_5.out.size))
    clear hb x_5 z_5 W_5
    go_wp2_with (first | go_skip | (refine wpl_ldN ntNat rfl rfl rfl x_6.out ?_) | (refine wpl_ldN_g ntNat ?hw rfl rfl x_6.out ?_; (case hw => rfl)) | (refine wpl_ldN ntNat rfl rfl rfl z_6.out ?_) | (refine wpl_ldN_g ntNat ?hw rfl rfl z_6.out ?_; (case hw => rfl)) | (refine wpl_neN (v := false) ?hw rfl rfl rfl ?ha ?hb ?hv ?_; (case hw => rfl); (case ha => (with_reducible (first | exact FS.out | exact FN1.out | exact FG.out))); (case hb => (with_reducible (first | exact FS.out | exact FN1.out | exact FG.out))); (case hv => simp)) | (refine wpl_eqN (v := true) ?hw rfl rfl rfl ?ha ?hb ?hv ?_; (case hw => rfl); (case ha => (with_reducible (first | exact FS.out | exact FN1.out | exact FG.out))); (case hb => (with_reducible (first | exact FS.out | exact FN1.out | exact FG.out))); (case hv => simp)) | (refine wpl_neN (v := true) ?hw rfl rfl rfl ?ha ?hb ?hv ?_; (case hw => rfl); (case ha => (with_reducible (first | exact FS.out | exact FN1.out | exact FG.out))); (case hb => (with_reducible (first | exact FS.out | exact FN1.out | exact FG.out))); (case hv => simp [HGN.out])))
    refine (inverse_no _ HFz.out H0.out HFx.out HR.out HQ.out).mono ?_
    rintro e p7 ⟨rfl, hb⟩
    have XT0_7 := Lib.hid (NatAt.zero p7)
    have XA_7 := Lib.hid (below_zero hb hb.size)
    have hsz_7 := Lib.hid hb.size
    clear hb
    go_wp2_with (first | go_skip | (refine wpl_stN ntNat rfl rfl rfl rfl XT0_7.out ?_; intro q7 hn hg; have XB0_7 := Lib.hid (XA_7.out.grown hg XA_7.out.size (fun j e => by injection e with e; rw [← e]; have := hsz_7.out; omega)); have XS00_7 := Lib.hid hn; have x_7 := Lib.hid (x_6.out.below XB0_7.out); have z_7 := Lib.hid (z_6.out.below XB0_7.out); have W_7 := Lib.hid (W_6.out.trans (XB0_7.out.mono W_6.out.size)); have y_7 := XS00_7; clear hn hg x_6 z_6 W_6 XT0_7 XA_7 XS00_7 XB0_7 hsz_7) | (refine wpl_ldN ntNat rfl rfl rfl x_7.out ?_) | (refine wpl_ldN_g ntNat ?hw rfl rfl x_7.out ?_; (case hw => rfl)) | (refine wpl_ldN ntNat rfl rfl rfl z_7.out ?_) | (refine wpl_ldN_g ntNat ?hw rfl rfl z_7.out ?_; (case hw => rfl)) | (refine wpl_ldN ntNat rfl rfl rfl y_7.out ?_) | (refine wpl_ldN_g ntNat ?hw rfl rfl y_7.out ?_; (case hw => rfl)) | (refine wpl_neN (v := false) ?hw rfl rfl rfl ?ha ?hb ?hv ?_; (case hw => rfl); (case ha => (with_reducible (first | exact FS.out | exact FN1.out | exact FG.out))); (case hb => (with_reducible (first | exact FS.out | exact FN1.out | exact FG.out))); (case hv => simp)) | (refine wpl_eqN (v := true) ?hw rfl rfl rfl ?ha ?hb ?hv ?_; (case hw => rfl); (case ha => (with_reducible (first | exact FS.out | exact FN1.out | exact FG.out))); (case hb => (with_reducible (first | exact FS.out | exact FN1.out | exact FG.out))); (case hv => simp)) | (refine wpl_neN (v := true) ?hw rfl rfl rfl ?ha ?hb ?hv ?_; (case hw => rfl); (case ha => (with_reducible (first | exact FS.out | exact FN1.out | exact FG.out))); (case hb => (with_reducible (first | exact FS.out | exact FN1.out | exact FG.out))); (case hv => simp [HGN.out])))
    refine (KG.out _).mono ?_
    rintro e p8 ⟨rfl, hb⟩
    have x_8 := Lib.hid (x_7.out.below hb)
    have z_8 := Lib.hid (z_7.out.below hb)
    have y_8 := Lib.hid (y_7.out.below hb)
    have W_8 := Lib.hid (W_7.out.trans (hb.mono W_7.out.size))
    clear hb x_7 z_7 y_7 W_7
    go_wp2_with (first | go_skip | (refine wpl_ldN ntNat rfl rfl rfl x_8.out ?_) | (refine wpl_ldN_g ntNat ?hw rfl rfl x_8.out ?_; (case hw => rfl)) | (refine wpl_ldN ntNat rfl rfl rfl z_8.out ?_) | (refine wpl_ldN_g ntNat ?hw rfl rfl z_8.out ?_; (case hw => rfl)) | (refine wpl_ldN ntNat rfl rfl rfl y_8.out ?_) | (refine wpl_ldN_g ntNat ?hw rfl rfl y_8.out ?_; (case hw => rfl)) | (refine wpl_neN (v := false) ?hw rfl rfl rfl ?ha ?hb ?hv ?_; (case hw => rfl); (case ha => (with_reducible (first | exact FS.out | exact FN1.out | exact FG.out))); (case hb => (with_reducible (first | exact FS.out | exact FN1.out | exact FG.out))); (case hv => simp)) | (refine wpl_eqN (v := true) ?hw rfl rfl rfl ?ha ?hb ?hv ?_; (case hw => rfl); (case ha => (with_reducible (first | exact FS.out | exact FN1.out | exact FG.out))); (case hb => (with_reducible (first | exact FS.out | exact FN1.out | exact FG.out))); (case hv => simp)) | (refine wpl_neN (v := true) ?hw rfl rfl rfl ?ha ?hb ?hv ?_; (case hw => rfl); (case ha => (with_reducible (first | exact FS.out | exact FN1.out | exact FG.out))); (case hb => (with_reducible (first | exact FS.out | exact FN1.out | exact FG.out))); (case hv => simp [HGN.out])))
    refine (KI1.out _).mono ?_
    rintro e p9 ⟨rfl, hb⟩
    have x_9 := Lib.hid (x_8.out.below hb)
    have z_9 := Lib.hid (z_8.out.below hb)
    have y_9 := Lib.hid (y_8.out.below hb)
    have W_9 := Lib.hid (W_8.out.trans (hb.mono W_8.out.size))
    clear hb x_8 z_8 y_8 W_8
    go_wp2_with (first | go_skip | (refine wpl_ldN ntNat rfl rfl rfl x_9.out ?_) | (refine wpl_ldN_g ntNat ?hw rfl rfl x_9.out ?_; (case hw => rfl)) | (refine wpl_ldN ntNat rfl rfl rfl z_9.out ?_) | (refine wpl_ldN_g ntNat ?hw rfl rfl z_9.out ?_; (case hw => rfl)) | (refine wpl_ldN ntNat rfl rfl rfl y_9.out ?_) | (refine wpl_ldN_g ntNat ?hw rfl rfl y_9.out ?_; (case hw => rfl)) | (refine wpl_neN (v := false) ?hw rfl rfl rfl ?ha ?hb ?hv ?_; (case hw => rfl); (case ha => (with_reducible (first | exact FS.out | exact FN1.out | exact FG.out))); (case hb => (with_reducible (first | exact FS.out | exact FN1.out | exact FG.out))); (case hv => simp)) | (refine wpl_eqN (v := true) ?hw rfl rfl rfl ?ha ?hb ?hv ?_; (case hw => rfl); (case ha => (with_reducible (first | exact FS.out | exact FN1.out | exact FG.out))); (case hb => (with_reducible (first | exact FS.out | exact FN1.out | exact FG.out))); (case hv => simp)) | (refine wpl_neN (v := true) ?hw rfl rfl rfl ?ha ?hb ?hv ?_; (case hw => rfl); (case ha => (with_reducible (first | exact FS.out | exact FN1.out | exact FG.out))); (case hb => (with_reducible (first | exact FS.out | exact FN1.out | exact FG.out))); (case hv => simp [HGN.out])))
    refine (known2_any _).mono ?_
    rintro e p10 ⟨rfl, hb⟩
    have x_10 := Lib.hid (x_9.out.below hb)
    have z_10 := Lib.hid (z_9.out.below hb)
    have y_10 := Lib.hid (y_9.out.below hb)
    have W_10 := Lib.hid (W_9.out.trans (hb.mono W_9.out.size))
    clear hb x_9 z_9 y_9 W_9
    go_wp2_with (first | go_skip | (refine wpl_ldN ntNat rfl rfl rfl x_10.out ?_) | (refine wpl_ldN_g ntNat ?hw rfl rfl x_10.out ?_; (case hw => rfl)) | (refine wpl_ldN ntNat rfl rfl rfl z_10.out ?_) | (refine wpl_ldN_g ntNat ?hw rfl rfl z_10.out ?_; (case hw => rfl)) | (refine wpl_ldN ntNat rfl rfl rfl y_10.out ?_) | (refine wpl_ldN_g ntNat ?hw rfl rfl y_10.out ?_; (case hw => rfl)) | (refine wpl_neN (v := false) ?hw rfl rfl rfl ?ha ?hb ?hv ?_; (case hw => rfl); (case ha => (with_reducible (first | exact FS.out | exact FN1.out | exact FG.out))); (case hb => (with_reducible (first | exact FS.out | exact FN1.out | exact FG.out))); (case hv => simp)) | (refine wpl_eqN (v := true) ?hw rfl rfl rfl ?ha ?hb ?hv ?_; (case hw => rfl); (case ha => (with_reducible (first | exact FS.out | exact FN1.out | exact FG.out))); (case hb => (with_reducible (first | exact FS.out | exact FN1.out | exact FG.out))); (case hv => simp)) | (refine wpl_neN (v := true) ?hw rfl rfl rfl ?ha ?hb ?hv ?_; (case hw => rfl); (case ha => (with_reducible (first | exact FS.out | exact FN1.out | exact FG.out))); (case hb => (with_reducible (first | exact FS.out | exact FN1.out | exact FG.out))); (case hv => simp [HGN.out])))
    go_ret
    exact ⟨rfl, W_10.out⟩

set_option maxHeartbeats 3200000 in
theorem fer_any (va : Value) (xa : List UInt8) (vc : Value) (xc : List UInt8) (u : Int) (w : World) (ha : Byt w va xa) (hc : Byt w vc xc) (hu : 0 ≤ u ∧ u ≤ 255) :
    Calls Try.prog 8 #[va, vc, .int .u8 u] w fun e w' => e = .returned (.bool true) ∧ Below w.heap.size w w' := by
  have HA := Lib.hid ha
  have HC := Lib.hid hc
  obtain ⟨A, c, rfl, -⟩ := ha.len
  obtain ⟨C, cc, rfl, -⟩ := hc.len
  clear ha hc
  by_cases hl0 : 24 < xa.length
  · have d0 : decide (24 < (xa.length : Int)) = true := decide_eq_true (by omega)
    clear hl0
    go_enter Try.func8, Try.ntmps8
    go_wp2_with fail
    refine (known2_any w).mono ?_
    rintro e w1 ⟨rfl, hb⟩
    have HB := Lib.hid hb
    clear hb
    go_wp2_with fail
    go_ret
    exact ⟨rfl, HB.out⟩
  · have d0 : decide (24 < (xa.length : Int)) = false := decide_eq_false (by omega)
    have ll0 : xa.length ≤ 24 := by omega
    clear hl0
    by_cases hl1 : 24 < xc.length
    · have d1 : decide (24 < (xc.length : Int)) = true := decide_eq_true (by omega)
      clear hl1 ll0
      go_enter Try.func8, Try.ntmps8
      go_wp2_with fail
      refine (known2_any w).mono ?_
      rintro e w1 ⟨rfl, hb⟩
      have HB := Lib.hid hb
      clear hb
      go_wp2_with fail
      go_ret
      exact ⟨rfl, HB.out⟩
    · have d1 : decide (24 < (xc.length : Int)) = false := decide_eq_false (by omega)
      have ll1 : xc.length ≤ 24 := by omega
      clear hl1
      obtain ⟨pp, hcase⟩ := pcase_all u
      by_cases h0 : numN xc = 0
      · exact fer_z _ xa _ xc w HA.out HC.out ll0 ll1 _ _ rfl rfl u hu pp hcase h0
      · by_cases hg : Nat.gcd (numN xa) (numN xc) = 1
        · exact fer_i _ xa _ xc w HA.out HC.out ll0 ll1 _ _ rfl rfl u hu pp hcase h0 hg
        · exact fer_n _ xa _ xc w HA.out HC.out ll0 ll1 _ _ rfl rfl u hu pp hcase h0 hg

end Go.Proofs.Ytfmadiepefbepaa
