/- Walk: the law NatShifts (printed by gennatlaw.py). -/
import Derived.Test.YtomiapceefbmeaaNatII
import Derived.Test.YtomiapceefbmeaaNatKK
set_option linter.unusedVariables false
set_option linter.unusedSimpArgs false
set_option maxRecDepth 100000
namespace Go.Proofs.Ytomiapceefbmeaa
open Go.RowKit

set_option maxHeartbeats 6400000 in
theorem shifts_neg (va : Value) (xa : List UInt8) (k : Int) (w : World) (ha : Byt w va xa) (ll0 : xa.length ≤ 128) (n : Nat) (hn : numN xa = n) (hk : k < 0) :
    Calls Try.prog 8 #[va, .int .i64 k] w fun e w' => e = .returned (.bool true) ∧ Below w.heap.size w w' := by
  have HA := Lib.hid ha
  obtain ⟨A, c, rfl, -⟩ := ha.len
  have d0 : decide (128 < (xa.length : Int)) = false := decide_eq_false (by omega)
  have HLn : Hid (xa.length ≤ 200) := Lib.hid (by omega)
  have HSn := Lib.hid (sz_num HLn.out)
  have HFn := Lib.hid (fit_num (xs := xa) ll0)
  have HCn := Lib.hid (c16_num HLn.out)
  rw [hn] at HSn HFn HCn
  have HEn := Lib.hid hn
  have HK := Lib.hid hk
  have d1 : decide (k < 0) = true := decide_eq_true hk
  clear ha hn ll0 hk
  go_enter Try.func8, Try.ntmps8
  go_wp2_with fail
  refine (made_ok _ _ HA.out HLn.out HEn.out HFn.out).mono ?_
  rintro e p1 ⟨v1, rfl, hv, hb⟩
  obtain ⟨As1, cs1, rfl, -⟩ := Lst.len hv
  have XT0_1 := Lib.hid (NatAt.zero p1)
  have XA_1 := Lib.hid (below_zero hb hb.size)
  have hsz_1 : Hid (w.heap.size ≤ p1.heap.size) := Lib.hid hb.size
  have XQ_1 := Lib.hid (below_zero (Below.refl p1.heap.size p1) (Nat.le_refl _))
  have XMp_1 := Lib.hid hv
  clear hv
  clear hb
  go_wp2_with (first | go_skip | (refine wpl_stN ntNat rfl rfl rfl rfl XT0_1.out ?_; intro q1 hn hg; have XB0_1 := Lib.hid (XA_1.out.grown hg XA_1.out.size (fun j e => by injection e with e; rw [← e]; have := hsz_1.out; omega)); have XS00_1 := Lib.hid hn; have hq := XQ_1.out.grown hg XQ_1.out.size (fun j e => by injection e with e; rw [← e]; exact Nat.le_refl _); have A_1 := Lib.hid (HA.out.below XB0_1.out); have W_1 := Lib.hid (XB0_1.out); have p_1 := Lib.hid (XMp_1.out.below hq); have x_1 := XS00_1; clear hn hg HA XMp_1 hq XQ_1 XT0_1 XA_1 XS00_1 XB0_1 hsz_1) | (refine wpl_ldN ntNat rfl rfl rfl x_1.out ?_) | (refine wpl_ldN_g ntNat ?hw rfl rfl x_1.out ?_; (case hw => rfl)))
  clear A_1
  refine (shl_minus _ HFn.out HK.out).mono ?_
  rintro e p2 ⟨rfl, hb⟩
  have XT0_2 := Lib.hid (NatAt.zero p2)
  have XA_2 := Lib.hid (below_zero hb hb.size)
  have hsz_2 : Hid (q1.heap.size ≤ p2.heap.size) := Lib.hid hb.size
  clear hb
  go_wp2_with (first | go_skip | (refine wpl_stN ntNat rfl rfl rfl rfl XT0_2.out ?_; intro q2 hn hg; have XB0_2 := Lib.hid (XA_2.out.grown hg XA_2.out.size (fun j e => by injection e with e; rw [← e]; have := hsz_2.out; omega)); have XS00_2 := Lib.hid hn; have p_2 := Lib.hid (p_1.out.below XB0_2.out); have x_2 := Lib.hid (x_1.out.below XB0_2.out); have W_2 := Lib.hid (W_1.out.trans (XB0_2.out.mono W_1.out.size)); have l_2 := XS00_2; clear hn hg p_1 x_1 W_1 XT0_2 XA_2 XS00_2 XB0_2 hsz_2) | (refine wpl_ldN ntNat rfl rfl rfl x_2.out ?_) | (refine wpl_ldN_g ntNat ?hw rfl rfl x_2.out ?_; (case hw => rfl)) | (refine wpl_ldN ntNat rfl rfl rfl l_2.out ?_) | (refine wpl_ldN_g ntNat ?hw rfl rfl l_2.out ?_; (case hw => rfl)))
  refine (shr_minus _ HFn.out HK.out).mono ?_
  rintro e p3 ⟨rfl, hb⟩
  have XT0_3 := Lib.hid (NatAt.zero p3)
  have XA_3 := Lib.hid (below_zero hb hb.size)
  have hsz_3 : Hid (q2.heap.size ≤ p3.heap.size) := Lib.hid hb.size
  clear hb
  go_wp2_with (first | go_skip | (refine wpl_stN ntNat rfl rfl rfl rfl XT0_3.out ?_; intro q3 hn hg; have XB0_3 := Lib.hid (XA_3.out.grown hg XA_3.out.size (fun j e => by injection e with e; rw [← e]; have := hsz_3.out; omega)); have XS00_3 := Lib.hid hn; have p_3 := Lib.hid (p_2.out.below XB0_3.out); have x_3 := Lib.hid (x_2.out.below XB0_3.out); have l_3 := Lib.hid (l_2.out.below XB0_3.out); have W_3 := Lib.hid (W_2.out.trans (XB0_3.out.mono W_2.out.size)); have r_3 := XS00_3; clear hn hg p_2 x_2 l_2 W_2 XT0_3 XA_3 XS00_3 XB0_3 hsz_3) | (refine wpl_ldN ntNat rfl rfl rfl x_3.out ?_) | (refine wpl_ldN_g ntNat ?hw rfl rfl x_3.out ?_; (case hw => rfl)) | (refine wpl_ldN ntNat rfl rfl rfl l_3.out ?_) | (refine wpl_ldN_g ntNat ?hw rfl rfl l_3.out ?_; (case hw => rfl)) | (refine wpl_ldN ntNat rfl rfl rfl r_3.out ?_) | (refine wpl_ldN_g ntNat ?hw rfl rfl r_3.out ?_; (case hw => rfl)))
  clear x_3
  refine (isZero_zero _).mono ?_
  rintro e p4 ⟨rfl, hb⟩
  have p_4 := Lib.hid (p_3.out.below hb)
  have l_4 := Lib.hid (l_3.out.below hb)
  have r_4 := Lib.hid (r_3.out.below hb)
  have W_4 := Lib.hid (W_3.out.trans (hb.mono W_3.out.size))
  clear hb p_3 l_3 r_3 W_3
  go_wp2_with (first | go_skip | (refine wpl_ldN ntNat rfl rfl rfl l_4.out ?_) | (refine wpl_ldN_g ntNat ?hw rfl rfl l_4.out ?_; (case hw => rfl)) | (refine wpl_ldN ntNat rfl rfl rfl r_4.out ?_) | (refine wpl_ldN_g ntNat ?hw rfl rfl r_4.out ?_; (case hw => rfl)))
  refine (isZero_zero _).mono ?_
  rintro e p5 ⟨rfl, hb⟩
  have p_5 := Lib.hid (p_4.out.below hb)
  have l_5 := Lib.hid (l_4.out.below hb)
  have r_5 := Lib.hid (r_4.out.below hb)
  have W_5 := Lib.hid (W_4.out.trans (hb.mono W_4.out.size))
  clear hb p_4 l_4 r_4 W_4
  go_wp2_with (first | go_skip | (refine wpl_ldN ntNat rfl rfl rfl l_5.out ?_) | (refine wpl_ldN_g ntNat ?hw rfl rfl l_5.out ?_; (case hw => rfl)) | (refine wpl_ldN ntNat rfl rfl rfl r_5.out ?_) | (refine wpl_ldN_g ntNat ?hw rfl rfl r_5.out ?_; (case hw => rfl)))
  refine (known_any _).mono ?_
  rintro e p6 ⟨rfl, hb⟩
  have p_6 := Lib.hid (p_5.out.below hb)
  have l_6 := Lib.hid (l_5.out.below hb)
  have r_6 := Lib.hid (r_5.out.below hb)
  have W_6 := Lib.hid (W_5.out.trans (hb.mono W_5.out.size))
  clear hb p_5 l_5 r_5 W_5
  go_wp2_with (first | go_skip | (refine wpl_ldN ntNat rfl rfl rfl l_6.out ?_) | (refine wpl_ldN_g ntNat ?hw rfl rfl l_6.out ?_; (case hw => rfl)) | (refine wpl_ldN ntNat rfl rfl rfl r_6.out ?_) | (refine wpl_ldN_g ntNat ?hw rfl rfl r_6.out ?_; (case hw => rfl)))
  go_ret
  exact ⟨rfl, W_6.out⟩

set_option maxHeartbeats 6400000 in
theorem shifts_nf (va : Value) (xa : List UInt8) (k : Nat) (w : World) (ha : Byt w va xa) (ll0 : xa.length ≤ 128) (n : Nat) (hn : numN xa = n) (h0 : n ≠ 0) (hk : 1024 < k) :
    Calls Try.prog 8 #[va, .int .i64 (k : Int)] w fun e w' => e = .returned (.bool true) ∧ Below w.heap.size w w' := by
  have HA := Lib.hid ha
  obtain ⟨A, c, rfl, -⟩ := ha.len
  have d0 : decide (128 < (xa.length : Int)) = false := decide_eq_false (by omega)
  have HLn : Hid (xa.length ≤ 200) := Lib.hid (by omega)
  have HSn := Lib.hid (sz_num HLn.out)
  have HFn := Lib.hid (fit_num (xs := xa) ll0)
  have HCn := Lib.hid (c16_num HLn.out)
  rw [hn] at HSn HFn HCn
  have HEn := Lib.hid hn
  have d2 : decide (1024 < (k : Int)) = true := decide_eq_true (by omega)
  have HK := Lib.hid hk
  have H0 := Lib.hid h0
  have d3 : decide (0 < c16 n) = true := by
    have h1 : c16 n ≠ 0 := fun h => h0 (by have := lt_c16 n; rw [h] at this; unfold X16 at this; simpa using this)
    exact decide_eq_true (by omega)
  have HFT := Lib.hid (unfit_far h0 hk)
  obtain ⟨r, hr⟩ : ∃ r, n / 2 ^ k = r := ⟨_, rfl⟩
  have HR := Lib.hid hr
  have HFr : Hid (Fit r) := Lib.hid (by rw [← hr]; exact Nat.lt_of_le_of_lt (Nat.div_le_self _ _) HFn.out)
  have HSr : Hid (Sz r) := Lib.hid (by rw [← hr]; exact HSn.out.mono (Nat.div_le_self _ _))
  have HR0 : Hid (r = 0) := Lib.hid (by rw [← hr]; exact shr_far HFn.out (by omega))
  clear ha hn ll0 hk h0 hr
  go_enter Try.func8, Try.ntmps8
  go_wp2_with fail
  refine (made_ok _ _ HA.out HLn.out HEn.out HFn.out).mono ?_
  rintro e p1 ⟨v1, rfl, hv, hb⟩
  obtain ⟨As1, cs1, rfl, -⟩ := Lst.len hv
  have XT0_1 := Lib.hid (NatAt.zero p1)
  have XA_1 := Lib.hid (below_zero hb hb.size)
  have hsz_1 : Hid (w.heap.size ≤ p1.heap.size) := Lib.hid hb.size
  have XQ_1 := Lib.hid (below_zero (Below.refl p1.heap.size p1) (Nat.le_refl _))
  have XMp_1 := Lib.hid hv
  clear hv
  clear hb
  go_wp2_with (first | go_skip | (refine wpl_stN ntNat rfl rfl rfl rfl XT0_1.out ?_; intro q1 hn hg; have XB0_1 := Lib.hid (XA_1.out.grown hg XA_1.out.size (fun j e => by injection e with e; rw [← e]; have := hsz_1.out; omega)); have XS00_1 := Lib.hid hn; have hq := XQ_1.out.grown hg XQ_1.out.size (fun j e => by injection e with e; rw [← e]; exact Nat.le_refl _); have A_1 := Lib.hid (HA.out.below XB0_1.out); have W_1 := Lib.hid (XB0_1.out); have p_1 := Lib.hid (XMp_1.out.below hq); have x_1 := XS00_1; clear hn hg HA XMp_1 hq XQ_1 XT0_1 XA_1 XS00_1 XB0_1 hsz_1) | (refine wpl_ldN ntNat rfl rfl rfl x_1.out ?_) | (refine wpl_ldN_g ntNat ?hw rfl rfl x_1.out ?_; (case hw => rfl)))
  clear A_1
  refine (shl_full _ HFn.out H0.out HFT.out).mono ?_
  rintro e p2 ⟨rfl, hb⟩
  have XT0_2 := Lib.hid (NatAt.zero p2)
  have XA_2 := Lib.hid (below_zero hb hb.size)
  have hsz_2 : Hid (q1.heap.size ≤ p2.heap.size) := Lib.hid hb.size
  clear hb
  go_wp2_with (first | go_skip | (refine wpl_stN ntNat rfl rfl rfl rfl XT0_2.out ?_; intro q2 hn hg; have XB0_2 := Lib.hid (XA_2.out.grown hg XA_2.out.size (fun j e => by injection e with e; rw [← e]; have := hsz_2.out; omega)); have XS00_2 := Lib.hid hn; have p_2 := Lib.hid (p_1.out.below XB0_2.out); have x_2 := Lib.hid (x_1.out.below XB0_2.out); have W_2 := Lib.hid (W_1.out.trans (XB0_2.out.mono W_1.out.size)); have l_2 := XS00_2; clear hn hg p_1 x_1 W_1 XT0_2 XA_2 XS00_2 XB0_2 hsz_2) | (refine wpl_ldN ntNat rfl rfl rfl x_2.out ?_) | (refine wpl_ldN_g ntNat ?hw rfl rfl x_2.out ?_; (case hw => rfl)) | (refine wpl_ldN ntNat rfl rfl rfl l_2.out ?_) | (refine wpl_ldN_g ntNat ?hw rfl rfl l_2.out ?_; (case hw => rfl)))
  refine (shr_ok _ HFn.out HR.out).mono ?_
  rintro e p3 ⟨rfl, hb⟩
  have XT0_3 := Lib.hid (NatAt.zero p3)
  have XA_3 := Lib.hid (below_zero hb hb.size)
  have hsz_3 : Hid (q2.heap.size ≤ p3.heap.size) := Lib.hid hb.size
  clear hb
  go_wp2_with (first | go_skip | (refine wpl_stN ntNat rfl rfl rfl rfl XT0_3.out ?_; intro q3 hn hg; have XB0_3 := Lib.hid (XA_3.out.grown hg XA_3.out.size (fun j e => by injection e with e; rw [← e]; have := hsz_3.out; omega)); have XS00_3 := Lib.hid hn; have p_3 := Lib.hid (p_2.out.below XB0_3.out); have x_3 := Lib.hid (x_2.out.below XB0_3.out); have l_3 := Lib.hid (l_2.out.below XB0_3.out); have W_3 := Lib.hid (W_2.out.trans (XB0_3.out.mono W_2.out.size)); have r_3 := XS00_3; clear hn hg p_2 x_2 l_2 W_2 XT0_3 XA_3 XS00_3 XB0_3 hsz_3) | (refine wpl_ldN ntNat rfl rfl rfl x_3.out ?_) | (refine wpl_ldN_g ntNat ?hw rfl rfl x_3.out ?_; (case hw => rfl)) | (refine wpl_ldN ntNat rfl rfl rfl l_3.out ?_) | (refine wpl_ldN_g ntNat ?hw rfl rfl l_3.out ?_; (case hw => rfl)) | (refine wpl_ldN ntNat rfl rfl rfl r_3.out ?_) | (refine wpl_ldN_g ntNat ?hw rfl rfl r_3.out ?_; (case hw => rfl)))
  clear x_3
  refine (isZero_zero _).mono ?_
  rintro e p4 ⟨rfl, hb⟩
  have p_4 := Lib.hid (p_3.out.below hb)
  have l_4 := Lib.hid (l_3.out.below hb)
  have r_4 := Lib.hid (r_3.out.below hb)
  have W_4 := Lib.hid (W_3.out.trans (hb.mono W_3.out.size))
  clear hb p_3 l_3 r_3 W_3
  go_wp2_with (first | go_skip | (refine wpl_ldN ntNat rfl rfl rfl l_4.out ?_) | (refine wpl_ldN_g ntNat ?hw rfl rfl l_4.out ?_; (case hw => rfl)) | (refine wpl_ldN ntNat rfl rfl rfl r_4.out ?_) | (refine wpl_ldN_g ntNat ?hw rfl rfl r_4.out ?_; (case hw => rfl)))
  clear l_4
  refine (isZero_ok _ HFr.out (decide_eq_true HR0.out)).mono ?_
  rintro e p5 ⟨rfl, hb⟩
  have p_5 := Lib.hid (p_4.out.below hb)
  have r_5 := Lib.hid (r_4.out.below hb)
  have W_5 := Lib.hid (W_4.out.trans (hb.mono W_4.out.size))
  clear hb p_4 r_4 W_4
  go_wp2_with (first | go_skip | (refine wpl_ldN ntNat rfl rfl rfl r_5.out ?_) | (refine wpl_ldN_g ntNat ?hw rfl rfl r_5.out ?_; (case hw => rfl)))
  refine (known_any _).mono ?_
  rintro e p6 ⟨rfl, hb⟩
  have p_6 := Lib.hid (p_5.out.below hb)
  have r_6 := Lib.hid (r_5.out.below hb)
  have W_6 := Lib.hid (W_5.out.trans (hb.mono W_5.out.size))
  clear hb p_5 r_5 W_5
  go_wp2_with (first | go_skip | (refine wpl_ldN ntNat rfl rfl rfl r_6.out ?_) | (refine wpl_ldN_g ntNat ?hw rfl rfl r_6.out ?_; (case hw => rfl)))
  go_ret
  exact ⟨rfl, W_6.out⟩

set_option maxHeartbeats 6400000 in
theorem shifts_nu (va : Value) (xa : List UInt8) (k : Nat) (w : World) (ha : Byt w va xa) (ll0 : xa.length ≤ 128) (n : Nat) (hn : numN xa = n) (h0 : n ≠ 0) (hk : k ≤ 1024) (hf : ¬ Fit (n * 2 ^ k)) :
    Calls Try.prog 8 #[va, .int .i64 (k : Int)] w fun e w' => e = .returned (.bool true) ∧ Below w.heap.size w w' := by
  have HA := Lib.hid ha
  obtain ⟨A, c, rfl, -⟩ := ha.len
  have d0 : decide (128 < (xa.length : Int)) = false := decide_eq_false (by omega)
  have HLn : Hid (xa.length ≤ 200) := Lib.hid (by omega)
  have HSn := Lib.hid (sz_num HLn.out)
  have HFn := Lib.hid (fit_num (xs := xa) ll0)
  have HCn := Lib.hid (c16_num HLn.out)
  rw [hn] at HSn HFn HCn
  have HEn := Lib.hid hn
  have d2 : decide (1024 < (k : Int)) = false := decide_eq_false (by omega)
  have HK := Lib.hid hk
  have H0 := Lib.hid h0
  have d3 : decide (0 < c16 n) = true := by
    have h1 : c16 n ≠ 0 := fun h => h0 (by have := lt_c16 n; rw [h] at this; unfold X16 at this; simpa using this)
    exact decide_eq_true (by omega)
  have HFT := Lib.hid hf
  obtain ⟨r, hr⟩ : ∃ r, n / 2 ^ k = r := ⟨_, rfl⟩
  have HR := Lib.hid hr
  have HFr : Hid (Fit r) := Lib.hid (by rw [← hr]; exact Nat.lt_of_le_of_lt (Nat.div_le_self _ _) HFn.out)
  have HSr : Hid (Sz r) := Lib.hid (by rw [← hr]; exact HSn.out.mono (Nat.div_le_self _ _))
  obtain ⟨s, hs⟩ : ∃ s, n * 2 ^ k = s := ⟨_, rfl⟩
  have HS := Lib.hid hs
  rw [hs] at HFT
  have HCt := Lib.hid (c16_two hk)
  have HSs : Hid (Sz s) := Lib.hid (by rw [← hs]; exact Sz.of (c16_mul HCn.out HCt.out) (by decide))
  obtain ⟨t, ht⟩ : ∃ t, 1 * 2 ^ k = t := ⟨_, rfl⟩
  have HT := Lib.hid ht
  have HC2 : Hid (c16 t ≤ 65) := Lib.hid (by rw [← ht, Nat.one_mul]; exact HCt.out)
  have HT0 : Hid (t ≠ 0) := Lib.hid (by rw [← ht, Nat.one_mul]; exact Nat.ne_of_gt (Nat.two_pow_pos k))
  have HRT : Hid (n / t = r) := Lib.hid (by rw [← ht, Nat.one_mul]; exact hr)
  have HK1 : Hid (k ≤ 100000) := Lib.hid (by omega)
  clear hs ht
  clear ha hn ll0 hk h0 hr hf
  go_enter Try.func8, Try.ntmps8
  go_wp2_with fail
  refine (made_ok _ _ HA.out HLn.out HEn.out HFn.out).mono ?_
  rintro e p1 ⟨v1, rfl, hv, hb⟩
  obtain ⟨As1, cs1, rfl, -⟩ := Lst.len hv
  have XT0_1 := Lib.hid (NatAt.zero p1)
  have XA_1 := Lib.hid (below_zero hb hb.size)
  have hsz_1 : Hid (w.heap.size ≤ p1.heap.size) := Lib.hid hb.size
  have XQ_1 := Lib.hid (below_zero (Below.refl p1.heap.size p1) (Nat.le_refl _))
  have XMp_1 := Lib.hid hv
  clear hv
  clear hb
  go_wp2_with (first | go_skip | (refine wpl_stN ntNat rfl rfl rfl rfl XT0_1.out ?_; intro q1 hn hg; have XB0_1 := Lib.hid (XA_1.out.grown hg XA_1.out.size (fun j e => by injection e with e; rw [← e]; have := hsz_1.out; omega)); have XS00_1 := Lib.hid hn; have hq := XQ_1.out.grown hg XQ_1.out.size (fun j e => by injection e with e; rw [← e]; exact Nat.le_refl _); have A_1 := Lib.hid (HA.out.below XB0_1.out); have W_1 := Lib.hid (XB0_1.out); have p_1 := Lib.hid (XMp_1.out.below hq); have x_1 := XS00_1; clear hn hg HA XMp_1 hq XQ_1 XT0_1 XA_1 XS00_1 XB0_1 hsz_1) | (refine wpl_ldN ntNat rfl rfl rfl x_1.out ?_) | (refine wpl_ldN_g ntNat ?hw rfl rfl x_1.out ?_; (case hw => rfl)))
  clear A_1
  refine (shl_full _ HFn.out H0.out (by rw [HS.out]; exact HFT.out)).mono ?_
  rintro e p2 ⟨rfl, hb⟩
  have XT0_2 := Lib.hid (NatAt.zero p2)
  have XA_2 := Lib.hid (below_zero hb hb.size)
  have hsz_2 : Hid (q1.heap.size ≤ p2.heap.size) := Lib.hid hb.size
  clear hb
  go_wp2_with (first | go_skip | (refine wpl_stN ntNat rfl rfl rfl rfl XT0_2.out ?_; intro q2 hn hg; have XB0_2 := Lib.hid (XA_2.out.grown hg XA_2.out.size (fun j e => by injection e with e; rw [← e]; have := hsz_2.out; omega)); have XS00_2 := Lib.hid hn; have p_2 := Lib.hid (p_1.out.below XB0_2.out); have x_2 := Lib.hid (x_1.out.below XB0_2.out); have W_2 := Lib.hid (W_1.out.trans (XB0_2.out.mono W_1.out.size)); have l_2 := XS00_2; clear hn hg p_1 x_1 W_1 XT0_2 XA_2 XS00_2 XB0_2 hsz_2) | (refine wpl_ldN ntNat rfl rfl rfl x_2.out ?_) | (refine wpl_ldN_g ntNat ?hw rfl rfl x_2.out ?_; (case hw => rfl)) | (refine wpl_ldN ntNat rfl rfl rfl l_2.out ?_) | (refine wpl_ldN_g ntNat ?hw rfl rfl l_2.out ?_; (case hw => rfl)))
  refine (shr_ok _ HFn.out HR.out).mono ?_
  rintro e p3 ⟨rfl, hb⟩
  have XT0_3 := Lib.hid (NatAt.zero p3)
  have XA_3 := Lib.hid (below_zero hb hb.size)
  have hsz_3 : Hid (q2.heap.size ≤ p3.heap.size) := Lib.hid hb.size
  clear hb
  go_wp2_with (first | go_skip | (refine wpl_stN ntNat rfl rfl rfl rfl XT0_3.out ?_; intro q3 hn hg; have XB0_3 := Lib.hid (XA_3.out.grown hg XA_3.out.size (fun j e => by injection e with e; rw [← e]; have := hsz_3.out; omega)); have XS00_3 := Lib.hid hn; have p_3 := Lib.hid (p_2.out.below XB0_3.out); have x_3 := Lib.hid (x_2.out.below XB0_3.out); have l_3 := Lib.hid (l_2.out.below XB0_3.out); have W_3 := Lib.hid (W_2.out.trans (XB0_3.out.mono W_2.out.size)); have r_3 := XS00_3; clear hn hg p_2 x_2 l_2 W_2 XT0_3 XA_3 XS00_3 XB0_3 hsz_3) | (refine wpl_ldN ntNat rfl rfl rfl x_3.out ?_) | (refine wpl_ldN_g ntNat ?hw rfl rfl x_3.out ?_; (case hw => rfl)) | (refine wpl_ldN ntNat rfl rfl rfl l_3.out ?_) | (refine wpl_ldN_g ntNat ?hw rfl rfl l_3.out ?_; (case hw => rfl)) | (refine wpl_ldN ntNat rfl rfl rfl r_3.out ?_) | (refine wpl_ldN_g ntNat ?hw rfl rfl r_3.out ?_; (case hw => rfl)))
  clear x_3
  refine (rshift_ok _ _ p_3.out HSn.out HK1.out HS.out).mono ?_
  rintro e p4 ⟨v4, rfl, hv, hb, ho4⟩
  have p_4 := Lib.hid (p_3.out.below hb)
  have l_4 := Lib.hid (l_3.out.below hb)
  have r_4 := Lib.hid (r_3.out.below hb)
  have W_4 := Lib.hid (W_3.out.trans (hb.mono W_3.out.size))
  clear hb ho4 p_3 l_3 r_3 W_3
  have q_4 := Lib.hid hv
  clear hv
  go_wp2_with (first | go_skip | (refine wpl_ldN ntNat rfl rfl rfl l_4.out ?_) | (refine wpl_ldN_g ntNat ?hw rfl rfl l_4.out ?_; (case hw => rfl)) | (refine wpl_ldN ntNat rfl rfl rfl r_4.out ?_) | (refine wpl_ldN_g ntNat ?hw rfl rfl r_4.out ?_; (case hw => rfl)))
  refine (rfits_ok _ _ q_4.out HSs.out (c := false) (by simp [HFT.out])).mono ?_
  rintro e p5 ⟨rfl, rfl⟩
  go_wp2_with (first | go_skip | (refine wpl_ldN ntNat rfl rfl rfl l_4.out ?_) | (refine wpl_ldN_g ntNat ?hw rfl rfl l_4.out ?_; (case hw => rfl)) | (refine wpl_ldN ntNat rfl rfl rfl r_4.out ?_) | (refine wpl_ldN_g ntNat ?hw rfl rfl r_4.out ?_; (case hw => rfl)))
  clear q_4
  refine (isZero_zero _).mono ?_
  rintro e p6 ⟨rfl, hb⟩
  have p_6 := Lib.hid (p_4.out.below hb)
  have l_6 := Lib.hid (l_4.out.below hb)
  have r_6 := Lib.hid (r_4.out.below hb)
  have W_6 := Lib.hid (W_4.out.trans (hb.mono W_4.out.size))
  clear hb p_4 l_4 r_4 W_4
  go_wp2_with (first | go_skip | (refine wpl_ldN ntNat rfl rfl rfl l_6.out ?_) | (refine wpl_ldN_g ntNat ?hw rfl rfl l_6.out ?_; (case hw => rfl)) | (refine wpl_ldN ntNat rfl rfl rfl r_6.out ?_) | (refine wpl_ldN_g ntNat ?hw rfl rfl r_6.out ?_; (case hw => rfl)))
  clear l_6
  refine (rof_ok (c := 1) _ _ rfl (by decide)).mono ?_
  rintro e p7 ⟨v7, rfl, hv, hb, ho7⟩
  have p_7 := Lib.hid (p_6.out.below hb)
  have r_7 := Lib.hid (r_6.out.below hb)
  have W_7 := Lib.hid (W_6.out.trans (hb.mono W_6.out.size))
  clear hb ho7 p_6 r_6 W_6
  have one_7 := Lib.hid hv
  clear hv
  go_wp2_with (first | go_skip | (refine wpl_ldN ntNat rfl rfl rfl r_7.out ?_) | (refine wpl_ldN_g ntNat ?hw rfl rfl r_7.out ?_; (case hw => rfl)))
  refine (rshift_ok _ _ one_7.out (sz_int (by decide)) HK1.out HT.out).mono ?_
  rintro e p8 ⟨v8, rfl, hv, hb, ho8⟩
  have p_8 := Lib.hid (p_7.out.below hb)
  have r_8 := Lib.hid (r_7.out.below hb)
  have one_8 := Lib.hid (one_7.out.below hb)
  have W_8 := Lib.hid (W_7.out.trans (hb.mono W_7.out.size))
  clear hb ho8 p_7 r_7 one_7 W_7
  have t_8 := Lib.hid hv
  clear hv
  go_wp2_with (first | go_skip | (refine wpl_ldN ntNat rfl rfl rfl r_8.out ?_) | (refine wpl_ldN_g ntNat ?hw rfl rfl r_8.out ?_; (case hw => rfl)))
  clear one_8
  refine (rdivide_ok _ _ _ p_8.out t_8.out (Nat.le_trans HCn.out (by decide)) (Nat.le_trans HC2.out (by decide)) HT0.out HRT.out rfl).mono ?_
  rintro e p9 ⟨u9, v9, rfl, hu, hv, hb⟩
  have p_9 := Lib.hid (p_8.out.below hb)
  have r_9 := Lib.hid (r_8.out.below hb)
  have t_9 := Lib.hid (t_8.out.below hb)
  have W_9 := Lib.hid (W_8.out.trans (hb.mono W_8.out.size))
  clear hb p_8 r_8 t_8 W_8
  have q_9 := Lib.hid hu
  clear hu hv
  go_wp2_with (first | go_skip | (refine wpl_ldN ntNat rfl rfl rfl r_9.out ?_) | (refine wpl_ldN_g ntNat ?hw rfl rfl r_9.out ?_; (case hw => rfl)))
  clear t_9
  clear p_9
  refine (same_ok _ _ HFr.out q_9.out HSr.out (decide_eq_true rfl)).mono ?_
  rintro e p10 ⟨rfl, hb⟩
  have r_10 := Lib.hid (r_9.out.below hb)
  have q_10 := Lib.hid (q_9.out.below hb)
  have W_10 := Lib.hid (W_9.out.trans (hb.mono W_9.out.size))
  clear hb r_9 q_9 W_9
  go_wp2_with (first | go_skip | (refine wpl_ldN ntNat rfl rfl rfl r_10.out ?_) | (refine wpl_ldN_g ntNat ?hw rfl rfl r_10.out ?_; (case hw => rfl)))
  refine (known_any _).mono ?_
  rintro e p11 ⟨rfl, hb⟩
  have r_11 := Lib.hid (r_10.out.below hb)
  have q_11 := Lib.hid (q_10.out.below hb)
  have W_11 := Lib.hid (W_10.out.trans (hb.mono W_10.out.size))
  clear hb r_10 q_10 W_10
  go_wp2_with (first | go_skip | (refine wpl_ldN ntNat rfl rfl rfl r_11.out ?_) | (refine wpl_ldN_g ntNat ?hw rfl rfl r_11.out ?_; (case hw => rfl)))
  go_ret
  exact ⟨rfl, W_11.out⟩

set_option maxHeartbeats 6400000 in
theorem shifts_nn (va : Value) (xa : List UInt8) (k : Nat) (w : World) (ha : Byt w va xa) (ll0 : xa.length ≤ 128) (n : Nat) (hn : numN xa = n) (h0 : n ≠ 0) (hk : k ≤ 1024) (hf : Fit (n * 2 ^ k)) :
    Calls Try.prog 8 #[va, .int .i64 (k : Int)] w fun e w' => e = .returned (.bool true) ∧ Below w.heap.size w w' := by
  have HA := Lib.hid ha
  obtain ⟨A, c, rfl, -⟩ := ha.len
  have d0 : decide (128 < (xa.length : Int)) = false := decide_eq_false (by omega)
  have HLn : Hid (xa.length ≤ 200) := Lib.hid (by omega)
  have HSn := Lib.hid (sz_num HLn.out)
  have HFn := Lib.hid (fit_num (xs := xa) ll0)
  have HCn := Lib.hid (c16_num HLn.out)
  rw [hn] at HSn HFn HCn
  have HEn := Lib.hid hn
  have d2 : decide (1024 < (k : Int)) = false := decide_eq_false (by omega)
  have HK := Lib.hid hk
  have H0 := Lib.hid h0
  have d3 : decide (0 < c16 n) = true := by
    have h1 : c16 n ≠ 0 := fun h => h0 (by have := lt_c16 n; rw [h] at this; unfold X16 at this; simpa using this)
    exact decide_eq_true (by omega)
  have HFT := Lib.hid hf
  obtain ⟨r, hr⟩ : ∃ r, n / 2 ^ k = r := ⟨_, rfl⟩
  have HR := Lib.hid hr
  have HFr : Hid (Fit r) := Lib.hid (by rw [← hr]; exact Nat.lt_of_le_of_lt (Nat.div_le_self _ _) HFn.out)
  have HSr : Hid (Sz r) := Lib.hid (by rw [← hr]; exact HSn.out.mono (Nat.div_le_self _ _))
  obtain ⟨s, hs⟩ : ∃ s, n * 2 ^ k = s := ⟨_, rfl⟩
  have HS := Lib.hid hs
  rw [hs] at HFT
  have HCt := Lib.hid (c16_two hk)
  have HSs : Hid (Sz s) := Lib.hid (by rw [← hs]; exact Sz.of (c16_mul HCn.out HCt.out) (by decide))
  obtain ⟨t, ht⟩ : ∃ t, 1 * 2 ^ k = t := ⟨_, rfl⟩
  have HT := Lib.hid ht
  have HC2 : Hid (c16 t ≤ 65) := Lib.hid (by rw [← ht, Nat.one_mul]; exact HCt.out)
  have HT0 : Hid (t ≠ 0) := Lib.hid (by rw [← ht, Nat.one_mul]; exact Nat.ne_of_gt (Nat.two_pow_pos k))
  have HRT : Hid (n / t = r) := Lib.hid (by rw [← ht, Nat.one_mul]; exact hr)
  have HK1 : Hid (k ≤ 100000) := Lib.hid (by omega)
  clear hs ht
  clear ha hn ll0 hk h0 hr hf
  go_enter Try.func8, Try.ntmps8
  go_wp2_with fail
  refine (made_ok _ _ HA.out HLn.out HEn.out HFn.out).mono ?_
  rintro e p1 ⟨v1, rfl, hv, hb⟩
  obtain ⟨As1, cs1, rfl, -⟩ := Lst.len hv
  have XT0_1 := Lib.hid (NatAt.zero p1)
  have XA_1 := Lib.hid (below_zero hb hb.size)
  have hsz_1 : Hid (w.heap.size ≤ p1.heap.size) := Lib.hid hb.size
  have XQ_1 := Lib.hid (below_zero (Below.refl p1.heap.size p1) (Nat.le_refl _))
  have XMp_1 := Lib.hid hv
  clear hv
  clear hb
  go_wp2_with (first | go_skip | (refine wpl_stN ntNat rfl rfl rfl rfl XT0_1.out ?_; intro q1 hn hg; have XB0_1 := Lib.hid (XA_1.out.grown hg XA_1.out.size (fun j e => by injection e with e; rw [← e]; have := hsz_1.out; omega)); have XS00_1 := Lib.hid hn; have hq := XQ_1.out.grown hg XQ_1.out.size (fun j e => by injection e with e; rw [← e]; exact Nat.le_refl _); have A_1 := Lib.hid (HA.out.below XB0_1.out); have W_1 := Lib.hid (XB0_1.out); have p_1 := Lib.hid (XMp_1.out.below hq); have x_1 := XS00_1; clear hn hg HA XMp_1 hq XQ_1 XT0_1 XA_1 XS00_1 XB0_1 hsz_1) | (refine wpl_ldN ntNat rfl rfl rfl x_1.out ?_) | (refine wpl_ldN_g ntNat ?hw rfl rfl x_1.out ?_; (case hw => rfl)))
  clear A_1
  refine (shl_ok _ HFn.out HS.out HFT.out).mono ?_
  rintro e p2 ⟨rfl, hb⟩
  have XT0_2 := Lib.hid (NatAt.zero p2)
  have XA_2 := Lib.hid (below_zero hb hb.size)
  have hsz_2 : Hid (q1.heap.size ≤ p2.heap.size) := Lib.hid hb.size
  clear hb
  go_wp2_with (first | go_skip | (refine wpl_stN ntNat rfl rfl rfl rfl XT0_2.out ?_; intro q2 hn hg; have XB0_2 := Lib.hid (XA_2.out.grown hg XA_2.out.size (fun j e => by injection e with e; rw [← e]; have := hsz_2.out; omega)); have XS00_2 := Lib.hid hn; have p_2 := Lib.hid (p_1.out.below XB0_2.out); have x_2 := Lib.hid (x_1.out.below XB0_2.out); have W_2 := Lib.hid (W_1.out.trans (XB0_2.out.mono W_1.out.size)); have l_2 := XS00_2; clear hn hg p_1 x_1 W_1 XT0_2 XA_2 XS00_2 XB0_2 hsz_2) | (refine wpl_ldN ntNat rfl rfl rfl x_2.out ?_) | (refine wpl_ldN_g ntNat ?hw rfl rfl x_2.out ?_; (case hw => rfl)) | (refine wpl_ldN ntNat rfl rfl rfl l_2.out ?_) | (refine wpl_ldN_g ntNat ?hw rfl rfl l_2.out ?_; (case hw => rfl)))
  refine (shr_ok _ HFn.out HR.out).mono ?_
  rintro e p3 ⟨rfl, hb⟩
  have XT0_3 := Lib.hid (NatAt.zero p3)
  have XA_3 := Lib.hid (below_zero hb hb.size)
  have hsz_3 : Hid (q2.heap.size ≤ p3.heap.size) := Lib.hid hb.size
  clear hb
  go_wp2_with (first | go_skip | (refine wpl_stN ntNat rfl rfl rfl rfl XT0_3.out ?_; intro q3 hn hg; have XB0_3 := Lib.hid (XA_3.out.grown hg XA_3.out.size (fun j e => by injection e with e; rw [← e]; have := hsz_3.out; omega)); have XS00_3 := Lib.hid hn; have p_3 := Lib.hid (p_2.out.below XB0_3.out); have x_3 := Lib.hid (x_2.out.below XB0_3.out); have l_3 := Lib.hid (l_2.out.below XB0_3.out); have W_3 := Lib.hid (W_2.out.trans (XB0_3.out.mono W_2.out.size)); have r_3 := XS00_3; clear hn hg p_2 x_2 l_2 W_2 XT0_3 XA_3 XS00_3 XB0_3 hsz_3) | (refine wpl_ldN ntNat rfl rfl rfl x_3.out ?_) | (refine wpl_ldN_g ntNat ?hw rfl rfl x_3.out ?_; (case hw => rfl)) | (refine wpl_ldN ntNat rfl rfl rfl l_3.out ?_) | (refine wpl_ldN_g ntNat ?hw rfl rfl l_3.out ?_; (case hw => rfl)) | (refine wpl_ldN ntNat rfl rfl rfl r_3.out ?_) | (refine wpl_ldN_g ntNat ?hw rfl rfl r_3.out ?_; (case hw => rfl)))
  clear x_3
  refine (rshift_ok _ _ p_3.out HSn.out HK1.out HS.out).mono ?_
  rintro e p4 ⟨v4, rfl, hv, hb, ho4⟩
  have p_4 := Lib.hid (p_3.out.below hb)
  have l_4 := Lib.hid (l_3.out.below hb)
  have r_4 := Lib.hid (r_3.out.below hb)
  have W_4 := Lib.hid (W_3.out.trans (hb.mono W_3.out.size))
  clear hb ho4 p_3 l_3 r_3 W_3
  have q_4 := Lib.hid hv
  clear hv
  go_wp2_with (first | go_skip | (refine wpl_ldN ntNat rfl rfl rfl l_4.out ?_) | (refine wpl_ldN_g ntNat ?hw rfl rfl l_4.out ?_; (case hw => rfl)) | (refine wpl_ldN ntNat rfl rfl rfl r_4.out ?_) | (refine wpl_ldN_g ntNat ?hw rfl rfl r_4.out ?_; (case hw => rfl)))
  refine (rfits_ok _ _ q_4.out HSs.out (c := true) (by simp [HFT.out])).mono ?_
  rintro e p5 ⟨rfl, rfl⟩
  go_wp2_with (first | go_skip | (refine wpl_ldN ntNat rfl rfl rfl l_4.out ?_) | (refine wpl_ldN_g ntNat ?hw rfl rfl l_4.out ?_; (case hw => rfl)) | (refine wpl_ldN ntNat rfl rfl rfl r_4.out ?_) | (refine wpl_ldN_g ntNat ?hw rfl rfl r_4.out ?_; (case hw => rfl)))
  clear q_4
  refine region_road Later [(0, true), (1, true), (2, true), (3, true), (4, true), (5, true), (6, true), (7, false), (8, false), (9, true), (10, true)] (by kernel_rfl) (by kernel_rfl) (by kernel_rfl) (by kernel_rfl) (by kernel_rfl) (by kernel_rfl) later_refl later_trans (fun _ _ d _ _ h => by cases d <;> exact h) ?_
  have p_6 := Lib.hid (p_4.out.below ((Below.refl p4.heap.size p4).drew))
  have l_6 := Lib.hid (l_4.out.below ((Below.refl p4.heap.size p4).drew))
  have r_6 := Lib.hid (r_4.out.below ((Below.refl p4.heap.size p4).drew))
  have W_6 := Lib.hid (W_4.out.trans (((Below.refl p4.heap.size p4).drew).mono W_4.out.size))
  clear p_4 l_4 r_4 W_4
  generalize p4.drew = d6 at p_6 l_6 r_6 W_6 ⊢
  refine seqR_at (o := ?_) ?_ ?_
  rotate_left
  · (conv => (lhs; whnf; arg 1; whnf))
  refine seqR_y (v := ?_) (by rfl) (fun W hW => ?_) ?_
  rotate_left
  · go_simp; try with_reducible rfl
  try simp only [Act.put, List.setIfInBounds_toArray, List.set_cons_zero, List.set_cons_succ]
  refine seqR_at (o := ?_) ?_ ?_
  rotate_left
  · (conv => (lhs; whnf; arg 1; whnf))
  refine seqR_y (v := ?_) (by rfl) (fun W hW => ?_) ?_
  rotate_left
  · go_simp; try with_reducible rfl
  try simp only [Act.put, List.setIfInBounds_toArray, List.set_cons_zero, List.set_cons_succ]
  refine seqR_at (o := ?_) ?_ ?_
  rotate_left
  · (conv => (lhs; whnf; arg 1; whnf))
  refine seqR_y (v := ?_) (by rfl) (fun W hW => ?_) ?_
  rotate_left
  · go_simp; try with_reducible rfl
  try simp only [Act.put, List.setIfInBounds_toArray, List.set_cons_zero, List.set_cons_succ]
  refine seqR_at (o := ?_) ?_ ?_
  rotate_left
  · (conv => (lhs; whnf; arg 1; whnf))
  refine seqR_y (v := ?_) (by rfl) (fun W hW => ?_) ?_
  rotate_left
  · (refine exec_ldN (x := .tmp 8) ntNat ?_ ?_ (l_6.out.below hW)) <;> rfl
  try simp only [Act.put, List.setIfInBounds_toArray, List.set_cons_zero, List.set_cons_succ]
  refine seqR_at (o := ?_) ?_ ?_
  rotate_left
  · (conv => (lhs; whnf; arg 1; whnf))
  refine seqR_y (v := ?_) (by rfl) (fun W hW => ?_) ?_
  rotate_left
  · go_simp; try with_reducible rfl
  try simp only [Act.put, List.setIfInBounds_toArray, List.set_cons_zero, List.set_cons_succ]
  refine seqR_at (o := ?_) ?_ ?_
  rotate_left
  · (conv => (lhs; whnf; arg 1; whnf))
  refine seqR_y (v := ?_) (by rfl) (fun W hW => ?_) ?_
  rotate_left
  · go_simp; try with_reducible rfl
  try simp only [Act.put, List.setIfInBounds_toArray, List.set_cons_zero, List.set_cons_succ]
  refine seqR_at (o := ?_) ?_ ?_
  rotate_left
  · (conv => (lhs; whnf; arg 1; whnf))
  refine seqR_y (v := ?_) (by rfl) (fun W hW => ?_) ?_
  rotate_left
  · have h9 : min (k : Int) 1024 = (k : Int) := (by have := HK.out; omega); go_simp; try with_reducible rfl
  try simp only [Act.put, List.setIfInBounds_toArray, List.set_cons_zero, List.set_cons_succ]
  refine seqR_at (o := ?_) ?_ ?_
  rotate_left
  · (conv => (lhs; whnf; arg 1; whnf))
  refine seqR_c (by rfl) (fun K hK => ?_)
  go_simp
  refine (rshift_ok _ _ p_6.out HSn.out HK1.out HS.out).mono ?_
  rintro e p7 ⟨v7, rfl, hv, hb, _⟩
  have p_7 := Lib.hid (p_6.out.below hb)
  have l_7 := Lib.hid (l_6.out.below hb)
  have r_7 := Lib.hid (r_6.out.below hb)
  have W_7 := Lib.hid (W_6.out.trans (hb.mono W_6.out.size))
  refine hK _ _ hb ?_
  clear hK K hb p_6 l_6 r_6 W_6
  have q_7 := Lib.hid hv; clear hv
  try simp only [Act.put, List.setIfInBounds_toArray, List.set_cons_zero, List.set_cons_succ]
  refine seqR_at (o := ?_) ?_ ?_
  rotate_left
  · (conv => (lhs; whnf; arg 1; whnf))
  refine seqR_c (by rfl) (fun K hK => ?_)
  go_simp
  refine (same_ok _ _ HFT.out q_7.out HSs.out (decide_eq_true rfl)).mono ?_
  rintro e p8 ⟨rfl, hb⟩
  have p_8 := Lib.hid (p_7.out.below hb)
  have l_8 := Lib.hid (l_7.out.below hb)
  have r_8 := Lib.hid (r_7.out.below hb)
  have q_8 := Lib.hid (q_7.out.below hb)
  have W_8 := Lib.hid (W_7.out.trans (hb.mono W_7.out.size))
  refine hK _ _ hb ?_
  clear hK K hb p_7 l_7 r_7 q_7 W_7
  try simp only [Act.put, List.setIfInBounds_toArray, List.set_cons_zero, List.set_cons_succ]
  refine seqR_at (o := ?_) ?_ ?_
  rotate_left
  · (conv => (lhs; whnf; arg 1; whnf))
  refine seqR_y (v := ?_) (by rfl) (fun W hW => ?_) ?_
  rotate_left
  · go_simp; try with_reducible rfl
  try simp only [Act.put, List.setIfInBounds_toArray, List.set_cons_zero, List.set_cons_succ]
  refine seqR_at (o := ?_) ?_ ?_
  rotate_left
  · (conv => (lhs; whnf; arg 1; whnf))
  refine seqR_y (v := ?_) (by rfl) (fun W hW => ?_) ?_
  rotate_left
  · go_simp; try with_reducible rfl
  try simp only [Act.put, List.setIfInBounds_toArray, List.set_cons_zero, List.set_cons_succ]
  refine seqR_end ?_
  go_wp2_with (first | go_skip | (refine wpl_ldN ntNat rfl rfl rfl l_8.out ?_) | (refine wpl_ldN_g ntNat ?hw rfl rfl l_8.out ?_; (case hw => rfl)) | (refine wpl_ldN ntNat rfl rfl rfl r_8.out ?_) | (refine wpl_ldN_g ntNat ?hw rfl rfl r_8.out ?_; (case hw => rfl)))
  clear q_8
  clear l_8
  refine (rof_ok (c := 1) _ _ rfl (by decide)).mono ?_
  rintro e p9 ⟨v9, rfl, hv, hb, ho9⟩
  have p_9 := Lib.hid (p_8.out.below hb)
  have r_9 := Lib.hid (r_8.out.below hb)
  have W_9 := Lib.hid (W_8.out.trans (hb.mono W_8.out.size))
  clear hb ho9 p_8 r_8 W_8
  have one_9 := Lib.hid hv
  clear hv
  go_wp2_with (first | go_skip | (refine wpl_ldN ntNat rfl rfl rfl r_9.out ?_) | (refine wpl_ldN_g ntNat ?hw rfl rfl r_9.out ?_; (case hw => rfl)))
  refine (rshift_ok _ _ one_9.out (sz_int (by decide)) HK1.out HT.out).mono ?_
  rintro e p10 ⟨v10, rfl, hv, hb, ho10⟩
  have p_10 := Lib.hid (p_9.out.below hb)
  have r_10 := Lib.hid (r_9.out.below hb)
  have one_10 := Lib.hid (one_9.out.below hb)
  have W_10 := Lib.hid (W_9.out.trans (hb.mono W_9.out.size))
  clear hb ho10 p_9 r_9 one_9 W_9
  have t_10 := Lib.hid hv
  clear hv
  go_wp2_with (first | go_skip | (refine wpl_ldN ntNat rfl rfl rfl r_10.out ?_) | (refine wpl_ldN_g ntNat ?hw rfl rfl r_10.out ?_; (case hw => rfl)))
  clear one_10
  refine (rdivide_ok _ _ _ p_10.out t_10.out (Nat.le_trans HCn.out (by decide)) (Nat.le_trans HC2.out (by decide)) HT0.out HRT.out rfl).mono ?_
  rintro e p11 ⟨u11, v11, rfl, hu, hv, hb⟩
  have p_11 := Lib.hid (p_10.out.below hb)
  have r_11 := Lib.hid (r_10.out.below hb)
  have t_11 := Lib.hid (t_10.out.below hb)
  have W_11 := Lib.hid (W_10.out.trans (hb.mono W_10.out.size))
  clear hb p_10 r_10 t_10 W_10
  have q_11 := Lib.hid hu
  clear hu hv
  go_wp2_with (first | go_skip | (refine wpl_ldN ntNat rfl rfl rfl r_11.out ?_) | (refine wpl_ldN_g ntNat ?hw rfl rfl r_11.out ?_; (case hw => rfl)))
  clear t_11
  clear p_11
  refine (same_ok _ _ HFr.out q_11.out HSr.out (decide_eq_true rfl)).mono ?_
  rintro e p12 ⟨rfl, hb⟩
  have r_12 := Lib.hid (r_11.out.below hb)
  have q_12 := Lib.hid (q_11.out.below hb)
  have W_12 := Lib.hid (W_11.out.trans (hb.mono W_11.out.size))
  clear hb r_11 q_11 W_11
  go_wp2_with (first | go_skip | (refine wpl_ldN ntNat rfl rfl rfl r_12.out ?_) | (refine wpl_ldN_g ntNat ?hw rfl rfl r_12.out ?_; (case hw => rfl)))
  refine (known_any _).mono ?_
  rintro e p13 ⟨rfl, hb⟩
  have r_13 := Lib.hid (r_12.out.below hb)
  have q_13 := Lib.hid (q_12.out.below hb)
  have W_13 := Lib.hid (W_12.out.trans (hb.mono W_12.out.size))
  clear hb r_12 q_12 W_12
  go_wp2_with (first | go_skip | (refine wpl_ldN ntNat rfl rfl rfl r_13.out ?_) | (refine wpl_ldN_g ntNat ?hw rfl rfl r_13.out ?_; (case hw => rfl)))
  go_ret
  exact ⟨rfl, W_13.out⟩

set_option maxHeartbeats 6400000 in
theorem shifts_zf (va : Value) (xa : List UInt8) (k : Nat) (w : World) (ha : Byt w va xa) (ll0 : xa.length ≤ 128) (n : Nat) (hn : numN xa = n) (h0 : n = 0) (hk : 1024 < k) :
    Calls Try.prog 8 #[va, .int .i64 (k : Int)] w fun e w' => e = .returned (.bool true) ∧ Below w.heap.size w w' := by
  have HA := Lib.hid ha
  obtain ⟨A, c, rfl, -⟩ := ha.len
  have d0 : decide (128 < (xa.length : Int)) = false := decide_eq_false (by omega)
  have HLn : Hid (xa.length ≤ 200) := Lib.hid (by omega)
  have HSn := Lib.hid (sz_num HLn.out)
  have HFn := Lib.hid (fit_num (xs := xa) ll0)
  have HCn := Lib.hid (c16_num HLn.out)
  rw [hn] at HSn HFn HCn
  have HEn := Lib.hid hn
  have d2 : decide (1024 < (k : Int)) = true := decide_eq_true (by omega)
  have HK := Lib.hid hk
  have H0 := Lib.hid h0
  have d3 : decide (0 < c16 n) = false := by rw [h0]; rfl
  have HFT : Hid (Fit (n * 2 ^ k)) := Lib.hid (by rw [h0, Nat.zero_mul]; exact Fit.zero)
  obtain ⟨r, hr⟩ : ∃ r, n / 2 ^ k = r := ⟨_, rfl⟩
  have HR := Lib.hid hr
  have HFr : Hid (Fit r) := Lib.hid (by rw [← hr]; exact Nat.lt_of_le_of_lt (Nat.div_le_self _ _) HFn.out)
  have HSr : Hid (Sz r) := Lib.hid (by rw [← hr]; exact HSn.out.mono (Nat.div_le_self _ _))
  have HR0 : Hid (r = 0) := Lib.hid (by rw [← hr]; exact shr_far HFn.out (by omega))
  have HS : Hid (n * 2 ^ k = 0) := Lib.hid (by rw [h0, Nat.zero_mul])
  have HS2 : Hid (∀ j, n * 2 ^ j = 0) := Lib.hid (fun j => by rw [h0, Nat.zero_mul])
  have HSs : Hid (Sz 0) := Lib.hid (by rw [← h0]; exact HSn.out)
  clear ha hn ll0 hk h0 hr
  go_enter Try.func8, Try.ntmps8
  go_wp2_with fail
  refine (made_ok _ _ HA.out HLn.out HEn.out HFn.out).mono ?_
  rintro e p1 ⟨v1, rfl, hv, hb⟩
  obtain ⟨As1, cs1, rfl, -⟩ := Lst.len hv
  have XT0_1 := Lib.hid (NatAt.zero p1)
  have XA_1 := Lib.hid (below_zero hb hb.size)
  have hsz_1 : Hid (w.heap.size ≤ p1.heap.size) := Lib.hid hb.size
  have XQ_1 := Lib.hid (below_zero (Below.refl p1.heap.size p1) (Nat.le_refl _))
  have XMp_1 := Lib.hid hv
  clear hv
  clear hb
  go_wp2_with (first | go_skip | (refine wpl_stN ntNat rfl rfl rfl rfl XT0_1.out ?_; intro q1 hn hg; have XB0_1 := Lib.hid (XA_1.out.grown hg XA_1.out.size (fun j e => by injection e with e; rw [← e]; have := hsz_1.out; omega)); have XS00_1 := Lib.hid hn; have hq := XQ_1.out.grown hg XQ_1.out.size (fun j e => by injection e with e; rw [← e]; exact Nat.le_refl _); have A_1 := Lib.hid (HA.out.below XB0_1.out); have W_1 := Lib.hid (XB0_1.out); have p_1 := Lib.hid (XMp_1.out.below hq); have x_1 := XS00_1; clear hn hg HA XMp_1 hq XQ_1 XT0_1 XA_1 XS00_1 XB0_1 hsz_1) | (refine wpl_ldN ntNat rfl rfl rfl x_1.out ?_) | (refine wpl_ldN_g ntNat ?hw rfl rfl x_1.out ?_; (case hw => rfl)))
  clear A_1
  refine (shl_ok _ HFn.out HS.out Fit.zero).mono ?_
  rintro e p2 ⟨rfl, hb⟩
  have XT0_2 := Lib.hid (NatAt.zero p2)
  have XA_2 := Lib.hid (below_zero hb hb.size)
  have hsz_2 : Hid (q1.heap.size ≤ p2.heap.size) := Lib.hid hb.size
  clear hb
  go_wp2_with (first | go_skip | (refine wpl_stN ntNat rfl rfl rfl rfl XT0_2.out ?_; intro q2 hn hg; have XB0_2 := Lib.hid (XA_2.out.grown hg XA_2.out.size (fun j e => by injection e with e; rw [← e]; have := hsz_2.out; omega)); have XS00_2 := Lib.hid hn; have p_2 := Lib.hid (p_1.out.below XB0_2.out); have x_2 := Lib.hid (x_1.out.below XB0_2.out); have W_2 := Lib.hid (W_1.out.trans (XB0_2.out.mono W_1.out.size)); have l_2 := XS00_2; clear hn hg p_1 x_1 W_1 XT0_2 XA_2 XS00_2 XB0_2 hsz_2) | (refine wpl_ldN ntNat rfl rfl rfl x_2.out ?_) | (refine wpl_ldN_g ntNat ?hw rfl rfl x_2.out ?_; (case hw => rfl)) | (refine wpl_ldN ntNat rfl rfl rfl l_2.out ?_) | (refine wpl_ldN_g ntNat ?hw rfl rfl l_2.out ?_; (case hw => rfl)))
  refine (shr_ok _ HFn.out HR.out).mono ?_
  rintro e p3 ⟨rfl, hb⟩
  have XT0_3 := Lib.hid (NatAt.zero p3)
  have XA_3 := Lib.hid (below_zero hb hb.size)
  have hsz_3 : Hid (q2.heap.size ≤ p3.heap.size) := Lib.hid hb.size
  clear hb
  go_wp2_with (first | go_skip | (refine wpl_stN ntNat rfl rfl rfl rfl XT0_3.out ?_; intro q3 hn hg; have XB0_3 := Lib.hid (XA_3.out.grown hg XA_3.out.size (fun j e => by injection e with e; rw [← e]; have := hsz_3.out; omega)); have XS00_3 := Lib.hid hn; have p_3 := Lib.hid (p_2.out.below XB0_3.out); have x_3 := Lib.hid (x_2.out.below XB0_3.out); have l_3 := Lib.hid (l_2.out.below XB0_3.out); have W_3 := Lib.hid (W_2.out.trans (XB0_3.out.mono W_2.out.size)); have r_3 := XS00_3; clear hn hg p_2 x_2 l_2 W_2 XT0_3 XA_3 XS00_3 XB0_3 hsz_3) | (refine wpl_ldN ntNat rfl rfl rfl x_3.out ?_) | (refine wpl_ldN_g ntNat ?hw rfl rfl x_3.out ?_; (case hw => rfl)) | (refine wpl_ldN ntNat rfl rfl rfl l_3.out ?_) | (refine wpl_ldN_g ntNat ?hw rfl rfl l_3.out ?_; (case hw => rfl)) | (refine wpl_ldN ntNat rfl rfl rfl r_3.out ?_) | (refine wpl_ldN_g ntNat ?hw rfl rfl r_3.out ?_; (case hw => rfl)))
  clear x_3
  refine region_road Later [(0, true), (1, true), (2, true), (3, true), (4, true), (5, true), (6, true), (7, false), (8, false), (9, true), (10, true)] (by kernel_rfl) (by kernel_rfl) (by kernel_rfl) (by kernel_rfl) (by kernel_rfl) (by kernel_rfl) later_refl later_trans (fun _ _ d _ _ h => by cases d <;> exact h) ?_
  have p_4 := Lib.hid (p_3.out.below ((Below.refl q3.heap.size q3).drew))
  have l_4 := Lib.hid (l_3.out.below ((Below.refl q3.heap.size q3).drew))
  have r_4 := Lib.hid (r_3.out.below ((Below.refl q3.heap.size q3).drew))
  have W_4 := Lib.hid (W_3.out.trans (((Below.refl q3.heap.size q3).drew).mono W_3.out.size))
  clear p_3 l_3 r_3 W_3
  generalize q3.drew = d4 at p_4 l_4 r_4 W_4 ⊢
  refine seqR_at (o := ?_) ?_ ?_
  rotate_left
  · (conv => (lhs; whnf; arg 1; whnf))
  refine seqR_y (v := ?_) (by rfl) (fun W hW => ?_) ?_
  rotate_left
  · go_simp; try with_reducible rfl
  try simp only [Act.put, List.setIfInBounds_toArray, List.set_cons_zero, List.set_cons_succ]
  refine seqR_at (o := ?_) ?_ ?_
  rotate_left
  · (conv => (lhs; whnf; arg 1; whnf))
  refine seqR_y (v := ?_) (by rfl) (fun W hW => ?_) ?_
  rotate_left
  · go_simp; try with_reducible rfl
  try simp only [Act.put, List.setIfInBounds_toArray, List.set_cons_zero, List.set_cons_succ]
  refine seqR_at (o := ?_) ?_ ?_
  rotate_left
  · (conv => (lhs; whnf; arg 1; whnf))
  refine seqR_y (v := ?_) (by rfl) (fun W hW => ?_) ?_
  rotate_left
  · go_simp; try with_reducible rfl
  try simp only [Act.put, List.setIfInBounds_toArray, List.set_cons_zero, List.set_cons_succ]
  refine seqR_at (o := ?_) ?_ ?_
  rotate_left
  · (conv => (lhs; whnf; arg 1; whnf))
  refine seqR_y (v := ?_) (by rfl) (fun W hW => ?_) ?_
  rotate_left
  · (refine exec_ldN (x := .tmp 8) ntNat ?_ ?_ (l_4.out.below hW)) <;> rfl
  try simp only [Act.put, List.setIfInBounds_toArray, List.set_cons_zero, List.set_cons_succ]
  refine seqR_at (o := ?_) ?_ ?_
  rotate_left
  · (conv => (lhs; whnf; arg 1; whnf))
  refine seqR_y (v := ?_) (by rfl) (fun W hW => ?_) ?_
  rotate_left
  · go_simp; try with_reducible rfl
  try simp only [Act.put, List.setIfInBounds_toArray, List.set_cons_zero, List.set_cons_succ]
  refine seqR_at (o := ?_) ?_ ?_
  rotate_left
  · (conv => (lhs; whnf; arg 1; whnf))
  refine seqR_y (v := ?_) (by rfl) (fun W hW => ?_) ?_
  rotate_left
  · go_simp; try with_reducible rfl
  try simp only [Act.put, List.setIfInBounds_toArray, List.set_cons_zero, List.set_cons_succ]
  refine seqR_at (o := ?_) ?_ ?_
  rotate_left
  · (conv => (lhs; whnf; arg 1; whnf))
  refine seqR_y (v := ?_) (by rfl) (fun W hW => ?_) ?_
  rotate_left
  · have h9 : min (k : Int) 1024 = (1024 : Int) := (by have := HK.out; omega); go_simp; try with_reducible rfl
  try simp only [Act.put, List.setIfInBounds_toArray, List.set_cons_zero, List.set_cons_succ]
  refine seqR_at (o := ?_) ?_ ?_
  rotate_left
  · (conv => (lhs; whnf; arg 1; whnf))
  refine seqR_c (by rfl) (fun K hK => ?_)
  go_simp
  refine (rshift_at (K := 1024) (k := q1024) rfl _ _ p_4.out HSn.out (by unfold q1024; omega) (HS2.out _)).mono ?_
  rintro e p5 ⟨v5, rfl, hv, hb, _⟩
  have p_5 := Lib.hid (p_4.out.below hb)
  have l_5 := Lib.hid (l_4.out.below hb)
  have r_5 := Lib.hid (r_4.out.below hb)
  have W_5 := Lib.hid (W_4.out.trans (hb.mono W_4.out.size))
  refine hK _ _ hb ?_
  clear hK K hb p_4 l_4 r_4 W_4
  have q_5 := Lib.hid hv; clear hv
  try simp only [Act.put, List.setIfInBounds_toArray, List.set_cons_zero, List.set_cons_succ]
  refine seqR_at (o := ?_) ?_ ?_
  rotate_left
  · (conv => (lhs; whnf; arg 1; whnf))
  refine seqR_c (by rfl) (fun K hK => ?_)
  go_simp
  refine (same_ok _ _ Fit.zero q_5.out HSs.out (decide_eq_true rfl)).mono ?_
  rintro e p6 ⟨rfl, hb⟩
  have p_6 := Lib.hid (p_5.out.below hb)
  have l_6 := Lib.hid (l_5.out.below hb)
  have r_6 := Lib.hid (r_5.out.below hb)
  have q_6 := Lib.hid (q_5.out.below hb)
  have W_6 := Lib.hid (W_5.out.trans (hb.mono W_5.out.size))
  refine hK _ _ hb ?_
  clear hK K hb p_5 l_5 r_5 q_5 W_5
  try simp only [Act.put, List.setIfInBounds_toArray, List.set_cons_zero, List.set_cons_succ]
  refine seqR_at (o := ?_) ?_ ?_
  rotate_left
  · (conv => (lhs; whnf; arg 1; whnf))
  refine seqR_y (v := ?_) (by rfl) (fun W hW => ?_) ?_
  rotate_left
  · go_simp; try with_reducible rfl
  try simp only [Act.put, List.setIfInBounds_toArray, List.set_cons_zero, List.set_cons_succ]
  refine seqR_at (o := ?_) ?_ ?_
  rotate_left
  · (conv => (lhs; whnf; arg 1; whnf))
  refine seqR_y (v := ?_) (by rfl) (fun W hW => ?_) ?_
  rotate_left
  · go_simp; try with_reducible rfl
  try simp only [Act.put, List.setIfInBounds_toArray, List.set_cons_zero, List.set_cons_succ]
  refine seqR_end ?_
  go_wp2_with (first | go_skip | (refine wpl_ldN ntNat rfl rfl rfl l_6.out ?_) | (refine wpl_ldN_g ntNat ?hw rfl rfl l_6.out ?_; (case hw => rfl)) | (refine wpl_ldN ntNat rfl rfl rfl r_6.out ?_) | (refine wpl_ldN_g ntNat ?hw rfl rfl r_6.out ?_; (case hw => rfl)))
  clear q_6
  clear l_6
  refine (isZero_ok _ HFr.out (decide_eq_true HR0.out)).mono ?_
  rintro e p7 ⟨rfl, hb⟩
  have p_7 := Lib.hid (p_6.out.below hb)
  have r_7 := Lib.hid (r_6.out.below hb)
  have W_7 := Lib.hid (W_6.out.trans (hb.mono W_6.out.size))
  clear hb p_6 r_6 W_6
  go_wp2_with (first | go_skip | (refine wpl_ldN ntNat rfl rfl rfl r_7.out ?_) | (refine wpl_ldN_g ntNat ?hw rfl rfl r_7.out ?_; (case hw => rfl)))
  refine (known_any _).mono ?_
  rintro e p8 ⟨rfl, hb⟩
  have p_8 := Lib.hid (p_7.out.below hb)
  have r_8 := Lib.hid (r_7.out.below hb)
  have W_8 := Lib.hid (W_7.out.trans (hb.mono W_7.out.size))
  clear hb p_7 r_7 W_7
  go_wp2_with (first | go_skip | (refine wpl_ldN ntNat rfl rfl rfl r_8.out ?_) | (refine wpl_ldN_g ntNat ?hw rfl rfl r_8.out ?_; (case hw => rfl)))
  go_ret
  exact ⟨rfl, W_8.out⟩

set_option maxHeartbeats 6400000 in
theorem shifts_zn (va : Value) (xa : List UInt8) (k : Nat) (w : World) (ha : Byt w va xa) (ll0 : xa.length ≤ 128) (n : Nat) (hn : numN xa = n) (h0 : n = 0) (hk : k ≤ 1024) :
    Calls Try.prog 8 #[va, .int .i64 (k : Int)] w fun e w' => e = .returned (.bool true) ∧ Below w.heap.size w w' := by
  have HA := Lib.hid ha
  obtain ⟨A, c, rfl, -⟩ := ha.len
  have d0 : decide (128 < (xa.length : Int)) = false := decide_eq_false (by omega)
  have HLn : Hid (xa.length ≤ 200) := Lib.hid (by omega)
  have HSn := Lib.hid (sz_num HLn.out)
  have HFn := Lib.hid (fit_num (xs := xa) ll0)
  have HCn := Lib.hid (c16_num HLn.out)
  rw [hn] at HSn HFn HCn
  have HEn := Lib.hid hn
  have d2 : decide (1024 < (k : Int)) = false := decide_eq_false (by omega)
  have HK := Lib.hid hk
  have H0 := Lib.hid h0
  have d3 : decide (0 < c16 n) = false := by rw [h0]; rfl
  have HFT : Hid (Fit (n * 2 ^ k)) := Lib.hid (by rw [h0, Nat.zero_mul]; exact Fit.zero)
  obtain ⟨r, hr⟩ : ∃ r, n / 2 ^ k = r := ⟨_, rfl⟩
  have HR := Lib.hid hr
  have HFr : Hid (Fit r) := Lib.hid (by rw [← hr]; exact Nat.lt_of_le_of_lt (Nat.div_le_self _ _) HFn.out)
  have HSr : Hid (Sz r) := Lib.hid (by rw [← hr]; exact HSn.out.mono (Nat.div_le_self _ _))
  obtain ⟨s, hs⟩ : ∃ s, n * 2 ^ k = s := ⟨_, rfl⟩
  have HS := Lib.hid hs
  rw [hs] at HFT
  have HCt := Lib.hid (c16_two hk)
  have HSs : Hid (Sz s) := Lib.hid (by rw [← hs]; exact Sz.of (c16_mul HCn.out HCt.out) (by decide))
  obtain ⟨t, ht⟩ : ∃ t, 1 * 2 ^ k = t := ⟨_, rfl⟩
  have HT := Lib.hid ht
  have HC2 : Hid (c16 t ≤ 65) := Lib.hid (by rw [← ht, Nat.one_mul]; exact HCt.out)
  have HT0 : Hid (t ≠ 0) := Lib.hid (by rw [← ht, Nat.one_mul]; exact Nat.ne_of_gt (Nat.two_pow_pos k))
  have HRT : Hid (n / t = r) := Lib.hid (by rw [← ht, Nat.one_mul]; exact hr)
  have HK1 : Hid (k ≤ 100000) := Lib.hid (by omega)
  clear hs ht
  clear ha hn ll0 hk h0 hr
  go_enter Try.func8, Try.ntmps8
  go_wp2_with fail
  refine (made_ok _ _ HA.out HLn.out HEn.out HFn.out).mono ?_
  rintro e p1 ⟨v1, rfl, hv, hb⟩
  obtain ⟨As1, cs1, rfl, -⟩ := Lst.len hv
  have XT0_1 := Lib.hid (NatAt.zero p1)
  have XA_1 := Lib.hid (below_zero hb hb.size)
  have hsz_1 : Hid (w.heap.size ≤ p1.heap.size) := Lib.hid hb.size
  have XQ_1 := Lib.hid (below_zero (Below.refl p1.heap.size p1) (Nat.le_refl _))
  have XMp_1 := Lib.hid hv
  clear hv
  clear hb
  go_wp2_with (first | go_skip | (refine wpl_stN ntNat rfl rfl rfl rfl XT0_1.out ?_; intro q1 hn hg; have XB0_1 := Lib.hid (XA_1.out.grown hg XA_1.out.size (fun j e => by injection e with e; rw [← e]; have := hsz_1.out; omega)); have XS00_1 := Lib.hid hn; have hq := XQ_1.out.grown hg XQ_1.out.size (fun j e => by injection e with e; rw [← e]; exact Nat.le_refl _); have A_1 := Lib.hid (HA.out.below XB0_1.out); have W_1 := Lib.hid (XB0_1.out); have p_1 := Lib.hid (XMp_1.out.below hq); have x_1 := XS00_1; clear hn hg HA XMp_1 hq XQ_1 XT0_1 XA_1 XS00_1 XB0_1 hsz_1) | (refine wpl_ldN ntNat rfl rfl rfl x_1.out ?_) | (refine wpl_ldN_g ntNat ?hw rfl rfl x_1.out ?_; (case hw => rfl)))
  clear A_1
  refine (shl_ok _ HFn.out HS.out HFT.out).mono ?_
  rintro e p2 ⟨rfl, hb⟩
  have XT0_2 := Lib.hid (NatAt.zero p2)
  have XA_2 := Lib.hid (below_zero hb hb.size)
  have hsz_2 : Hid (q1.heap.size ≤ p2.heap.size) := Lib.hid hb.size
  clear hb
  go_wp2_with (first | go_skip | (refine wpl_stN ntNat rfl rfl rfl rfl XT0_2.out ?_; intro q2 hn hg; have XB0_2 := Lib.hid (XA_2.out.grown hg XA_2.out.size (fun j e => by injection e with e; rw [← e]; have := hsz_2.out; omega)); have XS00_2 := Lib.hid hn; have p_2 := Lib.hid (p_1.out.below XB0_2.out); have x_2 := Lib.hid (x_1.out.below XB0_2.out); have W_2 := Lib.hid (W_1.out.trans (XB0_2.out.mono W_1.out.size)); have l_2 := XS00_2; clear hn hg p_1 x_1 W_1 XT0_2 XA_2 XS00_2 XB0_2 hsz_2) | (refine wpl_ldN ntNat rfl rfl rfl x_2.out ?_) | (refine wpl_ldN_g ntNat ?hw rfl rfl x_2.out ?_; (case hw => rfl)) | (refine wpl_ldN ntNat rfl rfl rfl l_2.out ?_) | (refine wpl_ldN_g ntNat ?hw rfl rfl l_2.out ?_; (case hw => rfl)))
  refine (shr_ok _ HFn.out HR.out).mono ?_
  rintro e p3 ⟨rfl, hb⟩
  have XT0_3 := Lib.hid (NatAt.zero p3)
  have XA_3 := Lib.hid (below_zero hb hb.size)
  have hsz_3 : Hid (q2.heap.size ≤ p3.heap.size) := Lib.hid hb.size
  clear hb
  go_wp2_with (first | go_skip | (refine wpl_stN ntNat rfl rfl rfl rfl XT0_3.out ?_; intro q3 hn hg; have XB0_3 := Lib.hid (XA_3.out.grown hg XA_3.out.size (fun j e => by injection e with e; rw [← e]; have := hsz_3.out; omega)); have XS00_3 := Lib.hid hn; have p_3 := Lib.hid (p_2.out.below XB0_3.out); have x_3 := Lib.hid (x_2.out.below XB0_3.out); have l_3 := Lib.hid (l_2.out.below XB0_3.out); have W_3 := Lib.hid (W_2.out.trans (XB0_3.out.mono W_2.out.size)); have r_3 := XS00_3; clear hn hg p_2 x_2 l_2 W_2 XT0_3 XA_3 XS00_3 XB0_3 hsz_3) | (refine wpl_ldN ntNat rfl rfl rfl x_3.out ?_) | (refine wpl_ldN_g ntNat ?hw rfl rfl x_3.out ?_; (case hw => rfl)) | (refine wpl_ldN ntNat rfl rfl rfl l_3.out ?_) | (refine wpl_ldN_g ntNat ?hw rfl rfl l_3.out ?_; (case hw => rfl)) | (refine wpl_ldN ntNat rfl rfl rfl r_3.out ?_) | (refine wpl_ldN_g ntNat ?hw rfl rfl r_3.out ?_; (case hw => rfl)))
  clear x_3
  refine region_road Later [(0, true), (1, true), (2, true), (3, true), (4, true), (5, true), (6, true), (7, false), (8, false), (9, true), (10, true)] (by kernel_rfl) (by kernel_rfl) (by kernel_rfl) (by kernel_rfl) (by kernel_rfl) (by kernel_rfl) later_refl later_trans (fun _ _ d _ _ h => by cases d <;> exact h) ?_
  have p_4 := Lib.hid (p_3.out.below ((Below.refl q3.heap.size q3).drew))
  have l_4 := Lib.hid (l_3.out.below ((Below.refl q3.heap.size q3).drew))
  have r_4 := Lib.hid (r_3.out.below ((Below.refl q3.heap.size q3).drew))
  have W_4 := Lib.hid (W_3.out.trans (((Below.refl q3.heap.size q3).drew).mono W_3.out.size))
  clear p_3 l_3 r_3 W_3
  generalize q3.drew = d4 at p_4 l_4 r_4 W_4 ⊢
  refine seqR_at (o := ?_) ?_ ?_
  rotate_left
  · (conv => (lhs; whnf; arg 1; whnf))
  refine seqR_y (v := ?_) (by rfl) (fun W hW => ?_) ?_
  rotate_left
  · go_simp; try with_reducible rfl
  try simp only [Act.put, List.setIfInBounds_toArray, List.set_cons_zero, List.set_cons_succ]
  refine seqR_at (o := ?_) ?_ ?_
  rotate_left
  · (conv => (lhs; whnf; arg 1; whnf))
  refine seqR_y (v := ?_) (by rfl) (fun W hW => ?_) ?_
  rotate_left
  · go_simp; try with_reducible rfl
  try simp only [Act.put, List.setIfInBounds_toArray, List.set_cons_zero, List.set_cons_succ]
  refine seqR_at (o := ?_) ?_ ?_
  rotate_left
  · (conv => (lhs; whnf; arg 1; whnf))
  refine seqR_y (v := ?_) (by rfl) (fun W hW => ?_) ?_
  rotate_left
  · go_simp; try with_reducible rfl
  try simp only [Act.put, List.setIfInBounds_toArray, List.set_cons_zero, List.set_cons_succ]
  refine seqR_at (o := ?_) ?_ ?_
  rotate_left
  · (conv => (lhs; whnf; arg 1; whnf))
  refine seqR_y (v := ?_) (by rfl) (fun W hW => ?_) ?_
  rotate_left
  · (refine exec_ldN (x := .tmp 8) ntNat ?_ ?_ (l_4.out.below hW)) <;> rfl
  try simp only [Act.put, List.setIfInBounds_toArray, List.set_cons_zero, List.set_cons_succ]
  refine seqR_at (o := ?_) ?_ ?_
  rotate_left
  · (conv => (lhs; whnf; arg 1; whnf))
  refine seqR_y (v := ?_) (by rfl) (fun W hW => ?_) ?_
  rotate_left
  · go_simp; try with_reducible rfl
  try simp only [Act.put, List.setIfInBounds_toArray, List.set_cons_zero, List.set_cons_succ]
  refine seqR_at (o := ?_) ?_ ?_
  rotate_left
  · (conv => (lhs; whnf; arg 1; whnf))
  refine seqR_y (v := ?_) (by rfl) (fun W hW => ?_) ?_
  rotate_left
  · go_simp; try with_reducible rfl
  try simp only [Act.put, List.setIfInBounds_toArray, List.set_cons_zero, List.set_cons_succ]
  refine seqR_at (o := ?_) ?_ ?_
  rotate_left
  · (conv => (lhs; whnf; arg 1; whnf))
  refine seqR_y (v := ?_) (by rfl) (fun W hW => ?_) ?_
  rotate_left
  · have h9 : min (k : Int) 1024 = (k : Int) := (by have := HK.out; omega); go_simp; try with_reducible rfl
  try simp only [Act.put, List.setIfInBounds_toArray, List.set_cons_zero, List.set_cons_succ]
  refine seqR_at (o := ?_) ?_ ?_
  rotate_left
  · (conv => (lhs; whnf; arg 1; whnf))
  refine seqR_c (by rfl) (fun K hK => ?_)
  go_simp
  refine (rshift_ok _ _ p_4.out HSn.out HK1.out HS.out).mono ?_
  rintro e p5 ⟨v5, rfl, hv, hb, _⟩
  have p_5 := Lib.hid (p_4.out.below hb)
  have l_5 := Lib.hid (l_4.out.below hb)
  have r_5 := Lib.hid (r_4.out.below hb)
  have W_5 := Lib.hid (W_4.out.trans (hb.mono W_4.out.size))
  refine hK _ _ hb ?_
  clear hK K hb p_4 l_4 r_4 W_4
  have q_5 := Lib.hid hv; clear hv
  try simp only [Act.put, List.setIfInBounds_toArray, List.set_cons_zero, List.set_cons_succ]
  refine seqR_at (o := ?_) ?_ ?_
  rotate_left
  · (conv => (lhs; whnf; arg 1; whnf))
  refine seqR_c (by rfl) (fun K hK => ?_)
  go_simp
  refine (same_ok _ _ HFT.out q_5.out HSs.out (decide_eq_true rfl)).mono ?_
  rintro e p6 ⟨rfl, hb⟩
  have p_6 := Lib.hid (p_5.out.below hb)
  have l_6 := Lib.hid (l_5.out.below hb)
  have r_6 := Lib.hid (r_5.out.below hb)
  have q_6 := Lib.hid (q_5.out.below hb)
  have W_6 := Lib.hid (W_5.out.trans (hb.mono W_5.out.size))
  refine hK _ _ hb ?_
  clear hK K hb p_5 l_5 r_5 q_5 W_5
  try simp only [Act.put, List.setIfInBounds_toArray, List.set_cons_zero, List.set_cons_succ]
  refine seqR_at (o := ?_) ?_ ?_
  rotate_left
  · (conv => (lhs; whnf; arg 1; whnf))
  refine seqR_y (v := ?_) (by rfl) (fun W hW => ?_) ?_
  rotate_left
  · go_simp; try with_reducible rfl
  try simp only [Act.put, List.setIfInBounds_toArray, List.set_cons_zero, List.set_cons_succ]
  refine seqR_at (o := ?_) ?_ ?_
  rotate_left
  · (conv => (lhs; whnf; arg 1; whnf))
  refine seqR_y (v := ?_) (by rfl) (fun W hW => ?_) ?_
  rotate_left
  · go_simp; try with_reducible rfl
  try simp only [Act.put, List.setIfInBounds_toArray, List.set_cons_zero, List.set_cons_succ]
  refine seqR_end ?_
  go_wp2_with (first | go_skip | (refine wpl_ldN ntNat rfl rfl rfl l_6.out ?_) | (refine wpl_ldN_g ntNat ?hw rfl rfl l_6.out ?_; (case hw => rfl)) | (refine wpl_ldN ntNat rfl rfl rfl r_6.out ?_) | (refine wpl_ldN_g ntNat ?hw rfl rfl r_6.out ?_; (case hw => rfl)))
  clear q_6
  clear l_6
  refine (rof_ok (c := 1) _ _ rfl (by decide)).mono ?_
  rintro e p7 ⟨v7, rfl, hv, hb, ho7⟩
  have p_7 := Lib.hid (p_6.out.below hb)
  have r_7 := Lib.hid (r_6.out.below hb)
  have W_7 := Lib.hid (W_6.out.trans (hb.mono W_6.out.size))
  clear hb ho7 p_6 r_6 W_6
  have one_7 := Lib.hid hv
  clear hv
  go_wp2_with (first | go_skip | (refine wpl_ldN ntNat rfl rfl rfl r_7.out ?_) | (refine wpl_ldN_g ntNat ?hw rfl rfl r_7.out ?_; (case hw => rfl)))
  refine (rshift_ok _ _ one_7.out (sz_int (by decide)) HK1.out HT.out).mono ?_
  rintro e p8 ⟨v8, rfl, hv, hb, ho8⟩
  have p_8 := Lib.hid (p_7.out.below hb)
  have r_8 := Lib.hid (r_7.out.below hb)
  have one_8 := Lib.hid (one_7.out.below hb)
  have W_8 := Lib.hid (W_7.out.trans (hb.mono W_7.out.size))
  clear hb ho8 p_7 r_7 one_7 W_7
  have t_8 := Lib.hid hv
  clear hv
  go_wp2_with (first | go_skip | (refine wpl_ldN ntNat rfl rfl rfl r_8.out ?_) | (refine wpl_ldN_g ntNat ?hw rfl rfl r_8.out ?_; (case hw => rfl)))
  clear one_8
  refine (rdivide_ok _ _ _ p_8.out t_8.out (Nat.le_trans HCn.out (by decide)) (Nat.le_trans HC2.out (by decide)) HT0.out HRT.out rfl).mono ?_
  rintro e p9 ⟨u9, v9, rfl, hu, hv, hb⟩
  have p_9 := Lib.hid (p_8.out.below hb)
  have r_9 := Lib.hid (r_8.out.below hb)
  have t_9 := Lib.hid (t_8.out.below hb)
  have W_9 := Lib.hid (W_8.out.trans (hb.mono W_8.out.size))
  clear hb p_8 r_8 t_8 W_8
  have q_9 := Lib.hid hu
  clear hu hv
  go_wp2_with (first | go_skip | (refine wpl_ldN ntNat rfl rfl rfl r_9.out ?_) | (refine wpl_ldN_g ntNat ?hw rfl rfl r_9.out ?_; (case hw => rfl)))
  clear t_9
  clear p_9
  refine (same_ok _ _ HFr.out q_9.out HSr.out (decide_eq_true rfl)).mono ?_
  rintro e p10 ⟨rfl, hb⟩
  have r_10 := Lib.hid (r_9.out.below hb)
  have q_10 := Lib.hid (q_9.out.below hb)
  have W_10 := Lib.hid (W_9.out.trans (hb.mono W_9.out.size))
  clear hb r_9 q_9 W_9
  go_wp2_with (first | go_skip | (refine wpl_ldN ntNat rfl rfl rfl r_10.out ?_) | (refine wpl_ldN_g ntNat ?hw rfl rfl r_10.out ?_; (case hw => rfl)))
  refine (known_any _).mono ?_
  rintro e p11 ⟨rfl, hb⟩
  have r_11 := Lib.hid (r_10.out.below hb)
  have q_11 := Lib.hid (q_10.out.below hb)
  have W_11 := Lib.hid (W_10.out.trans (hb.mono W_10.out.size))
  clear hb r_10 q_10 W_10
  go_wp2_with (first | go_skip | (refine wpl_ldN ntNat rfl rfl rfl r_11.out ?_) | (refine wpl_ldN_g ntNat ?hw rfl rfl r_11.out ?_; (case hw => rfl)))
  go_ret
  exact ⟨rfl, W_11.out⟩

theorem shifts_any (va : Value) (xa : List UInt8) (k : Int) (w : World) (ha : Byt w va xa) (hk : -9223372036854775808 ≤ k ∧ k ≤ 9223372036854775807) :
    Calls Try.prog 8 #[va, .int .i64 k] w fun e w' => e = .returned (.bool true) ∧ Below w.heap.size w w' := by
  have HA := Lib.hid ha
  obtain ⟨A, c, rfl, -⟩ := ha.len
  clear ha hk
  by_cases hl0 : 128 < xa.length
  · have d0 : decide (128 < (xa.length : Int)) = true := decide_eq_true (by omega)
    clear hl0
    go_enter Try.func8, Try.ntmps8
    go_wp2_with fail
    refine (known_any w).mono ?_
    rintro e w1 ⟨rfl, hb⟩
    have HB := Lib.hid hb
    clear hb
    go_wp2_with fail
    go_ret
    exact ⟨rfl, HB.out⟩
  · have d0 : decide (128 < (xa.length : Int)) = false := decide_eq_false (by omega)
    have ll0 : xa.length ≤ 128 := by omega
    clear hl0
    by_cases hn : k < 0
    · exact shifts_neg _ xa k w HA.out ll0 _ rfl hn
    · obtain ⟨j, rfl⟩ := Int.eq_ofNat_of_zero_le (show 0 ≤ k by omega)
      by_cases h0 : numN xa = 0
      · rcases Nat.lt_or_ge 1024 j with h | h
        · exact shifts_zf _ xa j w HA.out ll0 _ rfl h0 h
        · exact shifts_zn _ xa j w HA.out ll0 _ rfl h0 h
      · rcases Nat.lt_or_ge 1024 j with h | h
        · exact shifts_nf _ xa j w HA.out ll0 _ rfl h0 h
        · by_cases hf : Fit (numN xa * 2 ^ j)
          · exact shifts_nn _ xa j w HA.out ll0 _ rfl h0 h hf
          · exact shifts_nu _ xa j w HA.out ll0 _ rfl h0 h hf

end Go.Proofs.Ytomiapceefbmeaa
