/- Walk: the law ModularSums (printed by genmodlaw.py). -/
import Derived.Test.YtfmadiepefbepaaModO
set_option linter.unusedVariables false
set_option linter.unusedSimpArgs false
set_option maxRecDepth 100000
namespace Go.Proofs.Ytfmadiepefbepaa
open Go.RowKit

set_option maxHeartbeats 12800000 in
theorem msums_z (va : Value) (xa : List UInt8) (vb : Value) (xb : List UInt8) (vc : Value) (xc : List UInt8) (w : World) (ha : Byt w va xa) (hb : Byt w vb xb) (hc : Byt w vc xc) (la : xa.length ≤ 128) (lb : xb.length ≤ 128) (lc : xc.length ≤ 128) (x y z : Nat) (ex : numN xa = x) (ey : numN xb = y) (ez : numN xc = z) (h0 : z = 0) :
    Calls Try.prog 9 #[va, vb, vc] w fun e w' => e = .returned (.bool true) ∧ Below w.heap.size w w' := by
  have Ha := Lib.hid ha
  obtain ⟨Aa, ca, rfl, -⟩ := ha.len
  have HLx : Hid (xa.length ≤ 200) := Lib.hid (by omega)
  have HSx := Lib.hid (sz_num HLx.out)
  have HFx := Lib.hid (fit_num (xs := xa) (by omega))
  have HCx := Lib.hid (c16_num HLx.out)
  rw [ex] at HSx HFx HCx
  have HEx := Lib.hid ex
  have HKx : Hid (c16 x ≤ 1000) := Lib.hid (Nat.le_trans HCx.out (by decide))
  have Hb := Lib.hid hb
  obtain ⟨Ab, cb, rfl, -⟩ := hb.len
  have HLy : Hid (xb.length ≤ 200) := Lib.hid (by omega)
  have HSy := Lib.hid (sz_num HLy.out)
  have HFy := Lib.hid (fit_num (xs := xb) (by omega))
  have HCy := Lib.hid (c16_num HLy.out)
  rw [ey] at HSy HFy HCy
  have HEy := Lib.hid ey
  have HKy : Hid (c16 y ≤ 1000) := Lib.hid (Nat.le_trans HCy.out (by decide))
  have Hc := Lib.hid hc
  obtain ⟨Ac, cc, rfl, -⟩ := hc.len
  have HLz : Hid (xc.length ≤ 200) := Lib.hid (by omega)
  have HSz := Lib.hid (sz_num HLz.out)
  have HFz := Lib.hid (fit_num (xs := xc) (by omega))
  have HCz := Lib.hid (c16_num HLz.out)
  rw [ez] at HSz HFz HCz
  have HEz := Lib.hid ez
  have HKz : Hid (c16 z ≤ 1000) := Lib.hid (Nat.le_trans HCz.out (by decide))
  have d0 : decide (128 < (xa.length : Int)) = false := decide_eq_false (by omega)
  have d1 : decide (128 < (xb.length : Int)) = false := decide_eq_false (by omega)
  have d2 : decide (128 < (xc.length : Int)) = false := decide_eq_false (by omega)
  have H0 := Lib.hid h0
  have d4 : (((c16 z : Nat) : Int) == 0) = true := by rw [h0]; rfl
  clear ha hb hc la lb lc ex ey ez h0
  go_enter Try.func9, Try.ntmps9
  go_wp2_with fail
  refine (made2_ok _ _ Ha.out HLx.out HEx.out HFx.out).mono ?_
  rintro e p1 ⟨rfl, hb⟩
  have A_1 := Lib.hid (Ha.out.below hb)
  have B_1 := Lib.hid (Hb.out.below hb)
  have C_1 := Lib.hid (Hc.out.below hb)
  have W_1 := Lib.hid (hb)
  clear hb Ha Hb Hc
  go_wp2_with fail
  refine (made2_ok _ _ B_1.out HLy.out HEy.out HFy.out).mono ?_
  rintro e p2 ⟨rfl, hb⟩
  have A_2 := Lib.hid (A_1.out.below hb)
  have B_2 := Lib.hid (B_1.out.below hb)
  have C_2 := Lib.hid (C_1.out.below hb)
  have W_2 := Lib.hid (W_1.out.trans (hb.mono W_1.out.size))
  clear hb A_1 B_1 C_1 W_1
  go_wp2_with fail
  refine (made2_ok _ _ C_2.out HLz.out HEz.out HFz.out).mono ?_
  rintro e p3 ⟨rfl, hb⟩
  have XT0_3 := Lib.hid (NatAt.z3A p3)
  have XT1_3 := Lib.hid (NatAt.z3B p3)
  have XT2_3 := Lib.hid (NatAt.z3C p3)
  have XA_3 := Lib.hid (below_z3 hb hb.size)
  have hsz_3 := Lib.hid hb.size
  clear hb
  go_wp2_with (first | go_skip | (refine wpl_stN ntNat rfl rfl rfl rfl XT0_3.out ?_; intro r3_0 hn hg; have XB0_3 := Lib.hid (XA_3.out.grown hg XA_3.out.size (fun j e => by injection e with e; rw [← e]; have := hsz_3.out; omega)); have XS00_3 := Lib.hid hn; have XS01_3 := Lib.hid (XT1_3.out.grown hg (fun e => by injection e with e; omega)); have XS02_3 := Lib.hid (XT2_3.out.grown hg (fun e => by injection e with e; omega)); clear hn hg XT0_3 XT1_3 XT2_3 XA_3) | (refine wpl_stN ntNat rfl rfl rfl rfl XS01_3.out ?_; intro r3_1 hn hg; have XB1_3 := Lib.hid (XB0_3.out.grown hg XB0_3.out.size (fun j e => by injection e with e; rw [← e]; have := hsz_3.out; omega)); have XS10_3 := Lib.hid (XS00_3.out.grown hg (fun e => by injection e with e; omega)); have XS11_3 := Lib.hid hn; have XS12_3 := Lib.hid (XS02_3.out.grown hg (fun e => by injection e with e; omega)); clear hn hg XS00_3 XS01_3 XS02_3 XB0_3) | (refine wpl_stN ntNat rfl rfl rfl rfl XS12_3.out ?_; intro q3 hn hg; have XB2_3 := Lib.hid (XB1_3.out.grown hg XB1_3.out.size (fun j e => by injection e with e; rw [← e]; have := hsz_3.out; omega)); have XS20_3 := Lib.hid (XS10_3.out.grown hg (fun e => by injection e with e; omega)); have XS21_3 := Lib.hid (XS11_3.out.grown hg (fun e => by injection e with e; omega)); have XS22_3 := Lib.hid hn; have A_3 := Lib.hid (A_2.out.below XB2_3.out); have B_3 := Lib.hid (B_2.out.below XB2_3.out); have C_3 := Lib.hid (C_2.out.below XB2_3.out); have W_3 := Lib.hid (W_2.out.trans (XB2_3.out.mono W_2.out.size)); have x_3 := XS20_3; have y_3 := XS21_3; have z_3 := XS22_3; clear hn hg A_2 B_2 C_2 W_2 XS10_3 XS11_3 XS12_3 XB1_3 XS20_3 XS21_3 XS22_3 XB2_3 hsz_3) | (refine wpl_ldN ntNat rfl rfl rfl x_3.out ?_) | (refine wpl_ldN_g ntNat ?hw rfl rfl x_3.out ?_; (case hw => rfl)) | (refine wpl_ldN ntNat rfl rfl rfl y_3.out ?_) | (refine wpl_ldN_g ntNat ?hw rfl rfl y_3.out ?_; (case hw => rfl)) | (refine wpl_ldN ntNat rfl rfl rfl z_3.out ?_) | (refine wpl_ldN_g ntNat ?hw rfl rfl z_3.out ?_; (case hw => rfl)))
  refine (mred_zero _ H0.out HFx.out).mono ?_
  rintro e p4 ⟨rfl, hb⟩
  have XT0_4 := Lib.hid (NatAt.zero p4)
  have XA_4 := Lib.hid (below_zero hb hb.size)
  have hsz_4 := Lib.hid hb.size
  clear hb
  go_wp2_with (first | go_skip | (refine wpl_stN ntNat rfl rfl rfl rfl XT0_4.out ?_; intro q4 hn hg; have XB0_4 := Lib.hid (XA_4.out.grown hg XA_4.out.size (fun j e => by injection e with e; rw [← e]; have := hsz_4.out; omega)); have XS00_4 := Lib.hid hn; have A_4 := Lib.hid (A_3.out.below XB0_4.out); have B_4 := Lib.hid (B_3.out.below XB0_4.out); have C_4 := Lib.hid (C_3.out.below XB0_4.out); have x_4 := Lib.hid (x_3.out.below XB0_4.out); have y_4 := Lib.hid (y_3.out.below XB0_4.out); have z_4 := Lib.hid (z_3.out.below XB0_4.out); have W_4 := Lib.hid (W_3.out.trans (XB0_4.out.mono W_3.out.size)); have r_4 := XS00_4; clear hn hg A_3 B_3 C_3 x_3 y_3 z_3 W_3 XT0_4 XA_4 XS00_4 XB0_4 hsz_4) | (refine wpl_ldN ntNat rfl rfl rfl x_4.out ?_) | (refine wpl_ldN_g ntNat ?hw rfl rfl x_4.out ?_; (case hw => rfl)) | (refine wpl_ldN ntNat rfl rfl rfl y_4.out ?_) | (refine wpl_ldN_g ntNat ?hw rfl rfl y_4.out ?_; (case hw => rfl)) | (refine wpl_ldN ntNat rfl rfl rfl z_4.out ?_) | (refine wpl_ldN_g ntNat ?hw rfl rfl z_4.out ?_; (case hw => rfl)) | (refine wpl_ldN ntNat rfl rfl rfl r_4.out ?_) | (refine wpl_ldN_g ntNat ?hw rfl rfl r_4.out ?_; (case hw => rfl)))
  refine (madd_zero _ H0.out HFx.out HFy.out).mono ?_
  rintro e p5 ⟨rfl, hb⟩
  have XT0_5 := Lib.hid (NatAt.zero p5)
  have XA_5 := Lib.hid (below_zero hb hb.size)
  have hsz_5 := Lib.hid hb.size
  clear hb
  go_wp2_with (first | go_skip | (refine wpl_stN ntNat rfl rfl rfl rfl XT0_5.out ?_; intro q5 hn hg; have XB0_5 := Lib.hid (XA_5.out.grown hg XA_5.out.size (fun j e => by injection e with e; rw [← e]; have := hsz_5.out; omega)); have XS00_5 := Lib.hid hn; have A_5 := Lib.hid (A_4.out.below XB0_5.out); have B_5 := Lib.hid (B_4.out.below XB0_5.out); have C_5 := Lib.hid (C_4.out.below XB0_5.out); have x_5 := Lib.hid (x_4.out.below XB0_5.out); have y_5 := Lib.hid (y_4.out.below XB0_5.out); have z_5 := Lib.hid (z_4.out.below XB0_5.out); have r_5 := Lib.hid (r_4.out.below XB0_5.out); have W_5 := Lib.hid (W_4.out.trans (XB0_5.out.mono W_4.out.size)); have s_5 := XS00_5; clear hn hg A_4 B_4 C_4 x_4 y_4 z_4 r_4 W_4 XT0_5 XA_5 XS00_5 XB0_5 hsz_5) | (refine wpl_ldN ntNat rfl rfl rfl x_5.out ?_) | (refine wpl_ldN_g ntNat ?hw rfl rfl x_5.out ?_; (case hw => rfl)) | (refine wpl_ldN ntNat rfl rfl rfl y_5.out ?_) | (refine wpl_ldN_g ntNat ?hw rfl rfl y_5.out ?_; (case hw => rfl)) | (refine wpl_ldN ntNat rfl rfl rfl z_5.out ?_) | (refine wpl_ldN_g ntNat ?hw rfl rfl z_5.out ?_; (case hw => rfl)) | (refine wpl_ldN ntNat rfl rfl rfl r_5.out ?_) | (refine wpl_ldN_g ntNat ?hw rfl rfl r_5.out ?_; (case hw => rfl)) | (refine wpl_ldN ntNat rfl rfl rfl s_5.out ?_) | (refine wpl_ldN_g ntNat ?hw rfl rfl s_5.out ?_; (case hw => rfl)))
  refine (msub_zero _ H0.out HFx.out HFy.out).mono ?_
  rintro e p6 ⟨rfl, hb⟩
  have XT0_6 := Lib.hid (NatAt.zero p6)
  have XA_6 := Lib.hid (below_zero hb hb.size)
  have hsz_6 := Lib.hid hb.size
  clear hb
  go_wp2_with (first | go_skip | (refine wpl_stN ntNat rfl rfl rfl rfl XT0_6.out ?_; intro q6 hn hg; have XB0_6 := Lib.hid (XA_6.out.grown hg XA_6.out.size (fun j e => by injection e with e; rw [← e]; have := hsz_6.out; omega)); have XS00_6 := Lib.hid hn; have A_6 := Lib.hid (A_5.out.below XB0_6.out); have B_6 := Lib.hid (B_5.out.below XB0_6.out); have C_6 := Lib.hid (C_5.out.below XB0_6.out); have x_6 := Lib.hid (x_5.out.below XB0_6.out); have y_6 := Lib.hid (y_5.out.below XB0_6.out); have z_6 := Lib.hid (z_5.out.below XB0_6.out); have r_6 := Lib.hid (r_5.out.below XB0_6.out); have s_6 := Lib.hid (s_5.out.below XB0_6.out); have W_6 := Lib.hid (W_5.out.trans (XB0_6.out.mono W_5.out.size)); have d_6 := XS00_6; clear hn hg A_5 B_5 C_5 x_5 y_5 z_5 r_5 s_5 W_5 XT0_6 XA_6 XS00_6 XB0_6 hsz_6) | (refine wpl_ldN ntNat rfl rfl rfl x_6.out ?_) | (refine wpl_ldN_g ntNat ?hw rfl rfl x_6.out ?_; (case hw => rfl)) | (refine wpl_ldN ntNat rfl rfl rfl y_6.out ?_) | (refine wpl_ldN_g ntNat ?hw rfl rfl y_6.out ?_; (case hw => rfl)) | (refine wpl_ldN ntNat rfl rfl rfl z_6.out ?_) | (refine wpl_ldN_g ntNat ?hw rfl rfl z_6.out ?_; (case hw => rfl)) | (refine wpl_ldN ntNat rfl rfl rfl r_6.out ?_) | (refine wpl_ldN_g ntNat ?hw rfl rfl r_6.out ?_; (case hw => rfl)) | (refine wpl_ldN ntNat rfl rfl rfl s_6.out ?_) | (refine wpl_ldN_g ntNat ?hw rfl rfl s_6.out ?_; (case hw => rfl)) | (refine wpl_ldN ntNat rfl rfl rfl d_6.out ?_) | (refine wpl_ldN_g ntNat ?hw rfl rfl d_6.out ?_; (case hw => rfl)))
  clear x_6
  clear y_6
  clear z_6
  refine (from_any _ xc _ C_6.out (by have := HLz.out; omega)).mono ?_
  rintro e p7 ⟨v7, rfl, hv, hb, -⟩
  rw [HEz.out] at hv
  obtain ⟨As7, cs7, rfl, -⟩ := Lst.len hv
  have A_7 := Lib.hid (A_6.out.below hb)
  have B_7 := Lib.hid (B_6.out.below hb)
  have C_7 := Lib.hid (C_6.out.below hb)
  have r_7 := Lib.hid (r_6.out.below hb)
  have s_7 := Lib.hid (s_6.out.below hb)
  have d_7 := Lib.hid (d_6.out.below hb)
  have W_7 := Lib.hid (W_6.out.trans (hb.mono W_6.out.size))
  have M_7 := Lib.hid hv
  clear hv hb A_6 B_6 C_6 r_6 s_6 d_6 W_6
  go_wp2_with (first | go_skip | (refine wpl_ldN ntNat rfl rfl rfl r_7.out ?_) | (refine wpl_ldN_g ntNat ?hw rfl rfl r_7.out ?_; (case hw => rfl)) | (refine wpl_ldN ntNat rfl rfl rfl s_7.out ?_) | (refine wpl_ldN_g ntNat ?hw rfl rfl s_7.out ?_; (case hw => rfl)) | (refine wpl_ldN ntNat rfl rfl rfl d_7.out ?_) | (refine wpl_ldN_g ntNat ?hw rfl rfl d_7.out ?_; (case hw => rfl)))
  refine (isZero_zero _).mono ?_
  rintro e p8 ⟨rfl, hb⟩
  have A_8 := Lib.hid (A_7.out.below hb)
  have B_8 := Lib.hid (B_7.out.below hb)
  have C_8 := Lib.hid (C_7.out.below hb)
  have r_8 := Lib.hid (r_7.out.below hb)
  have s_8 := Lib.hid (s_7.out.below hb)
  have d_8 := Lib.hid (d_7.out.below hb)
  have M_8 := Lib.hid (M_7.out.below hb)
  have W_8 := Lib.hid (W_7.out.trans (hb.mono W_7.out.size))
  clear hb A_7 B_7 C_7 r_7 s_7 d_7 M_7 W_7
  go_wp2_with (first | go_skip | (refine wpl_ldN ntNat rfl rfl rfl r_8.out ?_) | (refine wpl_ldN_g ntNat ?hw rfl rfl r_8.out ?_; (case hw => rfl)) | (refine wpl_ldN ntNat rfl rfl rfl s_8.out ?_) | (refine wpl_ldN_g ntNat ?hw rfl rfl s_8.out ?_; (case hw => rfl)) | (refine wpl_ldN ntNat rfl rfl rfl d_8.out ?_) | (refine wpl_ldN_g ntNat ?hw rfl rfl d_8.out ?_; (case hw => rfl)))
  refine (isZero_zero _).mono ?_
  rintro e p9 ⟨rfl, hb⟩
  have A_9 := Lib.hid (A_8.out.below hb)
  have B_9 := Lib.hid (B_8.out.below hb)
  have C_9 := Lib.hid (C_8.out.below hb)
  have r_9 := Lib.hid (r_8.out.below hb)
  have s_9 := Lib.hid (s_8.out.below hb)
  have d_9 := Lib.hid (d_8.out.below hb)
  have M_9 := Lib.hid (M_8.out.below hb)
  have W_9 := Lib.hid (W_8.out.trans (hb.mono W_8.out.size))
  clear hb A_8 B_8 C_8 r_8 s_8 d_8 M_8 W_8
  go_wp2_with (first | go_skip | (refine wpl_ldN ntNat rfl rfl rfl r_9.out ?_) | (refine wpl_ldN_g ntNat ?hw rfl rfl r_9.out ?_; (case hw => rfl)) | (refine wpl_ldN ntNat rfl rfl rfl s_9.out ?_) | (refine wpl_ldN_g ntNat ?hw rfl rfl s_9.out ?_; (case hw => rfl)) | (refine wpl_ldN ntNat rfl rfl rfl d_9.out ?_) | (refine wpl_ldN_g ntNat ?hw rfl rfl d_9.out ?_; (case hw => rfl)))
  refine (isZero_zero _).mono ?_
  rintro e p10 ⟨rfl, hb⟩
  have A_10 := Lib.hid (A_9.out.below hb)
  have B_10 := Lib.hid (B_9.out.below hb)
  have C_10 := Lib.hid (C_9.out.below hb)
  have r_10 := Lib.hid (r_9.out.below hb)
  have s_10 := Lib.hid (s_9.out.below hb)
  have d_10 := Lib.hid (d_9.out.below hb)
  have M_10 := Lib.hid (M_9.out.below hb)
  have W_10 := Lib.hid (W_9.out.trans (hb.mono W_9.out.size))
  clear hb A_9 B_9 C_9 r_9 s_9 d_9 M_9 W_9
  go_wp2_with (first | go_skip | (refine wpl_ldN ntNat rfl rfl rfl r_10.out ?_) | (refine wpl_ldN_g ntNat ?hw rfl rfl r_10.out ?_; (case hw => rfl)) | (refine wpl_ldN ntNat rfl rfl rfl s_10.out ?_) | (refine wpl_ldN_g ntNat ?hw rfl rfl s_10.out ?_; (case hw => rfl)) | (refine wpl_ldN ntNat rfl rfl rfl d_10.out ?_) | (refine wpl_ldN_g ntNat ?hw rfl rfl d_10.out ?_; (case hw => rfl)))
  refine (known2_any _).mono ?_
  rintro e p11 ⟨rfl, hb⟩
  have A_11 := Lib.hid (A_10.out.below hb)
  have B_11 := Lib.hid (B_10.out.below hb)
  have C_11 := Lib.hid (C_10.out.below hb)
  have r_11 := Lib.hid (r_10.out.below hb)
  have s_11 := Lib.hid (s_10.out.below hb)
  have d_11 := Lib.hid (d_10.out.below hb)
  have M_11 := Lib.hid (M_10.out.below hb)
  have W_11 := Lib.hid (W_10.out.trans (hb.mono W_10.out.size))
  clear hb A_10 B_10 C_10 r_10 s_10 d_10 M_10 W_10
  go_wp2_with (first | go_skip | (refine wpl_ldN ntNat rfl rfl rfl r_11.out ?_) | (refine wpl_ldN_g ntNat ?hw rfl rfl r_11.out ?_; (case hw => rfl)) | (refine wpl_ldN ntNat rfl rfl rfl s_11.out ?_) | (refine wpl_ldN_g ntNat ?hw rfl rfl s_11.out ?_; (case hw => rfl)) | (refine wpl_ldN ntNat rfl rfl rfl d_11.out ?_) | (refine wpl_ldN_g ntNat ?hw rfl rfl d_11.out ?_; (case hw => rfl)))
  go_ret
  exact ⟨rfl, W_11.out⟩

set_option maxHeartbeats 12800000 in
theorem msums_n (va : Value) (xa : List UInt8) (vb : Value) (xb : List UInt8) (vc : Value) (xc : List UInt8) (w : World) (ha : Byt w va xa) (hb : Byt w vb xb) (hc : Byt w vc xc) (la : xa.length ≤ 128) (lb : xb.length ≤ 128) (lc : xc.length ≤ 128) (x y z : Nat) (ex : numN xa = x) (ey : numN xb = y) (ez : numN xc = z) (h0 : z ≠ 0) :
    Calls Try.prog 9 #[va, vb, vc] w fun e w' => e = .returned (.bool true) ∧ Below w.heap.size w w' := by
  have Ha := Lib.hid ha
  obtain ⟨Aa, ca, rfl, -⟩ := ha.len
  have HLx : Hid (xa.length ≤ 200) := Lib.hid (by omega)
  have HSx := Lib.hid (sz_num HLx.out)
  have HFx := Lib.hid (fit_num (xs := xa) (by omega))
  have HCx := Lib.hid (c16_num HLx.out)
  rw [ex] at HSx HFx HCx
  have HEx := Lib.hid ex
  have HKx : Hid (c16 x ≤ 1000) := Lib.hid (Nat.le_trans HCx.out (by decide))
  have Hb := Lib.hid hb
  obtain ⟨Ab, cb, rfl, -⟩ := hb.len
  have HLy : Hid (xb.length ≤ 200) := Lib.hid (by omega)
  have HSy := Lib.hid (sz_num HLy.out)
  have HFy := Lib.hid (fit_num (xs := xb) (by omega))
  have HCy := Lib.hid (c16_num HLy.out)
  rw [ey] at HSy HFy HCy
  have HEy := Lib.hid ey
  have HKy : Hid (c16 y ≤ 1000) := Lib.hid (Nat.le_trans HCy.out (by decide))
  have Hc := Lib.hid hc
  obtain ⟨Ac, cc, rfl, -⟩ := hc.len
  have HLz : Hid (xc.length ≤ 200) := Lib.hid (by omega)
  have HSz := Lib.hid (sz_num HLz.out)
  have HFz := Lib.hid (fit_num (xs := xc) (by omega))
  have HCz := Lib.hid (c16_num HLz.out)
  rw [ez] at HSz HFz HCz
  have HEz := Lib.hid ez
  have HKz : Hid (c16 z ≤ 1000) := Lib.hid (Nat.le_trans HCz.out (by decide))
  have d0 : decide (128 < (xa.length : Int)) = false := decide_eq_false (by omega)
  have d1 : decide (128 < (xb.length : Int)) = false := decide_eq_false (by omega)
  have d2 : decide (128 < (xc.length : Int)) = false := decide_eq_false (by omega)
  have H0 := Lib.hid h0
  have d4 : (((c16 z : Nat) : Int) == 0) = false := by
    have h1 := len_pos h0
    rw [beq_eq_false_iff_ne]
    omega
  have hz0 := Nat.pos_of_ne_zero h0
  obtain ⟨r, hr⟩ : ∃ n, x % z = n := ⟨_, rfl⟩
  have Er := Lib.hid hr
  have Lr : r < z := by rw [← hr]; exact Nat.mod_lt _ hz0
  have Fr : Hid (Fit r) := Lib.hid (Nat.lt_trans Lr HFz.out)
  have Sr : Hid (Sz r) := Lib.hid (HSz.out.mono (Nat.le_of_lt Lr))
  obtain ⟨s, hs⟩ : ∃ n, (x + y) % z = n := ⟨_, rfl⟩
  have Es := Lib.hid hs
  have Ls : s < z := by rw [← hs]; exact Nat.mod_lt _ hz0
  have Fs : Hid (Fit s) := Lib.hid (Nat.lt_trans Ls HFz.out)
  have Ss : Hid (Sz s) := Lib.hid (HSz.out.mono (Nat.le_of_lt Ls))
  obtain ⟨d, hd⟩ : ∃ n, (x % z + z - y % z) % z = n := ⟨_, rfl⟩
  have Ed := Lib.hid hd
  have Ld : d < z := by rw [← hd]; exact Nat.mod_lt _ hz0
  have Fd : Hid (Fit d) := Lib.hid (Nat.lt_trans Ld HFz.out)
  have Sd : Hid (Sz d) := Lib.hid (HSz.out.mono (Nat.le_of_lt Ld))
  clear hz0 hr hs hd Lr Ls Ld
  clear ha hb hc la lb lc ex ey ez h0
  go_enter Try.func9, Try.ntmps9
  go_wp2_with fail
  refine (made2_ok _ _ Ha.out HLx.out HEx.out HFx.out).mono ?_
  rintro e p1 ⟨rfl, hb⟩
  have A_1 := Lib.hid (Ha.out.below hb)
  have B_1 := Lib.hid (Hb.out.below hb)
  have C_1 := Lib.hid (Hc.out.below hb)
  have W_1 := Lib.hid (hb)
  clear hb Ha Hb Hc
  go_wp2_with fail
  refine (made2_ok _ _ B_1.out HLy.out HEy.out HFy.out).mono ?_
  rintro e p2 ⟨rfl, hb⟩
  have A_2 := Lib.hid (A_1.out.below hb)
  have B_2 := Lib.hid (B_1.out.below hb)
  have C_2 := Lib.hid (C_1.out.below hb)
  have W_2 := Lib.hid (W_1.out.trans (hb.mono W_1.out.size))
  clear hb A_1 B_1 C_1 W_1
  go_wp2_with fail
  refine (made2_ok _ _ C_2.out HLz.out HEz.out HFz.out).mono ?_
  rintro e p3 ⟨rfl, hb⟩
  have XT0_3 := Lib.hid (NatAt.z3A p3)
  have XT1_3 := Lib.hid (NatAt.z3B p3)
  have XT2_3 := Lib.hid (NatAt.z3C p3)
  have XA_3 := Lib.hid (below_z3 hb hb.size)
  have hsz_3 := Lib.hid hb.size
  clear hb
  go_wp2_with (first | go_skip | (refine wpl_stN ntNat rfl rfl rfl rfl XT0_3.out ?_; intro r3_0 hn hg; have XB0_3 := Lib.hid (XA_3.out.grown hg XA_3.out.size (fun j e => by injection e with e; rw [← e]; have := hsz_3.out; omega)); have XS00_3 := Lib.hid hn; have XS01_3 := Lib.hid (XT1_3.out.grown hg (fun e => by injection e with e; omega)); have XS02_3 := Lib.hid (XT2_3.out.grown hg (fun e => by injection e with e; omega)); clear hn hg XT0_3 XT1_3 XT2_3 XA_3) | (refine wpl_stN ntNat rfl rfl rfl rfl XS01_3.out ?_; intro r3_1 hn hg; have XB1_3 := Lib.hid (XB0_3.out.grown hg XB0_3.out.size (fun j e => by injection e with e; rw [← e]; have := hsz_3.out; omega)); have XS10_3 := Lib.hid (XS00_3.out.grown hg (fun e => by injection e with e; omega)); have XS11_3 := Lib.hid hn; have XS12_3 := Lib.hid (XS02_3.out.grown hg (fun e => by injection e with e; omega)); clear hn hg XS00_3 XS01_3 XS02_3 XB0_3) | (refine wpl_stN ntNat rfl rfl rfl rfl XS12_3.out ?_; intro q3 hn hg; have XB2_3 := Lib.hid (XB1_3.out.grown hg XB1_3.out.size (fun j e => by injection e with e; rw [← e]; have := hsz_3.out; omega)); have XS20_3 := Lib.hid (XS10_3.out.grown hg (fun e => by injection e with e; omega)); have XS21_3 := Lib.hid (XS11_3.out.grown hg (fun e => by injection e with e; omega)); have XS22_3 := Lib.hid hn; have A_3 := Lib.hid (A_2.out.below XB2_3.out); have B_3 := Lib.hid (B_2.out.below XB2_3.out); have C_3 := Lib.hid (C_2.out.below XB2_3.out); have W_3 := Lib.hid (W_2.out.trans (XB2_3.out.mono W_2.out.size)); have x_3 := XS20_3; have y_3 := XS21_3; have z_3 := XS22_3; clear hn hg A_2 B_2 C_2 W_2 XS10_3 XS11_3 XS12_3 XB1_3 XS20_3 XS21_3 XS22_3 XB2_3 hsz_3) | (refine wpl_ldN ntNat rfl rfl rfl x_3.out ?_) | (refine wpl_ldN_g ntNat ?hw rfl rfl x_3.out ?_; (case hw => rfl)) | (refine wpl_ldN ntNat rfl rfl rfl y_3.out ?_) | (refine wpl_ldN_g ntNat ?hw rfl rfl y_3.out ?_; (case hw => rfl)) | (refine wpl_ldN ntNat rfl rfl rfl z_3.out ?_) | (refine wpl_ldN_g ntNat ?hw rfl rfl z_3.out ?_; (case hw => rfl)))
  refine (mred_ok _ HFz.out H0.out HFx.out Er.out).mono ?_
  rintro e p4 ⟨rfl, hb⟩
  have XT0_4 := Lib.hid (NatAt.zero p4)
  have XA_4 := Lib.hid (below_zero hb hb.size)
  have hsz_4 := Lib.hid hb.size
  clear hb
  go_wp2_with (first | go_skip | (refine wpl_stN ntNat rfl rfl rfl rfl XT0_4.out ?_; intro q4 hn hg; have XB0_4 := Lib.hid (XA_4.out.grown hg XA_4.out.size (fun j e => by injection e with e; rw [← e]; have := hsz_4.out; omega)); have XS00_4 := Lib.hid hn; have A_4 := Lib.hid (A_3.out.below XB0_4.out); have B_4 := Lib.hid (B_3.out.below XB0_4.out); have C_4 := Lib.hid (C_3.out.below XB0_4.out); have x_4 := Lib.hid (x_3.out.below XB0_4.out); have y_4 := Lib.hid (y_3.out.below XB0_4.out); have z_4 := Lib.hid (z_3.out.below XB0_4.out); have W_4 := Lib.hid (W_3.out.trans (XB0_4.out.mono W_3.out.size)); have r_4 := XS00_4; clear hn hg A_3 B_3 C_3 x_3 y_3 z_3 W_3 XT0_4 XA_4 XS00_4 XB0_4 hsz_4) | (refine wpl_ldN ntNat rfl rfl rfl x_4.out ?_) | (refine wpl_ldN_g ntNat ?hw rfl rfl x_4.out ?_; (case hw => rfl)) | (refine wpl_ldN ntNat rfl rfl rfl y_4.out ?_) | (refine wpl_ldN_g ntNat ?hw rfl rfl y_4.out ?_; (case hw => rfl)) | (refine wpl_ldN ntNat rfl rfl rfl z_4.out ?_) | (refine wpl_ldN_g ntNat ?hw rfl rfl z_4.out ?_; (case hw => rfl)) | (refine wpl_ldN ntNat rfl rfl rfl r_4.out ?_) | (refine wpl_ldN_g ntNat ?hw rfl rfl r_4.out ?_; (case hw => rfl)))
  refine (madd_ok _ HFz.out H0.out HFx.out HFy.out Es.out).mono ?_
  rintro e p5 ⟨rfl, hb⟩
  have XT0_5 := Lib.hid (NatAt.zero p5)
  have XA_5 := Lib.hid (below_zero hb hb.size)
  have hsz_5 := Lib.hid hb.size
  clear hb
  go_wp2_with (first | go_skip | (refine wpl_stN ntNat rfl rfl rfl rfl XT0_5.out ?_; intro q5 hn hg; have XB0_5 := Lib.hid (XA_5.out.grown hg XA_5.out.size (fun j e => by injection e with e; rw [← e]; have := hsz_5.out; omega)); have XS00_5 := Lib.hid hn; have A_5 := Lib.hid (A_4.out.below XB0_5.out); have B_5 := Lib.hid (B_4.out.below XB0_5.out); have C_5 := Lib.hid (C_4.out.below XB0_5.out); have x_5 := Lib.hid (x_4.out.below XB0_5.out); have y_5 := Lib.hid (y_4.out.below XB0_5.out); have z_5 := Lib.hid (z_4.out.below XB0_5.out); have r_5 := Lib.hid (r_4.out.below XB0_5.out); have W_5 := Lib.hid (W_4.out.trans (XB0_5.out.mono W_4.out.size)); have s_5 := XS00_5; clear hn hg A_4 B_4 C_4 x_4 y_4 z_4 r_4 W_4 XT0_5 XA_5 XS00_5 XB0_5 hsz_5) | (refine wpl_ldN ntNat rfl rfl rfl x_5.out ?_) | (refine wpl_ldN_g ntNat ?hw rfl rfl x_5.out ?_; (case hw => rfl)) | (refine wpl_ldN ntNat rfl rfl rfl y_5.out ?_) | (refine wpl_ldN_g ntNat ?hw rfl rfl y_5.out ?_; (case hw => rfl)) | (refine wpl_ldN ntNat rfl rfl rfl z_5.out ?_) | (refine wpl_ldN_g ntNat ?hw rfl rfl z_5.out ?_; (case hw => rfl)) | (refine wpl_ldN ntNat rfl rfl rfl r_5.out ?_) | (refine wpl_ldN_g ntNat ?hw rfl rfl r_5.out ?_; (case hw => rfl)) | (refine wpl_ldN ntNat rfl rfl rfl s_5.out ?_) | (refine wpl_ldN_g ntNat ?hw rfl rfl s_5.out ?_; (case hw => rfl)))
  refine (msub_ok _ HFz.out H0.out HFx.out HFy.out Ed.out).mono ?_
  rintro e p6 ⟨rfl, hb⟩
  have XT0_6 := Lib.hid (NatAt.zero p6)
  have XA_6 := Lib.hid (below_zero hb hb.size)
  have hsz_6 := Lib.hid hb.size
  clear hb
  go_wp2_with (first | go_skip | (refine wpl_stN ntNat rfl rfl rfl rfl XT0_6.out ?_; intro q6 hn hg; have XB0_6 := Lib.hid (XA_6.out.grown hg XA_6.out.size (fun j e => by injection e with e; rw [← e]; have := hsz_6.out; omega)); have XS00_6 := Lib.hid hn; have A_6 := Lib.hid (A_5.out.below XB0_6.out); have B_6 := Lib.hid (B_5.out.below XB0_6.out); have C_6 := Lib.hid (C_5.out.below XB0_6.out); have x_6 := Lib.hid (x_5.out.below XB0_6.out); have y_6 := Lib.hid (y_5.out.below XB0_6.out); have z_6 := Lib.hid (z_5.out.below XB0_6.out); have r_6 := Lib.hid (r_5.out.below XB0_6.out); have s_6 := Lib.hid (s_5.out.below XB0_6.out); have W_6 := Lib.hid (W_5.out.trans (XB0_6.out.mono W_5.out.size)); have d_6 := XS00_6; clear hn hg A_5 B_5 C_5 x_5 y_5 z_5 r_5 s_5 W_5 XT0_6 XA_6 XS00_6 XB0_6 hsz_6) | (refine wpl_ldN ntNat rfl rfl rfl x_6.out ?_) | (refine wpl_ldN_g ntNat ?hw rfl rfl x_6.out ?_; (case hw => rfl)) | (refine wpl_ldN ntNat rfl rfl rfl y_6.out ?_) | (refine wpl_ldN_g ntNat ?hw rfl rfl y_6.out ?_; (case hw => rfl)) | (refine wpl_ldN ntNat rfl rfl rfl z_6.out ?_) | (refine wpl_ldN_g ntNat ?hw rfl rfl z_6.out ?_; (case hw => rfl)) | (refine wpl_ldN ntNat rfl rfl rfl r_6.out ?_) | (refine wpl_ldN_g ntNat ?hw rfl rfl r_6.out ?_; (case hw => rfl)) | (refine wpl_ldN ntNat rfl rfl rfl s_6.out ?_) | (refine wpl_ldN_g ntNat ?hw rfl rfl s_6.out ?_; (case hw => rfl)) | (refine wpl_ldN ntNat rfl rfl rfl d_6.out ?_) | (refine wpl_ldN_g ntNat ?hw rfl rfl d_6.out ?_; (case hw => rfl)))
  clear x_6
  clear y_6
  clear z_6
  refine (from_any _ xc _ C_6.out (by have := HLz.out; omega)).mono ?_
  rintro e p7 ⟨v7, rfl, hv, hb, -⟩
  rw [HEz.out] at hv
  obtain ⟨As7, cs7, rfl, -⟩ := Lst.len hv
  have A_7 := Lib.hid (A_6.out.below hb)
  have B_7 := Lib.hid (B_6.out.below hb)
  have C_7 := Lib.hid (C_6.out.below hb)
  have r_7 := Lib.hid (r_6.out.below hb)
  have s_7 := Lib.hid (s_6.out.below hb)
  have d_7 := Lib.hid (d_6.out.below hb)
  have W_7 := Lib.hid (W_6.out.trans (hb.mono W_6.out.size))
  have M_7 := Lib.hid hv
  clear hv hb A_6 B_6 C_6 r_6 s_6 d_6 W_6
  go_wp2_with (first | go_skip | (refine wpl_ldN ntNat rfl rfl rfl r_7.out ?_) | (refine wpl_ldN_g ntNat ?hw rfl rfl r_7.out ?_; (case hw => rfl)) | (refine wpl_ldN ntNat rfl rfl rfl s_7.out ?_) | (refine wpl_ldN_g ntNat ?hw rfl rfl s_7.out ?_; (case hw => rfl)) | (refine wpl_ldN ntNat rfl rfl rfl d_7.out ?_) | (refine wpl_ldN_g ntNat ?hw rfl rfl d_7.out ?_; (case hw => rfl)))
  refine (from_any _ xa _ A_7.out (by have := HLx.out; omega)).mono ?_
  rintro e p8 ⟨v8, rfl, hv, hb, ho8⟩
  have A_8 := Lib.hid (A_7.out.below hb)
  have B_8 := Lib.hid (B_7.out.below hb)
  have C_8 := Lib.hid (C_7.out.below hb)
  have r_8 := Lib.hid (r_7.out.below hb)
  have s_8 := Lib.hid (s_7.out.below hb)
  have d_8 := Lib.hid (d_7.out.below hb)
  have M_8 := Lib.hid (M_7.out.below hb)
  have W_8 := Lib.hid (W_7.out.trans (hb.mono W_7.out.size))
  clear hb ho8 A_7 B_7 C_7 r_7 s_7 d_7 M_7 W_7
  rw [HEx.out] at hv
  have P_8 := Lib.hid hv
  clear hv
  go_wp2_with (first | go_skip | (refine wpl_ldN ntNat rfl rfl rfl r_8.out ?_) | (refine wpl_ldN_g ntNat ?hw rfl rfl r_8.out ?_; (case hw => rfl)) | (refine wpl_ldN ntNat rfl rfl rfl s_8.out ?_) | (refine wpl_ldN_g ntNat ?hw rfl rfl s_8.out ?_; (case hw => rfl)) | (refine wpl_ldN ntNat rfl rfl rfl d_8.out ?_) | (refine wpl_ldN_g ntNat ?hw rfl rfl d_8.out ?_; (case hw => rfl)))
  refine (from_any _ xb _ B_8.out (by have := HLy.out; omega)).mono ?_
  rintro e p9 ⟨v9, rfl, hv, hb, ho9⟩
  have A_9 := Lib.hid (A_8.out.below hb)
  have B_9 := Lib.hid (B_8.out.below hb)
  have C_9 := Lib.hid (C_8.out.below hb)
  have r_9 := Lib.hid (r_8.out.below hb)
  have s_9 := Lib.hid (s_8.out.below hb)
  have d_9 := Lib.hid (d_8.out.below hb)
  have M_9 := Lib.hid (M_8.out.below hb)
  have P_9 := Lib.hid (P_8.out.below hb)
  have W_9 := Lib.hid (W_8.out.trans (hb.mono W_8.out.size))
  clear hb ho9 A_8 B_8 C_8 r_8 s_8 d_8 M_8 P_8 W_8
  rw [HEy.out] at hv
  have Q_9 := Lib.hid hv
  clear hv
  go_wp2_with (first | go_skip | (refine wpl_ldN ntNat rfl rfl rfl r_9.out ?_) | (refine wpl_ldN_g ntNat ?hw rfl rfl r_9.out ?_; (case hw => rfl)) | (refine wpl_ldN ntNat rfl rfl rfl s_9.out ?_) | (refine wpl_ldN_g ntNat ?hw rfl rfl s_9.out ?_; (case hw => rfl)) | (refine wpl_ldN ntNat rfl rfl rfl d_9.out ?_) | (refine wpl_ldN_g ntNat ?hw rfl rfl d_9.out ?_; (case hw => rfl)))
  clear A_9
  clear B_9
  clear C_9
  refine region_road Later [(0, true), (1, true), (2, true), (3, true), (4, true), (5, true), (6, true), (7, true), (8, true), (9, true), (10, true), (11, true), (12, true), (13, true), (14, false), (15, false), (16, true), (17, true), (18, true), (19, true), (20, true), (21, true), (22, false), (23, false), (24, true), (25, true), (26, true), (27, true), (28, true), (29, true), (30, false), (31, false), (32, true), (33, true), (34, false), (35, true), (36, true)] (by kernel_rfl) (by kernel_rfl) (by kernel_rfl) (by kernel_rfl) (by kernel_rfl) (by kernel_rfl) later_refl later_trans (fun _ _ d _ _ h => by cases d <;> exact h) ?_
  have r_10 := Lib.hid (r_9.out.below ((Below.refl p9.heap.size p9).drew))
  have s_10 := Lib.hid (s_9.out.below ((Below.refl p9.heap.size p9).drew))
  have d_10 := Lib.hid (d_9.out.below ((Below.refl p9.heap.size p9).drew))
  have M_10 := Lib.hid (M_9.out.below ((Below.refl p9.heap.size p9).drew))
  have P_10 := Lib.hid (P_9.out.below ((Below.refl p9.heap.size p9).drew))
  have Q_10 := Lib.hid (Q_9.out.below ((Below.refl p9.heap.size p9).drew))
  have W_10 := Lib.hid (W_9.out.trans (((Below.refl p9.heap.size p9).drew).mono W_9.out.size))
  clear r_9 s_9 d_9 M_9 P_9 Q_9 W_9
  generalize p9.drew = d10 at r_10 s_10 d_10 M_10 P_10 Q_10 W_10 ⊢
  refine seqR_at (o := ?_) ?_ ?_
  rotate_left
  · (conv => (lhs; whnf; arg 1; whnf))
  refine seqR_y (v := ?_) (by rfl) (fun W hW => ?_) ?_
  rotate_left
  · go_simp; try with_reducible rfl
  try simp only [Act.put, List.setIfInBounds_toArray, List.set_cons_zero, List.set_cons_succ]
  refine seqR_at (o := ?_) ?_ ?_
  rotate_left
  · (conv => (lhs; whnf; arg 1; whnf))
  refine seqR_y (v := ?_) (by rfl) (fun W hW => ?_) ?_
  rotate_left
  · go_simp; try with_reducible rfl
  try simp only [Act.put, List.setIfInBounds_toArray, List.set_cons_zero, List.set_cons_succ]
  refine seqR_at (o := ?_) ?_ ?_
  rotate_left
  · (conv => (lhs; whnf; arg 1; whnf))
  refine seqR_y (v := ?_) (by rfl) (fun W hW => ?_) ?_
  rotate_left
  · go_simp; try with_reducible rfl
  try simp only [Act.put, List.setIfInBounds_toArray, List.set_cons_zero, List.set_cons_succ]
  refine seqR_at (o := ?_) ?_ ?_
  rotate_left
  · (conv => (lhs; whnf; arg 1; whnf))
  refine seqR_y (v := ?_) (by rfl) (fun W hW => ?_) ?_
  rotate_left
  · go_simp; try with_reducible rfl
  try simp only [Act.put, List.setIfInBounds_toArray, List.set_cons_zero, List.set_cons_succ]
  refine seqR_at (o := ?_) ?_ ?_
  rotate_left
  · (conv => (lhs; whnf; arg 1; whnf))
  refine seqR_y (v := ?_) (by rfl) (fun W hW => ?_) ?_
  rotate_left
  · go_simp; try with_reducible rfl
  try simp only [Act.put, List.setIfInBounds_toArray, List.set_cons_zero, List.set_cons_succ]
  refine seqR_at (o := ?_) ?_ ?_
  rotate_left
  · (conv => (lhs; whnf; arg 1; whnf))
  refine seqR_y (v := ?_) (by rfl) (fun W hW => ?_) ?_
  rotate_left
  · go_simp; try with_reducible rfl
  try simp only [Act.put, List.setIfInBounds_toArray, List.set_cons_zero, List.set_cons_succ]
  refine seqR_at (o := ?_) ?_ ?_
  rotate_left
  · (conv => (lhs; whnf; arg 1; whnf))
  refine seqR_y (v := ?_) (by rfl) (fun W hW => ?_) ?_
  rotate_left
  · go_simp; try with_reducible rfl
  try simp only [Act.put, List.setIfInBounds_toArray, List.set_cons_zero, List.set_cons_succ]
  refine seqR_at (o := ?_) ?_ ?_
  rotate_left
  · (conv => (lhs; whnf; arg 1; whnf))
  refine seqR_y (v := ?_) (by rfl) (fun W hW => ?_) ?_
  rotate_left
  · go_simp; try with_reducible rfl
  try simp only [Act.put, List.setIfInBounds_toArray, List.set_cons_zero, List.set_cons_succ]
  refine seqR_at (o := ?_) ?_ ?_
  rotate_left
  · (conv => (lhs; whnf; arg 1; whnf))
  refine seqR_y (v := ?_) (by rfl) (fun W hW => ?_) ?_
  rotate_left
  · go_simp; try with_reducible rfl
  try simp only [Act.put, List.setIfInBounds_toArray, List.set_cons_zero, List.set_cons_succ]
  refine seqR_at (o := ?_) ?_ ?_
  rotate_left
  · (conv => (lhs; whnf; arg 1; whnf))
  refine seqR_y (v := ?_) (by rfl) (fun W hW => ?_) ?_
  rotate_left
  · go_simp; try with_reducible rfl
  try simp only [Act.put, List.setIfInBounds_toArray, List.set_cons_zero, List.set_cons_succ]
  refine seqR_at (o := ?_) ?_ ?_
  rotate_left
  · (conv => (lhs; whnf; arg 1; whnf))
  refine seqR_y (v := ?_) (by rfl) (fun W hW => ?_) ?_
  rotate_left
  · go_simp; try with_reducible rfl
  try simp only [Act.put, List.setIfInBounds_toArray, List.set_cons_zero, List.set_cons_succ]
  refine seqR_at (o := ?_) ?_ ?_
  rotate_left
  · (conv => (lhs; whnf; arg 1; whnf))
  refine seqR_y (v := ?_) (by rfl) (fun W hW => ?_) ?_
  rotate_left
  · (refine exec_ldN (x := .tmp 10) ntNat ?_ ?_ (r_10.out.below hW)) <;> rfl
  try simp only [Act.put, List.setIfInBounds_toArray, List.set_cons_zero, List.set_cons_succ]
  refine seqR_at (o := ?_) ?_ ?_
  rotate_left
  · (conv => (lhs; whnf; arg 1; whnf))
  refine seqR_y (v := ?_) (by rfl) (fun W hW => ?_) ?_
  rotate_left
  · go_simp; try with_reducible rfl
  try simp only [Act.put, List.setIfInBounds_toArray, List.set_cons_zero, List.set_cons_succ]
  refine seqR_at (o := ?_) ?_ ?_
  rotate_left
  · (conv => (lhs; whnf; arg 1; whnf))
  refine seqR_y (v := ?_) (by rfl) (fun W hW => ?_) ?_
  rotate_left
  · go_simp; try with_reducible rfl
  try simp only [Act.put, List.setIfInBounds_toArray, List.set_cons_zero, List.set_cons_succ]
  refine seqR_at (o := ?_) ?_ ?_
  rotate_left
  · (conv => (lhs; whnf; arg 1; whnf))
  refine seqR_c (by rfl) (fun K hK => ?_)
  go_simp
  refine (rred_ok _ _ _ P_10.out M_10.out (Nat.le_trans HKx.out (by decide)) (Nat.le_trans HKz.out (by decide)) H0.out Er.out).mono ?_
  rintro e p11 ⟨v11, rfl, hv, hb⟩
  have r_11 := Lib.hid (r_10.out.below hb)
  have s_11 := Lib.hid (s_10.out.below hb)
  have d_11 := Lib.hid (d_10.out.below hb)
  have M_11 := Lib.hid (M_10.out.below hb)
  have P_11 := Lib.hid (P_10.out.below hb)
  have Q_11 := Lib.hid (Q_10.out.below hb)
  have W_11 := Lib.hid (W_10.out.trans (hb.mono W_10.out.size))
  refine hK _ _ hb ?_
  clear hK K hb r_10 s_10 d_10 M_10 P_10 Q_10 W_10
  have R1_11 := Lib.hid hv; clear hv
  try simp only [Act.put, List.setIfInBounds_toArray, List.set_cons_zero, List.set_cons_succ]
  refine seqR_at (o := ?_) ?_ ?_
  rotate_left
  · (conv => (lhs; whnf; arg 1; whnf))
  refine seqR_c (by rfl) (fun K hK => ?_)
  go_simp
  refine (same2_ok _ _ Fr.out R1_11.out Sr.out (decide_eq_true rfl)).mono ?_
  rintro e p12 ⟨rfl, hb⟩
  have r_12 := Lib.hid (r_11.out.below hb)
  have s_12 := Lib.hid (s_11.out.below hb)
  have d_12 := Lib.hid (d_11.out.below hb)
  have M_12 := Lib.hid (M_11.out.below hb)
  have P_12 := Lib.hid (P_11.out.below hb)
  have Q_12 := Lib.hid (Q_11.out.below hb)
  have R1_12 := Lib.hid (R1_11.out.below hb)
  have W_12 := Lib.hid (W_11.out.trans (hb.mono W_11.out.size))
  refine hK _ _ hb ?_
  clear hK K hb r_11 s_11 d_11 M_11 P_11 Q_11 R1_11 W_11
  try simp only [Act.put, List.setIfInBounds_toArray, List.set_cons_zero, List.set_cons_succ]
  refine seqR_at (o := ?_) ?_ ?_
  rotate_left
  · (conv => (lhs; whnf; arg 1; whnf))
  refine seqR_y (v := ?_) (by rfl) (fun W hW => ?_) ?_
  rotate_left
  · go_simp; try with_reducible rfl
  try simp only [Act.put, List.setIfInBounds_toArray, List.set_cons_zero, List.set_cons_succ]
  refine seqR_at (o := ?_) ?_ ?_
  rotate_left
  · (conv => (lhs; whnf; arg 1; whnf))
  refine seqR_y (v := ?_) (by rfl) (fun W hW => ?_) ?_
  rotate_left
  · go_simp; try with_reducible rfl
  try simp only [Act.put, List.setIfInBounds_toArray, List.set_cons_zero, List.set_cons_succ]
  refine seqR_at (o := ?_) ?_ ?_
  rotate_left
  · (conv => (lhs; whnf; arg 1; whnf))
  refine seqR_y (v := ?_) (by rfl) (fun W hW => ?_) ?_
  rotate_left
  · (refine exec_ldN (x := .tmp 12) ntNat ?_ ?_ (s_12.out.below hW)) <;> rfl
  try simp only [Act.put, List.setIfInBounds_toArray, List.set_cons_zero, List.set_cons_succ]
  refine seqR_at (o := ?_) ?_ ?_
  rotate_left
  · (conv => (lhs; whnf; arg 1; whnf))
  refine seqR_y (v := ?_) (by rfl) (fun W hW => ?_) ?_
  rotate_left
  · go_simp; try with_reducible rfl
  try simp only [Act.put, List.setIfInBounds_toArray, List.set_cons_zero, List.set_cons_succ]
  refine seqR_at (o := ?_) ?_ ?_
  rotate_left
  · (conv => (lhs; whnf; arg 1; whnf))
  refine seqR_y (v := ?_) (by rfl) (fun W hW => ?_) ?_
  rotate_left
  · go_simp; try with_reducible rfl
  try simp only [Act.put, List.setIfInBounds_toArray, List.set_cons_zero, List.set_cons_succ]
  refine seqR_at (o := ?_) ?_ ?_
  rotate_left
  · (conv => (lhs; whnf; arg 1; whnf))
  refine seqR_y (v := ?_) (by rfl) (fun W hW => ?_) ?_
  rotate_left
  · go_simp; try with_reducible rfl
  try simp only [Act.put, List.setIfInBounds_toArray, List.set_cons_zero, List.set_cons_succ]
  refine seqR_at (o := ?_) ?_ ?_
  rotate_left
  · (conv => (lhs; whnf; arg 1; whnf))
  refine seqR_c (by rfl) (fun K hK => ?_)
  go_simp
  refine (rmadd_ok _ _ _ _ P_12.out Q_12.out M_12.out HKx.out HKy.out HKz.out H0.out Es.out).mono ?_
  rintro e p13 ⟨v13, rfl, hv, hb⟩
  have r_13 := Lib.hid (r_12.out.below hb)
  have s_13 := Lib.hid (s_12.out.below hb)
  have d_13 := Lib.hid (d_12.out.below hb)
  have M_13 := Lib.hid (M_12.out.below hb)
  have P_13 := Lib.hid (P_12.out.below hb)
  have Q_13 := Lib.hid (Q_12.out.below hb)
  have R1_13 := Lib.hid (R1_12.out.below hb)
  have W_13 := Lib.hid (W_12.out.trans (hb.mono W_12.out.size))
  refine hK _ _ hb ?_
  clear hK K hb r_12 s_12 d_12 M_12 P_12 Q_12 R1_12 W_12
  have R2_13 := Lib.hid hv; clear hv
  try simp only [Act.put, List.setIfInBounds_toArray, List.set_cons_zero, List.set_cons_succ]
  refine seqR_at (o := ?_) ?_ ?_
  rotate_left
  · (conv => (lhs; whnf; arg 1; whnf))
  refine seqR_c (by rfl) (fun K hK => ?_)
  go_simp
  refine (same2_ok _ _ Fs.out R2_13.out Ss.out (decide_eq_true rfl)).mono ?_
  rintro e p14 ⟨rfl, hb⟩
  have r_14 := Lib.hid (r_13.out.below hb)
  have s_14 := Lib.hid (s_13.out.below hb)
  have d_14 := Lib.hid (d_13.out.below hb)
  have M_14 := Lib.hid (M_13.out.below hb)
  have P_14 := Lib.hid (P_13.out.below hb)
  have Q_14 := Lib.hid (Q_13.out.below hb)
  have R1_14 := Lib.hid (R1_13.out.below hb)
  have R2_14 := Lib.hid (R2_13.out.below hb)
  have W_14 := Lib.hid (W_13.out.trans (hb.mono W_13.out.size))
  refine hK _ _ hb ?_
  clear hK K hb r_13 s_13 d_13 M_13 P_13 Q_13 R1_13 R2_13 W_13
  try simp only [Act.put, List.setIfInBounds_toArray, List.set_cons_zero, List.set_cons_succ]
  refine seqR_at (o := ?_) ?_ ?_
  rotate_left
  · (conv => (lhs; whnf; arg 1; whnf))
  refine seqR_y (v := ?_) (by rfl) (fun W hW => ?_) ?_
  rotate_left
  · go_simp; try with_reducible rfl
  try simp only [Act.put, List.setIfInBounds_toArray, List.set_cons_zero, List.set_cons_succ]
  refine seqR_at (o := ?_) ?_ ?_
  rotate_left
  · (conv => (lhs; whnf; arg 1; whnf))
  refine seqR_y (v := ?_) (by rfl) (fun W hW => ?_) ?_
  rotate_left
  · go_simp; try with_reducible rfl
  try simp only [Act.put, List.setIfInBounds_toArray, List.set_cons_zero, List.set_cons_succ]
  refine seqR_at (o := ?_) ?_ ?_
  rotate_left
  · (conv => (lhs; whnf; arg 1; whnf))
  refine seqR_y (v := ?_) (by rfl) (fun W hW => ?_) ?_
  rotate_left
  · (refine exec_ldN (x := .tmp 14) ntNat ?_ ?_ (d_14.out.below hW)) <;> rfl
  try simp only [Act.put, List.setIfInBounds_toArray, List.set_cons_zero, List.set_cons_succ]
  refine seqR_at (o := ?_) ?_ ?_
  rotate_left
  · (conv => (lhs; whnf; arg 1; whnf))
  refine seqR_y (v := ?_) (by rfl) (fun W hW => ?_) ?_
  rotate_left
  · go_simp; try with_reducible rfl
  try simp only [Act.put, List.setIfInBounds_toArray, List.set_cons_zero, List.set_cons_succ]
  refine seqR_at (o := ?_) ?_ ?_
  rotate_left
  · (conv => (lhs; whnf; arg 1; whnf))
  refine seqR_y (v := ?_) (by rfl) (fun W hW => ?_) ?_
  rotate_left
  · go_simp; try with_reducible rfl
  try simp only [Act.put, List.setIfInBounds_toArray, List.set_cons_zero, List.set_cons_succ]
  refine seqR_at (o := ?_) ?_ ?_
  rotate_left
  · (conv => (lhs; whnf; arg 1; whnf))
  refine seqR_y (v := ?_) (by rfl) (fun W hW => ?_) ?_
  rotate_left
  · go_simp; try with_reducible rfl
  try simp only [Act.put, List.setIfInBounds_toArray, List.set_cons_zero, List.set_cons_succ]
  refine seqR_at (o := ?_) ?_ ?_
  rotate_left
  · (conv => (lhs; whnf; arg 1; whnf))
  refine seqR_c (by rfl) (fun K hK => ?_)
  go_simp
  refine (rmsub_ok _ _ _ _ P_14.out Q_14.out M_14.out HKx.out HKy.out HKz.out H0.out Ed.out).mono ?_
  rintro e p15 ⟨v15, rfl, hv, hb⟩
  have r_15 := Lib.hid (r_14.out.below hb)
  have s_15 := Lib.hid (s_14.out.below hb)
  have d_15 := Lib.hid (d_14.out.below hb)
  have M_15 := Lib.hid (M_14.out.below hb)
  have P_15 := Lib.hid (P_14.out.below hb)
  have Q_15 := Lib.hid (Q_14.out.below hb)
  have R1_15 := Lib.hid (R1_14.out.below hb)
  have R2_15 := Lib.hid (R2_14.out.below hb)
  have W_15 := Lib.hid (W_14.out.trans (hb.mono W_14.out.size))
  refine hK _ _ hb ?_
  clear hK K hb r_14 s_14 d_14 M_14 P_14 Q_14 R1_14 R2_14 W_14
  have R3_15 := Lib.hid hv; clear hv
  try simp only [Act.put, List.setIfInBounds_toArray, List.set_cons_zero, List.set_cons_succ]
  refine seqR_at (o := ?_) ?_ ?_
  rotate_left
  · (conv => (lhs; whnf; arg 1; whnf))
  refine seqR_c (by rfl) (fun K hK => ?_)
  go_simp
  refine (same2_ok _ _ Fd.out R3_15.out Sd.out (decide_eq_true rfl)).mono ?_
  rintro e p16 ⟨rfl, hb⟩
  have r_16 := Lib.hid (r_15.out.below hb)
  have s_16 := Lib.hid (s_15.out.below hb)
  have d_16 := Lib.hid (d_15.out.below hb)
  have M_16 := Lib.hid (M_15.out.below hb)
  have P_16 := Lib.hid (P_15.out.below hb)
  have Q_16 := Lib.hid (Q_15.out.below hb)
  have R1_16 := Lib.hid (R1_15.out.below hb)
  have R2_16 := Lib.hid (R2_15.out.below hb)
  have R3_16 := Lib.hid (R3_15.out.below hb)
  have W_16 := Lib.hid (W_15.out.trans (hb.mono W_15.out.size))
  refine hK _ _ hb ?_
  clear hK K hb r_15 s_15 d_15 M_15 P_15 Q_15 R1_15 R2_15 R3_15 W_15
  try simp only [Act.put, List.setIfInBounds_toArray, List.set_cons_zero, List.set_cons_succ]
  refine seqR_at (o := ?_) ?_ ?_
  rotate_left
  · (conv => (lhs; whnf; arg 1; whnf))
  refine seqR_y (v := ?_) (by rfl) (fun W hW => ?_) ?_
  rotate_left
  · go_simp; try with_reducible rfl
  try simp only [Act.put, List.setIfInBounds_toArray, List.set_cons_zero, List.set_cons_succ]
  refine seqR_at (o := ?_) ?_ ?_
  rotate_left
  · (conv => (lhs; whnf; arg 1; whnf))
  refine seqR_y (v := ?_) (by rfl) (fun W hW => ?_) ?_
  rotate_left
  · go_simp; try with_reducible rfl
  try simp only [Act.put, List.setIfInBounds_toArray, List.set_cons_zero, List.set_cons_succ]
  refine seqR_at (o := ?_) ?_ ?_
  rotate_left
  · (conv => (lhs; whnf; arg 1; whnf))
  refine seqR_c (by rfl) (fun K hK => ?_)
  go_simp
  refine (known2_any _).mono ?_
  rintro e p17 ⟨rfl, hb⟩
  have r_17 := Lib.hid (r_16.out.below hb)
  have s_17 := Lib.hid (s_16.out.below hb)
  have d_17 := Lib.hid (d_16.out.below hb)
  have M_17 := Lib.hid (M_16.out.below hb)
  have P_17 := Lib.hid (P_16.out.below hb)
  have Q_17 := Lib.hid (Q_16.out.below hb)
  have R1_17 := Lib.hid (R1_16.out.below hb)
  have R2_17 := Lib.hid (R2_16.out.below hb)
  have R3_17 := Lib.hid (R3_16.out.below hb)
  have W_17 := Lib.hid (W_16.out.trans (hb.mono W_16.out.size))
  refine hK _ _ hb ?_
  clear hK K hb r_16 s_16 d_16 M_16 P_16 Q_16 R1_16 R2_16 R3_16 W_16
  try simp only [Act.put, List.setIfInBounds_toArray, List.set_cons_zero, List.set_cons_succ]
  refine seqR_at (o := ?_) ?_ ?_
  rotate_left
  · (conv => (lhs; whnf; arg 1; whnf))
  refine seqR_y (v := ?_) (by rfl) (fun W hW => ?_) ?_
  rotate_left
  · go_simp; try with_reducible rfl
  try simp only [Act.put, List.setIfInBounds_toArray, List.set_cons_zero, List.set_cons_succ]
  refine seqR_at (o := ?_) ?_ ?_
  rotate_left
  · (conv => (lhs; whnf; arg 1; whnf))
  refine seqR_y (v := ?_) (by rfl) (fun W hW => ?_) ?_
  rotate_left
  · go_simp; try with_reducible rfl
  try simp only [Act.put, List.setIfInBounds_toArray, List.set_cons_zero, List.set_cons_succ]
  refine seqR_end ?_
  go_wp2_with (first | go_skip | (refine wpl_ldN ntNat rfl rfl rfl r_17.out ?_) | (refine wpl_ldN_g ntNat ?hw rfl rfl r_17.out ?_; (case hw => rfl)) | (refine wpl_ldN ntNat rfl rfl rfl s_17.out ?_) | (refine wpl_ldN_g ntNat ?hw rfl rfl s_17.out ?_; (case hw => rfl)) | (refine wpl_ldN ntNat rfl rfl rfl d_17.out ?_) | (refine wpl_ldN_g ntNat ?hw rfl rfl d_17.out ?_; (case hw => rfl)))
  go_ret
  exact ⟨rfl, W_17.out⟩

set_option maxHeartbeats 3200000 in
theorem msums_any (va : Value) (xa : List UInt8) (vb : Value) (xb : List UInt8) (vc : Value) (xc : List UInt8) (w : World) (ha : Byt w va xa) (hb : Byt w vb xb) (hc : Byt w vc xc) :
    Calls Try.prog 9 #[va, vb, vc] w fun e w' => e = .returned (.bool true) ∧ Below w.heap.size w w' := by
  have HA := Lib.hid ha
  have HB := Lib.hid hb
  have HC := Lib.hid hc
  obtain ⟨A, c, rfl, -⟩ := ha.len
  obtain ⟨B, d, rfl, -⟩ := hb.len
  obtain ⟨C, cc, rfl, -⟩ := hc.len
  clear ha hb hc
  by_cases hl0 : 128 < xa.length
  · have d0 : decide (128 < (xa.length : Int)) = true := decide_eq_true (by omega)
    clear hl0
    go_enter Try.func9, Try.ntmps9
    go_wp2_with fail
    refine (known2_any w).mono ?_
    rintro e w1 ⟨rfl, hb⟩
    have HB := Lib.hid hb
    clear hb
    go_wp2_with fail
    go_ret
    exact ⟨rfl, HB.out⟩
  · have d0 : decide (128 < (xa.length : Int)) = false := decide_eq_false (by omega)
    have ll0 : xa.length ≤ 128 := by omega
    clear hl0
    by_cases hl1 : 128 < xb.length
    · have d1 : decide (128 < (xb.length : Int)) = true := decide_eq_true (by omega)
      clear hl1 ll0
      go_enter Try.func9, Try.ntmps9
      go_wp2_with fail
      refine (known2_any w).mono ?_
      rintro e w1 ⟨rfl, hb⟩
      have HB := Lib.hid hb
      clear hb
      go_wp2_with fail
      go_ret
      exact ⟨rfl, HB.out⟩
    · have d1 : decide (128 < (xb.length : Int)) = false := decide_eq_false (by omega)
      have ll1 : xb.length ≤ 128 := by omega
      clear hl1
      by_cases hl2 : 128 < xc.length
      · have d2 : decide (128 < (xc.length : Int)) = true := decide_eq_true (by omega)
        clear hl2 ll0 ll1
        go_enter Try.func9, Try.ntmps9
        go_wp2_with fail
        refine (known2_any w).mono ?_
        rintro e w1 ⟨rfl, hb⟩
        have HB := Lib.hid hb
        clear hb
        go_wp2_with fail
        go_ret
        exact ⟨rfl, HB.out⟩
      · have d2 : decide (128 < (xc.length : Int)) = false := decide_eq_false (by omega)
        have ll2 : xc.length ≤ 128 := by omega
        clear hl2
        by_cases h0 : numN xc = 0
        · exact msums_z _ xa _ xb _ xc w HA.out HB.out HC.out ll0 ll1 ll2 _ _ _ rfl rfl rfl h0
        · exact msums_n _ xa _ xb _ xc w HA.out HB.out HC.out ll0 ll1 ll2 _ _ _ rfl rfl rfl h0

end Go.Proofs.Ytfmadiepefbepaa
