/- Walk: the law ModularInverses (printed by genmodlaw.py). -/
import Derived.Test.YtfmadiepefbepaaModO
set_option linter.unusedVariables false
set_option linter.unusedSimpArgs false
set_option maxRecDepth 100000
namespace Go.Proofs.Ytfmadiepefbepaa
open Go.RowKit

theorem invF_lt {m : Nat} (hm : 0 < m) : ∀ (f r s x y : Nat), x < m → y < m → (invF m f r s x y).2 < m
  | 0, r, s, x, y, hx, hy => by unfold invF; exact hx
  | f + 1, r, s, x, y, hx, hy => by
    by_cases h : s = 0
    · rw [h, invF_zero]; exact hx
    · rw [invF_step h]
      exact invF_lt hm f _ _ _ _ hy (Nat.mod_lt _ hm)
theorem invS_lt {m a r x : Nat} (hm : m ≠ 0) (h : invS m a = (r, x)) : x < m := by
  have h1 := invF_lt (Nat.pos_of_ne_zero hm) (a % m) m (a % m) 0 (1 % m) (Nat.pos_of_ne_zero hm) (Nat.mod_lt _ (Nat.pos_of_ne_zero hm))
  have h2 : invF m (a % m) m (a % m) 0 (1 % m) = (r, x) := h
  rwa [h2] at h1
theorem rinverse_is {m a x : Nat} (u z : Value) (w : World) (hu : Lst w u a) (hz : Lst w z m) (ha : c16 a ≤ 1000) (hm : c16 m ≤ 1000) (h0 : m ≠ 0) (hr : invS m a = (1, x)) :
    Calls Try.prog 28 #[u, z] w fun e w' => ∃ v, e = .returned (.tuple #[v, .bool true]) ∧ Lst w' v x ∧ Below w.heap.size w w' := by
  refine (rinverse_ok u z w hu hz ha hm h0 hr).mono ?_
  rintro e w' ⟨⟨v, rfl, hv⟩, hb⟩
  exact ⟨v, rfl, hv rfl, hb⟩
theorem rinverse_no {m a r x : Nat} (u z : Value) (w : World) (hu : Lst w u a) (hz : Lst w z m) (ha : c16 a ≤ 1000) (hm : c16 m ≤ 1000) (h0 : m ≠ 0) (hr : invS m a = (r, x)) (h1 : r ≠ 1) :
    Calls Try.prog 28 #[u, z] w fun e w' => ∃ v, e = .returned (.tuple #[v, .bool false]) ∧ Below w.heap.size w w' := by
  refine (rinverse_ok u z w hu hz ha hm h0 hr).mono ?_
  rintro e w' ⟨⟨v, rfl, hv⟩, hb⟩
  exact ⟨v, by rw [decide_eq_false h1], hb⟩

set_option maxHeartbeats 12800000 in
theorem minv_z (va : Value) (xa : List UInt8) (vc : Value) (xc : List UInt8) (w : World) (ha : Byt w va xa) (hc : Byt w vc xc) (la : xa.length ≤ 24) (lc : xc.length ≤ 24) (x z : Nat) (ex : numN xa = x) (ez : numN xc = z) (h0 : z = 0) :
    Calls Try.prog 7 #[va, vc] w fun e w' => e = .returned (.bool true) ∧ Below w.heap.size w w' := by
  have Ha := Lib.hid ha
  obtain ⟨Aa, ca, rfl, -⟩ := ha.len
  have HLx : Hid (xa.length ≤ 200) := Lib.hid (by omega)
  have HSx := Lib.hid (sz_num HLx.out)
  have HFx := Lib.hid (fit_num (xs := xa) (by omega))
  have HCx := Lib.hid (c16_num HLx.out)
  rw [ex] at HSx HFx HCx
  have HEx := Lib.hid ex
  have HKx : Hid (c16 x ≤ 1000) := Lib.hid (Nat.le_trans HCx.out (by decide))
  have Hc := Lib.hid hc
  obtain ⟨Ac, cc, rfl, -⟩ := hc.len
  have HLz : Hid (xc.length ≤ 200) := Lib.hid (by omega)
  have HSz := Lib.hid (sz_num HLz.out)
  have HFz := Lib.hid (fit_num (xs := xc) (by omega))
  have HCz := Lib.hid (c16_num HLz.out)
  rw [ez] at HSz HFz HCz
  have HEz := Lib.hid ez
  have HKz : Hid (c16 z ≤ 1000) := Lib.hid (Nat.le_trans HCz.out (by decide))
  have d0 : decide (24 < (xa.length : Int)) = false := decide_eq_false (by omega)
  have d1 : decide (24 < (xc.length : Int)) = false := decide_eq_false (by omega)
  have H0 := Lib.hid h0
  have d4 : (((c16 z : Nat) : Int) == 0) = true := by rw [h0]; rfl
  clear ha hc la lc ex ez h0
  go_enter Try.func7, Try.ntmps7
  go_wp2_with fail
  refine (made2_ok _ _ Ha.out HLx.out HEx.out HFx.out).mono ?_
  rintro e p1 ⟨rfl, hb⟩
  have A_1 := Lib.hid (Ha.out.below hb)
  have C_1 := Lib.hid (Hc.out.below hb)
  have W_1 := Lib.hid (hb)
  clear hb Ha Hc
  go_wp2_with fail
  refine (made2_ok _ _ C_1.out HLz.out HEz.out HFz.out).mono ?_
  rintro e p2 ⟨rfl, hb⟩
  have A_2 := Lib.hid (A_1.out.below hb)
  have C_2 := Lib.hid (C_1.out.below hb)
  have W_2 := Lib.hid (W_1.out.trans (hb.mono W_1.out.size))
  clear hb A_1 C_1 W_1
  go_wp2_with fail
  refine (inverse_zero _ H0.out).mono ?_
  rintro e p3 ⟨rfl, hb⟩
  have XT0_3 := Lib.hid (NatAt.zero p3)
  have XA_3 := Lib.hid (below_zero hb hb.size)
  have hsz_3 := Lib.hid hb.size
  clear hb
  go_wp2_with (first | go_skip | (refine wpl_stN ntNat rfl rfl rfl rfl XT0_3.out ?_; intro q3 hn hg; have XB0_3 := Lib.hid (XA_3.out.grown hg XA_3.out.size (fun j e => by injection e with e; rw [← e]; have := hsz_3.out; omega)); have XS00_3 := Lib.hid hn; have A_3 := Lib.hid (A_2.out.below XB0_3.out); have C_3 := Lib.hid (C_2.out.below XB0_3.out); have W_3 := Lib.hid (W_2.out.trans (XB0_3.out.mono W_2.out.size)); have r_3 := XS00_3; clear hn hg A_2 C_2 W_2 XT0_3 XA_3 XS00_3 XB0_3 hsz_3) | (refine wpl_ldN ntNat rfl rfl rfl r_3.out ?_) | (refine wpl_ldN_g ntNat ?hw rfl rfl r_3.out ?_; (case hw => rfl)))
  refine (from_any _ xc _ C_3.out (by have := HLz.out; omega)).mono ?_
  rintro e p4 ⟨v4, rfl, hv, hb, -⟩
  rw [HEz.out] at hv
  obtain ⟨As4, cs4, rfl, -⟩ := Lst.len hv
  have A_4 := Lib.hid (A_3.out.below hb)
  have C_4 := Lib.hid (C_3.out.below hb)
  have r_4 := Lib.hid (r_3.out.below hb)
  have W_4 := Lib.hid (W_3.out.trans (hb.mono W_3.out.size))
  have M_4 := Lib.hid hv
  clear hv hb A_3 C_3 r_3 W_3
  go_wp2_with (first | go_skip | (refine wpl_ldN ntNat rfl rfl rfl r_4.out ?_) | (refine wpl_ldN_g ntNat ?hw rfl rfl r_4.out ?_; (case hw => rfl)))
  refine (isZero_zero _).mono ?_
  rintro e p5 ⟨rfl, hb⟩
  have A_5 := Lib.hid (A_4.out.below hb)
  have C_5 := Lib.hid (C_4.out.below hb)
  have r_5 := Lib.hid (r_4.out.below hb)
  have M_5 := Lib.hid (M_4.out.below hb)
  have W_5 := Lib.hid (W_4.out.trans (hb.mono W_4.out.size))
  clear hb A_4 C_4 r_4 M_4 W_4
  go_wp2_with (first | go_skip | (refine wpl_ldN ntNat rfl rfl rfl r_5.out ?_) | (refine wpl_ldN_g ntNat ?hw rfl rfl r_5.out ?_; (case hw => rfl)))
  refine (known2_any _).mono ?_
  rintro e p6 ⟨rfl, hb⟩
  have A_6 := Lib.hid (A_5.out.below hb)
  have C_6 := Lib.hid (C_5.out.below hb)
  have r_6 := Lib.hid (r_5.out.below hb)
  have M_6 := Lib.hid (M_5.out.below hb)
  have W_6 := Lib.hid (W_5.out.trans (hb.mono W_5.out.size))
  clear hb A_5 C_5 r_5 M_5 W_5
  go_wp2_with (first | go_skip | (refine wpl_ldN ntNat rfl rfl rfl r_6.out ?_) | (refine wpl_ldN_g ntNat ?hw rfl rfl r_6.out ?_; (case hw => rfl)))
  go_ret
  exact ⟨rfl, W_6.out⟩

set_option maxHeartbeats 12800000 in
theorem minv_i (va : Value) (xa : List UInt8) (vc : Value) (xc : List UInt8) (w : World) (ha : Byt w va xa) (hc : Byt w vc xc) (la : xa.length ≤ 24) (lc : xc.length ≤ 24) (x z : Nat) (ex : numN xa = x) (ez : numN xc = z) (h0 : z ≠ 0) (r : Nat) (hr : invS z x = (1, r)) :
    Calls Try.prog 7 #[va, vc] w fun e w' => e = .returned (.bool true) ∧ Below w.heap.size w w' := by
  have Ha := Lib.hid ha
  obtain ⟨Aa, ca, rfl, -⟩ := ha.len
  have HLx : Hid (xa.length ≤ 200) := Lib.hid (by omega)
  have HSx := Lib.hid (sz_num HLx.out)
  have HFx := Lib.hid (fit_num (xs := xa) (by omega))
  have HCx := Lib.hid (c16_num HLx.out)
  rw [ex] at HSx HFx HCx
  have HEx := Lib.hid ex
  have HKx : Hid (c16 x ≤ 1000) := Lib.hid (Nat.le_trans HCx.out (by decide))
  have Hc := Lib.hid hc
  obtain ⟨Ac, cc, rfl, -⟩ := hc.len
  have HLz : Hid (xc.length ≤ 200) := Lib.hid (by omega)
  have HSz := Lib.hid (sz_num HLz.out)
  have HFz := Lib.hid (fit_num (xs := xc) (by omega))
  have HCz := Lib.hid (c16_num HLz.out)
  rw [ez] at HSz HFz HCz
  have HEz := Lib.hid ez
  have HKz : Hid (c16 z ≤ 1000) := Lib.hid (Nat.le_trans HCz.out (by decide))
  have d0 : decide (24 < (xa.length : Int)) = false := decide_eq_false (by omega)
  have d1 : decide (24 < (xc.length : Int)) = false := decide_eq_false (by omega)
  have H0 := Lib.hid h0
  have d4 : (((c16 z : Nat) : Int) == 0) = false := by
    have h1 := len_pos h0
    rw [beq_eq_false_iff_ne]
    omega
  have HR := Lib.hid hr
  have Lr := invS_lt h0 hr
  have Fr : Hid (Fit r) := Lib.hid (Nat.lt_trans Lr HFz.out)
  have Sr : Hid (Sz r) := Lib.hid (HSz.out.mono (Nat.le_of_lt Lr))
  clear hr Lr
  clear ha hc la lc ex ez h0
  go_enter Try.func7, Try.ntmps7
  go_wp2_with fail
  refine (made2_ok _ _ Ha.out HLx.out HEx.out HFx.out).mono ?_
  rintro e p1 ⟨rfl, hb⟩
  have A_1 := Lib.hid (Ha.out.below hb)
  have C_1 := Lib.hid (Hc.out.below hb)
  have W_1 := Lib.hid (hb)
  clear hb Ha Hc
  go_wp2_with fail
  refine (made2_ok _ _ C_1.out HLz.out HEz.out HFz.out).mono ?_
  rintro e p2 ⟨rfl, hb⟩
  have A_2 := Lib.hid (A_1.out.below hb)
  have C_2 := Lib.hid (C_1.out.below hb)
  have W_2 := Lib.hid (W_1.out.trans (hb.mono W_1.out.size))
  clear hb A_1 C_1 W_1
  go_wp2_with fail
  refine (inverse_is _ HFz.out H0.out HFx.out HR.out).mono ?_
  rintro e p3 ⟨rfl, hb⟩
  have XT0_3 := Lib.hid (NatAt.zero p3)
  have XA_3 := Lib.hid (below_zero hb hb.size)
  have hsz_3 := Lib.hid hb.size
  clear hb
  go_wp2_with (first | go_skip | (refine wpl_stN ntNat rfl rfl rfl rfl XT0_3.out ?_; intro q3 hn hg; have XB0_3 := Lib.hid (XA_3.out.grown hg XA_3.out.size (fun j e => by injection e with e; rw [← e]; have := hsz_3.out; omega)); have XS00_3 := Lib.hid hn; have A_3 := Lib.hid (A_2.out.below XB0_3.out); have C_3 := Lib.hid (C_2.out.below XB0_3.out); have W_3 := Lib.hid (W_2.out.trans (XB0_3.out.mono W_2.out.size)); have r_3 := XS00_3; clear hn hg A_2 C_2 W_2 XT0_3 XA_3 XS00_3 XB0_3 hsz_3) | (refine wpl_ldN ntNat rfl rfl rfl r_3.out ?_) | (refine wpl_ldN_g ntNat ?hw rfl rfl r_3.out ?_; (case hw => rfl)))
  refine (from_any _ xc _ C_3.out (by have := HLz.out; omega)).mono ?_
  rintro e p4 ⟨v4, rfl, hv, hb, -⟩
  rw [HEz.out] at hv
  obtain ⟨As4, cs4, rfl, -⟩ := Lst.len hv
  have A_4 := Lib.hid (A_3.out.below hb)
  have C_4 := Lib.hid (C_3.out.below hb)
  have r_4 := Lib.hid (r_3.out.below hb)
  have W_4 := Lib.hid (W_3.out.trans (hb.mono W_3.out.size))
  have M_4 := Lib.hid hv
  clear hv hb A_3 C_3 r_3 W_3
  go_wp2_with (first | go_skip | (refine wpl_ldN ntNat rfl rfl rfl r_4.out ?_) | (refine wpl_ldN_g ntNat ?hw rfl rfl r_4.out ?_; (case hw => rfl)))
  refine (from_any _ xa _ A_4.out (by have := HLx.out; omega)).mono ?_
  rintro e p5 ⟨v5, rfl, hv, hb, ho5⟩
  have A_5 := Lib.hid (A_4.out.below hb)
  have C_5 := Lib.hid (C_4.out.below hb)
  have r_5 := Lib.hid (r_4.out.below hb)
  have M_5 := Lib.hid (M_4.out.below hb)
  have W_5 := Lib.hid (W_4.out.trans (hb.mono W_4.out.size))
  clear hb ho5 A_4 C_4 r_4 M_4 W_4
  rw [HEx.out] at hv
  have P_5 := Lib.hid hv
  clear hv
  go_wp2_with (first | go_skip | (refine wpl_ldN ntNat rfl rfl rfl r_5.out ?_) | (refine wpl_ldN_g ntNat ?hw rfl rfl r_5.out ?_; (case hw => rfl)))
  refine (rinverse_is _ _ _ P_5.out M_5.out HKx.out HKz.out H0.out HR.out).mono ?_
  rintro e p6 ⟨v6, rfl, hv, hb⟩
  have A_6 := Lib.hid (A_5.out.below hb)
  have C_6 := Lib.hid (C_5.out.below hb)
  have r_6 := Lib.hid (r_5.out.below hb)
  have M_6 := Lib.hid (M_5.out.below hb)
  have P_6 := Lib.hid (P_5.out.below hb)
  have W_6 := Lib.hid (W_5.out.trans (hb.mono W_5.out.size))
  clear hb A_5 C_5 r_5 M_5 P_5 W_5
  have R1_6 := Lib.hid hv
  clear hv
  go_wp2_with (first | go_skip | (refine wpl_ldN ntNat rfl rfl rfl r_6.out ?_) | (refine wpl_ldN_g ntNat ?hw rfl rfl r_6.out ?_; (case hw => rfl)))
  refine (same2_ok _ _ Fr.out R1_6.out Sr.out (decide_eq_true rfl)).mono ?_
  rintro e p7 ⟨rfl, hb⟩
  have A_7 := Lib.hid (A_6.out.below hb)
  have C_7 := Lib.hid (C_6.out.below hb)
  have r_7 := Lib.hid (r_6.out.below hb)
  have M_7 := Lib.hid (M_6.out.below hb)
  have P_7 := Lib.hid (P_6.out.below hb)
  have R1_7 := Lib.hid (R1_6.out.below hb)
  have W_7 := Lib.hid (W_6.out.trans (hb.mono W_6.out.size))
  clear hb A_6 C_6 r_6 M_6 P_6 R1_6 W_6
  go_wp2_with (first | go_skip | (refine wpl_ldN ntNat rfl rfl rfl r_7.out ?_) | (refine wpl_ldN_g ntNat ?hw rfl rfl r_7.out ?_; (case hw => rfl)))
  refine (known2_any _).mono ?_
  rintro e p8 ⟨rfl, hb⟩
  have A_8 := Lib.hid (A_7.out.below hb)
  have C_8 := Lib.hid (C_7.out.below hb)
  have r_8 := Lib.hid (r_7.out.below hb)
  have M_8 := Lib.hid (M_7.out.below hb)
  have P_8 := Lib.hid (P_7.out.below hb)
  have R1_8 := Lib.hid (R1_7.out.below hb)
  have W_8 := Lib.hid (W_7.out.trans (hb.mono W_7.out.size))
  clear hb A_7 C_7 r_7 M_7 P_7 R1_7 W_7
  go_wp2_with (first | go_skip | (refine wpl_ldN ntNat rfl rfl rfl r_8.out ?_) | (refine wpl_ldN_g ntNat ?hw rfl rfl r_8.out ?_; (case hw => rfl)))
  go_ret
  exact ⟨rfl, W_8.out⟩

set_option maxHeartbeats 12800000 in
theorem minv_n (va : Value) (xa : List UInt8) (vc : Value) (xc : List UInt8) (w : World) (ha : Byt w va xa) (hc : Byt w vc xc) (la : xa.length ≤ 24) (lc : xc.length ≤ 24) (x z : Nat) (ex : numN xa = x) (ez : numN xc = z) (h0 : z ≠ 0) (q r : Nat) (hr : invS z x = (q, r)) (hq : q ≠ 1) :
    Calls Try.prog 7 #[va, vc] w fun e w' => e = .returned (.bool true) ∧ Below w.heap.size w w' := by
  have Ha := Lib.hid ha
  obtain ⟨Aa, ca, rfl, -⟩ := ha.len
  have HLx : Hid (xa.length ≤ 200) := Lib.hid (by omega)
  have HSx := Lib.hid (sz_num HLx.out)
  have HFx := Lib.hid (fit_num (xs := xa) (by omega))
  have HCx := Lib.hid (c16_num HLx.out)
  rw [ex] at HSx HFx HCx
  have HEx := Lib.hid ex
  have HKx : Hid (c16 x ≤ 1000) := Lib.hid (Nat.le_trans HCx.out (by decide))
  have Hc := Lib.hid hc
  obtain ⟨Ac, cc, rfl, -⟩ := hc.len
  have HLz : Hid (xc.length ≤ 200) := Lib.hid (by omega)
  have HSz := Lib.hid (sz_num HLz.out)
  have HFz := Lib.hid (fit_num (xs := xc) (by omega))
  have HCz := Lib.hid (c16_num HLz.out)
  rw [ez] at HSz HFz HCz
  have HEz := Lib.hid ez
  have HKz : Hid (c16 z ≤ 1000) := Lib.hid (Nat.le_trans HCz.out (by decide))
  have d0 : decide (24 < (xa.length : Int)) = false := decide_eq_false (by omega)
  have d1 : decide (24 < (xc.length : Int)) = false := decide_eq_false (by omega)
  have H0 := Lib.hid h0
  have d4 : (((c16 z : Nat) : Int) == 0) = false := by
    have h1 := len_pos h0
    rw [beq_eq_false_iff_ne]
    omega
  have HR := Lib.hid hr
  have HQ := Lib.hid hq
  clear hr hq
  clear ha hc la lc ex ez h0
  go_enter Try.func7, Try.ntmps7
  go_wp2_with fail
  refine (made2_ok _ _ Ha.out HLx.out HEx.out HFx.out).mono ?_
  rintro e p1 ⟨rfl, hb⟩
  have A_1 := Lib.hid (Ha.out.below hb)
  have C_1 := Lib.hid (Hc.out.below hb)
  have W_1 := Lib.hid (hb)
  clear hb Ha Hc
  go_wp2_with fail
  refine (made2_ok _ _ C_1.out HLz.out HEz.out HFz.out).mono ?_
  rintro e p2 ⟨rfl, hb⟩
  have A_2 := Lib.hid (A_1.out.below hb)
  have C_2 := Lib.hid (C_1.out.below hb)
  have W_2 := Lib.hid (W_1.out.trans (hb.mono W_1.out.size))
  clear hb A_1 C_1 W_1
  go_wp2_with fail
  refine (inverse_no _ HFz.out H0.out HFx.out HR.out HQ.out).mono ?_
  rintro e p3 ⟨rfl, hb⟩
  have XT0_3 := Lib.hid (NatAt.zero p3)
  have XA_3 := Lib.hid (below_zero hb hb.size)
  have hsz_3 := Lib.hid hb.size
  clear hb
  go_wp2_with (first | go_skip | (refine wpl_stN ntNat rfl rfl rfl rfl XT0_3.out ?_; intro q3 hn hg; have XB0_3 := Lib.hid (XA_3.out.grown hg XA_3.out.size (fun j e => by injection e with e; rw [← e]; have := hsz_3.out; omega)); have XS00_3 := Lib.hid hn; have A_3 := Lib.hid (A_2.out.below XB0_3.out); have C_3 := Lib.hid (C_2.out.below XB0_3.out); have W_3 := Lib.hid (W_2.out.trans (XB0_3.out.mono W_2.out.size)); have r_3 := XS00_3; clear hn hg A_2 C_2 W_2 XT0_3 XA_3 XS00_3 XB0_3 hsz_3) | (refine wpl_ldN ntNat rfl rfl rfl r_3.out ?_) | (refine wpl_ldN_g ntNat ?hw rfl rfl r_3.out ?_; (case hw => rfl)))
  refine (from_any _ xc _ C_3.out (by have := HLz.out; omega)).mono ?_
  rintro e p4 ⟨v4, rfl, hv, hb, -⟩
  rw [HEz.out] at hv
  obtain ⟨As4, cs4, rfl, -⟩ := Lst.len hv
  have A_4 := Lib.hid (A_3.out.below hb)
  have C_4 := Lib.hid (C_3.out.below hb)
  have r_4 := Lib.hid (r_3.out.below hb)
  have W_4 := Lib.hid (W_3.out.trans (hb.mono W_3.out.size))
  have M_4 := Lib.hid hv
  clear hv hb A_3 C_3 r_3 W_3
  go_wp2_with (first | go_skip | (refine wpl_ldN ntNat rfl rfl rfl r_4.out ?_) | (refine wpl_ldN_g ntNat ?hw rfl rfl r_4.out ?_; (case hw => rfl)))
  refine (from_any _ xa _ A_4.out (by have := HLx.out; omega)).mono ?_
  rintro e p5 ⟨v5, rfl, hv, hb, ho5⟩
  have A_5 := Lib.hid (A_4.out.below hb)
  have C_5 := Lib.hid (C_4.out.below hb)
  have r_5 := Lib.hid (r_4.out.below hb)
  have M_5 := Lib.hid (M_4.out.below hb)
  have W_5 := Lib.hid (W_4.out.trans (hb.mono W_4.out.size))
  clear hb ho5 A_4 C_4 r_4 M_4 W_4
  rw [HEx.out] at hv
  have P_5 := Lib.hid hv
  clear hv
  go_wp2_with (first | go_skip | (refine wpl_ldN ntNat rfl rfl rfl r_5.out ?_) | (refine wpl_ldN_g ntNat ?hw rfl rfl r_5.out ?_; (case hw => rfl)))
  refine (rinverse_no _ _ _ P_5.out M_5.out HKx.out HKz.out H0.out HR.out HQ.out).mono ?_
  rintro e p6 ⟨v6, rfl, hb⟩
  have A_6 := Lib.hid (A_5.out.below hb)
  have C_6 := Lib.hid (C_5.out.below hb)
  have r_6 := Lib.hid (r_5.out.below hb)
  have M_6 := Lib.hid (M_5.out.below hb)
  have P_6 := Lib.hid (P_5.out.below hb)
  have W_6 := Lib.hid (W_5.out.trans (hb.mono W_5.out.size))
  clear hb A_5 C_5 r_5 M_5 P_5 W_5
  go_wp2_with (first | go_skip | (refine wpl_ldN ntNat rfl rfl rfl r_6.out ?_) | (refine wpl_ldN_g ntNat ?hw rfl rfl r_6.out ?_; (case hw => rfl)))
  refine (isZero_zero _).mono ?_
  rintro e p7 ⟨rfl, hb⟩
  have A_7 := Lib.hid (A_6.out.below hb)
  have C_7 := Lib.hid (C_6.out.below hb)
  have r_7 := Lib.hid (r_6.out.below hb)
  have M_7 := Lib.hid (M_6.out.below hb)
  have P_7 := Lib.hid (P_6.out.below hb)
  have W_7 := Lib.hid (W_6.out.trans (hb.mono W_6.out.size))
  clear hb A_6 C_6 r_6 M_6 P_6 W_6
  go_wp2_with (first | go_skip | (refine wpl_ldN ntNat rfl rfl rfl r_7.out ?_) | (refine wpl_ldN_g ntNat ?hw rfl rfl r_7.out ?_; (case hw => rfl)))
  refine (known2_any _).mono ?_
  rintro e p8 ⟨rfl, hb⟩
  have A_8 := Lib.hid (A_7.out.below hb)
  have C_8 := Lib.hid (C_7.out.below hb)
  have r_8 := Lib.hid (r_7.out.below hb)
  have M_8 := Lib.hid (M_7.out.below hb)
  have P_8 := Lib.hid (P_7.out.below hb)
  have W_8 := Lib.hid (W_7.out.trans (hb.mono W_7.out.size))
  clear hb A_7 C_7 r_7 M_7 P_7 W_7
  go_wp2_with (first | go_skip | (refine wpl_ldN ntNat rfl rfl rfl r_8.out ?_) | (refine wpl_ldN_g ntNat ?hw rfl rfl r_8.out ?_; (case hw => rfl)))
  go_ret
  exact ⟨rfl, W_8.out⟩

set_option maxHeartbeats 3200000 in
theorem minv_any (va : Value) (xa : List UInt8) (vc : Value) (xc : List UInt8) (w : World) (ha : Byt w va xa) (hc : Byt w vc xc) :
    Calls Try.prog 7 #[va, vc] w fun e w' => e = .returned (.bool true) ∧ Below w.heap.size w w' := by
  have HA := Lib.hid ha
  have HC := Lib.hid hc
  obtain ⟨A, c, rfl, -⟩ := ha.len
  obtain ⟨C, cc, rfl, -⟩ := hc.len
  clear ha hc
  by_cases hl0 : 24 < xa.length
  · have d0 : decide (24 < (xa.length : Int)) = true := decide_eq_true (by omega)
    clear hl0
    go_enter Try.func7, Try.ntmps7
    go_wp2_with fail
    refine (known2_any w).mono ?_
    rintro e w1 ⟨rfl, hb⟩
    have HB := Lib.hid hb
    clear hb
    go_wp2_with fail
    go_ret
    exact ⟨rfl, HB.out⟩
  · have d0 : decide (24 < (xa.length : Int)) = false := decide_eq_false (by omega)
    have ll0 : xa.length ≤ 24 := by omega
    clear hl0
    by_cases hl1 : 24 < xc.length
    · have d1 : decide (24 < (xc.length : Int)) = true := decide_eq_true (by omega)
      clear hl1 ll0
      go_enter Try.func7, Try.ntmps7
      go_wp2_with fail
      refine (known2_any w).mono ?_
      rintro e w1 ⟨rfl, hb⟩
      have HB := Lib.hid hb
      clear hb
      go_wp2_with fail
      go_ret
      exact ⟨rfl, HB.out⟩
    · have d1 : decide (24 < (xc.length : Int)) = false := decide_eq_false (by omega)
      have ll1 : xc.length ≤ 24 := by omega
      clear hl1
      by_cases h0 : numN xc = 0
      · exact minv_z _ xa _ xc w HA.out HC.out ll0 ll1 _ _ rfl rfl h0
      · obtain ⟨⟨q, r⟩, hr⟩ : ∃ s, invS (numN xc) (numN xa) = s := ⟨_, rfl⟩
        by_cases hq : q = 1
        · subst hq
          exact minv_i _ xa _ xc w HA.out HC.out ll0 ll1 _ _ rfl rfl h0 r hr
        · exact minv_n _ xa _ xc w HA.out HC.out ll0 ll1 _ _ rfl rfl h0 q r hr hq

end Go.Proofs.Ytfmadiepefbepaa
