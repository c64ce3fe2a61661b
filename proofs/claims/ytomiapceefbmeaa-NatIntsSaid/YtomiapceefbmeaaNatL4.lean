/- Walk: the law NatInts (printed by gennatlaw.py). -/
import Derived.Test.YtomiapceefbmeaaNatII
set_option linter.unusedVariables false
set_option linter.unusedSimpArgs false
set_option maxRecDepth 100000
namespace Go.Proofs.Ytomiapceefbmeaa
open Go.RowKit

set_option maxHeartbeats 6400000 in
theorem ints_n_long (v : Int) (vb : Value) (xb : List UInt8) (w : World) (hv : v < 0) (hb : Byt w vb xb) (m : Nat) (hm : numN xb = m) (hl : 200 < xb.length) :
    Calls Try.prog 4 #[.int .i64 v, vb] w fun e w' => e = .returned (.bool true) ∧ Below w.heap.size w w' := by
  have HB := Lib.hid hb
  obtain ⟨B, d, rfl, -⟩ := hb.len
  have HV := Lib.hid hv
  have HEm := Lib.hid hm
  have d9 : decide (v < 0) = true := decide_eq_true hv
  have d0 : decide (200 < (xb.length : Int)) = true := decide_eq_true (by omega)
  clear hb hv hm hl
  go_enter Try.func4, Try.ntmps4
  go_wp2_with fail
  refine (fromInt_neg _ _ HV.out).mono ?_
  rintro e p1 ⟨rfl, hb⟩
  have XT0_1 := Lib.hid (NatAt.zero p1)
  have XA_1 := Lib.hid (below_zero hb hb.size)
  have hsz_1 : Hid (w.heap.size ≤ p1.heap.size) := Lib.hid hb.size
  clear hb
  go_wp2_with (first | (refine wpl_stN ntNat rfl rfl rfl rfl XT0_1.out ?_; intro q1 hn hg; have XB0_1 := Lib.hid (XA_1.out.grown hg XA_1.out.size (fun j e => by injection e with e; rw [← e]; have := hsz_1.out; omega)); have XS00_1 := Lib.hid hn; have B_1 := Lib.hid (HB.out.below XB0_1.out); have W_1 := Lib.hid (XB0_1.out); have x_1 := XS00_1; clear hn hg HB XT0_1 XA_1 XS00_1 XB0_1 hsz_1) | (refine wpl_ldN ntNat rfl rfl rfl x_1.out ?_) | (refine wpl_ldN_g ntNat rfl rfl rfl x_1.out ?_))
  refine (isZero_zero _).mono ?_
  rintro e p2 ⟨rfl, hb⟩
  have B_2 := Lib.hid (B_1.out.below hb)
  have x_2 := Lib.hid (x_1.out.below hb)
  have W_2 := Lib.hid (W_1.out.trans (hb.mono W_1.out.size))
  clear hb B_1 x_1 W_1
  go_wp2_with (first | (refine wpl_ldN ntNat rfl rfl rfl x_2.out ?_) | (refine wpl_ldN_g ntNat rfl rfl rfl x_2.out ?_))
  clear x_2
  refine (known_any _).mono ?_
  rintro e p3 ⟨rfl, hb⟩
  have B_3 := Lib.hid (B_2.out.below hb)
  have W_3 := Lib.hid (W_2.out.trans (hb.mono W_2.out.size))
  clear hb B_2 W_2
  go_wp2_with fail
  go_ret
  exact ⟨rfl, W_3.out⟩

set_option maxHeartbeats 6400000 in
theorem ints_n_unfit (v : Int) (vb : Value) (xb : List UInt8) (w : World) (hv : v < 0) (hb : Byt w vb xb) (m : Nat) (hm : numN xb = m) (hl : xb.length ≤ 200) (hf : ¬ Fit m) :
    Calls Try.prog 4 #[.int .i64 v, vb] w fun e w' => e = .returned (.bool true) ∧ Below w.heap.size w w' := by
  have HB := Lib.hid hb
  obtain ⟨B, d, rfl, -⟩ := hb.len
  have HV := Lib.hid hv
  have HEm := Lib.hid hm
  have d9 : decide (v < 0) = true := decide_eq_true hv
  have d0 : decide (200 < (xb.length : Int)) = false := decide_eq_false (by omega)
  have HLm := Lib.hid hl
  have HSm := Lib.hid (sz_num HLm.out)
  rw [hm] at HSm
  have HFm := Lib.hid hf
  clear hb hv hm hl hf
  go_enter Try.func4, Try.ntmps4
  go_wp2_with fail
  refine (fromInt_neg _ _ HV.out).mono ?_
  rintro e p1 ⟨rfl, hb⟩
  have XT0_1 := Lib.hid (NatAt.zero p1)
  have XA_1 := Lib.hid (below_zero hb hb.size)
  have hsz_1 : Hid (w.heap.size ≤ p1.heap.size) := Lib.hid hb.size
  clear hb
  go_wp2_with (first | (refine wpl_stN ntNat rfl rfl rfl rfl XT0_1.out ?_; intro q1 hn hg; have XB0_1 := Lib.hid (XA_1.out.grown hg XA_1.out.size (fun j e => by injection e with e; rw [← e]; have := hsz_1.out; omega)); have XS00_1 := Lib.hid hn; have B_1 := Lib.hid (HB.out.below XB0_1.out); have W_1 := Lib.hid (XB0_1.out); have x_1 := XS00_1; clear hn hg HB XT0_1 XA_1 XS00_1 XB0_1 hsz_1) | (refine wpl_ldN ntNat rfl rfl rfl x_1.out ?_) | (refine wpl_ldN_g ntNat rfl rfl rfl x_1.out ?_))
  refine (isZero_zero _).mono ?_
  rintro e p2 ⟨rfl, hb⟩
  have B_2 := Lib.hid (B_1.out.below hb)
  have x_2 := Lib.hid (x_1.out.below hb)
  have W_2 := Lib.hid (W_1.out.trans (hb.mono W_1.out.size))
  clear hb B_1 x_1 W_1
  go_wp2_with (first | (refine wpl_ldN ntNat rfl rfl rfl x_2.out ?_) | (refine wpl_ldN_g ntNat rfl rfl rfl x_2.out ?_))
  clear x_2
  refine (made_over _ _ B_2.out HLm.out HEm.out HFm.out).mono ?_
  rintro e p3 ⟨v3, rfl, hv, hb⟩
  have XT0_3 := Lib.hid (NatAt.zero p3)
  have XA_3 := Lib.hid (below_zero hb hb.size)
  have hsz_3 : Hid (p2.heap.size ≤ p3.heap.size) := Lib.hid hb.size
  have XQ_3 := Lib.hid (below_zero (Below.refl p3.heap.size p3) (Nat.le_refl _))
  have XMp_3 := Lib.hid hv
  clear hv
  clear hb
  go_wp2_with (first | (refine wpl_stN ntNat rfl rfl rfl rfl XT0_3.out ?_; intro q3 hn hg; have XB0_3 := Lib.hid (XA_3.out.grown hg XA_3.out.size (fun j e => by injection e with e; rw [← e]; have := hsz_3.out; omega)); have XS00_3 := Lib.hid hn; have hq := XQ_3.out.grown hg XQ_3.out.size (fun j e => by injection e with e; rw [← e]; exact Nat.le_refl _); have B_3 := Lib.hid (B_2.out.below XB0_3.out); have W_3 := Lib.hid (W_2.out.trans (XB0_3.out.mono W_2.out.size)); have p_3 := Lib.hid (XMp_3.out.below hq); have y_3 := XS00_3; clear hn hg B_2 W_2 XMp_3 hq XQ_3 XT0_3 XA_3 XS00_3 XB0_3 hsz_3) | (refine wpl_ldN ntNat rfl rfl rfl y_3.out ?_) | (refine wpl_ldN_g ntNat rfl rfl rfl y_3.out ?_))
  clear B_3
  refine (rfits_ok _ _ p_3.out HSm.out (c := false) (decide_eq_false HFm.out)).mono ?_
  rintro e p4 ⟨rfl, rfl⟩
  go_wp2_with (first | (refine wpl_ldN ntNat rfl rfl rfl y_3.out ?_) | (refine wpl_ldN_g ntNat rfl rfl rfl y_3.out ?_))
  refine (known_any _).mono ?_
  rintro e p5 ⟨rfl, hb⟩
  have p_5 := Lib.hid (p_3.out.below hb)
  have y_5 := Lib.hid (y_3.out.below hb)
  have W_5 := Lib.hid (W_3.out.trans (hb.mono W_3.out.size))
  clear hb p_3 y_3 W_3
  go_wp2_with (first | (refine wpl_ldN ntNat rfl rfl rfl y_5.out ?_) | (refine wpl_ldN_g ntNat rfl rfl rfl y_5.out ?_))
  go_ret
  exact ⟨rfl, W_5.out⟩

set_option maxHeartbeats 6400000 in
theorem ints_n_big (v : Int) (vb : Value) (xb : List UInt8) (w : World) (hv : v < 0) (hb : Byt w vb xb) (m : Nat) (hm : numN xb = m) (hl : xb.length ≤ 200) (hf : Fit m) (hq : q62 < m) :
    Calls Try.prog 4 #[.int .i64 v, vb] w fun e w' => e = .returned (.bool true) ∧ Below w.heap.size w w' := by
  have HB := Lib.hid hb
  obtain ⟨B, d, rfl, -⟩ := hb.len
  have HV := Lib.hid hv
  have HEm := Lib.hid hm
  have d9 : decide (v < 0) = true := decide_eq_true hv
  have d0 : decide (200 < (xb.length : Int)) = false := decide_eq_false (by omega)
  have HLm := Lib.hid hl
  have HSm := Lib.hid (sz_num HLm.out)
  rw [hm] at HSm
  have HFm := Lib.hid hf
  have HQ := Lib.hid hq
  have HQ2 : Hid ((4611686018427387904 : Int) = ((q62 : Nat) : Int)) := Lib.hid (by unfold q62; rfl)
  have HSq : Hid (Sz q62) := Lib.hid sz_q62
  have HCq : Hid (cmpI m q62 = 1) := Lib.hid (by unfold cmpI; rw [if_neg (by omega), if_pos hq])
  have HI := Lib.hid (int_big hf hq)
  clear hq
  clear hb hv hm hl hf
  go_enter Try.func4, Try.ntmps4
  go_wp2_with fail
  refine (fromInt_neg _ _ HV.out).mono ?_
  rintro e p1 ⟨rfl, hb⟩
  have XT0_1 := Lib.hid (NatAt.zero p1)
  have XA_1 := Lib.hid (below_zero hb hb.size)
  have hsz_1 : Hid (w.heap.size ≤ p1.heap.size) := Lib.hid hb.size
  clear hb
  go_wp2_with (first | (refine wpl_stN ntNat rfl rfl rfl rfl XT0_1.out ?_; intro q1 hn hg; have XB0_1 := Lib.hid (XA_1.out.grown hg XA_1.out.size (fun j e => by injection e with e; rw [← e]; have := hsz_1.out; omega)); have XS00_1 := Lib.hid hn; have B_1 := Lib.hid (HB.out.below XB0_1.out); have W_1 := Lib.hid (XB0_1.out); have x_1 := XS00_1; clear hn hg HB XT0_1 XA_1 XS00_1 XB0_1 hsz_1) | (refine wpl_ldN ntNat rfl rfl rfl x_1.out ?_) | (refine wpl_ldN_g ntNat rfl rfl rfl x_1.out ?_))
  refine (isZero_zero _).mono ?_
  rintro e p2 ⟨rfl, hb⟩
  have B_2 := Lib.hid (B_1.out.below hb)
  have x_2 := Lib.hid (x_1.out.below hb)
  have W_2 := Lib.hid (W_1.out.trans (hb.mono W_1.out.size))
  clear hb B_1 x_1 W_1
  go_wp2_with (first | (refine wpl_ldN ntNat rfl rfl rfl x_2.out ?_) | (refine wpl_ldN_g ntNat rfl rfl rfl x_2.out ?_))
  clear x_2
  refine (made_ok _ _ B_2.out HLm.out HEm.out HFm.out).mono ?_
  rintro e p3 ⟨v3, rfl, hv, hb⟩
  have XT0_3 := Lib.hid (NatAt.zero p3)
  have XA_3 := Lib.hid (below_zero hb hb.size)
  have hsz_3 : Hid (p2.heap.size ≤ p3.heap.size) := Lib.hid hb.size
  have XQ_3 := Lib.hid (below_zero (Below.refl p3.heap.size p3) (Nat.le_refl _))
  have XMp_3 := Lib.hid hv
  clear hv
  clear hb
  go_wp2_with (first | (refine wpl_stN ntNat rfl rfl rfl rfl XT0_3.out ?_; intro q3 hn hg; have XB0_3 := Lib.hid (XA_3.out.grown hg XA_3.out.size (fun j e => by injection e with e; rw [← e]; have := hsz_3.out; omega)); have XS00_3 := Lib.hid hn; have hq := XQ_3.out.grown hg XQ_3.out.size (fun j e => by injection e with e; rw [← e]; exact Nat.le_refl _); have B_3 := Lib.hid (B_2.out.below XB0_3.out); have W_3 := Lib.hid (W_2.out.trans (XB0_3.out.mono W_2.out.size)); have p_3 := Lib.hid (XMp_3.out.below hq); have y_3 := XS00_3; clear hn hg B_2 W_2 XMp_3 hq XQ_3 XT0_3 XA_3 XS00_3 XB0_3 hsz_3) | (refine wpl_ldN ntNat rfl rfl rfl y_3.out ?_) | (refine wpl_ldN_g ntNat rfl rfl rfl y_3.out ?_))
  clear B_3
  refine (HI.out _).mono ?_
  rintro e p4 ⟨rfl, hb⟩
  have p_4 := Lib.hid (p_3.out.below hb)
  have y_4 := Lib.hid (y_3.out.below hb)
  have W_4 := Lib.hid (W_3.out.trans (hb.mono W_3.out.size))
  clear hb p_3 y_3 W_3
  go_wp2_with (first | (refine wpl_ldN ntNat rfl rfl rfl y_4.out ?_) | (refine wpl_ldN_g ntNat rfl rfl rfl y_4.out ?_))
  refine (rof_ok _ _ HQ2.out (by decide)).mono ?_
  rintro e p5 ⟨v5, rfl, hv, hb, ho5⟩
  have p_5 := Lib.hid (p_4.out.below hb)
  have y_5 := Lib.hid (y_4.out.below hb)
  have W_5 := Lib.hid (W_4.out.trans (hb.mono W_4.out.size))
  clear hb ho5 p_4 y_4 W_4
  have r_5 := Lib.hid hv
  clear hv
  go_wp2_with (first | (refine wpl_ldN ntNat rfl rfl rfl y_5.out ?_) | (refine wpl_ldN_g ntNat rfl rfl rfl y_5.out ?_))
  refine (rcompare_ok _ _ _ p_5.out r_5.out HSm.out HSq.out HCq.out).mono ?_
  rintro e p6 ⟨rfl, rfl⟩
  go_wp2_with (first | (refine wpl_ldN ntNat rfl rfl rfl y_5.out ?_) | (refine wpl_ldN_g ntNat rfl rfl rfl y_5.out ?_))
  clear r_5
  refine (known_any _).mono ?_
  rintro e p7 ⟨rfl, hb⟩
  have p_7 := Lib.hid (p_5.out.below hb)
  have y_7 := Lib.hid (y_5.out.below hb)
  have W_7 := Lib.hid (W_5.out.trans (hb.mono W_5.out.size))
  clear hb p_5 y_5 W_5
  go_wp2_with (first | (refine wpl_ldN ntNat rfl rfl rfl y_7.out ?_) | (refine wpl_ldN_g ntNat rfl rfl rfl y_7.out ?_))
  go_ret
  exact ⟨rfl, W_7.out⟩

set_option maxHeartbeats 6400000 in
theorem ints_n_small (v : Int) (vb : Value) (xb : List UInt8) (w : World) (hv : v < 0) (hb : Byt w vb xb) (m : Nat) (hm : numN xb = m) (hl : xb.length ≤ 200) (hf : Fit m) (hq : ¬ q62 < m) :
    Calls Try.prog 4 #[.int .i64 v, vb] w fun e w' => e = .returned (.bool true) ∧ Below w.heap.size w w' := by
  have HB := Lib.hid hb
  obtain ⟨B, d, rfl, -⟩ := hb.len
  have HV := Lib.hid hv
  have HEm := Lib.hid hm
  have d9 : decide (v < 0) = true := decide_eq_true hv
  have d0 : decide (200 < (xb.length : Int)) = false := decide_eq_false (by omega)
  have HLm := Lib.hid hl
  have HSm := Lib.hid (sz_num HLm.out)
  rw [hm] at HSm
  have HFm := Lib.hid hf
  have HQ := Lib.hid hq
  have HQ2 : Hid ((4611686018427387904 : Int) = ((q62 : Nat) : Int)) := Lib.hid (by unfold q62; rfl)
  have HSq : Hid (Sz q62) := Lib.hid sz_q62
  obtain ⟨c, hc⟩ : ∃ c, cmpI m q62 = c := ⟨_, rfl⟩
  have HCq := Lib.hid hc
  have d1 : decide (0 < c) = false := by rw [← hc]; unfold cmpI; rw [if_neg hq]; split <;> rfl
  have HI := Lib.hid (int_small hf hq)
  have HMI : Hid ((m : Int) ≤ 9223372036854775807) := Lib.hid (small_int hq)
  clear hc
  clear hq
  clear hb hv hm hl hf
  go_enter Try.func4, Try.ntmps4
  go_wp2_with fail
  refine (fromInt_neg _ _ HV.out).mono ?_
  rintro e p1 ⟨rfl, hb⟩
  have XT0_1 := Lib.hid (NatAt.zero p1)
  have XA_1 := Lib.hid (below_zero hb hb.size)
  have hsz_1 : Hid (w.heap.size ≤ p1.heap.size) := Lib.hid hb.size
  clear hb
  go_wp2_with (first | (refine wpl_stN ntNat rfl rfl rfl rfl XT0_1.out ?_; intro q1 hn hg; have XB0_1 := Lib.hid (XA_1.out.grown hg XA_1.out.size (fun j e => by injection e with e; rw [← e]; have := hsz_1.out; omega)); have XS00_1 := Lib.hid hn; have B_1 := Lib.hid (HB.out.below XB0_1.out); have W_1 := Lib.hid (XB0_1.out); have x_1 := XS00_1; clear hn hg HB XT0_1 XA_1 XS00_1 XB0_1 hsz_1) | (refine wpl_ldN ntNat rfl rfl rfl x_1.out ?_) | (refine wpl_ldN_g ntNat rfl rfl rfl x_1.out ?_))
  refine (isZero_zero _).mono ?_
  rintro e p2 ⟨rfl, hb⟩
  have B_2 := Lib.hid (B_1.out.below hb)
  have x_2 := Lib.hid (x_1.out.below hb)
  have W_2 := Lib.hid (W_1.out.trans (hb.mono W_1.out.size))
  clear hb B_1 x_1 W_1
  go_wp2_with (first | (refine wpl_ldN ntNat rfl rfl rfl x_2.out ?_) | (refine wpl_ldN_g ntNat rfl rfl rfl x_2.out ?_))
  clear x_2
  refine (made_ok _ _ B_2.out HLm.out HEm.out HFm.out).mono ?_
  rintro e p3 ⟨v3, rfl, hv, hb⟩
  have XT0_3 := Lib.hid (NatAt.zero p3)
  have XA_3 := Lib.hid (below_zero hb hb.size)
  have hsz_3 : Hid (p2.heap.size ≤ p3.heap.size) := Lib.hid hb.size
  have XQ_3 := Lib.hid (below_zero (Below.refl p3.heap.size p3) (Nat.le_refl _))
  have XMp_3 := Lib.hid hv
  clear hv
  clear hb
  go_wp2_with (first | (refine wpl_stN ntNat rfl rfl rfl rfl XT0_3.out ?_; intro q3 hn hg; have XB0_3 := Lib.hid (XA_3.out.grown hg XA_3.out.size (fun j e => by injection e with e; rw [← e]; have := hsz_3.out; omega)); have XS00_3 := Lib.hid hn; have hq := XQ_3.out.grown hg XQ_3.out.size (fun j e => by injection e with e; rw [← e]; exact Nat.le_refl _); have B_3 := Lib.hid (B_2.out.below XB0_3.out); have W_3 := Lib.hid (W_2.out.trans (XB0_3.out.mono W_2.out.size)); have p_3 := Lib.hid (XMp_3.out.below hq); have y_3 := XS00_3; clear hn hg B_2 W_2 XMp_3 hq XQ_3 XT0_3 XA_3 XS00_3 XB0_3 hsz_3) | (refine wpl_ldN ntNat rfl rfl rfl y_3.out ?_) | (refine wpl_ldN_g ntNat rfl rfl rfl y_3.out ?_))
  clear B_3
  refine (HI.out _).mono ?_
  rintro e p4 ⟨rfl, hb⟩
  have p_4 := Lib.hid (p_3.out.below hb)
  have y_4 := Lib.hid (y_3.out.below hb)
  have W_4 := Lib.hid (W_3.out.trans (hb.mono W_3.out.size))
  clear hb p_3 y_3 W_3
  go_wp2_with (first | (refine wpl_ldN ntNat rfl rfl rfl y_4.out ?_) | (refine wpl_ldN_g ntNat rfl rfl rfl y_4.out ?_))
  refine (rof_ok _ _ HQ2.out (by decide)).mono ?_
  rintro e p5 ⟨v5, rfl, hv, hb, ho5⟩
  have p_5 := Lib.hid (p_4.out.below hb)
  have y_5 := Lib.hid (y_4.out.below hb)
  have W_5 := Lib.hid (W_4.out.trans (hb.mono W_4.out.size))
  clear hb ho5 p_4 y_4 W_4
  have r_5 := Lib.hid hv
  clear hv
  go_wp2_with (first | (refine wpl_ldN ntNat rfl rfl rfl y_5.out ?_) | (refine wpl_ldN_g ntNat rfl rfl rfl y_5.out ?_))
  refine (rcompare_ok _ _ _ p_5.out r_5.out HSm.out HSq.out HCq.out).mono ?_
  rintro e p6 ⟨rfl, rfl⟩
  go_wp2_with (first | (refine wpl_ldN ntNat rfl rfl rfl y_5.out ?_) | (refine wpl_ldN_g ntNat rfl rfl rfl y_5.out ?_))
  clear r_5
  refine (of_any _ _ (by unfold maxI; exact HMI.out)).mono ?_
  rintro e p7 ⟨v7, rfl, hv, hb, ho7⟩
  have p_7 := Lib.hid (p_5.out.below hb)
  have y_7 := Lib.hid (y_5.out.below hb)
  have W_7 := Lib.hid (W_5.out.trans (hb.mono W_5.out.size))
  clear hb ho7 p_5 y_5 W_5
  have r_7 := Lib.hid hv
  clear hv
  go_wp2_with (first | (refine wpl_ldN ntNat rfl rfl rfl y_7.out ?_) | (refine wpl_ldN_g ntNat rfl rfl rfl y_7.out ?_))
  refine (rcompare_ok _ _ _ p_7.out r_7.out HSm.out HSm.out (cmp_self m)).mono ?_
  rintro e p8 ⟨rfl, rfl⟩
  go_wp2_with (first | (refine wpl_ldN ntNat rfl rfl rfl y_7.out ?_) | (refine wpl_ldN_g ntNat rfl rfl rfl y_7.out ?_))
  refine (known_any _).mono ?_
  rintro e p9 ⟨rfl, hb⟩
  have p_9 := Lib.hid (p_7.out.below hb)
  have y_9 := Lib.hid (y_7.out.below hb)
  have r_9 := Lib.hid (r_7.out.below hb)
  have W_9 := Lib.hid (W_7.out.trans (hb.mono W_7.out.size))
  clear hb p_7 y_7 r_7 W_7
  go_wp2_with (first | (refine wpl_ldN ntNat rfl rfl rfl y_9.out ?_) | (refine wpl_ldN_g ntNat rfl rfl rfl y_9.out ?_))
  go_ret
  exact ⟨rfl, W_9.out⟩

set_option maxHeartbeats 6400000 in
theorem ints_p_long (v : Nat) (vb : Value) (xb : List UInt8) (w : World) (hv : (v : Int) ≤ 9223372036854775807) (hb : Byt w vb xb) (m : Nat) (hm : numN xb = m) (hl : 200 < xb.length) :
    Calls Try.prog 4 #[.int .i64 (v : Int), vb] w fun e w' => e = .returned (.bool true) ∧ Below w.heap.size w w' := by
  have HB := Lib.hid hb
  obtain ⟨B, d, rfl, -⟩ := hb.len
  have HV := Lib.hid hv
  have HEm := Lib.hid hm
  have HFv : Hid (Fit v) := Lib.hid (fit_int hv)
  have HSv : Hid (Sz v) := Lib.hid (sz_int hv)
  have d0 : decide (200 < (xb.length : Int)) = true := decide_eq_true (by omega)
  clear hb hv hm hl
  go_enter Try.func4, Try.ntmps4
  go_wp2_with fail
  refine (fromInt_pos _ _ HV.out).mono ?_
  rintro e p1 ⟨rfl, hb⟩
  have XT0_1 := Lib.hid (NatAt.zero p1)
  have XA_1 := Lib.hid (below_zero hb hb.size)
  have hsz_1 : Hid (w.heap.size ≤ p1.heap.size) := Lib.hid hb.size
  clear hb
  go_wp2_with (first | (refine wpl_stN ntNat rfl rfl rfl rfl XT0_1.out ?_; intro q1 hn hg; have XB0_1 := Lib.hid (XA_1.out.grown hg XA_1.out.size (fun j e => by injection e with e; rw [← e]; have := hsz_1.out; omega)); have XS00_1 := Lib.hid hn; have B_1 := Lib.hid (HB.out.below XB0_1.out); have W_1 := Lib.hid (XB0_1.out); have x_1 := XS00_1; clear hn hg HB XT0_1 XA_1 XS00_1 XB0_1 hsz_1) | (refine wpl_ldN ntNat rfl rfl rfl x_1.out ?_) | (refine wpl_ldN_g ntNat rfl rfl rfl x_1.out ?_))
  refine region_road Later [(0, true), (1, true), (2, true), (3, true), (4, true), (5, false), (6, false), (7, true), (8, true)] (by kernel_rfl) (by kernel_rfl) (by kernel_rfl) (by kernel_rfl) (by kernel_rfl) (by kernel_rfl) later_refl later_trans (fun _ _ d _ _ h => by cases d <;> exact h) ?_
  have B_2 := Lib.hid (B_1.out.below ((Below.refl q1.heap.size q1).drew))
  have x_2 := Lib.hid (x_1.out.below ((Below.refl q1.heap.size q1).drew))
  have W_2 := Lib.hid (W_1.out.trans (((Below.refl q1.heap.size q1).drew).mono W_1.out.size))
  clear B_1 x_1 W_1
  generalize q1.drew = d2 at B_2 x_2 W_2 ⊢
  refine seqR_at (o := ?_) ?_ ?_
  rotate_left
  · (conv => (lhs; whnf; arg 1; whnf))
  refine seqR_y (v := ?_) (by rfl) (fun W hW => ?_) ?_
  rotate_left
  · go_simp; try with_reducible rfl
  try simp only [Act.put, List.setIfInBounds_toArray, List.set_cons_zero, List.set_cons_succ]
  refine seqR_at (o := ?_) ?_ ?_
  rotate_left
  · (conv => (lhs; whnf; arg 1; whnf))
  refine seqR_y (v := ?_) (by rfl) (fun W hW => ?_) ?_
  rotate_left
  · go_simp; try with_reducible rfl
  try simp only [Act.put, List.setIfInBounds_toArray, List.set_cons_zero, List.set_cons_succ]
  refine seqR_at (o := ?_) ?_ ?_
  rotate_left
  · (conv => (lhs; whnf; arg 1; whnf))
  refine seqR_y (v := ?_) (by rfl) (fun W hW => ?_) ?_
  rotate_left
  · go_simp; try with_reducible rfl
  try simp only [Act.put, List.setIfInBounds_toArray, List.set_cons_zero, List.set_cons_succ]
  refine seqR_at (o := ?_) ?_ ?_
  rotate_left
  · (conv => (lhs; whnf; arg 1; whnf))
  refine seqR_y (v := ?_) (by rfl) (fun W hW => ?_) ?_
  rotate_left
  · (refine exec_ldN (x := .tmp 5) ntNat ?_ ?_ (x_2.out.below hW)) <;> rfl
  try simp only [Act.put, List.setIfInBounds_toArray, List.set_cons_zero, List.set_cons_succ]
  refine seqR_at (o := ?_) ?_ ?_
  rotate_left
  · (conv => (lhs; whnf; arg 1; whnf))
  refine seqR_y (v := ?_) (by rfl) (fun W hW => ?_) ?_
  rotate_left
  · go_simp; try with_reducible rfl
  try simp only [Act.put, List.setIfInBounds_toArray, List.set_cons_zero, List.set_cons_succ]
  refine seqR_at (o := ?_) ?_ ?_
  rotate_left
  · (conv => (lhs; whnf; arg 1; whnf))
  refine seqR_c (by rfl) (fun K hK => ?_)
  go_simp
  refine (of_any _ _ (by unfold maxI; exact HV.out)).mono ?_
  rintro e p3 ⟨v3, rfl, hv, hb, _⟩
  have B_3 := Lib.hid (B_2.out.below hb)
  have x_3 := Lib.hid (x_2.out.below hb)
  have W_3 := Lib.hid (W_2.out.trans (hb.mono W_2.out.size))
  refine hK _ _ hb ?_
  clear hK K hb B_2 x_2 W_2
  have r_3 := Lib.hid hv; clear hv
  try simp only [Act.put, List.setIfInBounds_toArray, List.set_cons_zero, List.set_cons_succ]
  refine seqR_at (o := ?_) ?_ ?_
  rotate_left
  · (conv => (lhs; whnf; arg 1; whnf))
  refine seqR_c (by rfl) (fun K hK => ?_)
  go_simp
  refine (same_ok _ _ HFv.out r_3.out HSv.out (decide_eq_true rfl)).mono ?_
  rintro e p4 ⟨rfl, hb⟩
  have B_4 := Lib.hid (B_3.out.below hb)
  have x_4 := Lib.hid (x_3.out.below hb)
  have r_4 := Lib.hid (r_3.out.below hb)
  have W_4 := Lib.hid (W_3.out.trans (hb.mono W_3.out.size))
  refine hK _ _ hb ?_
  clear hK K hb B_3 x_3 r_3 W_3
  try simp only [Act.put, List.setIfInBounds_toArray, List.set_cons_zero, List.set_cons_succ]
  refine seqR_at (o := ?_) ?_ ?_
  rotate_left
  · (conv => (lhs; whnf; arg 1; whnf))
  refine seqR_y (v := ?_) (by rfl) (fun W hW => ?_) ?_
  rotate_left
  · go_simp; try with_reducible rfl
  try simp only [Act.put, List.setIfInBounds_toArray, List.set_cons_zero, List.set_cons_succ]
  refine seqR_at (o := ?_) ?_ ?_
  rotate_left
  · (conv => (lhs; whnf; arg 1; whnf))
  refine seqR_y (v := ?_) (by rfl) (fun W hW => ?_) ?_
  rotate_left
  · go_simp; try with_reducible rfl
  try simp only [Act.put, List.setIfInBounds_toArray, List.set_cons_zero, List.set_cons_succ]
  refine seqR_end ?_
  go_wp2_with (first | (refine wpl_ldN ntNat rfl rfl rfl x_4.out ?_) | (refine wpl_ldN_g ntNat rfl rfl rfl x_4.out ?_))
  clear r_4
  clear x_4
  refine (known_any _).mono ?_
  rintro e p5 ⟨rfl, hb⟩
  have B_5 := Lib.hid (B_4.out.below hb)
  have W_5 := Lib.hid (W_4.out.trans (hb.mono W_4.out.size))
  clear hb B_4 W_4
  go_wp2_with fail
  go_ret
  exact ⟨rfl, W_5.out⟩

set_option maxHeartbeats 6400000 in
theorem ints_p_unfit (v : Nat) (vb : Value) (xb : List UInt8) (w : World) (hv : (v : Int) ≤ 9223372036854775807) (hb : Byt w vb xb) (m : Nat) (hm : numN xb = m) (hl : xb.length ≤ 200) (hf : ¬ Fit m) :
    Calls Try.prog 4 #[.int .i64 (v : Int), vb] w fun e w' => e = .returned (.bool true) ∧ Below w.heap.size w w' := by
  have HB := Lib.hid hb
  obtain ⟨B, d, rfl, -⟩ := hb.len
  have HV := Lib.hid hv
  have HEm := Lib.hid hm
  have HFv : Hid (Fit v) := Lib.hid (fit_int hv)
  have HSv : Hid (Sz v) := Lib.hid (sz_int hv)
  have d0 : decide (200 < (xb.length : Int)) = false := decide_eq_false (by omega)
  have HLm := Lib.hid hl
  have HSm := Lib.hid (sz_num HLm.out)
  rw [hm] at HSm
  have HFm := Lib.hid hf
  clear hb hv hm hl hf
  go_enter Try.func4, Try.ntmps4
  go_wp2_with fail
  refine (fromInt_pos _ _ HV.out).mono ?_
  rintro e p1 ⟨rfl, hb⟩
  have XT0_1 := Lib.hid (NatAt.zero p1)
  have XA_1 := Lib.hid (below_zero hb hb.size)
  have hsz_1 : Hid (w.heap.size ≤ p1.heap.size) := Lib.hid hb.size
  clear hb
  go_wp2_with (first | (refine wpl_stN ntNat rfl rfl rfl rfl XT0_1.out ?_; intro q1 hn hg; have XB0_1 := Lib.hid (XA_1.out.grown hg XA_1.out.size (fun j e => by injection e with e; rw [← e]; have := hsz_1.out; omega)); have XS00_1 := Lib.hid hn; have B_1 := Lib.hid (HB.out.below XB0_1.out); have W_1 := Lib.hid (XB0_1.out); have x_1 := XS00_1; clear hn hg HB XT0_1 XA_1 XS00_1 XB0_1 hsz_1) | (refine wpl_ldN ntNat rfl rfl rfl x_1.out ?_) | (refine wpl_ldN_g ntNat rfl rfl rfl x_1.out ?_))
  refine region_road Later [(0, true), (1, true), (2, true), (3, true), (4, true), (5, false), (6, false), (7, true), (8, true)] (by kernel_rfl) (by kernel_rfl) (by kernel_rfl) (by kernel_rfl) (by kernel_rfl) (by kernel_rfl) later_refl later_trans (fun _ _ d _ _ h => by cases d <;> exact h) ?_
  have B_2 := Lib.hid (B_1.out.below ((Below.refl q1.heap.size q1).drew))
  have x_2 := Lib.hid (x_1.out.below ((Below.refl q1.heap.size q1).drew))
  have W_2 := Lib.hid (W_1.out.trans (((Below.refl q1.heap.size q1).drew).mono W_1.out.size))
  clear B_1 x_1 W_1
  generalize q1.drew = d2 at B_2 x_2 W_2 ⊢
  refine seqR_at (o := ?_) ?_ ?_
  rotate_left
  · (conv => (lhs; whnf; arg 1; whnf))
  refine seqR_y (v := ?_) (by rfl) (fun W hW => ?_) ?_
  rotate_left
  · go_simp; try with_reducible rfl
  try simp only [Act.put, List.setIfInBounds_toArray, List.set_cons_zero, List.set_cons_succ]
  refine seqR_at (o := ?_) ?_ ?_
  rotate_left
  · (conv => (lhs; whnf; arg 1; whnf))
  refine seqR_y (v := ?_) (by rfl) (fun W hW => ?_) ?_
  rotate_left
  · go_simp; try with_reducible rfl
  try simp only [Act.put, List.setIfInBounds_toArray, List.set_cons_zero, List.set_cons_succ]
  refine seqR_at (o := ?_) ?_ ?_
  rotate_left
  · (conv => (lhs; whnf; arg 1; whnf))
  refine seqR_y (v := ?_) (by rfl) (fun W hW => ?_) ?_
  rotate_left
  · go_simp; try with_reducible rfl
  try simp only [Act.put, List.setIfInBounds_toArray, List.set_cons_zero, List.set_cons_succ]
  refine seqR_at (o := ?_) ?_ ?_
  rotate_left
  · (conv => (lhs; whnf; arg 1; whnf))
  refine seqR_y (v := ?_) (by rfl) (fun W hW => ?_) ?_
  rotate_left
  · (refine exec_ldN (x := .tmp 5) ntNat ?_ ?_ (x_2.out.below hW)) <;> rfl
  try simp only [Act.put, List.setIfInBounds_toArray, List.set_cons_zero, List.set_cons_succ]
  refine seqR_at (o := ?_) ?_ ?_
  rotate_left
  · (conv => (lhs; whnf; arg 1; whnf))
  refine seqR_y (v := ?_) (by rfl) (fun W hW => ?_) ?_
  rotate_left
  · go_simp; try with_reducible rfl
  try simp only [Act.put, List.setIfInBounds_toArray, List.set_cons_zero, List.set_cons_succ]
  refine seqR_at (o := ?_) ?_ ?_
  rotate_left
  · (conv => (lhs; whnf; arg 1; whnf))
  refine seqR_c (by rfl) (fun K hK => ?_)
  go_simp
  refine (of_any _ _ (by unfold maxI; exact HV.out)).mono ?_
  rintro e p3 ⟨v3, rfl, hv, hb, _⟩
  have B_3 := Lib.hid (B_2.out.below hb)
  have x_3 := Lib.hid (x_2.out.below hb)
  have W_3 := Lib.hid (W_2.out.trans (hb.mono W_2.out.size))
  refine hK _ _ hb ?_
  clear hK K hb B_2 x_2 W_2
  have r_3 := Lib.hid hv; clear hv
  try simp only [Act.put, List.setIfInBounds_toArray, List.set_cons_zero, List.set_cons_succ]
  refine seqR_at (o := ?_) ?_ ?_
  rotate_left
  · (conv => (lhs; whnf; arg 1; whnf))
  refine seqR_c (by rfl) (fun K hK => ?_)
  go_simp
  refine (same_ok _ _ HFv.out r_3.out HSv.out (decide_eq_true rfl)).mono ?_
  rintro e p4 ⟨rfl, hb⟩
  have B_4 := Lib.hid (B_3.out.below hb)
  have x_4 := Lib.hid (x_3.out.below hb)
  have r_4 := Lib.hid (r_3.out.below hb)
  have W_4 := Lib.hid (W_3.out.trans (hb.mono W_3.out.size))
  refine hK _ _ hb ?_
  clear hK K hb B_3 x_3 r_3 W_3
  try simp only [Act.put, List.setIfInBounds_toArray, List.set_cons_zero, List.set_cons_succ]
  refine seqR_at (o := ?_) ?_ ?_
  rotate_left
  · (conv => (lhs; whnf; arg 1; whnf))
  refine seqR_y (v := ?_) (by rfl) (fun W hW => ?_) ?_
  rotate_left
  · go_simp; try with_reducible rfl
  try simp only [Act.put, List.setIfInBounds_toArray, List.set_cons_zero, List.set_cons_succ]
  refine seqR_at (o := ?_) ?_ ?_
  rotate_left
  · (conv => (lhs; whnf; arg 1; whnf))
  refine seqR_y (v := ?_) (by rfl) (fun W hW => ?_) ?_
  rotate_left
  · go_simp; try with_reducible rfl
  try simp only [Act.put, List.setIfInBounds_toArray, List.set_cons_zero, List.set_cons_succ]
  refine seqR_end ?_
  go_wp2_with (first | (refine wpl_ldN ntNat rfl rfl rfl x_4.out ?_) | (refine wpl_ldN_g ntNat rfl rfl rfl x_4.out ?_))
  clear r_4
  clear x_4
  refine (made_over _ _ B_4.out HLm.out HEm.out HFm.out).mono ?_
  rintro e p5 ⟨v5, rfl, hv, hb⟩
  have XT0_5 := Lib.hid (NatAt.zero p5)
  have XA_5 := Lib.hid (below_zero hb hb.size)
  have hsz_5 : Hid (p4.heap.size ≤ p5.heap.size) := Lib.hid hb.size
  have XQ_5 := Lib.hid (below_zero (Below.refl p5.heap.size p5) (Nat.le_refl _))
  have XMp_5 := Lib.hid hv
  clear hv
  clear hb
  go_wp2_with (first | (refine wpl_stN ntNat rfl rfl rfl rfl XT0_5.out ?_; intro q5 hn hg; have XB0_5 := Lib.hid (XA_5.out.grown hg XA_5.out.size (fun j e => by injection e with e; rw [← e]; have := hsz_5.out; omega)); have XS00_5 := Lib.hid hn; have hq := XQ_5.out.grown hg XQ_5.out.size (fun j e => by injection e with e; rw [← e]; exact Nat.le_refl _); have B_5 := Lib.hid (B_4.out.below XB0_5.out); have W_5 := Lib.hid (W_4.out.trans (XB0_5.out.mono W_4.out.size)); have p_5 := Lib.hid (XMp_5.out.below hq); have y_5 := XS00_5; clear hn hg B_4 W_4 XMp_5 hq XQ_5 XT0_5 XA_5 XS00_5 XB0_5 hsz_5) | (refine wpl_ldN ntNat rfl rfl rfl y_5.out ?_) | (refine wpl_ldN_g ntNat rfl rfl rfl y_5.out ?_))
  clear B_5
  refine (rfits_ok _ _ p_5.out HSm.out (c := false) (decide_eq_false HFm.out)).mono ?_
  rintro e p6 ⟨rfl, rfl⟩
  go_wp2_with (first | (refine wpl_ldN ntNat rfl rfl rfl y_5.out ?_) | (refine wpl_ldN_g ntNat rfl rfl rfl y_5.out ?_))
  refine (known_any _).mono ?_
  rintro e p7 ⟨rfl, hb⟩
  have p_7 := Lib.hid (p_5.out.below hb)
  have y_7 := Lib.hid (y_5.out.below hb)
  have W_7 := Lib.hid (W_5.out.trans (hb.mono W_5.out.size))
  clear hb p_5 y_5 W_5
  go_wp2_with (first | (refine wpl_ldN ntNat rfl rfl rfl y_7.out ?_) | (refine wpl_ldN_g ntNat rfl rfl rfl y_7.out ?_))
  go_ret
  exact ⟨rfl, W_7.out⟩

set_option maxHeartbeats 6400000 in
theorem ints_p_big (v : Nat) (vb : Value) (xb : List UInt8) (w : World) (hv : (v : Int) ≤ 9223372036854775807) (hb : Byt w vb xb) (m : Nat) (hm : numN xb = m) (hl : xb.length ≤ 200) (hf : Fit m) (hq : q62 < m) :
    Calls Try.prog 4 #[.int .i64 (v : Int), vb] w fun e w' => e = .returned (.bool true) ∧ Below w.heap.size w w' := by
  have HB := Lib.hid hb
  obtain ⟨B, d, rfl, -⟩ := hb.len
  have HV := Lib.hid hv
  have HEm := Lib.hid hm
  have HFv : Hid (Fit v) := Lib.hid (fit_int hv)
  have HSv : Hid (Sz v) := Lib.hid (sz_int hv)
  have d0 : decide (200 < (xb.length : Int)) = false := decide_eq_false (by omega)
  have HLm := Lib.hid hl
  have HSm := Lib.hid (sz_num HLm.out)
  rw [hm] at HSm
  have HFm := Lib.hid hf
  have HQ := Lib.hid hq
  have HQ2 : Hid ((4611686018427387904 : Int) = ((q62 : Nat) : Int)) := Lib.hid (by unfold q62; rfl)
  have HSq : Hid (Sz q62) := Lib.hid sz_q62
  have HCq : Hid (cmpI m q62 = 1) := Lib.hid (by unfold cmpI; rw [if_neg (by omega), if_pos hq])
  have HI := Lib.hid (int_big hf hq)
  clear hq
  clear hb hv hm hl hf
  go_enter Try.func4, Try.ntmps4
  go_wp2_with fail
  refine (fromInt_pos _ _ HV.out).mono ?_
  rintro e p1 ⟨rfl, hb⟩
  have XT0_1 := Lib.hid (NatAt.zero p1)
  have XA_1 := Lib.hid (below_zero hb hb.size)
  have hsz_1 : Hid (w.heap.size ≤ p1.heap.size) := Lib.hid hb.size
  clear hb
  go_wp2_with (first | (refine wpl_stN ntNat rfl rfl rfl rfl XT0_1.out ?_; intro q1 hn hg; have XB0_1 := Lib.hid (XA_1.out.grown hg XA_1.out.size (fun j e => by injection e with e; rw [← e]; have := hsz_1.out; omega)); have XS00_1 := Lib.hid hn; have B_1 := Lib.hid (HB.out.below XB0_1.out); have W_1 := Lib.hid (XB0_1.out); have x_1 := XS00_1; clear hn hg HB XT0_1 XA_1 XS00_1 XB0_1 hsz_1) | (refine wpl_ldN ntNat rfl rfl rfl x_1.out ?_) | (refine wpl_ldN_g ntNat rfl rfl rfl x_1.out ?_))
  refine region_road Later [(0, true), (1, true), (2, true), (3, true), (4, true), (5, false), (6, false), (7, true), (8, true)] (by kernel_rfl) (by kernel_rfl) (by kernel_rfl) (by kernel_rfl) (by kernel_rfl) (by kernel_rfl) later_refl later_trans (fun _ _ d _ _ h => by cases d <;> exact h) ?_
  have B_2 := Lib.hid (B_1.out.below ((Below.refl q1.heap.size q1).drew))
  have x_2 := Lib.hid (x_1.out.below ((Below.refl q1.heap.size q1).drew))
  have W_2 := Lib.hid (W_1.out.trans (((Below.refl q1.heap.size q1).drew).mono W_1.out.size))
  clear B_1 x_1 W_1
  generalize q1.drew = d2 at B_2 x_2 W_2 ⊢
  refine seqR_at (o := ?_) ?_ ?_
  rotate_left
  · (conv => (lhs; whnf; arg 1; whnf))
  refine seqR_y (v := ?_) (by rfl) (fun W hW => ?_) ?_
  rotate_left
  · go_simp; try with_reducible rfl
  try simp only [Act.put, List.setIfInBounds_toArray, List.set_cons_zero, List.set_cons_succ]
  refine seqR_at (o := ?_) ?_ ?_
  rotate_left
  · (conv => (lhs; whnf; arg 1; whnf))
  refine seqR_y (v := ?_) (by rfl) (fun W hW => ?_) ?_
  rotate_left
  · go_simp; try with_reducible rfl
  try simp only [Act.put, List.setIfInBounds_toArray, List.set_cons_zero, List.set_cons_succ]
  refine seqR_at (o := ?_) ?_ ?_
  rotate_left
  · (conv => (lhs; whnf; arg 1; whnf))
  refine seqR_y (v := ?_) (by rfl) (fun W hW => ?_) ?_
  rotate_left
  · go_simp; try with_reducible rfl
  try simp only [Act.put, List.setIfInBounds_toArray, List.set_cons_zero, List.set_cons_succ]
  refine seqR_at (o := ?_) ?_ ?_
  rotate_left
  · (conv => (lhs; whnf; arg 1; whnf))
  refine seqR_y (v := ?_) (by rfl) (fun W hW => ?_) ?_
  rotate_left
  · (refine exec_ldN (x := .tmp 5) ntNat ?_ ?_ (x_2.out.below hW)) <;> rfl
  try simp only [Act.put, List.setIfInBounds_toArray, List.set_cons_zero, List.set_cons_succ]
  refine seqR_at (o := ?_) ?_ ?_
  rotate_left
  · (conv => (lhs; whnf; arg 1; whnf))
  refine seqR_y (v := ?_) (by rfl) (fun W hW => ?_) ?_
  rotate_left
  · go_simp; try with_reducible rfl
  try simp only [Act.put, List.setIfInBounds_toArray, List.set_cons_zero, List.set_cons_succ]
  refine seqR_at (o := ?_) ?_ ?_
  rotate_left
  · (conv => (lhs; whnf; arg 1; whnf))
  refine seqR_c (by rfl) (fun K hK => ?_)
  go_simp
  refine (of_any _ _ (by unfold maxI; exact HV.out)).mono ?_
  rintro e p3 ⟨v3, rfl, hv, hb, _⟩
  have B_3 := Lib.hid (B_2.out.below hb)
  have x_3 := Lib.hid (x_2.out.below hb)
  have W_3 := Lib.hid (W_2.out.trans (hb.mono W_2.out.size))
  refine hK _ _ hb ?_
  clear hK K hb B_2 x_2 W_2
  have r_3 := Lib.hid hv; clear hv
  try simp only [Act.put, List.setIfInBounds_toArray, List.set_cons_zero, List.set_cons_succ]
  refine seqR_at (o := ?_) ?_ ?_
  rotate_left
  · (conv => (lhs; whnf; arg 1; whnf))
  refine seqR_c (by rfl) (fun K hK => ?_)
  go_simp
  refine (same_ok _ _ HFv.out r_3.out HSv.out (decide_eq_true rfl)).mono ?_
  rintro e p4 ⟨rfl, hb⟩
  have B_4 := Lib.hid (B_3.out.below hb)
  have x_4 := Lib.hid (x_3.out.below hb)
  have r_4 := Lib.hid (r_3.out.below hb)
  have W_4 := Lib.hid (W_3.out.trans (hb.mono W_3.out.size))
  refine hK _ _ hb ?_
  clear hK K hb B_3 x_3 r_3 W_3
  try simp only [Act.put, List.setIfInBounds_toArray, List.set_cons_zero, List.set_cons_succ]
  refine seqR_at (o := ?_) ?_ ?_
  rotate_left
  · (conv => (lhs; whnf; arg 1; whnf))
  refine seqR_y (v := ?_) (by rfl) (fun W hW => ?_) ?_
  rotate_left
  · go_simp; try with_reducible rfl
  try simp only [Act.put, List.setIfInBounds_toArray, List.set_cons_zero, List.set_cons_succ]
  refine seqR_at (o := ?_) ?_ ?_
  rotate_left
  · (conv => (lhs; whnf; arg 1; whnf))
  refine seqR_y (v := ?_) (by rfl) (fun W hW => ?_) ?_
  rotate_left
  · go_simp; try with_reducible rfl
  try simp only [Act.put, List.setIfInBounds_toArray, List.set_cons_zero, List.set_cons_succ]
  refine seqR_end ?_
  go_wp2_with (first | (refine wpl_ldN ntNat rfl rfl rfl x_4.out ?_) | (refine wpl_ldN_g ntNat rfl rfl rfl x_4.out ?_))
  clear r_4
  clear x_4
  refine (made_ok _ _ B_4.out HLm.out HEm.out HFm.out).mono ?_
  rintro e p5 ⟨v5, rfl, hv, hb⟩
  have XT0_5 := Lib.hid (NatAt.zero p5)
  have XA_5 := Lib.hid (below_zero hb hb.size)
  have hsz_5 : Hid (p4.heap.size ≤ p5.heap.size) := Lib.hid hb.size
  have XQ_5 := Lib.hid (below_zero (Below.refl p5.heap.size p5) (Nat.le_refl _))
  have XMp_5 := Lib.hid hv
  clear hv
  clear hb
  go_wp2_with (first | (refine wpl_stN ntNat rfl rfl rfl rfl XT0_5.out ?_; intro q5 hn hg; have XB0_5 := Lib.hid (XA_5.out.grown hg XA_5.out.size (fun j e => by injection e with e; rw [← e]; have := hsz_5.out; omega)); have XS00_5 := Lib.hid hn; have hq := XQ_5.out.grown hg XQ_5.out.size (fun j e => by injection e with e; rw [← e]; exact Nat.le_refl _); have B_5 := Lib.hid (B_4.out.below XB0_5.out); have W_5 := Lib.hid (W_4.out.trans (XB0_5.out.mono W_4.out.size)); have p_5 := Lib.hid (XMp_5.out.below hq); have y_5 := XS00_5; clear hn hg B_4 W_4 XMp_5 hq XQ_5 XT0_5 XA_5 XS00_5 XB0_5 hsz_5) | (refine wpl_ldN ntNat rfl rfl rfl y_5.out ?_) | (refine wpl_ldN_g ntNat rfl rfl rfl y_5.out ?_))
  clear B_5
  refine (HI.out _).mono ?_
  rintro e p6 ⟨rfl, hb⟩
  have p_6 := Lib.hid (p_5.out.below hb)
  have y_6 := Lib.hid (y_5.out.below hb)
  have W_6 := Lib.hid (W_5.out.trans (hb.mono W_5.out.size))
  clear hb p_5 y_5 W_5
  go_wp2_with (first | (refine wpl_ldN ntNat rfl rfl rfl y_6.out ?_) | (refine wpl_ldN_g ntNat rfl rfl rfl y_6.out ?_))
  refine (rof_ok _ _ HQ2.out (by decide)).mono ?_
  rintro e p7 ⟨v7, rfl, hv, hb, ho7⟩
  have p_7 := Lib.hid (p_6.out.below hb)
  have y_7 := Lib.hid (y_6.out.below hb)
  have W_7 := Lib.hid (W_6.out.trans (hb.mono W_6.out.size))
  clear hb ho7 p_6 y_6 W_6
  have r_7 := Lib.hid hv
  clear hv
  go_wp2_with (first | (refine wpl_ldN ntNat rfl rfl rfl y_7.out ?_) | (refine wpl_ldN_g ntNat rfl rfl rfl y_7.out ?_))
  refine (rcompare_ok _ _ _ p_7.out r_7.out HSm.out HSq.out HCq.out).mono ?_
  rintro e p8 ⟨rfl, rfl⟩
  go_wp2_with (first | (refine wpl_ldN ntNat rfl rfl rfl y_7.out ?_) | (refine wpl_ldN_g ntNat rfl rfl rfl y_7.out ?_))
  clear r_7
  refine (known_any _).mono ?_
  rintro e p9 ⟨rfl, hb⟩
  have p_9 := Lib.hid (p_7.out.below hb)
  have y_9 := Lib.hid (y_7.out.below hb)
  have W_9 := Lib.hid (W_7.out.trans (hb.mono W_7.out.size))
  clear hb p_7 y_7 W_7
  go_wp2_with (first | (refine wpl_ldN ntNat rfl rfl rfl y_9.out ?_) | (refine wpl_ldN_g ntNat rfl rfl rfl y_9.out ?_))
  go_ret
  exact ⟨rfl, W_9.out⟩

set_option maxHeartbeats 6400000 in
theorem ints_p_small (v : Nat) (vb : Value) (xb : List UInt8) (w : World) (hv : (v : Int) ≤ 9223372036854775807) (hb : Byt w vb xb) (m : Nat) (hm : numN xb = m) (hl : xb.length ≤ 200) (hf : Fit m) (hq : ¬ q62 < m) :
    Calls Try.prog 4 #[.int .i64 (v : Int), vb] w fun e w' => e = .returned (.bool true) ∧ Below w.heap.size w w' := by
  have HB := Lib.hid hb
  obtain ⟨B, d, rfl, -⟩ := hb.len
  have HV := Lib.hid hv
  have HEm := Lib.hid hm
  have HFv : Hid (Fit v) := Lib.hid (fit_int hv)
  have HSv : Hid (Sz v) := Lib.hid (sz_int hv)
  have d0 : decide (200 < (xb.length : Int)) = false := decide_eq_false (by omega)
  have HLm := Lib.hid hl
  have HSm := Lib.hid (sz_num HLm.out)
  rw [hm] at HSm
  have HFm := Lib.hid hf
  have HQ := Lib.hid hq
  have HQ2 : Hid ((4611686018427387904 : Int) = ((q62 : Nat) : Int)) := Lib.hid (by unfold q62; rfl)
  have HSq : Hid (Sz q62) := Lib.hid sz_q62
  obtain ⟨c, hc⟩ : ∃ c, cmpI m q62 = c := ⟨_, rfl⟩
  have HCq := Lib.hid hc
  have d1 : decide (0 < c) = false := by rw [← hc]; unfold cmpI; rw [if_neg hq]; split <;> rfl
  have HI := Lib.hid (int_small hf hq)
  have HMI : Hid ((m : Int) ≤ 9223372036854775807) := Lib.hid (small_int hq)
  clear hc
  clear hq
  clear hb hv hm hl hf
  go_enter Try.func4, Try.ntmps4
  go_wp2_with fail
  refine (fromInt_pos _ _ HV.out).mono ?_
  rintro e p1 ⟨rfl, hb⟩
  have XT0_1 := Lib.hid (NatAt.zero p1)
  have XA_1 := Lib.hid (below_zero hb hb.size)
  have hsz_1 : Hid (w.heap.size ≤ p1.heap.size) := Lib.hid hb.size
  clear hb
  go_wp2_with (first | (refine wpl_stN ntNat rfl rfl rfl rfl XT0_1.out ?_; intro q1 hn hg; have XB0_1 := Lib.hid (XA_1.out.grown hg XA_1.out.size (fun j e => by injection e with e; rw [← e]; have := hsz_1.out; omega)); have XS00_1 := Lib.hid hn; have B_1 := Lib.hid (HB.out.below XB0_1.out); have W_1 := Lib.hid (XB0_1.out); have x_1 := XS00_1; clear hn hg HB XT0_1 XA_1 XS00_1 XB0_1 hsz_1) | (refine wpl_ldN ntNat rfl rfl rfl x_1.out ?_) | (refine wpl_ldN_g ntNat rfl rfl rfl x_1.out ?_))
  refine region_road Later [(0, true), (1, true), (2, true), (3, true), (4, true), (5, false), (6, false), (7, true), (8, true)] (by kernel_rfl) (by kernel_rfl) (by kernel_rfl) (by kernel_rfl) (by kernel_rfl) (by kernel_rfl) later_refl later_trans (fun _ _ d _ _ h => by cases d <;> exact h) ?_
  have B_2 := Lib.hid (B_1.out.below ((Below.refl q1.heap.size q1).drew))
  have x_2 := Lib.hid (x_1.out.below ((Below.refl q1.heap.size q1).drew))
  have W_2 := Lib.hid (W_1.out.trans (((Below.refl q1.heap.size q1).drew).mono W_1.out.size))
  clear B_1 x_1 W_1
  generalize q1.drew = d2 at B_2 x_2 W_2 ⊢
  refine seqR_at (o := ?_) ?_ ?_
  rotate_left
  · (conv => (lhs; whnf; arg 1; whnf))
  refine seqR_y (v := ?_) (by rfl) (fun W hW => ?_) ?_
  rotate_left
  · go_simp; try with_reducible rfl
  try simp only [Act.put, List.setIfInBounds_toArray, List.set_cons_zero, List.set_cons_succ]
  refine seqR_at (o := ?_) ?_ ?_
  rotate_left
  · (conv => (lhs; whnf; arg 1; whnf))
  refine seqR_y (v := ?_) (by rfl) (fun W hW => ?_) ?_
  rotate_left
  · go_simp; try with_reducible rfl
  try simp only [Act.put, List.setIfInBounds_toArray, List.set_cons_zero, List.set_cons_succ]
  refine seqR_at (o := ?_) ?_ ?_
  rotate_left
  · (conv => (lhs; whnf; arg 1; whnf))
  refine seqR_y (v := ?_) (by rfl) (fun W hW => ?_) ?_
  rotate_left
  · go_simp; try with_reducible rfl
  try simp only [Act.put, List.setIfInBounds_toArray, List.set_cons_zero, List.set_cons_succ]
  refine seqR_at (o := ?_) ?_ ?_
  rotate_left
  · (conv => (lhs; whnf; arg 1; whnf))
  refine seqR_y (v := ?_) (by rfl) (fun W hW => ?_) ?_
  rotate_left
  · (refine exec_ldN (x := .tmp 5) ntNat ?_ ?_ (x_2.out.below hW)) <;> rfl
  try simp only [Act.put, List.setIfInBounds_toArray, List.set_cons_zero, List.set_cons_succ]
  refine seqR_at (o := ?_) ?_ ?_
  rotate_left
  · (conv => (lhs; whnf; arg 1; whnf))
  refine seqR_y (v := ?_) (by rfl) (fun W hW => ?_) ?_
  rotate_left
  · go_simp; try with_reducible rfl
  try simp only [Act.put, List.setIfInBounds_toArray, List.set_cons_zero, List.set_cons_succ]
  refine seqR_at (o := ?_) ?_ ?_
  rotate_left
  · (conv => (lhs; whnf; arg 1; whnf))
  refine seqR_c (by rfl) (fun K hK => ?_)
  go_simp
  refine (of_any _ _ (by unfold maxI; exact HV.out)).mono ?_
  rintro e p3 ⟨v3, rfl, hv, hb, _⟩
  have B_3 := Lib.hid (B_2.out.below hb)
  have x_3 := Lib.hid (x_2.out.below hb)
  have W_3 := Lib.hid (W_2.out.trans (hb.mono W_2.out.size))
  refine hK _ _ hb ?_
  clear hK K hb B_2 x_2 W_2
  have r_3 := Lib.hid hv; clear hv
  try simp only [Act.put, List.setIfInBounds_toArray, List.set_cons_zero, List.set_cons_succ]
  refine seqR_at (o := ?_) ?_ ?_
  rotate_left
  · (conv => (lhs; whnf; arg 1; whnf))
  refine seqR_c (by rfl) (fun K hK => ?_)
  go_simp
  refine (same_ok _ _ HFv.out r_3.out HSv.out (decide_eq_true rfl)).mono ?_
  rintro e p4 ⟨rfl, hb⟩
  have B_4 := Lib.hid (B_3.out.below hb)
  have x_4 := Lib.hid (x_3.out.below hb)
  have r_4 := Lib.hid (r_3.out.below hb)
  have W_4 := Lib.hid (W_3.out.trans (hb.mono W_3.out.size))
  refine hK _ _ hb ?_
  clear hK K hb B_3 x_3 r_3 W_3
  try simp only [Act.put, List.setIfInBounds_toArray, List.set_cons_zero, List.set_cons_succ]
  refine seqR_at (o := ?_) ?_ ?_
  rotate_left
  · (conv => (lhs; whnf; arg 1; whnf))
  refine seqR_y (v := ?_) (by rfl) (fun W hW => ?_) ?_
  rotate_left
  · go_simp; try with_reducible rfl
  try simp only [Act.put, List.setIfInBounds_toArray, List.set_cons_zero, List.set_cons_succ]
  refine seqR_at (o := ?_) ?_ ?_
  rotate_left
  · (conv => (lhs; whnf; arg 1; whnf))
  refine seqR_y (v := ?_) (by rfl) (fun W hW => ?_) ?_
  rotate_left
  · go_simp; try with_reducible rfl
  try simp only [Act.put, List.setIfInBounds_toArray, List.set_cons_zero, List.set_cons_succ]
  refine seqR_end ?_
  go_wp2_with (first | (refine wpl_ldN ntNat rfl rfl rfl x_4.out ?_) | (refine wpl_ldN_g ntNat rfl rfl rfl x_4.out ?_))
  clear r_4
  clear x_4
  refine (made_ok _ _ B_4.out HLm.out HEm.out HFm.out).mono ?_
  rintro e p5 ⟨v5, rfl, hv, hb⟩
  have XT0_5 := Lib.hid (NatAt.zero p5)
  have XA_5 := Lib.hid (below_zero hb hb.size)
  have hsz_5 : Hid (p4.heap.size ≤ p5.heap.size) := Lib.hid hb.size
  have XQ_5 := Lib.hid (below_zero (Below.refl p5.heap.size p5) (Nat.le_refl _))
  have XMp_5 := Lib.hid hv
  clear hv
  clear hb
  go_wp2_with (first | (refine wpl_stN ntNat rfl rfl rfl rfl XT0_5.out ?_; intro q5 hn hg; have XB0_5 := Lib.hid (XA_5.out.grown hg XA_5.out.size (fun j e => by injection e with e; rw [← e]; have := hsz_5.out; omega)); have XS00_5 := Lib.hid hn; have hq := XQ_5.out.grown hg XQ_5.out.size (fun j e => by injection e with e; rw [← e]; exact Nat.le_refl _); have B_5 := Lib.hid (B_4.out.below XB0_5.out); have W_5 := Lib.hid (W_4.out.trans (XB0_5.out.mono W_4.out.size)); have p_5 := Lib.hid (XMp_5.out.below hq); have y_5 := XS00_5; clear hn hg B_4 W_4 XMp_5 hq XQ_5 XT0_5 XA_5 XS00_5 XB0_5 hsz_5) | (refine wpl_ldN ntNat rfl rfl rfl y_5.out ?_) | (refine wpl_ldN_g ntNat rfl rfl rfl y_5.out ?_))
  clear B_5
  refine (HI.out _).mono ?_
  rintro e p6 ⟨rfl, hb⟩
  have p_6 := Lib.hid (p_5.out.below hb)
  have y_6 := Lib.hid (y_5.out.below hb)
  have W_6 := Lib.hid (W_5.out.trans (hb.mono W_5.out.size))
  clear hb p_5 y_5 W_5
  go_wp2_with (first | (refine wpl_ldN ntNat rfl rfl rfl y_6.out ?_) | (refine wpl_ldN_g ntNat rfl rfl rfl y_6.out ?_))
  refine (rof_ok _ _ HQ2.out (by decide)).mono ?_
  rintro e p7 ⟨v7, rfl, hv, hb, ho7⟩
  have p_7 := Lib.hid (p_6.out.below hb)
  have y_7 := Lib.hid (y_6.out.below hb)
  have W_7 := Lib.hid (W_6.out.trans (hb.mono W_6.out.size))
  clear hb ho7 p_6 y_6 W_6
  have r_7 := Lib.hid hv
  clear hv
  go_wp2_with (first | (refine wpl_ldN ntNat rfl rfl rfl y_7.out ?_) | (refine wpl_ldN_g ntNat rfl rfl rfl y_7.out ?_))
  refine (rcompare_ok _ _ _ p_7.out r_7.out HSm.out HSq.out HCq.out).mono ?_
  rintro e p8 ⟨rfl, rfl⟩
  go_wp2_with (first | (refine wpl_ldN ntNat rfl rfl rfl y_7.out ?_) | (refine wpl_ldN_g ntNat rfl rfl rfl y_7.out ?_))
  clear r_7
  refine (of_any _ _ (by unfold maxI; exact HMI.out)).mono ?_
  rintro e p9 ⟨v9, rfl, hv, hb, ho9⟩
  have p_9 := Lib.hid (p_7.out.below hb)
  have y_9 := Lib.hid (y_7.out.below hb)
  have W_9 := Lib.hid (W_7.out.trans (hb.mono W_7.out.size))
  clear hb ho9 p_7 y_7 W_7
  have r_9 := Lib.hid hv
  clear hv
  go_wp2_with (first | (refine wpl_ldN ntNat rfl rfl rfl y_9.out ?_) | (refine wpl_ldN_g ntNat rfl rfl rfl y_9.out ?_))
  refine (rcompare_ok _ _ _ p_9.out r_9.out HSm.out HSm.out (cmp_self m)).mono ?_
  rintro e p10 ⟨rfl, rfl⟩
  go_wp2_with (first | (refine wpl_ldN ntNat rfl rfl rfl y_9.out ?_) | (refine wpl_ldN_g ntNat rfl rfl rfl y_9.out ?_))
  refine (known_any _).mono ?_
  rintro e p11 ⟨rfl, hb⟩
  have p_11 := Lib.hid (p_9.out.below hb)
  have y_11 := Lib.hid (y_9.out.below hb)
  have r_11 := Lib.hid (r_9.out.below hb)
  have W_11 := Lib.hid (W_9.out.trans (hb.mono W_9.out.size))
  clear hb p_9 y_9 r_9 W_9
  go_wp2_with (first | (refine wpl_ldN ntNat rfl rfl rfl y_11.out ?_) | (refine wpl_ldN_g ntNat rfl rfl rfl y_11.out ?_))
  go_ret
  exact ⟨rfl, W_11.out⟩

theorem ints_any (v : Int) (vb : Value) (xb : List UInt8) (w : World) (hv : -9223372036854775808 ≤ v ∧ v ≤ 9223372036854775807) (hb : Byt w vb xb) :
    Calls Try.prog 4 #[.int .i64 v, vb] w fun e w' => e = .returned (.bool true) ∧ Below w.heap.size w w' := by
  have hx : (200 < xb.length) ∨ (xb.length ≤ 200 ∧ ¬ Fit (numN xb)) ∨ (xb.length ≤ 200 ∧ Fit (numN xb) ∧ q62 < numN xb) ∨ (xb.length ≤ 200 ∧ Fit (numN xb) ∧ ¬ q62 < numN xb) := by
    by_cases h1 : 200 < xb.length
    · exact .inl h1
    · by_cases h2 : Fit (numN xb)
      · by_cases h3 : q62 < numN xb
        · exact .inr (.inr (.inl ⟨by omega, h2, h3⟩))
        · exact .inr (.inr (.inr ⟨by omega, h2, h3⟩))
      · exact .inr (.inl ⟨by omega, h2⟩)
  by_cases hn : v < 0
  · rcases hx with h | ⟨h, k⟩ | ⟨h, k, l⟩ | ⟨h, k, l⟩
    · exact ints_n_long v vb xb w hn hb _ rfl h
    · exact ints_n_unfit v vb xb w hn hb _ rfl h k
    · exact ints_n_big v vb xb w hn hb _ rfl h k l
    · exact ints_n_small v vb xb w hn hb _ rfl h k l
  · obtain ⟨u, rfl⟩ := Int.eq_ofNat_of_zero_le (show 0 ≤ v by omega)
    rcases hx with h | ⟨h, k⟩ | ⟨h, k, l⟩ | ⟨h, k, l⟩
    · exact ints_p_long u vb xb w hv.2 hb _ rfl h
    · exact ints_p_unfit u vb xb w hv.2 hb _ rfl h k
    · exact ints_p_big u vb xb w hv.2 hb _ rfl h k l
    · exact ints_p_small u vb xb w hv.2 hb _ rfl h k l

end Go.Proofs.Ytomiapceefbmeaa
