/- Walk: the law NatDivides (printed by gennatlaw.py). -/
import Derived.Test.YtomiapceefbmeaaNatII
set_option linter.unusedVariables false
set_option linter.unusedSimpArgs false
set_option maxRecDepth 100000
namespace Go.Proofs.Ytomiapceefbmeaa
open Go.RowKit

set_option maxHeartbeats 6400000 in
theorem divides_z0 (va : Value) (xa : List UInt8) (vb : Value) (xb : List UInt8) (w : World) (ha : Byt w va xa) (hb : Byt w vb xb) (ll0 : xa.length ≤ 128) (ll1 : xb.length ≤ 128)
    (n m : Nat) (hn : numN xa = n) (hm : numN xb = m) (hz : m = 0) (h40 : xa.length ≤ 40 ∧ xb.length ≤ 40) :
    Calls Try.prog 6 #[va, vb] w fun e w' => e = .returned (.bool true) ∧ Below w.heap.size w w' := by
  have HA := Lib.hid ha
  have HB := Lib.hid hb
  obtain ⟨A, c, rfl, -⟩ := ha.len
  obtain ⟨B, d, rfl, -⟩ := hb.len
  have d0 : decide (128 < (xa.length : Int)) = false := decide_eq_false (by omega)
  have d1 : decide (128 < (xb.length : Int)) = false := decide_eq_false (by omega)
  have HLn : Hid (xa.length ≤ 200) := Lib.hid (by omega)
  have HLm : Hid (xb.length ≤ 200) := Lib.hid (by omega)
  have HSn := Lib.hid (sz_num HLn.out)
  have HSm := Lib.hid (sz_num HLm.out)
  have HFn := Lib.hid (fit_num (xs := xa) ll0)
  have HFm := Lib.hid (fit_num (xs := xb) ll1)
  have HCn := Lib.hid (c16_num HLn.out)
  have HCm := Lib.hid (c16_num HLm.out)
  rw [hn] at HSn HFn HCn
  rw [hm] at HSm HFm HCm
  have HEn := Lib.hid hn
  have HEm := Lib.hid hm
  have d2 : decide ((xa.length : Int) ≤ 40) = true := decide_eq_true (by omega)
  have d3 : decide ((xb.length : Int) ≤ 40) = true := decide_eq_true (by omega)
  clear ha hb ll0 ll1 hn hm h40
  obtain ⟨g, hg⟩ : ∃ g, Nat.gcd n m = g := ⟨_, rfl⟩
  have HG := Lib.hid hg
  have hgle : g ≤ n ∨ g ≤ m := by
    rw [← hg]
    rcases Nat.eq_zero_or_pos n with h | h
    · exact .inr (by rw [h, Nat.gcd_zero_left]; exact Nat.le_refl _)
    · exact .inl (Nat.gcd_le_left _ h)
  have HFg : Hid (Fit g) := Lib.hid (by rcases hgle with h | h; exact Nat.lt_of_le_of_lt h HFn.out; exact Nat.lt_of_le_of_lt h HFm.out)
  have HSg : Hid (Sz g) := Lib.hid (by rcases hgle with h | h; exact HSn.out.mono h; exact HSm.out.mono h)
  clear hg hgle
  obtain ⟨z, hzz⟩ : ∃ z : Nat, z = 0 := ⟨_, rfl⟩
  have HZ := Lib.hid hz
  have d4 : (((c16 m : Nat) : Int) == 0) = true := by rw [hz]; rfl
  clear hz hzz z
  go_enter Try.func6, Try.ntmps6
  go_wp2_with fail
  refine (made_ok _ _ HA.out HLn.out HEn.out HFn.out).mono ?_
  rintro e p1 ⟨v1, rfl, hv, hb⟩
  have XT0_1 := Lib.hid (NatAt.zero p1)
  have XA_1 := Lib.hid (below_zero hb hb.size)
  have hsz_1 : Hid (w.heap.size ≤ p1.heap.size) := Lib.hid hb.size
  have XQ_1 := Lib.hid (below_zero (Below.refl p1.heap.size p1) (Nat.le_refl _))
  have XMp_1 := Lib.hid hv
  clear hv
  clear hb
  go_wp2_with (first | go_skip | (refine wpl_stN ntNat rfl rfl rfl rfl XT0_1.out ?_; intro q1 hn hg; have XB0_1 := Lib.hid (XA_1.out.grown hg XA_1.out.size (fun j e => by injection e with e; rw [← e]; have := hsz_1.out; omega)); have XS00_1 := Lib.hid hn; have hq := XQ_1.out.grown hg XQ_1.out.size (fun j e => by injection e with e; rw [← e]; exact Nat.le_refl _); have A_1 := Lib.hid (HA.out.below XB0_1.out); have B_1 := Lib.hid (HB.out.below XB0_1.out); have W_1 := Lib.hid (XB0_1.out); have p_1 := Lib.hid (XMp_1.out.below hq); have x_1 := XS00_1; clear hn hg HA HB XMp_1 hq XQ_1 XT0_1 XA_1 XS00_1 XB0_1 hsz_1) | (refine wpl_ldN ntNat rfl rfl rfl x_1.out ?_) | (refine wpl_ldN_g ntNat rfl rfl rfl x_1.out ?_))
  refine (made_ok _ _ B_1.out HLm.out HEm.out HFm.out).mono ?_
  rintro e p2 ⟨v2, rfl, hv, hb⟩
  obtain ⟨As2, cs2, rfl, -⟩ := Lst.len hv
  have XT0_2 := Lib.hid (NatAt.zero p2)
  have XA_2 := Lib.hid (below_zero hb hb.size)
  have hsz_2 : Hid (q1.heap.size ≤ p2.heap.size) := Lib.hid hb.size
  have XQ_2 := Lib.hid (below_zero (Below.refl p2.heap.size p2) (Nat.le_refl _))
  have XMq_2 := Lib.hid hv
  clear hv
  clear hb
  go_wp2_with (first | go_skip | (refine wpl_stN ntNat rfl rfl rfl rfl XT0_2.out ?_; intro q2 hn hg; have XB0_2 := Lib.hid (XA_2.out.grown hg XA_2.out.size (fun j e => by injection e with e; rw [← e]; have := hsz_2.out; omega)); have XS00_2 := Lib.hid hn; have hq := XQ_2.out.grown hg XQ_2.out.size (fun j e => by injection e with e; rw [← e]; exact Nat.le_refl _); have A_2 := Lib.hid (A_1.out.below XB0_2.out); have B_2 := Lib.hid (B_1.out.below XB0_2.out); have p_2 := Lib.hid (p_1.out.below XB0_2.out); have x_2 := Lib.hid (x_1.out.below XB0_2.out); have W_2 := Lib.hid (W_1.out.trans (XB0_2.out.mono W_1.out.size)); have q_2 := Lib.hid (XMq_2.out.below hq); have y_2 := XS00_2; clear hn hg A_1 B_1 p_1 x_1 W_1 XMq_2 hq XQ_2 XT0_2 XA_2 XS00_2 XB0_2 hsz_2) | (refine wpl_ldN ntNat rfl rfl rfl x_2.out ?_) | (refine wpl_ldN_g ntNat rfl rfl rfl x_2.out ?_) | (refine wpl_ldN ntNat rfl rfl rfl y_2.out ?_) | (refine wpl_ldN_g ntNat rfl rfl rfl y_2.out ?_))
  clear A_2
  clear B_2
  refine (gcd_ok _ HFn.out HFm.out HG.out).mono ?_
  rintro e p3 ⟨rfl, hb⟩
  have p_3 := Lib.hid (p_2.out.below hb)
  have x_3 := Lib.hid (x_2.out.below hb)
  have q_3 := Lib.hid (q_2.out.below hb)
  have y_3 := Lib.hid (y_2.out.below hb)
  have W_3 := Lib.hid (W_2.out.trans (hb.mono W_2.out.size))
  clear hb p_2 x_2 q_2 y_2 W_2
  go_wp2_with (first | go_skip | (refine wpl_ldN ntNat rfl rfl rfl x_3.out ?_) | (refine wpl_ldN_g ntNat rfl rfl rfl x_3.out ?_) | (refine wpl_ldN ntNat rfl rfl rfl y_3.out ?_) | (refine wpl_ldN_g ntNat rfl rfl rfl y_3.out ?_))
  refine (rgcd_any _ _ _ _ _ p_3.out q_3.out (Nat.le_trans HCn.out (by decide)) (Nat.le_trans HCm.out (by decide))).mono ?_
  rintro e p4 ⟨v4, rfl, hv, hb⟩
  have p_4 := Lib.hid (p_3.out.below hb)
  have x_4 := Lib.hid (x_3.out.below hb)
  have q_4 := Lib.hid (q_3.out.below hb)
  have y_4 := Lib.hid (y_3.out.below hb)
  have W_4 := Lib.hid (W_3.out.trans (hb.mono W_3.out.size))
  clear hb p_3 x_3 q_3 y_3 W_3
  rw [HG.out] at hv
  have g_4 := Lib.hid hv
  clear hv
  go_wp2_with (first | go_skip | (refine wpl_ldN ntNat rfl rfl rfl x_4.out ?_) | (refine wpl_ldN_g ntNat rfl rfl rfl x_4.out ?_) | (refine wpl_ldN ntNat rfl rfl rfl y_4.out ?_) | (refine wpl_ldN_g ntNat rfl rfl rfl y_4.out ?_))
  refine (same_ok _ _ HFg.out g_4.out HSg.out (decide_eq_true rfl)).mono ?_
  rintro e p5 ⟨rfl, hb⟩
  have p_5 := Lib.hid (p_4.out.below hb)
  have x_5 := Lib.hid (x_4.out.below hb)
  have q_5 := Lib.hid (q_4.out.below hb)
  have y_5 := Lib.hid (y_4.out.below hb)
  have g_5 := Lib.hid (g_4.out.below hb)
  have W_5 := Lib.hid (W_4.out.trans (hb.mono W_4.out.size))
  clear hb p_4 x_4 q_4 y_4 g_4 W_4
  go_wp2_with (first | go_skip | (refine wpl_ldN ntNat rfl rfl rfl x_5.out ?_) | (refine wpl_ldN_g ntNat rfl rfl rfl x_5.out ?_) | (refine wpl_ldN ntNat rfl rfl rfl y_5.out ?_) | (refine wpl_ldN_g ntNat rfl rfl rfl y_5.out ?_))
  clear g_5
  refine (div_zero' _ HFn.out HZ.out).mono ?_
  rintro e p6 ⟨rfl, hb⟩
  have XT0_6 := Lib.hid (NatAt.zeroA p6)
  have XT1_6 := Lib.hid (NatAt.zeroB p6)
  have XA_6 := Lib.hid (below_zero (below_zero hb hb.size) (by have := hb.size; simp; omega))
  have hsz_6 : Hid (p5.heap.size ≤ p6.heap.size) := Lib.hid hb.size
  clear hb
  go_wp2_with (first | go_skip | (refine wpl_stN ntNat rfl rfl rfl rfl XT0_6.out ?_; intro r6_0 hn hg; have XB0_6 := Lib.hid (XA_6.out.grown hg XA_6.out.size (fun j e => by injection e with e; rw [← e]; have := hsz_6.out; omega)); have XS00_6 := Lib.hid hn; have XS01_6 := Lib.hid (XT1_6.out.grown hg (by simp)); clear hn hg XT0_6 XT1_6 XA_6) | (refine wpl_stN ntNat rfl rfl rfl rfl XS01_6.out ?_; intro q6 hn hg; have XB1_6 := Lib.hid (XB0_6.out.grown hg XB0_6.out.size (fun j e => by injection e with e; rw [← e]; have := hsz_6.out; omega)); have XS10_6 := Lib.hid (XS00_6.out.grown hg (by simp)); have XS11_6 := Lib.hid hn; have p_6 := Lib.hid (p_5.out.below XB1_6.out); have x_6 := Lib.hid (x_5.out.below XB1_6.out); have q_6 := Lib.hid (q_5.out.below XB1_6.out); have y_6 := Lib.hid (y_5.out.below XB1_6.out); have W_6 := Lib.hid (W_5.out.trans (XB1_6.out.mono W_5.out.size)); have s_6 := XS10_6; have t_6 := XS11_6; clear hn hg p_5 x_5 q_5 y_5 W_5 XS00_6 XS01_6 XB0_6 XS10_6 XS11_6 XB1_6 hsz_6) | (refine wpl_ldN ntNat rfl rfl rfl x_6.out ?_) | (refine wpl_ldN_g ntNat rfl rfl rfl x_6.out ?_) | (refine wpl_ldN ntNat rfl rfl rfl y_6.out ?_) | (refine wpl_ldN_g ntNat rfl rfl rfl y_6.out ?_) | (refine wpl_ldN ntNat rfl rfl rfl s_6.out ?_) | (refine wpl_ldN_g ntNat rfl rfl rfl s_6.out ?_) | (refine wpl_ldN ntNat rfl rfl rfl t_6.out ?_) | (refine wpl_ldN_g ntNat rfl rfl rfl t_6.out ?_))
  refine (isZero_zero _).mono ?_
  rintro e p7 ⟨rfl, hb⟩
  have p_7 := Lib.hid (p_6.out.below hb)
  have x_7 := Lib.hid (x_6.out.below hb)
  have q_7 := Lib.hid (q_6.out.below hb)
  have y_7 := Lib.hid (y_6.out.below hb)
  have s_7 := Lib.hid (s_6.out.below hb)
  have t_7 := Lib.hid (t_6.out.below hb)
  have W_7 := Lib.hid (W_6.out.trans (hb.mono W_6.out.size))
  clear hb p_6 x_6 q_6 y_6 s_6 t_6 W_6
  go_wp2_with (first | go_skip | (refine wpl_ldN ntNat rfl rfl rfl x_7.out ?_) | (refine wpl_ldN_g ntNat rfl rfl rfl x_7.out ?_) | (refine wpl_ldN ntNat rfl rfl rfl y_7.out ?_) | (refine wpl_ldN_g ntNat rfl rfl rfl y_7.out ?_) | (refine wpl_ldN ntNat rfl rfl rfl s_7.out ?_) | (refine wpl_ldN_g ntNat rfl rfl rfl s_7.out ?_) | (refine wpl_ldN ntNat rfl rfl rfl t_7.out ?_) | (refine wpl_ldN_g ntNat rfl rfl rfl t_7.out ?_))
  refine (isZero_zero _).mono ?_
  rintro e p8 ⟨rfl, hb⟩
  have p_8 := Lib.hid (p_7.out.below hb)
  have x_8 := Lib.hid (x_7.out.below hb)
  have q_8 := Lib.hid (q_7.out.below hb)
  have y_8 := Lib.hid (y_7.out.below hb)
  have s_8 := Lib.hid (s_7.out.below hb)
  have t_8 := Lib.hid (t_7.out.below hb)
  have W_8 := Lib.hid (W_7.out.trans (hb.mono W_7.out.size))
  clear hb p_7 x_7 q_7 y_7 s_7 t_7 W_7
  go_wp2_with (first | go_skip | (refine wpl_ldN ntNat rfl rfl rfl x_8.out ?_) | (refine wpl_ldN_g ntNat rfl rfl rfl x_8.out ?_) | (refine wpl_ldN ntNat rfl rfl rfl y_8.out ?_) | (refine wpl_ldN_g ntNat rfl rfl rfl y_8.out ?_) | (refine wpl_ldN ntNat rfl rfl rfl s_8.out ?_) | (refine wpl_ldN_g ntNat rfl rfl rfl s_8.out ?_) | (refine wpl_ldN ntNat rfl rfl rfl t_8.out ?_) | (refine wpl_ldN_g ntNat rfl rfl rfl t_8.out ?_))
  refine (known_any _).mono ?_
  rintro e p9 ⟨rfl, hb⟩
  have p_9 := Lib.hid (p_8.out.below hb)
  have x_9 := Lib.hid (x_8.out.below hb)
  have q_9 := Lib.hid (q_8.out.below hb)
  have y_9 := Lib.hid (y_8.out.below hb)
  have s_9 := Lib.hid (s_8.out.below hb)
  have t_9 := Lib.hid (t_8.out.below hb)
  have W_9 := Lib.hid (W_8.out.trans (hb.mono W_8.out.size))
  clear hb p_8 x_8 q_8 y_8 s_8 t_8 W_8
  go_wp2_with (first | go_skip | (refine wpl_ldN ntNat rfl rfl rfl x_9.out ?_) | (refine wpl_ldN_g ntNat rfl rfl rfl x_9.out ?_) | (refine wpl_ldN ntNat rfl rfl rfl y_9.out ?_) | (refine wpl_ldN_g ntNat rfl rfl rfl y_9.out ?_) | (refine wpl_ldN ntNat rfl rfl rfl s_9.out ?_) | (refine wpl_ldN_g ntNat rfl rfl rfl s_9.out ?_) | (refine wpl_ldN ntNat rfl rfl rfl t_9.out ?_) | (refine wpl_ldN_g ntNat rfl rfl rfl t_9.out ?_))
  go_ret
  exact ⟨rfl, W_9.out⟩

set_option maxHeartbeats 6400000 in
theorem divides_z1 (va : Value) (xa : List UInt8) (vb : Value) (xb : List UInt8) (w : World) (ha : Byt w va xa) (hb : Byt w vb xb) (ll0 : xa.length ≤ 128) (ll1 : xb.length ≤ 128)
    (n m : Nat) (hn : numN xa = n) (hm : numN xb = m) (hz : m = 0) (h40 : 40 < xa.length) :
    Calls Try.prog 6 #[va, vb] w fun e w' => e = .returned (.bool true) ∧ Below w.heap.size w w' := by
  have HA := Lib.hid ha
  have HB := Lib.hid hb
  obtain ⟨A, c, rfl, -⟩ := ha.len
  obtain ⟨B, d, rfl, -⟩ := hb.len
  have d0 : decide (128 < (xa.length : Int)) = false := decide_eq_false (by omega)
  have d1 : decide (128 < (xb.length : Int)) = false := decide_eq_false (by omega)
  have HLn : Hid (xa.length ≤ 200) := Lib.hid (by omega)
  have HLm : Hid (xb.length ≤ 200) := Lib.hid (by omega)
  have HSn := Lib.hid (sz_num HLn.out)
  have HSm := Lib.hid (sz_num HLm.out)
  have HFn := Lib.hid (fit_num (xs := xa) ll0)
  have HFm := Lib.hid (fit_num (xs := xb) ll1)
  have HCn := Lib.hid (c16_num HLn.out)
  have HCm := Lib.hid (c16_num HLm.out)
  rw [hn] at HSn HFn HCn
  rw [hm] at HSm HFm HCm
  have HEn := Lib.hid hn
  have HEm := Lib.hid hm
  have d2 : decide ((xa.length : Int) ≤ 40) = false := decide_eq_false (by omega)
  clear ha hb ll0 ll1 hn hm h40
  obtain ⟨z, hzz⟩ : ∃ z : Nat, z = 0 := ⟨_, rfl⟩
  have HZ := Lib.hid hz
  have d4 : (((c16 m : Nat) : Int) == 0) = true := by rw [hz]; rfl
  clear hz hzz z
  go_enter Try.func6, Try.ntmps6
  go_wp2_with fail
  refine (made_ok _ _ HA.out HLn.out HEn.out HFn.out).mono ?_
  rintro e p1 ⟨v1, rfl, hv, hb⟩
  have XT0_1 := Lib.hid (NatAt.zero p1)
  have XA_1 := Lib.hid (below_zero hb hb.size)
  have hsz_1 : Hid (w.heap.size ≤ p1.heap.size) := Lib.hid hb.size
  have XQ_1 := Lib.hid (below_zero (Below.refl p1.heap.size p1) (Nat.le_refl _))
  have XMp_1 := Lib.hid hv
  clear hv
  clear hb
  go_wp2_with (first | go_skip | (refine wpl_stN ntNat rfl rfl rfl rfl XT0_1.out ?_; intro q1 hn hg; have XB0_1 := Lib.hid (XA_1.out.grown hg XA_1.out.size (fun j e => by injection e with e; rw [← e]; have := hsz_1.out; omega)); have XS00_1 := Lib.hid hn; have hq := XQ_1.out.grown hg XQ_1.out.size (fun j e => by injection e with e; rw [← e]; exact Nat.le_refl _); have A_1 := Lib.hid (HA.out.below XB0_1.out); have B_1 := Lib.hid (HB.out.below XB0_1.out); have W_1 := Lib.hid (XB0_1.out); have p_1 := Lib.hid (XMp_1.out.below hq); have x_1 := XS00_1; clear hn hg HA HB XMp_1 hq XQ_1 XT0_1 XA_1 XS00_1 XB0_1 hsz_1) | (refine wpl_ldN ntNat rfl rfl rfl x_1.out ?_) | (refine wpl_ldN_g ntNat rfl rfl rfl x_1.out ?_))
  refine (made_ok _ _ B_1.out HLm.out HEm.out HFm.out).mono ?_
  rintro e p2 ⟨v2, rfl, hv, hb⟩
  obtain ⟨As2, cs2, rfl, -⟩ := Lst.len hv
  have XT0_2 := Lib.hid (NatAt.zero p2)
  have XA_2 := Lib.hid (below_zero hb hb.size)
  have hsz_2 : Hid (q1.heap.size ≤ p2.heap.size) := Lib.hid hb.size
  have XQ_2 := Lib.hid (below_zero (Below.refl p2.heap.size p2) (Nat.le_refl _))
  have XMq_2 := Lib.hid hv
  clear hv
  clear hb
  go_wp2_with (first | go_skip | (refine wpl_stN ntNat rfl rfl rfl rfl XT0_2.out ?_; intro q2 hn hg; have XB0_2 := Lib.hid (XA_2.out.grown hg XA_2.out.size (fun j e => by injection e with e; rw [← e]; have := hsz_2.out; omega)); have XS00_2 := Lib.hid hn; have hq := XQ_2.out.grown hg XQ_2.out.size (fun j e => by injection e with e; rw [← e]; exact Nat.le_refl _); have A_2 := Lib.hid (A_1.out.below XB0_2.out); have B_2 := Lib.hid (B_1.out.below XB0_2.out); have p_2 := Lib.hid (p_1.out.below XB0_2.out); have x_2 := Lib.hid (x_1.out.below XB0_2.out); have W_2 := Lib.hid (W_1.out.trans (XB0_2.out.mono W_1.out.size)); have q_2 := Lib.hid (XMq_2.out.below hq); have y_2 := XS00_2; clear hn hg A_1 B_1 p_1 x_1 W_1 XMq_2 hq XQ_2 XT0_2 XA_2 XS00_2 XB0_2 hsz_2) | (refine wpl_ldN ntNat rfl rfl rfl x_2.out ?_) | (refine wpl_ldN_g ntNat rfl rfl rfl x_2.out ?_) | (refine wpl_ldN ntNat rfl rfl rfl y_2.out ?_) | (refine wpl_ldN_g ntNat rfl rfl rfl y_2.out ?_))
  clear A_2
  clear B_2
  refine (div_zero' _ HFn.out HZ.out).mono ?_
  rintro e p3 ⟨rfl, hb⟩
  have XT0_3 := Lib.hid (NatAt.zeroA p3)
  have XT1_3 := Lib.hid (NatAt.zeroB p3)
  have XA_3 := Lib.hid (below_zero (below_zero hb hb.size) (by have := hb.size; simp; omega))
  have hsz_3 : Hid (q2.heap.size ≤ p3.heap.size) := Lib.hid hb.size
  clear hb
  go_wp2_with (first | go_skip | (refine wpl_stN ntNat rfl rfl rfl rfl XT0_3.out ?_; intro r3_0 hn hg; have XB0_3 := Lib.hid (XA_3.out.grown hg XA_3.out.size (fun j e => by injection e with e; rw [← e]; have := hsz_3.out; omega)); have XS00_3 := Lib.hid hn; have XS01_3 := Lib.hid (XT1_3.out.grown hg (by simp)); clear hn hg XT0_3 XT1_3 XA_3) | (refine wpl_stN ntNat rfl rfl rfl rfl XS01_3.out ?_; intro q3 hn hg; have XB1_3 := Lib.hid (XB0_3.out.grown hg XB0_3.out.size (fun j e => by injection e with e; rw [← e]; have := hsz_3.out; omega)); have XS10_3 := Lib.hid (XS00_3.out.grown hg (by simp)); have XS11_3 := Lib.hid hn; have p_3 := Lib.hid (p_2.out.below XB1_3.out); have x_3 := Lib.hid (x_2.out.below XB1_3.out); have q_3 := Lib.hid (q_2.out.below XB1_3.out); have y_3 := Lib.hid (y_2.out.below XB1_3.out); have W_3 := Lib.hid (W_2.out.trans (XB1_3.out.mono W_2.out.size)); have s_3 := XS10_3; have t_3 := XS11_3; clear hn hg p_2 x_2 q_2 y_2 W_2 XS00_3 XS01_3 XB0_3 XS10_3 XS11_3 XB1_3 hsz_3) | (refine wpl_ldN ntNat rfl rfl rfl x_3.out ?_) | (refine wpl_ldN_g ntNat rfl rfl rfl x_3.out ?_) | (refine wpl_ldN ntNat rfl rfl rfl y_3.out ?_) | (refine wpl_ldN_g ntNat rfl rfl rfl y_3.out ?_) | (refine wpl_ldN ntNat rfl rfl rfl s_3.out ?_) | (refine wpl_ldN_g ntNat rfl rfl rfl s_3.out ?_) | (refine wpl_ldN ntNat rfl rfl rfl t_3.out ?_) | (refine wpl_ldN_g ntNat rfl rfl rfl t_3.out ?_))
  refine (isZero_zero _).mono ?_
  rintro e p4 ⟨rfl, hb⟩
  have p_4 := Lib.hid (p_3.out.below hb)
  have x_4 := Lib.hid (x_3.out.below hb)
  have q_4 := Lib.hid (q_3.out.below hb)
  have y_4 := Lib.hid (y_3.out.below hb)
  have s_4 := Lib.hid (s_3.out.below hb)
  have t_4 := Lib.hid (t_3.out.below hb)
  have W_4 := Lib.hid (W_3.out.trans (hb.mono W_3.out.size))
  clear hb p_3 x_3 q_3 y_3 s_3 t_3 W_3
  go_wp2_with (first | go_skip | (refine wpl_ldN ntNat rfl rfl rfl x_4.out ?_) | (refine wpl_ldN_g ntNat rfl rfl rfl x_4.out ?_) | (refine wpl_ldN ntNat rfl rfl rfl y_4.out ?_) | (refine wpl_ldN_g ntNat rfl rfl rfl y_4.out ?_) | (refine wpl_ldN ntNat rfl rfl rfl s_4.out ?_) | (refine wpl_ldN_g ntNat rfl rfl rfl s_4.out ?_) | (refine wpl_ldN ntNat rfl rfl rfl t_4.out ?_) | (refine wpl_ldN_g ntNat rfl rfl rfl t_4.out ?_))
  refine (isZero_zero _).mono ?_
  rintro e p5 ⟨rfl, hb⟩
  have p_5 := Lib.hid (p_4.out.below hb)
  have x_5 := Lib.hid (x_4.out.below hb)
  have q_5 := Lib.hid (q_4.out.below hb)
  have y_5 := Lib.hid (y_4.out.below hb)
  have s_5 := Lib.hid (s_4.out.below hb)
  have t_5 := Lib.hid (t_4.out.below hb)
  have W_5 := Lib.hid (W_4.out.trans (hb.mono W_4.out.size))
  clear hb p_4 x_4 q_4 y_4 s_4 t_4 W_4
  go_wp2_with (first | go_skip | (refine wpl_ldN ntNat rfl rfl rfl x_5.out ?_) | (refine wpl_ldN_g ntNat rfl rfl rfl x_5.out ?_) | (refine wpl_ldN ntNat rfl rfl rfl y_5.out ?_) | (refine wpl_ldN_g ntNat rfl rfl rfl y_5.out ?_) | (refine wpl_ldN ntNat rfl rfl rfl s_5.out ?_) | (refine wpl_ldN_g ntNat rfl rfl rfl s_5.out ?_) | (refine wpl_ldN ntNat rfl rfl rfl t_5.out ?_) | (refine wpl_ldN_g ntNat rfl rfl rfl t_5.out ?_))
  refine (known_any _).mono ?_
  rintro e p6 ⟨rfl, hb⟩
  have p_6 := Lib.hid (p_5.out.below hb)
  have x_6 := Lib.hid (x_5.out.below hb)
  have q_6 := Lib.hid (q_5.out.below hb)
  have y_6 := Lib.hid (y_5.out.below hb)
  have s_6 := Lib.hid (s_5.out.below hb)
  have t_6 := Lib.hid (t_5.out.below hb)
  have W_6 := Lib.hid (W_5.out.trans (hb.mono W_5.out.size))
  clear hb p_5 x_5 q_5 y_5 s_5 t_5 W_5
  go_wp2_with (first | go_skip | (refine wpl_ldN ntNat rfl rfl rfl x_6.out ?_) | (refine wpl_ldN_g ntNat rfl rfl rfl x_6.out ?_) | (refine wpl_ldN ntNat rfl rfl rfl y_6.out ?_) | (refine wpl_ldN_g ntNat rfl rfl rfl y_6.out ?_) | (refine wpl_ldN ntNat rfl rfl rfl s_6.out ?_) | (refine wpl_ldN_g ntNat rfl rfl rfl s_6.out ?_) | (refine wpl_ldN ntNat rfl rfl rfl t_6.out ?_) | (refine wpl_ldN_g ntNat rfl rfl rfl t_6.out ?_))
  go_ret
  exact ⟨rfl, W_6.out⟩

set_option maxHeartbeats 6400000 in
theorem divides_z2 (va : Value) (xa : List UInt8) (vb : Value) (xb : List UInt8) (w : World) (ha : Byt w va xa) (hb : Byt w vb xb) (ll0 : xa.length ≤ 128) (ll1 : xb.length ≤ 128)
    (n m : Nat) (hn : numN xa = n) (hm : numN xb = m) (hz : m = 0) (h40 : xa.length ≤ 40 ∧ 40 < xb.length) :
    Calls Try.prog 6 #[va, vb] w fun e w' => e = .returned (.bool true) ∧ Below w.heap.size w w' := by
  have HA := Lib.hid ha
  have HB := Lib.hid hb
  obtain ⟨A, c, rfl, -⟩ := ha.len
  obtain ⟨B, d, rfl, -⟩ := hb.len
  have d0 : decide (128 < (xa.length : Int)) = false := decide_eq_false (by omega)
  have d1 : decide (128 < (xb.length : Int)) = false := decide_eq_false (by omega)
  have HLn : Hid (xa.length ≤ 200) := Lib.hid (by omega)
  have HLm : Hid (xb.length ≤ 200) := Lib.hid (by omega)
  have HSn := Lib.hid (sz_num HLn.out)
  have HSm := Lib.hid (sz_num HLm.out)
  have HFn := Lib.hid (fit_num (xs := xa) ll0)
  have HFm := Lib.hid (fit_num (xs := xb) ll1)
  have HCn := Lib.hid (c16_num HLn.out)
  have HCm := Lib.hid (c16_num HLm.out)
  rw [hn] at HSn HFn HCn
  rw [hm] at HSm HFm HCm
  have HEn := Lib.hid hn
  have HEm := Lib.hid hm
  have d2 : decide ((xa.length : Int) ≤ 40) = true := decide_eq_true (by omega)
  have d3 : decide ((xb.length : Int) ≤ 40) = false := decide_eq_false (by omega)
  clear ha hb ll0 ll1 hn hm h40
  obtain ⟨z, hzz⟩ : ∃ z : Nat, z = 0 := ⟨_, rfl⟩
  have HZ := Lib.hid hz
  have d4 : (((c16 m : Nat) : Int) == 0) = true := by rw [hz]; rfl
  clear hz hzz z
  go_enter Try.func6, Try.ntmps6
  go_wp2_with fail
  refine (made_ok _ _ HA.out HLn.out HEn.out HFn.out).mono ?_
  rintro e p1 ⟨v1, rfl, hv, hb⟩
  have XT0_1 := Lib.hid (NatAt.zero p1)
  have XA_1 := Lib.hid (below_zero hb hb.size)
  have hsz_1 : Hid (w.heap.size ≤ p1.heap.size) := Lib.hid hb.size
  have XQ_1 := Lib.hid (below_zero (Below.refl p1.heap.size p1) (Nat.le_refl _))
  have XMp_1 := Lib.hid hv
  clear hv
  clear hb
  go_wp2_with (first | go_skip | (refine wpl_stN ntNat rfl rfl rfl rfl XT0_1.out ?_; intro q1 hn hg; have XB0_1 := Lib.hid (XA_1.out.grown hg XA_1.out.size (fun j e => by injection e with e; rw [← e]; have := hsz_1.out; omega)); have XS00_1 := Lib.hid hn; have hq := XQ_1.out.grown hg XQ_1.out.size (fun j e => by injection e with e; rw [← e]; exact Nat.le_refl _); have A_1 := Lib.hid (HA.out.below XB0_1.out); have B_1 := Lib.hid (HB.out.below XB0_1.out); have W_1 := Lib.hid (XB0_1.out); have p_1 := Lib.hid (XMp_1.out.below hq); have x_1 := XS00_1; clear hn hg HA HB XMp_1 hq XQ_1 XT0_1 XA_1 XS00_1 XB0_1 hsz_1) | (refine wpl_ldN ntNat rfl rfl rfl x_1.out ?_) | (refine wpl_ldN_g ntNat rfl rfl rfl x_1.out ?_))
  refine (made_ok _ _ B_1.out HLm.out HEm.out HFm.out).mono ?_
  rintro e p2 ⟨v2, rfl, hv, hb⟩
  obtain ⟨As2, cs2, rfl, -⟩ := Lst.len hv
  have XT0_2 := Lib.hid (NatAt.zero p2)
  have XA_2 := Lib.hid (below_zero hb hb.size)
  have hsz_2 : Hid (q1.heap.size ≤ p2.heap.size) := Lib.hid hb.size
  have XQ_2 := Lib.hid (below_zero (Below.refl p2.heap.size p2) (Nat.le_refl _))
  have XMq_2 := Lib.hid hv
  clear hv
  clear hb
  go_wp2_with (first | go_skip | (refine wpl_stN ntNat rfl rfl rfl rfl XT0_2.out ?_; intro q2 hn hg; have XB0_2 := Lib.hid (XA_2.out.grown hg XA_2.out.size (fun j e => by injection e with e; rw [← e]; have := hsz_2.out; omega)); have XS00_2 := Lib.hid hn; have hq := XQ_2.out.grown hg XQ_2.out.size (fun j e => by injection e with e; rw [← e]; exact Nat.le_refl _); have A_2 := Lib.hid (A_1.out.below XB0_2.out); have B_2 := Lib.hid (B_1.out.below XB0_2.out); have p_2 := Lib.hid (p_1.out.below XB0_2.out); have x_2 := Lib.hid (x_1.out.below XB0_2.out); have W_2 := Lib.hid (W_1.out.trans (XB0_2.out.mono W_1.out.size)); have q_2 := Lib.hid (XMq_2.out.below hq); have y_2 := XS00_2; clear hn hg A_1 B_1 p_1 x_1 W_1 XMq_2 hq XQ_2 XT0_2 XA_2 XS00_2 XB0_2 hsz_2) | (refine wpl_ldN ntNat rfl rfl rfl x_2.out ?_) | (refine wpl_ldN_g ntNat rfl rfl rfl x_2.out ?_) | (refine wpl_ldN ntNat rfl rfl rfl y_2.out ?_) | (refine wpl_ldN_g ntNat rfl rfl rfl y_2.out ?_))
  clear A_2
  clear B_2
  refine (div_zero' _ HFn.out HZ.out).mono ?_
  rintro e p3 ⟨rfl, hb⟩
  have XT0_3 := Lib.hid (NatAt.zeroA p3)
  have XT1_3 := Lib.hid (NatAt.zeroB p3)
  have XA_3 := Lib.hid (below_zero (below_zero hb hb.size) (by have := hb.size; simp; omega))
  have hsz_3 : Hid (q2.heap.size ≤ p3.heap.size) := Lib.hid hb.size
  clear hb
  go_wp2_with (first | go_skip | (refine wpl_stN ntNat rfl rfl rfl rfl XT0_3.out ?_; intro r3_0 hn hg; have XB0_3 := Lib.hid (XA_3.out.grown hg XA_3.out.size (fun j e => by injection e with e; rw [← e]; have := hsz_3.out; omega)); have XS00_3 := Lib.hid hn; have XS01_3 := Lib.hid (XT1_3.out.grown hg (by simp)); clear hn hg XT0_3 XT1_3 XA_3) | (refine wpl_stN ntNat rfl rfl rfl rfl XS01_3.out ?_; intro q3 hn hg; have XB1_3 := Lib.hid (XB0_3.out.grown hg XB0_3.out.size (fun j e => by injection e with e; rw [← e]; have := hsz_3.out; omega)); have XS10_3 := Lib.hid (XS00_3.out.grown hg (by simp)); have XS11_3 := Lib.hid hn; have p_3 := Lib.hid (p_2.out.below XB1_3.out); have x_3 := Lib.hid (x_2.out.below XB1_3.out); have q_3 := Lib.hid (q_2.out.below XB1_3.out); have y_3 := Lib.hid (y_2.out.below XB1_3.out); have W_3 := Lib.hid (W_2.out.trans (XB1_3.out.mono W_2.out.size)); have s_3 := XS10_3; have t_3 := XS11_3; clear hn hg p_2 x_2 q_2 y_2 W_2 XS00_3 XS01_3 XB0_3 XS10_3 XS11_3 XB1_3 hsz_3) | (refine wpl_ldN ntNat rfl rfl rfl x_3.out ?_) | (refine wpl_ldN_g ntNat rfl rfl rfl x_3.out ?_) | (refine wpl_ldN ntNat rfl rfl rfl y_3.out ?_) | (refine wpl_ldN_g ntNat rfl rfl rfl y_3.out ?_) | (refine wpl_ldN ntNat rfl rfl rfl s_3.out ?_) | (refine wpl_ldN_g ntNat rfl rfl rfl s_3.out ?_) | (refine wpl_ldN ntNat rfl rfl rfl t_3.out ?_) | (refine wpl_ldN_g ntNat rfl rfl rfl t_3.out ?_))
  refine (isZero_zero _).mono ?_
  rintro e p4 ⟨rfl, hb⟩
  have p_4 := Lib.hid (p_3.out.below hb)
  have x_4 := Lib.hid (x_3.out.below hb)
  have q_4 := Lib.hid (q_3.out.below hb)
  have y_4 := Lib.hid (y_3.out.below hb)
  have s_4 := Lib.hid (s_3.out.below hb)
  have t_4 := Lib.hid (t_3.out.below hb)
  have W_4 := Lib.hid (W_3.out.trans (hb.mono W_3.out.size))
  clear hb p_3 x_3 q_3 y_3 s_3 t_3 W_3
  go_wp2_with (first | go_skip | (refine wpl_ldN ntNat rfl rfl rfl x_4.out ?_) | (refine wpl_ldN_g ntNat rfl rfl rfl x_4.out ?_) | (refine wpl_ldN ntNat rfl rfl rfl y_4.out ?_) | (refine wpl_ldN_g ntNat rfl rfl rfl y_4.out ?_) | (refine wpl_ldN ntNat rfl rfl rfl s_4.out ?_) | (refine wpl_ldN_g ntNat rfl rfl rfl s_4.out ?_) | (refine wpl_ldN ntNat rfl rfl rfl t_4.out ?_) | (refine wpl_ldN_g ntNat rfl rfl rfl t_4.out ?_))
  refine (isZero_zero _).mono ?_
  rintro e p5 ⟨rfl, hb⟩
  have p_5 := Lib.hid (p_4.out.below hb)
  have x_5 := Lib.hid (x_4.out.below hb)
  have q_5 := Lib.hid (q_4.out.below hb)
  have y_5 := Lib.hid (y_4.out.below hb)
  have s_5 := Lib.hid (s_4.out.below hb)
  have t_5 := Lib.hid (t_4.out.below hb)
  have W_5 := Lib.hid (W_4.out.trans (hb.mono W_4.out.size))
  clear hb p_4 x_4 q_4 y_4 s_4 t_4 W_4
  go_wp2_with (first | go_skip | (refine wpl_ldN ntNat rfl rfl rfl x_5.out ?_) | (refine wpl_ldN_g ntNat rfl rfl rfl x_5.out ?_) | (refine wpl_ldN ntNat rfl rfl rfl y_5.out ?_) | (refine wpl_ldN_g ntNat rfl rfl rfl y_5.out ?_) | (refine wpl_ldN ntNat rfl rfl rfl s_5.out ?_) | (refine wpl_ldN_g ntNat rfl rfl rfl s_5.out ?_) | (refine wpl_ldN ntNat rfl rfl rfl t_5.out ?_) | (refine wpl_ldN_g ntNat rfl rfl rfl t_5.out ?_))
  refine (known_any _).mono ?_
  rintro e p6 ⟨rfl, hb⟩
  have p_6 := Lib.hid (p_5.out.below hb)
  have x_6 := Lib.hid (x_5.out.below hb)
  have q_6 := Lib.hid (q_5.out.below hb)
  have y_6 := Lib.hid (y_5.out.below hb)
  have s_6 := Lib.hid (s_5.out.below hb)
  have t_6 := Lib.hid (t_5.out.below hb)
  have W_6 := Lib.hid (W_5.out.trans (hb.mono W_5.out.size))
  clear hb p_5 x_5 q_5 y_5 s_5 t_5 W_5
  go_wp2_with (first | go_skip | (refine wpl_ldN ntNat rfl rfl rfl x_6.out ?_) | (refine wpl_ldN_g ntNat rfl rfl rfl x_6.out ?_) | (refine wpl_ldN ntNat rfl rfl rfl y_6.out ?_) | (refine wpl_ldN_g ntNat rfl rfl rfl y_6.out ?_) | (refine wpl_ldN ntNat rfl rfl rfl s_6.out ?_) | (refine wpl_ldN_g ntNat rfl rfl rfl s_6.out ?_) | (refine wpl_ldN ntNat rfl rfl rfl t_6.out ?_) | (refine wpl_ldN_g ntNat rfl rfl rfl t_6.out ?_))
  go_ret
  exact ⟨rfl, W_6.out⟩

set_option maxHeartbeats 6400000 in
theorem divides_n0 (va : Value) (xa : List UInt8) (vb : Value) (xb : List UInt8) (w : World) (ha : Byt w va xa) (hb : Byt w vb xb) (ll0 : xa.length ≤ 128) (ll1 : xb.length ≤ 128)
    (n m : Nat) (hn : numN xa = n) (hm : numN xb = m) (hz : m ≠ 0) (h40 : xa.length ≤ 40 ∧ xb.length ≤ 40) :
    Calls Try.prog 6 #[va, vb] w fun e w' => e = .returned (.bool true) ∧ Below w.heap.size w w' := by
  have HA := Lib.hid ha
  have HB := Lib.hid hb
  obtain ⟨A, c, rfl, -⟩ := ha.len
  obtain ⟨B, d, rfl, -⟩ := hb.len
  have d0 : decide (128 < (xa.length : Int)) = false := decide_eq_false (by omega)
  have d1 : decide (128 < (xb.length : Int)) = false := decide_eq_false (by omega)
  have HLn : Hid (xa.length ≤ 200) := Lib.hid (by omega)
  have HLm : Hid (xb.length ≤ 200) := Lib.hid (by omega)
  have HSn := Lib.hid (sz_num HLn.out)
  have HSm := Lib.hid (sz_num HLm.out)
  have HFn := Lib.hid (fit_num (xs := xa) ll0)
  have HFm := Lib.hid (fit_num (xs := xb) ll1)
  have HCn := Lib.hid (c16_num HLn.out)
  have HCm := Lib.hid (c16_num HLm.out)
  rw [hn] at HSn HFn HCn
  rw [hm] at HSm HFm HCm
  have HEn := Lib.hid hn
  have HEm := Lib.hid hm
  have d2 : decide ((xa.length : Int) ≤ 40) = true := decide_eq_true (by omega)
  have d3 : decide ((xb.length : Int) ≤ 40) = true := decide_eq_true (by omega)
  clear ha hb ll0 ll1 hn hm h40
  obtain ⟨g, hg⟩ : ∃ g, Nat.gcd n m = g := ⟨_, rfl⟩
  have HG := Lib.hid hg
  have hgle : g ≤ n ∨ g ≤ m := by
    rw [← hg]
    rcases Nat.eq_zero_or_pos n with h | h
    · exact .inr (by rw [h, Nat.gcd_zero_left]; exact Nat.le_refl _)
    · exact .inl (Nat.gcd_le_left _ h)
  have HFg : Hid (Fit g) := Lib.hid (by rcases hgle with h | h; exact Nat.lt_of_le_of_lt h HFn.out; exact Nat.lt_of_le_of_lt h HFm.out)
  have HSg : Hid (Sz g) := Lib.hid (by rcases hgle with h | h; exact HSn.out.mono h; exact HSm.out.mono h)
  clear hg hgle
  have d4 : (((c16 m : Nat) : Int) == 0) = false := by
    have h1 : c16 m ≠ 0 := fun h => hz (by have := lt_c16 m; rw [h] at this; unfold X16 at this; simpa using this)
    rw [beq_eq_false_iff_ne]
    omega
  have HZ := Lib.hid hz
  clear hz
  obtain ⟨u, hu⟩ : ∃ u, n / m = u := ⟨_, rfl⟩
  obtain ⟨r, hr⟩ : ∃ r, n % m = r := ⟨_, rfl⟩
  have HU := Lib.hid hu
  have HR := Lib.hid hr
  have HFu : Hid (Fit u) := Lib.hid (by rw [← hu]; exact Nat.lt_of_le_of_lt (Nat.div_le_self _ _) HFn.out)
  have HSu : Hid (Sz u) := Lib.hid (by rw [← hu]; exact HSn.out.mono (Nat.div_le_self _ _))
  have HFr : Hid (Fit r) := Lib.hid (by rw [← hr]; exact Nat.lt_of_le_of_lt (Nat.mod_le _ _) HFn.out)
  have HSr : Hid (Sz r) := Lib.hid (by rw [← hr]; exact HSn.out.mono (Nat.mod_le _ _))
  clear hu hr
  go_enter Try.func6, Try.ntmps6
  go_wp2_with fail
  refine (made_ok _ _ HA.out HLn.out HEn.out HFn.out).mono ?_
  rintro e p1 ⟨v1, rfl, hv, hb⟩
  have XT0_1 := Lib.hid (NatAt.zero p1)
  have XA_1 := Lib.hid (below_zero hb hb.size)
  have hsz_1 : Hid (w.heap.size ≤ p1.heap.size) := Lib.hid hb.size
  have XQ_1 := Lib.hid (below_zero (Below.refl p1.heap.size p1) (Nat.le_refl _))
  have XMp_1 := Lib.hid hv
  clear hv
  clear hb
  go_wp2_with (first | go_skip | (refine wpl_stN ntNat rfl rfl rfl rfl XT0_1.out ?_; intro q1 hn hg; have XB0_1 := Lib.hid (XA_1.out.grown hg XA_1.out.size (fun j e => by injection e with e; rw [← e]; have := hsz_1.out; omega)); have XS00_1 := Lib.hid hn; have hq := XQ_1.out.grown hg XQ_1.out.size (fun j e => by injection e with e; rw [← e]; exact Nat.le_refl _); have A_1 := Lib.hid (HA.out.below XB0_1.out); have B_1 := Lib.hid (HB.out.below XB0_1.out); have W_1 := Lib.hid (XB0_1.out); have p_1 := Lib.hid (XMp_1.out.below hq); have x_1 := XS00_1; clear hn hg HA HB XMp_1 hq XQ_1 XT0_1 XA_1 XS00_1 XB0_1 hsz_1) | (refine wpl_ldN ntNat rfl rfl rfl x_1.out ?_) | (refine wpl_ldN_g ntNat rfl rfl rfl x_1.out ?_))
  refine (made_ok _ _ B_1.out HLm.out HEm.out HFm.out).mono ?_
  rintro e p2 ⟨v2, rfl, hv, hb⟩
  obtain ⟨As2, cs2, rfl, -⟩ := Lst.len hv
  have XT0_2 := Lib.hid (NatAt.zero p2)
  have XA_2 := Lib.hid (below_zero hb hb.size)
  have hsz_2 : Hid (q1.heap.size ≤ p2.heap.size) := Lib.hid hb.size
  have XQ_2 := Lib.hid (below_zero (Below.refl p2.heap.size p2) (Nat.le_refl _))
  have XMq_2 := Lib.hid hv
  clear hv
  clear hb
  go_wp2_with (first | go_skip | (refine wpl_stN ntNat rfl rfl rfl rfl XT0_2.out ?_; intro q2 hn hg; have XB0_2 := Lib.hid (XA_2.out.grown hg XA_2.out.size (fun j e => by injection e with e; rw [← e]; have := hsz_2.out; omega)); have XS00_2 := Lib.hid hn; have hq := XQ_2.out.grown hg XQ_2.out.size (fun j e => by injection e with e; rw [← e]; exact Nat.le_refl _); have A_2 := Lib.hid (A_1.out.below XB0_2.out); have B_2 := Lib.hid (B_1.out.below XB0_2.out); have p_2 := Lib.hid (p_1.out.below XB0_2.out); have x_2 := Lib.hid (x_1.out.below XB0_2.out); have W_2 := Lib.hid (W_1.out.trans (XB0_2.out.mono W_1.out.size)); have q_2 := Lib.hid (XMq_2.out.below hq); have y_2 := XS00_2; clear hn hg A_1 B_1 p_1 x_1 W_1 XMq_2 hq XQ_2 XT0_2 XA_2 XS00_2 XB0_2 hsz_2) | (refine wpl_ldN ntNat rfl rfl rfl x_2.out ?_) | (refine wpl_ldN_g ntNat rfl rfl rfl x_2.out ?_) | (refine wpl_ldN ntNat rfl rfl rfl y_2.out ?_) | (refine wpl_ldN_g ntNat rfl rfl rfl y_2.out ?_))
  clear A_2
  clear B_2
  refine (gcd_ok _ HFn.out HFm.out HG.out).mono ?_
  rintro e p3 ⟨rfl, hb⟩
  have p_3 := Lib.hid (p_2.out.below hb)
  have x_3 := Lib.hid (x_2.out.below hb)
  have q_3 := Lib.hid (q_2.out.below hb)
  have y_3 := Lib.hid (y_2.out.below hb)
  have W_3 := Lib.hid (W_2.out.trans (hb.mono W_2.out.size))
  clear hb p_2 x_2 q_2 y_2 W_2
  go_wp2_with (first | go_skip | (refine wpl_ldN ntNat rfl rfl rfl x_3.out ?_) | (refine wpl_ldN_g ntNat rfl rfl rfl x_3.out ?_) | (refine wpl_ldN ntNat rfl rfl rfl y_3.out ?_) | (refine wpl_ldN_g ntNat rfl rfl rfl y_3.out ?_))
  refine (rgcd_any _ _ _ _ _ p_3.out q_3.out (Nat.le_trans HCn.out (by decide)) (Nat.le_trans HCm.out (by decide))).mono ?_
  rintro e p4 ⟨v4, rfl, hv, hb⟩
  have p_4 := Lib.hid (p_3.out.below hb)
  have x_4 := Lib.hid (x_3.out.below hb)
  have q_4 := Lib.hid (q_3.out.below hb)
  have y_4 := Lib.hid (y_3.out.below hb)
  have W_4 := Lib.hid (W_3.out.trans (hb.mono W_3.out.size))
  clear hb p_3 x_3 q_3 y_3 W_3
  rw [HG.out] at hv
  have g_4 := Lib.hid hv
  clear hv
  go_wp2_with (first | go_skip | (refine wpl_ldN ntNat rfl rfl rfl x_4.out ?_) | (refine wpl_ldN_g ntNat rfl rfl rfl x_4.out ?_) | (refine wpl_ldN ntNat rfl rfl rfl y_4.out ?_) | (refine wpl_ldN_g ntNat rfl rfl rfl y_4.out ?_))
  refine (same_ok _ _ HFg.out g_4.out HSg.out (decide_eq_true rfl)).mono ?_
  rintro e p5 ⟨rfl, hb⟩
  have p_5 := Lib.hid (p_4.out.below hb)
  have x_5 := Lib.hid (x_4.out.below hb)
  have q_5 := Lib.hid (q_4.out.below hb)
  have y_5 := Lib.hid (y_4.out.below hb)
  have g_5 := Lib.hid (g_4.out.below hb)
  have W_5 := Lib.hid (W_4.out.trans (hb.mono W_4.out.size))
  clear hb p_4 x_4 q_4 y_4 g_4 W_4
  go_wp2_with (first | go_skip | (refine wpl_ldN ntNat rfl rfl rfl x_5.out ?_) | (refine wpl_ldN_g ntNat rfl rfl rfl x_5.out ?_) | (refine wpl_ldN ntNat rfl rfl rfl y_5.out ?_) | (refine wpl_ldN_g ntNat rfl rfl rfl y_5.out ?_))
  clear g_5
  refine (div_ok _ HFn.out HFm.out HZ.out HU.out HR.out).mono ?_
  rintro e p6 ⟨rfl, hb⟩
  have XT0_6 := Lib.hid (NatAt.zeroA p6)
  have XT1_6 := Lib.hid (NatAt.zeroB p6)
  have XA_6 := Lib.hid (below_zero (below_zero hb hb.size) (by have := hb.size; simp; omega))
  have hsz_6 : Hid (p5.heap.size ≤ p6.heap.size) := Lib.hid hb.size
  clear hb
  go_wp2_with (first | go_skip | (refine wpl_stN ntNat rfl rfl rfl rfl XT0_6.out ?_; intro r6_0 hn hg; have XB0_6 := Lib.hid (XA_6.out.grown hg XA_6.out.size (fun j e => by injection e with e; rw [← e]; have := hsz_6.out; omega)); have XS00_6 := Lib.hid hn; have XS01_6 := Lib.hid (XT1_6.out.grown hg (by simp)); clear hn hg XT0_6 XT1_6 XA_6) | (refine wpl_stN ntNat rfl rfl rfl rfl XS01_6.out ?_; intro q6 hn hg; have XB1_6 := Lib.hid (XB0_6.out.grown hg XB0_6.out.size (fun j e => by injection e with e; rw [← e]; have := hsz_6.out; omega)); have XS10_6 := Lib.hid (XS00_6.out.grown hg (by simp)); have XS11_6 := Lib.hid hn; have p_6 := Lib.hid (p_5.out.below XB1_6.out); have x_6 := Lib.hid (x_5.out.below XB1_6.out); have q_6 := Lib.hid (q_5.out.below XB1_6.out); have y_6 := Lib.hid (y_5.out.below XB1_6.out); have W_6 := Lib.hid (W_5.out.trans (XB1_6.out.mono W_5.out.size)); have s_6 := XS10_6; have t_6 := XS11_6; clear hn hg p_5 x_5 q_5 y_5 W_5 XS00_6 XS01_6 XB0_6 XS10_6 XS11_6 XB1_6 hsz_6) | (refine wpl_ldN ntNat rfl rfl rfl x_6.out ?_) | (refine wpl_ldN_g ntNat rfl rfl rfl x_6.out ?_) | (refine wpl_ldN ntNat rfl rfl rfl y_6.out ?_) | (refine wpl_ldN_g ntNat rfl rfl rfl y_6.out ?_) | (refine wpl_ldN ntNat rfl rfl rfl s_6.out ?_) | (refine wpl_ldN_g ntNat rfl rfl rfl s_6.out ?_) | (refine wpl_ldN ntNat rfl rfl rfl t_6.out ?_) | (refine wpl_ldN_g ntNat rfl rfl rfl t_6.out ?_))
  refine (rdivide_ok _ _ _ p_6.out q_6.out (Nat.le_trans HCn.out (by decide)) (Nat.le_trans HCm.out (by decide)) HZ.out HU.out HR.out).mono ?_
  rintro e p7 ⟨u7, v7, rfl, hu, hv, hb⟩
  have p_7 := Lib.hid (p_6.out.below hb)
  have x_7 := Lib.hid (x_6.out.below hb)
  have q_7 := Lib.hid (q_6.out.below hb)
  have y_7 := Lib.hid (y_6.out.below hb)
  have s_7 := Lib.hid (s_6.out.below hb)
  have t_7 := Lib.hid (t_6.out.below hb)
  have W_7 := Lib.hid (W_6.out.trans (hb.mono W_6.out.size))
  clear hb p_6 x_6 q_6 y_6 s_6 t_6 W_6
  have a_7 := Lib.hid hu
  have b_7 := Lib.hid hv
  clear hu hv
  go_wp2_with (first | go_skip | (refine wpl_ldN ntNat rfl rfl rfl x_7.out ?_) | (refine wpl_ldN_g ntNat rfl rfl rfl x_7.out ?_) | (refine wpl_ldN ntNat rfl rfl rfl y_7.out ?_) | (refine wpl_ldN_g ntNat rfl rfl rfl y_7.out ?_) | (refine wpl_ldN ntNat rfl rfl rfl s_7.out ?_) | (refine wpl_ldN_g ntNat rfl rfl rfl s_7.out ?_) | (refine wpl_ldN ntNat rfl rfl rfl t_7.out ?_) | (refine wpl_ldN_g ntNat rfl rfl rfl t_7.out ?_))
  refine (same_ok _ _ HFu.out a_7.out HSu.out (decide_eq_true rfl)).mono ?_
  rintro e p8 ⟨rfl, hb⟩
  have p_8 := Lib.hid (p_7.out.below hb)
  have x_8 := Lib.hid (x_7.out.below hb)
  have q_8 := Lib.hid (q_7.out.below hb)
  have y_8 := Lib.hid (y_7.out.below hb)
  have s_8 := Lib.hid (s_7.out.below hb)
  have t_8 := Lib.hid (t_7.out.below hb)
  have a_8 := Lib.hid (a_7.out.below hb)
  have b_8 := Lib.hid (b_7.out.below hb)
  have W_8 := Lib.hid (W_7.out.trans (hb.mono W_7.out.size))
  clear hb p_7 x_7 q_7 y_7 s_7 t_7 a_7 b_7 W_7
  go_wp2_with (first | go_skip | (refine wpl_ldN ntNat rfl rfl rfl x_8.out ?_) | (refine wpl_ldN_g ntNat rfl rfl rfl x_8.out ?_) | (refine wpl_ldN ntNat rfl rfl rfl y_8.out ?_) | (refine wpl_ldN_g ntNat rfl rfl rfl y_8.out ?_) | (refine wpl_ldN ntNat rfl rfl rfl s_8.out ?_) | (refine wpl_ldN_g ntNat rfl rfl rfl s_8.out ?_) | (refine wpl_ldN ntNat rfl rfl rfl t_8.out ?_) | (refine wpl_ldN_g ntNat rfl rfl rfl t_8.out ?_))
  refine (same_ok _ _ HFr.out b_8.out HSr.out (decide_eq_true rfl)).mono ?_
  rintro e p9 ⟨rfl, hb⟩
  have p_9 := Lib.hid (p_8.out.below hb)
  have x_9 := Lib.hid (x_8.out.below hb)
  have q_9 := Lib.hid (q_8.out.below hb)
  have y_9 := Lib.hid (y_8.out.below hb)
  have s_9 := Lib.hid (s_8.out.below hb)
  have t_9 := Lib.hid (t_8.out.below hb)
  have a_9 := Lib.hid (a_8.out.below hb)
  have b_9 := Lib.hid (b_8.out.below hb)
  have W_9 := Lib.hid (W_8.out.trans (hb.mono W_8.out.size))
  clear hb p_8 x_8 q_8 y_8 s_8 t_8 a_8 b_8 W_8
  go_wp2_with (first | go_skip | (refine wpl_ldN ntNat rfl rfl rfl x_9.out ?_) | (refine wpl_ldN_g ntNat rfl rfl rfl x_9.out ?_) | (refine wpl_ldN ntNat rfl rfl rfl y_9.out ?_) | (refine wpl_ldN_g ntNat rfl rfl rfl y_9.out ?_) | (refine wpl_ldN ntNat rfl rfl rfl s_9.out ?_) | (refine wpl_ldN_g ntNat rfl rfl rfl s_9.out ?_) | (refine wpl_ldN ntNat rfl rfl rfl t_9.out ?_) | (refine wpl_ldN_g ntNat rfl rfl rfl t_9.out ?_))
  refine (known_any _).mono ?_
  rintro e p10 ⟨rfl, hb⟩
  have p_10 := Lib.hid (p_9.out.below hb)
  have x_10 := Lib.hid (x_9.out.below hb)
  have q_10 := Lib.hid (q_9.out.below hb)
  have y_10 := Lib.hid (y_9.out.below hb)
  have s_10 := Lib.hid (s_9.out.below hb)
  have t_10 := Lib.hid (t_9.out.below hb)
  have a_10 := Lib.hid (a_9.out.below hb)
  have b_10 := Lib.hid (b_9.out.below hb)
  have W_10 := Lib.hid (W_9.out.trans (hb.mono W_9.out.size))
  clear hb p_9 x_9 q_9 y_9 s_9 t_9 a_9 b_9 W_9
  go_wp2_with (first | go_skip | (refine wpl_ldN ntNat rfl rfl rfl x_10.out ?_) | (refine wpl_ldN_g ntNat rfl rfl rfl x_10.out ?_) | (refine wpl_ldN ntNat rfl rfl rfl y_10.out ?_) | (refine wpl_ldN_g ntNat rfl rfl rfl y_10.out ?_) | (refine wpl_ldN ntNat rfl rfl rfl s_10.out ?_) | (refine wpl_ldN_g ntNat rfl rfl rfl s_10.out ?_) | (refine wpl_ldN ntNat rfl rfl rfl t_10.out ?_) | (refine wpl_ldN_g ntNat rfl rfl rfl t_10.out ?_))
  go_ret
  exact ⟨rfl, W_10.out⟩

set_option maxHeartbeats 6400000 in
theorem divides_n1 (va : Value) (xa : List UInt8) (vb : Value) (xb : List UInt8) (w : World) (ha : Byt w va xa) (hb : Byt w vb xb) (ll0 : xa.length ≤ 128) (ll1 : xb.length ≤ 128)
    (n m : Nat) (hn : numN xa = n) (hm : numN xb = m) (hz : m ≠ 0) (h40 : 40 < xa.length) :
    Calls Try.prog 6 #[va, vb] w fun e w' => e = .returned (.bool true) ∧ Below w.heap.size w w' := by
  have HA := Lib.hid ha
  have HB := Lib.hid hb
  obtain ⟨A, c, rfl, -⟩ := ha.len
  obtain ⟨B, d, rfl, -⟩ := hb.len
  have d0 : decide (128 < (xa.length : Int)) = false := decide_eq_false (by omega)
  have d1 : decide (128 < (xb.length : Int)) = false := decide_eq_false (by omega)
  have HLn : Hid (xa.length ≤ 200) := Lib.hid (by omega)
  have HLm : Hid (xb.length ≤ 200) := Lib.hid (by omega)
  have HSn := Lib.hid (sz_num HLn.out)
  have HSm := Lib.hid (sz_num HLm.out)
  have HFn := Lib.hid (fit_num (xs := xa) ll0)
  have HFm := Lib.hid (fit_num (xs := xb) ll1)
  have HCn := Lib.hid (c16_num HLn.out)
  have HCm := Lib.hid (c16_num HLm.out)
  rw [hn] at HSn HFn HCn
  rw [hm] at HSm HFm HCm
  have HEn := Lib.hid hn
  have HEm := Lib.hid hm
  have d2 : decide ((xa.length : Int) ≤ 40) = false := decide_eq_false (by omega)
  clear ha hb ll0 ll1 hn hm h40
  have d4 : (((c16 m : Nat) : Int) == 0) = false := by
    have h1 : c16 m ≠ 0 := fun h => hz (by have := lt_c16 m; rw [h] at this; unfold X16 at this; simpa using this)
    rw [beq_eq_false_iff_ne]
    omega
  have HZ := Lib.hid hz
  clear hz
  obtain ⟨u, hu⟩ : ∃ u, n / m = u := ⟨_, rfl⟩
  obtain ⟨r, hr⟩ : ∃ r, n % m = r := ⟨_, rfl⟩
  have HU := Lib.hid hu
  have HR := Lib.hid hr
  have HFu : Hid (Fit u) := Lib.hid (by rw [← hu]; exact Nat.lt_of_le_of_lt (Nat.div_le_self _ _) HFn.out)
  have HSu : Hid (Sz u) := Lib.hid (by rw [← hu]; exact HSn.out.mono (Nat.div_le_self _ _))
  have HFr : Hid (Fit r) := Lib.hid (by rw [← hr]; exact Nat.lt_of_le_of_lt (Nat.mod_le _ _) HFn.out)
  have HSr : Hid (Sz r) := Lib.hid (by rw [← hr]; exact HSn.out.mono (Nat.mod_le _ _))
  clear hu hr
  go_enter Try.func6, Try.ntmps6
  go_wp2_with fail
  refine (made_ok _ _ HA.out HLn.out HEn.out HFn.out).mono ?_
  rintro e p1 ⟨v1, rfl, hv, hb⟩
  have XT0_1 := Lib.hid (NatAt.zero p1)
  have XA_1 := Lib.hid (below_zero hb hb.size)
  have hsz_1 : Hid (w.heap.size ≤ p1.heap.size) := Lib.hid hb.size
  have XQ_1 := Lib.hid (below_zero (Below.refl p1.heap.size p1) (Nat.le_refl _))
  have XMp_1 := Lib.hid hv
  clear hv
  clear hb
  go_wp2_with (first | go_skip | (refine wpl_stN ntNat rfl rfl rfl rfl XT0_1.out ?_; intro q1 hn hg; have XB0_1 := Lib.hid (XA_1.out.grown hg XA_1.out.size (fun j e => by injection e with e; rw [← e]; have := hsz_1.out; omega)); have XS00_1 := Lib.hid hn; have hq := XQ_1.out.grown hg XQ_1.out.size (fun j e => by injection e with e; rw [← e]; exact Nat.le_refl _); have A_1 := Lib.hid (HA.out.below XB0_1.out); have B_1 := Lib.hid (HB.out.below XB0_1.out); have W_1 := Lib.hid (XB0_1.out); have p_1 := Lib.hid (XMp_1.out.below hq); have x_1 := XS00_1; clear hn hg HA HB XMp_1 hq XQ_1 XT0_1 XA_1 XS00_1 XB0_1 hsz_1) | (refine wpl_ldN ntNat rfl rfl rfl x_1.out ?_) | (refine wpl_ldN_g ntNat rfl rfl rfl x_1.out ?_))
  refine (made_ok _ _ B_1.out HLm.out HEm.out HFm.out).mono ?_
  rintro e p2 ⟨v2, rfl, hv, hb⟩
  obtain ⟨As2, cs2, rfl, -⟩ := Lst.len hv
  have XT0_2 := Lib.hid (NatAt.zero p2)
  have XA_2 := Lib.hid (below_zero hb hb.size)
  have hsz_2 : Hid (q1.heap.size ≤ p2.heap.size) := Lib.hid hb.size
  have XQ_2 := Lib.hid (below_zero (Below.refl p2.heap.size p2) (Nat.le_refl _))
  have XMq_2 := Lib.hid hv
  clear hv
  clear hb
  go_wp2_with (first | go_skip | (refine wpl_stN ntNat rfl rfl rfl rfl XT0_2.out ?_; intro q2 hn hg; have XB0_2 := Lib.hid (XA_2.out.grown hg XA_2.out.size (fun j e => by injection e with e; rw [← e]; have := hsz_2.out; omega)); have XS00_2 := Lib.hid hn; have hq := XQ_2.out.grown hg XQ_2.out.size (fun j e => by injection e with e; rw [← e]; exact Nat.le_refl _); have A_2 := Lib.hid (A_1.out.below XB0_2.out); have B_2 := Lib.hid (B_1.out.below XB0_2.out); have p_2 := Lib.hid (p_1.out.below XB0_2.out); have x_2 := Lib.hid (x_1.out.below XB0_2.out); have W_2 := Lib.hid (W_1.out.trans (XB0_2.out.mono W_1.out.size)); have q_2 := Lib.hid (XMq_2.out.below hq); have y_2 := XS00_2; clear hn hg A_1 B_1 p_1 x_1 W_1 XMq_2 hq XQ_2 XT0_2 XA_2 XS00_2 XB0_2 hsz_2) | (refine wpl_ldN ntNat rfl rfl rfl x_2.out ?_) | (refine wpl_ldN_g ntNat rfl rfl rfl x_2.out ?_) | (refine wpl_ldN ntNat rfl rfl rfl y_2.out ?_) | (refine wpl_ldN_g ntNat rfl rfl rfl y_2.out ?_))
  clear A_2
  clear B_2
  refine (div_ok _ HFn.out HFm.out HZ.out HU.out HR.out).mono ?_
  rintro e p3 ⟨rfl, hb⟩
  have XT0_3 := Lib.hid (NatAt.zeroA p3)
  have XT1_3 := Lib.hid (NatAt.zeroB p3)
  have XA_3 := Lib.hid (below_zero (below_zero hb hb.size) (by have := hb.size; simp; omega))
  have hsz_3 : Hid (q2.heap.size ≤ p3.heap.size) := Lib.hid hb.size
  clear hb
  go_wp2_with (first | go_skip | (refine wpl_stN ntNat rfl rfl rfl rfl XT0_3.out ?_; intro r3_0 hn hg; have XB0_3 := Lib.hid (XA_3.out.grown hg XA_3.out.size (fun j e => by injection e with e; rw [← e]; have := hsz_3.out; omega)); have XS00_3 := Lib.hid hn; have XS01_3 := Lib.hid (XT1_3.out.grown hg (by simp)); clear hn hg XT0_3 XT1_3 XA_3) | (refine wpl_stN ntNat rfl rfl rfl rfl XS01_3.out ?_; intro q3 hn hg; have XB1_3 := Lib.hid (XB0_3.out.grown hg XB0_3.out.size (fun j e => by injection e with e; rw [← e]; have := hsz_3.out; omega)); have XS10_3 := Lib.hid (XS00_3.out.grown hg (by simp)); have XS11_3 := Lib.hid hn; have p_3 := Lib.hid (p_2.out.below XB1_3.out); have x_3 := Lib.hid (x_2.out.below XB1_3.out); have q_3 := Lib.hid (q_2.out.below XB1_3.out); have y_3 := Lib.hid (y_2.out.below XB1_3.out); have W_3 := Lib.hid (W_2.out.trans (XB1_3.out.mono W_2.out.size)); have s_3 := XS10_3; have t_3 := XS11_3; clear hn hg p_2 x_2 q_2 y_2 W_2 XS00_3 XS01_3 XB0_3 XS10_3 XS11_3 XB1_3 hsz_3) | (refine wpl_ldN ntNat rfl rfl rfl x_3.out ?_) | (refine wpl_ldN_g ntNat rfl rfl rfl x_3.out ?_) | (refine wpl_ldN ntNat rfl rfl rfl y_3.out ?_) | (refine wpl_ldN_g ntNat rfl rfl rfl y_3.out ?_) | (refine wpl_ldN ntNat rfl rfl rfl s_3.out ?_) | (refine wpl_ldN_g ntNat rfl rfl rfl s_3.out ?_) | (refine wpl_ldN ntNat rfl rfl rfl t_3.out ?_) | (refine wpl_ldN_g ntNat rfl rfl rfl t_3.out ?_))
  refine (rdivide_ok _ _ _ p_3.out q_3.out (Nat.le_trans HCn.out (by decide)) (Nat.le_trans HCm.out (by decide)) HZ.out HU.out HR.out).mono ?_
  rintro e p4 ⟨u4, v4, rfl, hu, hv, hb⟩
  have p_4 := Lib.hid (p_3.out.below hb)
  have x_4 := Lib.hid (x_3.out.below hb)
  have q_4 := Lib.hid (q_3.out.below hb)
  have y_4 := Lib.hid (y_3.out.below hb)
  have s_4 := Lib.hid (s_3.out.below hb)
  have t_4 := Lib.hid (t_3.out.below hb)
  have W_4 := Lib.hid (W_3.out.trans (hb.mono W_3.out.size))
  clear hb p_3 x_3 q_3 y_3 s_3 t_3 W_3
  have a_4 := Lib.hid hu
  have b_4 := Lib.hid hv
  clear hu hv
  go_wp2_with (first | go_skip | (refine wpl_ldN ntNat rfl rfl rfl x_4.out ?_) | (refine wpl_ldN_g ntNat rfl rfl rfl x_4.out ?_) | (refine wpl_ldN ntNat rfl rfl rfl y_4.out ?_) | (refine wpl_ldN_g ntNat rfl rfl rfl y_4.out ?_) | (refine wpl_ldN ntNat rfl rfl rfl s_4.out ?_) | (refine wpl_ldN_g ntNat rfl rfl rfl s_4.out ?_) | (refine wpl_ldN ntNat rfl rfl rfl t_4.out ?_) | (refine wpl_ldN_g ntNat rfl rfl rfl t_4.out ?_))
  refine (same_ok _ _ HFu.out a_4.out HSu.out (decide_eq_true rfl)).mono ?_
  rintro e p5 ⟨rfl, hb⟩
  have p_5 := Lib.hid (p_4.out.below hb)
  have x_5 := Lib.hid (x_4.out.below hb)
  have q_5 := Lib.hid (q_4.out.below hb)
  have y_5 := Lib.hid (y_4.out.below hb)
  have s_5 := Lib.hid (s_4.out.below hb)
  have t_5 := Lib.hid (t_4.out.below hb)
  have a_5 := Lib.hid (a_4.out.below hb)
  have b_5 := Lib.hid (b_4.out.below hb)
  have W_5 := Lib.hid (W_4.out.trans (hb.mono W_4.out.size))
  clear hb p_4 x_4 q_4 y_4 s_4 t_4 a_4 b_4 W_4
  go_wp2_with (first | go_skip | (refine wpl_ldN ntNat rfl rfl rfl x_5.out ?_) | (refine wpl_ldN_g ntNat rfl rfl rfl x_5.out ?_) | (refine wpl_ldN ntNat rfl rfl rfl y_5.out ?_) | (refine wpl_ldN_g ntNat rfl rfl rfl y_5.out ?_) | (refine wpl_ldN ntNat rfl rfl rfl s_5.out ?_) | (refine wpl_ldN_g ntNat rfl rfl rfl s_5.out ?_) | (refine wpl_ldN ntNat rfl rfl rfl t_5.out ?_) | (refine wpl_ldN_g ntNat rfl rfl rfl t_5.out ?_))
  refine (same_ok _ _ HFr.out b_5.out HSr.out (decide_eq_true rfl)).mono ?_
  rintro e p6 ⟨rfl, hb⟩
  have p_6 := Lib.hid (p_5.out.below hb)
  have x_6 := Lib.hid (x_5.out.below hb)
  have q_6 := Lib.hid (q_5.out.below hb)
  have y_6 := Lib.hid (y_5.out.below hb)
  have s_6 := Lib.hid (s_5.out.below hb)
  have t_6 := Lib.hid (t_5.out.below hb)
  have a_6 := Lib.hid (a_5.out.below hb)
  have b_6 := Lib.hid (b_5.out.below hb)
  have W_6 := Lib.hid (W_5.out.trans (hb.mono W_5.out.size))
  clear hb p_5 x_5 q_5 y_5 s_5 t_5 a_5 b_5 W_5
  go_wp2_with (first | go_skip | (refine wpl_ldN ntNat rfl rfl rfl x_6.out ?_) | (refine wpl_ldN_g ntNat rfl rfl rfl x_6.out ?_) | (refine wpl_ldN ntNat rfl rfl rfl y_6.out ?_) | (refine wpl_ldN_g ntNat rfl rfl rfl y_6.out ?_) | (refine wpl_ldN ntNat rfl rfl rfl s_6.out ?_) | (refine wpl_ldN_g ntNat rfl rfl rfl s_6.out ?_) | (refine wpl_ldN ntNat rfl rfl rfl t_6.out ?_) | (refine wpl_ldN_g ntNat rfl rfl rfl t_6.out ?_))
  refine (known_any _).mono ?_
  rintro e p7 ⟨rfl, hb⟩
  have p_7 := Lib.hid (p_6.out.below hb)
  have x_7 := Lib.hid (x_6.out.below hb)
  have q_7 := Lib.hid (q_6.out.below hb)
  have y_7 := Lib.hid (y_6.out.below hb)
  have s_7 := Lib.hid (s_6.out.below hb)
  have t_7 := Lib.hid (t_6.out.below hb)
  have a_7 := Lib.hid (a_6.out.below hb)
  have b_7 := Lib.hid (b_6.out.below hb)
  have W_7 := Lib.hid (W_6.out.trans (hb.mono W_6.out.size))
  clear hb p_6 x_6 q_6 y_6 s_6 t_6 a_6 b_6 W_6
  go_wp2_with (first | go_skip | (refine wpl_ldN ntNat rfl rfl rfl x_7.out ?_) | (refine wpl_ldN_g ntNat rfl rfl rfl x_7.out ?_) | (refine wpl_ldN ntNat rfl rfl rfl y_7.out ?_) | (refine wpl_ldN_g ntNat rfl rfl rfl y_7.out ?_) | (refine wpl_ldN ntNat rfl rfl rfl s_7.out ?_) | (refine wpl_ldN_g ntNat rfl rfl rfl s_7.out ?_) | (refine wpl_ldN ntNat rfl rfl rfl t_7.out ?_) | (refine wpl_ldN_g ntNat rfl rfl rfl t_7.out ?_))
  go_ret
  exact ⟨rfl, W_7.out⟩

set_option maxHeartbeats 6400000 in
theorem divides_n2 (va : Value) (xa : List UInt8) (vb : Value) (xb : List UInt8) (w : World) (ha : Byt w va xa) (hb : Byt w vb xb) (ll0 : xa.length ≤ 128) (ll1 : xb.length ≤ 128)
    (n m : Nat) (hn : numN xa = n) (hm : numN xb = m) (hz : m ≠ 0) (h40 : xa.length ≤ 40 ∧ 40 < xb.length) :
    Calls Try.prog 6 #[va, vb] w fun e w' => e = .returned (.bool true) ∧ Below w.heap.size w w' := by
  have HA := Lib.hid ha
  have HB := Lib.hid hb
  obtain ⟨A, c, rfl, -⟩ := ha.len
  obtain ⟨B, d, rfl, -⟩ := hb.len
  have d0 : decide (128 < (xa.length : Int)) = false := decide_eq_false (by omega)
  have d1 : decide (128 < (xb.length : Int)) = false := decide_eq_false (by omega)
  have HLn : Hid (xa.length ≤ 200) := Lib.hid (by omega)
  have HLm : Hid (xb.length ≤ 200) := Lib.hid (by omega)
  have HSn := Lib.hid (sz_num HLn.out)
  have HSm := Lib.hid (sz_num HLm.out)
  have HFn := Lib.hid (fit_num (xs := xa) ll0)
  have HFm := Lib.hid (fit_num (xs := xb) ll1)
  have HCn := Lib.hid (c16_num HLn.out)
  have HCm := Lib.hid (c16_num HLm.out)
  rw [hn] at HSn HFn HCn
  rw [hm] at HSm HFm HCm
  have HEn := Lib.hid hn
  have HEm := Lib.hid hm
  have d2 : decide ((xa.length : Int) ≤ 40) = true := decide_eq_true (by omega)
  have d3 : decide ((xb.length : Int) ≤ 40) = false := decide_eq_false (by omega)
  clear ha hb ll0 ll1 hn hm h40
  have d4 : (((c16 m : Nat) : Int) == 0) = false := by
    have h1 : c16 m ≠ 0 := fun h => hz (by have := lt_c16 m; rw [h] at this; unfold X16 at this; simpa using this)
    rw [beq_eq_false_iff_ne]
    omega
  have HZ := Lib.hid hz
  clear hz
  obtain ⟨u, hu⟩ : ∃ u, n / m = u := ⟨_, rfl⟩
  obtain ⟨r, hr⟩ : ∃ r, n % m = r := ⟨_, rfl⟩
  have HU := Lib.hid hu
  have HR := Lib.hid hr
  have HFu : Hid (Fit u) := Lib.hid (by rw [← hu]; exact Nat.lt_of_le_of_lt (Nat.div_le_self _ _) HFn.out)
  have HSu : Hid (Sz u) := Lib.hid (by rw [← hu]; exact HSn.out.mono (Nat.div_le_self _ _))
  have HFr : Hid (Fit r) := Lib.hid (by rw [← hr]; exact Nat.lt_of_le_of_lt (Nat.mod_le _ _) HFn.out)
  have HSr : Hid (Sz r) := Lib.hid (by rw [← hr]; exact HSn.out.mono (Nat.mod_le _ _))
  clear hu hr
  go_enter Try.func6, Try.ntmps6
  go_wp2_with fail
  refine (made_ok _ _ HA.out HLn.out HEn.out HFn.out).mono ?_
  rintro e p1 ⟨v1, rfl, hv, hb⟩
  have XT0_1 := Lib.hid (NatAt.zero p1)
  have XA_1 := Lib.hid (below_zero hb hb.size)
  have hsz_1 : Hid (w.heap.size ≤ p1.heap.size) := Lib.hid hb.size
  have XQ_1 := Lib.hid (below_zero (Below.refl p1.heap.size p1) (Nat.le_refl _))
  have XMp_1 := Lib.hid hv
  clear hv
  clear hb
  go_wp2_with (first | go_skip | (refine wpl_stN ntNat rfl rfl rfl rfl XT0_1.out ?_; intro q1 hn hg; have XB0_1 := Lib.hid (XA_1.out.grown hg XA_1.out.size (fun j e => by injection e with e; rw [← e]; have := hsz_1.out; omega)); have XS00_1 := Lib.hid hn; have hq := XQ_1.out.grown hg XQ_1.out.size (fun j e => by injection e with e; rw [← e]; exact Nat.le_refl _); have A_1 := Lib.hid (HA.out.below XB0_1.out); have B_1 := Lib.hid (HB.out.below XB0_1.out); have W_1 := Lib.hid (XB0_1.out); have p_1 := Lib.hid (XMp_1.out.below hq); have x_1 := XS00_1; clear hn hg HA HB XMp_1 hq XQ_1 XT0_1 XA_1 XS00_1 XB0_1 hsz_1) | (refine wpl_ldN ntNat rfl rfl rfl x_1.out ?_) | (refine wpl_ldN_g ntNat rfl rfl rfl x_1.out ?_))
  refine (made_ok _ _ B_1.out HLm.out HEm.out HFm.out).mono ?_
  rintro e p2 ⟨v2, rfl, hv, hb⟩
  obtain ⟨As2, cs2, rfl, -⟩ := Lst.len hv
  have XT0_2 := Lib.hid (NatAt.zero p2)
  have XA_2 := Lib.hid (below_zero hb hb.size)
  have hsz_2 : Hid (q1.heap.size ≤ p2.heap.size) := Lib.hid hb.size
  have XQ_2 := Lib.hid (below_zero (Below.refl p2.heap.size p2) (Nat.le_refl _))
  have XMq_2 := Lib.hid hv
  clear hv
  clear hb
  go_wp2_with (first | go_skip | (refine wpl_stN ntNat rfl rfl rfl rfl XT0_2.out ?_; intro q2 hn hg; have XB0_2 := Lib.hid (XA_2.out.grown hg XA_2.out.size (fun j e => by injection e with e; rw [← e]; have := hsz_2.out; omega)); have XS00_2 := Lib.hid hn; have hq := XQ_2.out.grown hg XQ_2.out.size (fun j e => by injection e with e; rw [← e]; exact Nat.le_refl _); have A_2 := Lib.hid (A_1.out.below XB0_2.out); have B_2 := Lib.hid (B_1.out.below XB0_2.out); have p_2 := Lib.hid (p_1.out.below XB0_2.out); have x_2 := Lib.hid (x_1.out.below XB0_2.out); have W_2 := Lib.hid (W_1.out.trans (XB0_2.out.mono W_1.out.size)); have q_2 := Lib.hid (XMq_2.out.below hq); have y_2 := XS00_2; clear hn hg A_1 B_1 p_1 x_1 W_1 XMq_2 hq XQ_2 XT0_2 XA_2 XS00_2 XB0_2 hsz_2) | (refine wpl_ldN ntNat rfl rfl rfl x_2.out ?_) | (refine wpl_ldN_g ntNat rfl rfl rfl x_2.out ?_) | (refine wpl_ldN ntNat rfl rfl rfl y_2.out ?_) | (refine wpl_ldN_g ntNat rfl rfl rfl y_2.out ?_))
  clear A_2
  clear B_2
  refine (div_ok _ HFn.out HFm.out HZ.out HU.out HR.out).mono ?_
  rintro e p3 ⟨rfl, hb⟩
  have XT0_3 := Lib.hid (NatAt.zeroA p3)
  have XT1_3 := Lib.hid (NatAt.zeroB p3)
  have XA_3 := Lib.hid (below_zero (below_zero hb hb.size) (by have := hb.size; simp; omega))
  have hsz_3 : Hid (q2.heap.size ≤ p3.heap.size) := Lib.hid hb.size
  clear hb
  go_wp2_with (first | go_skip | (refine wpl_stN ntNat rfl rfl rfl rfl XT0_3.out ?_; intro r3_0 hn hg; have XB0_3 := Lib.hid (XA_3.out.grown hg XA_3.out.size (fun j e => by injection e with e; rw [← e]; have := hsz_3.out; omega)); have XS00_3 := Lib.hid hn; have XS01_3 := Lib.hid (XT1_3.out.grown hg (by simp)); clear hn hg XT0_3 XT1_3 XA_3) | (refine wpl_stN ntNat rfl rfl rfl rfl XS01_3.out ?_; intro q3 hn hg; have XB1_3 := Lib.hid (XB0_3.out.grown hg XB0_3.out.size (fun j e => by injection e with e; rw [← e]; have := hsz_3.out; omega)); have XS10_3 := Lib.hid (XS00_3.out.grown hg (by simp)); have XS11_3 := Lib.hid hn; have p_3 := Lib.hid (p_2.out.below XB1_3.out); have x_3 := Lib.hid (x_2.out.below XB1_3.out); have q_3 := Lib.hid (q_2.out.below XB1_3.out); have y_3 := Lib.hid (y_2.out.below XB1_3.out); have W_3 := Lib.hid (W_2.out.trans (XB1_3.out.mono W_2.out.size)); have s_3 := XS10_3; have t_3 := XS11_3; clear hn hg p_2 x_2 q_2 y_2 W_2 XS00_3 XS01_3 XB0_3 XS10_3 XS11_3 XB1_3 hsz_3) | (refine wpl_ldN ntNat rfl rfl rfl x_3.out ?_) | (refine wpl_ldN_g ntNat rfl rfl rfl x_3.out ?_) | (refine wpl_ldN ntNat rfl rfl rfl y_3.out ?_) | (refine wpl_ldN_g ntNat rfl rfl rfl y_3.out ?_) | (refine wpl_ldN ntNat rfl rfl rfl s_3.out ?_) | (refine wpl_ldN_g ntNat rfl rfl rfl s_3.out ?_) | (refine wpl_ldN ntNat rfl rfl rfl t_3.out ?_) | (refine wpl_ldN_g ntNat rfl rfl rfl t_3.out ?_))
  refine (rdivide_ok _ _ _ p_3.out q_3.out (Nat.le_trans HCn.out (by decide)) (Nat.le_trans HCm.out (by decide)) HZ.out HU.out HR.out).mono ?_
  rintro e p4 ⟨u4, v4, rfl, hu, hv, hb⟩
  have p_4 := Lib.hid (p_3.out.below hb)
  have x_4 := Lib.hid (x_3.out.below hb)
  have q_4 := Lib.hid (q_3.out.below hb)
  have y_4 := Lib.hid (y_3.out.below hb)
  have s_4 := Lib.hid (s_3.out.below hb)
  have t_4 := Lib.hid (t_3.out.below hb)
  have W_4 := Lib.hid (W_3.out.trans (hb.mono W_3.out.size))
  clear hb p_3 x_3 q_3 y_3 s_3 t_3 W_3
  have a_4 := Lib.hid hu
  have b_4 := Lib.hid hv
  clear hu hv
  go_wp2_with (first | go_skip | (refine wpl_ldN ntNat rfl rfl rfl x_4.out ?_) | (refine wpl_ldN_g ntNat rfl rfl rfl x_4.out ?_) | (refine wpl_ldN ntNat rfl rfl rfl y_4.out ?_) | (refine wpl_ldN_g ntNat rfl rfl rfl y_4.out ?_) | (refine wpl_ldN ntNat rfl rfl rfl s_4.out ?_) | (refine wpl_ldN_g ntNat rfl rfl rfl s_4.out ?_) | (refine wpl_ldN ntNat rfl rfl rfl t_4.out ?_) | (refine wpl_ldN_g ntNat rfl rfl rfl t_4.out ?_))
  refine (same_ok _ _ HFu.out a_4.out HSu.out (decide_eq_true rfl)).mono ?_
  rintro e p5 ⟨rfl, hb⟩
  have p_5 := Lib.hid (p_4.out.below hb)
  have x_5 := Lib.hid (x_4.out.below hb)
  have q_5 := Lib.hid (q_4.out.below hb)
  have y_5 := Lib.hid (y_4.out.below hb)
  have s_5 := Lib.hid (s_4.out.below hb)
  have t_5 := Lib.hid (t_4.out.below hb)
  have a_5 := Lib.hid (a_4.out.below hb)
  have b_5 := Lib.hid (b_4.out.below hb)
  have W_5 := Lib.hid (W_4.out.trans (hb.mono W_4.out.size))
  clear hb p_4 x_4 q_4 y_4 s_4 t_4 a_4 b_4 W_4
  go_wp2_with (first | go_skip | (refine wpl_ldN ntNat rfl rfl rfl x_5.out ?_) | (refine wpl_ldN_g ntNat rfl rfl rfl x_5.out ?_) | (refine wpl_ldN ntNat rfl rfl rfl y_5.out ?_) | (refine wpl_ldN_g ntNat rfl rfl rfl y_5.out ?_) | (refine wpl_ldN ntNat rfl rfl rfl s_5.out ?_) | (refine wpl_ldN_g ntNat rfl rfl rfl s_5.out ?_) | (refine wpl_ldN ntNat rfl rfl rfl t_5.out ?_) | (refine wpl_ldN_g ntNat rfl rfl rfl t_5.out ?_))
  refine (same_ok _ _ HFr.out b_5.out HSr.out (decide_eq_true rfl)).mono ?_
  rintro e p6 ⟨rfl, hb⟩
  have p_6 := Lib.hid (p_5.out.below hb)
  have x_6 := Lib.hid (x_5.out.below hb)
  have q_6 := Lib.hid (q_5.out.below hb)
  have y_6 := Lib.hid (y_5.out.below hb)
  have s_6 := Lib.hid (s_5.out.below hb)
  have t_6 := Lib.hid (t_5.out.below hb)
  have a_6 := Lib.hid (a_5.out.below hb)
  have b_6 := Lib.hid (b_5.out.below hb)
  have W_6 := Lib.hid (W_5.out.trans (hb.mono W_5.out.size))
  clear hb p_5 x_5 q_5 y_5 s_5 t_5 a_5 b_5 W_5
  go_wp2_with (first | go_skip | (refine wpl_ldN ntNat rfl rfl rfl x_6.out ?_) | (refine wpl_ldN_g ntNat rfl rfl rfl x_6.out ?_) | (refine wpl_ldN ntNat rfl rfl rfl y_6.out ?_) | (refine wpl_ldN_g ntNat rfl rfl rfl y_6.out ?_) | (refine wpl_ldN ntNat rfl rfl rfl s_6.out ?_) | (refine wpl_ldN_g ntNat rfl rfl rfl s_6.out ?_) | (refine wpl_ldN ntNat rfl rfl rfl t_6.out ?_) | (refine wpl_ldN_g ntNat rfl rfl rfl t_6.out ?_))
  refine (known_any _).mono ?_
  rintro e p7 ⟨rfl, hb⟩
  have p_7 := Lib.hid (p_6.out.below hb)
  have x_7 := Lib.hid (x_6.out.below hb)
  have q_7 := Lib.hid (q_6.out.below hb)
  have y_7 := Lib.hid (y_6.out.below hb)
  have s_7 := Lib.hid (s_6.out.below hb)
  have t_7 := Lib.hid (t_6.out.below hb)
  have a_7 := Lib.hid (a_6.out.below hb)
  have b_7 := Lib.hid (b_6.out.below hb)
  have W_7 := Lib.hid (W_6.out.trans (hb.mono W_6.out.size))
  clear hb p_6 x_6 q_6 y_6 s_6 t_6 a_6 b_6 W_6
  go_wp2_with (first | go_skip | (refine wpl_ldN ntNat rfl rfl rfl x_7.out ?_) | (refine wpl_ldN_g ntNat rfl rfl rfl x_7.out ?_) | (refine wpl_ldN ntNat rfl rfl rfl y_7.out ?_) | (refine wpl_ldN_g ntNat rfl rfl rfl y_7.out ?_) | (refine wpl_ldN ntNat rfl rfl rfl s_7.out ?_) | (refine wpl_ldN_g ntNat rfl rfl rfl s_7.out ?_) | (refine wpl_ldN ntNat rfl rfl rfl t_7.out ?_) | (refine wpl_ldN_g ntNat rfl rfl rfl t_7.out ?_))
  go_ret
  exact ⟨rfl, W_7.out⟩

set_option maxHeartbeats 1600000 in
theorem divides_any (va : Value) (xa : List UInt8) (vb : Value) (xb : List UInt8) (w : World) (ha : Byt w va xa) (hb : Byt w vb xb) :
    Calls Try.prog 6 #[va, vb] w fun e w' => e = .returned (.bool true) ∧ Below w.heap.size w w' := by
  have HA := Lib.hid ha
  have HB := Lib.hid hb
  obtain ⟨A, c, rfl, -⟩ := ha.len
  obtain ⟨B, d, rfl, -⟩ := hb.len
  clear ha hb
  by_cases hl0 : 128 < xa.length
  · have d0 : decide (128 < (xa.length : Int)) = true := decide_eq_true (by omega)
    clear hl0
    go_enter Try.func6, Try.ntmps6
    go_wp2_with fail
    refine (known_any w).mono ?_
    rintro e w1 ⟨rfl, hb⟩
    have HB := Lib.hid hb
    clear hb
    go_wp2_with fail
    go_ret
    exact ⟨rfl, HB.out⟩
  · have d0 : decide (128 < (xa.length : Int)) = false := decide_eq_false (by omega)
    have ll0 : xa.length ≤ 128 := by omega
    clear hl0
    by_cases hl1 : 128 < xb.length
    · have d1 : decide (128 < (xb.length : Int)) = true := decide_eq_true (by omega)
      clear hl1 ll0
      go_enter Try.func6, Try.ntmps6
      go_wp2_with fail
      refine (known_any w).mono ?_
      rintro e w1 ⟨rfl, hb⟩
      have HB := Lib.hid hb
      clear hb
      go_wp2_with fail
      go_ret
      exact ⟨rfl, HB.out⟩
    · have d1 : decide (128 < (xb.length : Int)) = false := decide_eq_false (by omega)
      have ll1 : xb.length ≤ 128 := by omega
      clear hl1
      by_cases hz : numN xb = 0
      · rcases Nat.lt_or_ge 40 xa.length with h | h
        · exact divides_z1 _ xa _ xb w HA.out HB.out ll0 ll1 _ _ rfl rfl hz h
        · rcases Nat.lt_or_ge 40 xb.length with k | k
          · exact divides_z2 _ xa _ xb w HA.out HB.out ll0 ll1 _ _ rfl rfl hz ⟨h, k⟩
          · exact divides_z0 _ xa _ xb w HA.out HB.out ll0 ll1 _ _ rfl rfl hz ⟨h, k⟩
      · rcases Nat.lt_or_ge 40 xa.length with h | h
        · exact divides_n1 _ xa _ xb w HA.out HB.out ll0 ll1 _ _ rfl rfl hz h
        · rcases Nat.lt_or_ge 40 xb.length with k | k
          · exact divides_n2 _ xa _ xb w HA.out HB.out ll0 ll1 _ _ rfl rfl hz ⟨h, k⟩
          · exact divides_n0 _ xa _ xb w HA.out HB.out ll0 ll1 _ _ rfl rfl hz ⟨h, k⟩

end Go.Proofs.Ytomiapceefbmeaa
