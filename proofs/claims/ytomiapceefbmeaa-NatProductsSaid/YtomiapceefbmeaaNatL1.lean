/- Walk: the law NatProducts (printed by gennatlaw.py). -/
import Derived.Test.YtomiapceefbmeaaNatII
set_option linter.unusedVariables false
set_option linter.unusedSimpArgs false
set_option maxRecDepth 100000
namespace Go.Proofs.Ytomiapceefbmeaa
open Go.RowKit

set_option maxHeartbeats 3200000 in
theorem products_any (va : Value) (xa : List UInt8) (vb : Value) (xb : List UInt8) (w : World) (ha : Byt w va xa) (hb : Byt w vb xb) :
    Calls Try.prog 9 #[va, vb] w fun e w' => e = .returned (.bool true) ∧ Below w.heap.size w w' := by
  have HA := Lib.hid ha
  have HB := Lib.hid hb
  obtain ⟨A, c, rfl, _⟩ := ha.len
  obtain ⟨B, d, rfl, _⟩ := hb.len
  clear ha hb
  by_cases hl0 : 128 < xa.length
  · have d0 : decide (128 < (xa.length : Int)) = true := decide_eq_true (by omega)
    clear hl0
    go_enter Try.func9, Try.ntmps9
    go_wp2_with fail
    refine (known_any w).mono ?_
    rintro e w1 ⟨rfl, hb⟩
    have HB := Lib.hid hb
    clear hb
    go_wp2_with fail
    go_ret
    exact ⟨rfl, HB.out⟩
  · have d0 : decide (128 < (xa.length : Int)) = false := decide_eq_false (by omega)
    have ll0 : xa.length ≤ 128 := by omega
    clear hl0
    by_cases hl1 : 128 < xb.length
    · have d1 : decide (128 < (xb.length : Int)) = true := decide_eq_true (by omega)
      clear hl1 ll0
      go_enter Try.func9, Try.ntmps9
      go_wp2_with fail
      refine (known_any w).mono ?_
      rintro e w1 ⟨rfl, hb⟩
      have HB := Lib.hid hb
      clear hb
      go_wp2_with fail
      go_ret
      exact ⟨rfl, HB.out⟩
    · have d1 : decide (128 < (xb.length : Int)) = false := decide_eq_false (by omega)
      have ll1 : xb.length ≤ 128 := by omega
      clear hl1
      have HLn : Hid (xa.length ≤ 200) := Lib.hid (by omega)
      have HSn := Lib.hid (sz_num HLn.out)
      have HFn := Lib.hid (fit_num (xs := xa) (by omega))
      have HCn := Lib.hid (c16_num HLn.out)
      obtain ⟨n, hn⟩ : ∃ n, numN xa = n := ⟨_, rfl⟩
      rw [hn] at HSn HCn HFn
      have HEn := Lib.hid hn
      clear hn
      have HLm : Hid (xb.length ≤ 200) := Lib.hid (by omega)
      have HSm := Lib.hid (sz_num HLm.out)
      have HFm := Lib.hid (fit_num (xs := xb) (by omega))
      have HCm := Lib.hid (c16_num HLm.out)
      obtain ⟨m, hm⟩ : ∃ n, numN xb = n := ⟨_, rfl⟩
      rw [hm] at HSm HCm HFm
      have HEm := Lib.hid hm
      clear hm
      obtain ⟨s, hs⟩ : ∃ s, n * m = s := ⟨_, rfl⟩
      have HP := Lib.hid hs
      have HCs := Lib.hid (c16_mul HCn.out HCm.out)
      rw [hs] at HCs
      have HSs := Lib.hid (Sz.of HCs.out (by decide))
      clear hs ll0 ll1
      by_cases hf : Fit s
      · have HFs := Lib.hid hf
        clear hf
        go_enter Try.func9, Try.ntmps9
        go_wp2_with fail
        refine (made_ok _ _ HA.out HLn.out HEn.out HFn.out).mono ?_
        rintro e p1 ⟨v1, rfl, hv, hb⟩
        have XT0_1 := Lib.hid ((NatAt.zero p1))
        have XA_1 := Lib.hid (below_zero hb hb.size)
        have hsz_1 : Hid (w.heap.size ≤ p1.heap.size) := Lib.hid hb.size
        have XQ_1 := Lib.hid (below_zero (Below.refl p1.heap.size p1) (Nat.le_refl _))
        have XMp_1 := Lib.hid hv
        clear hv
        clear hb
        go_wp2_with (first | (refine wpl_stN ntNat rfl rfl rfl rfl XT0_1.out ?_; intro q1 hn hg; have XB0_1 := Lib.hid (XA_1.out.grown hg XA_1.out.size (fun j e => by injection e with e; rw [← e]; have := hsz_1.out; omega)); have XS00_1 := Lib.hid hn; have hq := XQ_1.out.grown hg XQ_1.out.size (fun j e => by injection e with e; rw [← e]; exact Nat.le_refl _); have A_1 := Lib.hid (HA.out.below XB0_1.out); have B_1 := Lib.hid (HB.out.below XB0_1.out); have W_1 := Lib.hid (XB0_1.out); have p_1 := Lib.hid (XMp_1.out.below hq); have x_1 := XS00_1; clear hn hg HA HB XMp_1 hq XQ_1 XT0_1 XA_1 XS00_1 XB0_1 hsz_1) | (refine wpl_ldN ntNat rfl rfl rfl x_1.out ?_) | (refine wpl_ldN_g ntNat rfl rfl rfl x_1.out ?_))
        refine (made_ok _ _ B_1.out HLm.out HEm.out HFm.out).mono ?_
        rintro e p2 ⟨v2, rfl, hv, hb⟩
        have XT0_2 := Lib.hid ((NatAt.zero p2))
        have XA_2 := Lib.hid (below_zero hb hb.size)
        have hsz_2 : Hid (q1.heap.size ≤ p2.heap.size) := Lib.hid hb.size
        have XQ_2 := Lib.hid (below_zero (Below.refl p2.heap.size p2) (Nat.le_refl _))
        have XMq_2 := Lib.hid hv
        clear hv
        clear hb
        go_wp2_with (first | (refine wpl_stN ntNat rfl rfl rfl rfl XT0_2.out ?_; intro q2 hn hg; have XB0_2 := Lib.hid (XA_2.out.grown hg XA_2.out.size (fun j e => by injection e with e; rw [← e]; have := hsz_2.out; omega)); have XS00_2 := Lib.hid hn; have hq := XQ_2.out.grown hg XQ_2.out.size (fun j e => by injection e with e; rw [← e]; exact Nat.le_refl _); have A_2 := Lib.hid (A_1.out.below XB0_2.out); have B_2 := Lib.hid (B_1.out.below XB0_2.out); have p_2 := Lib.hid (p_1.out.below XB0_2.out); have x_2 := Lib.hid (x_1.out.below XB0_2.out); have W_2 := Lib.hid (W_1.out.trans (XB0_2.out.mono W_1.out.size)); have q_2 := Lib.hid (XMq_2.out.below hq); have y_2 := XS00_2; clear hn hg A_1 B_1 p_1 x_1 W_1 XMq_2 hq XQ_2 XT0_2 XA_2 XS00_2 XB0_2 hsz_2) | (refine wpl_ldN ntNat rfl rfl rfl x_2.out ?_) | (refine wpl_ldN_g ntNat rfl rfl rfl x_2.out ?_) | (refine wpl_ldN ntNat rfl rfl rfl y_2.out ?_) | (refine wpl_ldN_g ntNat rfl rfl rfl y_2.out ?_))
        clear A_2
        clear B_2
        refine (mul_ok _ HFn.out HFm.out HP.out HFs.out).mono ?_
        rintro e p3 ⟨rfl, hb⟩
        have XT0_3 := Lib.hid ((NatAt.zero p3))
        have XA_3 := Lib.hid (below_zero hb hb.size)
        have hsz_3 : Hid (q2.heap.size ≤ p3.heap.size) := Lib.hid hb.size
        clear hb
        go_wp2_with (first | (refine wpl_stN ntNat rfl rfl rfl rfl XT0_3.out ?_; intro q3 hn hg; have XB0_3 := Lib.hid (XA_3.out.grown hg XA_3.out.size (fun j e => by injection e with e; rw [← e]; have := hsz_3.out; omega)); have XS00_3 := Lib.hid hn; have p_3 := Lib.hid (p_2.out.below XB0_3.out); have x_3 := Lib.hid (x_2.out.below XB0_3.out); have q_3 := Lib.hid (q_2.out.below XB0_3.out); have y_3 := Lib.hid (y_2.out.below XB0_3.out); have W_3 := Lib.hid (W_2.out.trans (XB0_3.out.mono W_2.out.size)); have z_3 := XS00_3; clear hn hg p_2 x_2 q_2 y_2 W_2 XT0_3 XA_3 XS00_3 XB0_3 hsz_3) | (refine wpl_ldN ntNat rfl rfl rfl x_3.out ?_) | (refine wpl_ldN_g ntNat rfl rfl rfl x_3.out ?_) | (refine wpl_ldN ntNat rfl rfl rfl y_3.out ?_) | (refine wpl_ldN_g ntNat rfl rfl rfl y_3.out ?_) | (refine wpl_ldN ntNat rfl rfl rfl z_3.out ?_) | (refine wpl_ldN_g ntNat rfl rfl rfl z_3.out ?_))
        refine (rmul_ok _ _ _ p_3.out q_3.out HSn.out HSm.out HP.out).mono ?_
        rintro e p4 ⟨v4, rfl, hv, hb, ho4⟩
        have p_4 := Lib.hid (p_3.out.below hb)
        have x_4 := Lib.hid (x_3.out.below hb)
        have q_4 := Lib.hid (q_3.out.below hb)
        have y_4 := Lib.hid (y_3.out.below hb)
        have z_4 := Lib.hid (z_3.out.below hb)
        have W_4 := Lib.hid (W_3.out.trans (hb.mono W_3.out.size))
        clear hb ho4 p_3 x_3 q_3 y_3 z_3 W_3
        have r_4 := Lib.hid hv
        clear hv
        go_wp2_with (first | (refine wpl_ldN ntNat rfl rfl rfl x_4.out ?_) | (refine wpl_ldN_g ntNat rfl rfl rfl x_4.out ?_) | (refine wpl_ldN ntNat rfl rfl rfl y_4.out ?_) | (refine wpl_ldN_g ntNat rfl rfl rfl y_4.out ?_) | (refine wpl_ldN ntNat rfl rfl rfl z_4.out ?_) | (refine wpl_ldN_g ntNat rfl rfl rfl z_4.out ?_))
        refine (rfits_ok _ _ r_4.out HSs.out (c := true) (by simp [HFs.out])).mono ?_
        rintro e p5 ⟨rfl, rfl⟩
        go_wp2_with (first | (refine wpl_ldN ntNat rfl rfl rfl x_4.out ?_) | (refine wpl_ldN_g ntNat rfl rfl rfl x_4.out ?_) | (refine wpl_ldN ntNat rfl rfl rfl y_4.out ?_) | (refine wpl_ldN_g ntNat rfl rfl rfl y_4.out ?_) | (refine wpl_ldN ntNat rfl rfl rfl z_4.out ?_) | (refine wpl_ldN_g ntNat rfl rfl rfl z_4.out ?_))
        refine (same_ok _ _ HFs.out r_4.out HSs.out (decide_eq_true rfl)).mono ?_
        rintro e p6 ⟨rfl, hb⟩
        have p_6 := Lib.hid (p_4.out.below hb)
        have x_6 := Lib.hid (x_4.out.below hb)
        have q_6 := Lib.hid (q_4.out.below hb)
        have y_6 := Lib.hid (y_4.out.below hb)
        have z_6 := Lib.hid (z_4.out.below hb)
        have r_6 := Lib.hid (r_4.out.below hb)
        have W_6 := Lib.hid (W_4.out.trans (hb.mono W_4.out.size))
        clear hb p_4 x_4 q_4 y_4 z_4 r_4 W_4
        go_wp2_with (first | (refine wpl_ldN ntNat rfl rfl rfl x_6.out ?_) | (refine wpl_ldN_g ntNat rfl rfl rfl x_6.out ?_) | (refine wpl_ldN ntNat rfl rfl rfl y_6.out ?_) | (refine wpl_ldN_g ntNat rfl rfl rfl y_6.out ?_) | (refine wpl_ldN ntNat rfl rfl rfl z_6.out ?_) | (refine wpl_ldN_g ntNat rfl rfl rfl z_6.out ?_))
        refine (known_any _).mono ?_
        rintro e p7 ⟨rfl, hb⟩
        have p_7 := Lib.hid (p_6.out.below hb)
        have x_7 := Lib.hid (x_6.out.below hb)
        have q_7 := Lib.hid (q_6.out.below hb)
        have y_7 := Lib.hid (y_6.out.below hb)
        have z_7 := Lib.hid (z_6.out.below hb)
        have r_7 := Lib.hid (r_6.out.below hb)
        have W_7 := Lib.hid (W_6.out.trans (hb.mono W_6.out.size))
        clear hb p_6 x_6 q_6 y_6 z_6 r_6 W_6
        go_wp2_with (first | (refine wpl_ldN ntNat rfl rfl rfl x_7.out ?_) | (refine wpl_ldN_g ntNat rfl rfl rfl x_7.out ?_) | (refine wpl_ldN ntNat rfl rfl rfl y_7.out ?_) | (refine wpl_ldN_g ntNat rfl rfl rfl y_7.out ?_) | (refine wpl_ldN ntNat rfl rfl rfl z_7.out ?_) | (refine wpl_ldN_g ntNat rfl rfl rfl z_7.out ?_))
        go_ret
        exact ⟨rfl, W_7.out⟩
      · have HFs := Lib.hid hf
        clear hf
        go_enter Try.func9, Try.ntmps9
        go_wp2_with fail
        refine (made_ok _ _ HA.out HLn.out HEn.out HFn.out).mono ?_
        rintro e p1 ⟨v1, rfl, hv, hb⟩
        have XT0_1 := Lib.hid ((NatAt.zero p1))
        have XA_1 := Lib.hid (below_zero hb hb.size)
        have hsz_1 : Hid (w.heap.size ≤ p1.heap.size) := Lib.hid hb.size
        have XQ_1 := Lib.hid (below_zero (Below.refl p1.heap.size p1) (Nat.le_refl _))
        have XMp_1 := Lib.hid hv
        clear hv
        clear hb
        go_wp2_with (first | (refine wpl_stN ntNat rfl rfl rfl rfl XT0_1.out ?_; intro q1 hn hg; have XB0_1 := Lib.hid (XA_1.out.grown hg XA_1.out.size (fun j e => by injection e with e; rw [← e]; have := hsz_1.out; omega)); have XS00_1 := Lib.hid hn; have hq := XQ_1.out.grown hg XQ_1.out.size (fun j e => by injection e with e; rw [← e]; exact Nat.le_refl _); have A_1 := Lib.hid (HA.out.below XB0_1.out); have B_1 := Lib.hid (HB.out.below XB0_1.out); have W_1 := Lib.hid (XB0_1.out); have p_1 := Lib.hid (XMp_1.out.below hq); have x_1 := XS00_1; clear hn hg HA HB XMp_1 hq XQ_1 XT0_1 XA_1 XS00_1 XB0_1 hsz_1) | (refine wpl_ldN ntNat rfl rfl rfl x_1.out ?_) | (refine wpl_ldN_g ntNat rfl rfl rfl x_1.out ?_))
        refine (made_ok _ _ B_1.out HLm.out HEm.out HFm.out).mono ?_
        rintro e p2 ⟨v2, rfl, hv, hb⟩
        have XT0_2 := Lib.hid ((NatAt.zero p2))
        have XA_2 := Lib.hid (below_zero hb hb.size)
        have hsz_2 : Hid (q1.heap.size ≤ p2.heap.size) := Lib.hid hb.size
        have XQ_2 := Lib.hid (below_zero (Below.refl p2.heap.size p2) (Nat.le_refl _))
        have XMq_2 := Lib.hid hv
        clear hv
        clear hb
        go_wp2_with (first | (refine wpl_stN ntNat rfl rfl rfl rfl XT0_2.out ?_; intro q2 hn hg; have XB0_2 := Lib.hid (XA_2.out.grown hg XA_2.out.size (fun j e => by injection e with e; rw [← e]; have := hsz_2.out; omega)); have XS00_2 := Lib.hid hn; have hq := XQ_2.out.grown hg XQ_2.out.size (fun j e => by injection e with e; rw [← e]; exact Nat.le_refl _); have A_2 := Lib.hid (A_1.out.below XB0_2.out); have B_2 := Lib.hid (B_1.out.below XB0_2.out); have p_2 := Lib.hid (p_1.out.below XB0_2.out); have x_2 := Lib.hid (x_1.out.below XB0_2.out); have W_2 := Lib.hid (W_1.out.trans (XB0_2.out.mono W_1.out.size)); have q_2 := Lib.hid (XMq_2.out.below hq); have y_2 := XS00_2; clear hn hg A_1 B_1 p_1 x_1 W_1 XMq_2 hq XQ_2 XT0_2 XA_2 XS00_2 XB0_2 hsz_2) | (refine wpl_ldN ntNat rfl rfl rfl x_2.out ?_) | (refine wpl_ldN_g ntNat rfl rfl rfl x_2.out ?_) | (refine wpl_ldN ntNat rfl rfl rfl y_2.out ?_) | (refine wpl_ldN_g ntNat rfl rfl rfl y_2.out ?_))
        clear A_2
        clear B_2
        refine (mul_full _ HFn.out HFm.out (by rw [HP.out]; exact HFs.out)).mono ?_
        rintro e p3 ⟨rfl, hb⟩
        have XT0_3 := Lib.hid ((NatAt.zero p3))
        have XA_3 := Lib.hid (below_zero hb hb.size)
        have hsz_3 : Hid (q2.heap.size ≤ p3.heap.size) := Lib.hid hb.size
        clear hb
        go_wp2_with (first | (refine wpl_stN ntNat rfl rfl rfl rfl XT0_3.out ?_; intro q3 hn hg; have XB0_3 := Lib.hid (XA_3.out.grown hg XA_3.out.size (fun j e => by injection e with e; rw [← e]; have := hsz_3.out; omega)); have XS00_3 := Lib.hid hn; have p_3 := Lib.hid (p_2.out.below XB0_3.out); have x_3 := Lib.hid (x_2.out.below XB0_3.out); have q_3 := Lib.hid (q_2.out.below XB0_3.out); have y_3 := Lib.hid (y_2.out.below XB0_3.out); have W_3 := Lib.hid (W_2.out.trans (XB0_3.out.mono W_2.out.size)); have z_3 := XS00_3; clear hn hg p_2 x_2 q_2 y_2 W_2 XT0_3 XA_3 XS00_3 XB0_3 hsz_3) | (refine wpl_ldN ntNat rfl rfl rfl x_3.out ?_) | (refine wpl_ldN_g ntNat rfl rfl rfl x_3.out ?_) | (refine wpl_ldN ntNat rfl rfl rfl y_3.out ?_) | (refine wpl_ldN_g ntNat rfl rfl rfl y_3.out ?_) | (refine wpl_ldN ntNat rfl rfl rfl z_3.out ?_) | (refine wpl_ldN_g ntNat rfl rfl rfl z_3.out ?_))
        refine (rmul_ok _ _ _ p_3.out q_3.out HSn.out HSm.out HP.out).mono ?_
        rintro e p4 ⟨v4, rfl, hv, hb, ho4⟩
        have p_4 := Lib.hid (p_3.out.below hb)
        have x_4 := Lib.hid (x_3.out.below hb)
        have q_4 := Lib.hid (q_3.out.below hb)
        have y_4 := Lib.hid (y_3.out.below hb)
        have z_4 := Lib.hid (z_3.out.below hb)
        have W_4 := Lib.hid (W_3.out.trans (hb.mono W_3.out.size))
        clear hb ho4 p_3 x_3 q_3 y_3 z_3 W_3
        have r_4 := Lib.hid hv
        clear hv
        go_wp2_with (first | (refine wpl_ldN ntNat rfl rfl rfl x_4.out ?_) | (refine wpl_ldN_g ntNat rfl rfl rfl x_4.out ?_) | (refine wpl_ldN ntNat rfl rfl rfl y_4.out ?_) | (refine wpl_ldN_g ntNat rfl rfl rfl y_4.out ?_) | (refine wpl_ldN ntNat rfl rfl rfl z_4.out ?_) | (refine wpl_ldN_g ntNat rfl rfl rfl z_4.out ?_))
        refine (rfits_ok _ _ r_4.out HSs.out (c := false) (by simp [HFs.out])).mono ?_
        rintro e p5 ⟨rfl, rfl⟩
        go_wp2_with (first | (refine wpl_ldN ntNat rfl rfl rfl x_4.out ?_) | (refine wpl_ldN_g ntNat rfl rfl rfl x_4.out ?_) | (refine wpl_ldN ntNat rfl rfl rfl y_4.out ?_) | (refine wpl_ldN_g ntNat rfl rfl rfl y_4.out ?_) | (refine wpl_ldN ntNat rfl rfl rfl z_4.out ?_) | (refine wpl_ldN_g ntNat rfl rfl rfl z_4.out ?_))
        refine (isZero_zero _).mono ?_
        rintro e p6 ⟨rfl, hb⟩
        have p_6 := Lib.hid (p_4.out.below hb)
        have x_6 := Lib.hid (x_4.out.below hb)
        have q_6 := Lib.hid (q_4.out.below hb)
        have y_6 := Lib.hid (y_4.out.below hb)
        have z_6 := Lib.hid (z_4.out.below hb)
        have r_6 := Lib.hid (r_4.out.below hb)
        have W_6 := Lib.hid (W_4.out.trans (hb.mono W_4.out.size))
        clear hb p_4 x_4 q_4 y_4 z_4 r_4 W_4
        go_wp2_with (first | (refine wpl_ldN ntNat rfl rfl rfl x_6.out ?_) | (refine wpl_ldN_g ntNat rfl rfl rfl x_6.out ?_) | (refine wpl_ldN ntNat rfl rfl rfl y_6.out ?_) | (refine wpl_ldN_g ntNat rfl rfl rfl y_6.out ?_) | (refine wpl_ldN ntNat rfl rfl rfl z_6.out ?_) | (refine wpl_ldN_g ntNat rfl rfl rfl z_6.out ?_))
        refine (known_any _).mono ?_
        rintro e p7 ⟨rfl, hb⟩
        have p_7 := Lib.hid (p_6.out.below hb)
        have x_7 := Lib.hid (x_6.out.below hb)
        have q_7 := Lib.hid (q_6.out.below hb)
        have y_7 := Lib.hid (y_6.out.below hb)
        have z_7 := Lib.hid (z_6.out.below hb)
        have r_7 := Lib.hid (r_6.out.below hb)
        have W_7 := Lib.hid (W_6.out.trans (hb.mono W_6.out.size))
        clear hb p_6 x_6 q_6 y_6 z_6 r_6 W_6
        go_wp2_with (first | (refine wpl_ldN ntNat rfl rfl rfl x_7.out ?_) | (refine wpl_ldN_g ntNat rfl rfl rfl x_7.out ?_) | (refine wpl_ldN ntNat rfl rfl rfl y_7.out ?_) | (refine wpl_ldN_g ntNat rfl rfl rfl y_7.out ?_) | (refine wpl_ldN ntNat rfl rfl rfl z_7.out ?_) | (refine wpl_ldN_g ntNat rfl rfl rfl z_7.out ?_))
        go_ret
        exact ⟨rfl, W_7.out⟩

end Go.Proofs.Ytomiapceefbmeaa
