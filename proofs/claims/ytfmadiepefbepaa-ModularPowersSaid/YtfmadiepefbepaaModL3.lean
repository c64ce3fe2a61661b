/- Walk: the law ModularPowers (printed by genmodlaw.py). -/
import Derived.Test.YtfmadiepefbepaaModO
set_option linter.unusedVariables false
set_option linter.unusedSimpArgs false
set_option maxRecDepth 100000
namespace Go.Proofs.Ytfmadiepefbepaa
open Go.RowKit

set_option maxHeartbeats 12800000 in
theorem mpow_z (va : Value) (xa : List UInt8) (vb : Value) (xb : List UInt8) (vc : Value) (xc : List UInt8) (w : World) (ha : Byt w va xa) (hb : Byt w vb xb) (hc : Byt w vc xc) (la : xa.length ≤ 128) (lb : xb.length ≤ 24) (lc : xc.length ≤ 128) (x y z : Nat) (ex : numN xa = x) (ey : numN xb = y) (ez : numN xc = z) (h0 : z = 0) (hcase : (decide (24 < (xa.length : Int)) = false ∧ decide (24 < (xc.length : Int)) = false) ∨ (decide (24 < (xa.length : Int)) = true ∧ decide (2 < (xb.length : Int)) = false) ∨ (decide (24 < (xa.length : Int)) = false ∧ decide (24 < (xc.length : Int)) = true ∧ decide (2 < (xb.length : Int)) = false)) :
    Calls Try.prog 6 #[va, vb, vc] w fun e w' => e = .returned (.bool true) ∧ Below w.heap.size w w' := by
  have Ha := Lib.hid ha
  obtain ⟨Aa, ca, rfl, -⟩ := ha.len
  have HLx : Hid (xa.length ≤ 200) := Lib.hid (by omega)
  have HSx := Lib.hid (sz_num HLx.out)
  have HFx := Lib.hid (fit_num (xs := xa) (by omega))
  have HCx := Lib.hid (c16_num HLx.out)
  rw [ex] at HSx HFx HCx
  have HEx := Lib.hid ex
  have HKx : Hid (c16 x ≤ 1000) := Lib.hid (Nat.le_trans HCx.out (by decide))
  have Hb := Lib.hid hb
  obtain ⟨Ab, cb, rfl, -⟩ := hb.len
  have HLy : Hid (xb.length ≤ 200) := Lib.hid (by omega)
  have HSy := Lib.hid (sz_num HLy.out)
  have HFy := Lib.hid (fit_num (xs := xb) (by omega))
  have HCy := Lib.hid (c16_num HLy.out)
  rw [ey] at HSy HFy HCy
  have HEy := Lib.hid ey
  have HKy : Hid (c16 y ≤ 1000) := Lib.hid (Nat.le_trans HCy.out (by decide))
  have Hc := Lib.hid hc
  obtain ⟨Ac, cc, rfl, -⟩ := hc.len
  have HLz : Hid (xc.length ≤ 200) := Lib.hid (by omega)
  have HSz := Lib.hid (sz_num HLz.out)
  have HFz := Lib.hid (fit_num (xs := xc) (by omega))
  have HCz := Lib.hid (c16_num HLz.out)
  rw [ez] at HSz HFz HCz
  have HEz := Lib.hid ez
  have HKz : Hid (c16 z ≤ 1000) := Lib.hid (Nat.le_trans HCz.out (by decide))
  have d0 : decide (128 < (xa.length : Int)) = false := decide_eq_false (by omega)
  have d1 : decide (24 < (xb.length : Int)) = false := decide_eq_false (by omega)
  have d2 : decide (128 < (xc.length : Int)) = false := decide_eq_false (by omega)
  have H0 := Lib.hid h0
  have d4 : (((c16 z : Nat) : Int) == 0) = true := by rw [h0]; rfl
  clear ha hb hc la lb lc ex ey ez h0
  rcases hcase with ⟨g1, g2⟩ | ⟨g1, g2⟩ | ⟨g1, g2, g3⟩ <;> (
    go_enter Try.func6, Try.ntmps6
    go_wp2_with fail
    refine (made2_ok _ _ Ha.out HLx.out HEx.out HFx.out).mono ?_
    rintro e p1 ⟨rfl, hb⟩
    have A_1 := Lib.hid (Ha.out.below hb)
    have B_1 := Lib.hid (Hb.out.below hb)
    have C_1 := Lib.hid (Hc.out.below hb)
    have W_1 := Lib.hid (hb)
    clear hb Ha Hb Hc
    go_wp2_with fail
    refine (made2_ok _ _ B_1.out HLy.out HEy.out HFy.out).mono ?_
    rintro e p2 ⟨rfl, hb⟩
    have A_2 := Lib.hid (A_1.out.below hb)
    have B_2 := Lib.hid (B_1.out.below hb)
    have C_2 := Lib.hid (C_1.out.below hb)
    have W_2 := Lib.hid (W_1.out.trans (hb.mono W_1.out.size))
    clear hb A_1 B_1 C_1 W_1
    go_wp2_with fail
    refine (made2_ok _ _ C_2.out HLz.out HEz.out HFz.out).mono ?_
    rintro e p3 ⟨rfl, hb⟩
    have A_3 := Lib.hid (A_2.out.below hb)
    have B_3 := Lib.hid (B_2.out.below hb)
    have C_3 := Lib.hid (C_2.out.below hb)
    have W_3 := Lib.hid (W_2.out.trans (hb.mono W_2.out.size))
    clear hb A_2 B_2 C_2 W_2
    go_wp2_with fail
    refine (mexp_zero _ H0.out HFx.out HFy.out).mono ?_
    rintro e p4 ⟨rfl, hb⟩
    have XT0_4 := Lib.hid (NatAt.zero p4)
    have XA_4 := Lib.hid (below_zero hb hb.size)
    have hsz_4 := Lib.hid hb.size
    clear hb
    go_wp2_with (first | go_skip | (refine wpl_stN ntNat rfl rfl rfl rfl XT0_4.out ?_; intro q4 hn hg; have XB0_4 := Lib.hid (XA_4.out.grown hg XA_4.out.size (fun j e => by injection e with e; rw [← e]; have := hsz_4.out; omega)); have XS00_4 := Lib.hid hn; have A_4 := Lib.hid (A_3.out.below XB0_4.out); have B_4 := Lib.hid (B_3.out.below XB0_4.out); have C_4 := Lib.hid (C_3.out.below XB0_4.out); have W_4 := Lib.hid (W_3.out.trans (XB0_4.out.mono W_3.out.size)); have r_4 := XS00_4; clear hn hg A_3 B_3 C_3 W_3 XT0_4 XA_4 XS00_4 XB0_4 hsz_4) | (refine wpl_ldN ntNat rfl rfl rfl r_4.out ?_) | (refine wpl_ldN_g ntNat ?hw rfl rfl r_4.out ?_; (case hw => rfl)))
    refine (from_any _ xc _ C_4.out (by have := HLz.out; omega)).mono ?_
    rintro e p5 ⟨v5, rfl, hv, hb, -⟩
    rw [HEz.out] at hv
    obtain ⟨As5, cs5, rfl, -⟩ := Lst.len hv
    have A_5 := Lib.hid (A_4.out.below hb)
    have B_5 := Lib.hid (B_4.out.below hb)
    have C_5 := Lib.hid (C_4.out.below hb)
    have r_5 := Lib.hid (r_4.out.below hb)
    have W_5 := Lib.hid (W_4.out.trans (hb.mono W_4.out.size))
    have M_5 := Lib.hid hv
    clear hv hb A_4 B_4 C_4 r_4 W_4
    go_wp2_with (first | go_skip | (refine wpl_ldN ntNat rfl rfl rfl r_5.out ?_) | (refine wpl_ldN_g ntNat ?hw rfl rfl r_5.out ?_; (case hw => rfl)))
    refine (isZero_zero _).mono ?_
    rintro e p6 ⟨rfl, hb⟩
    have A_6 := Lib.hid (A_5.out.below hb)
    have B_6 := Lib.hid (B_5.out.below hb)
    have C_6 := Lib.hid (C_5.out.below hb)
    have r_6 := Lib.hid (r_5.out.below hb)
    have M_6 := Lib.hid (M_5.out.below hb)
    have W_6 := Lib.hid (W_5.out.trans (hb.mono W_5.out.size))
    clear hb A_5 B_5 C_5 r_5 M_5 W_5
    go_wp2_with (first | go_skip | (refine wpl_ldN ntNat rfl rfl rfl r_6.out ?_) | (refine wpl_ldN_g ntNat ?hw rfl rfl r_6.out ?_; (case hw => rfl)))
    refine (known2_any _).mono ?_
    rintro e p7 ⟨rfl, hb⟩
    have A_7 := Lib.hid (A_6.out.below hb)
    have B_7 := Lib.hid (B_6.out.below hb)
    have C_7 := Lib.hid (C_6.out.below hb)
    have r_7 := Lib.hid (r_6.out.below hb)
    have M_7 := Lib.hid (M_6.out.below hb)
    have W_7 := Lib.hid (W_6.out.trans (hb.mono W_6.out.size))
    clear hb A_6 B_6 C_6 r_6 M_6 W_6
    go_wp2_with (first | go_skip | (refine wpl_ldN ntNat rfl rfl rfl r_7.out ?_) | (refine wpl_ldN_g ntNat ?hw rfl rfl r_7.out ?_; (case hw => rfl)))
    go_ret
    exact ⟨rfl, W_7.out⟩
  )

set_option maxHeartbeats 12800000 in
theorem mpow_n (va : Value) (xa : List UInt8) (vb : Value) (xb : List UInt8) (vc : Value) (xc : List UInt8) (w : World) (ha : Byt w va xa) (hb : Byt w vb xb) (hc : Byt w vc xc) (la : xa.length ≤ 128) (lb : xb.length ≤ 24) (lc : xc.length ≤ 128) (x y z : Nat) (ex : numN xa = x) (ey : numN xb = y) (ez : numN xc = z) (h0 : z ≠ 0) (hcase : (decide (24 < (xa.length : Int)) = false ∧ decide (24 < (xc.length : Int)) = false) ∨ (decide (24 < (xa.length : Int)) = true ∧ decide (2 < (xb.length : Int)) = false) ∨ (decide (24 < (xa.length : Int)) = false ∧ decide (24 < (xc.length : Int)) = true ∧ decide (2 < (xb.length : Int)) = false)) :
    Calls Try.prog 6 #[va, vb, vc] w fun e w' => e = .returned (.bool true) ∧ Below w.heap.size w w' := by
  have Ha := Lib.hid ha
  obtain ⟨Aa, ca, rfl, -⟩ := ha.len
  have HLx : Hid (xa.length ≤ 200) := Lib.hid (by omega)
  have HSx := Lib.hid (sz_num HLx.out)
  have HFx := Lib.hid (fit_num (xs := xa) (by omega))
  have HCx := Lib.hid (c16_num HLx.out)
  rw [ex] at HSx HFx HCx
  have HEx := Lib.hid ex
  have HKx : Hid (c16 x ≤ 1000) := Lib.hid (Nat.le_trans HCx.out (by decide))
  have Hb := Lib.hid hb
  obtain ⟨Ab, cb, rfl, -⟩ := hb.len
  have HLy : Hid (xb.length ≤ 200) := Lib.hid (by omega)
  have HSy := Lib.hid (sz_num HLy.out)
  have HFy := Lib.hid (fit_num (xs := xb) (by omega))
  have HCy := Lib.hid (c16_num HLy.out)
  rw [ey] at HSy HFy HCy
  have HEy := Lib.hid ey
  have HKy : Hid (c16 y ≤ 1000) := Lib.hid (Nat.le_trans HCy.out (by decide))
  have Hc := Lib.hid hc
  obtain ⟨Ac, cc, rfl, -⟩ := hc.len
  have HLz : Hid (xc.length ≤ 200) := Lib.hid (by omega)
  have HSz := Lib.hid (sz_num HLz.out)
  have HFz := Lib.hid (fit_num (xs := xc) (by omega))
  have HCz := Lib.hid (c16_num HLz.out)
  rw [ez] at HSz HFz HCz
  have HEz := Lib.hid ez
  have HKz : Hid (c16 z ≤ 1000) := Lib.hid (Nat.le_trans HCz.out (by decide))
  have d0 : decide (128 < (xa.length : Int)) = false := decide_eq_false (by omega)
  have d1 : decide (24 < (xb.length : Int)) = false := decide_eq_false (by omega)
  have d2 : decide (128 < (xc.length : Int)) = false := decide_eq_false (by omega)
  have H0 := Lib.hid h0
  have d4 : (((c16 z : Nat) : Int) == 0) = false := by
    have h1 := len_pos h0
    rw [beq_eq_false_iff_ne]
    omega
  have hz0 := Nat.pos_of_ne_zero h0
  obtain ⟨r, hr⟩ : ∃ n, x ^ y % z = n := ⟨_, rfl⟩
  have Er := Lib.hid hr
  have Lr : r < z := by rw [← hr]; exact Nat.mod_lt _ hz0
  have Fr : Hid (Fit r) := Lib.hid (Nat.lt_trans Lr HFz.out)
  have Sr : Hid (Sz r) := Lib.hid (HSz.out.mono (Nat.le_of_lt Lr))
  clear hz0 hr Lr
  clear ha hb hc la lb lc ex ey ez h0
  rcases hcase with ⟨g1, g2⟩ | ⟨g1, g2⟩ | ⟨g1, g2, g3⟩ <;> (
    go_enter Try.func6, Try.ntmps6
    go_wp2_with fail
    refine (made2_ok _ _ Ha.out HLx.out HEx.out HFx.out).mono ?_
    rintro e p1 ⟨rfl, hb⟩
    have A_1 := Lib.hid (Ha.out.below hb)
    have B_1 := Lib.hid (Hb.out.below hb)
    have C_1 := Lib.hid (Hc.out.below hb)
    have W_1 := Lib.hid (hb)
    clear hb Ha Hb Hc
    go_wp2_with fail
    refine (made2_ok _ _ B_1.out HLy.out HEy.out HFy.out).mono ?_
    rintro e p2 ⟨rfl, hb⟩
    have A_2 := Lib.hid (A_1.out.below hb)
    have B_2 := Lib.hid (B_1.out.below hb)
    have C_2 := Lib.hid (C_1.out.below hb)
    have W_2 := Lib.hid (W_1.out.trans (hb.mono W_1.out.size))
    clear hb A_1 B_1 C_1 W_1
    go_wp2_with fail
    refine (made2_ok _ _ C_2.out HLz.out HEz.out HFz.out).mono ?_
    rintro e p3 ⟨rfl, hb⟩
    have A_3 := Lib.hid (A_2.out.below hb)
    have B_3 := Lib.hid (B_2.out.below hb)
    have C_3 := Lib.hid (C_2.out.below hb)
    have W_3 := Lib.hid (W_2.out.trans (hb.mono W_2.out.size))
    clear hb A_2 B_2 C_2 W_2
    go_wp2_with fail
    refine (mexp_ok _ HFz.out H0.out HFx.out HFy.out Er.out).mono ?_
    rintro e p4 ⟨rfl, hb⟩
    have XT0_4 := Lib.hid (NatAt.zero p4)
    have XA_4 := Lib.hid (below_zero hb hb.size)
    have hsz_4 := Lib.hid hb.size
    clear hb
    go_wp2_with (first | go_skip | (refine wpl_stN ntNat rfl rfl rfl rfl XT0_4.out ?_; intro q4 hn hg; have XB0_4 := Lib.hid (XA_4.out.grown hg XA_4.out.size (fun j e => by injection e with e; rw [← e]; have := hsz_4.out; omega)); have XS00_4 := Lib.hid hn; have A_4 := Lib.hid (A_3.out.below XB0_4.out); have B_4 := Lib.hid (B_3.out.below XB0_4.out); have C_4 := Lib.hid (C_3.out.below XB0_4.out); have W_4 := Lib.hid (W_3.out.trans (XB0_4.out.mono W_3.out.size)); have r_4 := XS00_4; clear hn hg A_3 B_3 C_3 W_3 XT0_4 XA_4 XS00_4 XB0_4 hsz_4) | (refine wpl_ldN ntNat rfl rfl rfl r_4.out ?_) | (refine wpl_ldN_g ntNat ?hw rfl rfl r_4.out ?_; (case hw => rfl)))
    refine (from_any _ xc _ C_4.out (by have := HLz.out; omega)).mono ?_
    rintro e p5 ⟨v5, rfl, hv, hb, -⟩
    rw [HEz.out] at hv
    obtain ⟨As5, cs5, rfl, -⟩ := Lst.len hv
    have A_5 := Lib.hid (A_4.out.below hb)
    have B_5 := Lib.hid (B_4.out.below hb)
    have C_5 := Lib.hid (C_4.out.below hb)
    have r_5 := Lib.hid (r_4.out.below hb)
    have W_5 := Lib.hid (W_4.out.trans (hb.mono W_4.out.size))
    have M_5 := Lib.hid hv
    clear hv hb A_4 B_4 C_4 r_4 W_4
    go_wp2_with (first | go_skip | (refine wpl_ldN ntNat rfl rfl rfl r_5.out ?_) | (refine wpl_ldN_g ntNat ?hw rfl rfl r_5.out ?_; (case hw => rfl)))
    refine region_road Later [(0, true), (1, true), (2, true), (3, true), (4, true), (6, true), (8, true), (5, false), (7, false), (9, false), (10, false), (11, true), (12, true), (13, false), (14, true), (15, true)] (by kernel_rfl) (by kernel_rfl) (by kernel_rfl) (by kernel_rfl) (by kernel_rfl) (by kernel_rfl) later_refl later_trans (fun _ _ d _ _ h => by cases d <;> exact h) ?_
    have A_6 := Lib.hid (A_5.out.below ((Below.refl p5.heap.size p5).drew))
    have B_6 := Lib.hid (B_5.out.below ((Below.refl p5.heap.size p5).drew))
    have C_6 := Lib.hid (C_5.out.below ((Below.refl p5.heap.size p5).drew))
    have r_6 := Lib.hid (r_5.out.below ((Below.refl p5.heap.size p5).drew))
    have M_6 := Lib.hid (M_5.out.below ((Below.refl p5.heap.size p5).drew))
    have W_6 := Lib.hid (W_5.out.trans (((Below.refl p5.heap.size p5).drew).mono W_5.out.size))
    clear A_5 B_5 C_5 r_5 M_5 W_5
    generalize p5.drew = d6 at A_6 B_6 C_6 r_6 M_6 W_6 ⊢
    refine seqR_at (o := ?_) ?_ ?_
    rotate_left
    · (conv => (lhs; whnf; arg 1; whnf))
    refine seqR_y (v := ?_) (by rfl) (fun W hW => ?_) ?_
    rotate_left
    · go_simp; try with_reducible rfl
    try simp only [Act.put, List.setIfInBounds_toArray, List.set_cons_zero, List.set_cons_succ]
    refine seqR_at (o := ?_) ?_ ?_
    rotate_left
    · (conv => (lhs; whnf; arg 1; whnf))
    refine seqR_y (v := ?_) (by rfl) (fun W hW => ?_) ?_
    rotate_left
    · go_simp; try with_reducible rfl
    try simp only [Act.put, List.setIfInBounds_toArray, List.set_cons_zero, List.set_cons_succ]
    refine seqR_at (o := ?_) ?_ ?_
    rotate_left
    · (conv => (lhs; whnf; arg 1; whnf))
    refine seqR_y (v := ?_) (by rfl) (fun W hW => ?_) ?_
    rotate_left
    · go_simp; try with_reducible rfl
    try simp only [Act.put, List.setIfInBounds_toArray, List.set_cons_zero, List.set_cons_succ]
    refine seqR_at (o := ?_) ?_ ?_
    rotate_left
    · (conv => (lhs; whnf; arg 1; whnf))
    refine seqR_y (v := ?_) (by rfl) (fun W hW => ?_) ?_
    rotate_left
    · (refine exec_ldN (x := .tmp 7) ntNat ?_ ?_ (r_6.out.below hW)) <;> rfl
    try simp only [Act.put, List.setIfInBounds_toArray, List.set_cons_zero, List.set_cons_succ]
    refine seqR_at (o := ?_) ?_ ?_
    rotate_left
    · (conv => (lhs; whnf; arg 1; whnf))
    refine seqR_y (v := ?_) (by rfl) (fun W hW => ?_) ?_
    rotate_left
    · go_simp; try with_reducible rfl
    try simp only [Act.put, List.setIfInBounds_toArray, List.set_cons_zero, List.set_cons_succ]
    refine seqR_at (o := ?_) ?_ ?_
    rotate_left
    · (conv => (lhs; whnf; arg 1; whnf))
    refine seqR_y (v := ?_) (by rfl) (fun W hW => ?_) ?_
    rotate_left
    · go_simp; try with_reducible rfl
    try simp only [Act.put, List.setIfInBounds_toArray, List.set_cons_zero, List.set_cons_succ]
    refine seqR_at (o := ?_) ?_ ?_
    rotate_left
    · (conv => (lhs; whnf; arg 1; whnf))
    refine seqR_y (v := ?_) (by rfl) (fun W hW => ?_) ?_
    rotate_left
    · go_simp; try with_reducible rfl
    try simp only [Act.put, List.setIfInBounds_toArray, List.set_cons_zero, List.set_cons_succ]
    refine seqR_at (o := ?_) ?_ ?_
    rotate_left
    · (conv => (lhs; whnf; arg 1; whnf))
    refine seqR_c (by rfl) (fun K hK => ?_)
    go_simp
    refine (from_any _ xa _ A_6.out (by have := HLx.out; omega)).mono ?_
    rintro e p7 ⟨v7, rfl, hv, hb, _⟩
    have A_7 := Lib.hid (A_6.out.below hb)
    have B_7 := Lib.hid (B_6.out.below hb)
    have C_7 := Lib.hid (C_6.out.below hb)
    have r_7 := Lib.hid (r_6.out.below hb)
    have M_7 := Lib.hid (M_6.out.below hb)
    have W_7 := Lib.hid (W_6.out.trans (hb.mono W_6.out.size))
    rw [HEx.out] at hv
    refine hK _ _ hb ?_
    clear hK K hb A_6 B_6 C_6 r_6 M_6 W_6
    have P_7 := Lib.hid hv; clear hv
    try simp only [Act.put, List.setIfInBounds_toArray, List.set_cons_zero, List.set_cons_succ]
    refine seqR_at (o := ?_) ?_ ?_
    rotate_left
    · (conv => (lhs; whnf; arg 1; whnf))
    refine seqR_c (by rfl) (fun K hK => ?_)
    go_simp
    refine (from_any _ xb _ B_7.out (by have := HLy.out; omega)).mono ?_
    rintro e p8 ⟨v8, rfl, hv, hb, _⟩
    have A_8 := Lib.hid (A_7.out.below hb)
    have B_8 := Lib.hid (B_7.out.below hb)
    have C_8 := Lib.hid (C_7.out.below hb)
    have r_8 := Lib.hid (r_7.out.below hb)
    have M_8 := Lib.hid (M_7.out.below hb)
    have P_8 := Lib.hid (P_7.out.below hb)
    have W_8 := Lib.hid (W_7.out.trans (hb.mono W_7.out.size))
    rw [HEy.out] at hv
    refine hK _ _ hb ?_
    clear hK K hb A_7 B_7 C_7 r_7 M_7 P_7 W_7
    have Q_8 := Lib.hid hv; clear hv
    try simp only [Act.put, List.setIfInBounds_toArray, List.set_cons_zero, List.set_cons_succ]
    refine seqR_at (o := ?_) ?_ ?_
    rotate_left
    · (conv => (lhs; whnf; arg 1; whnf))
    refine seqR_c (by rfl) (fun K hK => ?_)
    go_simp
    refine (rmexp_ok _ _ _ _ P_8.out Q_8.out M_8.out HKx.out HKy.out HKz.out H0.out Er.out).mono ?_
    rintro e p9 ⟨v9, rfl, hv, hb⟩
    have A_9 := Lib.hid (A_8.out.below hb)
    have B_9 := Lib.hid (B_8.out.below hb)
    have C_9 := Lib.hid (C_8.out.below hb)
    have r_9 := Lib.hid (r_8.out.below hb)
    have M_9 := Lib.hid (M_8.out.below hb)
    have P_9 := Lib.hid (P_8.out.below hb)
    have Q_9 := Lib.hid (Q_8.out.below hb)
    have W_9 := Lib.hid (W_8.out.trans (hb.mono W_8.out.size))
    refine hK _ _ hb ?_
    clear hK K hb A_8 B_8 C_8 r_8 M_8 P_8 Q_8 W_8
    have R1_9 := Lib.hid hv; clear hv
    try simp only [Act.put, List.setIfInBounds_toArray, List.set_cons_zero, List.set_cons_succ]
    refine seqR_at (o := ?_) ?_ ?_
    rotate_left
    · (conv => (lhs; whnf; arg 1; whnf))
    refine seqR_c (by rfl) (fun K hK => ?_)
    go_simp
    refine (same2_ok _ _ Fr.out R1_9.out Sr.out (decide_eq_true rfl)).mono ?_
    rintro e p10 ⟨rfl, hb⟩
    have A_10 := Lib.hid (A_9.out.below hb)
    have B_10 := Lib.hid (B_9.out.below hb)
    have C_10 := Lib.hid (C_9.out.below hb)
    have r_10 := Lib.hid (r_9.out.below hb)
    have M_10 := Lib.hid (M_9.out.below hb)
    have P_10 := Lib.hid (P_9.out.below hb)
    have Q_10 := Lib.hid (Q_9.out.below hb)
    have R1_10 := Lib.hid (R1_9.out.below hb)
    have W_10 := Lib.hid (W_9.out.trans (hb.mono W_9.out.size))
    refine hK _ _ hb ?_
    clear hK K hb A_9 B_9 C_9 r_9 M_9 P_9 Q_9 R1_9 W_9
    try simp only [Act.put, List.setIfInBounds_toArray, List.set_cons_zero, List.set_cons_succ]
    refine seqR_at (o := ?_) ?_ ?_
    rotate_left
    · (conv => (lhs; whnf; arg 1; whnf))
    refine seqR_y (v := ?_) (by rfl) (fun W hW => ?_) ?_
    rotate_left
    · go_simp; try with_reducible rfl
    try simp only [Act.put, List.setIfInBounds_toArray, List.set_cons_zero, List.set_cons_succ]
    refine seqR_at (o := ?_) ?_ ?_
    rotate_left
    · (conv => (lhs; whnf; arg 1; whnf))
    refine seqR_y (v := ?_) (by rfl) (fun W hW => ?_) ?_
    rotate_left
    · go_simp; try with_reducible rfl
    try simp only [Act.put, List.setIfInBounds_toArray, List.set_cons_zero, List.set_cons_succ]
    refine seqR_at (o := ?_) ?_ ?_
    rotate_left
    · (conv => (lhs; whnf; arg 1; whnf))
    refine seqR_c (by rfl) (fun K hK => ?_)
    go_simp
    refine (known2_any _).mono ?_
    rintro e p11 ⟨rfl, hb⟩
    have A_11 := Lib.hid (A_10.out.below hb)
    have B_11 := Lib.hid (B_10.out.below hb)
    have C_11 := Lib.hid (C_10.out.below hb)
    have r_11 := Lib.hid (r_10.out.below hb)
    have M_11 := Lib.hid (M_10.out.below hb)
    have P_11 := Lib.hid (P_10.out.below hb)
    have Q_11 := Lib.hid (Q_10.out.below hb)
    have R1_11 := Lib.hid (R1_10.out.below hb)
    have W_11 := Lib.hid (W_10.out.trans (hb.mono W_10.out.size))
    refine hK _ _ hb ?_
    clear hK K hb A_10 B_10 C_10 r_10 M_10 P_10 Q_10 R1_10 W_10
    try simp only [Act.put, List.setIfInBounds_toArray, List.set_cons_zero, List.set_cons_succ]
    refine seqR_at (o := ?_) ?_ ?_
    rotate_left
    · (conv => (lhs; whnf; arg 1; whnf))
    refine seqR_y (v := ?_) (by rfl) (fun W hW => ?_) ?_
    rotate_left
    · go_simp; try with_reducible rfl
    try simp only [Act.put, List.setIfInBounds_toArray, List.set_cons_zero, List.set_cons_succ]
    refine seqR_at (o := ?_) ?_ ?_
    rotate_left
    · (conv => (lhs; whnf; arg 1; whnf))
    refine seqR_y (v := ?_) (by rfl) (fun W hW => ?_) ?_
    rotate_left
    · go_simp; try with_reducible rfl
    try simp only [Act.put, List.setIfInBounds_toArray, List.set_cons_zero, List.set_cons_succ]
    refine seqR_end ?_
    go_wp2_with (first | go_skip | (refine wpl_ldN ntNat rfl rfl rfl r_11.out ?_) | (refine wpl_ldN_g ntNat ?hw rfl rfl r_11.out ?_; (case hw => rfl)))
    go_ret
    exact ⟨rfl, W_11.out⟩
  )

set_option maxHeartbeats 3200000 in
theorem mpow_any (va : Value) (xa : List UInt8) (vb : Value) (xb : List UInt8) (vc : Value) (xc : List UInt8) (w : World) (ha : Byt w va xa) (hb : Byt w vb xb) (hc : Byt w vc xc) :
    Calls Try.prog 6 #[va, vb, vc] w fun e w' => e = .returned (.bool true) ∧ Below w.heap.size w w' := by
  have HA := Lib.hid ha
  have HB := Lib.hid hb
  have HC := Lib.hid hc
  obtain ⟨A, c, rfl, -⟩ := ha.len
  obtain ⟨B, d, rfl, -⟩ := hb.len
  obtain ⟨C, cc, rfl, -⟩ := hc.len
  clear ha hb hc
  by_cases hl0 : 128 < xa.length
  · have d0 : decide (128 < (xa.length : Int)) = true := decide_eq_true (by omega)
    clear hl0
    go_enter Try.func6, Try.ntmps6
    go_wp2_with fail
    refine (known2_any w).mono ?_
    rintro e w1 ⟨rfl, hb⟩
    have HB := Lib.hid hb
    clear hb
    go_wp2_with fail
    go_ret
    exact ⟨rfl, HB.out⟩
  · have d0 : decide (128 < (xa.length : Int)) = false := decide_eq_false (by omega)
    have ll0 : xa.length ≤ 128 := by omega
    clear hl0
    by_cases hl1 : 24 < xb.length
    · have d1 : decide (24 < (xb.length : Int)) = true := decide_eq_true (by omega)
      clear hl1 ll0
      go_enter Try.func6, Try.ntmps6
      go_wp2_with fail
      refine (known2_any w).mono ?_
      rintro e w1 ⟨rfl, hb⟩
      have HB := Lib.hid hb
      clear hb
      go_wp2_with fail
      go_ret
      exact ⟨rfl, HB.out⟩
    · have d1 : decide (24 < (xb.length : Int)) = false := decide_eq_false (by omega)
      have ll1 : xb.length ≤ 24 := by omega
      clear hl1
      by_cases hl2 : 128 < xc.length
      · have d2 : decide (128 < (xc.length : Int)) = true := decide_eq_true (by omega)
        clear hl2 ll0 ll1
        go_enter Try.func6, Try.ntmps6
        go_wp2_with fail
        refine (known2_any w).mono ?_
        rintro e w1 ⟨rfl, hb⟩
        have HB := Lib.hid hb
        clear hb
        go_wp2_with fail
        go_ret
        exact ⟨rfl, HB.out⟩
      · have d2 : decide (128 < (xc.length : Int)) = false := decide_eq_false (by omega)
        have ll2 : xc.length ≤ 128 := by omega
        clear hl2
        by_cases ka : 24 < xa.length
        · skip
          have ga : decide (24 < (xa.length : Int)) = true := decide_eq_true (by omega)
          by_cases kb : 2 < xb.length
          · skip
            have gb : decide (2 < (xb.length : Int)) = true := decide_eq_true (by omega)
            clear ka kb ll0 ll1 ll2
            go_enter Try.func6, Try.ntmps6
            go_wp2_with fail
            refine (known2_any w).mono ?_
            rintro e w1 ⟨rfl, hb⟩
            have HB := Lib.hid hb
            clear hb
            go_wp2_with fail
            go_ret
            exact ⟨rfl, HB.out⟩
          · skip
            have gb : decide (2 < (xb.length : Int)) = false := decide_eq_false (by omega)
            by_cases h0 : numN xc = 0
            · exact mpow_z _ xa _ xb _ xc w HA.out HB.out HC.out ll0 ll1 ll2 _ _ _ rfl rfl rfl h0 (.inr (.inl ⟨ga, gb⟩))
            
            · exact mpow_n _ xa _ xb _ xc w HA.out HB.out HC.out ll0 ll1 ll2 _ _ _ rfl rfl rfl h0 (.inr (.inl ⟨ga, gb⟩))
        · skip
          have ga : decide (24 < (xa.length : Int)) = false := decide_eq_false (by omega)
          by_cases kc : 24 < xc.length
          · skip
            have gc : decide (24 < (xc.length : Int)) = true := decide_eq_true (by omega)
            by_cases kb : 2 < xb.length
            · skip
              have gb : decide (2 < (xb.length : Int)) = true := decide_eq_true (by omega)
              clear ka kb kc ll0 ll1 ll2
              go_enter Try.func6, Try.ntmps6
              go_wp2_with fail
              refine (known2_any w).mono ?_
              rintro e w1 ⟨rfl, hb⟩
              have HB := Lib.hid hb
              clear hb
              go_wp2_with fail
              go_ret
              exact ⟨rfl, HB.out⟩
            · skip
              have gb : decide (2 < (xb.length : Int)) = false := decide_eq_false (by omega)
              by_cases h0 : numN xc = 0
              · exact mpow_z _ xa _ xb _ xc w HA.out HB.out HC.out ll0 ll1 ll2 _ _ _ rfl rfl rfl h0 (.inr (.inr ⟨ga, gc, gb⟩))
              
              · exact mpow_n _ xa _ xb _ xc w HA.out HB.out HC.out ll0 ll1 ll2 _ _ _ rfl rfl rfl h0 (.inr (.inr ⟨ga, gc, gb⟩))
          · skip
            have gc : decide (24 < (xc.length : Int)) = false := decide_eq_false (by omega)
            by_cases h0 : numN xc = 0
            · exact mpow_z _ xa _ xb _ xc w HA.out HB.out HC.out ll0 ll1 ll2 _ _ _ rfl rfl rfl h0 (.inl ⟨ga, gc⟩)
            
            · exact mpow_n _ xa _ xb _ xc w HA.out HB.out HC.out ll0 ll1 ll2 _ _ _ rfl rfl rfl h0 (.inl ⟨ga, gc⟩)

end Go.Proofs.Ytfmadiepefbepaa
