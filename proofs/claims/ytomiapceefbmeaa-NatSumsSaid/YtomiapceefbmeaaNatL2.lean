/- Walk: the law NatSums (printed by gennatlaw.py). -/
import Derived.Test.YtomiapceefbmeaaNatII
set_option linter.unusedVariables false
set_option linter.unusedSimpArgs false
set_option maxRecDepth 100000
namespace Go.Proofs.Ytomiapceefbmeaa
open Go.RowKit

set_option maxHeartbeats 6400000 in
theorem sums_lt (va : Value) (xa : List UInt8) (vb : Value) (xb : List UInt8) (w : World) (ha : Byt w va xa) (hb : Byt w vb xb) (ll0 : xa.length ≤ 128) (ll1 : xb.length ≤ 128)
    (n m : Nat) (hn : numN xa = n) (hm : numN xb = m) (hc : n < m) :
    Calls Try.prog 7 #[va, vb] w fun e w' => e = .returned (.bool true) ∧ Below w.heap.size w w' := by
  have HA := Lib.hid ha
  have HB := Lib.hid hb
  obtain ⟨A, c, rfl, -⟩ := ha.len
  obtain ⟨B, d, rfl, -⟩ := hb.len
  have d0 : decide (128 < (xa.length : Int)) = false := decide_eq_false (by omega)
  have d1 : decide (128 < (xb.length : Int)) = false := decide_eq_false (by omega)
  have HLn : Hid (xa.length ≤ 200) := Lib.hid (by omega)
  have HLm : Hid (xb.length ≤ 200) := Lib.hid (by omega)
  have HSn := Lib.hid (sz_num HLn.out)
  have HSm := Lib.hid (sz_num HLm.out)
  have HFn := Lib.hid (fit_num (xs := xa) ll0)
  have HFm := Lib.hid (fit_num (xs := xb) ll1)
  have HCn := Lib.hid (c16_num HLn.out)
  have HCm := Lib.hid (c16_num HLm.out)
  rw [hn] at HSn HFn HCn
  rw [hm] at HSm HFm HCm
  have HEn := Lib.hid hn
  have HEm := Lib.hid hm
  have HCmp : Hid (cmpI n m = -1) := Lib.hid (by unfold cmpI; rw [if_pos hc])
  have HQ : Hid (decide (n = m) = false) := Lib.hid (decide_eq_false (by omega))
  have HCN := Lib.hid hc
  clear ha hb ll0 ll1 hn hm hc
  obtain ⟨s, hs⟩ : ∃ s, n + m = s := ⟨_, rfl⟩
  have HP := Lib.hid hs
  have HSs : Hid (Sz s) := Lib.hid (by rw [← hs]; exact Sz.of (Nat.le_trans (c16_add n m) (Nat.succ_le_succ (Nat.max_le.2 ⟨HCn.out, HCm.out⟩))) (by decide))
  clear hs
  by_cases hf : Fit s
  · have HFs := Lib.hid hf
    clear hf
    go_enter Try.func7, Try.ntmps7
    go_wp2_with fail
    refine (made_ok _ _ HA.out HLn.out HEn.out HFn.out).mono ?_
    rintro e p1 ⟨v1, rfl, hv, hb⟩
    have XT0_1 := Lib.hid (NatAt.zero p1)
    have XA_1 := Lib.hid (below_zero hb hb.size)
    have hsz_1 : Hid (w.heap.size ≤ p1.heap.size) := Lib.hid hb.size
    have XQ_1 := Lib.hid (below_zero (Below.refl p1.heap.size p1) (Nat.le_refl _))
    have XMp_1 := Lib.hid hv
    clear hv
    clear hb
    go_wp2_with (first | (refine wpl_stN ntNat rfl rfl rfl rfl XT0_1.out ?_; intro q1 hn hg; have XB0_1 := Lib.hid (XA_1.out.grown hg XA_1.out.size (fun j e => by injection e with e; rw [← e]; have := hsz_1.out; omega)); have XS00_1 := Lib.hid hn; have hq := XQ_1.out.grown hg XQ_1.out.size (fun j e => by injection e with e; rw [← e]; exact Nat.le_refl _); have A_1 := Lib.hid (HA.out.below XB0_1.out); have B_1 := Lib.hid (HB.out.below XB0_1.out); have W_1 := Lib.hid (XB0_1.out); have p_1 := Lib.hid (XMp_1.out.below hq); have x_1 := XS00_1; clear hn hg HA HB XMp_1 hq XQ_1 XT0_1 XA_1 XS00_1 XB0_1 hsz_1) | (refine wpl_ldN ntNat rfl rfl rfl x_1.out ?_) | (refine wpl_ldN_g ntNat rfl rfl rfl x_1.out ?_))
    refine (made_ok _ _ B_1.out HLm.out HEm.out HFm.out).mono ?_
    rintro e p2 ⟨v2, rfl, hv, hb⟩
    have XT0_2 := Lib.hid (NatAt.zero p2)
    have XA_2 := Lib.hid (below_zero hb hb.size)
    have hsz_2 : Hid (q1.heap.size ≤ p2.heap.size) := Lib.hid hb.size
    have XQ_2 := Lib.hid (below_zero (Below.refl p2.heap.size p2) (Nat.le_refl _))
    have XMq_2 := Lib.hid hv
    clear hv
    clear hb
    go_wp2_with (first | (refine wpl_stN ntNat rfl rfl rfl rfl XT0_2.out ?_; intro q2 hn hg; have XB0_2 := Lib.hid (XA_2.out.grown hg XA_2.out.size (fun j e => by injection e with e; rw [← e]; have := hsz_2.out; omega)); have XS00_2 := Lib.hid hn; have hq := XQ_2.out.grown hg XQ_2.out.size (fun j e => by injection e with e; rw [← e]; exact Nat.le_refl _); have A_2 := Lib.hid (A_1.out.below XB0_2.out); have B_2 := Lib.hid (B_1.out.below XB0_2.out); have p_2 := Lib.hid (p_1.out.below XB0_2.out); have x_2 := Lib.hid (x_1.out.below XB0_2.out); have W_2 := Lib.hid (W_1.out.trans (XB0_2.out.mono W_1.out.size)); have q_2 := Lib.hid (XMq_2.out.below hq); have y_2 := XS00_2; clear hn hg A_1 B_1 p_1 x_1 W_1 XMq_2 hq XQ_2 XT0_2 XA_2 XS00_2 XB0_2 hsz_2) | (refine wpl_ldN ntNat rfl rfl rfl x_2.out ?_) | (refine wpl_ldN_g ntNat rfl rfl rfl x_2.out ?_) | (refine wpl_ldN ntNat rfl rfl rfl y_2.out ?_) | (refine wpl_ldN_g ntNat rfl rfl rfl y_2.out ?_))
    clear A_2
    clear B_2
    refine region_road Later [(0, true), (1, true), (2, true), (3, true), (4, true), (5, true), (6, true), (7, true), (8, true), (10, true), (11, true), (9, false), (12, false), (13, true), (14, true), (15, true), (16, true), (17, true), (18, true), (19, true), (20, true), (21, false), (22, true), (23, true), (24, true)] (by kernel_rfl) (by kernel_rfl) (by kernel_rfl) (by kernel_rfl) (by kernel_rfl) (by kernel_rfl) later_refl later_trans (fun _ _ d _ _ h => by cases d <;> exact h) ?_
    have p_3 := Lib.hid (p_2.out.below ((Below.refl q2.heap.size q2).drew))
    have x_3 := Lib.hid (x_2.out.below ((Below.refl q2.heap.size q2).drew))
    have q_3 := Lib.hid (q_2.out.below ((Below.refl q2.heap.size q2).drew))
    have y_3 := Lib.hid (y_2.out.below ((Below.refl q2.heap.size q2).drew))
    have W_3 := Lib.hid (W_2.out.trans (((Below.refl q2.heap.size q2).drew).mono W_2.out.size))
    clear p_2 x_2 q_2 y_2 W_2
    generalize q2.drew = d3 at p_3 x_3 q_3 y_3 W_3 ⊢
    refine seqR_at (o := ?_) ?_ ?_
    rotate_left
    · (conv => (lhs; whnf; arg 1; whnf))
    refine seqR_y (v := ?_) (by rfl) (fun W hW => ?_) ?_
    rotate_left
    · go_simp; try with_reducible rfl
    try simp only [Act.put, List.setIfInBounds_toArray, List.set_cons_zero, List.set_cons_succ]
    refine seqR_at (o := ?_) ?_ ?_
    rotate_left
    · (conv => (lhs; whnf; arg 1; whnf))
    refine seqR_y (v := ?_) (by rfl) (fun W hW => ?_) ?_
    rotate_left
    · go_simp; try with_reducible rfl
    try simp only [Act.put, List.setIfInBounds_toArray, List.set_cons_zero, List.set_cons_succ]
    refine seqR_at (o := ?_) ?_ ?_
    rotate_left
    · (conv => (lhs; whnf; arg 1; whnf))
    refine seqR_y (v := ?_) (by rfl) (fun W hW => ?_) ?_
    rotate_left
    · go_simp; try with_reducible rfl
    try simp only [Act.put, List.setIfInBounds_toArray, List.set_cons_zero, List.set_cons_succ]
    refine seqR_at (o := ?_) ?_ ?_
    rotate_left
    · (conv => (lhs; whnf; arg 1; whnf))
    refine seqR_y (v := ?_) (by rfl) (fun W hW => ?_) ?_
    rotate_left
    · go_simp; try with_reducible rfl
    try simp only [Act.put, List.setIfInBounds_toArray, List.set_cons_zero, List.set_cons_succ]
    refine seqR_at (o := ?_) ?_ ?_
    rotate_left
    · (conv => (lhs; whnf; arg 1; whnf))
    refine seqR_y (v := ?_) (by rfl) (fun W hW => ?_) ?_
    rotate_left
    · go_simp; try with_reducible rfl
    try simp only [Act.put, List.setIfInBounds_toArray, List.set_cons_zero, List.set_cons_succ]
    refine seqR_at (o := ?_) ?_ ?_
    rotate_left
    · (conv => (lhs; whnf; arg 1; whnf))
    refine seqR_y (v := ?_) (by rfl) (fun W hW => ?_) ?_
    rotate_left
    · go_simp; try with_reducible rfl
    try simp only [Act.put, List.setIfInBounds_toArray, List.set_cons_zero, List.set_cons_succ]
    refine seqR_at (o := ?_) ?_ ?_
    rotate_left
    · (conv => (lhs; whnf; arg 1; whnf))
    refine seqR_y (v := ?_) (by rfl) (fun W hW => ?_) ?_
    rotate_left
    · go_simp; try with_reducible rfl
    try simp only [Act.put, List.setIfInBounds_toArray, List.set_cons_zero, List.set_cons_succ]
    refine seqR_at (o := ?_) ?_ ?_
    rotate_left
    · (conv => (lhs; whnf; arg 1; whnf))
    refine seqR_y (v := ?_) (by rfl) (fun W hW => ?_) ?_
    rotate_left
    · (refine exec_ldN (x := .tmp 5) ntNat ?_ ?_ (x_3.out.below hW)) <;> rfl
    try simp only [Act.put, List.setIfInBounds_toArray, List.set_cons_zero, List.set_cons_succ]
    refine seqR_at (o := ?_) ?_ ?_
    rotate_left
    · (conv => (lhs; whnf; arg 1; whnf))
    refine seqR_y (v := ?_) (by rfl) (fun W hW => ?_) ?_
    rotate_left
    · (refine exec_ldN (x := .tmp 8) ntNat ?_ ?_ (y_3.out.below hW)) <;> rfl
    try simp only [Act.put, List.setIfInBounds_toArray, List.set_cons_zero, List.set_cons_succ]
    refine seqR_at (o := ?_) ?_ ?_
    rotate_left
    · (conv => (lhs; whnf; arg 1; whnf))
    refine seqR_y (v := ?_) (by rfl) (fun W hW => ?_) ?_
    rotate_left
    · go_simp; try with_reducible rfl
    try simp only [Act.put, List.setIfInBounds_toArray, List.set_cons_zero, List.set_cons_succ]
    refine seqR_at (o := ?_) ?_ ?_
    rotate_left
    · (conv => (lhs; whnf; arg 1; whnf))
    refine seqR_y (v := ?_) (by rfl) (fun W hW => ?_) ?_
    rotate_left
    · go_simp; try with_reducible rfl
    try simp only [Act.put, List.setIfInBounds_toArray, List.set_cons_zero, List.set_cons_succ]
    refine seqR_at (o := ?_) ?_ ?_
    rotate_left
    · (conv => (lhs; whnf; arg 1; whnf))
    refine seqR_c (by rfl) (fun K hK => ?_)
    go_simp
    refine (compare_ok _ HFn.out HFm.out HCmp.out).mono ?_
    rintro e p4 ⟨rfl, hb⟩
    have p_4 := Lib.hid (p_3.out.below hb)
    have x_4 := Lib.hid (x_3.out.below hb)
    have q_4 := Lib.hid (q_3.out.below hb)
    have y_4 := Lib.hid (y_3.out.below hb)
    have W_4 := Lib.hid (W_3.out.trans (hb.mono W_3.out.size))
    refine hK _ _ hb ?_
    clear hK K hb p_3 x_3 q_3 y_3 W_3
    try simp only [Act.put, List.setIfInBounds_toArray, List.set_cons_zero, List.set_cons_succ]
    refine seqR_at (o := ?_) ?_ ?_
    rotate_left
    · (conv => (lhs; whnf; arg 1; whnf))
    refine seqR_c (by rfl) (fun K hK => ?_)
    go_simp
    refine (rcompare_ok _ _ _ p_4.out q_4.out HSn.out HSm.out HCmp.out).mono ?_
    rintro e p5 ⟨rfl, rfl⟩
    refine hK _ _ (later_refl _) ?_
    clear hK K
    try simp only [Act.put, List.setIfInBounds_toArray, List.set_cons_zero, List.set_cons_succ]
    refine seqR_at (o := ?_) ?_ ?_
    rotate_left
    · (conv => (lhs; whnf; arg 1; whnf))
    refine seqR_y (v := ?_) (by rfl) (fun W hW => ?_) ?_
    rotate_left
    · go_simp; try with_reducible rfl
    try simp only [Act.put, List.setIfInBounds_toArray, List.set_cons_zero, List.set_cons_succ]
    refine seqR_at (o := ?_) ?_ ?_
    rotate_left
    · (conv => (lhs; whnf; arg 1; whnf))
    refine seqR_y (v := ?_) (by rfl) (fun W hW => ?_) ?_
    rotate_left
    · go_simp; try with_reducible rfl
    try simp only [Act.put, List.setIfInBounds_toArray, List.set_cons_zero, List.set_cons_succ]
    refine seqR_at (o := ?_) ?_ ?_
    rotate_left
    · (conv => (lhs; whnf; arg 1; whnf))
    refine seqR_y (v := ?_) (by rfl) (fun W hW => ?_) ?_
    rotate_left
    · go_simp; try with_reducible rfl
    try simp only [Act.put, List.setIfInBounds_toArray, List.set_cons_zero, List.set_cons_succ]
    refine seqR_at (o := ?_) ?_ ?_
    rotate_left
    · (conv => (lhs; whnf; arg 1; whnf))
    refine seqR_y (v := ?_) (by rfl) (fun W hW => ?_) ?_
    rotate_left
    · (refine exec_ldN (x := .tmp 5) ntNat ?_ ?_ (x_4.out.below hW)) <;> rfl
    try simp only [Act.put, List.setIfInBounds_toArray, List.set_cons_zero, List.set_cons_succ]
    refine seqR_at (o := ?_) ?_ ?_
    rotate_left
    · (conv => (lhs; whnf; arg 1; whnf))
    refine seqR_y (v := ?_) (by rfl) (fun W hW => ?_) ?_
    rotate_left
    · (refine exec_ldN (x := .tmp 8) ntNat ?_ ?_ (y_4.out.below hW)) <;> rfl
    try simp only [Act.put, List.setIfInBounds_toArray, List.set_cons_zero, List.set_cons_succ]
    refine seqR_at (o := ?_) ?_ ?_
    rotate_left
    · (conv => (lhs; whnf; arg 1; whnf))
    refine seqR_y (v := ?_) (by rfl) (fun W hW => ?_) ?_
    rotate_left
    · (refine exec_eqN (x := .tmp 53) (y := .tmp 54) (t' := 29) (a := n) (b := m) ?_ ?_ ?_ HFn.out HFm.out) <;> rfl
    simp only [HQ.out]
    try simp only [Act.put, List.setIfInBounds_toArray, List.set_cons_zero, List.set_cons_succ]
    refine seqR_at (o := ?_) ?_ ?_
    rotate_left
    · (conv => (lhs; whnf; arg 1; whnf))
    refine seqR_y (v := ?_) (by rfl) (fun W hW => ?_) ?_
    rotate_left
    · go_simp; try with_reducible rfl
    try simp only [Act.put, List.setIfInBounds_toArray, List.set_cons_zero, List.set_cons_succ]
    refine seqR_at (o := ?_) ?_ ?_
    rotate_left
    · (conv => (lhs; whnf; arg 1; whnf))
    refine seqR_y (v := ?_) (by rfl) (fun W hW => ?_) ?_
    rotate_left
    · go_simp; try with_reducible rfl
    try simp only [Act.put, List.setIfInBounds_toArray, List.set_cons_zero, List.set_cons_succ]
    refine seqR_at (o := ?_) ?_ ?_
    rotate_left
    · (conv => (lhs; whnf; arg 1; whnf))
    refine seqR_c (by rfl) (fun K hK => ?_)
    go_simp
    refine (rcompare_ok _ _ _ p_4.out q_4.out HSn.out HSm.out HCmp.out).mono ?_
    rintro e p6 ⟨rfl, rfl⟩
    refine hK _ _ (later_refl _) ?_
    clear hK K
    try simp only [Act.put, List.setIfInBounds_toArray, List.set_cons_zero, List.set_cons_succ]
    refine seqR_at (o := ?_) ?_ ?_
    rotate_left
    · (conv => (lhs; whnf; arg 1; whnf))
    refine seqR_y (v := ?_) (by rfl) (fun W hW => ?_) ?_
    rotate_left
    · go_simp; try with_reducible rfl
    try simp only [Act.put, List.setIfInBounds_toArray, List.set_cons_zero, List.set_cons_succ]
    refine seqR_at (o := ?_) ?_ ?_
    rotate_left
    · (conv => (lhs; whnf; arg 1; whnf))
    refine seqR_y (v := ?_) (by rfl) (fun W hW => ?_) ?_
    rotate_left
    · go_simp; try with_reducible rfl
    try simp only [Act.put, List.setIfInBounds_toArray, List.set_cons_zero, List.set_cons_succ]
    refine seqR_at (o := ?_) ?_ ?_
    rotate_left
    · (conv => (lhs; whnf; arg 1; whnf))
    refine seqR_y (v := ?_) (by rfl) (fun W hW => ?_) ?_
    rotate_left
    · go_simp; try with_reducible rfl
    try simp only [Act.put, List.setIfInBounds_toArray, List.set_cons_zero, List.set_cons_succ]
    refine seqR_end ?_
    go_wp2_with (first | (refine wpl_ldN ntNat rfl rfl rfl x_4.out ?_) | (refine wpl_ldN_g ntNat rfl rfl rfl x_4.out ?_) | (refine wpl_ldN ntNat rfl rfl rfl y_4.out ?_) | (refine wpl_ldN_g ntNat rfl rfl rfl y_4.out ?_))
    refine (add_ok _ HFn.out HFm.out HP.out HFs.out).mono ?_
    rintro e p7 ⟨rfl, hb⟩
    have XT0_7 := Lib.hid (NatAt.zero p7)
    have XA_7 := Lib.hid (below_zero hb hb.size)
    have hsz_7 : Hid (p4.heap.size ≤ p7.heap.size) := Lib.hid hb.size
    clear hb
    go_wp2_with (first | (refine wpl_stN ntNat rfl rfl rfl rfl XT0_7.out ?_; intro q7 hn hg; have XB0_7 := Lib.hid (XA_7.out.grown hg XA_7.out.size (fun j e => by injection e with e; rw [← e]; have := hsz_7.out; omega)); have XS00_7 := Lib.hid hn; have p_7 := Lib.hid (p_4.out.below XB0_7.out); have x_7 := Lib.hid (x_4.out.below XB0_7.out); have q_7 := Lib.hid (q_4.out.below XB0_7.out); have y_7 := Lib.hid (y_4.out.below XB0_7.out); have W_7 := Lib.hid (W_4.out.trans (XB0_7.out.mono W_4.out.size)); have z_7 := XS00_7; clear hn hg p_4 x_4 q_4 y_4 W_4 XT0_7 XA_7 XS00_7 XB0_7 hsz_7) | (refine wpl_ldN ntNat rfl rfl rfl x_7.out ?_) | (refine wpl_ldN_g ntNat rfl rfl rfl x_7.out ?_) | (refine wpl_ldN ntNat rfl rfl rfl y_7.out ?_) | (refine wpl_ldN_g ntNat rfl rfl rfl y_7.out ?_) | (refine wpl_ldN ntNat rfl rfl rfl z_7.out ?_) | (refine wpl_ldN_g ntNat rfl rfl rfl z_7.out ?_))
    refine (sub_under _ HFn.out HFm.out HCN.out).mono ?_
    rintro e p8 ⟨rfl, hb⟩
    have XT0_8 := Lib.hid (NatAt.zero p8)
    have XA_8 := Lib.hid (below_zero hb hb.size)
    have hsz_8 : Hid (q7.heap.size ≤ p8.heap.size) := Lib.hid hb.size
    clear hb
    go_wp2_with (first | (refine wpl_stN ntNat rfl rfl rfl rfl XT0_8.out ?_; intro q8 hn hg; have XB0_8 := Lib.hid (XA_8.out.grown hg XA_8.out.size (fun j e => by injection e with e; rw [← e]; have := hsz_8.out; omega)); have XS00_8 := Lib.hid hn; have p_8 := Lib.hid (p_7.out.below XB0_8.out); have x_8 := Lib.hid (x_7.out.below XB0_8.out); have q_8 := Lib.hid (q_7.out.below XB0_8.out); have y_8 := Lib.hid (y_7.out.below XB0_8.out); have z_8 := Lib.hid (z_7.out.below XB0_8.out); have W_8 := Lib.hid (W_7.out.trans (XB0_8.out.mono W_7.out.size)); have u_8 := XS00_8; clear hn hg p_7 x_7 q_7 y_7 z_7 W_7 XT0_8 XA_8 XS00_8 XB0_8 hsz_8) | (refine wpl_ldN ntNat rfl rfl rfl x_8.out ?_) | (refine wpl_ldN_g ntNat rfl rfl rfl x_8.out ?_) | (refine wpl_ldN ntNat rfl rfl rfl y_8.out ?_) | (refine wpl_ldN_g ntNat rfl rfl rfl y_8.out ?_) | (refine wpl_ldN ntNat rfl rfl rfl z_8.out ?_) | (refine wpl_ldN_g ntNat rfl rfl rfl z_8.out ?_) | (refine wpl_ldN ntNat rfl rfl rfl u_8.out ?_) | (refine wpl_ldN_g ntNat rfl rfl rfl u_8.out ?_))
    clear x_8
    clear y_8
    refine (radd_ok _ _ _ p_8.out q_8.out HSn.out HSm.out HP.out).mono ?_
    rintro e p9 ⟨v9, rfl, hv, hb, ho9⟩
    have p_9 := Lib.hid (p_8.out.below hb)
    have q_9 := Lib.hid (q_8.out.below hb)
    have z_9 := Lib.hid (z_8.out.below hb)
    have u_9 := Lib.hid (u_8.out.below hb)
    have W_9 := Lib.hid (W_8.out.trans (hb.mono W_8.out.size))
    clear hb ho9 p_8 q_8 z_8 u_8 W_8
    have r_9 := Lib.hid hv
    clear hv
    go_wp2_with (first | (refine wpl_ldN ntNat rfl rfl rfl z_9.out ?_) | (refine wpl_ldN_g ntNat rfl rfl rfl z_9.out ?_) | (refine wpl_ldN ntNat rfl rfl rfl u_9.out ?_) | (refine wpl_ldN_g ntNat rfl rfl rfl u_9.out ?_))
    refine (rfits_ok _ _ r_9.out HSs.out (c := true) (by simp [HFs.out])).mono ?_
    rintro e p10 ⟨rfl, rfl⟩
    go_wp2_with (first | (refine wpl_ldN ntNat rfl rfl rfl z_9.out ?_) | (refine wpl_ldN_g ntNat rfl rfl rfl z_9.out ?_) | (refine wpl_ldN ntNat rfl rfl rfl u_9.out ?_) | (refine wpl_ldN_g ntNat rfl rfl rfl u_9.out ?_))
    refine (same_ok _ _ HFs.out r_9.out HSs.out (decide_eq_true rfl)).mono ?_
    rintro e p11 ⟨rfl, hb⟩
    have p_11 := Lib.hid (p_9.out.below hb)
    have q_11 := Lib.hid (q_9.out.below hb)
    have z_11 := Lib.hid (z_9.out.below hb)
    have u_11 := Lib.hid (u_9.out.below hb)
    have r_11 := Lib.hid (r_9.out.below hb)
    have W_11 := Lib.hid (W_9.out.trans (hb.mono W_9.out.size))
    clear hb p_9 q_9 z_9 u_9 r_9 W_9
    go_wp2_with (first | (refine wpl_ldN ntNat rfl rfl rfl z_11.out ?_) | (refine wpl_ldN_g ntNat rfl rfl rfl z_11.out ?_) | (refine wpl_ldN ntNat rfl rfl rfl u_11.out ?_) | (refine wpl_ldN_g ntNat rfl rfl rfl u_11.out ?_))
    clear z_11
    clear r_11
    refine (rcompare_ok _ _ _ p_11.out q_11.out HSn.out HSm.out HCmp.out).mono ?_
    rintro e p12 ⟨rfl, rfl⟩
    go_wp2_with (first | (refine wpl_ldN ntNat rfl rfl rfl u_11.out ?_) | (refine wpl_ldN_g ntNat rfl rfl rfl u_11.out ?_))
    refine (isZero_zero _).mono ?_
    rintro e p13 ⟨rfl, hb⟩
    have p_13 := Lib.hid (p_11.out.below hb)
    have q_13 := Lib.hid (q_11.out.below hb)
    have u_13 := Lib.hid (u_11.out.below hb)
    have W_13 := Lib.hid (W_11.out.trans (hb.mono W_11.out.size))
    clear hb p_11 q_11 u_11 W_11
    go_wp2_with (first | (refine wpl_ldN ntNat rfl rfl rfl u_13.out ?_) | (refine wpl_ldN_g ntNat rfl rfl rfl u_13.out ?_))
    refine (known_any _).mono ?_
    rintro e p14 ⟨rfl, hb⟩
    have p_14 := Lib.hid (p_13.out.below hb)
    have q_14 := Lib.hid (q_13.out.below hb)
    have u_14 := Lib.hid (u_13.out.below hb)
    have W_14 := Lib.hid (W_13.out.trans (hb.mono W_13.out.size))
    clear hb p_13 q_13 u_13 W_13
    go_wp2_with (first | (refine wpl_ldN ntNat rfl rfl rfl u_14.out ?_) | (refine wpl_ldN_g ntNat rfl rfl rfl u_14.out ?_))
    go_ret
    exact ⟨rfl, W_14.out⟩
  · have HFs := Lib.hid hf
    clear hf
    go_enter Try.func7, Try.ntmps7
    go_wp2_with fail
    refine (made_ok _ _ HA.out HLn.out HEn.out HFn.out).mono ?_
    rintro e p1 ⟨v1, rfl, hv, hb⟩
    have XT0_1 := Lib.hid (NatAt.zero p1)
    have XA_1 := Lib.hid (below_zero hb hb.size)
    have hsz_1 : Hid (w.heap.size ≤ p1.heap.size) := Lib.hid hb.size
    have XQ_1 := Lib.hid (below_zero (Below.refl p1.heap.size p1) (Nat.le_refl _))
    have XMp_1 := Lib.hid hv
    clear hv
    clear hb
    go_wp2_with (first | (refine wpl_stN ntNat rfl rfl rfl rfl XT0_1.out ?_; intro q1 hn hg; have XB0_1 := Lib.hid (XA_1.out.grown hg XA_1.out.size (fun j e => by injection e with e; rw [← e]; have := hsz_1.out; omega)); have XS00_1 := Lib.hid hn; have hq := XQ_1.out.grown hg XQ_1.out.size (fun j e => by injection e with e; rw [← e]; exact Nat.le_refl _); have A_1 := Lib.hid (HA.out.below XB0_1.out); have B_1 := Lib.hid (HB.out.below XB0_1.out); have W_1 := Lib.hid (XB0_1.out); have p_1 := Lib.hid (XMp_1.out.below hq); have x_1 := XS00_1; clear hn hg HA HB XMp_1 hq XQ_1 XT0_1 XA_1 XS00_1 XB0_1 hsz_1) | (refine wpl_ldN ntNat rfl rfl rfl x_1.out ?_) | (refine wpl_ldN_g ntNat rfl rfl rfl x_1.out ?_))
    refine (made_ok _ _ B_1.out HLm.out HEm.out HFm.out).mono ?_
    rintro e p2 ⟨v2, rfl, hv, hb⟩
    have XT0_2 := Lib.hid (NatAt.zero p2)
    have XA_2 := Lib.hid (below_zero hb hb.size)
    have hsz_2 : Hid (q1.heap.size ≤ p2.heap.size) := Lib.hid hb.size
    have XQ_2 := Lib.hid (below_zero (Below.refl p2.heap.size p2) (Nat.le_refl _))
    have XMq_2 := Lib.hid hv
    clear hv
    clear hb
    go_wp2_with (first | (refine wpl_stN ntNat rfl rfl rfl rfl XT0_2.out ?_; intro q2 hn hg; have XB0_2 := Lib.hid (XA_2.out.grown hg XA_2.out.size (fun j e => by injection e with e; rw [← e]; have := hsz_2.out; omega)); have XS00_2 := Lib.hid hn; have hq := XQ_2.out.grown hg XQ_2.out.size (fun j e => by injection e with e; rw [← e]; exact Nat.le_refl _); have A_2 := Lib.hid (A_1.out.below XB0_2.out); have B_2 := Lib.hid (B_1.out.below XB0_2.out); have p_2 := Lib.hid (p_1.out.below XB0_2.out); have x_2 := Lib.hid (x_1.out.below XB0_2.out); have W_2 := Lib.hid (W_1.out.trans (XB0_2.out.mono W_1.out.size)); have q_2 := Lib.hid (XMq_2.out.below hq); have y_2 := XS00_2; clear hn hg A_1 B_1 p_1 x_1 W_1 XMq_2 hq XQ_2 XT0_2 XA_2 XS00_2 XB0_2 hsz_2) | (refine wpl_ldN ntNat rfl rfl rfl x_2.out ?_) | (refine wpl_ldN_g ntNat rfl rfl rfl x_2.out ?_) | (refine wpl_ldN ntNat rfl rfl rfl y_2.out ?_) | (refine wpl_ldN_g ntNat rfl rfl rfl y_2.out ?_))
    clear A_2
    clear B_2
    refine region_road Later [(0, true), (1, true), (2, true), (3, true), (4, true), (5, true), (6, true), (7, true), (8, true), (10, true), (11, true), (9, false), (12, false), (13, true), (14, true), (15, true), (16, true), (17, true), (18, true), (19, true), (20, true), (21, false), (22, true), (23, true), (24, true)] (by kernel_rfl) (by kernel_rfl) (by kernel_rfl) (by kernel_rfl) (by kernel_rfl) (by kernel_rfl) later_refl later_trans (fun _ _ d _ _ h => by cases d <;> exact h) ?_
    have p_3 := Lib.hid (p_2.out.below ((Below.refl q2.heap.size q2).drew))
    have x_3 := Lib.hid (x_2.out.below ((Below.refl q2.heap.size q2).drew))
    have q_3 := Lib.hid (q_2.out.below ((Below.refl q2.heap.size q2).drew))
    have y_3 := Lib.hid (y_2.out.below ((Below.refl q2.heap.size q2).drew))
    have W_3 := Lib.hid (W_2.out.trans (((Below.refl q2.heap.size q2).drew).mono W_2.out.size))
    clear p_2 x_2 q_2 y_2 W_2
    generalize q2.drew = d3 at p_3 x_3 q_3 y_3 W_3 ⊢
    refine seqR_at (o := ?_) ?_ ?_
    rotate_left
    · (conv => (lhs; whnf; arg 1; whnf))
    refine seqR_y (v := ?_) (by rfl) (fun W hW => ?_) ?_
    rotate_left
    · go_simp; try with_reducible rfl
    try simp only [Act.put, List.setIfInBounds_toArray, List.set_cons_zero, List.set_cons_succ]
    refine seqR_at (o := ?_) ?_ ?_
    rotate_left
    · (conv => (lhs; whnf; arg 1; whnf))
    refine seqR_y (v := ?_) (by rfl) (fun W hW => ?_) ?_
    rotate_left
    · go_simp; try with_reducible rfl
    try simp only [Act.put, List.setIfInBounds_toArray, List.set_cons_zero, List.set_cons_succ]
    refine seqR_at (o := ?_) ?_ ?_
    rotate_left
    · (conv => (lhs; whnf; arg 1; whnf))
    refine seqR_y (v := ?_) (by rfl) (fun W hW => ?_) ?_
    rotate_left
    · go_simp; try with_reducible rfl
    try simp only [Act.put, List.setIfInBounds_toArray, List.set_cons_zero, List.set_cons_succ]
    refine seqR_at (o := ?_) ?_ ?_
    rotate_left
    · (conv => (lhs; whnf; arg 1; whnf))
    refine seqR_y (v := ?_) (by rfl) (fun W hW => ?_) ?_
    rotate_left
    · go_simp; try with_reducible rfl
    try simp only [Act.put, List.setIfInBounds_toArray, List.set_cons_zero, List.set_cons_succ]
    refine seqR_at (o := ?_) ?_ ?_
    rotate_left
    · (conv => (lhs; whnf; arg 1; whnf))
    refine seqR_y (v := ?_) (by rfl) (fun W hW => ?_) ?_
    rotate_left
    · go_simp; try with_reducible rfl
    try simp only [Act.put, List.setIfInBounds_toArray, List.set_cons_zero, List.set_cons_succ]
    refine seqR_at (o := ?_) ?_ ?_
    rotate_left
    · (conv => (lhs; whnf; arg 1; whnf))
    refine seqR_y (v := ?_) (by rfl) (fun W hW => ?_) ?_
    rotate_left
    · go_simp; try with_reducible rfl
    try simp only [Act.put, List.setIfInBounds_toArray, List.set_cons_zero, List.set_cons_succ]
    refine seqR_at (o := ?_) ?_ ?_
    rotate_left
    · (conv => (lhs; whnf; arg 1; whnf))
    refine seqR_y (v := ?_) (by rfl) (fun W hW => ?_) ?_
    rotate_left
    · go_simp; try with_reducible rfl
    try simp only [Act.put, List.setIfInBounds_toArray, List.set_cons_zero, List.set_cons_succ]
    refine seqR_at (o := ?_) ?_ ?_
    rotate_left
    · (conv => (lhs; whnf; arg 1; whnf))
    refine seqR_y (v := ?_) (by rfl) (fun W hW => ?_) ?_
    rotate_left
    · (refine exec_ldN (x := .tmp 5) ntNat ?_ ?_ (x_3.out.below hW)) <;> rfl
    try simp only [Act.put, List.setIfInBounds_toArray, List.set_cons_zero, List.set_cons_succ]
    refine seqR_at (o := ?_) ?_ ?_
    rotate_left
    · (conv => (lhs; whnf; arg 1; whnf))
    refine seqR_y (v := ?_) (by rfl) (fun W hW => ?_) ?_
    rotate_left
    · (refine exec_ldN (x := .tmp 8) ntNat ?_ ?_ (y_3.out.below hW)) <;> rfl
    try simp only [Act.put, List.setIfInBounds_toArray, List.set_cons_zero, List.set_cons_succ]
    refine seqR_at (o := ?_) ?_ ?_
    rotate_left
    · (conv => (lhs; whnf; arg 1; whnf))
    refine seqR_y (v := ?_) (by rfl) (fun W hW => ?_) ?_
    rotate_left
    · go_simp; try with_reducible rfl
    try simp only [Act.put, List.setIfInBounds_toArray, List.set_cons_zero, List.set_cons_succ]
    refine seqR_at (o := ?_) ?_ ?_
    rotate_left
    · (conv => (lhs; whnf; arg 1; whnf))
    refine seqR_y (v := ?_) (by rfl) (fun W hW => ?_) ?_
    rotate_left
    · go_simp; try with_reducible rfl
    try simp only [Act.put, List.setIfInBounds_toArray, List.set_cons_zero, List.set_cons_succ]
    refine seqR_at (o := ?_) ?_ ?_
    rotate_left
    · (conv => (lhs; whnf; arg 1; whnf))
    refine seqR_c (by rfl) (fun K hK => ?_)
    go_simp
    refine (compare_ok _ HFn.out HFm.out HCmp.out).mono ?_
    rintro e p4 ⟨rfl, hb⟩
    have p_4 := Lib.hid (p_3.out.below hb)
    have x_4 := Lib.hid (x_3.out.below hb)
    have q_4 := Lib.hid (q_3.out.below hb)
    have y_4 := Lib.hid (y_3.out.below hb)
    have W_4 := Lib.hid (W_3.out.trans (hb.mono W_3.out.size))
    refine hK _ _ hb ?_
    clear hK K hb p_3 x_3 q_3 y_3 W_3
    try simp only [Act.put, List.setIfInBounds_toArray, List.set_cons_zero, List.set_cons_succ]
    refine seqR_at (o := ?_) ?_ ?_
    rotate_left
    · (conv => (lhs; whnf; arg 1; whnf))
    refine seqR_c (by rfl) (fun K hK => ?_)
    go_simp
    refine (rcompare_ok _ _ _ p_4.out q_4.out HSn.out HSm.out HCmp.out).mono ?_
    rintro e p5 ⟨rfl, rfl⟩
    refine hK _ _ (later_refl _) ?_
    clear hK K
    try simp only [Act.put, List.setIfInBounds_toArray, List.set_cons_zero, List.set_cons_succ]
    refine seqR_at (o := ?_) ?_ ?_
    rotate_left
    · (conv => (lhs; whnf; arg 1; whnf))
    refine seqR_y (v := ?_) (by rfl) (fun W hW => ?_) ?_
    rotate_left
    · go_simp; try with_reducible rfl
    try simp only [Act.put, List.setIfInBounds_toArray, List.set_cons_zero, List.set_cons_succ]
    refine seqR_at (o := ?_) ?_ ?_
    rotate_left
    · (conv => (lhs; whnf; arg 1; whnf))
    refine seqR_y (v := ?_) (by rfl) (fun W hW => ?_) ?_
    rotate_left
    · go_simp; try with_reducible rfl
    try simp only [Act.put, List.setIfInBounds_toArray, List.set_cons_zero, List.set_cons_succ]
    refine seqR_at (o := ?_) ?_ ?_
    rotate_left
    · (conv => (lhs; whnf; arg 1; whnf))
    refine seqR_y (v := ?_) (by rfl) (fun W hW => ?_) ?_
    rotate_left
    · go_simp; try with_reducible rfl
    try simp only [Act.put, List.setIfInBounds_toArray, List.set_cons_zero, List.set_cons_succ]
    refine seqR_at (o := ?_) ?_ ?_
    rotate_left
    · (conv => (lhs; whnf; arg 1; whnf))
    refine seqR_y (v := ?_) (by rfl) (fun W hW => ?_) ?_
    rotate_left
    · (refine exec_ldN (x := .tmp 5) ntNat ?_ ?_ (x_4.out.below hW)) <;> rfl
    try simp only [Act.put, List.setIfInBounds_toArray, List.set_cons_zero, List.set_cons_succ]
    refine seqR_at (o := ?_) ?_ ?_
    rotate_left
    · (conv => (lhs; whnf; arg 1; whnf))
    refine seqR_y (v := ?_) (by rfl) (fun W hW => ?_) ?_
    rotate_left
    · (refine exec_ldN (x := .tmp 8) ntNat ?_ ?_ (y_4.out.below hW)) <;> rfl
    try simp only [Act.put, List.setIfInBounds_toArray, List.set_cons_zero, List.set_cons_succ]
    refine seqR_at (o := ?_) ?_ ?_
    rotate_left
    · (conv => (lhs; whnf; arg 1; whnf))
    refine seqR_y (v := ?_) (by rfl) (fun W hW => ?_) ?_
    rotate_left
    · (refine exec_eqN (x := .tmp 53) (y := .tmp 54) (t' := 29) (a := n) (b := m) ?_ ?_ ?_ HFn.out HFm.out) <;> rfl
    simp only [HQ.out]
    try simp only [Act.put, List.setIfInBounds_toArray, List.set_cons_zero, List.set_cons_succ]
    refine seqR_at (o := ?_) ?_ ?_
    rotate_left
    · (conv => (lhs; whnf; arg 1; whnf))
    refine seqR_y (v := ?_) (by rfl) (fun W hW => ?_) ?_
    rotate_left
    · go_simp; try with_reducible rfl
    try simp only [Act.put, List.setIfInBounds_toArray, List.set_cons_zero, List.set_cons_succ]
    refine seqR_at (o := ?_) ?_ ?_
    rotate_left
    · (conv => (lhs; whnf; arg 1; whnf))
    refine seqR_y (v := ?_) (by rfl) (fun W hW => ?_) ?_
    rotate_left
    · go_simp; try with_reducible rfl
    try simp only [Act.put, List.setIfInBounds_toArray, List.set_cons_zero, List.set_cons_succ]
    refine seqR_at (o := ?_) ?_ ?_
    rotate_left
    · (conv => (lhs; whnf; arg 1; whnf))
    refine seqR_c (by rfl) (fun K hK => ?_)
    go_simp
    refine (rcompare_ok _ _ _ p_4.out q_4.out HSn.out HSm.out HCmp.out).mono ?_
    rintro e p6 ⟨rfl, rfl⟩
    refine hK _ _ (later_refl _) ?_
    clear hK K
    try simp only [Act.put, List.setIfInBounds_toArray, List.set_cons_zero, List.set_cons_succ]
    refine seqR_at (o := ?_) ?_ ?_
    rotate_left
    · (conv => (lhs; whnf; arg 1; whnf))
    refine seqR_y (v := ?_) (by rfl) (fun W hW => ?_) ?_
    rotate_left
    · go_simp; try with_reducible rfl
    try simp only [Act.put, List.setIfInBounds_toArray, List.set_cons_zero, List.set_cons_succ]
    refine seqR_at (o := ?_) ?_ ?_
    rotate_left
    · (conv => (lhs; whnf; arg 1; whnf))
    refine seqR_y (v := ?_) (by rfl) (fun W hW => ?_) ?_
    rotate_left
    · go_simp; try with_reducible rfl
    try simp only [Act.put, List.setIfInBounds_toArray, List.set_cons_zero, List.set_cons_succ]
    refine seqR_at (o := ?_) ?_ ?_
    rotate_left
    · (conv => (lhs; whnf; arg 1; whnf))
    refine seqR_y (v := ?_) (by rfl) (fun W hW => ?_) ?_
    rotate_left
    · go_simp; try with_reducible rfl
    try simp only [Act.put, List.setIfInBounds_toArray, List.set_cons_zero, List.set_cons_succ]
    refine seqR_end ?_
    go_wp2_with (first | (refine wpl_ldN ntNat rfl rfl rfl x_4.out ?_) | (refine wpl_ldN_g ntNat rfl rfl rfl x_4.out ?_) | (refine wpl_ldN ntNat rfl rfl rfl y_4.out ?_) | (refine wpl_ldN_g ntNat rfl rfl rfl y_4.out ?_))
    refine (add_full _ HFn.out HFm.out (by rw [HP.out]; exact HFs.out)).mono ?_
    rintro e p7 ⟨rfl, hb⟩
    have XT0_7 := Lib.hid (NatAt.zero p7)
    have XA_7 := Lib.hid (below_zero hb hb.size)
    have hsz_7 : Hid (p4.heap.size ≤ p7.heap.size) := Lib.hid hb.size
    clear hb
    go_wp2_with (first | (refine wpl_stN ntNat rfl rfl rfl rfl XT0_7.out ?_; intro q7 hn hg; have XB0_7 := Lib.hid (XA_7.out.grown hg XA_7.out.size (fun j e => by injection e with e; rw [← e]; have := hsz_7.out; omega)); have XS00_7 := Lib.hid hn; have p_7 := Lib.hid (p_4.out.below XB0_7.out); have x_7 := Lib.hid (x_4.out.below XB0_7.out); have q_7 := Lib.hid (q_4.out.below XB0_7.out); have y_7 := Lib.hid (y_4.out.below XB0_7.out); have W_7 := Lib.hid (W_4.out.trans (XB0_7.out.mono W_4.out.size)); have z_7 := XS00_7; clear hn hg p_4 x_4 q_4 y_4 W_4 XT0_7 XA_7 XS00_7 XB0_7 hsz_7) | (refine wpl_ldN ntNat rfl rfl rfl x_7.out ?_) | (refine wpl_ldN_g ntNat rfl rfl rfl x_7.out ?_) | (refine wpl_ldN ntNat rfl rfl rfl y_7.out ?_) | (refine wpl_ldN_g ntNat rfl rfl rfl y_7.out ?_) | (refine wpl_ldN ntNat rfl rfl rfl z_7.out ?_) | (refine wpl_ldN_g ntNat rfl rfl rfl z_7.out ?_))
    refine (sub_under _ HFn.out HFm.out HCN.out).mono ?_
    rintro e p8 ⟨rfl, hb⟩
    have XT0_8 := Lib.hid (NatAt.zero p8)
    have XA_8 := Lib.hid (below_zero hb hb.size)
    have hsz_8 : Hid (q7.heap.size ≤ p8.heap.size) := Lib.hid hb.size
    clear hb
    go_wp2_with (first | (refine wpl_stN ntNat rfl rfl rfl rfl XT0_8.out ?_; intro q8 hn hg; have XB0_8 := Lib.hid (XA_8.out.grown hg XA_8.out.size (fun j e => by injection e with e; rw [← e]; have := hsz_8.out; omega)); have XS00_8 := Lib.hid hn; have p_8 := Lib.hid (p_7.out.below XB0_8.out); have x_8 := Lib.hid (x_7.out.below XB0_8.out); have q_8 := Lib.hid (q_7.out.below XB0_8.out); have y_8 := Lib.hid (y_7.out.below XB0_8.out); have z_8 := Lib.hid (z_7.out.below XB0_8.out); have W_8 := Lib.hid (W_7.out.trans (XB0_8.out.mono W_7.out.size)); have u_8 := XS00_8; clear hn hg p_7 x_7 q_7 y_7 z_7 W_7 XT0_8 XA_8 XS00_8 XB0_8 hsz_8) | (refine wpl_ldN ntNat rfl rfl rfl x_8.out ?_) | (refine wpl_ldN_g ntNat rfl rfl rfl x_8.out ?_) | (refine wpl_ldN ntNat rfl rfl rfl y_8.out ?_) | (refine wpl_ldN_g ntNat rfl rfl rfl y_8.out ?_) | (refine wpl_ldN ntNat rfl rfl rfl z_8.out ?_) | (refine wpl_ldN_g ntNat rfl rfl rfl z_8.out ?_) | (refine wpl_ldN ntNat rfl rfl rfl u_8.out ?_) | (refine wpl_ldN_g ntNat rfl rfl rfl u_8.out ?_))
    clear x_8
    clear y_8
    refine (radd_ok _ _ _ p_8.out q_8.out HSn.out HSm.out HP.out).mono ?_
    rintro e p9 ⟨v9, rfl, hv, hb, ho9⟩
    have p_9 := Lib.hid (p_8.out.below hb)
    have q_9 := Lib.hid (q_8.out.below hb)
    have z_9 := Lib.hid (z_8.out.below hb)
    have u_9 := Lib.hid (u_8.out.below hb)
    have W_9 := Lib.hid (W_8.out.trans (hb.mono W_8.out.size))
    clear hb ho9 p_8 q_8 z_8 u_8 W_8
    have r_9 := Lib.hid hv
    clear hv
    go_wp2_with (first | (refine wpl_ldN ntNat rfl rfl rfl z_9.out ?_) | (refine wpl_ldN_g ntNat rfl rfl rfl z_9.out ?_) | (refine wpl_ldN ntNat rfl rfl rfl u_9.out ?_) | (refine wpl_ldN_g ntNat rfl rfl rfl u_9.out ?_))
    refine (rfits_ok _ _ r_9.out HSs.out (c := false) (by simp [HFs.out])).mono ?_
    rintro e p10 ⟨rfl, rfl⟩
    go_wp2_with (first | (refine wpl_ldN ntNat rfl rfl rfl z_9.out ?_) | (refine wpl_ldN_g ntNat rfl rfl rfl z_9.out ?_) | (refine wpl_ldN ntNat rfl rfl rfl u_9.out ?_) | (refine wpl_ldN_g ntNat rfl rfl rfl u_9.out ?_))
    refine (isZero_zero _).mono ?_
    rintro e p11 ⟨rfl, hb⟩
    have p_11 := Lib.hid (p_9.out.below hb)
    have q_11 := Lib.hid (q_9.out.below hb)
    have z_11 := Lib.hid (z_9.out.below hb)
    have u_11 := Lib.hid (u_9.out.below hb)
    have r_11 := Lib.hid (r_9.out.below hb)
    have W_11 := Lib.hid (W_9.out.trans (hb.mono W_9.out.size))
    clear hb p_9 q_9 z_9 u_9 r_9 W_9
    go_wp2_with (first | (refine wpl_ldN ntNat rfl rfl rfl z_11.out ?_) | (refine wpl_ldN_g ntNat rfl rfl rfl z_11.out ?_) | (refine wpl_ldN ntNat rfl rfl rfl u_11.out ?_) | (refine wpl_ldN_g ntNat rfl rfl rfl u_11.out ?_))
    clear z_11
    clear r_11
    refine (rcompare_ok _ _ _ p_11.out q_11.out HSn.out HSm.out HCmp.out).mono ?_
    rintro e p12 ⟨rfl, rfl⟩
    go_wp2_with (first | (refine wpl_ldN ntNat rfl rfl rfl u_11.out ?_) | (refine wpl_ldN_g ntNat rfl rfl rfl u_11.out ?_))
    refine (isZero_zero _).mono ?_
    rintro e p13 ⟨rfl, hb⟩
    have p_13 := Lib.hid (p_11.out.below hb)
    have q_13 := Lib.hid (q_11.out.below hb)
    have u_13 := Lib.hid (u_11.out.below hb)
    have W_13 := Lib.hid (W_11.out.trans (hb.mono W_11.out.size))
    clear hb p_11 q_11 u_11 W_11
    go_wp2_with (first | (refine wpl_ldN ntNat rfl rfl rfl u_13.out ?_) | (refine wpl_ldN_g ntNat rfl rfl rfl u_13.out ?_))
    refine (known_any _).mono ?_
    rintro e p14 ⟨rfl, hb⟩
    have p_14 := Lib.hid (p_13.out.below hb)
    have q_14 := Lib.hid (q_13.out.below hb)
    have u_14 := Lib.hid (u_13.out.below hb)
    have W_14 := Lib.hid (W_13.out.trans (hb.mono W_13.out.size))
    clear hb p_13 q_13 u_13 W_13
    go_wp2_with (first | (refine wpl_ldN ntNat rfl rfl rfl u_14.out ?_) | (refine wpl_ldN_g ntNat rfl rfl rfl u_14.out ?_))
    go_ret
    exact ⟨rfl, W_14.out⟩

set_option maxHeartbeats 6400000 in
theorem sums_eq (va : Value) (xa : List UInt8) (vb : Value) (xb : List UInt8) (w : World) (ha : Byt w va xa) (hb : Byt w vb xb) (ll0 : xa.length ≤ 128) (ll1 : xb.length ≤ 128)
    (n m : Nat) (hn : numN xa = n) (hm : numN xb = m) (hc : n = m) :
    Calls Try.prog 7 #[va, vb] w fun e w' => e = .returned (.bool true) ∧ Below w.heap.size w w' := by
  have HA := Lib.hid ha
  have HB := Lib.hid hb
  obtain ⟨A, c, rfl, -⟩ := ha.len
  obtain ⟨B, d, rfl, -⟩ := hb.len
  have d0 : decide (128 < (xa.length : Int)) = false := decide_eq_false (by omega)
  have d1 : decide (128 < (xb.length : Int)) = false := decide_eq_false (by omega)
  have HLn : Hid (xa.length ≤ 200) := Lib.hid (by omega)
  have HLm : Hid (xb.length ≤ 200) := Lib.hid (by omega)
  have HSn := Lib.hid (sz_num HLn.out)
  have HSm := Lib.hid (sz_num HLm.out)
  have HFn := Lib.hid (fit_num (xs := xa) ll0)
  have HFm := Lib.hid (fit_num (xs := xb) ll1)
  have HCn := Lib.hid (c16_num HLn.out)
  have HCm := Lib.hid (c16_num HLm.out)
  rw [hn] at HSn HFn HCn
  rw [hm] at HSm HFm HCm
  have HEn := Lib.hid hn
  have HEm := Lib.hid hm
  have HCmp : Hid (cmpI n m = 0) := Lib.hid (by unfold cmpI; rw [if_neg (by omega), if_neg (by omega)])
  have HQ : Hid (decide (n = m) = true) := Lib.hid (decide_eq_true (by omega))
  have HCN := Lib.hid hc
  clear ha hb ll0 ll1 hn hm hc
  obtain ⟨s, hs⟩ : ∃ s, n + m = s := ⟨_, rfl⟩
  have HP := Lib.hid hs
  have HSs : Hid (Sz s) := Lib.hid (by rw [← hs]; exact Sz.of (Nat.le_trans (c16_add n m) (Nat.succ_le_succ (Nat.max_le.2 ⟨HCn.out, HCm.out⟩))) (by decide))
  obtain ⟨t, ht⟩ : ∃ t, n - m = t := ⟨_, rfl⟩
  have HT := Lib.hid ht
  have HFt : Hid (Fit t) := Lib.hid (by rw [← ht]; exact Nat.lt_of_le_of_lt (Nat.sub_le _ _) HFn.out)
  have HSt : Hid (Sz t) := Lib.hid (by rw [← ht]; exact HSn.out.mono (Nat.sub_le _ _))
  clear ht
  clear hs
  by_cases hf : Fit s
  · have HFs := Lib.hid hf
    clear hf
    go_enter Try.func7, Try.ntmps7
    go_wp2_with fail
    refine (made_ok _ _ HA.out HLn.out HEn.out HFn.out).mono ?_
    rintro e p1 ⟨v1, rfl, hv, hb⟩
    have XT0_1 := Lib.hid (NatAt.zero p1)
    have XA_1 := Lib.hid (below_zero hb hb.size)
    have hsz_1 : Hid (w.heap.size ≤ p1.heap.size) := Lib.hid hb.size
    have XQ_1 := Lib.hid (below_zero (Below.refl p1.heap.size p1) (Nat.le_refl _))
    have XMp_1 := Lib.hid hv
    clear hv
    clear hb
    go_wp2_with (first | (refine wpl_stN ntNat rfl rfl rfl rfl XT0_1.out ?_; intro q1 hn hg; have XB0_1 := Lib.hid (XA_1.out.grown hg XA_1.out.size (fun j e => by injection e with e; rw [← e]; have := hsz_1.out; omega)); have XS00_1 := Lib.hid hn; have hq := XQ_1.out.grown hg XQ_1.out.size (fun j e => by injection e with e; rw [← e]; exact Nat.le_refl _); have A_1 := Lib.hid (HA.out.below XB0_1.out); have B_1 := Lib.hid (HB.out.below XB0_1.out); have W_1 := Lib.hid (XB0_1.out); have p_1 := Lib.hid (XMp_1.out.below hq); have x_1 := XS00_1; clear hn hg HA HB XMp_1 hq XQ_1 XT0_1 XA_1 XS00_1 XB0_1 hsz_1) | (refine wpl_ldN ntNat rfl rfl rfl x_1.out ?_) | (refine wpl_ldN_g ntNat rfl rfl rfl x_1.out ?_))
    refine (made_ok _ _ B_1.out HLm.out HEm.out HFm.out).mono ?_
    rintro e p2 ⟨v2, rfl, hv, hb⟩
    have XT0_2 := Lib.hid (NatAt.zero p2)
    have XA_2 := Lib.hid (below_zero hb hb.size)
    have hsz_2 : Hid (q1.heap.size ≤ p2.heap.size) := Lib.hid hb.size
    have XQ_2 := Lib.hid (below_zero (Below.refl p2.heap.size p2) (Nat.le_refl _))
    have XMq_2 := Lib.hid hv
    clear hv
    clear hb
    go_wp2_with (first | (refine wpl_stN ntNat rfl rfl rfl rfl XT0_2.out ?_; intro q2 hn hg; have XB0_2 := Lib.hid (XA_2.out.grown hg XA_2.out.size (fun j e => by injection e with e; rw [← e]; have := hsz_2.out; omega)); have XS00_2 := Lib.hid hn; have hq := XQ_2.out.grown hg XQ_2.out.size (fun j e => by injection e with e; rw [← e]; exact Nat.le_refl _); have A_2 := Lib.hid (A_1.out.below XB0_2.out); have B_2 := Lib.hid (B_1.out.below XB0_2.out); have p_2 := Lib.hid (p_1.out.below XB0_2.out); have x_2 := Lib.hid (x_1.out.below XB0_2.out); have W_2 := Lib.hid (W_1.out.trans (XB0_2.out.mono W_1.out.size)); have q_2 := Lib.hid (XMq_2.out.below hq); have y_2 := XS00_2; clear hn hg A_1 B_1 p_1 x_1 W_1 XMq_2 hq XQ_2 XT0_2 XA_2 XS00_2 XB0_2 hsz_2) | (refine wpl_ldN ntNat rfl rfl rfl x_2.out ?_) | (refine wpl_ldN_g ntNat rfl rfl rfl x_2.out ?_) | (refine wpl_ldN ntNat rfl rfl rfl y_2.out ?_) | (refine wpl_ldN_g ntNat rfl rfl rfl y_2.out ?_))
    clear A_2
    clear B_2
    refine region_road Later [(0, true), (1, true), (2, true), (3, true), (4, true), (5, true), (6, true), (7, true), (8, true), (10, true), (11, true), (9, false), (12, false), (13, true), (14, true), (15, true), (16, true), (17, true), (18, true), (19, true), (20, true), (21, false), (22, true), (23, true), (24, true)] (by kernel_rfl) (by kernel_rfl) (by kernel_rfl) (by kernel_rfl) (by kernel_rfl) (by kernel_rfl) later_refl later_trans (fun _ _ d _ _ h => by cases d <;> exact h) ?_
    have p_3 := Lib.hid (p_2.out.below ((Below.refl q2.heap.size q2).drew))
    have x_3 := Lib.hid (x_2.out.below ((Below.refl q2.heap.size q2).drew))
    have q_3 := Lib.hid (q_2.out.below ((Below.refl q2.heap.size q2).drew))
    have y_3 := Lib.hid (y_2.out.below ((Below.refl q2.heap.size q2).drew))
    have W_3 := Lib.hid (W_2.out.trans (((Below.refl q2.heap.size q2).drew).mono W_2.out.size))
    clear p_2 x_2 q_2 y_2 W_2
    generalize q2.drew = d3 at p_3 x_3 q_3 y_3 W_3 ⊢
    refine seqR_at (o := ?_) ?_ ?_
    rotate_left
    · (conv => (lhs; whnf; arg 1; whnf))
    refine seqR_y (v := ?_) (by rfl) (fun W hW => ?_) ?_
    rotate_left
    · go_simp; try with_reducible rfl
    try simp only [Act.put, List.setIfInBounds_toArray, List.set_cons_zero, List.set_cons_succ]
    refine seqR_at (o := ?_) ?_ ?_
    rotate_left
    · (conv => (lhs; whnf; arg 1; whnf))
    refine seqR_y (v := ?_) (by rfl) (fun W hW => ?_) ?_
    rotate_left
    · go_simp; try with_reducible rfl
    try simp only [Act.put, List.setIfInBounds_toArray, List.set_cons_zero, List.set_cons_succ]
    refine seqR_at (o := ?_) ?_ ?_
    rotate_left
    · (conv => (lhs; whnf; arg 1; whnf))
    refine seqR_y (v := ?_) (by rfl) (fun W hW => ?_) ?_
    rotate_left
    · go_simp; try with_reducible rfl
    try simp only [Act.put, List.setIfInBounds_toArray, List.set_cons_zero, List.set_cons_succ]
    refine seqR_at (o := ?_) ?_ ?_
    rotate_left
    · (conv => (lhs; whnf; arg 1; whnf))
    refine seqR_y (v := ?_) (by rfl) (fun W hW => ?_) ?_
    rotate_left
    · go_simp; try with_reducible rfl
    try simp only [Act.put, List.setIfInBounds_toArray, List.set_cons_zero, List.set_cons_succ]
    refine seqR_at (o := ?_) ?_ ?_
    rotate_left
    · (conv => (lhs; whnf; arg 1; whnf))
    refine seqR_y (v := ?_) (by rfl) (fun W hW => ?_) ?_
    rotate_left
    · go_simp; try with_reducible rfl
    try simp only [Act.put, List.setIfInBounds_toArray, List.set_cons_zero, List.set_cons_succ]
    refine seqR_at (o := ?_) ?_ ?_
    rotate_left
    · (conv => (lhs; whnf; arg 1; whnf))
    refine seqR_y (v := ?_) (by rfl) (fun W hW => ?_) ?_
    rotate_left
    · go_simp; try with_reducible rfl
    try simp only [Act.put, List.setIfInBounds_toArray, List.set_cons_zero, List.set_cons_succ]
    refine seqR_at (o := ?_) ?_ ?_
    rotate_left
    · (conv => (lhs; whnf; arg 1; whnf))
    refine seqR_y (v := ?_) (by rfl) (fun W hW => ?_) ?_
    rotate_left
    · go_simp; try with_reducible rfl
    try simp only [Act.put, List.setIfInBounds_toArray, List.set_cons_zero, List.set_cons_succ]
    refine seqR_at (o := ?_) ?_ ?_
    rotate_left
    · (conv => (lhs; whnf; arg 1; whnf))
    refine seqR_y (v := ?_) (by rfl) (fun W hW => ?_) ?_
    rotate_left
    · (refine exec_ldN (x := .tmp 5) ntNat ?_ ?_ (x_3.out.below hW)) <;> rfl
    try simp only [Act.put, List.setIfInBounds_toArray, List.set_cons_zero, List.set_cons_succ]
    refine seqR_at (o := ?_) ?_ ?_
    rotate_left
    · (conv => (lhs; whnf; arg 1; whnf))
    refine seqR_y (v := ?_) (by rfl) (fun W hW => ?_) ?_
    rotate_left
    · (refine exec_ldN (x := .tmp 8) ntNat ?_ ?_ (y_3.out.below hW)) <;> rfl
    try simp only [Act.put, List.setIfInBounds_toArray, List.set_cons_zero, List.set_cons_succ]
    refine seqR_at (o := ?_) ?_ ?_
    rotate_left
    · (conv => (lhs; whnf; arg 1; whnf))
    refine seqR_y (v := ?_) (by rfl) (fun W hW => ?_) ?_
    rotate_left
    · go_simp; try with_reducible rfl
    try simp only [Act.put, List.setIfInBounds_toArray, List.set_cons_zero, List.set_cons_succ]
    refine seqR_at (o := ?_) ?_ ?_
    rotate_left
    · (conv => (lhs; whnf; arg 1; whnf))
    refine seqR_y (v := ?_) (by rfl) (fun W hW => ?_) ?_
    rotate_left
    · go_simp; try with_reducible rfl
    try simp only [Act.put, List.setIfInBounds_toArray, List.set_cons_zero, List.set_cons_succ]
    refine seqR_at (o := ?_) ?_ ?_
    rotate_left
    · (conv => (lhs; whnf; arg 1; whnf))
    refine seqR_c (by rfl) (fun K hK => ?_)
    go_simp
    refine (compare_ok _ HFn.out HFm.out HCmp.out).mono ?_
    rintro e p4 ⟨rfl, hb⟩
    have p_4 := Lib.hid (p_3.out.below hb)
    have x_4 := Lib.hid (x_3.out.below hb)
    have q_4 := Lib.hid (q_3.out.below hb)
    have y_4 := Lib.hid (y_3.out.below hb)
    have W_4 := Lib.hid (W_3.out.trans (hb.mono W_3.out.size))
    refine hK _ _ hb ?_
    clear hK K hb p_3 x_3 q_3 y_3 W_3
    try simp only [Act.put, List.setIfInBounds_toArray, List.set_cons_zero, List.set_cons_succ]
    refine seqR_at (o := ?_) ?_ ?_
    rotate_left
    · (conv => (lhs; whnf; arg 1; whnf))
    refine seqR_c (by rfl) (fun K hK => ?_)
    go_simp
    refine (rcompare_ok _ _ _ p_4.out q_4.out HSn.out HSm.out HCmp.out).mono ?_
    rintro e p5 ⟨rfl, rfl⟩
    refine hK _ _ (later_refl _) ?_
    clear hK K
    try simp only [Act.put, List.setIfInBounds_toArray, List.set_cons_zero, List.set_cons_succ]
    refine seqR_at (o := ?_) ?_ ?_
    rotate_left
    · (conv => (lhs; whnf; arg 1; whnf))
    refine seqR_y (v := ?_) (by rfl) (fun W hW => ?_) ?_
    rotate_left
    · go_simp; try with_reducible rfl
    try simp only [Act.put, List.setIfInBounds_toArray, List.set_cons_zero, List.set_cons_succ]
    refine seqR_at (o := ?_) ?_ ?_
    rotate_left
    · (conv => (lhs; whnf; arg 1; whnf))
    refine seqR_y (v := ?_) (by rfl) (fun W hW => ?_) ?_
    rotate_left
    · go_simp; try with_reducible rfl
    try simp only [Act.put, List.setIfInBounds_toArray, List.set_cons_zero, List.set_cons_succ]
    refine seqR_at (o := ?_) ?_ ?_
    rotate_left
    · (conv => (lhs; whnf; arg 1; whnf))
    refine seqR_y (v := ?_) (by rfl) (fun W hW => ?_) ?_
    rotate_left
    · go_simp; try with_reducible rfl
    try simp only [Act.put, List.setIfInBounds_toArray, List.set_cons_zero, List.set_cons_succ]
    refine seqR_at (o := ?_) ?_ ?_
    rotate_left
    · (conv => (lhs; whnf; arg 1; whnf))
    refine seqR_y (v := ?_) (by rfl) (fun W hW => ?_) ?_
    rotate_left
    · (refine exec_ldN (x := .tmp 5) ntNat ?_ ?_ (x_4.out.below hW)) <;> rfl
    try simp only [Act.put, List.setIfInBounds_toArray, List.set_cons_zero, List.set_cons_succ]
    refine seqR_at (o := ?_) ?_ ?_
    rotate_left
    · (conv => (lhs; whnf; arg 1; whnf))
    refine seqR_y (v := ?_) (by rfl) (fun W hW => ?_) ?_
    rotate_left
    · (refine exec_ldN (x := .tmp 8) ntNat ?_ ?_ (y_4.out.below hW)) <;> rfl
    try simp only [Act.put, List.setIfInBounds_toArray, List.set_cons_zero, List.set_cons_succ]
    refine seqR_at (o := ?_) ?_ ?_
    rotate_left
    · (conv => (lhs; whnf; arg 1; whnf))
    refine seqR_y (v := ?_) (by rfl) (fun W hW => ?_) ?_
    rotate_left
    · (refine exec_eqN (x := .tmp 53) (y := .tmp 54) (t' := 29) (a := n) (b := m) ?_ ?_ ?_ HFn.out HFm.out) <;> rfl
    simp only [HQ.out]
    try simp only [Act.put, List.setIfInBounds_toArray, List.set_cons_zero, List.set_cons_succ]
    refine seqR_at (o := ?_) ?_ ?_
    rotate_left
    · (conv => (lhs; whnf; arg 1; whnf))
    refine seqR_y (v := ?_) (by rfl) (fun W hW => ?_) ?_
    rotate_left
    · go_simp; try with_reducible rfl
    try simp only [Act.put, List.setIfInBounds_toArray, List.set_cons_zero, List.set_cons_succ]
    refine seqR_at (o := ?_) ?_ ?_
    rotate_left
    · (conv => (lhs; whnf; arg 1; whnf))
    refine seqR_y (v := ?_) (by rfl) (fun W hW => ?_) ?_
    rotate_left
    · go_simp; try with_reducible rfl
    try simp only [Act.put, List.setIfInBounds_toArray, List.set_cons_zero, List.set_cons_succ]
    refine seqR_at (o := ?_) ?_ ?_
    rotate_left
    · (conv => (lhs; whnf; arg 1; whnf))
    refine seqR_c (by rfl) (fun K hK => ?_)
    go_simp
    refine (rcompare_ok _ _ _ p_4.out q_4.out HSn.out HSm.out HCmp.out).mono ?_
    rintro e p6 ⟨rfl, rfl⟩
    refine hK _ _ (later_refl _) ?_
    clear hK K
    try simp only [Act.put, List.setIfInBounds_toArray, List.set_cons_zero, List.set_cons_succ]
    refine seqR_at (o := ?_) ?_ ?_
    rotate_left
    · (conv => (lhs; whnf; arg 1; whnf))
    refine seqR_y (v := ?_) (by rfl) (fun W hW => ?_) ?_
    rotate_left
    · go_simp; try with_reducible rfl
    try simp only [Act.put, List.setIfInBounds_toArray, List.set_cons_zero, List.set_cons_succ]
    refine seqR_at (o := ?_) ?_ ?_
    rotate_left
    · (conv => (lhs; whnf; arg 1; whnf))
    refine seqR_y (v := ?_) (by rfl) (fun W hW => ?_) ?_
    rotate_left
    · go_simp; try with_reducible rfl
    try simp only [Act.put, List.setIfInBounds_toArray, List.set_cons_zero, List.set_cons_succ]
    refine seqR_at (o := ?_) ?_ ?_
    rotate_left
    · (conv => (lhs; whnf; arg 1; whnf))
    refine seqR_y (v := ?_) (by rfl) (fun W hW => ?_) ?_
    rotate_left
    · go_simp; try with_reducible rfl
    try simp only [Act.put, List.setIfInBounds_toArray, List.set_cons_zero, List.set_cons_succ]
    refine seqR_end ?_
    go_wp2_with (first | (refine wpl_ldN ntNat rfl rfl rfl x_4.out ?_) | (refine wpl_ldN_g ntNat rfl rfl rfl x_4.out ?_) | (refine wpl_ldN ntNat rfl rfl rfl y_4.out ?_) | (refine wpl_ldN_g ntNat rfl rfl rfl y_4.out ?_))
    refine (add_ok _ HFn.out HFm.out HP.out HFs.out).mono ?_
    rintro e p7 ⟨rfl, hb⟩
    have XT0_7 := Lib.hid (NatAt.zero p7)
    have XA_7 := Lib.hid (below_zero hb hb.size)
    have hsz_7 : Hid (p4.heap.size ≤ p7.heap.size) := Lib.hid hb.size
    clear hb
    go_wp2_with (first | (refine wpl_stN ntNat rfl rfl rfl rfl XT0_7.out ?_; intro q7 hn hg; have XB0_7 := Lib.hid (XA_7.out.grown hg XA_7.out.size (fun j e => by injection e with e; rw [← e]; have := hsz_7.out; omega)); have XS00_7 := Lib.hid hn; have p_7 := Lib.hid (p_4.out.below XB0_7.out); have x_7 := Lib.hid (x_4.out.below XB0_7.out); have q_7 := Lib.hid (q_4.out.below XB0_7.out); have y_7 := Lib.hid (y_4.out.below XB0_7.out); have W_7 := Lib.hid (W_4.out.trans (XB0_7.out.mono W_4.out.size)); have z_7 := XS00_7; clear hn hg p_4 x_4 q_4 y_4 W_4 XT0_7 XA_7 XS00_7 XB0_7 hsz_7) | (refine wpl_ldN ntNat rfl rfl rfl x_7.out ?_) | (refine wpl_ldN_g ntNat rfl rfl rfl x_7.out ?_) | (refine wpl_ldN ntNat rfl rfl rfl y_7.out ?_) | (refine wpl_ldN_g ntNat rfl rfl rfl y_7.out ?_) | (refine wpl_ldN ntNat rfl rfl rfl z_7.out ?_) | (refine wpl_ldN_g ntNat rfl rfl rfl z_7.out ?_))
    refine (sub_ok _ HFn.out HFm.out (by have := HCN.out; omega) HT.out).mono ?_
    rintro e p8 ⟨rfl, hb⟩
    have XT0_8 := Lib.hid (NatAt.zero p8)
    have XA_8 := Lib.hid (below_zero hb hb.size)
    have hsz_8 : Hid (q7.heap.size ≤ p8.heap.size) := Lib.hid hb.size
    clear hb
    go_wp2_with (first | (refine wpl_stN ntNat rfl rfl rfl rfl XT0_8.out ?_; intro q8 hn hg; have XB0_8 := Lib.hid (XA_8.out.grown hg XA_8.out.size (fun j e => by injection e with e; rw [← e]; have := hsz_8.out; omega)); have XS00_8 := Lib.hid hn; have p_8 := Lib.hid (p_7.out.below XB0_8.out); have x_8 := Lib.hid (x_7.out.below XB0_8.out); have q_8 := Lib.hid (q_7.out.below XB0_8.out); have y_8 := Lib.hid (y_7.out.below XB0_8.out); have z_8 := Lib.hid (z_7.out.below XB0_8.out); have W_8 := Lib.hid (W_7.out.trans (XB0_8.out.mono W_7.out.size)); have u_8 := XS00_8; clear hn hg p_7 x_7 q_7 y_7 z_7 W_7 XT0_8 XA_8 XS00_8 XB0_8 hsz_8) | (refine wpl_ldN ntNat rfl rfl rfl x_8.out ?_) | (refine wpl_ldN_g ntNat rfl rfl rfl x_8.out ?_) | (refine wpl_ldN ntNat rfl rfl rfl y_8.out ?_) | (refine wpl_ldN_g ntNat rfl rfl rfl y_8.out ?_) | (refine wpl_ldN ntNat rfl rfl rfl z_8.out ?_) | (refine wpl_ldN_g ntNat rfl rfl rfl z_8.out ?_) | (refine wpl_ldN ntNat rfl rfl rfl u_8.out ?_) | (refine wpl_ldN_g ntNat rfl rfl rfl u_8.out ?_))
    clear x_8
    clear y_8
    refine (radd_ok _ _ _ p_8.out q_8.out HSn.out HSm.out HP.out).mono ?_
    rintro e p9 ⟨v9, rfl, hv, hb, ho9⟩
    have p_9 := Lib.hid (p_8.out.below hb)
    have q_9 := Lib.hid (q_8.out.below hb)
    have z_9 := Lib.hid (z_8.out.below hb)
    have u_9 := Lib.hid (u_8.out.below hb)
    have W_9 := Lib.hid (W_8.out.trans (hb.mono W_8.out.size))
    clear hb ho9 p_8 q_8 z_8 u_8 W_8
    have r_9 := Lib.hid hv
    clear hv
    go_wp2_with (first | (refine wpl_ldN ntNat rfl rfl rfl z_9.out ?_) | (refine wpl_ldN_g ntNat rfl rfl rfl z_9.out ?_) | (refine wpl_ldN ntNat rfl rfl rfl u_9.out ?_) | (refine wpl_ldN_g ntNat rfl rfl rfl u_9.out ?_))
    refine (rfits_ok _ _ r_9.out HSs.out (c := true) (by simp [HFs.out])).mono ?_
    rintro e p10 ⟨rfl, rfl⟩
    go_wp2_with (first | (refine wpl_ldN ntNat rfl rfl rfl z_9.out ?_) | (refine wpl_ldN_g ntNat rfl rfl rfl z_9.out ?_) | (refine wpl_ldN ntNat rfl rfl rfl u_9.out ?_) | (refine wpl_ldN_g ntNat rfl rfl rfl u_9.out ?_))
    refine (same_ok _ _ HFs.out r_9.out HSs.out (decide_eq_true rfl)).mono ?_
    rintro e p11 ⟨rfl, hb⟩
    have p_11 := Lib.hid (p_9.out.below hb)
    have q_11 := Lib.hid (q_9.out.below hb)
    have z_11 := Lib.hid (z_9.out.below hb)
    have u_11 := Lib.hid (u_9.out.below hb)
    have r_11 := Lib.hid (r_9.out.below hb)
    have W_11 := Lib.hid (W_9.out.trans (hb.mono W_9.out.size))
    clear hb p_9 q_9 z_9 u_9 r_9 W_9
    go_wp2_with (first | (refine wpl_ldN ntNat rfl rfl rfl z_11.out ?_) | (refine wpl_ldN_g ntNat rfl rfl rfl z_11.out ?_) | (refine wpl_ldN ntNat rfl rfl rfl u_11.out ?_) | (refine wpl_ldN_g ntNat rfl rfl rfl u_11.out ?_))
    clear z_11
    clear r_11
    refine (rcompare_ok _ _ _ p_11.out q_11.out HSn.out HSm.out HCmp.out).mono ?_
    rintro e p12 ⟨rfl, rfl⟩
    go_wp2_with (first | (refine wpl_ldN ntNat rfl rfl rfl u_11.out ?_) | (refine wpl_ldN_g ntNat rfl rfl rfl u_11.out ?_))
    refine region_road Later [(0, true), (1, true), (2, true), (3, true), (4, true), (5, true), (6, false), (7, false), (8, true), (9, true), (10, false), (11, true), (12, true)] (by kernel_rfl) (by kernel_rfl) (by kernel_rfl) (by kernel_rfl) (by kernel_rfl) (by kernel_rfl) later_refl later_trans (fun _ _ d _ _ h => by cases d <;> exact h) ?_
    have p_13 := Lib.hid (p_11.out.below ((Below.refl p11.heap.size p11).drew))
    have q_13 := Lib.hid (q_11.out.below ((Below.refl p11.heap.size p11).drew))
    have u_13 := Lib.hid (u_11.out.below ((Below.refl p11.heap.size p11).drew))
    have W_13 := Lib.hid (W_11.out.trans (((Below.refl p11.heap.size p11).drew).mono W_11.out.size))
    clear p_11 q_11 u_11 W_11
    generalize p11.drew = d13 at p_13 q_13 u_13 W_13 ⊢
    refine seqR_at (o := ?_) ?_ ?_
    rotate_left
    · (conv => (lhs; whnf; arg 1; whnf))
    refine seqR_y (v := ?_) (by rfl) (fun W hW => ?_) ?_
    rotate_left
    · go_simp; try with_reducible rfl
    try simp only [Act.put, List.setIfInBounds_toArray, List.set_cons_zero, List.set_cons_succ]
    refine seqR_at (o := ?_) ?_ ?_
    rotate_left
    · (conv => (lhs; whnf; arg 1; whnf))
    refine seqR_y (v := ?_) (by rfl) (fun W hW => ?_) ?_
    rotate_left
    · go_simp; try with_reducible rfl
    try simp only [Act.put, List.setIfInBounds_toArray, List.set_cons_zero, List.set_cons_succ]
    refine seqR_at (o := ?_) ?_ ?_
    rotate_left
    · (conv => (lhs; whnf; arg 1; whnf))
    refine seqR_y (v := ?_) (by rfl) (fun W hW => ?_) ?_
    rotate_left
    · go_simp; try with_reducible rfl
    try simp only [Act.put, List.setIfInBounds_toArray, List.set_cons_zero, List.set_cons_succ]
    refine seqR_at (o := ?_) ?_ ?_
    rotate_left
    · (conv => (lhs; whnf; arg 1; whnf))
    refine seqR_y (v := ?_) (by rfl) (fun W hW => ?_) ?_
    rotate_left
    · (refine exec_ldN (x := .tmp 13) ntNat ?_ ?_ (u_13.out.below hW)) <;> rfl
    try simp only [Act.put, List.setIfInBounds_toArray, List.set_cons_zero, List.set_cons_succ]
    refine seqR_at (o := ?_) ?_ ?_
    rotate_left
    · (conv => (lhs; whnf; arg 1; whnf))
    refine seqR_y (v := ?_) (by rfl) (fun W hW => ?_) ?_
    rotate_left
    · go_simp; try with_reducible rfl
    try simp only [Act.put, List.setIfInBounds_toArray, List.set_cons_zero, List.set_cons_succ]
    refine seqR_at (o := ?_) ?_ ?_
    rotate_left
    · (conv => (lhs; whnf; arg 1; whnf))
    refine seqR_y (v := ?_) (by rfl) (fun W hW => ?_) ?_
    rotate_left
    · go_simp; try with_reducible rfl
    try simp only [Act.put, List.setIfInBounds_toArray, List.set_cons_zero, List.set_cons_succ]
    refine seqR_at (o := ?_) ?_ ?_
    rotate_left
    · (conv => (lhs; whnf; arg 1; whnf))
    refine seqR_c (by rfl) (fun K hK => ?_)
    go_simp
    refine (rsub_ok _ _ _ p_13.out q_13.out HSn.out HSm.out (by have := HCN.out; omega) HT.out).mono ?_
    rintro e p14 ⟨v14, rfl, hv, hb, _⟩
    have p_14 := Lib.hid (p_13.out.below hb)
    have q_14 := Lib.hid (q_13.out.below hb)
    have u_14 := Lib.hid (u_13.out.below hb)
    have W_14 := Lib.hid (W_13.out.trans (hb.mono W_13.out.size))
    refine hK _ _ hb ?_
    clear hK K hb p_13 q_13 u_13 W_13
    have r_14 := Lib.hid hv; clear hv
    try simp only [Act.put, List.setIfInBounds_toArray, List.set_cons_zero, List.set_cons_succ]
    refine seqR_at (o := ?_) ?_ ?_
    rotate_left
    · (conv => (lhs; whnf; arg 1; whnf))
    refine seqR_c (by rfl) (fun K hK => ?_)
    go_simp
    refine (same_ok _ _ HFt.out r_14.out HSt.out (decide_eq_true rfl)).mono ?_
    rintro e p15 ⟨rfl, hb⟩
    have p_15 := Lib.hid (p_14.out.below hb)
    have q_15 := Lib.hid (q_14.out.below hb)
    have u_15 := Lib.hid (u_14.out.below hb)
    have r_15 := Lib.hid (r_14.out.below hb)
    have W_15 := Lib.hid (W_14.out.trans (hb.mono W_14.out.size))
    refine hK _ _ hb ?_
    clear hK K hb p_14 q_14 u_14 r_14 W_14
    try simp only [Act.put, List.setIfInBounds_toArray, List.set_cons_zero, List.set_cons_succ]
    refine seqR_at (o := ?_) ?_ ?_
    rotate_left
    · (conv => (lhs; whnf; arg 1; whnf))
    refine seqR_y (v := ?_) (by rfl) (fun W hW => ?_) ?_
    rotate_left
    · go_simp; try with_reducible rfl
    try simp only [Act.put, List.setIfInBounds_toArray, List.set_cons_zero, List.set_cons_succ]
    refine seqR_at (o := ?_) ?_ ?_
    rotate_left
    · (conv => (lhs; whnf; arg 1; whnf))
    refine seqR_y (v := ?_) (by rfl) (fun W hW => ?_) ?_
    rotate_left
    · go_simp; try with_reducible rfl
    try simp only [Act.put, List.setIfInBounds_toArray, List.set_cons_zero, List.set_cons_succ]
    refine seqR_at (o := ?_) ?_ ?_
    rotate_left
    · (conv => (lhs; whnf; arg 1; whnf))
    refine seqR_c (by rfl) (fun K hK => ?_)
    go_simp
    refine (known_any _).mono ?_
    rintro e p16 ⟨rfl, hb⟩
    have p_16 := Lib.hid (p_15.out.below hb)
    have q_16 := Lib.hid (q_15.out.below hb)
    have u_16 := Lib.hid (u_15.out.below hb)
    have r_16 := Lib.hid (r_15.out.below hb)
    have W_16 := Lib.hid (W_15.out.trans (hb.mono W_15.out.size))
    refine hK _ _ hb ?_
    clear hK K hb p_15 q_15 u_15 r_15 W_15
    try simp only [Act.put, List.setIfInBounds_toArray, List.set_cons_zero, List.set_cons_succ]
    refine seqR_at (o := ?_) ?_ ?_
    rotate_left
    · (conv => (lhs; whnf; arg 1; whnf))
    refine seqR_y (v := ?_) (by rfl) (fun W hW => ?_) ?_
    rotate_left
    · go_simp; try with_reducible rfl
    try simp only [Act.put, List.setIfInBounds_toArray, List.set_cons_zero, List.set_cons_succ]
    refine seqR_at (o := ?_) ?_ ?_
    rotate_left
    · (conv => (lhs; whnf; arg 1; whnf))
    refine seqR_y (v := ?_) (by rfl) (fun W hW => ?_) ?_
    rotate_left
    · go_simp; try with_reducible rfl
    try simp only [Act.put, List.setIfInBounds_toArray, List.set_cons_zero, List.set_cons_succ]
    refine seqR_end ?_
    go_wp2_with (first | (refine wpl_ldN ntNat rfl rfl rfl u_16.out ?_) | (refine wpl_ldN_g ntNat rfl rfl rfl u_16.out ?_))
    go_ret
    exact ⟨rfl, W_16.out⟩
  · have HFs := Lib.hid hf
    clear hf
    go_enter Try.func7, Try.ntmps7
    go_wp2_with fail
    refine (made_ok _ _ HA.out HLn.out HEn.out HFn.out).mono ?_
    rintro e p1 ⟨v1, rfl, hv, hb⟩
    have XT0_1 := Lib.hid (NatAt.zero p1)
    have XA_1 := Lib.hid (below_zero hb hb.size)
    have hsz_1 : Hid (w.heap.size ≤ p1.heap.size) := Lib.hid hb.size
    have XQ_1 := Lib.hid (below_zero (Below.refl p1.heap.size p1) (Nat.le_refl _))
    have XMp_1 := Lib.hid hv
    clear hv
    clear hb
    go_wp2_with (first | (refine wpl_stN ntNat rfl rfl rfl rfl XT0_1.out ?_; intro q1 hn hg; have XB0_1 := Lib.hid (XA_1.out.grown hg XA_1.out.size (fun j e => by injection e with e; rw [← e]; have := hsz_1.out; omega)); have XS00_1 := Lib.hid hn; have hq := XQ_1.out.grown hg XQ_1.out.size (fun j e => by injection e with e; rw [← e]; exact Nat.le_refl _); have A_1 := Lib.hid (HA.out.below XB0_1.out); have B_1 := Lib.hid (HB.out.below XB0_1.out); have W_1 := Lib.hid (XB0_1.out); have p_1 := Lib.hid (XMp_1.out.below hq); have x_1 := XS00_1; clear hn hg HA HB XMp_1 hq XQ_1 XT0_1 XA_1 XS00_1 XB0_1 hsz_1) | (refine wpl_ldN ntNat rfl rfl rfl x_1.out ?_) | (refine wpl_ldN_g ntNat rfl rfl rfl x_1.out ?_))
    refine (made_ok _ _ B_1.out HLm.out HEm.out HFm.out).mono ?_
    rintro e p2 ⟨v2, rfl, hv, hb⟩
    have XT0_2 := Lib.hid (NatAt.zero p2)
    have XA_2 := Lib.hid (below_zero hb hb.size)
    have hsz_2 : Hid (q1.heap.size ≤ p2.heap.size) := Lib.hid hb.size
    have XQ_2 := Lib.hid (below_zero (Below.refl p2.heap.size p2) (Nat.le_refl _))
    have XMq_2 := Lib.hid hv
    clear hv
    clear hb
    go_wp2_with (first | (refine wpl_stN ntNat rfl rfl rfl rfl XT0_2.out ?_; intro q2 hn hg; have XB0_2 := Lib.hid (XA_2.out.grown hg XA_2.out.size (fun j e => by injection e with e; rw [← e]; have := hsz_2.out; omega)); have XS00_2 := Lib.hid hn; have hq := XQ_2.out.grown hg XQ_2.out.size (fun j e => by injection e with e; rw [← e]; exact Nat.le_refl _); have A_2 := Lib.hid (A_1.out.below XB0_2.out); have B_2 := Lib.hid (B_1.out.below XB0_2.out); have p_2 := Lib.hid (p_1.out.below XB0_2.out); have x_2 := Lib.hid (x_1.out.below XB0_2.out); have W_2 := Lib.hid (W_1.out.trans (XB0_2.out.mono W_1.out.size)); have q_2 := Lib.hid (XMq_2.out.below hq); have y_2 := XS00_2; clear hn hg A_1 B_1 p_1 x_1 W_1 XMq_2 hq XQ_2 XT0_2 XA_2 XS00_2 XB0_2 hsz_2) | (refine wpl_ldN ntNat rfl rfl rfl x_2.out ?_) | (refine wpl_ldN_g ntNat rfl rfl rfl x_2.out ?_) | (refine wpl_ldN ntNat rfl rfl rfl y_2.out ?_) | (refine wpl_ldN_g ntNat rfl rfl rfl y_2.out ?_))
    clear A_2
    clear B_2
    refine region_road Later [(0, true), (1, true), (2, true), (3, true), (4, true), (5, true), (6, true), (7, true), (8, true), (10, true), (11, true), (9, false), (12, false), (13, true), (14, true), (15, true), (16, true), (17, true), (18, true), (19, true), (20, true), (21, false), (22, true), (23, true), (24, true)] (by kernel_rfl) (by kernel_rfl) (by kernel_rfl) (by kernel_rfl) (by kernel_rfl) (by kernel_rfl) later_refl later_trans (fun _ _ d _ _ h => by cases d <;> exact h) ?_
    have p_3 := Lib.hid (p_2.out.below ((Below.refl q2.heap.size q2).drew))
    have x_3 := Lib.hid (x_2.out.below ((Below.refl q2.heap.size q2).drew))
    have q_3 := Lib.hid (q_2.out.below ((Below.refl q2.heap.size q2).drew))
    have y_3 := Lib.hid (y_2.out.below ((Below.refl q2.heap.size q2).drew))
    have W_3 := Lib.hid (W_2.out.trans (((Below.refl q2.heap.size q2).drew).mono W_2.out.size))
    clear p_2 x_2 q_2 y_2 W_2
    generalize q2.drew = d3 at p_3 x_3 q_3 y_3 W_3 ⊢
    refine seqR_at (o := ?_) ?_ ?_
    rotate_left
    · (conv => (lhs; whnf; arg 1; whnf))
    refine seqR_y (v := ?_) (by rfl) (fun W hW => ?_) ?_
    rotate_left
    · go_simp; try with_reducible rfl
    try simp only [Act.put, List.setIfInBounds_toArray, List.set_cons_zero, List.set_cons_succ]
    refine seqR_at (o := ?_) ?_ ?_
    rotate_left
    · (conv => (lhs; whnf; arg 1; whnf))
    refine seqR_y (v := ?_) (by rfl) (fun W hW => ?_) ?_
    rotate_left
    · go_simp; try with_reducible rfl
    try simp only [Act.put, List.setIfInBounds_toArray, List.set_cons_zero, List.set_cons_succ]
    refine seqR_at (o := ?_) ?_ ?_
    rotate_left
    · (conv => (lhs; whnf; arg 1; whnf))
    refine seqR_y (v := ?_) (by rfl) (fun W hW => ?_) ?_
    rotate_left
    · go_simp; try with_reducible rfl
    try simp only [Act.put, List.setIfInBounds_toArray, List.set_cons_zero, List.set_cons_succ]
    refine seqR_at (o := ?_) ?_ ?_
    rotate_left
    · (conv => (lhs; whnf; arg 1; whnf))
    refine seqR_y (v := ?_) (by rfl) (fun W hW => ?_) ?_
    rotate_left
    · go_simp; try with_reducible rfl
    try simp only [Act.put, List.setIfInBounds_toArray, List.set_cons_zero, List.set_cons_succ]
    refine seqR_at (o := ?_) ?_ ?_
    rotate_left
    · (conv => (lhs; whnf; arg 1; whnf))
    refine seqR_y (v := ?_) (by rfl) (fun W hW => ?_) ?_
    rotate_left
    · go_simp; try with_reducible rfl
    try simp only [Act.put, List.setIfInBounds_toArray, List.set_cons_zero, List.set_cons_succ]
    refine seqR_at (o := ?_) ?_ ?_
    rotate_left
    · (conv => (lhs; whnf; arg 1; whnf))
    refine seqR_y (v := ?_) (by rfl) (fun W hW => ?_) ?_
    rotate_left
    · go_simp; try with_reducible rfl
    try simp only [Act.put, List.setIfInBounds_toArray, List.set_cons_zero, List.set_cons_succ]
    refine seqR_at (o := ?_) ?_ ?_
    rotate_left
    · (conv => (lhs; whnf; arg 1; whnf))
    refine seqR_y (v := ?_) (by rfl) (fun W hW => ?_) ?_
    rotate_left
    · go_simp; try with_reducible rfl
    try simp only [Act.put, List.setIfInBounds_toArray, List.set_cons_zero, List.set_cons_succ]
    refine seqR_at (o := ?_) ?_ ?_
    rotate_left
    · (conv => (lhs; whnf; arg 1; whnf))
    refine seqR_y (v := ?_) (by rfl) (fun W hW => ?_) ?_
    rotate_left
    · (refine exec_ldN (x := .tmp 5) ntNat ?_ ?_ (x_3.out.below hW)) <;> rfl
    try simp only [Act.put, List.setIfInBounds_toArray, List.set_cons_zero, List.set_cons_succ]
    refine seqR_at (o := ?_) ?_ ?_
    rotate_left
    · (conv => (lhs; whnf; arg 1; whnf))
    refine seqR_y (v := ?_) (by rfl) (fun W hW => ?_) ?_
    rotate_left
    · (refine exec_ldN (x := .tmp 8) ntNat ?_ ?_ (y_3.out.below hW)) <;> rfl
    try simp only [Act.put, List.setIfInBounds_toArray, List.set_cons_zero, List.set_cons_succ]
    refine seqR_at (o := ?_) ?_ ?_
    rotate_left
    · (conv => (lhs; whnf; arg 1; whnf))
    refine seqR_y (v := ?_) (by rfl) (fun W hW => ?_) ?_
    rotate_left
    · go_simp; try with_reducible rfl
    try simp only [Act.put, List.setIfInBounds_toArray, List.set_cons_zero, List.set_cons_succ]
    refine seqR_at (o := ?_) ?_ ?_
    rotate_left
    · (conv => (lhs; whnf; arg 1; whnf))
    refine seqR_y (v := ?_) (by rfl) (fun W hW => ?_) ?_
    rotate_left
    · go_simp; try with_reducible rfl
    try simp only [Act.put, List.setIfInBounds_toArray, List.set_cons_zero, List.set_cons_succ]
    refine seqR_at (o := ?_) ?_ ?_
    rotate_left
    · (conv => (lhs; whnf; arg 1; whnf))
    refine seqR_c (by rfl) (fun K hK => ?_)
    go_simp
    refine (compare_ok _ HFn.out HFm.out HCmp.out).mono ?_
    rintro e p4 ⟨rfl, hb⟩
    have p_4 := Lib.hid (p_3.out.below hb)
    have x_4 := Lib.hid (x_3.out.below hb)
    have q_4 := Lib.hid (q_3.out.below hb)
    have y_4 := Lib.hid (y_3.out.below hb)
    have W_4 := Lib.hid (W_3.out.trans (hb.mono W_3.out.size))
    refine hK _ _ hb ?_
    clear hK K hb p_3 x_3 q_3 y_3 W_3
    try simp only [Act.put, List.setIfInBounds_toArray, List.set_cons_zero, List.set_cons_succ]
    refine seqR_at (o := ?_) ?_ ?_
    rotate_left
    · (conv => (lhs; whnf; arg 1; whnf))
    refine seqR_c (by rfl) (fun K hK => ?_)
    go_simp
    refine (rcompare_ok _ _ _ p_4.out q_4.out HSn.out HSm.out HCmp.out).mono ?_
    rintro e p5 ⟨rfl, rfl⟩
    refine hK _ _ (later_refl _) ?_
    clear hK K
    try simp only [Act.put, List.setIfInBounds_toArray, List.set_cons_zero, List.set_cons_succ]
    refine seqR_at (o := ?_) ?_ ?_
    rotate_left
    · (conv => (lhs; whnf; arg 1; whnf))
    refine seqR_y (v := ?_) (by rfl) (fun W hW => ?_) ?_
    rotate_left
    · go_simp; try with_reducible rfl
    try simp only [Act.put, List.setIfInBounds_toArray, List.set_cons_zero, List.set_cons_succ]
    refine seqR_at (o := ?_) ?_ ?_
    rotate_left
    · (conv => (lhs; whnf; arg 1; whnf))
    refine seqR_y (v := ?_) (by rfl) (fun W hW => ?_) ?_
    rotate_left
    · go_simp; try with_reducible rfl
    try simp only [Act.put, List.setIfInBounds_toArray, List.set_cons_zero, List.set_cons_succ]
    refine seqR_at (o := ?_) ?_ ?_
    rotate_left
    · (conv => (lhs; whnf; arg 1; whnf))
    refine seqR_y (v := ?_) (by rfl) (fun W hW => ?_) ?_
    rotate_left
    · go_simp; try with_reducible rfl
    try simp only [Act.put, List.setIfInBounds_toArray, List.set_cons_zero, List.set_cons_succ]
    refine seqR_at (o := ?_) ?_ ?_
    rotate_left
    · (conv => (lhs; whnf; arg 1; whnf))
    refine seqR_y (v := ?_) (by rfl) (fun W hW => ?_) ?_
    rotate_left
    · (refine exec_ldN (x := .tmp 5) ntNat ?_ ?_ (x_4.out.below hW)) <;> rfl
    try simp only [Act.put, List.setIfInBounds_toArray, List.set_cons_zero, List.set_cons_succ]
    refine seqR_at (o := ?_) ?_ ?_
    rotate_left
    · (conv => (lhs; whnf; arg 1; whnf))
    refine seqR_y (v := ?_) (by rfl) (fun W hW => ?_) ?_
    rotate_left
    · (refine exec_ldN (x := .tmp 8) ntNat ?_ ?_ (y_4.out.below hW)) <;> rfl
    try simp only [Act.put, List.setIfInBounds_toArray, List.set_cons_zero, List.set_cons_succ]
    refine seqR_at (o := ?_) ?_ ?_
    rotate_left
    · (conv => (lhs; whnf; arg 1; whnf))
    refine seqR_y (v := ?_) (by rfl) (fun W hW => ?_) ?_
    rotate_left
    · (refine exec_eqN (x := .tmp 53) (y := .tmp 54) (t' := 29) (a := n) (b := m) ?_ ?_ ?_ HFn.out HFm.out) <;> rfl
    simp only [HQ.out]
    try simp only [Act.put, List.setIfInBounds_toArray, List.set_cons_zero, List.set_cons_succ]
    refine seqR_at (o := ?_) ?_ ?_
    rotate_left
    · (conv => (lhs; whnf; arg 1; whnf))
    refine seqR_y (v := ?_) (by rfl) (fun W hW => ?_) ?_
    rotate_left
    · go_simp; try with_reducible rfl
    try simp only [Act.put, List.setIfInBounds_toArray, List.set_cons_zero, List.set_cons_succ]
    refine seqR_at (o := ?_) ?_ ?_
    rotate_left
    · (conv => (lhs; whnf; arg 1; whnf))
    refine seqR_y (v := ?_) (by rfl) (fun W hW => ?_) ?_
    rotate_left
    · go_simp; try with_reducible rfl
    try simp only [Act.put, List.setIfInBounds_toArray, List.set_cons_zero, List.set_cons_succ]
    refine seqR_at (o := ?_) ?_ ?_
    rotate_left
    · (conv => (lhs; whnf; arg 1; whnf))
    refine seqR_c (by rfl) (fun K hK => ?_)
    go_simp
    refine (rcompare_ok _ _ _ p_4.out q_4.out HSn.out HSm.out HCmp.out).mono ?_
    rintro e p6 ⟨rfl, rfl⟩
    refine hK _ _ (later_refl _) ?_
    clear hK K
    try simp only [Act.put, List.setIfInBounds_toArray, List.set_cons_zero, List.set_cons_succ]
    refine seqR_at (o := ?_) ?_ ?_
    rotate_left
    · (conv => (lhs; whnf; arg 1; whnf))
    refine seqR_y (v := ?_) (by rfl) (fun W hW => ?_) ?_
    rotate_left
    · go_simp; try with_reducible rfl
    try simp only [Act.put, List.setIfInBounds_toArray, List.set_cons_zero, List.set_cons_succ]
    refine seqR_at (o := ?_) ?_ ?_
    rotate_left
    · (conv => (lhs; whnf; arg 1; whnf))
    refine seqR_y (v := ?_) (by rfl) (fun W hW => ?_) ?_
    rotate_left
    · go_simp; try with_reducible rfl
    try simp only [Act.put, List.setIfInBounds_toArray, List.set_cons_zero, List.set_cons_succ]
    refine seqR_at (o := ?_) ?_ ?_
    rotate_left
    · (conv => (lhs; whnf; arg 1; whnf))
    refine seqR_y (v := ?_) (by rfl) (fun W hW => ?_) ?_
    rotate_left
    · go_simp; try with_reducible rfl
    try simp only [Act.put, List.setIfInBounds_toArray, List.set_cons_zero, List.set_cons_succ]
    refine seqR_end ?_
    go_wp2_with (first | (refine wpl_ldN ntNat rfl rfl rfl x_4.out ?_) | (refine wpl_ldN_g ntNat rfl rfl rfl x_4.out ?_) | (refine wpl_ldN ntNat rfl rfl rfl y_4.out ?_) | (refine wpl_ldN_g ntNat rfl rfl rfl y_4.out ?_))
    refine (add_full _ HFn.out HFm.out (by rw [HP.out]; exact HFs.out)).mono ?_
    rintro e p7 ⟨rfl, hb⟩
    have XT0_7 := Lib.hid (NatAt.zero p7)
    have XA_7 := Lib.hid (below_zero hb hb.size)
    have hsz_7 : Hid (p4.heap.size ≤ p7.heap.size) := Lib.hid hb.size
    clear hb
    go_wp2_with (first | (refine wpl_stN ntNat rfl rfl rfl rfl XT0_7.out ?_; intro q7 hn hg; have XB0_7 := Lib.hid (XA_7.out.grown hg XA_7.out.size (fun j e => by injection e with e; rw [← e]; have := hsz_7.out; omega)); have XS00_7 := Lib.hid hn; have p_7 := Lib.hid (p_4.out.below XB0_7.out); have x_7 := Lib.hid (x_4.out.below XB0_7.out); have q_7 := Lib.hid (q_4.out.below XB0_7.out); have y_7 := Lib.hid (y_4.out.below XB0_7.out); have W_7 := Lib.hid (W_4.out.trans (XB0_7.out.mono W_4.out.size)); have z_7 := XS00_7; clear hn hg p_4 x_4 q_4 y_4 W_4 XT0_7 XA_7 XS00_7 XB0_7 hsz_7) | (refine wpl_ldN ntNat rfl rfl rfl x_7.out ?_) | (refine wpl_ldN_g ntNat rfl rfl rfl x_7.out ?_) | (refine wpl_ldN ntNat rfl rfl rfl y_7.out ?_) | (refine wpl_ldN_g ntNat rfl rfl rfl y_7.out ?_) | (refine wpl_ldN ntNat rfl rfl rfl z_7.out ?_) | (refine wpl_ldN_g ntNat rfl rfl rfl z_7.out ?_))
    refine (sub_ok _ HFn.out HFm.out (by have := HCN.out; omega) HT.out).mono ?_
    rintro e p8 ⟨rfl, hb⟩
    have XT0_8 := Lib.hid (NatAt.zero p8)
    have XA_8 := Lib.hid (below_zero hb hb.size)
    have hsz_8 : Hid (q7.heap.size ≤ p8.heap.size) := Lib.hid hb.size
    clear hb
    go_wp2_with (first | (refine wpl_stN ntNat rfl rfl rfl rfl XT0_8.out ?_; intro q8 hn hg; have XB0_8 := Lib.hid (XA_8.out.grown hg XA_8.out.size (fun j e => by injection e with e; rw [← e]; have := hsz_8.out; omega)); have XS00_8 := Lib.hid hn; have p_8 := Lib.hid (p_7.out.below XB0_8.out); have x_8 := Lib.hid (x_7.out.below XB0_8.out); have q_8 := Lib.hid (q_7.out.below XB0_8.out); have y_8 := Lib.hid (y_7.out.below XB0_8.out); have z_8 := Lib.hid (z_7.out.below XB0_8.out); have W_8 := Lib.hid (W_7.out.trans (XB0_8.out.mono W_7.out.size)); have u_8 := XS00_8; clear hn hg p_7 x_7 q_7 y_7 z_7 W_7 XT0_8 XA_8 XS00_8 XB0_8 hsz_8) | (refine wpl_ldN ntNat rfl rfl rfl x_8.out ?_) | (refine wpl_ldN_g ntNat rfl rfl rfl x_8.out ?_) | (refine wpl_ldN ntNat rfl rfl rfl y_8.out ?_) | (refine wpl_ldN_g ntNat rfl rfl rfl y_8.out ?_) | (refine wpl_ldN ntNat rfl rfl rfl z_8.out ?_) | (refine wpl_ldN_g ntNat rfl rfl rfl z_8.out ?_) | (refine wpl_ldN ntNat rfl rfl rfl u_8.out ?_) | (refine wpl_ldN_g ntNat rfl rfl rfl u_8.out ?_))
    clear x_8
    clear y_8
    refine (radd_ok _ _ _ p_8.out q_8.out HSn.out HSm.out HP.out).mono ?_
    rintro e p9 ⟨v9, rfl, hv, hb, ho9⟩
    have p_9 := Lib.hid (p_8.out.below hb)
    have q_9 := Lib.hid (q_8.out.below hb)
    have z_9 := Lib.hid (z_8.out.below hb)
    have u_9 := Lib.hid (u_8.out.below hb)
    have W_9 := Lib.hid (W_8.out.trans (hb.mono W_8.out.size))
    clear hb ho9 p_8 q_8 z_8 u_8 W_8
    have r_9 := Lib.hid hv
    clear hv
    go_wp2_with (first | (refine wpl_ldN ntNat rfl rfl rfl z_9.out ?_) | (refine wpl_ldN_g ntNat rfl rfl rfl z_9.out ?_) | (refine wpl_ldN ntNat rfl rfl rfl u_9.out ?_) | (refine wpl_ldN_g ntNat rfl rfl rfl u_9.out ?_))
    refine (rfits_ok _ _ r_9.out HSs.out (c := false) (by simp [HFs.out])).mono ?_
    rintro e p10 ⟨rfl, rfl⟩
    go_wp2_with (first | (refine wpl_ldN ntNat rfl rfl rfl z_9.out ?_) | (refine wpl_ldN_g ntNat rfl rfl rfl z_9.out ?_) | (refine wpl_ldN ntNat rfl rfl rfl u_9.out ?_) | (refine wpl_ldN_g ntNat rfl rfl rfl u_9.out ?_))
    refine (isZero_zero _).mono ?_
    rintro e p11 ⟨rfl, hb⟩
    have p_11 := Lib.hid (p_9.out.below hb)
    have q_11 := Lib.hid (q_9.out.below hb)
    have z_11 := Lib.hid (z_9.out.below hb)
    have u_11 := Lib.hid (u_9.out.below hb)
    have r_11 := Lib.hid (r_9.out.below hb)
    have W_11 := Lib.hid (W_9.out.trans (hb.mono W_9.out.size))
    clear hb p_9 q_9 z_9 u_9 r_9 W_9
    go_wp2_with (first | (refine wpl_ldN ntNat rfl rfl rfl z_11.out ?_) | (refine wpl_ldN_g ntNat rfl rfl rfl z_11.out ?_) | (refine wpl_ldN ntNat rfl rfl rfl u_11.out ?_) | (refine wpl_ldN_g ntNat rfl rfl rfl u_11.out ?_))
    clear z_11
    clear r_11
    refine (rcompare_ok _ _ _ p_11.out q_11.out HSn.out HSm.out HCmp.out).mono ?_
    rintro e p12 ⟨rfl, rfl⟩
    go_wp2_with (first | (refine wpl_ldN ntNat rfl rfl rfl u_11.out ?_) | (refine wpl_ldN_g ntNat rfl rfl rfl u_11.out ?_))
    refine region_road Later [(0, true), (1, true), (2, true), (3, true), (4, true), (5, true), (6, false), (7, false), (8, true), (9, true), (10, false), (11, true), (12, true)] (by kernel_rfl) (by kernel_rfl) (by kernel_rfl) (by kernel_rfl) (by kernel_rfl) (by kernel_rfl) later_refl later_trans (fun _ _ d _ _ h => by cases d <;> exact h) ?_
    have p_13 := Lib.hid (p_11.out.below ((Below.refl p11.heap.size p11).drew))
    have q_13 := Lib.hid (q_11.out.below ((Below.refl p11.heap.size p11).drew))
    have u_13 := Lib.hid (u_11.out.below ((Below.refl p11.heap.size p11).drew))
    have W_13 := Lib.hid (W_11.out.trans (((Below.refl p11.heap.size p11).drew).mono W_11.out.size))
    clear p_11 q_11 u_11 W_11
    generalize p11.drew = d13 at p_13 q_13 u_13 W_13 ⊢
    refine seqR_at (o := ?_) ?_ ?_
    rotate_left
    · (conv => (lhs; whnf; arg 1; whnf))
    refine seqR_y (v := ?_) (by rfl) (fun W hW => ?_) ?_
    rotate_left
    · go_simp; try with_reducible rfl
    try simp only [Act.put, List.setIfInBounds_toArray, List.set_cons_zero, List.set_cons_succ]
    refine seqR_at (o := ?_) ?_ ?_
    rotate_left
    · (conv => (lhs; whnf; arg 1; whnf))
    refine seqR_y (v := ?_) (by rfl) (fun W hW => ?_) ?_
    rotate_left
    · go_simp; try with_reducible rfl
    try simp only [Act.put, List.setIfInBounds_toArray, List.set_cons_zero, List.set_cons_succ]
    refine seqR_at (o := ?_) ?_ ?_
    rotate_left
    · (conv => (lhs; whnf; arg 1; whnf))
    refine seqR_y (v := ?_) (by rfl) (fun W hW => ?_) ?_
    rotate_left
    · go_simp; try with_reducible rfl
    try simp only [Act.put, List.setIfInBounds_toArray, List.set_cons_zero, List.set_cons_succ]
    refine seqR_at (o := ?_) ?_ ?_
    rotate_left
    · (conv => (lhs; whnf; arg 1; whnf))
    refine seqR_y (v := ?_) (by rfl) (fun W hW => ?_) ?_
    rotate_left
    · (refine exec_ldN (x := .tmp 13) ntNat ?_ ?_ (u_13.out.below hW)) <;> rfl
    try simp only [Act.put, List.setIfInBounds_toArray, List.set_cons_zero, List.set_cons_succ]
    refine seqR_at (o := ?_) ?_ ?_
    rotate_left
    · (conv => (lhs; whnf; arg 1; whnf))
    refine seqR_y (v := ?_) (by rfl) (fun W hW => ?_) ?_
    rotate_left
    · go_simp; try with_reducible rfl
    try simp only [Act.put, List.setIfInBounds_toArray, List.set_cons_zero, List.set_cons_succ]
    refine seqR_at (o := ?_) ?_ ?_
    rotate_left
    · (conv => (lhs; whnf; arg 1; whnf))
    refine seqR_y (v := ?_) (by rfl) (fun W hW => ?_) ?_
    rotate_left
    · go_simp; try with_reducible rfl
    try simp only [Act.put, List.setIfInBounds_toArray, List.set_cons_zero, List.set_cons_succ]
    refine seqR_at (o := ?_) ?_ ?_
    rotate_left
    · (conv => (lhs; whnf; arg 1; whnf))
    refine seqR_c (by rfl) (fun K hK => ?_)
    go_simp
    refine (rsub_ok _ _ _ p_13.out q_13.out HSn.out HSm.out (by have := HCN.out; omega) HT.out).mono ?_
    rintro e p14 ⟨v14, rfl, hv, hb, _⟩
    have p_14 := Lib.hid (p_13.out.below hb)
    have q_14 := Lib.hid (q_13.out.below hb)
    have u_14 := Lib.hid (u_13.out.below hb)
    have W_14 := Lib.hid (W_13.out.trans (hb.mono W_13.out.size))
    refine hK _ _ hb ?_
    clear hK K hb p_13 q_13 u_13 W_13
    have r_14 := Lib.hid hv; clear hv
    try simp only [Act.put, List.setIfInBounds_toArray, List.set_cons_zero, List.set_cons_succ]
    refine seqR_at (o := ?_) ?_ ?_
    rotate_left
    · (conv => (lhs; whnf; arg 1; whnf))
    refine seqR_c (by rfl) (fun K hK => ?_)
    go_simp
    refine (same_ok _ _ HFt.out r_14.out HSt.out (decide_eq_true rfl)).mono ?_
    rintro e p15 ⟨rfl, hb⟩
    have p_15 := Lib.hid (p_14.out.below hb)
    have q_15 := Lib.hid (q_14.out.below hb)
    have u_15 := Lib.hid (u_14.out.below hb)
    have r_15 := Lib.hid (r_14.out.below hb)
    have W_15 := Lib.hid (W_14.out.trans (hb.mono W_14.out.size))
    refine hK _ _ hb ?_
    clear hK K hb p_14 q_14 u_14 r_14 W_14
    try simp only [Act.put, List.setIfInBounds_toArray, List.set_cons_zero, List.set_cons_succ]
    refine seqR_at (o := ?_) ?_ ?_
    rotate_left
    · (conv => (lhs; whnf; arg 1; whnf))
    refine seqR_y (v := ?_) (by rfl) (fun W hW => ?_) ?_
    rotate_left
    · go_simp; try with_reducible rfl
    try simp only [Act.put, List.setIfInBounds_toArray, List.set_cons_zero, List.set_cons_succ]
    refine seqR_at (o := ?_) ?_ ?_
    rotate_left
    · (conv => (lhs; whnf; arg 1; whnf))
    refine seqR_y (v := ?_) (by rfl) (fun W hW => ?_) ?_
    rotate_left
    · go_simp; try with_reducible rfl
    try simp only [Act.put, List.setIfInBounds_toArray, List.set_cons_zero, List.set_cons_succ]
    refine seqR_at (o := ?_) ?_ ?_
    rotate_left
    · (conv => (lhs; whnf; arg 1; whnf))
    refine seqR_c (by rfl) (fun K hK => ?_)
    go_simp
    refine (known_any _).mono ?_
    rintro e p16 ⟨rfl, hb⟩
    have p_16 := Lib.hid (p_15.out.below hb)
    have q_16 := Lib.hid (q_15.out.below hb)
    have u_16 := Lib.hid (u_15.out.below hb)
    have r_16 := Lib.hid (r_15.out.below hb)
    have W_16 := Lib.hid (W_15.out.trans (hb.mono W_15.out.size))
    refine hK _ _ hb ?_
    clear hK K hb p_15 q_15 u_15 r_15 W_15
    try simp only [Act.put, List.setIfInBounds_toArray, List.set_cons_zero, List.set_cons_succ]
    refine seqR_at (o := ?_) ?_ ?_
    rotate_left
    · (conv => (lhs; whnf; arg 1; whnf))
    refine seqR_y (v := ?_) (by rfl) (fun W hW => ?_) ?_
    rotate_left
    · go_simp; try with_reducible rfl
    try simp only [Act.put, List.setIfInBounds_toArray, List.set_cons_zero, List.set_cons_succ]
    refine seqR_at (o := ?_) ?_ ?_
    rotate_left
    · (conv => (lhs; whnf; arg 1; whnf))
    refine seqR_y (v := ?_) (by rfl) (fun W hW => ?_) ?_
    rotate_left
    · go_simp; try with_reducible rfl
    try simp only [Act.put, List.setIfInBounds_toArray, List.set_cons_zero, List.set_cons_succ]
    refine seqR_end ?_
    go_wp2_with (first | (refine wpl_ldN ntNat rfl rfl rfl u_16.out ?_) | (refine wpl_ldN_g ntNat rfl rfl rfl u_16.out ?_))
    go_ret
    exact ⟨rfl, W_16.out⟩

set_option maxHeartbeats 6400000 in
theorem sums_gt (va : Value) (xa : List UInt8) (vb : Value) (xb : List UInt8) (w : World) (ha : Byt w va xa) (hb : Byt w vb xb) (ll0 : xa.length ≤ 128) (ll1 : xb.length ≤ 128)
    (n m : Nat) (hn : numN xa = n) (hm : numN xb = m) (hc : m < n) :
    Calls Try.prog 7 #[va, vb] w fun e w' => e = .returned (.bool true) ∧ Below w.heap.size w w' := by
  have HA := Lib.hid ha
  have HB := Lib.hid hb
  obtain ⟨A, c, rfl, -⟩ := ha.len
  obtain ⟨B, d, rfl, -⟩ := hb.len
  have d0 : decide (128 < (xa.length : Int)) = false := decide_eq_false (by omega)
  have d1 : decide (128 < (xb.length : Int)) = false := decide_eq_false (by omega)
  have HLn : Hid (xa.length ≤ 200) := Lib.hid (by omega)
  have HLm : Hid (xb.length ≤ 200) := Lib.hid (by omega)
  have HSn := Lib.hid (sz_num HLn.out)
  have HSm := Lib.hid (sz_num HLm.out)
  have HFn := Lib.hid (fit_num (xs := xa) ll0)
  have HFm := Lib.hid (fit_num (xs := xb) ll1)
  have HCn := Lib.hid (c16_num HLn.out)
  have HCm := Lib.hid (c16_num HLm.out)
  rw [hn] at HSn HFn HCn
  rw [hm] at HSm HFm HCm
  have HEn := Lib.hid hn
  have HEm := Lib.hid hm
  have HCmp : Hid (cmpI n m = 1) := Lib.hid (by unfold cmpI; rw [if_neg (by omega), if_pos hc])
  have HQ : Hid (decide (n = m) = false) := Lib.hid (decide_eq_false (by omega))
  have HCN := Lib.hid hc
  clear ha hb ll0 ll1 hn hm hc
  obtain ⟨s, hs⟩ : ∃ s, n + m = s := ⟨_, rfl⟩
  have HP := Lib.hid hs
  have HSs : Hid (Sz s) := Lib.hid (by rw [← hs]; exact Sz.of (Nat.le_trans (c16_add n m) (Nat.succ_le_succ (Nat.max_le.2 ⟨HCn.out, HCm.out⟩))) (by decide))
  obtain ⟨t, ht⟩ : ∃ t, n - m = t := ⟨_, rfl⟩
  have HT := Lib.hid ht
  have HFt : Hid (Fit t) := Lib.hid (by rw [← ht]; exact Nat.lt_of_le_of_lt (Nat.sub_le _ _) HFn.out)
  have HSt : Hid (Sz t) := Lib.hid (by rw [← ht]; exact HSn.out.mono (Nat.sub_le _ _))
  clear ht
  clear hs
  by_cases hf : Fit s
  · have HFs := Lib.hid hf
    clear hf
    go_enter Try.func7, Try.ntmps7
    go_wp2_with fail
    refine (made_ok _ _ HA.out HLn.out HEn.out HFn.out).mono ?_
    rintro e p1 ⟨v1, rfl, hv, hb⟩
    have XT0_1 := Lib.hid (NatAt.zero p1)
    have XA_1 := Lib.hid (below_zero hb hb.size)
    have hsz_1 : Hid (w.heap.size ≤ p1.heap.size) := Lib.hid hb.size
    have XQ_1 := Lib.hid (below_zero (Below.refl p1.heap.size p1) (Nat.le_refl _))
    have XMp_1 := Lib.hid hv
    clear hv
    clear hb
    go_wp2_with (first | (refine wpl_stN ntNat rfl rfl rfl rfl XT0_1.out ?_; intro q1 hn hg; have XB0_1 := Lib.hid (XA_1.out.grown hg XA_1.out.size (fun j e => by injection e with e; rw [← e]; have := hsz_1.out; omega)); have XS00_1 := Lib.hid hn; have hq := XQ_1.out.grown hg XQ_1.out.size (fun j e => by injection e with e; rw [← e]; exact Nat.le_refl _); have A_1 := Lib.hid (HA.out.below XB0_1.out); have B_1 := Lib.hid (HB.out.below XB0_1.out); have W_1 := Lib.hid (XB0_1.out); have p_1 := Lib.hid (XMp_1.out.below hq); have x_1 := XS00_1; clear hn hg HA HB XMp_1 hq XQ_1 XT0_1 XA_1 XS00_1 XB0_1 hsz_1) | (refine wpl_ldN ntNat rfl rfl rfl x_1.out ?_) | (refine wpl_ldN_g ntNat rfl rfl rfl x_1.out ?_))
    refine (made_ok _ _ B_1.out HLm.out HEm.out HFm.out).mono ?_
    rintro e p2 ⟨v2, rfl, hv, hb⟩
    have XT0_2 := Lib.hid (NatAt.zero p2)
    have XA_2 := Lib.hid (below_zero hb hb.size)
    have hsz_2 : Hid (q1.heap.size ≤ p2.heap.size) := Lib.hid hb.size
    have XQ_2 := Lib.hid (below_zero (Below.refl p2.heap.size p2) (Nat.le_refl _))
    have XMq_2 := Lib.hid hv
    clear hv
    clear hb
    go_wp2_with (first | (refine wpl_stN ntNat rfl rfl rfl rfl XT0_2.out ?_; intro q2 hn hg; have XB0_2 := Lib.hid (XA_2.out.grown hg XA_2.out.size (fun j e => by injection e with e; rw [← e]; have := hsz_2.out; omega)); have XS00_2 := Lib.hid hn; have hq := XQ_2.out.grown hg XQ_2.out.size (fun j e => by injection e with e; rw [← e]; exact Nat.le_refl _); have A_2 := Lib.hid (A_1.out.below XB0_2.out); have B_2 := Lib.hid (B_1.out.below XB0_2.out); have p_2 := Lib.hid (p_1.out.below XB0_2.out); have x_2 := Lib.hid (x_1.out.below XB0_2.out); have W_2 := Lib.hid (W_1.out.trans (XB0_2.out.mono W_1.out.size)); have q_2 := Lib.hid (XMq_2.out.below hq); have y_2 := XS00_2; clear hn hg A_1 B_1 p_1 x_1 W_1 XMq_2 hq XQ_2 XT0_2 XA_2 XS00_2 XB0_2 hsz_2) | (refine wpl_ldN ntNat rfl rfl rfl x_2.out ?_) | (refine wpl_ldN_g ntNat rfl rfl rfl x_2.out ?_) | (refine wpl_ldN ntNat rfl rfl rfl y_2.out ?_) | (refine wpl_ldN_g ntNat rfl rfl rfl y_2.out ?_))
    clear A_2
    clear B_2
    refine region_road Later [(0, true), (1, true), (2, true), (3, true), (4, true), (5, true), (6, true), (7, true), (8, true), (10, true), (11, true), (9, false), (12, false), (13, true), (14, true), (15, true), (16, true), (17, true), (18, true), (19, true), (20, true), (21, false), (22, true), (23, true), (24, true)] (by kernel_rfl) (by kernel_rfl) (by kernel_rfl) (by kernel_rfl) (by kernel_rfl) (by kernel_rfl) later_refl later_trans (fun _ _ d _ _ h => by cases d <;> exact h) ?_
    have p_3 := Lib.hid (p_2.out.below ((Below.refl q2.heap.size q2).drew))
    have x_3 := Lib.hid (x_2.out.below ((Below.refl q2.heap.size q2).drew))
    have q_3 := Lib.hid (q_2.out.below ((Below.refl q2.heap.size q2).drew))
    have y_3 := Lib.hid (y_2.out.below ((Below.refl q2.heap.size q2).drew))
    have W_3 := Lib.hid (W_2.out.trans (((Below.refl q2.heap.size q2).drew).mono W_2.out.size))
    clear p_2 x_2 q_2 y_2 W_2
    generalize q2.drew = d3 at p_3 x_3 q_3 y_3 W_3 ⊢
    refine seqR_at (o := ?_) ?_ ?_
    rotate_left
    · (conv => (lhs; whnf; arg 1; whnf))
    refine seqR_y (v := ?_) (by rfl) (fun W hW => ?_) ?_
    rotate_left
    · go_simp; try with_reducible rfl
    try simp only [Act.put, List.setIfInBounds_toArray, List.set_cons_zero, List.set_cons_succ]
    refine seqR_at (o := ?_) ?_ ?_
    rotate_left
    · (conv => (lhs; whnf; arg 1; whnf))
    refine seqR_y (v := ?_) (by rfl) (fun W hW => ?_) ?_
    rotate_left
    · go_simp; try with_reducible rfl
    try simp only [Act.put, List.setIfInBounds_toArray, List.set_cons_zero, List.set_cons_succ]
    refine seqR_at (o := ?_) ?_ ?_
    rotate_left
    · (conv => (lhs; whnf; arg 1; whnf))
    refine seqR_y (v := ?_) (by rfl) (fun W hW => ?_) ?_
    rotate_left
    · go_simp; try with_reducible rfl
    try simp only [Act.put, List.setIfInBounds_toArray, List.set_cons_zero, List.set_cons_succ]
    refine seqR_at (o := ?_) ?_ ?_
    rotate_left
    · (conv => (lhs; whnf; arg 1; whnf))
    refine seqR_y (v := ?_) (by rfl) (fun W hW => ?_) ?_
    rotate_left
    · go_simp; try with_reducible rfl
    try simp only [Act.put, List.setIfInBounds_toArray, List.set_cons_zero, List.set_cons_succ]
    refine seqR_at (o := ?_) ?_ ?_
    rotate_left
    · (conv => (lhs; whnf; arg 1; whnf))
    refine seqR_y (v := ?_) (by rfl) (fun W hW => ?_) ?_
    rotate_left
    · go_simp; try with_reducible rfl
    try simp only [Act.put, List.setIfInBounds_toArray, List.set_cons_zero, List.set_cons_succ]
    refine seqR_at (o := ?_) ?_ ?_
    rotate_left
    · (conv => (lhs; whnf; arg 1; whnf))
    refine seqR_y (v := ?_) (by rfl) (fun W hW => ?_) ?_
    rotate_left
    · go_simp; try with_reducible rfl
    try simp only [Act.put, List.setIfInBounds_toArray, List.set_cons_zero, List.set_cons_succ]
    refine seqR_at (o := ?_) ?_ ?_
    rotate_left
    · (conv => (lhs; whnf; arg 1; whnf))
    refine seqR_y (v := ?_) (by rfl) (fun W hW => ?_) ?_
    rotate_left
    · go_simp; try with_reducible rfl
    try simp only [Act.put, List.setIfInBounds_toArray, List.set_cons_zero, List.set_cons_succ]
    refine seqR_at (o := ?_) ?_ ?_
    rotate_left
    · (conv => (lhs; whnf; arg 1; whnf))
    refine seqR_y (v := ?_) (by rfl) (fun W hW => ?_) ?_
    rotate_left
    · (refine exec_ldN (x := .tmp 5) ntNat ?_ ?_ (x_3.out.below hW)) <;> rfl
    try simp only [Act.put, List.setIfInBounds_toArray, List.set_cons_zero, List.set_cons_succ]
    refine seqR_at (o := ?_) ?_ ?_
    rotate_left
    · (conv => (lhs; whnf; arg 1; whnf))
    refine seqR_y (v := ?_) (by rfl) (fun W hW => ?_) ?_
    rotate_left
    · (refine exec_ldN (x := .tmp 8) ntNat ?_ ?_ (y_3.out.below hW)) <;> rfl
    try simp only [Act.put, List.setIfInBounds_toArray, List.set_cons_zero, List.set_cons_succ]
    refine seqR_at (o := ?_) ?_ ?_
    rotate_left
    · (conv => (lhs; whnf; arg 1; whnf))
    refine seqR_y (v := ?_) (by rfl) (fun W hW => ?_) ?_
    rotate_left
    · go_simp; try with_reducible rfl
    try simp only [Act.put, List.setIfInBounds_toArray, List.set_cons_zero, List.set_cons_succ]
    refine seqR_at (o := ?_) ?_ ?_
    rotate_left
    · (conv => (lhs; whnf; arg 1; whnf))
    refine seqR_y (v := ?_) (by rfl) (fun W hW => ?_) ?_
    rotate_left
    · go_simp; try with_reducible rfl
    try simp only [Act.put, List.setIfInBounds_toArray, List.set_cons_zero, List.set_cons_succ]
    refine seqR_at (o := ?_) ?_ ?_
    rotate_left
    · (conv => (lhs; whnf; arg 1; whnf))
    refine seqR_c (by rfl) (fun K hK => ?_)
    go_simp
    refine (compare_ok _ HFn.out HFm.out HCmp.out).mono ?_
    rintro e p4 ⟨rfl, hb⟩
    have p_4 := Lib.hid (p_3.out.below hb)
    have x_4 := Lib.hid (x_3.out.below hb)
    have q_4 := Lib.hid (q_3.out.below hb)
    have y_4 := Lib.hid (y_3.out.below hb)
    have W_4 := Lib.hid (W_3.out.trans (hb.mono W_3.out.size))
    refine hK _ _ hb ?_
    clear hK K hb p_3 x_3 q_3 y_3 W_3
    try simp only [Act.put, List.setIfInBounds_toArray, List.set_cons_zero, List.set_cons_succ]
    refine seqR_at (o := ?_) ?_ ?_
    rotate_left
    · (conv => (lhs; whnf; arg 1; whnf))
    refine seqR_c (by rfl) (fun K hK => ?_)
    go_simp
    refine (rcompare_ok _ _ _ p_4.out q_4.out HSn.out HSm.out HCmp.out).mono ?_
    rintro e p5 ⟨rfl, rfl⟩
    refine hK _ _ (later_refl _) ?_
    clear hK K
    try simp only [Act.put, List.setIfInBounds_toArray, List.set_cons_zero, List.set_cons_succ]
    refine seqR_at (o := ?_) ?_ ?_
    rotate_left
    · (conv => (lhs; whnf; arg 1; whnf))
    refine seqR_y (v := ?_) (by rfl) (fun W hW => ?_) ?_
    rotate_left
    · go_simp; try with_reducible rfl
    try simp only [Act.put, List.setIfInBounds_toArray, List.set_cons_zero, List.set_cons_succ]
    refine seqR_at (o := ?_) ?_ ?_
    rotate_left
    · (conv => (lhs; whnf; arg 1; whnf))
    refine seqR_y (v := ?_) (by rfl) (fun W hW => ?_) ?_
    rotate_left
    · go_simp; try with_reducible rfl
    try simp only [Act.put, List.setIfInBounds_toArray, List.set_cons_zero, List.set_cons_succ]
    refine seqR_at (o := ?_) ?_ ?_
    rotate_left
    · (conv => (lhs; whnf; arg 1; whnf))
    refine seqR_y (v := ?_) (by rfl) (fun W hW => ?_) ?_
    rotate_left
    · go_simp; try with_reducible rfl
    try simp only [Act.put, List.setIfInBounds_toArray, List.set_cons_zero, List.set_cons_succ]
    refine seqR_at (o := ?_) ?_ ?_
    rotate_left
    · (conv => (lhs; whnf; arg 1; whnf))
    refine seqR_y (v := ?_) (by rfl) (fun W hW => ?_) ?_
    rotate_left
    · (refine exec_ldN (x := .tmp 5) ntNat ?_ ?_ (x_4.out.below hW)) <;> rfl
    try simp only [Act.put, List.setIfInBounds_toArray, List.set_cons_zero, List.set_cons_succ]
    refine seqR_at (o := ?_) ?_ ?_
    rotate_left
    · (conv => (lhs; whnf; arg 1; whnf))
    refine seqR_y (v := ?_) (by rfl) (fun W hW => ?_) ?_
    rotate_left
    · (refine exec_ldN (x := .tmp 8) ntNat ?_ ?_ (y_4.out.below hW)) <;> rfl
    try simp only [Act.put, List.setIfInBounds_toArray, List.set_cons_zero, List.set_cons_succ]
    refine seqR_at (o := ?_) ?_ ?_
    rotate_left
    · (conv => (lhs; whnf; arg 1; whnf))
    refine seqR_y (v := ?_) (by rfl) (fun W hW => ?_) ?_
    rotate_left
    · (refine exec_eqN (x := .tmp 53) (y := .tmp 54) (t' := 29) (a := n) (b := m) ?_ ?_ ?_ HFn.out HFm.out) <;> rfl
    simp only [HQ.out]
    try simp only [Act.put, List.setIfInBounds_toArray, List.set_cons_zero, List.set_cons_succ]
    refine seqR_at (o := ?_) ?_ ?_
    rotate_left
    · (conv => (lhs; whnf; arg 1; whnf))
    refine seqR_y (v := ?_) (by rfl) (fun W hW => ?_) ?_
    rotate_left
    · go_simp; try with_reducible rfl
    try simp only [Act.put, List.setIfInBounds_toArray, List.set_cons_zero, List.set_cons_succ]
    refine seqR_at (o := ?_) ?_ ?_
    rotate_left
    · (conv => (lhs; whnf; arg 1; whnf))
    refine seqR_y (v := ?_) (by rfl) (fun W hW => ?_) ?_
    rotate_left
    · go_simp; try with_reducible rfl
    try simp only [Act.put, List.setIfInBounds_toArray, List.set_cons_zero, List.set_cons_succ]
    refine seqR_at (o := ?_) ?_ ?_
    rotate_left
    · (conv => (lhs; whnf; arg 1; whnf))
    refine seqR_c (by rfl) (fun K hK => ?_)
    go_simp
    refine (rcompare_ok _ _ _ p_4.out q_4.out HSn.out HSm.out HCmp.out).mono ?_
    rintro e p6 ⟨rfl, rfl⟩
    refine hK _ _ (later_refl _) ?_
    clear hK K
    try simp only [Act.put, List.setIfInBounds_toArray, List.set_cons_zero, List.set_cons_succ]
    refine seqR_at (o := ?_) ?_ ?_
    rotate_left
    · (conv => (lhs; whnf; arg 1; whnf))
    refine seqR_y (v := ?_) (by rfl) (fun W hW => ?_) ?_
    rotate_left
    · go_simp; try with_reducible rfl
    try simp only [Act.put, List.setIfInBounds_toArray, List.set_cons_zero, List.set_cons_succ]
    refine seqR_at (o := ?_) ?_ ?_
    rotate_left
    · (conv => (lhs; whnf; arg 1; whnf))
    refine seqR_y (v := ?_) (by rfl) (fun W hW => ?_) ?_
    rotate_left
    · go_simp; try with_reducible rfl
    try simp only [Act.put, List.setIfInBounds_toArray, List.set_cons_zero, List.set_cons_succ]
    refine seqR_at (o := ?_) ?_ ?_
    rotate_left
    · (conv => (lhs; whnf; arg 1; whnf))
    refine seqR_y (v := ?_) (by rfl) (fun W hW => ?_) ?_
    rotate_left
    · go_simp; try with_reducible rfl
    try simp only [Act.put, List.setIfInBounds_toArray, List.set_cons_zero, List.set_cons_succ]
    refine seqR_end ?_
    go_wp2_with (first | (refine wpl_ldN ntNat rfl rfl rfl x_4.out ?_) | (refine wpl_ldN_g ntNat rfl rfl rfl x_4.out ?_) | (refine wpl_ldN ntNat rfl rfl rfl y_4.out ?_) | (refine wpl_ldN_g ntNat rfl rfl rfl y_4.out ?_))
    refine (add_ok _ HFn.out HFm.out HP.out HFs.out).mono ?_
    rintro e p7 ⟨rfl, hb⟩
    have XT0_7 := Lib.hid (NatAt.zero p7)
    have XA_7 := Lib.hid (below_zero hb hb.size)
    have hsz_7 : Hid (p4.heap.size ≤ p7.heap.size) := Lib.hid hb.size
    clear hb
    go_wp2_with (first | (refine wpl_stN ntNat rfl rfl rfl rfl XT0_7.out ?_; intro q7 hn hg; have XB0_7 := Lib.hid (XA_7.out.grown hg XA_7.out.size (fun j e => by injection e with e; rw [← e]; have := hsz_7.out; omega)); have XS00_7 := Lib.hid hn; have p_7 := Lib.hid (p_4.out.below XB0_7.out); have x_7 := Lib.hid (x_4.out.below XB0_7.out); have q_7 := Lib.hid (q_4.out.below XB0_7.out); have y_7 := Lib.hid (y_4.out.below XB0_7.out); have W_7 := Lib.hid (W_4.out.trans (XB0_7.out.mono W_4.out.size)); have z_7 := XS00_7; clear hn hg p_4 x_4 q_4 y_4 W_4 XT0_7 XA_7 XS00_7 XB0_7 hsz_7) | (refine wpl_ldN ntNat rfl rfl rfl x_7.out ?_) | (refine wpl_ldN_g ntNat rfl rfl rfl x_7.out ?_) | (refine wpl_ldN ntNat rfl rfl rfl y_7.out ?_) | (refine wpl_ldN_g ntNat rfl rfl rfl y_7.out ?_) | (refine wpl_ldN ntNat rfl rfl rfl z_7.out ?_) | (refine wpl_ldN_g ntNat rfl rfl rfl z_7.out ?_))
    refine (sub_ok _ HFn.out HFm.out (by have := HCN.out; omega) HT.out).mono ?_
    rintro e p8 ⟨rfl, hb⟩
    have XT0_8 := Lib.hid (NatAt.zero p8)
    have XA_8 := Lib.hid (below_zero hb hb.size)
    have hsz_8 : Hid (q7.heap.size ≤ p8.heap.size) := Lib.hid hb.size
    clear hb
    go_wp2_with (first | (refine wpl_stN ntNat rfl rfl rfl rfl XT0_8.out ?_; intro q8 hn hg; have XB0_8 := Lib.hid (XA_8.out.grown hg XA_8.out.size (fun j e => by injection e with e; rw [← e]; have := hsz_8.out; omega)); have XS00_8 := Lib.hid hn; have p_8 := Lib.hid (p_7.out.below XB0_8.out); have x_8 := Lib.hid (x_7.out.below XB0_8.out); have q_8 := Lib.hid (q_7.out.below XB0_8.out); have y_8 := Lib.hid (y_7.out.below XB0_8.out); have z_8 := Lib.hid (z_7.out.below XB0_8.out); have W_8 := Lib.hid (W_7.out.trans (XB0_8.out.mono W_7.out.size)); have u_8 := XS00_8; clear hn hg p_7 x_7 q_7 y_7 z_7 W_7 XT0_8 XA_8 XS00_8 XB0_8 hsz_8) | (refine wpl_ldN ntNat rfl rfl rfl x_8.out ?_) | (refine wpl_ldN_g ntNat rfl rfl rfl x_8.out ?_) | (refine wpl_ldN ntNat rfl rfl rfl y_8.out ?_) | (refine wpl_ldN_g ntNat rfl rfl rfl y_8.out ?_) | (refine wpl_ldN ntNat rfl rfl rfl z_8.out ?_) | (refine wpl_ldN_g ntNat rfl rfl rfl z_8.out ?_) | (refine wpl_ldN ntNat rfl rfl rfl u_8.out ?_) | (refine wpl_ldN_g ntNat rfl rfl rfl u_8.out ?_))
    clear x_8
    clear y_8
    refine (radd_ok _ _ _ p_8.out q_8.out HSn.out HSm.out HP.out).mono ?_
    rintro e p9 ⟨v9, rfl, hv, hb, ho9⟩
    have p_9 := Lib.hid (p_8.out.below hb)
    have q_9 := Lib.hid (q_8.out.below hb)
    have z_9 := Lib.hid (z_8.out.below hb)
    have u_9 := Lib.hid (u_8.out.below hb)
    have W_9 := Lib.hid (W_8.out.trans (hb.mono W_8.out.size))
    clear hb ho9 p_8 q_8 z_8 u_8 W_8
    have r_9 := Lib.hid hv
    clear hv
    go_wp2_with (first | (refine wpl_ldN ntNat rfl rfl rfl z_9.out ?_) | (refine wpl_ldN_g ntNat rfl rfl rfl z_9.out ?_) | (refine wpl_ldN ntNat rfl rfl rfl u_9.out ?_) | (refine wpl_ldN_g ntNat rfl rfl rfl u_9.out ?_))
    refine (rfits_ok _ _ r_9.out HSs.out (c := true) (by simp [HFs.out])).mono ?_
    rintro e p10 ⟨rfl, rfl⟩
    go_wp2_with (first | (refine wpl_ldN ntNat rfl rfl rfl z_9.out ?_) | (refine wpl_ldN_g ntNat rfl rfl rfl z_9.out ?_) | (refine wpl_ldN ntNat rfl rfl rfl u_9.out ?_) | (refine wpl_ldN_g ntNat rfl rfl rfl u_9.out ?_))
    refine (same_ok _ _ HFs.out r_9.out HSs.out (decide_eq_true rfl)).mono ?_
    rintro e p11 ⟨rfl, hb⟩
    have p_11 := Lib.hid (p_9.out.below hb)
    have q_11 := Lib.hid (q_9.out.below hb)
    have z_11 := Lib.hid (z_9.out.below hb)
    have u_11 := Lib.hid (u_9.out.below hb)
    have r_11 := Lib.hid (r_9.out.below hb)
    have W_11 := Lib.hid (W_9.out.trans (hb.mono W_9.out.size))
    clear hb p_9 q_9 z_9 u_9 r_9 W_9
    go_wp2_with (first | (refine wpl_ldN ntNat rfl rfl rfl z_11.out ?_) | (refine wpl_ldN_g ntNat rfl rfl rfl z_11.out ?_) | (refine wpl_ldN ntNat rfl rfl rfl u_11.out ?_) | (refine wpl_ldN_g ntNat rfl rfl rfl u_11.out ?_))
    clear z_11
    clear r_11
    refine (rcompare_ok _ _ _ p_11.out q_11.out HSn.out HSm.out HCmp.out).mono ?_
    rintro e p12 ⟨rfl, rfl⟩
    go_wp2_with (first | (refine wpl_ldN ntNat rfl rfl rfl u_11.out ?_) | (refine wpl_ldN_g ntNat rfl rfl rfl u_11.out ?_))
    refine region_road Later [(0, true), (1, true), (2, true), (3, true), (4, true), (5, true), (6, false), (7, false), (8, true), (9, true), (10, false), (11, true), (12, true)] (by kernel_rfl) (by kernel_rfl) (by kernel_rfl) (by kernel_rfl) (by kernel_rfl) (by kernel_rfl) later_refl later_trans (fun _ _ d _ _ h => by cases d <;> exact h) ?_
    have p_13 := Lib.hid (p_11.out.below ((Below.refl p11.heap.size p11).drew))
    have q_13 := Lib.hid (q_11.out.below ((Below.refl p11.heap.size p11).drew))
    have u_13 := Lib.hid (u_11.out.below ((Below.refl p11.heap.size p11).drew))
    have W_13 := Lib.hid (W_11.out.trans (((Below.refl p11.heap.size p11).drew).mono W_11.out.size))
    clear p_11 q_11 u_11 W_11
    generalize p11.drew = d13 at p_13 q_13 u_13 W_13 ⊢
    refine seqR_at (o := ?_) ?_ ?_
    rotate_left
    · (conv => (lhs; whnf; arg 1; whnf))
    refine seqR_y (v := ?_) (by rfl) (fun W hW => ?_) ?_
    rotate_left
    · go_simp; try with_reducible rfl
    try simp only [Act.put, List.setIfInBounds_toArray, List.set_cons_zero, List.set_cons_succ]
    refine seqR_at (o := ?_) ?_ ?_
    rotate_left
    · (conv => (lhs; whnf; arg 1; whnf))
    refine seqR_y (v := ?_) (by rfl) (fun W hW => ?_) ?_
    rotate_left
    · go_simp; try with_reducible rfl
    try simp only [Act.put, List.setIfInBounds_toArray, List.set_cons_zero, List.set_cons_succ]
    refine seqR_at (o := ?_) ?_ ?_
    rotate_left
    · (conv => (lhs; whnf; arg 1; whnf))
    refine seqR_y (v := ?_) (by rfl) (fun W hW => ?_) ?_
    rotate_left
    · go_simp; try with_reducible rfl
    try simp only [Act.put, List.setIfInBounds_toArray, List.set_cons_zero, List.set_cons_succ]
    refine seqR_at (o := ?_) ?_ ?_
    rotate_left
    · (conv => (lhs; whnf; arg 1; whnf))
    refine seqR_y (v := ?_) (by rfl) (fun W hW => ?_) ?_
    rotate_left
    · (refine exec_ldN (x := .tmp 13) ntNat ?_ ?_ (u_13.out.below hW)) <;> rfl
    try simp only [Act.put, List.setIfInBounds_toArray, List.set_cons_zero, List.set_cons_succ]
    refine seqR_at (o := ?_) ?_ ?_
    rotate_left
    · (conv => (lhs; whnf; arg 1; whnf))
    refine seqR_y (v := ?_) (by rfl) (fun W hW => ?_) ?_
    rotate_left
    · go_simp; try with_reducible rfl
    try simp only [Act.put, List.setIfInBounds_toArray, List.set_cons_zero, List.set_cons_succ]
    refine seqR_at (o := ?_) ?_ ?_
    rotate_left
    · (conv => (lhs; whnf; arg 1; whnf))
    refine seqR_y (v := ?_) (by rfl) (fun W hW => ?_) ?_
    rotate_left
    · go_simp; try with_reducible rfl
    try simp only [Act.put, List.setIfInBounds_toArray, List.set_cons_zero, List.set_cons_succ]
    refine seqR_at (o := ?_) ?_ ?_
    rotate_left
    · (conv => (lhs; whnf; arg 1; whnf))
    refine seqR_c (by rfl) (fun K hK => ?_)
    go_simp
    refine (rsub_ok _ _ _ p_13.out q_13.out HSn.out HSm.out (by have := HCN.out; omega) HT.out).mono ?_
    rintro e p14 ⟨v14, rfl, hv, hb, _⟩
    have p_14 := Lib.hid (p_13.out.below hb)
    have q_14 := Lib.hid (q_13.out.below hb)
    have u_14 := Lib.hid (u_13.out.below hb)
    have W_14 := Lib.hid (W_13.out.trans (hb.mono W_13.out.size))
    refine hK _ _ hb ?_
    clear hK K hb p_13 q_13 u_13 W_13
    have r_14 := Lib.hid hv; clear hv
    try simp only [Act.put, List.setIfInBounds_toArray, List.set_cons_zero, List.set_cons_succ]
    refine seqR_at (o := ?_) ?_ ?_
    rotate_left
    · (conv => (lhs; whnf; arg 1; whnf))
    refine seqR_c (by rfl) (fun K hK => ?_)
    go_simp
    refine (same_ok _ _ HFt.out r_14.out HSt.out (decide_eq_true rfl)).mono ?_
    rintro e p15 ⟨rfl, hb⟩
    have p_15 := Lib.hid (p_14.out.below hb)
    have q_15 := Lib.hid (q_14.out.below hb)
    have u_15 := Lib.hid (u_14.out.below hb)
    have r_15 := Lib.hid (r_14.out.below hb)
    have W_15 := Lib.hid (W_14.out.trans (hb.mono W_14.out.size))
    refine hK _ _ hb ?_
    clear hK K hb p_14 q_14 u_14 r_14 W_14
    try simp only [Act.put, List.setIfInBounds_toArray, List.set_cons_zero, List.set_cons_succ]
    refine seqR_at (o := ?_) ?_ ?_
    rotate_left
    · (conv => (lhs; whnf; arg 1; whnf))
    refine seqR_y (v := ?_) (by rfl) (fun W hW => ?_) ?_
    rotate_left
    · go_simp; try with_reducible rfl
    try simp only [Act.put, List.setIfInBounds_toArray, List.set_cons_zero, List.set_cons_succ]
    refine seqR_at (o := ?_) ?_ ?_
    rotate_left
    · (conv => (lhs; whnf; arg 1; whnf))
    refine seqR_y (v := ?_) (by rfl) (fun W hW => ?_) ?_
    rotate_left
    · go_simp; try with_reducible rfl
    try simp only [Act.put, List.setIfInBounds_toArray, List.set_cons_zero, List.set_cons_succ]
    refine seqR_at (o := ?_) ?_ ?_
    rotate_left
    · (conv => (lhs; whnf; arg 1; whnf))
    refine seqR_c (by rfl) (fun K hK => ?_)
    go_simp
    refine (known_any _).mono ?_
    rintro e p16 ⟨rfl, hb⟩
    have p_16 := Lib.hid (p_15.out.below hb)
    have q_16 := Lib.hid (q_15.out.below hb)
    have u_16 := Lib.hid (u_15.out.below hb)
    have r_16 := Lib.hid (r_15.out.below hb)
    have W_16 := Lib.hid (W_15.out.trans (hb.mono W_15.out.size))
    refine hK _ _ hb ?_
    clear hK K hb p_15 q_15 u_15 r_15 W_15
    try simp only [Act.put, List.setIfInBounds_toArray, List.set_cons_zero, List.set_cons_succ]
    refine seqR_at (o := ?_) ?_ ?_
    rotate_left
    · (conv => (lhs; whnf; arg 1; whnf))
    refine seqR_y (v := ?_) (by rfl) (fun W hW => ?_) ?_
    rotate_left
    · go_simp; try with_reducible rfl
    try simp only [Act.put, List.setIfInBounds_toArray, List.set_cons_zero, List.set_cons_succ]
    refine seqR_at (o := ?_) ?_ ?_
    rotate_left
    · (conv => (lhs; whnf; arg 1; whnf))
    refine seqR_y (v := ?_) (by rfl) (fun W hW => ?_) ?_
    rotate_left
    · go_simp; try with_reducible rfl
    try simp only [Act.put, List.setIfInBounds_toArray, List.set_cons_zero, List.set_cons_succ]
    refine seqR_end ?_
    go_wp2_with (first | (refine wpl_ldN ntNat rfl rfl rfl u_16.out ?_) | (refine wpl_ldN_g ntNat rfl rfl rfl u_16.out ?_))
    go_ret
    exact ⟨rfl, W_16.out⟩
  · have HFs := Lib.hid hf
    clear hf
    go_enter Try.func7, Try.ntmps7
    go_wp2_with fail
    refine (made_ok _ _ HA.out HLn.out HEn.out HFn.out).mono ?_
    rintro e p1 ⟨v1, rfl, hv, hb⟩
    have XT0_1 := Lib.hid (NatAt.zero p1)
    have XA_1 := Lib.hid (below_zero hb hb.size)
    have hsz_1 : Hid (w.heap.size ≤ p1.heap.size) := Lib.hid hb.size
    have XQ_1 := Lib.hid (below_zero (Below.refl p1.heap.size p1) (Nat.le_refl _))
    have XMp_1 := Lib.hid hv
    clear hv
    clear hb
    go_wp2_with (first | (refine wpl_stN ntNat rfl rfl rfl rfl XT0_1.out ?_; intro q1 hn hg; have XB0_1 := Lib.hid (XA_1.out.grown hg XA_1.out.size (fun j e => by injection e with e; rw [← e]; have := hsz_1.out; omega)); have XS00_1 := Lib.hid hn; have hq := XQ_1.out.grown hg XQ_1.out.size (fun j e => by injection e with e; rw [← e]; exact Nat.le_refl _); have A_1 := Lib.hid (HA.out.below XB0_1.out); have B_1 := Lib.hid (HB.out.below XB0_1.out); have W_1 := Lib.hid (XB0_1.out); have p_1 := Lib.hid (XMp_1.out.below hq); have x_1 := XS00_1; clear hn hg HA HB XMp_1 hq XQ_1 XT0_1 XA_1 XS00_1 XB0_1 hsz_1) | (refine wpl_ldN ntNat rfl rfl rfl x_1.out ?_) | (refine wpl_ldN_g ntNat rfl rfl rfl x_1.out ?_))
    refine (made_ok _ _ B_1.out HLm.out HEm.out HFm.out).mono ?_
    rintro e p2 ⟨v2, rfl, hv, hb⟩
    have XT0_2 := Lib.hid (NatAt.zero p2)
    have XA_2 := Lib.hid (below_zero hb hb.size)
    have hsz_2 : Hid (q1.heap.size ≤ p2.heap.size) := Lib.hid hb.size
    have XQ_2 := Lib.hid (below_zero (Below.refl p2.heap.size p2) (Nat.le_refl _))
    have XMq_2 := Lib.hid hv
    clear hv
    clear hb
    go_wp2_with (first | (refine wpl_stN ntNat rfl rfl rfl rfl XT0_2.out ?_; intro q2 hn hg; have XB0_2 := Lib.hid (XA_2.out.grown hg XA_2.out.size (fun j e => by injection e with e; rw [← e]; have := hsz_2.out; omega)); have XS00_2 := Lib.hid hn; have hq := XQ_2.out.grown hg XQ_2.out.size (fun j e => by injection e with e; rw [← e]; exact Nat.le_refl _); have A_2 := Lib.hid (A_1.out.below XB0_2.out); have B_2 := Lib.hid (B_1.out.below XB0_2.out); have p_2 := Lib.hid (p_1.out.below XB0_2.out); have x_2 := Lib.hid (x_1.out.below XB0_2.out); have W_2 := Lib.hid (W_1.out.trans (XB0_2.out.mono W_1.out.size)); have q_2 := Lib.hid (XMq_2.out.below hq); have y_2 := XS00_2; clear hn hg A_1 B_1 p_1 x_1 W_1 XMq_2 hq XQ_2 XT0_2 XA_2 XS00_2 XB0_2 hsz_2) | (refine wpl_ldN ntNat rfl rfl rfl x_2.out ?_) | (refine wpl_ldN_g ntNat rfl rfl rfl x_2.out ?_) | (refine wpl_ldN ntNat rfl rfl rfl y_2.out ?_) | (refine wpl_ldN_g ntNat rfl rfl rfl y_2.out ?_))
    clear A_2
    clear B_2
    refine region_road Later [(0, true), (1, true), (2, true), (3, true), (4, true), (5, true), (6, true), (7, true), (8, true), (10, true), (11, true), (9, false), (12, false), (13, true), (14, true), (15, true), (16, true), (17, true), (18, true), (19, true), (20, true), (21, false), (22, true), (23, true), (24, true)] (by kernel_rfl) (by kernel_rfl) (by kernel_rfl) (by kernel_rfl) (by kernel_rfl) (by kernel_rfl) later_refl later_trans (fun _ _ d _ _ h => by cases d <;> exact h) ?_
    have p_3 := Lib.hid (p_2.out.below ((Below.refl q2.heap.size q2).drew))
    have x_3 := Lib.hid (x_2.out.below ((Below.refl q2.heap.size q2).drew))
    have q_3 := Lib.hid (q_2.out.below ((Below.refl q2.heap.size q2).drew))
    have y_3 := Lib.hid (y_2.out.below ((Below.refl q2.heap.size q2).drew))
    have W_3 := Lib.hid (W_2.out.trans (((Below.refl q2.heap.size q2).drew).mono W_2.out.size))
    clear p_2 x_2 q_2 y_2 W_2
    generalize q2.drew = d3 at p_3 x_3 q_3 y_3 W_3 ⊢
    refine seqR_at (o := ?_) ?_ ?_
    rotate_left
    · (conv => (lhs; whnf; arg 1; whnf))
    refine seqR_y (v := ?_) (by rfl) (fun W hW => ?_) ?_
    rotate_left
    · go_simp; try with_reducible rfl
    try simp only [Act.put, List.setIfInBounds_toArray, List.set_cons_zero, List.set_cons_succ]
    refine seqR_at (o := ?_) ?_ ?_
    rotate_left
    · (conv => (lhs; whnf; arg 1; whnf))
    refine seqR_y (v := ?_) (by rfl) (fun W hW => ?_) ?_
    rotate_left
    · go_simp; try with_reducible rfl
    try simp only [Act.put, List.setIfInBounds_toArray, List.set_cons_zero, List.set_cons_succ]
    refine seqR_at (o := ?_) ?_ ?_
    rotate_left
    · (conv => (lhs; whnf; arg 1; whnf))
    refine seqR_y (v := ?_) (by rfl) (fun W hW => ?_) ?_
    rotate_left
    · go_simp; try with_reducible rfl
    try simp only [Act.put, List.setIfInBounds_toArray, List.set_cons_zero, List.set_cons_succ]
    refine seqR_at (o := ?_) ?_ ?_
    rotate_left
    · (conv => (lhs; whnf; arg 1; whnf))
    refine seqR_y (v := ?_) (by rfl) (fun W hW => ?_) ?_
    rotate_left
    · go_simp; try with_reducible rfl
    try simp only [Act.put, List.setIfInBounds_toArray, List.set_cons_zero, List.set_cons_succ]
    refine seqR_at (o := ?_) ?_ ?_
    rotate_left
    · (conv => (lhs; whnf; arg 1; whnf))
    refine seqR_y (v := ?_) (by rfl) (fun W hW => ?_) ?_
    rotate_left
    · go_simp; try with_reducible rfl
    try simp only [Act.put, List.setIfInBounds_toArray, List.set_cons_zero, List.set_cons_succ]
    refine seqR_at (o := ?_) ?_ ?_
    rotate_left
    · (conv => (lhs; whnf; arg 1; whnf))
    refine seqR_y (v := ?_) (by rfl) (fun W hW => ?_) ?_
    rotate_left
    · go_simp; try with_reducible rfl
    try simp only [Act.put, List.setIfInBounds_toArray, List.set_cons_zero, List.set_cons_succ]
    refine seqR_at (o := ?_) ?_ ?_
    rotate_left
    · (conv => (lhs; whnf; arg 1; whnf))
    refine seqR_y (v := ?_) (by rfl) (fun W hW => ?_) ?_
    rotate_left
    · go_simp; try with_reducible rfl
    try simp only [Act.put, List.setIfInBounds_toArray, List.set_cons_zero, List.set_cons_succ]
    refine seqR_at (o := ?_) ?_ ?_
    rotate_left
    · (conv => (lhs; whnf; arg 1; whnf))
    refine seqR_y (v := ?_) (by rfl) (fun W hW => ?_) ?_
    rotate_left
    · (refine exec_ldN (x := .tmp 5) ntNat ?_ ?_ (x_3.out.below hW)) <;> rfl
    try simp only [Act.put, List.setIfInBounds_toArray, List.set_cons_zero, List.set_cons_succ]
    refine seqR_at (o := ?_) ?_ ?_
    rotate_left
    · (conv => (lhs; whnf; arg 1; whnf))
    refine seqR_y (v := ?_) (by rfl) (fun W hW => ?_) ?_
    rotate_left
    · (refine exec_ldN (x := .tmp 8) ntNat ?_ ?_ (y_3.out.below hW)) <;> rfl
    try simp only [Act.put, List.setIfInBounds_toArray, List.set_cons_zero, List.set_cons_succ]
    refine seqR_at (o := ?_) ?_ ?_
    rotate_left
    · (conv => (lhs; whnf; arg 1; whnf))
    refine seqR_y (v := ?_) (by rfl) (fun W hW => ?_) ?_
    rotate_left
    · go_simp; try with_reducible rfl
    try simp only [Act.put, List.setIfInBounds_toArray, List.set_cons_zero, List.set_cons_succ]
    refine seqR_at (o := ?_) ?_ ?_
    rotate_left
    · (conv => (lhs; whnf; arg 1; whnf))
    refine seqR_y (v := ?_) (by rfl) (fun W hW => ?_) ?_
    rotate_left
    · go_simp; try with_reducible rfl
    try simp only [Act.put, List.setIfInBounds_toArray, List.set_cons_zero, List.set_cons_succ]
    refine seqR_at (o := ?_) ?_ ?_
    rotate_left
    · (conv => (lhs; whnf; arg 1; whnf))
    refine seqR_c (by rfl) (fun K hK => ?_)
    go_simp
    refine (compare_ok _ HFn.out HFm.out HCmp.out).mono ?_
    rintro e p4 ⟨rfl, hb⟩
    have p_4 := Lib.hid (p_3.out.below hb)
    have x_4 := Lib.hid (x_3.out.below hb)
    have q_4 := Lib.hid (q_3.out.below hb)
    have y_4 := Lib.hid (y_3.out.below hb)
    have W_4 := Lib.hid (W_3.out.trans (hb.mono W_3.out.size))
    refine hK _ _ hb ?_
    clear hK K hb p_3 x_3 q_3 y_3 W_3
    try simp only [Act.put, List.setIfInBounds_toArray, List.set_cons_zero, List.set_cons_succ]
    refine seqR_at (o := ?_) ?_ ?_
    rotate_left
    · (conv => (lhs; whnf; arg 1; whnf))
    refine seqR_c (by rfl) (fun K hK => ?_)
    go_simp
    refine (rcompare_ok _ _ _ p_4.out q_4.out HSn.out HSm.out HCmp.out).mono ?_
    rintro e p5 ⟨rfl, rfl⟩
    refine hK _ _ (later_refl _) ?_
    clear hK K
    try simp only [Act.put, List.setIfInBounds_toArray, List.set_cons_zero, List.set_cons_succ]
    refine seqR_at (o := ?_) ?_ ?_
    rotate_left
    · (conv => (lhs; whnf; arg 1; whnf))
    refine seqR_y (v := ?_) (by rfl) (fun W hW => ?_) ?_
    rotate_left
    · go_simp; try with_reducible rfl
    try simp only [Act.put, List.setIfInBounds_toArray, List.set_cons_zero, List.set_cons_succ]
    refine seqR_at (o := ?_) ?_ ?_
    rotate_left
    · (conv => (lhs; whnf; arg 1; whnf))
    refine seqR_y (v := ?_) (by rfl) (fun W hW => ?_) ?_
    rotate_left
    · go_simp; try with_reducible rfl
    try simp only [Act.put, List.setIfInBounds_toArray, List.set_cons_zero, List.set_cons_succ]
    refine seqR_at (o := ?_) ?_ ?_
    rotate_left
    · (conv => (lhs; whnf; arg 1; whnf))
    refine seqR_y (v := ?_) (by rfl) (fun W hW => ?_) ?_
    rotate_left
    · go_simp; try with_reducible rfl
    try simp only [Act.put, List.setIfInBounds_toArray, List.set_cons_zero, List.set_cons_succ]
    refine seqR_at (o := ?_) ?_ ?_
    rotate_left
    · (conv => (lhs; whnf; arg 1; whnf))
    refine seqR_y (v := ?_) (by rfl) (fun W hW => ?_) ?_
    rotate_left
    · (refine exec_ldN (x := .tmp 5) ntNat ?_ ?_ (x_4.out.below hW)) <;> rfl
    try simp only [Act.put, List.setIfInBounds_toArray, List.set_cons_zero, List.set_cons_succ]
    refine seqR_at (o := ?_) ?_ ?_
    rotate_left
    · (conv => (lhs; whnf; arg 1; whnf))
    refine seqR_y (v := ?_) (by rfl) (fun W hW => ?_) ?_
    rotate_left
    · (refine exec_ldN (x := .tmp 8) ntNat ?_ ?_ (y_4.out.below hW)) <;> rfl
    try simp only [Act.put, List.setIfInBounds_toArray, List.set_cons_zero, List.set_cons_succ]
    refine seqR_at (o := ?_) ?_ ?_
    rotate_left
    · (conv => (lhs; whnf; arg 1; whnf))
    refine seqR_y (v := ?_) (by rfl) (fun W hW => ?_) ?_
    rotate_left
    · (refine exec_eqN (x := .tmp 53) (y := .tmp 54) (t' := 29) (a := n) (b := m) ?_ ?_ ?_ HFn.out HFm.out) <;> rfl
    simp only [HQ.out]
    try simp only [Act.put, List.setIfInBounds_toArray, List.set_cons_zero, List.set_cons_succ]
    refine seqR_at (o := ?_) ?_ ?_
    rotate_left
    · (conv => (lhs; whnf; arg 1; whnf))
    refine seqR_y (v := ?_) (by rfl) (fun W hW => ?_) ?_
    rotate_left
    · go_simp; try with_reducible rfl
    try simp only [Act.put, List.setIfInBounds_toArray, List.set_cons_zero, List.set_cons_succ]
    refine seqR_at (o := ?_) ?_ ?_
    rotate_left
    · (conv => (lhs; whnf; arg 1; whnf))
    refine seqR_y (v := ?_) (by rfl) (fun W hW => ?_) ?_
    rotate_left
    · go_simp; try with_reducible rfl
    try simp only [Act.put, List.setIfInBounds_toArray, List.set_cons_zero, List.set_cons_succ]
    refine seqR_at (o := ?_) ?_ ?_
    rotate_left
    · (conv => (lhs; whnf; arg 1; whnf))
    refine seqR_c (by rfl) (fun K hK => ?_)
    go_simp
    refine (rcompare_ok _ _ _ p_4.out q_4.out HSn.out HSm.out HCmp.out).mono ?_
    rintro e p6 ⟨rfl, rfl⟩
    refine hK _ _ (later_refl _) ?_
    clear hK K
    try simp only [Act.put, List.setIfInBounds_toArray, List.set_cons_zero, List.set_cons_succ]
    refine seqR_at (o := ?_) ?_ ?_
    rotate_left
    · (conv => (lhs; whnf; arg 1; whnf))
    refine seqR_y (v := ?_) (by rfl) (fun W hW => ?_) ?_
    rotate_left
    · go_simp; try with_reducible rfl
    try simp only [Act.put, List.setIfInBounds_toArray, List.set_cons_zero, List.set_cons_succ]
    refine seqR_at (o := ?_) ?_ ?_
    rotate_left
    · (conv => (lhs; whnf; arg 1; whnf))
    refine seqR_y (v := ?_) (by rfl) (fun W hW => ?_) ?_
    rotate_left
    · go_simp; try with_reducible rfl
    try simp only [Act.put, List.setIfInBounds_toArray, List.set_cons_zero, List.set_cons_succ]
    refine seqR_at (o := ?_) ?_ ?_
    rotate_left
    · (conv => (lhs; whnf; arg 1; whnf))
    refine seqR_y (v := ?_) (by rfl) (fun W hW => ?_) ?_
    rotate_left
    · go_simp; try with_reducible rfl
    try simp only [Act.put, List.setIfInBounds_toArray, List.set_cons_zero, List.set_cons_succ]
    refine seqR_end ?_
    go_wp2_with (first | (refine wpl_ldN ntNat rfl rfl rfl x_4.out ?_) | (refine wpl_ldN_g ntNat rfl rfl rfl x_4.out ?_) | (refine wpl_ldN ntNat rfl rfl rfl y_4.out ?_) | (refine wpl_ldN_g ntNat rfl rfl rfl y_4.out ?_))
    refine (add_full _ HFn.out HFm.out (by rw [HP.out]; exact HFs.out)).mono ?_
    rintro e p7 ⟨rfl, hb⟩
    have XT0_7 := Lib.hid (NatAt.zero p7)
    have XA_7 := Lib.hid (below_zero hb hb.size)
    have hsz_7 : Hid (p4.heap.size ≤ p7.heap.size) := Lib.hid hb.size
    clear hb
    go_wp2_with (first | (refine wpl_stN ntNat rfl rfl rfl rfl XT0_7.out ?_; intro q7 hn hg; have XB0_7 := Lib.hid (XA_7.out.grown hg XA_7.out.size (fun j e => by injection e with e; rw [← e]; have := hsz_7.out; omega)); have XS00_7 := Lib.hid hn; have p_7 := Lib.hid (p_4.out.below XB0_7.out); have x_7 := Lib.hid (x_4.out.below XB0_7.out); have q_7 := Lib.hid (q_4.out.below XB0_7.out); have y_7 := Lib.hid (y_4.out.below XB0_7.out); have W_7 := Lib.hid (W_4.out.trans (XB0_7.out.mono W_4.out.size)); have z_7 := XS00_7; clear hn hg p_4 x_4 q_4 y_4 W_4 XT0_7 XA_7 XS00_7 XB0_7 hsz_7) | (refine wpl_ldN ntNat rfl rfl rfl x_7.out ?_) | (refine wpl_ldN_g ntNat rfl rfl rfl x_7.out ?_) | (refine wpl_ldN ntNat rfl rfl rfl y_7.out ?_) | (refine wpl_ldN_g ntNat rfl rfl rfl y_7.out ?_) | (refine wpl_ldN ntNat rfl rfl rfl z_7.out ?_) | (refine wpl_ldN_g ntNat rfl rfl rfl z_7.out ?_))
    refine (sub_ok _ HFn.out HFm.out (by have := HCN.out; omega) HT.out).mono ?_
    rintro e p8 ⟨rfl, hb⟩
    have XT0_8 := Lib.hid (NatAt.zero p8)
    have XA_8 := Lib.hid (below_zero hb hb.size)
    have hsz_8 : Hid (q7.heap.size ≤ p8.heap.size) := Lib.hid hb.size
    clear hb
    go_wp2_with (first | (refine wpl_stN ntNat rfl rfl rfl rfl XT0_8.out ?_; intro q8 hn hg; have XB0_8 := Lib.hid (XA_8.out.grown hg XA_8.out.size (fun j e => by injection e with e; rw [← e]; have := hsz_8.out; omega)); have XS00_8 := Lib.hid hn; have p_8 := Lib.hid (p_7.out.below XB0_8.out); have x_8 := Lib.hid (x_7.out.below XB0_8.out); have q_8 := Lib.hid (q_7.out.below XB0_8.out); have y_8 := Lib.hid (y_7.out.below XB0_8.out); have z_8 := Lib.hid (z_7.out.below XB0_8.out); have W_8 := Lib.hid (W_7.out.trans (XB0_8.out.mono W_7.out.size)); have u_8 := XS00_8; clear hn hg p_7 x_7 q_7 y_7 z_7 W_7 XT0_8 XA_8 XS00_8 XB0_8 hsz_8) | (refine wpl_ldN ntNat rfl rfl rfl x_8.out ?_) | (refine wpl_ldN_g ntNat rfl rfl rfl x_8.out ?_) | (refine wpl_ldN ntNat rfl rfl rfl y_8.out ?_) | (refine wpl_ldN_g ntNat rfl rfl rfl y_8.out ?_) | (refine wpl_ldN ntNat rfl rfl rfl z_8.out ?_) | (refine wpl_ldN_g ntNat rfl rfl rfl z_8.out ?_) | (refine wpl_ldN ntNat rfl rfl rfl u_8.out ?_) | (refine wpl_ldN_g ntNat rfl rfl rfl u_8.out ?_))
    clear x_8
    clear y_8
    refine (radd_ok _ _ _ p_8.out q_8.out HSn.out HSm.out HP.out).mono ?_
    rintro e p9 ⟨v9, rfl, hv, hb, ho9⟩
    have p_9 := Lib.hid (p_8.out.below hb)
    have q_9 := Lib.hid (q_8.out.below hb)
    have z_9 := Lib.hid (z_8.out.below hb)
    have u_9 := Lib.hid (u_8.out.below hb)
    have W_9 := Lib.hid (W_8.out.trans (hb.mono W_8.out.size))
    clear hb ho9 p_8 q_8 z_8 u_8 W_8
    have r_9 := Lib.hid hv
    clear hv
    go_wp2_with (first | (refine wpl_ldN ntNat rfl rfl rfl z_9.out ?_) | (refine wpl_ldN_g ntNat rfl rfl rfl z_9.out ?_) | (refine wpl_ldN ntNat rfl rfl rfl u_9.out ?_) | (refine wpl_ldN_g ntNat rfl rfl rfl u_9.out ?_))
    refine (rfits_ok _ _ r_9.out HSs.out (c := false) (by simp [HFs.out])).mono ?_
    rintro e p10 ⟨rfl, rfl⟩
    go_wp2_with (first | (refine wpl_ldN ntNat rfl rfl rfl z_9.out ?_) | (refine wpl_ldN_g ntNat rfl rfl rfl z_9.out ?_) | (refine wpl_ldN ntNat rfl rfl rfl u_9.out ?_) | (refine wpl_ldN_g ntNat rfl rfl rfl u_9.out ?_))
    refine (isZero_zero _).mono ?_
    rintro e p11 ⟨rfl, hb⟩
    have p_11 := Lib.hid (p_9.out.below hb)
    have q_11 := Lib.hid (q_9.out.below hb)
    have z_11 := Lib.hid (z_9.out.below hb)
    have u_11 := Lib.hid (u_9.out.below hb)
    have r_11 := Lib.hid (r_9.out.below hb)
    have W_11 := Lib.hid (W_9.out.trans (hb.mono W_9.out.size))
    clear hb p_9 q_9 z_9 u_9 r_9 W_9
    go_wp2_with (first | (refine wpl_ldN ntNat rfl rfl rfl z_11.out ?_) | (refine wpl_ldN_g ntNat rfl rfl rfl z_11.out ?_) | (refine wpl_ldN ntNat rfl rfl rfl u_11.out ?_) | (refine wpl_ldN_g ntNat rfl rfl rfl u_11.out ?_))
    clear z_11
    clear r_11
    refine (rcompare_ok _ _ _ p_11.out q_11.out HSn.out HSm.out HCmp.out).mono ?_
    rintro e p12 ⟨rfl, rfl⟩
    go_wp2_with (first | (refine wpl_ldN ntNat rfl rfl rfl u_11.out ?_) | (refine wpl_ldN_g ntNat rfl rfl rfl u_11.out ?_))
    refine region_road Later [(0, true), (1, true), (2, true), (3, true), (4, true), (5, true), (6, false), (7, false), (8, true), (9, true), (10, false), (11, true), (12, true)] (by kernel_rfl) (by kernel_rfl) (by kernel_rfl) (by kernel_rfl) (by kernel_rfl) (by kernel_rfl) later_refl later_trans (fun _ _ d _ _ h => by cases d <;> exact h) ?_
    have p_13 := Lib.hid (p_11.out.below ((Below.refl p11.heap.size p11).drew))
    have q_13 := Lib.hid (q_11.out.below ((Below.refl p11.heap.size p11).drew))
    have u_13 := Lib.hid (u_11.out.below ((Below.refl p11.heap.size p11).drew))
    have W_13 := Lib.hid (W_11.out.trans (((Below.refl p11.heap.size p11).drew).mono W_11.out.size))
    clear p_11 q_11 u_11 W_11
    generalize p11.drew = d13 at p_13 q_13 u_13 W_13 ⊢
    refine seqR_at (o := ?_) ?_ ?_
    rotate_left
    · (conv => (lhs; whnf; arg 1; whnf))
    refine seqR_y (v := ?_) (by rfl) (fun W hW => ?_) ?_
    rotate_left
    · go_simp; try with_reducible rfl
    try simp only [Act.put, List.setIfInBounds_toArray, List.set_cons_zero, List.set_cons_succ]
    refine seqR_at (o := ?_) ?_ ?_
    rotate_left
    · (conv => (lhs; whnf; arg 1; whnf))
    refine seqR_y (v := ?_) (by rfl) (fun W hW => ?_) ?_
    rotate_left
    · go_simp; try with_reducible rfl
    try simp only [Act.put, List.setIfInBounds_toArray, List.set_cons_zero, List.set_cons_succ]
    refine seqR_at (o := ?_) ?_ ?_
    rotate_left
    · (conv => (lhs; whnf; arg 1; whnf))
    refine seqR_y (v := ?_) (by rfl) (fun W hW => ?_) ?_
    rotate_left
    · go_simp; try with_reducible rfl
    try simp only [Act.put, List.setIfInBounds_toArray, List.set_cons_zero, List.set_cons_succ]
    refine seqR_at (o := ?_) ?_ ?_
    rotate_left
    · (conv => (lhs; whnf; arg 1; whnf))
    refine seqR_y (v := ?_) (by rfl) (fun W hW => ?_) ?_
    rotate_left
    · (refine exec_ldN (x := .tmp 13) ntNat ?_ ?_ (u_13.out.below hW)) <;> rfl
    try simp only [Act.put, List.setIfInBounds_toArray, List.set_cons_zero, List.set_cons_succ]
    refine seqR_at (o := ?_) ?_ ?_
    rotate_left
    · (conv => (lhs; whnf; arg 1; whnf))
    refine seqR_y (v := ?_) (by rfl) (fun W hW => ?_) ?_
    rotate_left
    · go_simp; try with_reducible rfl
    try simp only [Act.put, List.setIfInBounds_toArray, List.set_cons_zero, List.set_cons_succ]
    refine seqR_at (o := ?_) ?_ ?_
    rotate_left
    · (conv => (lhs; whnf; arg 1; whnf))
    refine seqR_y (v := ?_) (by rfl) (fun W hW => ?_) ?_
    rotate_left
    · go_simp; try with_reducible rfl
    try simp only [Act.put, List.setIfInBounds_toArray, List.set_cons_zero, List.set_cons_succ]
    refine seqR_at (o := ?_) ?_ ?_
    rotate_left
    · (conv => (lhs; whnf; arg 1; whnf))
    refine seqR_c (by rfl) (fun K hK => ?_)
    go_simp
    refine (rsub_ok _ _ _ p_13.out q_13.out HSn.out HSm.out (by have := HCN.out; omega) HT.out).mono ?_
    rintro e p14 ⟨v14, rfl, hv, hb, _⟩
    have p_14 := Lib.hid (p_13.out.below hb)
    have q_14 := Lib.hid (q_13.out.below hb)
    have u_14 := Lib.hid (u_13.out.below hb)
    have W_14 := Lib.hid (W_13.out.trans (hb.mono W_13.out.size))
    refine hK _ _ hb ?_
    clear hK K hb p_13 q_13 u_13 W_13
    have r_14 := Lib.hid hv; clear hv
    try simp only [Act.put, List.setIfInBounds_toArray, List.set_cons_zero, List.set_cons_succ]
    refine seqR_at (o := ?_) ?_ ?_
    rotate_left
    · (conv => (lhs; whnf; arg 1; whnf))
    refine seqR_c (by rfl) (fun K hK => ?_)
    go_simp
    refine (same_ok _ _ HFt.out r_14.out HSt.out (decide_eq_true rfl)).mono ?_
    rintro e p15 ⟨rfl, hb⟩
    have p_15 := Lib.hid (p_14.out.below hb)
    have q_15 := Lib.hid (q_14.out.below hb)
    have u_15 := Lib.hid (u_14.out.below hb)
    have r_15 := Lib.hid (r_14.out.below hb)
    have W_15 := Lib.hid (W_14.out.trans (hb.mono W_14.out.size))
    refine hK _ _ hb ?_
    clear hK K hb p_14 q_14 u_14 r_14 W_14
    try simp only [Act.put, List.setIfInBounds_toArray, List.set_cons_zero, List.set_cons_succ]
    refine seqR_at (o := ?_) ?_ ?_
    rotate_left
    · (conv => (lhs; whnf; arg 1; whnf))
    refine seqR_y (v := ?_) (by rfl) (fun W hW => ?_) ?_
    rotate_left
    · go_simp; try with_reducible rfl
    try simp only [Act.put, List.setIfInBounds_toArray, List.set_cons_zero, List.set_cons_succ]
    refine seqR_at (o := ?_) ?_ ?_
    rotate_left
    · (conv => (lhs; whnf; arg 1; whnf))
    refine seqR_y (v := ?_) (by rfl) (fun W hW => ?_) ?_
    rotate_left
    · go_simp; try with_reducible rfl
    try simp only [Act.put, List.setIfInBounds_toArray, List.set_cons_zero, List.set_cons_succ]
    refine seqR_at (o := ?_) ?_ ?_
    rotate_left
    · (conv => (lhs; whnf; arg 1; whnf))
    refine seqR_c (by rfl) (fun K hK => ?_)
    go_simp
    refine (known_any _).mono ?_
    rintro e p16 ⟨rfl, hb⟩
    have p_16 := Lib.hid (p_15.out.below hb)
    have q_16 := Lib.hid (q_15.out.below hb)
    have u_16 := Lib.hid (u_15.out.below hb)
    have r_16 := Lib.hid (r_15.out.below hb)
    have W_16 := Lib.hid (W_15.out.trans (hb.mono W_15.out.size))
    refine hK _ _ hb ?_
    clear hK K hb p_15 q_15 u_15 r_15 W_15
    try simp only [Act.put, List.setIfInBounds_toArray, List.set_cons_zero, List.set_cons_succ]
    refine seqR_at (o := ?_) ?_ ?_
    rotate_left
    · (conv => (lhs; whnf; arg 1; whnf))
    refine seqR_y (v := ?_) (by rfl) (fun W hW => ?_) ?_
    rotate_left
    · go_simp; try with_reducible rfl
    try simp only [Act.put, List.setIfInBounds_toArray, List.set_cons_zero, List.set_cons_succ]
    refine seqR_at (o := ?_) ?_ ?_
    rotate_left
    · (conv => (lhs; whnf; arg 1; whnf))
    refine seqR_y (v := ?_) (by rfl) (fun W hW => ?_) ?_
    rotate_left
    · go_simp; try with_reducible rfl
    try simp only [Act.put, List.setIfInBounds_toArray, List.set_cons_zero, List.set_cons_succ]
    refine seqR_end ?_
    go_wp2_with (first | (refine wpl_ldN ntNat rfl rfl rfl u_16.out ?_) | (refine wpl_ldN_g ntNat rfl rfl rfl u_16.out ?_))
    go_ret
    exact ⟨rfl, W_16.out⟩

set_option maxHeartbeats 1600000 in
theorem sums_any (va : Value) (xa : List UInt8) (vb : Value) (xb : List UInt8) (w : World) (ha : Byt w va xa) (hb : Byt w vb xb) :
    Calls Try.prog 7 #[va, vb] w fun e w' => e = .returned (.bool true) ∧ Below w.heap.size w w' := by
  have HA := Lib.hid ha
  have HB := Lib.hid hb
  obtain ⟨A, c, rfl, -⟩ := ha.len
  obtain ⟨B, d, rfl, -⟩ := hb.len
  clear ha hb
  by_cases hl0 : 128 < xa.length
  · have d0 : decide (128 < (xa.length : Int)) = true := decide_eq_true (by omega)
    clear hl0
    go_enter Try.func7, Try.ntmps7
    go_wp2_with fail
    refine (known_any w).mono ?_
    rintro e w1 ⟨rfl, hb⟩
    have HB := Lib.hid hb
    clear hb
    go_wp2_with fail
    go_ret
    exact ⟨rfl, HB.out⟩
  · have d0 : decide (128 < (xa.length : Int)) = false := decide_eq_false (by omega)
    have ll0 : xa.length ≤ 128 := by omega
    clear hl0
    by_cases hl1 : 128 < xb.length
    · have d1 : decide (128 < (xb.length : Int)) = true := decide_eq_true (by omega)
      clear hl1 ll0
      go_enter Try.func7, Try.ntmps7
      go_wp2_with fail
      refine (known_any w).mono ?_
      rintro e w1 ⟨rfl, hb⟩
      have HB := Lib.hid hb
      clear hb
      go_wp2_with fail
      go_ret
      exact ⟨rfl, HB.out⟩
    · have d1 : decide (128 < (xb.length : Int)) = false := decide_eq_false (by omega)
      have ll1 : xb.length ≤ 128 := by omega
      clear hl1
      rcases Nat.lt_trichotomy (numN xa) (numN xb) with h | h | h
      · exact sums_lt _ xa _ xb w HA.out HB.out ll0 ll1 _ _ rfl rfl h
      · exact sums_eq _ xa _ xb w HA.out HB.out ll0 ll1 _ _ rfl rfl h
      · exact sums_gt _ xa _ xb w HA.out HB.out ll0 ll1 _ _ rfl rfl h

end Go.Proofs.Ytomiapceefbmeaa
