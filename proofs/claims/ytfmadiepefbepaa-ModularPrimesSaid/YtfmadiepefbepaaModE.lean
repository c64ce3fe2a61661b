/- Walks: times (printed by genmode.py). -/
import Derived.Test.YtfmadiepefbepaaModD
set_option linter.unusedVariables false
set_option linter.unusedSimpArgs false
set_option maxRecDepth 20000
namespace Go.Proofs.Ytfmadiepefbepaa
open Go.RowKit Go.Shelf

theorem plus_op {m a : Nat} (hm : Fit m) (h0 : m ≠ 0) : OpG 38 m (fun j => j * a % m) := fun j k W =>
  plus_ok W hm (Nat.mod_lt _ (Nat.pos_of_ne_zero h0)) (Nat.mod_lt _ (Nat.pos_of_ne_zero h0)) (by rw [← Nat.add_mod, ← Nat.add_mul])
theorem enters_plus : ∀ (args : Array Value) (W : World), (callFunc 38 args).run Try.prog W = .ok (.enter 38 args) W := enters_of Try.func38 (by kernel_rfl) rfl
set_option maxHeartbeats 3200000 in
theorem times_fit {m a b r : Nat} (w : World) (hm : Fit m) (ha : a < m) (hb : b < m) (h1 : bl a + bl b ≤ 1024) (hr : a * b % m = r) :
    Calls Try.prog 40 #[.agg (natA m), .agg (natA a), .agg (natA b)] w fun e w' => e = .returned (.agg (natA r)) ∧ Below w.heap.size w w' := by
  have FM := Lib.hid hm
  have FA : Hid (Fit a) := Lib.hid (Nat.lt_trans ha hm)
  have FB : Hid (Fit b) := Lib.hid (Nat.lt_trans hb hm)
  have FA1 := Lib.hid ha
  have FB1 := Lib.hid hb
  have F0 : Hid (m ≠ 0) := Lib.hid (by omega)
  have FR := Lib.hid hr
  have hba : (bl a : Int) ≤ 1024 := by have := bl_fit.2 (Nat.lt_trans ha hm); omega
  have hbb : (bl b : Int) ≤ 1024 := by have := bl_fit.2 (Nat.lt_trans hb hm); omega
  have hbm : (bl m : Int) ≤ 1024 := by have := bl_fit.2 hm; omega
  have hsum : IntKind.i64.wrap ((bl a : Int) + (bl b : Int)) = (bl a : Int) + (bl b : Int) := by rw [IntKind.wrap_i64]; omega
  have HSUM := Lib.hid hsum
  have d0 : decide ((bl a : Int) + (bl b : Int) ≤ 1024) = true := decide_eq_true (by omega)
  have D0 := Lib.hid d0
  obtain ⟨p, hp⟩ : ∃ p, a * b = p := ⟨_, rfl⟩
  have HP := Lib.hid hp
  have HPF : Hid (Fit p) := Lib.hid (fit_bl (by rw [← hp]; have h3 := bl_mul (a := a) (b := b); omega))
  have HPR : Hid (p % m = r) := Lib.hid (by rw [← hp]; exact hr)
  clear hp
  clear hm ha hb hr h1 hba hbb hbm hsum d0
  have HM : Hid (NatAt ((((w.alloc (.cells (natA m) 60)).alloc (.cells (natA a) 37)).alloc (.cells (natA b) 37)).alloc (.cells z0 37)) (w.heap.size) (m)) := Lib.hid (by
    have h := NatAt.new w (m) 60
    replace h := h.alloc (.cells (natA a) 37)
    replace h := h.alloc (.cells (natA b) 37)
    replace h := h.alloc (.cells z0 37)
    simpa using h)
  have HA : Hid (NatAt ((((w.alloc (.cells (natA m) 60)).alloc (.cells (natA a) 37)).alloc (.cells (natA b) 37)).alloc (.cells z0 37)) (w.heap.size + 1) (a)) := Lib.hid (by
    have h := NatAt.new (w.alloc (.cells (natA m) 60)) (a) 37
    replace h := h.alloc (.cells (natA b) 37)
    replace h := h.alloc (.cells z0 37)
    simpa using h)
  have HB : Hid (NatAt ((((w.alloc (.cells (natA m) 60)).alloc (.cells (natA a) 37)).alloc (.cells (natA b) 37)).alloc (.cells z0 37)) (w.heap.size + 1 + 1) (b)) := Lib.hid (by
    have h := NatAt.new ((w.alloc (.cells (natA m) 60)).alloc (.cells (natA a) 37)) (b) 37
    replace h := h.alloc (.cells z0 37)
    simpa using h)
  have HR : Hid (NatAt ((((w.alloc (.cells (natA m) 60)).alloc (.cells (natA a) 37)).alloc (.cells (natA b) 37)).alloc (.cells z0 37)) (w.heap.size + 1 + 1 + 1) (0)) := Lib.hid (by
    have h := NatAt.new (((w.alloc (.cells (natA m) 60)).alloc (.cells (natA a) 37)).alloc (.cells (natA b) 37)) (0) 37
    rw [natA_zero] at h
    simpa using h)
  have HW : Hid (Below w.heap.size w ((((w.alloc (.cells (natA m) 60)).alloc (.cells (natA a) 37)).alloc (.cells (natA b) 37)).alloc (.cells z0 37))) := Lib.hid (by
    have h := Below.refl w.heap.size w
    replace h := h.alloc h.size (.cells (natA m) 60)
    replace h := h.alloc h.size (.cells (natA a) 37)
    replace h := h.alloc h.size (.cells (natA b) 37)
    replace h := h.alloc h.size (.cells z0 37)
    exact h)
  go_enter Try.func40, Try.ntmps40
  go_wp2_with (first | go_skip | (refine wpl_ldN ntMod rfl rfl rfl HM.out ?_) | (refine wpl_ldN_g ntMod ?hw rfl rfl HM.out ?_; (case hw => rfl)) | (refine wpl_ldN ntNat rfl rfl rfl HM.out ?_) | (refine wpl_ldN_g ntNat ?hw rfl rfl HM.out ?_; (case hw => rfl)) | (refine wpl_ldN ntNat rfl rfl rfl HA.out ?_) | (refine wpl_ldN_g ntNat ?hw rfl rfl HA.out ?_; (case hw => rfl)) | (refine wpl_ldN ntNat rfl rfl rfl HB.out ?_) | (refine wpl_ldN_g ntNat ?hw rfl rfl HB.out ?_; (case hw => rfl)) | (refine wpl_ldN ntNat rfl rfl rfl HR.out ?_) | (refine wpl_ldN_g ntNat ?hw rfl rfl HR.out ?_; (case hw => rfl)))
  refine region_road Later [(0, true), (2, true), (1, false), (3, false), (4, true), (5, true)] (by kernel_rfl) (by kernel_rfl) (by kernel_rfl) (by kernel_rfl) (by kernel_rfl) (by kernel_rfl) later_refl later_trans (fun _ _ d _ _ h => by cases d <;> exact h) ?_
  have M_1 := Lib.hid (HM.out.below ((Below.refl ((((w.alloc (.cells (natA m) 60)).alloc (.cells (natA a) 37)).alloc (.cells (natA b) 37)).alloc (.cells z0 37)).heap.size ((((w.alloc (.cells (natA m) 60)).alloc (.cells (natA a) 37)).alloc (.cells (natA b) 37)).alloc (.cells z0 37))).drew))
  have A_1 := Lib.hid (HA.out.below ((Below.refl ((((w.alloc (.cells (natA m) 60)).alloc (.cells (natA a) 37)).alloc (.cells (natA b) 37)).alloc (.cells z0 37)).heap.size ((((w.alloc (.cells (natA m) 60)).alloc (.cells (natA a) 37)).alloc (.cells (natA b) 37)).alloc (.cells z0 37))).drew))
  have B_1 := Lib.hid (HB.out.below ((Below.refl ((((w.alloc (.cells (natA m) 60)).alloc (.cells (natA a) 37)).alloc (.cells (natA b) 37)).alloc (.cells z0 37)).heap.size ((((w.alloc (.cells (natA m) 60)).alloc (.cells (natA a) 37)).alloc (.cells (natA b) 37)).alloc (.cells z0 37))).drew))
  have R_1 := Lib.hid (HR.out.below ((Below.refl ((((w.alloc (.cells (natA m) 60)).alloc (.cells (natA a) 37)).alloc (.cells (natA b) 37)).alloc (.cells z0 37)).heap.size ((((w.alloc (.cells (natA m) 60)).alloc (.cells (natA a) 37)).alloc (.cells (natA b) 37)).alloc (.cells z0 37))).drew))
  have W_1 := Lib.hid (HW.out.trans (((Below.refl ((((w.alloc (.cells (natA m) 60)).alloc (.cells (natA a) 37)).alloc (.cells (natA b) 37)).alloc (.cells z0 37)).heap.size ((((w.alloc (.cells (natA m) 60)).alloc (.cells (natA a) 37)).alloc (.cells (natA b) 37)).alloc (.cells z0 37))).drew).mono HW.out.size))
  clear HM HA HB HR HW
  generalize ((((w.alloc (.cells (natA m) 60)).alloc (.cells (natA a) 37)).alloc (.cells (natA b) 37)).alloc (.cells z0 37)).drew = d1 at M_1 A_1 B_1 R_1 W_1 ⊢
  refine seqR_at (o := ?_) ?_ ?_
  rotate_left
  · (conv => (lhs; whnf; arg 1; whnf))
  refine seqR_y (v := ?_) (by rfl) (fun W hW => ?_) ?_
  rotate_left
  · (refine exec_ldN (x := .tmp 4) ntNat ?_ ?_ (A_1.out.below hW)) <;> rfl
  try simp only [Act.put, List.setIfInBounds_toArray, List.set_cons_zero, List.set_cons_succ]
  refine seqR_at (o := ?_) ?_ ?_
  rotate_left
  · (conv => (lhs; whnf; arg 1; whnf))
  refine seqR_y (v := ?_) (by rfl) (fun W hW => ?_) ?_
  rotate_left
  · (refine exec_ldN (x := .tmp 5) ntNat ?_ ?_ (B_1.out.below hW)) <;> rfl
  try simp only [Act.put, List.setIfInBounds_toArray, List.set_cons_zero, List.set_cons_succ]
  refine seqR_at (o := ?_) ?_ ?_
  rotate_left
  · (conv => (lhs; whnf; arg 1; whnf))
  refine seqR_c (by rfl) (fun K hK => ?_)
  go_simp
  refine (bitLen_any a _ FA.out).mono ?_
  rintro e p2 ⟨rfl, hb⟩
  have M_2 := Lib.hid (M_1.out.below hb)
  have A_2 := Lib.hid (A_1.out.below hb)
  have B_2 := Lib.hid (B_1.out.below hb)
  have R_2 := Lib.hid (R_1.out.below hb)
  have W_2 := Lib.hid (W_1.out.trans (hb.mono W_1.out.size))
  refine hK _ _ hb ?_
  clear hK K hb M_1 A_1 B_1 R_1 W_1
  try simp only [Act.put, List.setIfInBounds_toArray, List.set_cons_zero, List.set_cons_succ]
  refine seqR_at (o := ?_) ?_ ?_
  rotate_left
  · (conv => (lhs; whnf; arg 1; whnf))
  refine seqR_c (by rfl) (fun K hK => ?_)
  go_simp
  refine (bitLen_any b _ FB.out).mono ?_
  rintro e p3 ⟨rfl, hb⟩
  have M_3 := Lib.hid (M_2.out.below hb)
  have A_3 := Lib.hid (A_2.out.below hb)
  have B_3 := Lib.hid (B_2.out.below hb)
  have R_3 := Lib.hid (R_2.out.below hb)
  have W_3 := Lib.hid (W_2.out.trans (hb.mono W_2.out.size))
  refine hK _ _ hb ?_
  clear hK K hb M_2 A_2 B_2 R_2 W_2
  try simp only [Act.put, List.setIfInBounds_toArray, List.set_cons_zero, List.set_cons_succ]
  refine seqR_at (o := ?_) ?_ ?_
  rotate_left
  · (conv => (lhs; whnf; arg 1; whnf))
  refine seqR_y (v := ?_) (by rfl) (fun W hW => ?_) ?_
  rotate_left
  · have h9 := HSUM.out; go_simp; try with_reducible rfl
  try simp only [Act.put, List.setIfInBounds_toArray, List.set_cons_zero, List.set_cons_succ]
  refine seqR_at (o := ?_) ?_ ?_
  rotate_left
  · (conv => (lhs; whnf; arg 1; whnf))
  refine seqR_y (v := ?_) (by rfl) (fun W hW => ?_) ?_
  rotate_left
  · have h9 := D0.out; go_simp; try with_reducible rfl
  try simp only [Act.put, List.setIfInBounds_toArray, List.set_cons_zero, List.set_cons_succ]
  refine seqR_end ?_
  go_wp2_with (first | go_skip | (refine wpl_ldN ntMod rfl rfl rfl M_3.out ?_) | (refine wpl_ldN_g ntMod ?hw rfl rfl M_3.out ?_; (case hw => rfl)) | (refine wpl_ldN ntNat rfl rfl rfl M_3.out ?_) | (refine wpl_ldN_g ntNat ?hw rfl rfl M_3.out ?_; (case hw => rfl)) | (refine wpl_ldN ntNat rfl rfl rfl A_3.out ?_) | (refine wpl_ldN_g ntNat ?hw rfl rfl A_3.out ?_; (case hw => rfl)) | (refine wpl_ldN ntNat rfl rfl rfl B_3.out ?_) | (refine wpl_ldN_g ntNat ?hw rfl rfl B_3.out ?_; (case hw => rfl)) | (refine wpl_ldN ntNat rfl rfl rfl R_3.out ?_) | (refine wpl_ldN_g ntNat ?hw rfl rfl R_3.out ?_; (case hw => rfl)))
  refine (mul_ok _ FA.out FB.out HP.out HPF.out).mono ?_
  rintro e p4 ⟨rfl, hb⟩
  have XT0_4 := Lib.hid (NatAt.zero p4)
  have XA_4 := Lib.hid (below_zero hb hb.size)
  have hsz_4 : Hid (p3.heap.size ≤ p4.heap.size) := Lib.hid hb.size
  clear hb
  go_wp2_with (first | go_skip | (refine wpl_stN ntNat rfl rfl rfl rfl XT0_4.out ?_; intro q4 hn hg; have XB0_4 := Lib.hid (XA_4.out.grown hg XA_4.out.size (fun j e => by injection e with e; rw [← e]; have := hsz_4.out; omega)); have XS00_4 := Lib.hid hn; have M_4 := Lib.hid (M_3.out.below XB0_4.out); have A_4 := Lib.hid (A_3.out.below XB0_4.out); have B_4 := Lib.hid (B_3.out.below XB0_4.out); have R_4 := Lib.hid (R_3.out.below XB0_4.out); have W_4 := Lib.hid (W_3.out.trans (XB0_4.out.mono W_3.out.size)); have o_4 := XS00_4; clear hn hg M_3 A_3 B_3 R_3 W_3 XT0_4 XA_4 XS00_4 XB0_4 hsz_4) | (refine wpl_ldN ntMod rfl rfl rfl M_4.out ?_) | (refine wpl_ldN_g ntMod ?hw rfl rfl M_4.out ?_; (case hw => rfl)) | (refine wpl_ldN ntNat rfl rfl rfl M_4.out ?_) | (refine wpl_ldN_g ntNat ?hw rfl rfl M_4.out ?_; (case hw => rfl)) | (refine wpl_ldN ntNat rfl rfl rfl A_4.out ?_) | (refine wpl_ldN_g ntNat ?hw rfl rfl A_4.out ?_; (case hw => rfl)) | (refine wpl_ldN ntNat rfl rfl rfl B_4.out ?_) | (refine wpl_ldN_g ntNat ?hw rfl rfl B_4.out ?_; (case hw => rfl)) | (refine wpl_ldN ntNat rfl rfl rfl R_4.out ?_) | (refine wpl_ldN_g ntNat ?hw rfl rfl R_4.out ?_; (case hw => rfl)) | (refine wpl_ldN ntNat rfl rfl rfl o_4.out ?_) | (refine wpl_ldN_g ntNat ?hw rfl rfl o_4.out ?_; (case hw => rfl)))
  clear A_4
  clear B_4
  refine (residue_ok _ FM.out HPF.out F0.out HPR.out).mono ?_
  rintro e p5 ⟨rfl, hb⟩
  have M_5 := Lib.hid (M_4.out.below hb)
  have R_5 := Lib.hid (R_4.out.below hb)
  have o_5 := Lib.hid (o_4.out.below hb)
  have W_5 := Lib.hid (W_4.out.trans (hb.mono W_4.out.size))
  clear hb M_4 R_4 o_4 W_4
  go_wp2_with (first | go_skip | (refine wpl_ldN ntMod rfl rfl rfl M_5.out ?_) | (refine wpl_ldN_g ntMod ?hw rfl rfl M_5.out ?_; (case hw => rfl)) | (refine wpl_ldN ntNat rfl rfl rfl M_5.out ?_) | (refine wpl_ldN_g ntNat ?hw rfl rfl M_5.out ?_; (case hw => rfl)) | (refine wpl_ldN ntNat rfl rfl rfl R_5.out ?_) | (refine wpl_ldN_g ntNat ?hw rfl rfl R_5.out ?_; (case hw => rfl)) | (refine wpl_ldN ntNat rfl rfl rfl o_5.out ?_) | (refine wpl_ldN_g ntNat ?hw rfl rfl o_5.out ?_; (case hw => rfl)) | (refine wpl_stN ntNat rfl rfl rfl rfl R_5.out ?_; intro z6 hn hg; have W_6 := Lib.hid (W_5.out.grown hg W_5.out.size (fun j e => by injection e with e; omega)); have R_6 := Lib.hid hn; clear hn hg W_5 M_5 R_5 o_5))
  refine bodyPost_ret (results_one rfl _ _ rfl R_6.out) rfl ?_
  exact ⟨rfl, W_6.out⟩

set_option maxHeartbeats 3200000 in
theorem times_rep {m a b r : Nat} (w : World) (hm : Fit m) (ha : a < m) (hb : b < m) (h1 : ¬ bl a + bl b ≤ 1024) (h2 : 1008 < bl m) (hr : a * b % m = r) :
    Calls Try.prog 40 #[.agg (natA m), .agg (natA a), .agg (natA b)] w fun e w' => e = .returned (.agg (natA r)) ∧ Below w.heap.size w w' := by
  have FM := Lib.hid hm
  have FA : Hid (Fit a) := Lib.hid (Nat.lt_trans ha hm)
  have FB : Hid (Fit b) := Lib.hid (Nat.lt_trans hb hm)
  have FA1 := Lib.hid ha
  have FB1 := Lib.hid hb
  have F0 : Hid (m ≠ 0) := Lib.hid (by omega)
  have FR := Lib.hid hr
  have hba : (bl a : Int) ≤ 1024 := by have := bl_fit.2 (Nat.lt_trans ha hm); omega
  have hbb : (bl b : Int) ≤ 1024 := by have := bl_fit.2 (Nat.lt_trans hb hm); omega
  have hbm : (bl m : Int) ≤ 1024 := by have := bl_fit.2 hm; omega
  have hsum : IntKind.i64.wrap ((bl a : Int) + (bl b : Int)) = (bl a : Int) + (bl b : Int) := by rw [IntKind.wrap_i64]; omega
  have HSUM := Lib.hid hsum
  have d0 : decide ((bl a : Int) + (bl b : Int) ≤ 1024) = false := decide_eq_false (by omega)
  have D0 := Lib.hid d0
  have d1 : decide (1008 < (bl m : Int)) = true := decide_eq_true (by omega)
  clear hm ha hb hr h1 hba hbb hbm hsum d0 h2
  have HM : Hid (NatAt ((((w.alloc (.cells (natA m) 60)).alloc (.cells (natA a) 37)).alloc (.cells (natA b) 37)).alloc (.cells z0 37)) (w.heap.size) (m)) := Lib.hid (by
    have h := NatAt.new w (m) 60
    replace h := h.alloc (.cells (natA a) 37)
    replace h := h.alloc (.cells (natA b) 37)
    replace h := h.alloc (.cells z0 37)
    simpa using h)
  have HA : Hid (NatAt ((((w.alloc (.cells (natA m) 60)).alloc (.cells (natA a) 37)).alloc (.cells (natA b) 37)).alloc (.cells z0 37)) (w.heap.size + 1) (a)) := Lib.hid (by
    have h := NatAt.new (w.alloc (.cells (natA m) 60)) (a) 37
    replace h := h.alloc (.cells (natA b) 37)
    replace h := h.alloc (.cells z0 37)
    simpa using h)
  have HB : Hid (NatAt ((((w.alloc (.cells (natA m) 60)).alloc (.cells (natA a) 37)).alloc (.cells (natA b) 37)).alloc (.cells z0 37)) (w.heap.size + 1 + 1) (b)) := Lib.hid (by
    have h := NatAt.new ((w.alloc (.cells (natA m) 60)).alloc (.cells (natA a) 37)) (b) 37
    replace h := h.alloc (.cells z0 37)
    simpa using h)
  have HR : Hid (NatAt ((((w.alloc (.cells (natA m) 60)).alloc (.cells (natA a) 37)).alloc (.cells (natA b) 37)).alloc (.cells z0 37)) (w.heap.size + 1 + 1 + 1) (0)) := Lib.hid (by
    have h := NatAt.new (((w.alloc (.cells (natA m) 60)).alloc (.cells (natA a) 37)).alloc (.cells (natA b) 37)) (0) 37
    rw [natA_zero] at h
    simpa using h)
  have HW : Hid (Below w.heap.size w ((((w.alloc (.cells (natA m) 60)).alloc (.cells (natA a) 37)).alloc (.cells (natA b) 37)).alloc (.cells z0 37))) := Lib.hid (by
    have h := Below.refl w.heap.size w
    replace h := h.alloc h.size (.cells (natA m) 60)
    replace h := h.alloc h.size (.cells (natA a) 37)
    replace h := h.alloc h.size (.cells (natA b) 37)
    replace h := h.alloc h.size (.cells z0 37)
    exact h)
  go_enter Try.func40, Try.ntmps40
  go_wp2_with (first | go_skip | (refine wpl_ldN ntMod rfl rfl rfl HM.out ?_) | (refine wpl_ldN_g ntMod ?hw rfl rfl HM.out ?_; (case hw => rfl)) | (refine wpl_ldN ntNat rfl rfl rfl HM.out ?_) | (refine wpl_ldN_g ntNat ?hw rfl rfl HM.out ?_; (case hw => rfl)) | (refine wpl_ldN ntNat rfl rfl rfl HA.out ?_) | (refine wpl_ldN_g ntNat ?hw rfl rfl HA.out ?_; (case hw => rfl)) | (refine wpl_ldN ntNat rfl rfl rfl HB.out ?_) | (refine wpl_ldN_g ntNat ?hw rfl rfl HB.out ?_; (case hw => rfl)) | (refine wpl_ldN ntNat rfl rfl rfl HR.out ?_) | (refine wpl_ldN_g ntNat ?hw rfl rfl HR.out ?_; (case hw => rfl)))
  refine region_road Later [(0, true), (2, true), (1, false), (3, false), (4, true), (5, true)] (by kernel_rfl) (by kernel_rfl) (by kernel_rfl) (by kernel_rfl) (by kernel_rfl) (by kernel_rfl) later_refl later_trans (fun _ _ d _ _ h => by cases d <;> exact h) ?_
  have M_1 := Lib.hid (HM.out.below ((Below.refl ((((w.alloc (.cells (natA m) 60)).alloc (.cells (natA a) 37)).alloc (.cells (natA b) 37)).alloc (.cells z0 37)).heap.size ((((w.alloc (.cells (natA m) 60)).alloc (.cells (natA a) 37)).alloc (.cells (natA b) 37)).alloc (.cells z0 37))).drew))
  have A_1 := Lib.hid (HA.out.below ((Below.refl ((((w.alloc (.cells (natA m) 60)).alloc (.cells (natA a) 37)).alloc (.cells (natA b) 37)).alloc (.cells z0 37)).heap.size ((((w.alloc (.cells (natA m) 60)).alloc (.cells (natA a) 37)).alloc (.cells (natA b) 37)).alloc (.cells z0 37))).drew))
  have B_1 := Lib.hid (HB.out.below ((Below.refl ((((w.alloc (.cells (natA m) 60)).alloc (.cells (natA a) 37)).alloc (.cells (natA b) 37)).alloc (.cells z0 37)).heap.size ((((w.alloc (.cells (natA m) 60)).alloc (.cells (natA a) 37)).alloc (.cells (natA b) 37)).alloc (.cells z0 37))).drew))
  have R_1 := Lib.hid (HR.out.below ((Below.refl ((((w.alloc (.cells (natA m) 60)).alloc (.cells (natA a) 37)).alloc (.cells (natA b) 37)).alloc (.cells z0 37)).heap.size ((((w.alloc (.cells (natA m) 60)).alloc (.cells (natA a) 37)).alloc (.cells (natA b) 37)).alloc (.cells z0 37))).drew))
  have W_1 := Lib.hid (HW.out.trans (((Below.refl ((((w.alloc (.cells (natA m) 60)).alloc (.cells (natA a) 37)).alloc (.cells (natA b) 37)).alloc (.cells z0 37)).heap.size ((((w.alloc (.cells (natA m) 60)).alloc (.cells (natA a) 37)).alloc (.cells (natA b) 37)).alloc (.cells z0 37))).drew).mono HW.out.size))
  clear HM HA HB HR HW
  generalize ((((w.alloc (.cells (natA m) 60)).alloc (.cells (natA a) 37)).alloc (.cells (natA b) 37)).alloc (.cells z0 37)).drew = d1 at M_1 A_1 B_1 R_1 W_1 ⊢
  refine seqR_at (o := ?_) ?_ ?_
  rotate_left
  · (conv => (lhs; whnf; arg 1; whnf))
  refine seqR_y (v := ?_) (by rfl) (fun W hW => ?_) ?_
  rotate_left
  · (refine exec_ldN (x := .tmp 4) ntNat ?_ ?_ (A_1.out.below hW)) <;> rfl
  try simp only [Act.put, List.setIfInBounds_toArray, List.set_cons_zero, List.set_cons_succ]
  refine seqR_at (o := ?_) ?_ ?_
  rotate_left
  · (conv => (lhs; whnf; arg 1; whnf))
  refine seqR_y (v := ?_) (by rfl) (fun W hW => ?_) ?_
  rotate_left
  · (refine exec_ldN (x := .tmp 5) ntNat ?_ ?_ (B_1.out.below hW)) <;> rfl
  try simp only [Act.put, List.setIfInBounds_toArray, List.set_cons_zero, List.set_cons_succ]
  refine seqR_at (o := ?_) ?_ ?_
  rotate_left
  · (conv => (lhs; whnf; arg 1; whnf))
  refine seqR_c (by rfl) (fun K hK => ?_)
  go_simp
  refine (bitLen_any a _ FA.out).mono ?_
  rintro e p2 ⟨rfl, hb⟩
  have M_2 := Lib.hid (M_1.out.below hb)
  have A_2 := Lib.hid (A_1.out.below hb)
  have B_2 := Lib.hid (B_1.out.below hb)
  have R_2 := Lib.hid (R_1.out.below hb)
  have W_2 := Lib.hid (W_1.out.trans (hb.mono W_1.out.size))
  refine hK _ _ hb ?_
  clear hK K hb M_1 A_1 B_1 R_1 W_1
  try simp only [Act.put, List.setIfInBounds_toArray, List.set_cons_zero, List.set_cons_succ]
  refine seqR_at (o := ?_) ?_ ?_
  rotate_left
  · (conv => (lhs; whnf; arg 1; whnf))
  refine seqR_c (by rfl) (fun K hK => ?_)
  go_simp
  refine (bitLen_any b _ FB.out).mono ?_
  rintro e p3 ⟨rfl, hb⟩
  have M_3 := Lib.hid (M_2.out.below hb)
  have A_3 := Lib.hid (A_2.out.below hb)
  have B_3 := Lib.hid (B_2.out.below hb)
  have R_3 := Lib.hid (R_2.out.below hb)
  have W_3 := Lib.hid (W_2.out.trans (hb.mono W_2.out.size))
  refine hK _ _ hb ?_
  clear hK K hb M_2 A_2 B_2 R_2 W_2
  try simp only [Act.put, List.setIfInBounds_toArray, List.set_cons_zero, List.set_cons_succ]
  refine seqR_at (o := ?_) ?_ ?_
  rotate_left
  · (conv => (lhs; whnf; arg 1; whnf))
  refine seqR_y (v := ?_) (by rfl) (fun W hW => ?_) ?_
  rotate_left
  · have h9 := HSUM.out; go_simp; try with_reducible rfl
  try simp only [Act.put, List.setIfInBounds_toArray, List.set_cons_zero, List.set_cons_succ]
  refine seqR_at (o := ?_) ?_ ?_
  rotate_left
  · (conv => (lhs; whnf; arg 1; whnf))
  refine seqR_y (v := ?_) (by rfl) (fun W hW => ?_) ?_
  rotate_left
  · have h9 := D0.out; go_simp; try with_reducible rfl
  try simp only [Act.put, List.setIfInBounds_toArray, List.set_cons_zero, List.set_cons_succ]
  refine seqR_end ?_
  go_wp2_with (first | go_skip | (refine wpl_ldN ntMod rfl rfl rfl M_3.out ?_) | (refine wpl_ldN_g ntMod ?hw rfl rfl M_3.out ?_; (case hw => rfl)) | (refine wpl_ldN ntNat rfl rfl rfl M_3.out ?_) | (refine wpl_ldN_g ntNat ?hw rfl rfl M_3.out ?_; (case hw => rfl)) | (refine wpl_ldN ntNat rfl rfl rfl A_3.out ?_) | (refine wpl_ldN_g ntNat ?hw rfl rfl A_3.out ?_; (case hw => rfl)) | (refine wpl_ldN ntNat rfl rfl rfl B_3.out ?_) | (refine wpl_ldN_g ntNat ?hw rfl rfl B_3.out ?_; (case hw => rfl)) | (refine wpl_ldN ntNat rfl rfl rfl R_3.out ?_) | (refine wpl_ldN_g ntNat ?hw rfl rfl R_3.out ?_; (case hw => rfl)))
  refine (bitLen_any m _ FM.out).mono ?_
  rintro e p4 ⟨rfl, hb⟩
  have M_4 := Lib.hid (M_3.out.below hb)
  have A_4 := Lib.hid (A_3.out.below hb)
  have B_4 := Lib.hid (B_3.out.below hb)
  have R_4 := Lib.hid (R_3.out.below hb)
  have W_4 := Lib.hid (W_3.out.trans (hb.mono W_3.out.size))
  clear hb M_3 A_3 B_3 R_3 W_3
  go_wp2_with (first | go_skip | (refine wpl_ldN ntMod rfl rfl rfl M_4.out ?_) | (refine wpl_ldN_g ntMod ?hw rfl rfl M_4.out ?_; (case hw => rfl)) | (refine wpl_ldN ntNat rfl rfl rfl M_4.out ?_) | (refine wpl_ldN_g ntNat ?hw rfl rfl M_4.out ?_; (case hw => rfl)) | (refine wpl_ldN ntNat rfl rfl rfl A_4.out ?_) | (refine wpl_ldN_g ntNat ?hw rfl rfl A_4.out ?_; (case hw => rfl)) | (refine wpl_ldN ntNat rfl rfl rfl B_4.out ?_) | (refine wpl_ldN_g ntNat ?hw rfl rfl B_4.out ?_; (case hw => rfl)) | (refine wpl_ldN ntNat rfl rfl rfl R_4.out ?_) | (refine wpl_ldN_g ntNat ?hw rfl rfl R_4.out ?_; (case hw => rfl)))
  rw [← (show natA 0 = #[.int .u32 0, .int .u32 0, .int .u32 0, .int .u32 0, .int .u32 0, .int .u32 0, .int .u32 0, .int .u32 0, .int .u32 0, .int .u32 0, .int .u32 0, .int .u32 0, .int .u32 0, .int .u32 0, .int .u32 0, .int .u32 0, .int .u32 0, .int .u32 0, .int .u32 0, .int .u32 0, .int .u32 0, .int .u32 0, .int .u32 0, .int .u32 0, .int .u32 0, .int .u32 0, .int .u32 0, .int .u32 0, .int .u32 0, .int .u32 0, .int .u32 0, .int .u32 0] from natA_zero)]
  have hrep := repeat_any 38 enters_plus m (fun j => j * a % m) (plus_op FM.out F0.out) b p4 FB.out
  simp only [Nat.one_mul, Nat.zero_mul, Nat.zero_mod, Nat.mod_eq_of_lt FA1.out] at hrep
  rw [show b * a % m = r from by rw [Nat.mul_comm]; exact FR.out] at hrep
  refine (hrep).mono ?_
  rintro e p5 ⟨rfl, hb⟩
  have M_5 := Lib.hid (M_4.out.below hb)
  have A_5 := Lib.hid (A_4.out.below hb)
  have B_5 := Lib.hid (B_4.out.below hb)
  have R_5 := Lib.hid (R_4.out.below hb)
  have W_5 := Lib.hid (W_4.out.trans (hb.mono W_4.out.size))
  clear hb M_4 A_4 B_4 R_4 W_4
  go_wp2_with (first | go_skip | (refine wpl_ldN ntMod rfl rfl rfl M_5.out ?_) | (refine wpl_ldN_g ntMod ?hw rfl rfl M_5.out ?_; (case hw => rfl)) | (refine wpl_ldN ntNat rfl rfl rfl M_5.out ?_) | (refine wpl_ldN_g ntNat ?hw rfl rfl M_5.out ?_; (case hw => rfl)) | (refine wpl_ldN ntNat rfl rfl rfl A_5.out ?_) | (refine wpl_ldN_g ntNat ?hw rfl rfl A_5.out ?_; (case hw => rfl)) | (refine wpl_ldN ntNat rfl rfl rfl B_5.out ?_) | (refine wpl_ldN_g ntNat ?hw rfl rfl B_5.out ?_; (case hw => rfl)) | (refine wpl_ldN ntNat rfl rfl rfl R_5.out ?_) | (refine wpl_ldN_g ntNat ?hw rfl rfl R_5.out ?_; (case hw => rfl)) | (refine wpl_stN ntNat rfl rfl rfl rfl R_5.out ?_; intro z6 hn hg; have W_6 := Lib.hid (W_5.out.grown hg W_5.out.size (fun j e => by injection e with e; omega)); have R_6 := Lib.hid hn; clear hn hg W_5 M_5 A_5 B_5 R_5))
  refine bodyPost_ret (results_one rfl _ _ rfl R_6.out) rfl ?_
  exact ⟨rfl, W_6.out⟩

set_option maxHeartbeats 3200000 in
theorem times_parts {m a b r : Nat} (w : World) (hm : Fit m) (ha : a < m) (hb : b < m) (h1 : ¬ bl a + bl b ≤ 1024) (h2 : ¬ 1008 < bl m) (hr : a * b % m = r) :
    Calls Try.prog 40 #[.agg (natA m), .agg (natA a), .agg (natA b)] w fun e w' => e = .returned (.agg (natA r)) ∧ Below w.heap.size w w' := by
  have FM := Lib.hid hm
  have FA : Hid (Fit a) := Lib.hid (Nat.lt_trans ha hm)
  have FB : Hid (Fit b) := Lib.hid (Nat.lt_trans hb hm)
  have FA1 := Lib.hid ha
  have FB1 := Lib.hid hb
  have F0 : Hid (m ≠ 0) := Lib.hid (by omega)
  have FR := Lib.hid hr
  have hba : (bl a : Int) ≤ 1024 := by have := bl_fit.2 (Nat.lt_trans ha hm); omega
  have hbb : (bl b : Int) ≤ 1024 := by have := bl_fit.2 (Nat.lt_trans hb hm); omega
  have hbm : (bl m : Int) ≤ 1024 := by have := bl_fit.2 hm; omega
  have hsum : IntKind.i64.wrap ((bl a : Int) + (bl b : Int)) = (bl a : Int) + (bl b : Int) := by rw [IntKind.wrap_i64]; omega
  have HSUM := Lib.hid hsum
  have d0 : decide ((bl a : Int) + (bl b : Int) ≤ 1024) = false := decide_eq_false (by omega)
  have D0 := Lib.hid d0
  have d1 : decide (1008 < (bl m : Int)) = false := decide_eq_false (by omega)
  obtain ⟨s, hs⟩ : ∃ s, bl m + s = 1024 := ⟨1024 - bl m, by omega⟩
  have HS := Lib.hid hs
  have HS1 : Hid (1 ≤ s) := Lib.hid (by omega)
  have hsub : IntKind.i64.wrap (1024 - (bl m : Int)) = (s : Int) := by rw [IntKind.wrap_i64]; omega
  have HSUB := Lib.hid hsub
  clear hs hsub
  clear hm ha hb hr h1 hba hbb hbm hsum d0 h2
  have HM : Hid (NatAt ((((w.alloc (.cells (natA m) 60)).alloc (.cells (natA a) 37)).alloc (.cells (natA b) 37)).alloc (.cells z0 37)) (w.heap.size) (m)) := Lib.hid (by
    have h := NatAt.new w (m) 60
    replace h := h.alloc (.cells (natA a) 37)
    replace h := h.alloc (.cells (natA b) 37)
    replace h := h.alloc (.cells z0 37)
    simpa using h)
  have HA : Hid (NatAt ((((w.alloc (.cells (natA m) 60)).alloc (.cells (natA a) 37)).alloc (.cells (natA b) 37)).alloc (.cells z0 37)) (w.heap.size + 1) (a)) := Lib.hid (by
    have h := NatAt.new (w.alloc (.cells (natA m) 60)) (a) 37
    replace h := h.alloc (.cells (natA b) 37)
    replace h := h.alloc (.cells z0 37)
    simpa using h)
  have HB : Hid (NatAt ((((w.alloc (.cells (natA m) 60)).alloc (.cells (natA a) 37)).alloc (.cells (natA b) 37)).alloc (.cells z0 37)) (w.heap.size + 1 + 1) (b)) := Lib.hid (by
    have h := NatAt.new ((w.alloc (.cells (natA m) 60)).alloc (.cells (natA a) 37)) (b) 37
    replace h := h.alloc (.cells z0 37)
    simpa using h)
  have HR : Hid (NatAt ((((w.alloc (.cells (natA m) 60)).alloc (.cells (natA a) 37)).alloc (.cells (natA b) 37)).alloc (.cells z0 37)) (w.heap.size + 1 + 1 + 1) (0)) := Lib.hid (by
    have h := NatAt.new (((w.alloc (.cells (natA m) 60)).alloc (.cells (natA a) 37)).alloc (.cells (natA b) 37)) (0) 37
    rw [natA_zero] at h
    simpa using h)
  have HW : Hid (Below w.heap.size w ((((w.alloc (.cells (natA m) 60)).alloc (.cells (natA a) 37)).alloc (.cells (natA b) 37)).alloc (.cells z0 37))) := Lib.hid (by
    have h := Below.refl w.heap.size w
    replace h := h.alloc h.size (.cells (natA m) 60)
    replace h := h.alloc h.size (.cells (natA a) 37)
    replace h := h.alloc h.size (.cells (natA b) 37)
    replace h := h.alloc h.size (.cells z0 37)
    exact h)
  go_enter Try.func40, Try.ntmps40
  go_wp2_with (first | go_skip | (refine wpl_ldN ntMod rfl rfl rfl HM.out ?_) | (refine wpl_ldN_g ntMod ?hw rfl rfl HM.out ?_; (case hw => rfl)) | (refine wpl_ldN ntNat rfl rfl rfl HM.out ?_) | (refine wpl_ldN_g ntNat ?hw rfl rfl HM.out ?_; (case hw => rfl)) | (refine wpl_ldN ntNat rfl rfl rfl HA.out ?_) | (refine wpl_ldN_g ntNat ?hw rfl rfl HA.out ?_; (case hw => rfl)) | (refine wpl_ldN ntNat rfl rfl rfl HB.out ?_) | (refine wpl_ldN_g ntNat ?hw rfl rfl HB.out ?_; (case hw => rfl)) | (refine wpl_ldN ntNat rfl rfl rfl HR.out ?_) | (refine wpl_ldN_g ntNat ?hw rfl rfl HR.out ?_; (case hw => rfl)))
  refine region_road Later [(0, true), (2, true), (1, false), (3, false), (4, true), (5, true)] (by kernel_rfl) (by kernel_rfl) (by kernel_rfl) (by kernel_rfl) (by kernel_rfl) (by kernel_rfl) later_refl later_trans (fun _ _ d _ _ h => by cases d <;> exact h) ?_
  have M_1 := Lib.hid (HM.out.below ((Below.refl ((((w.alloc (.cells (natA m) 60)).alloc (.cells (natA a) 37)).alloc (.cells (natA b) 37)).alloc (.cells z0 37)).heap.size ((((w.alloc (.cells (natA m) 60)).alloc (.cells (natA a) 37)).alloc (.cells (natA b) 37)).alloc (.cells z0 37))).drew))
  have A_1 := Lib.hid (HA.out.below ((Below.refl ((((w.alloc (.cells (natA m) 60)).alloc (.cells (natA a) 37)).alloc (.cells (natA b) 37)).alloc (.cells z0 37)).heap.size ((((w.alloc (.cells (natA m) 60)).alloc (.cells (natA a) 37)).alloc (.cells (natA b) 37)).alloc (.cells z0 37))).drew))
  have B_1 := Lib.hid (HB.out.below ((Below.refl ((((w.alloc (.cells (natA m) 60)).alloc (.cells (natA a) 37)).alloc (.cells (natA b) 37)).alloc (.cells z0 37)).heap.size ((((w.alloc (.cells (natA m) 60)).alloc (.cells (natA a) 37)).alloc (.cells (natA b) 37)).alloc (.cells z0 37))).drew))
  have R_1 := Lib.hid (HR.out.below ((Below.refl ((((w.alloc (.cells (natA m) 60)).alloc (.cells (natA a) 37)).alloc (.cells (natA b) 37)).alloc (.cells z0 37)).heap.size ((((w.alloc (.cells (natA m) 60)).alloc (.cells (natA a) 37)).alloc (.cells (natA b) 37)).alloc (.cells z0 37))).drew))
  have W_1 := Lib.hid (HW.out.trans (((Below.refl ((((w.alloc (.cells (natA m) 60)).alloc (.cells (natA a) 37)).alloc (.cells (natA b) 37)).alloc (.cells z0 37)).heap.size ((((w.alloc (.cells (natA m) 60)).alloc (.cells (natA a) 37)).alloc (.cells (natA b) 37)).alloc (.cells z0 37))).drew).mono HW.out.size))
  clear HM HA HB HR HW
  generalize ((((w.alloc (.cells (natA m) 60)).alloc (.cells (natA a) 37)).alloc (.cells (natA b) 37)).alloc (.cells z0 37)).drew = d1 at M_1 A_1 B_1 R_1 W_1 ⊢
  refine seqR_at (o := ?_) ?_ ?_
  rotate_left
  · (conv => (lhs; whnf; arg 1; whnf))
  refine seqR_y (v := ?_) (by rfl) (fun W hW => ?_) ?_
  rotate_left
  · (refine exec_ldN (x := .tmp 4) ntNat ?_ ?_ (A_1.out.below hW)) <;> rfl
  try simp only [Act.put, List.setIfInBounds_toArray, List.set_cons_zero, List.set_cons_succ]
  refine seqR_at (o := ?_) ?_ ?_
  rotate_left
  · (conv => (lhs; whnf; arg 1; whnf))
  refine seqR_y (v := ?_) (by rfl) (fun W hW => ?_) ?_
  rotate_left
  · (refine exec_ldN (x := .tmp 5) ntNat ?_ ?_ (B_1.out.below hW)) <;> rfl
  try simp only [Act.put, List.setIfInBounds_toArray, List.set_cons_zero, List.set_cons_succ]
  refine seqR_at (o := ?_) ?_ ?_
  rotate_left
  · (conv => (lhs; whnf; arg 1; whnf))
  refine seqR_c (by rfl) (fun K hK => ?_)
  go_simp
  refine (bitLen_any a _ FA.out).mono ?_
  rintro e p2 ⟨rfl, hb⟩
  have M_2 := Lib.hid (M_1.out.below hb)
  have A_2 := Lib.hid (A_1.out.below hb)
  have B_2 := Lib.hid (B_1.out.below hb)
  have R_2 := Lib.hid (R_1.out.below hb)
  have W_2 := Lib.hid (W_1.out.trans (hb.mono W_1.out.size))
  refine hK _ _ hb ?_
  clear hK K hb M_1 A_1 B_1 R_1 W_1
  try simp only [Act.put, List.setIfInBounds_toArray, List.set_cons_zero, List.set_cons_succ]
  refine seqR_at (o := ?_) ?_ ?_
  rotate_left
  · (conv => (lhs; whnf; arg 1; whnf))
  refine seqR_c (by rfl) (fun K hK => ?_)
  go_simp
  refine (bitLen_any b _ FB.out).mono ?_
  rintro e p3 ⟨rfl, hb⟩
  have M_3 := Lib.hid (M_2.out.below hb)
  have A_3 := Lib.hid (A_2.out.below hb)
  have B_3 := Lib.hid (B_2.out.below hb)
  have R_3 := Lib.hid (R_2.out.below hb)
  have W_3 := Lib.hid (W_2.out.trans (hb.mono W_2.out.size))
  refine hK _ _ hb ?_
  clear hK K hb M_2 A_2 B_2 R_2 W_2
  try simp only [Act.put, List.setIfInBounds_toArray, List.set_cons_zero, List.set_cons_succ]
  refine seqR_at (o := ?_) ?_ ?_
  rotate_left
  · (conv => (lhs; whnf; arg 1; whnf))
  refine seqR_y (v := ?_) (by rfl) (fun W hW => ?_) ?_
  rotate_left
  · have h9 := HSUM.out; go_simp; try with_reducible rfl
  try simp only [Act.put, List.setIfInBounds_toArray, List.set_cons_zero, List.set_cons_succ]
  refine seqR_at (o := ?_) ?_ ?_
  rotate_left
  · (conv => (lhs; whnf; arg 1; whnf))
  refine seqR_y (v := ?_) (by rfl) (fun W hW => ?_) ?_
  rotate_left
  · have h9 := D0.out; go_simp; try with_reducible rfl
  try simp only [Act.put, List.setIfInBounds_toArray, List.set_cons_zero, List.set_cons_succ]
  refine seqR_end ?_
  go_wp2_with (first | go_skip | (refine wpl_ldN ntMod rfl rfl rfl M_3.out ?_) | (refine wpl_ldN_g ntMod ?hw rfl rfl M_3.out ?_; (case hw => rfl)) | (refine wpl_ldN ntNat rfl rfl rfl M_3.out ?_) | (refine wpl_ldN_g ntNat ?hw rfl rfl M_3.out ?_; (case hw => rfl)) | (refine wpl_ldN ntNat rfl rfl rfl A_3.out ?_) | (refine wpl_ldN_g ntNat ?hw rfl rfl A_3.out ?_; (case hw => rfl)) | (refine wpl_ldN ntNat rfl rfl rfl B_3.out ?_) | (refine wpl_ldN_g ntNat ?hw rfl rfl B_3.out ?_; (case hw => rfl)) | (refine wpl_ldN ntNat rfl rfl rfl R_3.out ?_) | (refine wpl_ldN_g ntNat ?hw rfl rfl R_3.out ?_; (case hw => rfl)))
  refine (bitLen_any m _ FM.out).mono ?_
  rintro e p4 ⟨rfl, hb⟩
  have M_4 := Lib.hid (M_3.out.below hb)
  have A_4 := Lib.hid (A_3.out.below hb)
  have B_4 := Lib.hid (B_3.out.below hb)
  have R_4 := Lib.hid (R_3.out.below hb)
  have W_4 := Lib.hid (W_3.out.trans (hb.mono W_3.out.size))
  clear hb M_3 A_3 B_3 R_3 W_3
  go_wp2_with (first | go_skip | (refine wpl_ldN ntMod rfl rfl rfl M_4.out ?_) | (refine wpl_ldN_g ntMod ?hw rfl rfl M_4.out ?_; (case hw => rfl)) | (refine wpl_ldN ntNat rfl rfl rfl M_4.out ?_) | (refine wpl_ldN_g ntNat ?hw rfl rfl M_4.out ?_; (case hw => rfl)) | (refine wpl_ldN ntNat rfl rfl rfl A_4.out ?_) | (refine wpl_ldN_g ntNat ?hw rfl rfl A_4.out ?_; (case hw => rfl)) | (refine wpl_ldN ntNat rfl rfl rfl B_4.out ?_) | (refine wpl_ldN_g ntNat ?hw rfl rfl B_4.out ?_; (case hw => rfl)) | (refine wpl_ldN ntNat rfl rfl rfl R_4.out ?_) | (refine wpl_ldN_g ntNat ?hw rfl rfl R_4.out ?_; (case hw => rfl)))
  refine region_road (KeepN (w.heap.size + 1 + 1 + 1)) [(0, true), (1, true), (2, true), (3, true), (4, true), (5, false), (6, true), (7, false), (8, false)] (by kernel_rfl) (by kernel_rfl) (by kernel_rfl) (by kernel_rfl) (by kernel_rfl) (by kernel_rfl) (keepN_refl _) (keepN_trans _) (fun _ _ d _ _ h => by cases d <;> exact h) ?_
  have M_5 := Lib.hid (M_4.out.below ((Below.refl p4.heap.size p4).drew))
  have A_5 := Lib.hid (A_4.out.below ((Below.refl p4.heap.size p4).drew))
  have B_5 := Lib.hid (B_4.out.below ((Below.refl p4.heap.size p4).drew))
  have R_5 := Lib.hid (R_4.out.below ((Below.refl p4.heap.size p4).drew))
  have W_5 := Lib.hid (W_4.out.trans (((Below.refl p4.heap.size p4).drew).mono W_4.out.size))
  clear M_4 A_4 B_4 R_4 W_4
  generalize p4.drew = d5 at M_5 A_5 B_5 R_5 W_5 ⊢
  refine seqR_at (o := ?_) ?_ ?_
  rotate_left
  · (conv => (lhs; whnf; arg 1; whnf))
  refine seqR_y (v := ?_) (by rfl) (fun W hW => ?_) ?_
  rotate_left
  · (refine exec_ldN (x := .tmp 3) ntMod ?_ ?_ (hW _ _ (by omega) M_5.out)) <;> rfl
  try simp only [Act.put, List.setIfInBounds_toArray, List.set_cons_zero, List.set_cons_succ]
  refine seqR_at (o := ?_) ?_ ?_
  rotate_left
  · (conv => (lhs; whnf; arg 1; whnf))
  refine seqR_y (v := ?_) (by rfl) (fun W hW => ?_) ?_
  rotate_left
  · (refine exec_ldN (x := .tmp 4) ntNat ?_ ?_ (hW _ _ (by omega) A_5.out)) <;> rfl
  try simp only [Act.put, List.setIfInBounds_toArray, List.set_cons_zero, List.set_cons_succ]
  refine seqR_at (o := ?_) ?_ ?_
  rotate_left
  · (conv => (lhs; whnf; arg 1; whnf))
  refine seqR_y (v := ?_) (by rfl) (fun W hW => ?_) ?_
  rotate_left
  · (refine exec_ldN (x := .tmp 5) ntNat ?_ ?_ (hW _ _ (by omega) B_5.out)) <;> rfl
  try simp only [Act.put, List.setIfInBounds_toArray, List.set_cons_zero, List.set_cons_succ]
  refine seqR_at (o := ?_) ?_ ?_
  rotate_left
  · (conv => (lhs; whnf; arg 1; whnf))
  refine seqR_y (v := ?_) (by rfl) (fun W hW => ?_) ?_
  rotate_left
  · go_simp; try with_reducible rfl
  try simp only [Act.put, List.setIfInBounds_toArray, List.set_cons_zero, List.set_cons_succ]
  refine seqR_at (o := ?_) ?_ ?_
  rotate_left
  · (conv => (lhs; whnf; arg 1; whnf))
  refine seqR_y (v := ?_) (by rfl) (fun W hW => ?_) ?_
  rotate_left
  · (refine exec_ldN (x := .tmp 37) ntNat ?_ ?_ (hW _ _ (by omega) M_5.out)) <;> rfl
  try simp only [Act.put, List.setIfInBounds_toArray, List.set_cons_zero, List.set_cons_succ]
  refine seqR_at (o := ?_) ?_ ?_
  rotate_left
  · (conv => (lhs; whnf; arg 1; whnf))
  refine seqR_c (by rfl) (fun K hK => ?_)
  go_simp
  refine (bitLen_any m _ FM.out).mono ?_
  rintro e p6 ⟨rfl, hb⟩
  have M_6 := Lib.hid (M_5.out.below hb)
  have A_6 := Lib.hid (A_5.out.below hb)
  have B_6 := Lib.hid (B_5.out.below hb)
  have R_6 := Lib.hid (R_5.out.below hb)
  have W_6 := Lib.hid (W_5.out.trans (hb.mono W_5.out.size))
  refine hK _ _ (fun b n _ h => h.below hb) ?_
  clear hK K hb M_5 A_5 B_5 R_5 W_5
  try simp only [Act.put, List.setIfInBounds_toArray, List.set_cons_zero, List.set_cons_succ]
  refine seqR_at (o := ?_) ?_ ?_
  rotate_left
  · (conv => (lhs; whnf; arg 1; whnf))
  refine seqR_y (v := ?_) (by rfl) (fun W hW => ?_) ?_
  rotate_left
  · have h9 := HSUB.out; go_simp; try with_reducible rfl
  try simp only [Act.put, List.setIfInBounds_toArray, List.set_cons_zero, List.set_cons_succ]
  refine seqR_at (o := ?_) ?_ ?_
  rotate_left
  · (conv => (lhs; whnf; arg 1; whnf))
  refine seqR_c (by rfl) (fun K hK => ?_)
  go_simp
  refine (parts_ok s _ FM.out FA1.out FB1.out HS.out HS1.out FR.out).mono ?_
  rintro e p7 ⟨rfl, hb⟩
  have M_7 := Lib.hid (M_6.out.below hb)
  have A_7 := Lib.hid (A_6.out.below hb)
  have B_7 := Lib.hid (B_6.out.below hb)
  have R_7 := Lib.hid (R_6.out.below hb)
  have W_7 := Lib.hid (W_6.out.trans (hb.mono W_6.out.size))
  refine hK _ _ (fun b n _ h => h.below hb) ?_
  clear hK K hb M_6 A_6 B_6 R_6 W_6
  try simp only [Act.put, List.setIfInBounds_toArray, List.set_cons_zero, List.set_cons_succ]
  refine seqR_at (o := ?_) ?_ ?_
  rotate_left
  · (conv => (lhs; whnf; arg 1; whnf))
  refine seqR_c (by rfl) (fun K hK => ?_)
  refine wp_stN ntNat rfl rfl (m := r) rfl R_7.out ?_
  intro z8 hn hg
  have W_8 := Lib.hid (W_7.out.grown hg W_7.out.size (fun j e => by injection e with e; omega))
  have R_8 := Lib.hid hn
  refine hK _ _ (fun b n hne h => h.grown hg (fun e => hne (by injection e with e))) ?_
  clear hK K hn hg W_7 M_7 A_7 B_7 R_7
  try simp only [Act.put, List.setIfInBounds_toArray, List.set_cons_zero, List.set_cons_succ]
  refine seqR_end ?_
  go_wp2_with (first | go_skip | (refine wpl_ldN ntNat rfl rfl rfl R_8.out ?_) | (refine wpl_ldN_g ntNat ?hw rfl rfl R_8.out ?_; (case hw => rfl)))
  refine bodyPost_ret (results_one rfl _ _ rfl R_8.out) rfl ?_
  exact ⟨rfl, W_8.out⟩

theorem times_ok {m a b r : Nat} (w : World) (hm : Fit m) (ha : a < m) (hb : b < m) (hr : a * b % m = r) :
    Calls Try.prog 40 #[.agg (natA m), .agg (natA a), .agg (natA b)] w fun e w' => e = .returned (.agg (natA r)) ∧ Below w.heap.size w w' := by
  by_cases h1 : bl a + bl b ≤ 1024
  · exact times_fit w hm ha hb h1 hr
  · by_cases h2 : 1008 < bl m
    · exact times_rep w hm ha hb h1 h2 hr
    · exact times_parts w hm ha hb h1 h2 hr
theorem times_op {m a : Nat} (hm : Fit m) (h0 : m ≠ 0) : OpG 40 m (fun j => a ^ j % m) := fun j k W =>
  times_ok W hm (Nat.mod_lt _ (Nat.pos_of_ne_zero h0)) (Nat.mod_lt _ (Nat.pos_of_ne_zero h0)) (by rw [← Nat.mul_mod, ← Nat.pow_add])
theorem enters_times : ∀ (args : Array Value) (W : World), (callFunc 40 args).run Try.prog W = .ok (.enter 40 args) W := enters_of Try.func40 (by kernel_rfl) rfl

end Go.Proofs.Ytfmadiepefbepaa
