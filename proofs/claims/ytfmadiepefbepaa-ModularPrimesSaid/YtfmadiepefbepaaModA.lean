/- Walks of package modular: residue, less, plus, one (printed by genmoda.py). -/
import Derived.Test.YtfmadiepefbepaaNatKK
set_option linter.unusedVariables false
set_option linter.unusedSimpArgs false
set_option maxRecDepth 20000
namespace Go.Proofs.Ytfmadiepefbepaa
open Go.RowKit

theorem ntMod : NT Try.prog 60 := ⟨_, Try.underlying60, rfl, by kernel_rfl⟩
set_option maxHeartbeats 3200000 in
theorem residue_ok {m a r : Nat} (w : World) (hm : Fit m) (ha : Fit a) (h0 : m ≠ 0) (hr : a % m = r) :
    Calls Try.prog 46 #[.agg (natA m), .agg (natA a)] w fun e w' => e = .returned (.agg (natA r)) ∧ Below w.heap.size w w' := by
  have FM := Lib.hid hm
  have FA := Lib.hid ha
  have F0 := Lib.hid h0
  have FR := Lib.hid hr
  clear hm ha h0 hr
  have HM : Hid (NatAt (((w.alloc (.cells (natA m) 60)).alloc (.cells (natA a) 37)).alloc (.cells z0 37)) (w.heap.size) (m)) := Lib.hid (by
    have h := NatAt.new w (m) 60
    replace h := h.alloc (.cells (natA a) 37)
    replace h := h.alloc (.cells z0 37)
    simpa using h)
  have HA : Hid (NatAt (((w.alloc (.cells (natA m) 60)).alloc (.cells (natA a) 37)).alloc (.cells z0 37)) (w.heap.size + 1) (a)) := Lib.hid (by
    have h := NatAt.new (w.alloc (.cells (natA m) 60)) (a) 37
    replace h := h.alloc (.cells z0 37)
    simpa using h)
  have HR : Hid (NatAt (((w.alloc (.cells (natA m) 60)).alloc (.cells (natA a) 37)).alloc (.cells z0 37)) (w.heap.size + 1 + 1) (0)) := Lib.hid (by
    have h := NatAt.new ((w.alloc (.cells (natA m) 60)).alloc (.cells (natA a) 37)) (0) 37
    rw [natA_zero] at h
    simpa using h)
  have HW : Hid (Below w.heap.size w (((w.alloc (.cells (natA m) 60)).alloc (.cells (natA a) 37)).alloc (.cells z0 37))) := Lib.hid (by
    have h := Below.refl w.heap.size w
    replace h := h.alloc h.size (.cells (natA m) 60)
    replace h := h.alloc h.size (.cells (natA a) 37)
    replace h := h.alloc h.size (.cells z0 37)
    exact h)
  go_enter Try.func46, Try.ntmps46
  go_wp2_with (first | go_skip | (refine wpl_ldN ntMod rfl rfl rfl HM.out ?_) | (refine wpl_ldN_g ntMod ?hw rfl rfl HM.out ?_; (case hw => rfl)) | (refine wpl_ldN ntNat rfl rfl rfl HM.out ?_) | (refine wpl_ldN_g ntNat ?hw rfl rfl HM.out ?_; (case hw => rfl)) | (refine wpl_ldN ntNat rfl rfl rfl HA.out ?_) | (refine wpl_ldN_g ntNat ?hw rfl rfl HA.out ?_; (case hw => rfl)) | (refine wpl_ldN ntNat rfl rfl rfl HR.out ?_) | (refine wpl_ldN_g ntNat ?hw rfl rfl HR.out ?_; (case hw => rfl)))
  refine (div_ok _ FA.out FM.out F0.out rfl FR.out).mono ?_
  rintro e p1 ⟨rfl, hb⟩
  have XT0_1 := Lib.hid (NatAt.zeroA p1)
  have XT1_1 := Lib.hid (NatAt.zeroB p1)
  have XA_1 := Lib.hid (below_zero (below_zero hb hb.size) (Nat.le_trans hb.size (by rw [World.size_alloc]; exact Nat.le_succ _)))
  have hsz_1 := Lib.hid hb.size
  clear hb
  go_wp2_with (first | go_skip | (refine wpl_stN ntNat rfl rfl rfl rfl XT0_1.out ?_; intro r1_0 hn hg; have XB0_1 := Lib.hid (XA_1.out.grown hg XA_1.out.size (fun j e => by injection e with e; rw [← e]; have := hsz_1.out; omega)); have XS00_1 := Lib.hid hn; have XS01_1 := Lib.hid (XT1_1.out.grown hg (fun e => by injection e with e; omega)); clear hn hg XT0_1 XT1_1 XA_1) | (refine wpl_stN ntNat rfl rfl rfl rfl XS01_1.out ?_; intro q1 hn hg; have XB1_1 := Lib.hid (XB0_1.out.grown hg XB0_1.out.size (fun j e => by injection e with e; rw [← e]; have := hsz_1.out; omega)); have XS10_1 := Lib.hid (XS00_1.out.grown hg (fun e => by injection e with e; omega)); have XS11_1 := Lib.hid hn; have M_1 := Lib.hid (HM.out.below XB1_1.out); have A_1 := Lib.hid (HA.out.below XB1_1.out); have R_1 := Lib.hid (HR.out.below XB1_1.out); have W_1 := Lib.hid (HW.out.trans (XB1_1.out.mono HW.out.size)); have q_1 := XS10_1; have r_1 := XS11_1; clear hn hg HM HA HR HW XS00_1 XS01_1 XB0_1 XS10_1 XS11_1 XB1_1 hsz_1) | (refine wpl_ldN ntMod rfl rfl rfl M_1.out ?_) | (refine wpl_ldN_g ntMod ?hw rfl rfl M_1.out ?_; (case hw => rfl)) | (refine wpl_ldN ntNat rfl rfl rfl M_1.out ?_) | (refine wpl_ldN_g ntNat ?hw rfl rfl M_1.out ?_; (case hw => rfl)) | (refine wpl_ldN ntNat rfl rfl rfl A_1.out ?_) | (refine wpl_ldN_g ntNat ?hw rfl rfl A_1.out ?_; (case hw => rfl)) | (refine wpl_ldN ntNat rfl rfl rfl R_1.out ?_) | (refine wpl_ldN_g ntNat ?hw rfl rfl R_1.out ?_; (case hw => rfl)) | (refine wpl_ldN ntNat rfl rfl rfl q_1.out ?_) | (refine wpl_ldN_g ntNat ?hw rfl rfl q_1.out ?_; (case hw => rfl)) | (refine wpl_ldN ntNat rfl rfl rfl r_1.out ?_) | (refine wpl_ldN_g ntNat ?hw rfl rfl r_1.out ?_; (case hw => rfl)) | (refine wpl_stN ntNat rfl rfl rfl rfl R_1.out ?_; intro z2 hn hg; have W_2 := Lib.hid (W_1.out.grown hg W_1.out.size (fun j e => by injection e with e; omega)); have R_2 := Lib.hid hn; clear hn hg W_1 M_1 A_1 R_1 q_1 r_1))
  refine bodyPost_ret (results_one rfl _ _ rfl R_2.out) rfl ?_
  exact ⟨rfl, W_2.out⟩

set_option maxHeartbeats 3200000 in
theorem less_lt {m a b r : Nat} (w : World) (hm : Fit m) (ha : Fit a) (hb : Fit b) (hab : a < b) (hbm : b - a ≤ m) (hr : m - (b - a) = r) :
    Calls Try.prog 42 #[.agg (natA m), .agg (natA a), .agg (natA b)] w fun e w' => e = .returned (.agg (natA r)) ∧ Below w.heap.size w w' := by
  have FM := Lib.hid hm
  have FA := Lib.hid ha
  have FB := Lib.hid hb
  have FAB := Lib.hid hab
  have FR := Lib.hid hr
  obtain ⟨g, hg⟩ : ∃ g, b - a = g := ⟨_, rfl⟩
  have FG := Lib.hid hg
  have FGM : Hid (g ≤ m) := Lib.hid (by omega)
  have FFG : Hid (Fit g) := Lib.hid (by rw [← hg]; exact Nat.lt_of_le_of_lt (Nat.sub_le _ _) hb)
  have FR2 : Hid (m - g = r) := Lib.hid (by rw [← hg]; exact hr)
  have FC : Hid (cmpI a b = -1) := Lib.hid (by unfold cmpI; rw [if_pos hab])
  clear hm ha hb hab hr hg hbm
  have HM : Hid (NatAt ((((w.alloc (.cells (natA m) 60)).alloc (.cells (natA a) 37)).alloc (.cells (natA b) 37)).alloc (.cells z0 37)) (w.heap.size) (m)) := Lib.hid (by
    have h := NatAt.new w (m) 60
    replace h := h.alloc (.cells (natA a) 37)
    replace h := h.alloc (.cells (natA b) 37)
    replace h := h.alloc (.cells z0 37)
    simpa using h)
  have HA : Hid (NatAt ((((w.alloc (.cells (natA m) 60)).alloc (.cells (natA a) 37)).alloc (.cells (natA b) 37)).alloc (.cells z0 37)) (w.heap.size + 1) (a)) := Lib.hid (by
    have h := NatAt.new (w.alloc (.cells (natA m) 60)) (a) 37
    replace h := h.alloc (.cells (natA b) 37)
    replace h := h.alloc (.cells z0 37)
    simpa using h)
  have HB : Hid (NatAt ((((w.alloc (.cells (natA m) 60)).alloc (.cells (natA a) 37)).alloc (.cells (natA b) 37)).alloc (.cells z0 37)) (w.heap.size + 1 + 1) (b)) := Lib.hid (by
    have h := NatAt.new ((w.alloc (.cells (natA m) 60)).alloc (.cells (natA a) 37)) (b) 37
    replace h := h.alloc (.cells z0 37)
    simpa using h)
  have HR : Hid (NatAt ((((w.alloc (.cells (natA m) 60)).alloc (.cells (natA a) 37)).alloc (.cells (natA b) 37)).alloc (.cells z0 37)) (w.heap.size + 1 + 1 + 1) (0)) := Lib.hid (by
    have h := NatAt.new (((w.alloc (.cells (natA m) 60)).alloc (.cells (natA a) 37)).alloc (.cells (natA b) 37)) (0) 37
    rw [natA_zero] at h
    simpa using h)
  have HW : Hid (Below w.heap.size w ((((w.alloc (.cells (natA m) 60)).alloc (.cells (natA a) 37)).alloc (.cells (natA b) 37)).alloc (.cells z0 37))) := Lib.hid (by
    have h := Below.refl w.heap.size w
    replace h := h.alloc h.size (.cells (natA m) 60)
    replace h := h.alloc h.size (.cells (natA a) 37)
    replace h := h.alloc h.size (.cells (natA b) 37)
    replace h := h.alloc h.size (.cells z0 37)
    exact h)
  go_enter Try.func42, Try.ntmps42
  go_wp2_with (first | go_skip | (refine wpl_ldN ntMod rfl rfl rfl HM.out ?_) | (refine wpl_ldN_g ntMod ?hw rfl rfl HM.out ?_; (case hw => rfl)) | (refine wpl_ldN ntNat rfl rfl rfl HM.out ?_) | (refine wpl_ldN_g ntNat ?hw rfl rfl HM.out ?_; (case hw => rfl)) | (refine wpl_ldN ntNat rfl rfl rfl HA.out ?_) | (refine wpl_ldN_g ntNat ?hw rfl rfl HA.out ?_; (case hw => rfl)) | (refine wpl_ldN ntNat rfl rfl rfl HB.out ?_) | (refine wpl_ldN_g ntNat ?hw rfl rfl HB.out ?_; (case hw => rfl)) | (refine wpl_ldN ntNat rfl rfl rfl HR.out ?_) | (refine wpl_ldN_g ntNat ?hw rfl rfl HR.out ?_; (case hw => rfl)))
  refine (compare_ok _ FA.out FB.out FC.out).mono ?_
  rintro e p1 ⟨rfl, hb⟩
  have M_1 := Lib.hid (HM.out.below hb)
  have A_1 := Lib.hid (HA.out.below hb)
  have B_1 := Lib.hid (HB.out.below hb)
  have R_1 := Lib.hid (HR.out.below hb)
  have W_1 := Lib.hid (HW.out.trans (hb.mono HW.out.size))
  clear hb HM HA HB HR HW
  go_wp2_with (first | go_skip | (refine wpl_ldN ntMod rfl rfl rfl M_1.out ?_) | (refine wpl_ldN_g ntMod ?hw rfl rfl M_1.out ?_; (case hw => rfl)) | (refine wpl_ldN ntNat rfl rfl rfl M_1.out ?_) | (refine wpl_ldN_g ntNat ?hw rfl rfl M_1.out ?_; (case hw => rfl)) | (refine wpl_ldN ntNat rfl rfl rfl A_1.out ?_) | (refine wpl_ldN_g ntNat ?hw rfl rfl A_1.out ?_; (case hw => rfl)) | (refine wpl_ldN ntNat rfl rfl rfl B_1.out ?_) | (refine wpl_ldN_g ntNat ?hw rfl rfl B_1.out ?_; (case hw => rfl)) | (refine wpl_ldN ntNat rfl rfl rfl R_1.out ?_) | (refine wpl_ldN_g ntNat ?hw rfl rfl R_1.out ?_; (case hw => rfl)))
  refine (sub_ok _ FB.out FA.out (Nat.le_of_lt FAB.out) FG.out).mono ?_
  rintro e p2 ⟨rfl, hb⟩
  have XT0_2 := Lib.hid (NatAt.zero p2)
  have XA_2 := Lib.hid (below_zero hb hb.size)
  have hsz_2 : Hid (p1.heap.size ≤ p2.heap.size) := Lib.hid hb.size
  clear hb
  go_wp2_with (first | go_skip | (refine wpl_stN ntNat rfl rfl rfl rfl XT0_2.out ?_; intro q2 hn hg; have XB0_2 := Lib.hid (XA_2.out.grown hg XA_2.out.size (fun j e => by injection e with e; rw [← e]; have := hsz_2.out; omega)); have XS00_2 := Lib.hid hn; have M_2 := Lib.hid (M_1.out.below XB0_2.out); have A_2 := Lib.hid (A_1.out.below XB0_2.out); have B_2 := Lib.hid (B_1.out.below XB0_2.out); have R_2 := Lib.hid (R_1.out.below XB0_2.out); have W_2 := Lib.hid (W_1.out.trans (XB0_2.out.mono W_1.out.size)); have g_2 := XS00_2; clear hn hg M_1 A_1 B_1 R_1 W_1 XT0_2 XA_2 XS00_2 XB0_2 hsz_2) | (refine wpl_ldN ntMod rfl rfl rfl M_2.out ?_) | (refine wpl_ldN_g ntMod ?hw rfl rfl M_2.out ?_; (case hw => rfl)) | (refine wpl_ldN ntNat rfl rfl rfl M_2.out ?_) | (refine wpl_ldN_g ntNat ?hw rfl rfl M_2.out ?_; (case hw => rfl)) | (refine wpl_ldN ntNat rfl rfl rfl A_2.out ?_) | (refine wpl_ldN_g ntNat ?hw rfl rfl A_2.out ?_; (case hw => rfl)) | (refine wpl_ldN ntNat rfl rfl rfl B_2.out ?_) | (refine wpl_ldN_g ntNat ?hw rfl rfl B_2.out ?_; (case hw => rfl)) | (refine wpl_ldN ntNat rfl rfl rfl R_2.out ?_) | (refine wpl_ldN_g ntNat ?hw rfl rfl R_2.out ?_; (case hw => rfl)) | (refine wpl_ldN ntNat rfl rfl rfl g_2.out ?_) | (refine wpl_ldN_g ntNat ?hw rfl rfl g_2.out ?_; (case hw => rfl)))
  clear A_2
  clear B_2
  refine (sub_ok _ FM.out FFG.out FGM.out FR2.out).mono ?_
  rintro e p3 ⟨rfl, hb⟩
  have XT0_3 := Lib.hid (NatAt.zero p3)
  have XA_3 := Lib.hid (below_zero hb hb.size)
  have hsz_3 : Hid (q2.heap.size ≤ p3.heap.size) := Lib.hid hb.size
  clear hb
  go_wp2_with (first | go_skip | (refine wpl_stN ntNat rfl rfl rfl rfl XT0_3.out ?_; intro q3 hn hg; have XB0_3 := Lib.hid (XA_3.out.grown hg XA_3.out.size (fun j e => by injection e with e; rw [← e]; have := hsz_3.out; omega)); have XS00_3 := Lib.hid hn; have M_3 := Lib.hid (M_2.out.below XB0_3.out); have R_3 := Lib.hid (R_2.out.below XB0_3.out); have g_3 := Lib.hid (g_2.out.below XB0_3.out); have W_3 := Lib.hid (W_2.out.trans (XB0_3.out.mono W_2.out.size)); have o_3 := XS00_3; clear hn hg M_2 R_2 g_2 W_2 XT0_3 XA_3 XS00_3 XB0_3 hsz_3) | (refine wpl_ldN ntMod rfl rfl rfl M_3.out ?_) | (refine wpl_ldN_g ntMod ?hw rfl rfl M_3.out ?_; (case hw => rfl)) | (refine wpl_ldN ntNat rfl rfl rfl M_3.out ?_) | (refine wpl_ldN_g ntNat ?hw rfl rfl M_3.out ?_; (case hw => rfl)) | (refine wpl_ldN ntNat rfl rfl rfl R_3.out ?_) | (refine wpl_ldN_g ntNat ?hw rfl rfl R_3.out ?_; (case hw => rfl)) | (refine wpl_ldN ntNat rfl rfl rfl g_3.out ?_) | (refine wpl_ldN_g ntNat ?hw rfl rfl g_3.out ?_; (case hw => rfl)) | (refine wpl_ldN ntNat rfl rfl rfl o_3.out ?_) | (refine wpl_ldN_g ntNat ?hw rfl rfl o_3.out ?_; (case hw => rfl)) | (refine wpl_stN ntNat rfl rfl rfl rfl R_3.out ?_; intro z4 hn hg; have W_4 := Lib.hid (W_3.out.grown hg W_3.out.size (fun j e => by injection e with e; omega)); have R_4 := Lib.hid hn; clear hn hg W_3 M_3 R_3 g_3 o_3))
  refine bodyPost_ret (results_one rfl _ _ rfl R_4.out) rfl ?_
  exact ⟨rfl, W_4.out⟩

set_option maxHeartbeats 3200000 in
theorem less_ge {m a b r : Nat} (w : World) (hm : Fit m) (ha : Fit a) (hb : Fit b) (hab : b ≤ a) (hr : a - b = r) :
    Calls Try.prog 42 #[.agg (natA m), .agg (natA a), .agg (natA b)] w fun e w' => e = .returned (.agg (natA r)) ∧ Below w.heap.size w w' := by
  have FM := Lib.hid hm
  have FA := Lib.hid ha
  have FB := Lib.hid hb
  have FAB := Lib.hid hab
  have FR := Lib.hid hr
  obtain ⟨c, hc⟩ : ∃ c, cmpI a b = c := ⟨_, rfl⟩
  have FC := Lib.hid hc
  have d0 : decide (c < 0) = false := by rw [← hc]; unfold cmpI; rw [if_neg (by omega)]; split <;> rfl
  clear hm ha hb hab hr hc
  have HM : Hid (NatAt ((((w.alloc (.cells (natA m) 60)).alloc (.cells (natA a) 37)).alloc (.cells (natA b) 37)).alloc (.cells z0 37)) (w.heap.size) (m)) := Lib.hid (by
    have h := NatAt.new w (m) 60
    replace h := h.alloc (.cells (natA a) 37)
    replace h := h.alloc (.cells (natA b) 37)
    replace h := h.alloc (.cells z0 37)
    simpa using h)
  have HA : Hid (NatAt ((((w.alloc (.cells (natA m) 60)).alloc (.cells (natA a) 37)).alloc (.cells (natA b) 37)).alloc (.cells z0 37)) (w.heap.size + 1) (a)) := Lib.hid (by
    have h := NatAt.new (w.alloc (.cells (natA m) 60)) (a) 37
    replace h := h.alloc (.cells (natA b) 37)
    replace h := h.alloc (.cells z0 37)
    simpa using h)
  have HB : Hid (NatAt ((((w.alloc (.cells (natA m) 60)).alloc (.cells (natA a) 37)).alloc (.cells (natA b) 37)).alloc (.cells z0 37)) (w.heap.size + 1 + 1) (b)) := Lib.hid (by
    have h := NatAt.new ((w.alloc (.cells (natA m) 60)).alloc (.cells (natA a) 37)) (b) 37
    replace h := h.alloc (.cells z0 37)
    simpa using h)
  have HR : Hid (NatAt ((((w.alloc (.cells (natA m) 60)).alloc (.cells (natA a) 37)).alloc (.cells (natA b) 37)).alloc (.cells z0 37)) (w.heap.size + 1 + 1 + 1) (0)) := Lib.hid (by
    have h := NatAt.new (((w.alloc (.cells (natA m) 60)).alloc (.cells (natA a) 37)).alloc (.cells (natA b) 37)) (0) 37
    rw [natA_zero] at h
    simpa using h)
  have HW : Hid (Below w.heap.size w ((((w.alloc (.cells (natA m) 60)).alloc (.cells (natA a) 37)).alloc (.cells (natA b) 37)).alloc (.cells z0 37))) := Lib.hid (by
    have h := Below.refl w.heap.size w
    replace h := h.alloc h.size (.cells (natA m) 60)
    replace h := h.alloc h.size (.cells (natA a) 37)
    replace h := h.alloc h.size (.cells (natA b) 37)
    replace h := h.alloc h.size (.cells z0 37)
    exact h)
  go_enter Try.func42, Try.ntmps42
  go_wp2_with (first | go_skip | (refine wpl_ldN ntMod rfl rfl rfl HM.out ?_) | (refine wpl_ldN_g ntMod ?hw rfl rfl HM.out ?_; (case hw => rfl)) | (refine wpl_ldN ntNat rfl rfl rfl HM.out ?_) | (refine wpl_ldN_g ntNat ?hw rfl rfl HM.out ?_; (case hw => rfl)) | (refine wpl_ldN ntNat rfl rfl rfl HA.out ?_) | (refine wpl_ldN_g ntNat ?hw rfl rfl HA.out ?_; (case hw => rfl)) | (refine wpl_ldN ntNat rfl rfl rfl HB.out ?_) | (refine wpl_ldN_g ntNat ?hw rfl rfl HB.out ?_; (case hw => rfl)) | (refine wpl_ldN ntNat rfl rfl rfl HR.out ?_) | (refine wpl_ldN_g ntNat ?hw rfl rfl HR.out ?_; (case hw => rfl)))
  refine (compare_ok _ FA.out FB.out FC.out).mono ?_
  rintro e p1 ⟨rfl, hb⟩
  have M_1 := Lib.hid (HM.out.below hb)
  have A_1 := Lib.hid (HA.out.below hb)
  have B_1 := Lib.hid (HB.out.below hb)
  have R_1 := Lib.hid (HR.out.below hb)
  have W_1 := Lib.hid (HW.out.trans (hb.mono HW.out.size))
  clear hb HM HA HB HR HW
  go_wp2_with (first | go_skip | (refine wpl_ldN ntMod rfl rfl rfl M_1.out ?_) | (refine wpl_ldN_g ntMod ?hw rfl rfl M_1.out ?_; (case hw => rfl)) | (refine wpl_ldN ntNat rfl rfl rfl M_1.out ?_) | (refine wpl_ldN_g ntNat ?hw rfl rfl M_1.out ?_; (case hw => rfl)) | (refine wpl_ldN ntNat rfl rfl rfl A_1.out ?_) | (refine wpl_ldN_g ntNat ?hw rfl rfl A_1.out ?_; (case hw => rfl)) | (refine wpl_ldN ntNat rfl rfl rfl B_1.out ?_) | (refine wpl_ldN_g ntNat ?hw rfl rfl B_1.out ?_; (case hw => rfl)) | (refine wpl_ldN ntNat rfl rfl rfl R_1.out ?_) | (refine wpl_ldN_g ntNat ?hw rfl rfl R_1.out ?_; (case hw => rfl)))
  clear M_1
  refine (sub_ok _ FA.out FB.out FAB.out FR.out).mono ?_
  rintro e p2 ⟨rfl, hb⟩
  have XT0_2 := Lib.hid (NatAt.zero p2)
  have XA_2 := Lib.hid (below_zero hb hb.size)
  have hsz_2 : Hid (p1.heap.size ≤ p2.heap.size) := Lib.hid hb.size
  clear hb
  go_wp2_with (first | go_skip | (refine wpl_stN ntNat rfl rfl rfl rfl XT0_2.out ?_; intro q2 hn hg; have XB0_2 := Lib.hid (XA_2.out.grown hg XA_2.out.size (fun j e => by injection e with e; rw [← e]; have := hsz_2.out; omega)); have XS00_2 := Lib.hid hn; have A_2 := Lib.hid (A_1.out.below XB0_2.out); have B_2 := Lib.hid (B_1.out.below XB0_2.out); have R_2 := Lib.hid (R_1.out.below XB0_2.out); have W_2 := Lib.hid (W_1.out.trans (XB0_2.out.mono W_1.out.size)); have o_2 := XS00_2; clear hn hg A_1 B_1 R_1 W_1 XT0_2 XA_2 XS00_2 XB0_2 hsz_2) | (refine wpl_ldN ntNat rfl rfl rfl A_2.out ?_) | (refine wpl_ldN_g ntNat ?hw rfl rfl A_2.out ?_; (case hw => rfl)) | (refine wpl_ldN ntNat rfl rfl rfl B_2.out ?_) | (refine wpl_ldN_g ntNat ?hw rfl rfl B_2.out ?_; (case hw => rfl)) | (refine wpl_ldN ntNat rfl rfl rfl R_2.out ?_) | (refine wpl_ldN_g ntNat ?hw rfl rfl R_2.out ?_; (case hw => rfl)) | (refine wpl_ldN ntNat rfl rfl rfl o_2.out ?_) | (refine wpl_ldN_g ntNat ?hw rfl rfl o_2.out ?_; (case hw => rfl)) | (refine wpl_stN ntNat rfl rfl rfl rfl R_2.out ?_; intro z3 hn hg; have W_3 := Lib.hid (W_2.out.grown hg W_2.out.size (fun j e => by injection e with e; omega)); have R_3 := Lib.hid hn; clear hn hg W_2 A_2 B_2 R_2 o_2))
  refine bodyPost_ret (results_one rfl _ _ rfl R_3.out) rfl ?_
  exact ⟨rfl, W_3.out⟩

theorem less_ok {m a b r : Nat} (w : World) (hm : Fit m) (ha : a < m) (hb : b < m) (hr : (a + m - b) % m = r) :
    Calls Try.prog 42 #[.agg (natA m), .agg (natA a), .agg (natA b)] w fun e w' => e = .returned (.agg (natA r)) ∧ Below w.heap.size w w' := by
  have fa : Fit a := Nat.lt_trans ha hm
  have fb : Fit b := Nat.lt_trans hb hm
  by_cases h : a < b
  · refine less_lt w hm fa fb h (by omega) ?_
    rw [← hr, Nat.mod_eq_of_lt (by omega)]
    omega
  · refine less_ge w hm fa fb (by omega) ?_
    rw [← hr, show a + m - b = (a - b) + m from by omega, Nat.add_mod_right, Nat.mod_eq_of_lt (by omega)]
set_option maxHeartbeats 3200000 in
theorem plus_zero {m a b r : Nat} (w : World) (hm : Fit m) (ha : a < m) (hb : b < m) (h0 : b = 0) (hr : (a + b) % m = r) :
    Calls Try.prog 38 #[.agg (natA m), .agg (natA a), .agg (natA b)] w fun e w' => e = .returned (.agg (natA r)) ∧ Below w.heap.size w w' := by
  have FM := Lib.hid hm
  have FA := Lib.hid ha
  have FB := Lib.hid hb
  have FFB : Hid (Fit b) := Lib.hid (Nat.lt_trans hb hm)
  have FZ : Hid (decide (b = 0) = true) := Lib.hid (decide_eq_true h0)
  have hra : r = a := by rw [← hr, h0, Nat.add_zero, Nat.mod_eq_of_lt ha]
  subst hra
  clear hm ha hb h0 hr
  have HM : Hid (NatAt ((((w.alloc (.cells (natA m) 60)).alloc (.cells (natA r) 37)).alloc (.cells (natA b) 37)).alloc (.cells z0 37)) (w.heap.size) (m)) := Lib.hid (by
    have h := NatAt.new w (m) 60
    replace h := h.alloc (.cells (natA r) 37)
    replace h := h.alloc (.cells (natA b) 37)
    replace h := h.alloc (.cells z0 37)
    simpa using h)
  have HA : Hid (NatAt ((((w.alloc (.cells (natA m) 60)).alloc (.cells (natA r) 37)).alloc (.cells (natA b) 37)).alloc (.cells z0 37)) (w.heap.size + 1) (r)) := Lib.hid (by
    have h := NatAt.new (w.alloc (.cells (natA m) 60)) (r) 37
    replace h := h.alloc (.cells (natA b) 37)
    replace h := h.alloc (.cells z0 37)
    simpa using h)
  have HB : Hid (NatAt ((((w.alloc (.cells (natA m) 60)).alloc (.cells (natA r) 37)).alloc (.cells (natA b) 37)).alloc (.cells z0 37)) (w.heap.size + 1 + 1) (b)) := Lib.hid (by
    have h := NatAt.new ((w.alloc (.cells (natA m) 60)).alloc (.cells (natA r) 37)) (b) 37
    replace h := h.alloc (.cells z0 37)
    simpa using h)
  have HR : Hid (NatAt ((((w.alloc (.cells (natA m) 60)).alloc (.cells (natA r) 37)).alloc (.cells (natA b) 37)).alloc (.cells z0 37)) (w.heap.size + 1 + 1 + 1) (0)) := Lib.hid (by
    have h := NatAt.new (((w.alloc (.cells (natA m) 60)).alloc (.cells (natA r) 37)).alloc (.cells (natA b) 37)) (0) 37
    rw [natA_zero] at h
    simpa using h)
  have HW : Hid (Below w.heap.size w ((((w.alloc (.cells (natA m) 60)).alloc (.cells (natA r) 37)).alloc (.cells (natA b) 37)).alloc (.cells z0 37))) := Lib.hid (by
    have h := Below.refl w.heap.size w
    replace h := h.alloc h.size (.cells (natA m) 60)
    replace h := h.alloc h.size (.cells (natA r) 37)
    replace h := h.alloc h.size (.cells (natA b) 37)
    replace h := h.alloc h.size (.cells z0 37)
    exact h)
  go_enter Try.func38, Try.ntmps38
  go_wp2_with (first | go_skip | (refine wpl_ldN ntMod rfl rfl rfl HM.out ?_) | (refine wpl_ldN_g ntMod ?hw rfl rfl HM.out ?_; (case hw => rfl)) | (refine wpl_ldN ntNat rfl rfl rfl HM.out ?_) | (refine wpl_ldN_g ntNat ?hw rfl rfl HM.out ?_; (case hw => rfl)) | (refine wpl_ldN ntNat rfl rfl rfl HA.out ?_) | (refine wpl_ldN_g ntNat ?hw rfl rfl HA.out ?_; (case hw => rfl)) | (refine wpl_ldN ntNat rfl rfl rfl HB.out ?_) | (refine wpl_ldN_g ntNat ?hw rfl rfl HB.out ?_; (case hw => rfl)) | (refine wpl_ldN ntNat rfl rfl rfl HR.out ?_) | (refine wpl_ldN_g ntNat ?hw rfl rfl HR.out ?_; (case hw => rfl)))
  refine (isZero_ok _ FFB.out FZ.out).mono ?_
  rintro e p1 ⟨rfl, hb⟩
  have M_1 := Lib.hid (HM.out.below hb)
  have A_1 := Lib.hid (HA.out.below hb)
  have B_1 := Lib.hid (HB.out.below hb)
  have R_1 := Lib.hid (HR.out.below hb)
  have W_1 := Lib.hid (HW.out.trans (hb.mono HW.out.size))
  clear hb HM HA HB HR HW
  go_wp2_with (first | go_skip | (refine wpl_ldN ntMod rfl rfl rfl M_1.out ?_) | (refine wpl_ldN_g ntMod ?hw rfl rfl M_1.out ?_; (case hw => rfl)) | (refine wpl_ldN ntNat rfl rfl rfl M_1.out ?_) | (refine wpl_ldN_g ntNat ?hw rfl rfl M_1.out ?_; (case hw => rfl)) | (refine wpl_ldN ntNat rfl rfl rfl A_1.out ?_) | (refine wpl_ldN_g ntNat ?hw rfl rfl A_1.out ?_; (case hw => rfl)) | (refine wpl_ldN ntNat rfl rfl rfl B_1.out ?_) | (refine wpl_ldN_g ntNat ?hw rfl rfl B_1.out ?_; (case hw => rfl)) | (refine wpl_ldN ntNat rfl rfl rfl R_1.out ?_) | (refine wpl_ldN_g ntNat ?hw rfl rfl R_1.out ?_; (case hw => rfl)) | (refine wpl_stN ntNat rfl rfl rfl rfl R_1.out ?_; intro z2 hn hg; have W_2 := Lib.hid (W_1.out.grown hg W_1.out.size (fun j e => by injection e with e; omega)); have R_2 := Lib.hid hn; clear hn hg W_1 M_1 A_1 B_1 R_1))
  refine bodyPost_ret (results_one rfl _ _ rfl R_2.out) rfl ?_
  exact ⟨rfl, W_2.out⟩

set_option maxHeartbeats 3200000 in
theorem plus_more {m a b r : Nat} (w : World) (hm : Fit m) (ha : a < m) (hb : b < m) (h0 : b ≠ 0) (hr : (a + b) % m = r) :
    Calls Try.prog 38 #[.agg (natA m), .agg (natA a), .agg (natA b)] w fun e w' => e = .returned (.agg (natA r)) ∧ Below w.heap.size w w' := by
  have FM := Lib.hid hm
  have FA := Lib.hid ha
  have FB := Lib.hid hb
  have FFB : Hid (Fit b) := Lib.hid (Nat.lt_trans hb hm)
  have FZ : Hid (decide (b = 0) = false) := Lib.hid (decide_eq_false h0)
  obtain ⟨g, hg⟩ : ∃ g, m - b = g := ⟨_, rfl⟩
  have FG := Lib.hid hg
  have FBM : Hid (b ≤ m) := Lib.hid (Nat.le_of_lt hb)
  have FGM : Hid (g < m) := Lib.hid (by omega)
  have FR : Hid ((a + m - g) % m = r) := Lib.hid (by rw [← hr]; congr 1; omega)
  clear hm ha hb h0 hr hg
  have HM : Hid (NatAt ((((w.alloc (.cells (natA m) 60)).alloc (.cells (natA a) 37)).alloc (.cells (natA b) 37)).alloc (.cells z0 37)) (w.heap.size) (m)) := Lib.hid (by
    have h := NatAt.new w (m) 60
    replace h := h.alloc (.cells (natA a) 37)
    replace h := h.alloc (.cells (natA b) 37)
    replace h := h.alloc (.cells z0 37)
    simpa using h)
  have HA : Hid (NatAt ((((w.alloc (.cells (natA m) 60)).alloc (.cells (natA a) 37)).alloc (.cells (natA b) 37)).alloc (.cells z0 37)) (w.heap.size + 1) (a)) := Lib.hid (by
    have h := NatAt.new (w.alloc (.cells (natA m) 60)) (a) 37
    replace h := h.alloc (.cells (natA b) 37)
    replace h := h.alloc (.cells z0 37)
    simpa using h)
  have HB : Hid (NatAt ((((w.alloc (.cells (natA m) 60)).alloc (.cells (natA a) 37)).alloc (.cells (natA b) 37)).alloc (.cells z0 37)) (w.heap.size + 1 + 1) (b)) := Lib.hid (by
    have h := NatAt.new ((w.alloc (.cells (natA m) 60)).alloc (.cells (natA a) 37)) (b) 37
    replace h := h.alloc (.cells z0 37)
    simpa using h)
  have HR : Hid (NatAt ((((w.alloc (.cells (natA m) 60)).alloc (.cells (natA a) 37)).alloc (.cells (natA b) 37)).alloc (.cells z0 37)) (w.heap.size + 1 + 1 + 1) (0)) := Lib.hid (by
    have h := NatAt.new (((w.alloc (.cells (natA m) 60)).alloc (.cells (natA a) 37)).alloc (.cells (natA b) 37)) (0) 37
    rw [natA_zero] at h
    simpa using h)
  have HW : Hid (Below w.heap.size w ((((w.alloc (.cells (natA m) 60)).alloc (.cells (natA a) 37)).alloc (.cells (natA b) 37)).alloc (.cells z0 37))) := Lib.hid (by
    have h := Below.refl w.heap.size w
    replace h := h.alloc h.size (.cells (natA m) 60)
    replace h := h.alloc h.size (.cells (natA a) 37)
    replace h := h.alloc h.size (.cells (natA b) 37)
    replace h := h.alloc h.size (.cells z0 37)
    exact h)
  go_enter Try.func38, Try.ntmps38
  go_wp2_with (first | go_skip | (refine wpl_ldN ntMod rfl rfl rfl HM.out ?_) | (refine wpl_ldN_g ntMod ?hw rfl rfl HM.out ?_; (case hw => rfl)) | (refine wpl_ldN ntNat rfl rfl rfl HM.out ?_) | (refine wpl_ldN_g ntNat ?hw rfl rfl HM.out ?_; (case hw => rfl)) | (refine wpl_ldN ntNat rfl rfl rfl HA.out ?_) | (refine wpl_ldN_g ntNat ?hw rfl rfl HA.out ?_; (case hw => rfl)) | (refine wpl_ldN ntNat rfl rfl rfl HB.out ?_) | (refine wpl_ldN_g ntNat ?hw rfl rfl HB.out ?_; (case hw => rfl)) | (refine wpl_ldN ntNat rfl rfl rfl HR.out ?_) | (refine wpl_ldN_g ntNat ?hw rfl rfl HR.out ?_; (case hw => rfl)))
  refine (isZero_ok _ FFB.out FZ.out).mono ?_
  rintro e p1 ⟨rfl, hb⟩
  have M_1 := Lib.hid (HM.out.below hb)
  have A_1 := Lib.hid (HA.out.below hb)
  have B_1 := Lib.hid (HB.out.below hb)
  have R_1 := Lib.hid (HR.out.below hb)
  have W_1 := Lib.hid (HW.out.trans (hb.mono HW.out.size))
  clear hb HM HA HB HR HW
  go_wp2_with (first | go_skip | (refine wpl_ldN ntMod rfl rfl rfl M_1.out ?_) | (refine wpl_ldN_g ntMod ?hw rfl rfl M_1.out ?_; (case hw => rfl)) | (refine wpl_ldN ntNat rfl rfl rfl M_1.out ?_) | (refine wpl_ldN_g ntNat ?hw rfl rfl M_1.out ?_; (case hw => rfl)) | (refine wpl_ldN ntNat rfl rfl rfl A_1.out ?_) | (refine wpl_ldN_g ntNat ?hw rfl rfl A_1.out ?_; (case hw => rfl)) | (refine wpl_ldN ntNat rfl rfl rfl B_1.out ?_) | (refine wpl_ldN_g ntNat ?hw rfl rfl B_1.out ?_; (case hw => rfl)) | (refine wpl_ldN ntNat rfl rfl rfl R_1.out ?_) | (refine wpl_ldN_g ntNat ?hw rfl rfl R_1.out ?_; (case hw => rfl)))
  refine (sub_ok _ FM.out FFB.out FBM.out FG.out).mono ?_
  rintro e p2 ⟨rfl, hb⟩
  have XT0_2 := Lib.hid (NatAt.zero p2)
  have XA_2 := Lib.hid (below_zero hb hb.size)
  have hsz_2 : Hid (p1.heap.size ≤ p2.heap.size) := Lib.hid hb.size
  clear hb
  go_wp2_with (first | go_skip | (refine wpl_stN ntNat rfl rfl rfl rfl XT0_2.out ?_; intro q2 hn hg; have XB0_2 := Lib.hid (XA_2.out.grown hg XA_2.out.size (fun j e => by injection e with e; rw [← e]; have := hsz_2.out; omega)); have XS00_2 := Lib.hid hn; have M_2 := Lib.hid (M_1.out.below XB0_2.out); have A_2 := Lib.hid (A_1.out.below XB0_2.out); have B_2 := Lib.hid (B_1.out.below XB0_2.out); have R_2 := Lib.hid (R_1.out.below XB0_2.out); have W_2 := Lib.hid (W_1.out.trans (XB0_2.out.mono W_1.out.size)); have g_2 := XS00_2; clear hn hg M_1 A_1 B_1 R_1 W_1 XT0_2 XA_2 XS00_2 XB0_2 hsz_2) | (refine wpl_ldN ntMod rfl rfl rfl M_2.out ?_) | (refine wpl_ldN_g ntMod ?hw rfl rfl M_2.out ?_; (case hw => rfl)) | (refine wpl_ldN ntNat rfl rfl rfl M_2.out ?_) | (refine wpl_ldN_g ntNat ?hw rfl rfl M_2.out ?_; (case hw => rfl)) | (refine wpl_ldN ntNat rfl rfl rfl A_2.out ?_) | (refine wpl_ldN_g ntNat ?hw rfl rfl A_2.out ?_; (case hw => rfl)) | (refine wpl_ldN ntNat rfl rfl rfl B_2.out ?_) | (refine wpl_ldN_g ntNat ?hw rfl rfl B_2.out ?_; (case hw => rfl)) | (refine wpl_ldN ntNat rfl rfl rfl R_2.out ?_) | (refine wpl_ldN_g ntNat ?hw rfl rfl R_2.out ?_; (case hw => rfl)) | (refine wpl_ldN ntNat rfl rfl rfl g_2.out ?_) | (refine wpl_ldN_g ntNat ?hw rfl rfl g_2.out ?_; (case hw => rfl)))
  clear B_2
  refine (less_ok _ FM.out FA.out FGM.out FR.out).mono ?_
  rintro e p3 ⟨rfl, hb⟩
  have M_3 := Lib.hid (M_2.out.below hb)
  have A_3 := Lib.hid (A_2.out.below hb)
  have R_3 := Lib.hid (R_2.out.below hb)
  have g_3 := Lib.hid (g_2.out.below hb)
  have W_3 := Lib.hid (W_2.out.trans (hb.mono W_2.out.size))
  clear hb M_2 A_2 R_2 g_2 W_2
  go_wp2_with (first | go_skip | (refine wpl_ldN ntMod rfl rfl rfl M_3.out ?_) | (refine wpl_ldN_g ntMod ?hw rfl rfl M_3.out ?_; (case hw => rfl)) | (refine wpl_ldN ntNat rfl rfl rfl M_3.out ?_) | (refine wpl_ldN_g ntNat ?hw rfl rfl M_3.out ?_; (case hw => rfl)) | (refine wpl_ldN ntNat rfl rfl rfl A_3.out ?_) | (refine wpl_ldN_g ntNat ?hw rfl rfl A_3.out ?_; (case hw => rfl)) | (refine wpl_ldN ntNat rfl rfl rfl R_3.out ?_) | (refine wpl_ldN_g ntNat ?hw rfl rfl R_3.out ?_; (case hw => rfl)) | (refine wpl_ldN ntNat rfl rfl rfl g_3.out ?_) | (refine wpl_ldN_g ntNat ?hw rfl rfl g_3.out ?_; (case hw => rfl)) | (refine wpl_stN ntNat rfl rfl rfl rfl R_3.out ?_; intro z4 hn hg; have W_4 := Lib.hid (W_3.out.grown hg W_3.out.size (fun j e => by injection e with e; omega)); have R_4 := Lib.hid hn; clear hn hg W_3 M_3 A_3 R_3 g_3))
  refine bodyPost_ret (results_one rfl _ _ rfl R_4.out) rfl ?_
  exact ⟨rfl, W_4.out⟩

theorem plus_ok {m a b r : Nat} (w : World) (hm : Fit m) (ha : a < m) (hb : b < m) (hr : (a + b) % m = r) :
    Calls Try.prog 38 #[.agg (natA m), .agg (natA a), .agg (natA b)] w fun e w' => e = .returned (.agg (natA r)) ∧ Below w.heap.size w w' := by
  by_cases h : b = 0
  · exact plus_zero w hm ha hb h hr
  · exact plus_more w hm ha hb h hr
set_option maxHeartbeats 3200000 in
theorem one_any (w : World) :
    Calls Try.prog 47 #[] w fun e w' => e = .returned (.agg (natA 1)) ∧ Below w.heap.size w w' := by
  have HR : Hid (NatAt (w.alloc (.cells z0 37)) (w.heap.size) (0)) := Lib.hid (by
    have h := NatAt.new w (0) 37
    rw [natA_zero] at h
    simpa using h)
  have HW : Hid (Below w.heap.size w (w.alloc (.cells z0 37))) := Lib.hid (by
    have h := Below.refl w.heap.size w
    replace h := h.alloc h.size (.cells z0 37)
    exact h)
  go_enter Try.func47, Try.ntmps47
  go_wp2_with (first | go_skip | (refine wpl_ldN ntNat rfl rfl rfl HR.out ?_) | (refine wpl_ldN_g ntNat ?hw rfl rfl HR.out ?_; (case hw => rfl)))
  refine (fromInt_pos 1 _ (by decide)).mono ?_
  rintro e p1 ⟨rfl, hb⟩
  have XT0_1 := Lib.hid (NatAt.zero p1)
  have XA_1 := Lib.hid (below_zero hb hb.size)
  have hsz_1 := Lib.hid hb.size
  clear hb
  go_wp2_with (first | go_skip | (refine wpl_stN ntNat rfl rfl rfl rfl XT0_1.out ?_; intro q1 hn hg; have XB0_1 := Lib.hid (XA_1.out.grown hg XA_1.out.size (fun j e => by injection e with e; rw [← e]; have := hsz_1.out; omega)); have XS00_1 := Lib.hid hn; have R_1 := Lib.hid (HR.out.below XB0_1.out); have W_1 := Lib.hid (HW.out.trans (XB0_1.out.mono HW.out.size)); have o_1 := XS00_1; clear hn hg HR HW XT0_1 XA_1 XS00_1 XB0_1 hsz_1) | (refine wpl_ldN ntNat rfl rfl rfl R_1.out ?_) | (refine wpl_ldN_g ntNat ?hw rfl rfl R_1.out ?_; (case hw => rfl)) | (refine wpl_ldN ntNat rfl rfl rfl o_1.out ?_) | (refine wpl_ldN_g ntNat ?hw rfl rfl o_1.out ?_; (case hw => rfl)) | (refine wpl_stN ntNat rfl rfl rfl rfl R_1.out ?_; intro z2 hn hg; have W_2 := Lib.hid (W_1.out.grown hg W_1.out.size (fun j e => by injection e with e; omega)); have R_2 := Lib.hid hn; clear hn hg W_1 R_1 o_1))
  refine bodyPost_ret (results_one rfl _ _ rfl R_2.out) rfl ?_
  exact ⟨rfl, W_2.out⟩

end Go.Proofs.Ytfmadiepefbepaa
