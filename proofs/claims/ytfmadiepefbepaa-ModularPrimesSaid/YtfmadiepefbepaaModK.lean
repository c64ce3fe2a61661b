/- Walks: Inverse without a modulus; the reference's Inverse (printed by genmodk.py). -/
import Derived.Test.YtfmadiepefbepaaModJ
set_option linter.unusedVariables false
set_option linter.unusedSimpArgs false
set_option maxRecDepth 20000
namespace Go.Proofs.Ytfmadiepefbepaa
open Go.RowKit

set_option maxHeartbeats 1600000 in
theorem inverse_zero {m a : Nat} (w : World) (hm : m = 0) :
    Calls Try.prog 27 #[.agg (natA a), .agg (natA m)] w fun e w' => e = .returned (.tuple #[.agg (natA 0), .int .i64 2]) ∧ Below w.heap.size w w' := by
  have FZ : Hid (decide (m = 0) = true) := Lib.hid (decide_eq_true hm)
  have FM : Hid (Fit m) := Lib.hid (by rw [hm]; exact Fit.zero)
  clear hm
  have HA : Hid (NatAt (((w.alloc (.cells (natA a) 37)).alloc (.cells (natA m) 37)).alloc (.cells z0 37)) (w.heap.size) (a)) := Lib.hid (by
    have h := NatAt.new w (a) 37
    replace h := h.alloc (.cells (natA m) 37)
    replace h := h.alloc (.cells z0 37)
    simpa using h)
  have HM : Hid (NatAt (((w.alloc (.cells (natA a) 37)).alloc (.cells (natA m) 37)).alloc (.cells z0 37)) (w.heap.size + 1) (m)) := Lib.hid (by
    have h := NatAt.new (w.alloc (.cells (natA a) 37)) (m) 37
    replace h := h.alloc (.cells z0 37)
    simpa using h)
  have HR : Hid (NatAt (((w.alloc (.cells (natA a) 37)).alloc (.cells (natA m) 37)).alloc (.cells z0 37)) (w.heap.size + 1 + 1) (0)) := Lib.hid (by
    have h := NatAt.new ((w.alloc (.cells (natA a) 37)).alloc (.cells (natA m) 37)) (0) 37
    rw [natA_zero] at h
    simpa using h)
  have HW : Hid (Below w.heap.size w (((w.alloc (.cells (natA a) 37)).alloc (.cells (natA m) 37)).alloc (.cells z0 37))) := Lib.hid (by
    have h := Below.refl w.heap.size w
    replace h := h.alloc h.size (.cells (natA a) 37)
    replace h := h.alloc h.size (.cells (natA m) 37)
    replace h := h.alloc h.size (.cells z0 37)
    exact h)
  go_enter Try.func27, Try.ntmps27
  go_wp2_with (first | go_skip | (refine wpl_ldN ntNat rfl rfl rfl HA.out ?_) | (refine wpl_ldN_g ntNat ?hw rfl rfl HA.out ?_; (case hw => rfl)) | (refine wpl_ldN ntNat rfl rfl rfl HM.out ?_) | (refine wpl_ldN_g ntNat ?hw rfl rfl HM.out ?_; (case hw => rfl)) | (refine wpl_ldN ntNat rfl rfl rfl HR.out ?_) | (refine wpl_ldN_g ntNat ?hw rfl rfl HR.out ?_; (case hw => rfl)))
  refine (isZero_ok _ FM.out FZ.out).mono ?_
  rintro e p1 ⟨rfl, hb⟩
  have A_1 := Lib.hid (HA.out.below hb)
  have M_1 := Lib.hid (HM.out.below hb)
  have R_1 := Lib.hid (HR.out.below hb)
  have W_1 := Lib.hid (HW.out.trans (hb.mono HW.out.size))
  clear hb HA HM HR HW
  go_wp2_with (first | go_skip | (refine wpl_ldN ntNat rfl rfl rfl A_1.out ?_) | (refine wpl_ldN_g ntNat ?hw rfl rfl A_1.out ?_; (case hw => rfl)) | (refine wpl_ldN ntNat rfl rfl rfl M_1.out ?_) | (refine wpl_ldN_g ntNat ?hw rfl rfl M_1.out ?_; (case hw => rfl)) | (refine wpl_ldN ntNat rfl rfl rfl R_1.out ?_) | (refine wpl_ldN_g ntNat ?hw rfl rfl R_1.out ?_; (case hw => rfl)) | (refine wpl_build_nat rfl rfl ?_) | (refine wpl_stN ntNat rfl rfl rfl rfl R_1.out ?_; intro z2 hn hg; have W_2 := Lib.hid (W_1.out.grown hg W_1.out.size (fun j e => by injection e with e; omega)); have R_2 := Lib.hid hn; clear hn hg W_1 A_1 M_1 R_1))
  refine bodyPost_ret (results_nat rfl _ _ rfl R_2.out) rfl ?_
  exact ⟨rfl, W_2.out⟩

theorem inverse_is {m a x : Nat} (w : World) (hm : Fit m) (h0 : m ≠ 0) (ha : Fit a) (hr : invS m a = (1, x)) :
    Calls Try.prog 27 #[.agg (natA a), .agg (natA m)] w fun e w' => e = .returned (.tuple #[.agg (natA x), .int .i64 0]) ∧ Below w.heap.size w w' := by
  have h := inverse_main w hm h0 ha hr
  unfold RetI at h
  rwa [if_pos rfl, if_pos rfl] at h
theorem inverse_no {m a r x : Nat} (w : World) (hm : Fit m) (h0 : m ≠ 0) (ha : Fit a) (hr : invS m a = (r, x)) (h1 : r ≠ 1) :
    Calls Try.prog 27 #[.agg (natA a), .agg (natA m)] w fun e w' => e = .returned (.tuple #[.agg (natA 0), .int .i64 9]) ∧ Below w.heap.size w w' := by
  have h := inverse_main w hm h0 ha hr
  unfold RetI at h
  rwa [if_neg h1, if_neg h1] at h
/-- What the reference's Inverse returns. -/
def RetIR (w : World) (r x : Nat) (e : Ending) (w' : World) : Prop := (∃ v, e = .returned (.tuple #[v, .bool (decide (r = 1))]) ∧ (r = 1 → Lst w' v x)) ∧ Below w.heap.size w w'
theorem inv_next {xx m qq y tt nx : Nat} (hx : xx < m) (ht : qq % m * y % m = tt) (hn : (xx + m - tt) % m = nx) : (xx % m + m - qq * y % m % m) % m = nx := by
  rw [Nat.mod_eq_of_lt hx, Nat.mod_mod, ← Nat.mod_mul_mod, ht, hn]
theorem len_pos {s : Nat} (h : s ≠ 0) : 0 < c16 s := by
  rcases Nat.eq_zero_or_pos (c16 s) with h1 | h1
  · have := lt_c16 s
    rw [h1] at this
    unfold X16 at this
    exact absurd (by simpa using this) h
  · exact h1
set_option maxHeartbeats 12800000 in
theorem rinverse_ok {m a r x : Nat} (u z : Value) (w : World) (hu : Lst w u a) (hz : Lst w z m) (ha : c16 a ≤ 1000) (hm : c16 m ≤ 1000) (h0 : m ≠ 0) (hr : invS m a = (r, x)) :
    Calls Try.prog 28 #[u, z] w (RetIR w r x) := by
  have HU := Lib.hid hu
  have HZ := Lib.hid hz
  have FA := Lib.hid ha
  have FM := Lib.hid hm
  have F0 := Lib.hid h0
  have FR := Lib.hid hr
  clear hu hz ha hm h0 hr
  go_enter Try.func28, Try.ntmps28
  go_wp2_with fail
  refine (rred_ok _ _ _ HU.out HZ.out (Nat.le_trans FA.out (by decide)) (Nat.le_trans FM.out (by decide)) F0.out rfl).mono ?_
  rintro e p1 ⟨v1, rfl, hv, hb⟩
  have U_1 := Lib.hid (HU.out.below hb)
  have Z_1 := Lib.hid (HZ.out.below hb)
  have W_1 := Lib.hid (hb)
  clear hb HU HZ
  have S_1 := Lib.hid hv
  clear hv
  clear U_1
  go_wp2_with fail
  have b2 : Below p1.heap.size p1 ((p1.alloc (.cells #[] 3)).alloc (.cells #[.int .i64 1] 3)) := ((Below.refl _ _).alloc (Nat.le_refl _) _).alloc (by simp) _
  have S_2 := Lib.hid (S_1.out.below b2)
  have Z_2 := Lib.hid (Z_1.out.below b2)
  have W_2 := Lib.hid (W_1.out.trans (b2.mono W_1.out.size))
  have X_2 : Hid (Lst ((p1.alloc (.cells #[] 3)).alloc (.cells #[.int .i64 1] 3)) (.slice (some ⟨p1.heap.size, 0, none⟩) 0 0) 0) := Lib.hid ((Lst.zero p1).below ((Below.refl _ _).alloc (Nat.le_refl _) _))
  have O_2 : Hid (Lst ((p1.alloc (.cells #[] 3)).alloc (.cells #[.int .i64 1] 3)) (.slice (some ⟨p1.heap.size + 1, 0, none⟩) 1 1) 1) := Lib.hid (by have h := Lst.one (p1.alloc (.cells #[] 3)); rwa [World.size_alloc] at h)
  clear b2 S_1 Z_1 W_1
  refine (rred_ok _ _ _ O_2.out Z_2.out (Nat.le_trans (c16_int (v := 1) (by decide)) (by decide)) (Nat.le_trans FM.out (by decide)) F0.out rfl).mono ?_
  rintro e p4 ⟨v4, rfl, hv, hb⟩
  have S_4 := Lib.hid (S_2.out.below hb)
  have Z_4 := Lib.hid (Z_2.out.below hb)
  have X_4 := Lib.hid (X_2.out.below hb)
  have O_4 := Lib.hid (O_2.out.below hb)
  have W_4 := Lib.hid (W_2.out.trans (hb.mono W_2.out.size))
  clear hb S_2 Z_2 X_2 O_2 W_2
  have Y_4 := Lib.hid hv
  clear hv
  go_wp2_with fail
  clear O_4
  have hpos : 0 < m := Nat.pos_of_ne_zero F0.out
  have G0 := Lib.hid hpos
  have GI := FR.out
  unfold invS at GI
  have GI2 := Lib.hid GI
  clear GI hpos FR
  go_loopg [6, 7, 8, 9] (a % m) (fun f y6 y7 y8 y9 wr => ∃ rr s xx y, s ≤ f ∧ invF m f rr s xx y = (r, x) ∧ c16 rr ≤ 1000 ∧ s < m ∧ xx < m ∧ y < m ∧ Lst wr y6 rr ∧ Lst wr y7 s ∧ Lst wr y8 xx ∧ Lst wr y9 y ∧ Lst wr z m ∧ Below w.heap.size w wr)
  case atStart => exact ⟨m, a % m, 0, 1 % m, Nat.le_refl _, GI2.out, FM.out, Nat.mod_lt _ G0.out, G0.out, Nat.mod_lt _ G0.out, Z_4.out, S_4.out, X_4.out, Y_4.out, Z_4.out, W_4.out⟩
  case round =>
    clear S_4 Z_4 X_4 Y_4 W_4 GI2
    obtain ⟨rr, s, xx, y, hsf, hinv, hfr, hs, hx, hy, h6, h7, h8, h9, hz, hW⟩ := hrel
    obtain ⟨A7, c7, rfl, -⟩ := Lst.len h7
    have P_0 := Lib.hid h6
    have S_0 := Lib.hid h7
    have X_0 := Lib.hid h8
    have Y_0 := Lib.hid h9
    have Z_0 := Lib.hid hz
    have W_0 := Lib.hid hW
    have GP := Lib.hid hfr
    have GX := Lib.hid hx
    have GS : Hid (c16 s ≤ 1000) := Lib.hid (Nat.le_trans (c16_mono (Nat.le_of_lt hs)) FM.out)
    have GY : Hid (c16 y ≤ 1000) := Lib.hid (Nat.le_trans (c16_mono (Nat.le_of_lt hy)) FM.out)
    have GXC : Hid (c16 xx ≤ 1000) := Lib.hid (Nat.le_trans (c16_mono (Nat.le_of_lt hx)) FM.out)
    have GYL := Lib.hid hy
    have GSL := Lib.hid hs
    have HF := Lib.hid hsf
    have HI := Lib.hid hinv
    clear hsf hinv hfr hs hx hy h6 h7 h8 h9 hz hW
    by_cases hs0 : s = 0
    · have d0 : decide (0 < c16 s) = false := by rw [hs0]; rfl
      have hi := HI.out
      rw [hs0, invF_zero] at hi
      injection hi with hi1 hi2
      subst hi1
      subst hi2
      clear hs0 HI HF
      go_wp2_with fail
      have b2 : Below wr.heap.size wr (wr.alloc (.cells #[.int .i64 1] 3)) := (Below.refl _ _).alloc (Nat.le_refl _) _
      have P_1 := Lib.hid (P_0.out.below b2)
      have X_1 := Lib.hid (X_0.out.below b2)
      have W_1 := Lib.hid (W_0.out.trans (b2.mono W_0.out.size))
      have O_1 := Lib.hid (Lst.one wr)
      clear b2 P_0 S_0 X_0 Y_0 Z_0 W_0
      by_cases h1 : rr = 1
      · skip
        have H1 := Lib.hid h1
        have HC : Hid (cmpI rr 1 = 0) := Lib.hid (by rw [h1]; rfl)
        clear h1
        refine (rcompare_ok _ _ _ P_1.out O_1.out (Sz.of GP.out (by decide)) (sz_int (by decide)) HC.out).mono ?_
        rintro e p3 ⟨rfl, rfl⟩
        go_wp2_with fail
        go_ret2
        exact ⟨⟨_, by rw [decide_eq_true H1.out]; rfl, fun _ => X_1.out⟩, W_1.out⟩
      · skip
        have H1 := Lib.hid h1
        obtain ⟨c, hc⟩ : ∃ c, cmpI rr 1 = c := ⟨_, rfl⟩
        have hc0 : c ≠ 0 := by rw [← hc]; unfold cmpI; split; omega; split; omega; omega
        have d1 : (c == 0) = false := by simpa using hc0
        have d2 : (c != 0) = true := by simpa using hc0
        have HC := Lib.hid hc
        clear h1 hc hc0
        refine (rcompare_ok _ _ _ P_1.out O_1.out (Sz.of GP.out (by decide)) (sz_int (by decide)) HC.out).mono ?_
        rintro e p3 ⟨rfl, rfl⟩
        go_wp2_with fail
        go_ret2
        exact ⟨⟨_, by rw [decide_eq_false H1.out]; rfl, fun h => absurd h H1.out⟩, W_1.out⟩
    · have d0 : decide (0 < c16 s) = true := decide_eq_true (len_pos hs0)
      have HS0 := Lib.hid hs0
      obtain ⟨gk', hgk⟩ : ∃ g, gk = g + 1 := ⟨gk - 1, by have := HF.out; omega⟩
      have hi := HI.out
      rw [hgk, invF_step hs0] at hi
      obtain ⟨qq, hq⟩ : ∃ n, rr / s = n := ⟨_, rfl⟩
      obtain ⟨rs, hrs⟩ : ∃ n, rr % s = n := ⟨_, rfl⟩
      rw [hq, hrs] at hi
      obtain ⟨nx, hnx⟩ : ∃ n, (xx + m - qq % m * y % m) % m = n := ⟨_, rfl⟩
      rw [hnx] at hi
      have HI2 := Lib.hid hi
      have EQ := Lib.hid hq
      have ER := Lib.hid hrs
      have hm0 := G0.out
      have EN : Hid ((xx % m + m - qq * y % m % m) % m = nx) := Lib.hid (inv_next GX.out rfl hnx)
      have hlt : rs < s := by rw [← hrs]; exact Nat.mod_lt _ (Nat.pos_of_ne_zero hs0)
      have GQ : Hid (c16 qq ≤ 1000) := Lib.hid (by rw [← hq]; exact Nat.le_trans (c16_mono (Nat.div_le_self _ _)) GP.out)
      have GQY : Hid (c16 (qq * y % m) ≤ 1000) := Lib.hid (c16_mod FM.out F0.out)
      have GN : Hid (nx < m) := Lib.hid (by rw [← hnx]; exact Nat.mod_lt _ hm0)
      have GRS : Hid (rs < m) := Lib.hid (Nat.lt_trans hlt GSL.out)
      have GLE : Hid (rs ≤ gk') := Lib.hid (by have := HF.out; omega)
      have GK : Hid (gk' < gk) := Lib.hid (by omega)
      clear hs0 hgk hi hq hrs hnx hm0 hlt HI HF
      go_wp2_with fail
      refine (rdivide_ok _ _ _ P_0.out S_0.out (Nat.le_trans GP.out (by decide)) (Nat.le_trans GS.out (by decide)) HS0.out EQ.out ER.out).mono ?_
      rintro e p1 ⟨u1, v1, rfl, hu, hv, hb⟩
      have P_1 := Lib.hid (P_0.out.below hb)
      have S_1 := Lib.hid (S_0.out.below hb)
      have X_1 := Lib.hid (X_0.out.below hb)
      have Y_1 := Lib.hid (Y_0.out.below hb)
      have Z_1 := Lib.hid (Z_0.out.below hb)
      have W_1 := Lib.hid (W_0.out.trans (hb.mono W_0.out.size))
      clear hb P_0 S_0 X_0 Y_0 Z_0 W_0
      have Q_1 := Lib.hid hu
      have T_1 := Lib.hid hv
      clear hu hv
      go_wp2_with fail
      refine (rmmul_ok _ _ _ _ Q_1.out Y_1.out Z_1.out GQ.out GY.out FM.out F0.out rfl).mono ?_
      rintro e p2 ⟨v2, rfl, hv, hb⟩
      have P_2 := Lib.hid (P_1.out.below hb)
      have S_2 := Lib.hid (S_1.out.below hb)
      have X_2 := Lib.hid (X_1.out.below hb)
      have Y_2 := Lib.hid (Y_1.out.below hb)
      have Z_2 := Lib.hid (Z_1.out.below hb)
      have Q_2 := Lib.hid (Q_1.out.below hb)
      have T_2 := Lib.hid (T_1.out.below hb)
      have W_2 := Lib.hid (W_1.out.trans (hb.mono W_1.out.size))
      clear hb P_1 S_1 X_1 Y_1 Z_1 Q_1 T_1 W_1
      have U_2 := Lib.hid hv
      clear hv
      go_wp2_with fail
      refine (rmsub_ok _ _ _ _ X_2.out U_2.out Z_2.out GXC.out GQY.out FM.out F0.out EN.out).mono ?_
      rintro e p3 ⟨v3, rfl, hv, hb⟩
      have P_3 := Lib.hid (P_2.out.below hb)
      have S_3 := Lib.hid (S_2.out.below hb)
      have X_3 := Lib.hid (X_2.out.below hb)
      have Y_3 := Lib.hid (Y_2.out.below hb)
      have Z_3 := Lib.hid (Z_2.out.below hb)
      have Q_3 := Lib.hid (Q_2.out.below hb)
      have T_3 := Lib.hid (T_2.out.below hb)
      have U_3 := Lib.hid (U_2.out.below hb)
      have W_3 := Lib.hid (W_2.out.trans (hb.mono W_2.out.size))
      clear hb P_2 S_2 X_2 Y_2 Z_2 Q_2 T_2 U_2 W_2
      have N_3 := Lib.hid hv
      clear hv
      go_wp2_with fail
      go_roundg gk'
      case measure => exact GK.out
      case rel => exact ⟨s, rs, y, nx, GLE.out, HI2.out, GS.out, GRS.out, GYL.out, GN.out, S_3.out, T_3.out, Y_3.out, N_3.out, Z_3.out, W_3.out⟩

end Go.Proofs.Ytfmadiepefbepaa
