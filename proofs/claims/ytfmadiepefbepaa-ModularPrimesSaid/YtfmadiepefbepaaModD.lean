/- Walks: parts, times (printed by genmodd.py). -/
import Derived.Test.YtfmadiepefbepaaModC
set_option linter.unusedVariables false
set_option linter.unusedSimpArgs false
set_option maxRecDepth 20000
namespace Go.Proofs.Ytfmadiepefbepaa
open Go.RowKit

/-- Numbers in other blocks stay. -/
def KeepN (R : Nat) (W W' : World) : Prop := ∀ b n, b ≠ R → NatAt W b n → NatAt W' b n
theorem keepN_refl (R : Nat) (w : World) : KeepN R w w := fun _ _ _ h => h
theorem keepN_trans (R : Nat) (a b c : World) (h : KeepN R a b) (k : KeepN R b c) : KeepN R a c := fun x n hx hn => k x n hx (h x n hx hn)

theorem shr_at {a s k : Nat} {K : Int} (hK : K = (k : Int)) (w : World) (ha : Fit a) (hs : a / 2 ^ k = s) :
    Calls Try.prog 78 #[.agg (natA a), .int .i64 K] w fun e w' => e = .returned (.tuple #[.agg (natA s), .int .i64 0]) ∧ Below w.heap.size w w' := by
  subst hK
  exact shr_ok w ha hs
theorem cut_eq (a s : Nat) : a - a / 2 ^ s * 2 ^ s = a % 2 ^ s := by
  have := Nat.div_add_mod a (2 ^ s)
  rw [Nat.mul_comm] at this
  omega
theorem part_step (a b m s k : Nat) : (a / 2 ^ ((k + 1) * s) * b % m * 2 ^ s % m + a / 2 ^ (k * s) % 2 ^ s * b % m) % m = a / 2 ^ (k * s) * b % m := by
  have h1 : a / 2 ^ ((k + 1) * s) = a / 2 ^ (k * s) / 2 ^ s := by
    rw [Nat.div_div_eq_div_mul, ← Nat.pow_add, Nat.succ_mul]
  have h2 := Nat.div_add_mod (a / 2 ^ (k * s)) (2 ^ s)
  rw [h1]
  generalize a / 2 ^ (k * s) = x at *
  rw [Nat.mod_mul_mod, ← Nat.add_mod]
  conv => rhs; rw [← h2]
  congr 1
  rw [Nat.add_mul, Nat.mul_comm (2 ^ s), Nat.mul_right_comm]
theorem lt_succ_mul {a s : Nat} (h : 1 ≤ s) : a < (a / s + 1) * s := by
  have := Nat.div_add_mod a s
  have h2 := Nat.mod_lt a (show 0 < s by omega)
  rw [Nat.add_mul, Nat.one_mul, Nat.mul_comm]
  omega
theorem lt_of_bl {a n : Nat} (h : bl a ≤ n) : a < 2 ^ n := Nat.lt_of_lt_of_le (lt_bl a) (Nat.pow_le_pow_right (by decide) h)
theorem bl_mono {a b : Nat} (h : a ≤ b) : bl a ≤ bl b := bl_le (Nat.lt_of_le_of_lt h (lt_bl b))
theorem fit_bl {n : Nat} (h : bl n ≤ 1024) : Fit n := bl_fit.1 h
theorem bl_mul {a b : Nat} : bl (a * b) ≤ bl a + bl b := bl_le (by rw [Nat.pow_add]; exact Nat.mul_lt_mul'' (lt_bl a) (lt_bl b))
theorem bl_shl_le {a k : Nat} : bl (a * 2 ^ k) ≤ bl a + k := bl_le (by rw [Nat.pow_add]; exact Nat.mul_lt_mul_of_pos_right (lt_bl a) (Nat.two_pow_pos k))

set_option maxHeartbeats 6400000 in
theorem parts_ok {m a b r : Nat} (s : Nat) (w : World) (hm : Fit m) (ha : a < m) (hb : b < m) (hs : bl m + s = 1024) (hs1 : 1 ≤ s) (hr : a * b % m = r) :
    Calls Try.prog 65 #[.agg (natA m), .agg (natA a), .agg (natA b), .int .i64 (s : Int)] w fun e w' => e = .returned (.agg (natA r)) ∧ Below w.heap.size w w' := by
  have FM := Lib.hid hm
  have FA : Hid (Fit a) := Lib.hid (Nat.lt_trans ha hm)
  have FB : Hid (Fit b) := Lib.hid (Nat.lt_trans hb hm)
  have FB1 := Lib.hid hb
  have F0 : Hid (m ≠ 0) := Lib.hid (by omega)
  have FS := Lib.hid hs
  have FS1 := Lib.hid hs1
  have FR := Lib.hid hr
  have hbl : (bl a : Int) ≤ 1024 := by have := bl_fit.2 (Nat.lt_trans ha hm); omega
  have hsI : (s : Int) ≤ 1024 := by omega
  have hs0 : 0 < (s : Int) := by omega
  obtain ⟨q, hq⟩ : ∃ q, bl a / s = q := ⟨_, rfl⟩
  have hqs : q * s ≤ bl a := by rw [← hq]; exact Nat.div_mul_le_self _ _
  have hqs2 : bl a < (q + 1) * s := by rw [← hq]; exact lt_succ_mul hs1
  obtain ⟨zq, hz0⟩ : ∃ z : Int, z = ((q * s : Nat) : Int) := ⟨_, rfl⟩
  have hdiv : (bl a : Int) / (s : Int) = (q : Int) := by rw [← hq]; exact (Int.natCast_ediv _ _).symm
  have htdiv : (bl a : Int).tdiv (s : Int) = (q : Int) := by rw [Int.tdiv_eq_ediv_of_nonneg (by omega)]; exact hdiv
  have hqI : (q : Int) ≤ 1024 := by have : q ≤ bl a := by rw [← hq]; exact Nat.div_le_self _ _
                                    omega
  have hmulq : (q : Int) * (s : Int) = zq := by rw [hz0, Int.natCast_mul]
  have hz1 : 0 ≤ zq ∧ zq ≤ 1024 := by omega
  have HZ0 := Lib.hid hz0
  have HQS2 := Lib.hid hqs2
  have HQS := Lib.hid hqs
  have HBA := Lib.hid hbl
  have HSI := Lib.hid hsI
  have HZ1 := Lib.hid hz1
  clear hm ha hb hs hs1 hr hq hqs hqs2 hz0
  obtain ⟨hz1, hz2⟩ := hz1
  have HM : Hid (NatAt ((((w.alloc (.cells (natA m) 60)).alloc (.cells (natA a) 37)).alloc (.cells (natA b) 37)).alloc (.cells z0 37)) (w.heap.size) (m)) := Lib.hid (by
    have h := NatAt.new w (m) 60
    replace h := h.alloc (.cells (natA a) 37)
    replace h := h.alloc (.cells (natA b) 37)
    replace h := h.alloc (.cells z0 37)
    simpa using h)
  have HA : Hid (NatAt ((((w.alloc (.cells (natA m) 60)).alloc (.cells (natA a) 37)).alloc (.cells (natA b) 37)).alloc (.cells z0 37)) (w.heap.size + 1) (a)) := Lib.hid (by
    have h := NatAt.new (w.alloc (.cells (natA m) 60)) (a) 37
    replace h := h.alloc (.cells (natA b) 37)
    replace h := h.alloc (.cells z0 37)
    simpa using h)
  have HB : Hid (NatAt ((((w.alloc (.cells (natA m) 60)).alloc (.cells (natA a) 37)).alloc (.cells (natA b) 37)).alloc (.cells z0 37)) (w.heap.size + 1 + 1) (b)) := Lib.hid (by
    have h := NatAt.new ((w.alloc (.cells (natA m) 60)).alloc (.cells (natA a) 37)) (b) 37
    replace h := h.alloc (.cells z0 37)
    simpa using h)
  have HR : Hid (NatAt ((((w.alloc (.cells (natA m) 60)).alloc (.cells (natA a) 37)).alloc (.cells (natA b) 37)).alloc (.cells z0 37)) (w.heap.size + 1 + 1 + 1) (0)) := Lib.hid (by
    have h := NatAt.new (((w.alloc (.cells (natA m) 60)).alloc (.cells (natA a) 37)).alloc (.cells (natA b) 37)) (0) 37
    rw [natA_zero] at h
    simpa using h)
  have HW : Hid (Below w.heap.size w ((((w.alloc (.cells (natA m) 60)).alloc (.cells (natA a) 37)).alloc (.cells (natA b) 37)).alloc (.cells z0 37))) := Lib.hid (by
    have h := Below.refl w.heap.size w
    replace h := h.alloc h.size (.cells (natA m) 60)
    replace h := h.alloc h.size (.cells (natA a) 37)
    replace h := h.alloc h.size (.cells (natA b) 37)
    replace h := h.alloc h.size (.cells z0 37)
    exact h)
  go_enter Try.func65, Try.ntmps65
  go_wp2_with (first | go_skip | (refine wpl_ldN ntMod rfl rfl rfl HM.out ?_) | (refine wpl_ldN_g ntMod ?hw rfl rfl HM.out ?_; (case hw => rfl)) | (refine wpl_ldN ntNat rfl rfl rfl HM.out ?_) | (refine wpl_ldN_g ntNat ?hw rfl rfl HM.out ?_; (case hw => rfl)) | (refine wpl_ldN ntNat rfl rfl rfl HA.out ?_) | (refine wpl_ldN_g ntNat ?hw rfl rfl HA.out ?_; (case hw => rfl)) | (refine wpl_ldN ntNat rfl rfl rfl HB.out ?_) | (refine wpl_ldN_g ntNat ?hw rfl rfl HB.out ?_; (case hw => rfl)) | (refine wpl_ldN ntNat rfl rfl rfl HR.out ?_) | (refine wpl_ldN_g ntNat ?hw rfl rfl HR.out ?_; (case hw => rfl)))
  refine (bitLen_any a _ FA.out).mono ?_
  rintro e p1 ⟨rfl, hb⟩
  have M_1 := Lib.hid (HM.out.below hb)
  have A_1 := Lib.hid (HA.out.below hb)
  have B_1 := Lib.hid (HB.out.below hb)
  have R_1 := Lib.hid (HR.out.below hb)
  have W_1 := Lib.hid (HW.out.trans (hb.mono HW.out.size))
  clear hb HM HA HB HR HW
  go_wp2_with (first | go_skip | (refine wpl_ldN ntMod rfl rfl rfl M_1.out ?_) | (refine wpl_ldN_g ntMod ?hw rfl rfl M_1.out ?_; (case hw => rfl)) | (refine wpl_ldN ntNat rfl rfl rfl M_1.out ?_) | (refine wpl_ldN_g ntNat ?hw rfl rfl M_1.out ?_; (case hw => rfl)) | (refine wpl_ldN ntNat rfl rfl rfl A_1.out ?_) | (refine wpl_ldN_g ntNat ?hw rfl rfl A_1.out ?_; (case hw => rfl)) | (refine wpl_ldN ntNat rfl rfl rfl B_1.out ?_) | (refine wpl_ldN_g ntNat ?hw rfl rfl B_1.out ?_; (case hw => rfl)) | (refine wpl_ldN ntNat rfl rfl rfl R_1.out ?_) | (refine wpl_ldN_g ntNat ?hw rfl rfl R_1.out ?_; (case hw => rfl)))
  go_loopw [9] (fun i wr => ∃ (k : Nat) (z : Int), i = .int .i64 z ∧ z = ((k * s : Nat) : Int) - (s : Int) ∧ k ≤ q + 1 ∧ NatAt wr w.heap.size m ∧ NatAt wr (w.heap.size + 1) a ∧ NatAt wr (w.heap.size + 1 + 1) b ∧ NatAt wr (w.heap.size + 1 + 1 + 1) (a / 2 ^ (k * s) * b % m) ∧ Below w.heap.size w wr) (fun i _ => (intOf i + s).toNat)
  case atStart => exact ⟨q + 1, zq, rfl, by have := HZ0.out; rw [this, Nat.add_mul, Nat.one_mul]; omega, Nat.le_refl _, M_1.out, A_1.out, B_1.out, by rw [Nat.div_eq_of_lt (lt_of_bl (Nat.le_of_lt HQS2.out)), Nat.zero_mul, Nat.zero_mod]; exact R_1.out, W_1.out⟩
  case round =>
    obtain ⟨k, z, rfl, hz, hk, h1, h2, h3, h4, h5⟩ := hrel
    clear A_1 M_1 B_1 R_1 W_1 hz1 hz2 hdiv htdiv hqI hmulq
    have M_0 := Lib.hid h1
    have A_0 := Lib.hid h2
    have B_0 := Lib.hid h3
    have R_0 := Lib.hid h4
    have W_0 := Lib.hid h5
    clear h1 h2 h3 h4 h5
    rcases k with _ | k
    · rw [Nat.zero_mul, Nat.pow_zero, Nat.div_one, FR.out] at R_0
      have hzn : z < 0 := by rw [hz]; omega
      clear hz
      go_wp2_with (first | go_skip | (refine wpl_ldN ntMod rfl rfl rfl M_0.out ?_) | (refine wpl_ldN_g ntMod ?hw rfl rfl M_0.out ?_; (case hw => rfl)) | (refine wpl_ldN ntNat rfl rfl rfl M_0.out ?_) | (refine wpl_ldN_g ntNat ?hw rfl rfl M_0.out ?_; (case hw => rfl)) | (refine wpl_ldN ntNat rfl rfl rfl A_0.out ?_) | (refine wpl_ldN_g ntNat ?hw rfl rfl A_0.out ?_; (case hw => rfl)) | (refine wpl_ldN ntNat rfl rfl rfl B_0.out ?_) | (refine wpl_ldN_g ntNat ?hw rfl rfl B_0.out ?_; (case hw => rfl)) | (refine wpl_ldN ntNat rfl rfl rfl R_0.out ?_) | (refine wpl_ldN_g ntNat ?hw rfl rfl R_0.out ?_; (case hw => rfl)) | (refine wpl_stN ntNat rfl rfl rfl rfl R_0.out ?_; intro z1 hn hg; have W_1 := Lib.hid (W_0.out.grown hg W_0.out.size (fun j e => by injection e with e; omega)); have R_1 := Lib.hid hn; clear hn hg W_0 M_0 A_0 B_0 R_0))
      refine bodyPost_ret (results_one rfl _ _ rfl R_1.out) rfl ?_
      exact ⟨rfl, W_1.out⟩
    · have hkz : z = ((k * s : Nat) : Int) := by rw [hz, Nat.add_mul, Nat.one_mul]; omega
      have hks : k * s ≤ bl a := by
        have h1 : k * s ≤ q * s := Nat.mul_le_mul_right _ (by omega)
        have := HQS.out
        omega
      have hz0 : 0 ≤ z := by omega
      have hzm : z ≤ 1024 := by have := HBA.out; omega
      have HKZ := Lib.hid hkz
      have HKQ : Hid (k ≤ q + 1) := Lib.hid (by omega)
      clear hz hk hks hkz
      obtain ⟨o1, ho1⟩ : ∃ x, a / 2 ^ ((k + 1) * s) * b % m = x := ⟨_, rfl⟩
      rw [ho1] at R_0
      obtain ⟨x1, hx1⟩ : ∃ x, a / 2 ^ (k * s) = x := ⟨_, rfl⟩
      obtain ⟨x2, hx2⟩ : ∃ x, x1 / 2 ^ s = x := ⟨_, rfl⟩
      obtain ⟨x3, hx3⟩ : ∃ x, x2 * 2 ^ s = x := ⟨_, rfl⟩
      obtain ⟨x4, hx4⟩ : ∃ x, x1 - x3 = x := ⟨_, rfl⟩
      obtain ⟨x5, hx5⟩ : ∃ x, o1 * 2 ^ s = x := ⟨_, rfl⟩
      obtain ⟨x6, hx6⟩ : ∃ x, x4 * b = x := ⟨_, rfl⟩
      obtain ⟨x7, hx7⟩ : ∃ x, x5 % m = x := ⟨_, rfl⟩
      obtain ⟨x8, hx8⟩ : ∃ x, x6 % m = x := ⟨_, rfl⟩
      have hm0 : 0 < m := Nat.pos_of_ne_zero F0.out
      have hx4' : x4 = x1 % 2 ^ s := by rw [← hx4, ← hx3, ← hx2]; exact cut_eq x1 s
      have hfin : (x7 + x8) % m = a / 2 ^ (k * s) * b % m := by rw [← hx7, ← hx8, ← hx5, ← hx6, hx4', ← hx1, ← ho1]; exact part_step a b m s k
      have l1 : x1 ≤ a := by rw [← hx1]; exact Nat.div_le_self _ _
      have l3 : x3 ≤ x1 := by rw [← hx3, ← hx2]; exact Nat.div_mul_le_self _ _
      have G1 : Hid (Fit x1) := Lib.hid (Nat.lt_of_le_of_lt l1 FA.out)
      have G2 : Hid (Fit x2) := Lib.hid (Nat.lt_of_le_of_lt (by rw [← hx2]; exact Nat.div_le_self _ _) G1.out)
      have G3 : Hid (Fit x3) := Lib.hid (Nat.lt_of_le_of_lt l3 G1.out)
      have G4 : Hid (Fit x4) := Lib.hid (Nat.lt_of_le_of_lt (by omega) G1.out)
      have lo : o1 < m := by rw [← ho1]; exact Nat.mod_lt _ hm0
      have GO : Hid (Fit o1) := Lib.hid (Nat.lt_trans lo FM.out)
      have G5 : Hid (Fit x5) := Lib.hid (fit_bl (by rw [← hx5]; have h1 := bl_shl_le (a := o1) (k := s); have h2 := bl_mono (Nat.le_of_lt lo); have := FS.out; omega))
      have l4 : bl x4 ≤ s := by rw [hx4']; exact bl_le (Nat.mod_lt _ (Nat.two_pow_pos s))
      have G6 : Hid (Fit x6) := Lib.hid (fit_bl (by rw [← hx6]; have h1 := bl_mul (a := x4) (b := b); have h2 := bl_mono (Nat.le_of_lt FB1.out); have := FS.out; omega))
      have G7 : Hid (x7 < m) := Lib.hid (by rw [← hx7]; exact Nat.mod_lt _ hm0)
      have G8 : Hid (x8 < m) := Lib.hid (by rw [← hx8]; exact Nat.mod_lt _ hm0)
      have E1 := Lib.hid hx1
      have E2 := Lib.hid hx2
      have E3 := Lib.hid hx3
      have E4 := Lib.hid hx4
      have E5 := Lib.hid hx5
      have E6 := Lib.hid hx6
      have E7 := Lib.hid hx7
      have E8 := Lib.hid hx8
      have E9 := Lib.hid hfin
      have L3 := Lib.hid l3
      obtain ⟨o2, ho2⟩ : ∃ x, a / 2 ^ (k * s) * b % m = x := ⟨_, rfl⟩
      have EO := Lib.hid ho2
      rw [ho2] at E9
      clear ho1 hx1 hx2 hx3 hx4 hx5 hx6 hx7 hx8 hm0 hx4' hfin l1 l3 lo l4 ho2
      have hzs : IntKind.i64.wrap (z - (s : Int)) = z - (s : Int) := by have := HSI.out; rw [IntKind.wrap_i64]; omega
      go_wp2_with (first | go_skip | (refine wpl_ldN ntMod rfl rfl rfl M_0.out ?_) | (refine wpl_ldN_g ntMod ?hw rfl rfl M_0.out ?_; (case hw => rfl)) | (refine wpl_ldN ntNat rfl rfl rfl M_0.out ?_) | (refine wpl_ldN_g ntNat ?hw rfl rfl M_0.out ?_; (case hw => rfl)) | (refine wpl_ldN ntNat rfl rfl rfl A_0.out ?_) | (refine wpl_ldN_g ntNat ?hw rfl rfl A_0.out ?_; (case hw => rfl)) | (refine wpl_ldN ntNat rfl rfl rfl B_0.out ?_) | (refine wpl_ldN_g ntNat ?hw rfl rfl B_0.out ?_; (case hw => rfl)) | (refine wpl_ldN ntNat rfl rfl rfl R_0.out ?_) | (refine wpl_ldN_g ntNat ?hw rfl rfl R_0.out ?_; (case hw => rfl)))
      refine (shr_at HKZ.out _ FA.out E1.out).mono ?_
      rintro e p1 ⟨rfl, hb⟩
      have ABX1_R := Lib.hid (Nat.lt_of_lt_of_le R_0.out.lt hb.size)
      have XT0_1 := Lib.hid (NatAt.zero p1)
      have XA_1 := Lib.hid (below_zero hb hb.size)
      have hsz_1 : Hid (wr.heap.size ≤ p1.heap.size) := Lib.hid hb.size
      clear hb
      go_wp2_with (first | go_skip | (refine wpl_stN ntNat rfl rfl rfl rfl XT0_1.out ?_; intro q1 hn hg; have XB0_1 := Lib.hid (XA_1.out.grown hg XA_1.out.size (fun j e => by injection e with e; rw [← e]; have := hsz_1.out; omega)); have XS00_1 := Lib.hid hn; have M_1 := Lib.hid (M_0.out.below XB0_1.out); have A_1 := Lib.hid (A_0.out.below XB0_1.out); have B_1 := Lib.hid (B_0.out.below XB0_1.out); have R_1 := Lib.hid (R_0.out.below XB0_1.out); have W_1 := Lib.hid (W_0.out.trans (XB0_1.out.mono W_0.out.size)); have X1_1 := XS00_1; clear hn hg M_0 A_0 B_0 R_0 W_0 XT0_1 XA_1 XS00_1 XB0_1 hsz_1) | (refine wpl_ldN ntMod rfl rfl rfl M_1.out ?_) | (refine wpl_ldN_g ntMod ?hw rfl rfl M_1.out ?_; (case hw => rfl)) | (refine wpl_ldN ntNat rfl rfl rfl M_1.out ?_) | (refine wpl_ldN_g ntNat ?hw rfl rfl M_1.out ?_; (case hw => rfl)) | (refine wpl_ldN ntNat rfl rfl rfl A_1.out ?_) | (refine wpl_ldN_g ntNat ?hw rfl rfl A_1.out ?_; (case hw => rfl)) | (refine wpl_ldN ntNat rfl rfl rfl B_1.out ?_) | (refine wpl_ldN_g ntNat ?hw rfl rfl B_1.out ?_; (case hw => rfl)) | (refine wpl_ldN ntNat rfl rfl rfl R_1.out ?_) | (refine wpl_ldN_g ntNat ?hw rfl rfl R_1.out ?_; (case hw => rfl)) | (refine wpl_ldN ntNat rfl rfl rfl X1_1.out ?_) | (refine wpl_ldN_g ntNat ?hw rfl rfl X1_1.out ?_; (case hw => rfl)))
      refine (shr_ok _ G1.out E2.out).mono ?_
      rintro e p2 ⟨rfl, hb⟩
      have ABX2_R := Lib.hid (Nat.lt_of_lt_of_le R_1.out.lt hb.size)
      have ABX2_X1 := Lib.hid (Nat.lt_of_lt_of_le X1_1.out.lt hb.size)
      have XT0_2 := Lib.hid (NatAt.zero p2)
      have XA_2 := Lib.hid (below_zero hb hb.size)
      have hsz_2 : Hid (q1.heap.size ≤ p2.heap.size) := Lib.hid hb.size
      clear hb
      go_wp2_with (first | go_skip | (refine wpl_stN ntNat rfl rfl rfl rfl XT0_2.out ?_; intro q2 hn hg; have XB0_2 := Lib.hid (XA_2.out.grown hg XA_2.out.size (fun j e => by injection e with e; rw [← e]; have := hsz_2.out; omega)); have XS00_2 := Lib.hid hn; have M_2 := Lib.hid (M_1.out.below XB0_2.out); have A_2 := Lib.hid (A_1.out.below XB0_2.out); have B_2 := Lib.hid (B_1.out.below XB0_2.out); have R_2 := Lib.hid (R_1.out.below XB0_2.out); have X1_2 := Lib.hid (X1_1.out.below XB0_2.out); have W_2 := Lib.hid (W_1.out.trans (XB0_2.out.mono W_1.out.size)); have X2_2 := XS00_2; clear hn hg M_1 A_1 B_1 R_1 X1_1 W_1 XT0_2 XA_2 XS00_2 XB0_2 hsz_2) | (refine wpl_ldN ntMod rfl rfl rfl M_2.out ?_) | (refine wpl_ldN_g ntMod ?hw rfl rfl M_2.out ?_; (case hw => rfl)) | (refine wpl_ldN ntNat rfl rfl rfl M_2.out ?_) | (refine wpl_ldN_g ntNat ?hw rfl rfl M_2.out ?_; (case hw => rfl)) | (refine wpl_ldN ntNat rfl rfl rfl A_2.out ?_) | (refine wpl_ldN_g ntNat ?hw rfl rfl A_2.out ?_; (case hw => rfl)) | (refine wpl_ldN ntNat rfl rfl rfl B_2.out ?_) | (refine wpl_ldN_g ntNat ?hw rfl rfl B_2.out ?_; (case hw => rfl)) | (refine wpl_ldN ntNat rfl rfl rfl R_2.out ?_) | (refine wpl_ldN_g ntNat ?hw rfl rfl R_2.out ?_; (case hw => rfl)) | (refine wpl_ldN ntNat rfl rfl rfl X1_2.out ?_) | (refine wpl_ldN_g ntNat ?hw rfl rfl X1_2.out ?_; (case hw => rfl)) | (refine wpl_ldN ntNat rfl rfl rfl X2_2.out ?_) | (refine wpl_ldN_g ntNat ?hw rfl rfl X2_2.out ?_; (case hw => rfl)))
      refine (shl_ok _ G2.out E3.out G3.out).mono ?_
      rintro e p3 ⟨rfl, hb⟩
      have M_3 := Lib.hid (M_2.out.below hb)
      have A_3 := Lib.hid (A_2.out.below hb)
      have B_3 := Lib.hid (B_2.out.below hb)
      have R_3 := Lib.hid (R_2.out.below hb)
      have X1_3 := Lib.hid (X1_2.out.below hb)
      have X2_3 := Lib.hid (X2_2.out.below hb)
      have W_3 := Lib.hid (W_2.out.trans (hb.mono W_2.out.size))
      clear hb M_2 A_2 B_2 R_2 X1_2 X2_2 W_2
      go_wp2_with (first | go_skip | (refine wpl_ldN ntMod rfl rfl rfl M_3.out ?_) | (refine wpl_ldN_g ntMod ?hw rfl rfl M_3.out ?_; (case hw => rfl)) | (refine wpl_ldN ntNat rfl rfl rfl M_3.out ?_) | (refine wpl_ldN_g ntNat ?hw rfl rfl M_3.out ?_; (case hw => rfl)) | (refine wpl_ldN ntNat rfl rfl rfl A_3.out ?_) | (refine wpl_ldN_g ntNat ?hw rfl rfl A_3.out ?_; (case hw => rfl)) | (refine wpl_ldN ntNat rfl rfl rfl B_3.out ?_) | (refine wpl_ldN_g ntNat ?hw rfl rfl B_3.out ?_; (case hw => rfl)) | (refine wpl_ldN ntNat rfl rfl rfl R_3.out ?_) | (refine wpl_ldN_g ntNat ?hw rfl rfl R_3.out ?_; (case hw => rfl)) | (refine wpl_ldN ntNat rfl rfl rfl X1_3.out ?_) | (refine wpl_ldN_g ntNat ?hw rfl rfl X1_3.out ?_; (case hw => rfl)) | (refine wpl_ldN ntNat rfl rfl rfl X2_3.out ?_) | (refine wpl_ldN_g ntNat ?hw rfl rfl X2_3.out ?_; (case hw => rfl)) | (refine wpl_stN ntNat rfl rfl rfl rfl X2_3.out ?_; intro z4 hn hg; have u1 := ABX2_R.out; have u2 := ABX2_X1.out; have W_4 := Lib.hid (W_3.out.grown hg W_3.out.size (fun j e => by injection e with e; omega)); have M_4 := Lib.hid (M_3.out.grown hg (fun e => by injection e with e; omega)); have A_4 := Lib.hid (A_3.out.grown hg (fun e => by injection e with e; omega)); have B_4 := Lib.hid (B_3.out.grown hg (fun e => by injection e with e; omega)); have R_4 := Lib.hid (R_3.out.grown hg (fun e => by injection e with e; omega)); have X1_4 := Lib.hid (X1_3.out.grown hg (fun e => by injection e with e; omega)); have X2_4 := Lib.hid hn; clear hn hg W_3 M_3 A_3 B_3 R_3 X1_3 X2_3) | (refine wpl_ldN ntMod rfl rfl rfl M_4.out ?_) | (refine wpl_ldN_g ntMod ?hw rfl rfl M_4.out ?_; (case hw => rfl)) | (refine wpl_ldN ntNat rfl rfl rfl M_4.out ?_) | (refine wpl_ldN_g ntNat ?hw rfl rfl M_4.out ?_; (case hw => rfl)) | (refine wpl_ldN ntNat rfl rfl rfl A_4.out ?_) | (refine wpl_ldN_g ntNat ?hw rfl rfl A_4.out ?_; (case hw => rfl)) | (refine wpl_ldN ntNat rfl rfl rfl B_4.out ?_) | (refine wpl_ldN_g ntNat ?hw rfl rfl B_4.out ?_; (case hw => rfl)) | (refine wpl_ldN ntNat rfl rfl rfl R_4.out ?_) | (refine wpl_ldN_g ntNat ?hw rfl rfl R_4.out ?_; (case hw => rfl)) | (refine wpl_ldN ntNat rfl rfl rfl X1_4.out ?_) | (refine wpl_ldN_g ntNat ?hw rfl rfl X1_4.out ?_; (case hw => rfl)) | (refine wpl_ldN ntNat rfl rfl rfl X2_4.out ?_) | (refine wpl_ldN_g ntNat ?hw rfl rfl X2_4.out ?_; (case hw => rfl)))
      refine (sub_ok _ G1.out G3.out L3.out E4.out).mono ?_
      rintro e p5 ⟨rfl, hb⟩
      have ABX4_R := Lib.hid (Nat.lt_of_lt_of_le R_4.out.lt hb.size)
      have XT0_5 := Lib.hid (NatAt.zero p5)
      have XA_5 := Lib.hid (below_zero hb hb.size)
      have hsz_5 : Hid (z4.heap.size ≤ p5.heap.size) := Lib.hid hb.size
      clear hb
      go_wp2_with (first | go_skip | (refine wpl_stN ntNat rfl rfl rfl rfl XT0_5.out ?_; intro q5 hn hg; have XB0_5 := Lib.hid (XA_5.out.grown hg XA_5.out.size (fun j e => by injection e with e; rw [← e]; have := hsz_5.out; omega)); have XS00_5 := Lib.hid hn; have M_5 := Lib.hid (M_4.out.below XB0_5.out); have A_5 := Lib.hid (A_4.out.below XB0_5.out); have B_5 := Lib.hid (B_4.out.below XB0_5.out); have R_5 := Lib.hid (R_4.out.below XB0_5.out); have X1_5 := Lib.hid (X1_4.out.below XB0_5.out); have X2_5 := Lib.hid (X2_4.out.below XB0_5.out); have W_5 := Lib.hid (W_4.out.trans (XB0_5.out.mono W_4.out.size)); have X4_5 := XS00_5; clear hn hg M_4 A_4 B_4 R_4 X1_4 X2_4 W_4 XT0_5 XA_5 XS00_5 XB0_5 hsz_5) | (refine wpl_ldN ntMod rfl rfl rfl M_5.out ?_) | (refine wpl_ldN_g ntMod ?hw rfl rfl M_5.out ?_; (case hw => rfl)) | (refine wpl_ldN ntNat rfl rfl rfl M_5.out ?_) | (refine wpl_ldN_g ntNat ?hw rfl rfl M_5.out ?_; (case hw => rfl)) | (refine wpl_ldN ntNat rfl rfl rfl A_5.out ?_) | (refine wpl_ldN_g ntNat ?hw rfl rfl A_5.out ?_; (case hw => rfl)) | (refine wpl_ldN ntNat rfl rfl rfl B_5.out ?_) | (refine wpl_ldN_g ntNat ?hw rfl rfl B_5.out ?_; (case hw => rfl)) | (refine wpl_ldN ntNat rfl rfl rfl R_5.out ?_) | (refine wpl_ldN_g ntNat ?hw rfl rfl R_5.out ?_; (case hw => rfl)) | (refine wpl_ldN ntNat rfl rfl rfl X1_5.out ?_) | (refine wpl_ldN_g ntNat ?hw rfl rfl X1_5.out ?_; (case hw => rfl)) | (refine wpl_ldN ntNat rfl rfl rfl X2_5.out ?_) | (refine wpl_ldN_g ntNat ?hw rfl rfl X2_5.out ?_; (case hw => rfl)) | (refine wpl_ldN ntNat rfl rfl rfl X4_5.out ?_) | (refine wpl_ldN_g ntNat ?hw rfl rfl X4_5.out ?_; (case hw => rfl)))
      clear X1_5
      clear X2_5
      refine (shl_ok _ GO.out E5.out G5.out).mono ?_
      rintro e p6 ⟨rfl, hb⟩
      have ABX5_R := Lib.hid (Nat.lt_of_lt_of_le R_5.out.lt hb.size)
      have XT0_6 := Lib.hid (NatAt.zero p6)
      have XA_6 := Lib.hid (below_zero hb hb.size)
      have hsz_6 : Hid (q5.heap.size ≤ p6.heap.size) := Lib.hid hb.size
      clear hb
      go_wp2_with (first | go_skip | (refine wpl_stN ntNat rfl rfl rfl rfl XT0_6.out ?_; intro q6 hn hg; have XB0_6 := Lib.hid (XA_6.out.grown hg XA_6.out.size (fun j e => by injection e with e; rw [← e]; have := hsz_6.out; omega)); have XS00_6 := Lib.hid hn; have M_6 := Lib.hid (M_5.out.below XB0_6.out); have A_6 := Lib.hid (A_5.out.below XB0_6.out); have B_6 := Lib.hid (B_5.out.below XB0_6.out); have R_6 := Lib.hid (R_5.out.below XB0_6.out); have X4_6 := Lib.hid (X4_5.out.below XB0_6.out); have W_6 := Lib.hid (W_5.out.trans (XB0_6.out.mono W_5.out.size)); have X5_6 := XS00_6; clear hn hg M_5 A_5 B_5 R_5 X4_5 W_5 XT0_6 XA_6 XS00_6 XB0_6 hsz_6) | (refine wpl_ldN ntMod rfl rfl rfl M_6.out ?_) | (refine wpl_ldN_g ntMod ?hw rfl rfl M_6.out ?_; (case hw => rfl)) | (refine wpl_ldN ntNat rfl rfl rfl M_6.out ?_) | (refine wpl_ldN_g ntNat ?hw rfl rfl M_6.out ?_; (case hw => rfl)) | (refine wpl_ldN ntNat rfl rfl rfl A_6.out ?_) | (refine wpl_ldN_g ntNat ?hw rfl rfl A_6.out ?_; (case hw => rfl)) | (refine wpl_ldN ntNat rfl rfl rfl B_6.out ?_) | (refine wpl_ldN_g ntNat ?hw rfl rfl B_6.out ?_; (case hw => rfl)) | (refine wpl_ldN ntNat rfl rfl rfl R_6.out ?_) | (refine wpl_ldN_g ntNat ?hw rfl rfl R_6.out ?_; (case hw => rfl)) | (refine wpl_ldN ntNat rfl rfl rfl X4_6.out ?_) | (refine wpl_ldN_g ntNat ?hw rfl rfl X4_6.out ?_; (case hw => rfl)) | (refine wpl_ldN ntNat rfl rfl rfl X5_6.out ?_) | (refine wpl_ldN_g ntNat ?hw rfl rfl X5_6.out ?_; (case hw => rfl)))
      refine (mul_ok _ G4.out FB.out E6.out G6.out).mono ?_
      rintro e p7 ⟨rfl, hb⟩
      have ABX6_R := Lib.hid (Nat.lt_of_lt_of_le R_6.out.lt hb.size)
      have XT0_7 := Lib.hid (NatAt.zero p7)
      have XA_7 := Lib.hid (below_zero hb hb.size)
      have hsz_7 : Hid (q6.heap.size ≤ p7.heap.size) := Lib.hid hb.size
      clear hb
      go_wp2_with (first | go_skip | (refine wpl_stN ntNat rfl rfl rfl rfl XT0_7.out ?_; intro q7 hn hg; have XB0_7 := Lib.hid (XA_7.out.grown hg XA_7.out.size (fun j e => by injection e with e; rw [← e]; have := hsz_7.out; omega)); have XS00_7 := Lib.hid hn; have M_7 := Lib.hid (M_6.out.below XB0_7.out); have A_7 := Lib.hid (A_6.out.below XB0_7.out); have B_7 := Lib.hid (B_6.out.below XB0_7.out); have R_7 := Lib.hid (R_6.out.below XB0_7.out); have X4_7 := Lib.hid (X4_6.out.below XB0_7.out); have X5_7 := Lib.hid (X5_6.out.below XB0_7.out); have W_7 := Lib.hid (W_6.out.trans (XB0_7.out.mono W_6.out.size)); have X6_7 := XS00_7; clear hn hg M_6 A_6 B_6 R_6 X4_6 X5_6 W_6 XT0_7 XA_7 XS00_7 XB0_7 hsz_7) | (refine wpl_ldN ntMod rfl rfl rfl M_7.out ?_) | (refine wpl_ldN_g ntMod ?hw rfl rfl M_7.out ?_; (case hw => rfl)) | (refine wpl_ldN ntNat rfl rfl rfl M_7.out ?_) | (refine wpl_ldN_g ntNat ?hw rfl rfl M_7.out ?_; (case hw => rfl)) | (refine wpl_ldN ntNat rfl rfl rfl A_7.out ?_) | (refine wpl_ldN_g ntNat ?hw rfl rfl A_7.out ?_; (case hw => rfl)) | (refine wpl_ldN ntNat rfl rfl rfl B_7.out ?_) | (refine wpl_ldN_g ntNat ?hw rfl rfl B_7.out ?_; (case hw => rfl)) | (refine wpl_ldN ntNat rfl rfl rfl R_7.out ?_) | (refine wpl_ldN_g ntNat ?hw rfl rfl R_7.out ?_; (case hw => rfl)) | (refine wpl_ldN ntNat rfl rfl rfl X4_7.out ?_) | (refine wpl_ldN_g ntNat ?hw rfl rfl X4_7.out ?_; (case hw => rfl)) | (refine wpl_ldN ntNat rfl rfl rfl X5_7.out ?_) | (refine wpl_ldN_g ntNat ?hw rfl rfl X5_7.out ?_; (case hw => rfl)) | (refine wpl_ldN ntNat rfl rfl rfl X6_7.out ?_) | (refine wpl_ldN_g ntNat ?hw rfl rfl X6_7.out ?_; (case hw => rfl)))
      clear X4_7
      refine region_road (KeepN (w.heap.size + 1 + 1 + 1)) [(0, true), (1, true), (2, true), (4, true), (5, true), (3, false), (6, false), (7, false), (8, false)] (by kernel_rfl) (by kernel_rfl) (by kernel_rfl) (by kernel_rfl) (by kernel_rfl) (by kernel_rfl) (keepN_refl _) (keepN_trans _) (fun _ _ d _ _ h => by cases d <;> exact h) ?_
      have M_8 := Lib.hid (M_7.out.below ((Below.refl q7.heap.size q7).drew))
      have A_8 := Lib.hid (A_7.out.below ((Below.refl q7.heap.size q7).drew))
      have B_8 := Lib.hid (B_7.out.below ((Below.refl q7.heap.size q7).drew))
      have R_8 := Lib.hid (R_7.out.below ((Below.refl q7.heap.size q7).drew))
      have X5_8 := Lib.hid (X5_7.out.below ((Below.refl q7.heap.size q7).drew))
      have X6_8 := Lib.hid (X6_7.out.below ((Below.refl q7.heap.size q7).drew))
      have W_8 := Lib.hid (W_7.out.trans (((Below.refl q7.heap.size q7).drew).mono W_7.out.size))
      clear M_7 A_7 B_7 R_7 X5_7 X6_7 W_7
      generalize q7.drew = d8 at M_8 A_8 B_8 R_8 X5_8 X6_8 W_8 ⊢
      refine seqR_at (o := ?_) ?_ ?_
      rotate_left
      · (conv => (lhs; whnf; arg 1; whnf))
      refine seqR_y (v := ?_) (by rfl) (fun W hW => ?_) ?_
      rotate_left
      · (refine exec_ldN (x := .tmp 4) ntMod ?_ ?_ (hW _ _ (by omega) M_8.out)) <;> rfl
      try simp only [Act.put, List.setIfInBounds_toArray, List.set_cons_zero, List.set_cons_succ]
      refine seqR_at (o := ?_) ?_ ?_
      rotate_left
      · (conv => (lhs; whnf; arg 1; whnf))
      refine seqR_y (v := ?_) (by rfl) (fun W hW => ?_) ?_
      rotate_left
      · (refine exec_ldN (x := .tmp 4) ntMod ?_ ?_ (hW _ _ (by omega) M_8.out)) <;> rfl
      try simp only [Act.put, List.setIfInBounds_toArray, List.set_cons_zero, List.set_cons_succ]
      refine seqR_at (o := ?_) ?_ ?_
      rotate_left
      · (conv => (lhs; whnf; arg 1; whnf))
      refine seqR_y (v := ?_) (by rfl) (fun W hW => ?_) ?_
      rotate_left
      · (refine exec_ldN (x := .tmp 16) ntNat ?_ ?_ (hW _ _ (by have := ABX5_R.out; omega) X5_8.out)) <;> rfl
      try simp only [Act.put, List.setIfInBounds_toArray, List.set_cons_zero, List.set_cons_succ]
      refine seqR_at (o := ?_) ?_ ?_
      rotate_left
      · (conv => (lhs; whnf; arg 1; whnf))
      refine seqR_y (v := ?_) (by rfl) (fun W hW => ?_) ?_
      rotate_left
      · (refine exec_ldN (x := .tmp 4) ntMod ?_ ?_ (hW _ _ (by omega) M_8.out)) <;> rfl
      try simp only [Act.put, List.setIfInBounds_toArray, List.set_cons_zero, List.set_cons_succ]
      refine seqR_at (o := ?_) ?_ ?_
      rotate_left
      · (conv => (lhs; whnf; arg 1; whnf))
      refine seqR_y (v := ?_) (by rfl) (fun W hW => ?_) ?_
      rotate_left
      · (refine exec_ldN (x := .tmp 18) ntNat ?_ ?_ (hW _ _ (by have := ABX6_R.out; omega) X6_8.out)) <;> rfl
      try simp only [Act.put, List.setIfInBounds_toArray, List.set_cons_zero, List.set_cons_succ]
      refine seqR_at (o := ?_) ?_ ?_
      rotate_left
      · (conv => (lhs; whnf; arg 1; whnf))
      refine seqR_c (by rfl) (fun K hK => ?_)
      go_simp
      refine (residue_ok _ FM.out G5.out F0.out E7.out).mono ?_
      rintro e p9 ⟨rfl, hb⟩
      have M_9 := Lib.hid (M_8.out.below hb)
      have A_9 := Lib.hid (A_8.out.below hb)
      have B_9 := Lib.hid (B_8.out.below hb)
      have R_9 := Lib.hid (R_8.out.below hb)
      have X5_9 := Lib.hid (X5_8.out.below hb)
      have X6_9 := Lib.hid (X6_8.out.below hb)
      have W_9 := Lib.hid (W_8.out.trans (hb.mono W_8.out.size))
      refine hK _ _ (fun b n _ h => h.below hb) ?_
      clear hK K hb M_8 A_8 B_8 R_8 X5_8 X6_8 W_8
      try simp only [Act.put, List.setIfInBounds_toArray, List.set_cons_zero, List.set_cons_succ]
      refine seqR_at (o := ?_) ?_ ?_
      rotate_left
      · (conv => (lhs; whnf; arg 1; whnf))
      refine seqR_c (by rfl) (fun K hK => ?_)
      go_simp
      refine (residue_ok _ FM.out G6.out F0.out E8.out).mono ?_
      rintro e p10 ⟨rfl, hb⟩
      have M_10 := Lib.hid (M_9.out.below hb)
      have A_10 := Lib.hid (A_9.out.below hb)
      have B_10 := Lib.hid (B_9.out.below hb)
      have R_10 := Lib.hid (R_9.out.below hb)
      have X5_10 := Lib.hid (X5_9.out.below hb)
      have X6_10 := Lib.hid (X6_9.out.below hb)
      have W_10 := Lib.hid (W_9.out.trans (hb.mono W_9.out.size))
      refine hK _ _ (fun b n _ h => h.below hb) ?_
      clear hK K hb M_9 A_9 B_9 R_9 X5_9 X6_9 W_9
      try simp only [Act.put, List.setIfInBounds_toArray, List.set_cons_zero, List.set_cons_succ]
      refine seqR_at (o := ?_) ?_ ?_
      rotate_left
      · (conv => (lhs; whnf; arg 1; whnf))
      refine seqR_c (by rfl) (fun K hK => ?_)
      go_simp
      refine (plus_ok _ FM.out G7.out G8.out E9.out).mono ?_
      rintro e p11 ⟨rfl, hb⟩
      have M_11 := Lib.hid (M_10.out.below hb)
      have A_11 := Lib.hid (A_10.out.below hb)
      have B_11 := Lib.hid (B_10.out.below hb)
      have R_11 := Lib.hid (R_10.out.below hb)
      have X5_11 := Lib.hid (X5_10.out.below hb)
      have X6_11 := Lib.hid (X6_10.out.below hb)
      have W_11 := Lib.hid (W_10.out.trans (hb.mono W_10.out.size))
      refine hK _ _ (fun b n _ h => h.below hb) ?_
      clear hK K hb M_10 A_10 B_10 R_10 X5_10 X6_10 W_10
      try simp only [Act.put, List.setIfInBounds_toArray, List.set_cons_zero, List.set_cons_succ]
      refine seqR_at (o := ?_) ?_ ?_
      rotate_left
      · (conv => (lhs; whnf; arg 1; whnf))
      refine seqR_c (by rfl) (fun K hK => ?_)
      refine wp_stN ntNat rfl rfl (m := o2) rfl R_11.out ?_
      intro z12 hn hg
      have W_12 := Lib.hid (W_11.out.grown hg W_11.out.size (fun j e => by injection e with e; omega))
      have R_12 := Lib.hid hn
      have M_12 := Lib.hid (M_11.out.grown hg (fun e => by injection e with e; revert e; exact (by omega)))
      have A_12 := Lib.hid (A_11.out.grown hg (fun e => by injection e with e; revert e; exact (by omega)))
      have B_12 := Lib.hid (B_11.out.grown hg (fun e => by injection e with e; revert e; exact (by omega)))
      have X5_12 := Lib.hid (X5_11.out.grown hg (fun e => by injection e with e; revert e; exact (by have := ABX5_R.out; omega)))
      have X6_12 := Lib.hid (X6_11.out.grown hg (fun e => by injection e with e; revert e; exact (by have := ABX6_R.out; omega)))
      refine hK _ _ (fun b n hne h => h.grown hg (fun e => hne (by injection e with e))) ?_
      clear hK K hn hg W_11 M_11 A_11 B_11 R_11 X5_11 X6_11
      try simp only [Act.put, List.setIfInBounds_toArray, List.set_cons_zero, List.set_cons_succ]
      refine seqR_end ?_
      go_wp2_with (first | go_skip | (refine wpl_ldN ntNat rfl rfl rfl R_12.out ?_) | (refine wpl_ldN_g ntNat ?hw rfl rfl R_12.out ?_; (case hw => rfl)) | (refine wpl_ldN ntMod rfl rfl rfl M_12.out ?_) | (refine wpl_ldN_g ntMod ?hw rfl rfl M_12.out ?_; (case hw => rfl)) | (refine wpl_ldN ntNat rfl rfl rfl M_12.out ?_) | (refine wpl_ldN_g ntNat ?hw rfl rfl M_12.out ?_; (case hw => rfl)) | (refine wpl_ldN ntNat rfl rfl rfl A_12.out ?_) | (refine wpl_ldN_g ntNat ?hw rfl rfl A_12.out ?_; (case hw => rfl)) | (refine wpl_ldN ntNat rfl rfl rfl B_12.out ?_) | (refine wpl_ldN_g ntNat ?hw rfl rfl B_12.out ?_; (case hw => rfl)) | (refine wpl_ldN ntNat rfl rfl rfl X5_12.out ?_) | (refine wpl_ldN_g ntNat ?hw rfl rfl X5_12.out ?_; (case hw => rfl)) | (refine wpl_ldN ntNat rfl rfl rfl X6_12.out ?_) | (refine wpl_ldN_g ntNat ?hw rfl rfl X6_12.out ?_; (case hw => rfl)))
      go_roundw
      case rel => exact ⟨k, z - (s : Int), rfl, by rw [HKZ.out], HKQ.out, M_12.out, A_12.out, B_12.out, by rw [EO.out]; exact R_12.out, W_12.out⟩
      case measure => simp [intOf]; have := FS1.out; omega

end Go.Proofs.Ytfmadiepefbepaa
