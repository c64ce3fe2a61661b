/- Walks: the reference of chapter 2; what the laws of chapter 2 call (printed by genmodi.py). -/
import Derived.Test.YtfmadiepefbepaaModH
set_option linter.unusedVariables false
set_option linter.unusedSimpArgs false
set_option maxRecDepth 20000
namespace Go.Proofs.Ytfmadiepefbepaa
open Go.RowKit

theorem Lst.one (w : World) : Lst (w.alloc (.cells #[.int .i64 1] 3)) (.slice (some ⟨w.heap.size, 0, none⟩) 1 1) 1 := by
  have e : dL 1 = [1] := by kernel_rfl
  unfold Lst Its
  rw [e]
  refine ⟨some ⟨w.heap.size, 0, none⟩, 1, rfl, Nat.le_refl _, by simp [maxLen], by simp, fun _ => ⟨w.heap.size, 0, rfl, by simp, fun j u hu => ?_⟩⟩
  rw [Nat.zero_add, cell_of_row _ _ _ _ _ (0, 0) (heap_alloc_new _ _), ← hu, ← List.getElem?_toArray]
  rfl
theorem Lst.zero (w : World) : Lst (w.alloc (.cells #[] 3)) (.slice (some ⟨w.heap.size, 0, none⟩) 0 0) 0 := by
  have e : dL 0 = [] := by kernel_rfl
  unfold Lst Its
  rw [e]
  exact ⟨some ⟨w.heap.size, 0, none⟩, 0, rfl, Nat.le_refl _, Nat.zero_le _, by simp, fun h => absurd rfl h⟩
theorem c16_sum {a b p : Nat} (ha : c16 a ≤ p) (hb : c16 b ≤ p) : c16 (a + b) ≤ p + 1 := Nat.le_trans (c16_add a b) (Nat.succ_le_succ (Nat.max_le.2 ⟨ha, hb⟩))
theorem c16_mod {a m p : Nat} (hm : c16 m ≤ p) (h0 : m ≠ 0) : c16 (a % m) ≤ p := Nat.le_trans (c16_mono (Nat.le_of_lt (Nat.mod_lt _ (Nat.pos_of_ne_zero h0)))) hm
set_option maxHeartbeats 1600000 in
theorem rred_ok {a m r : Nat} (u v : Value) (w : World) (hu : Lst w u a) (hv : Lst w v m) (ha : c16 a ≤ 90000) (hm : c16 m ≤ 90000) (h0 : m ≠ 0) (hr : a % m = r) :
    Calls Try.prog 30 #[u, v] w (RetG w r) := by
  have HU := Lib.hid hu
  have HV := Lib.hid hv
  have FA := Lib.hid ha
  have FM := Lib.hid hm
  have F0 := Lib.hid h0
  have FR := Lib.hid hr
  clear hu hv ha hm h0 hr
  go_enter Try.func30, Try.ntmps30
  go_wp2_with fail
  refine (rdivide_ok _ _ _ HU.out HV.out FA.out FM.out F0.out rfl FR.out).mono ?_
  rintro e p1 ⟨u1, v1, rfl, hu, hv, hb⟩
  have U_1 := Lib.hid (HU.out.below hb)
  have V_1 := Lib.hid (HV.out.below hb)
  have W_1 := Lib.hid (hb)
  clear hb HU HV
  have r_1 := Lib.hid hv
  clear hu hv
  go_wp2_with fail
  go_ret
  exact ⟨_, rfl, r_1.out, W_1.out⟩

set_option maxHeartbeats 1600000 in
theorem rmadd_ok {a b m r : Nat} (u v z : Value) (w : World) (hu : Lst w u a) (hv : Lst w v b) (hz : Lst w z m) (ha : c16 a ≤ 1000) (hb : c16 b ≤ 1000) (hm : c16 m ≤ 1000) (h0 : m ≠ 0) (hr : (a + b) % m = r) :
    Calls Try.prog 31 #[u, v, z] w (RetG w r) := by
  have HU := Lib.hid hu
  have HV := Lib.hid hv
  have HZ := Lib.hid hz
  have FA := Lib.hid ha
  have FB := Lib.hid hb
  have FM := Lib.hid hm
  have F0 := Lib.hid h0
  have FR := Lib.hid hr
  clear hu hv hz ha hb hm h0 hr
  go_enter Try.func31, Try.ntmps31
  go_wp2_with fail
  refine (radd_ok _ _ _ HU.out HV.out (Sz.of FA.out (by decide)) (Sz.of FB.out (by decide)) rfl).mono ?_
  rintro e p1 ⟨v1, rfl, hv, hb, ho1⟩
  have U_1 := Lib.hid (HU.out.below hb)
  have V_1 := Lib.hid (HV.out.below hb)
  have Z_1 := Lib.hid (HZ.out.below hb)
  have W_1 := Lib.hid (hb)
  clear hb ho1 HU HV HZ
  have s_1 := Lib.hid hv
  clear hv
  go_wp2_with fail
  refine (rred_ok _ _ _ s_1.out Z_1.out (Nat.le_trans (c16_sum FA.out FB.out) (by decide)) (Nat.le_trans FM.out (by decide)) F0.out FR.out).mono ?_
  rintro e p2 ⟨v2, rfl, hv, hb⟩
  have U_2 := Lib.hid (U_1.out.below hb)
  have V_2 := Lib.hid (V_1.out.below hb)
  have Z_2 := Lib.hid (Z_1.out.below hb)
  have s_2 := Lib.hid (s_1.out.below hb)
  have W_2 := Lib.hid (W_1.out.trans (hb.mono W_1.out.size))
  clear hb U_1 V_1 Z_1 s_1 W_1
  have r_2 := Lib.hid hv
  clear hv
  go_wp2_with fail
  go_ret
  exact ⟨_, rfl, r_2.out, W_2.out⟩

set_option maxHeartbeats 1600000 in
theorem rmmul_ok {a b m r : Nat} (u v z : Value) (w : World) (hu : Lst w u a) (hv : Lst w v b) (hz : Lst w z m) (ha : c16 a ≤ 1000) (hb : c16 b ≤ 1000) (hm : c16 m ≤ 1000) (h0 : m ≠ 0) (hr : a * b % m = r) :
    Calls Try.prog 25 #[u, v, z] w (RetG w r) := by
  have HU := Lib.hid hu
  have HV := Lib.hid hv
  have HZ := Lib.hid hz
  have FA := Lib.hid ha
  have FB := Lib.hid hb
  have FM := Lib.hid hm
  have F0 := Lib.hid h0
  have FR := Lib.hid hr
  clear hu hv hz ha hb hm h0 hr
  go_enter Try.func25, Try.ntmps25
  go_wp2_with fail
  refine (rmul_ok _ _ _ HU.out HV.out (Sz.of FA.out (by decide)) (Sz.of FB.out (by decide)) rfl).mono ?_
  rintro e p1 ⟨v1, rfl, hv, hb, ho1⟩
  have U_1 := Lib.hid (HU.out.below hb)
  have V_1 := Lib.hid (HV.out.below hb)
  have Z_1 := Lib.hid (HZ.out.below hb)
  have W_1 := Lib.hid (hb)
  clear hb ho1 HU HV HZ
  have s_1 := Lib.hid hv
  clear hv
  go_wp2_with fail
  refine (rred_ok _ _ _ s_1.out Z_1.out (Nat.le_trans (c16_mul FA.out FB.out) (by decide)) (Nat.le_trans FM.out (by decide)) F0.out FR.out).mono ?_
  rintro e p2 ⟨v2, rfl, hv, hb⟩
  have U_2 := Lib.hid (U_1.out.below hb)
  have V_2 := Lib.hid (V_1.out.below hb)
  have Z_2 := Lib.hid (Z_1.out.below hb)
  have s_2 := Lib.hid (s_1.out.below hb)
  have W_2 := Lib.hid (W_1.out.trans (hb.mono W_1.out.size))
  clear hb U_1 V_1 Z_1 s_1 W_1
  have r_2 := Lib.hid hv
  clear hv
  go_wp2_with fail
  go_ret
  exact ⟨_, rfl, r_2.out, W_2.out⟩

set_option maxHeartbeats 1600000 in
theorem rmsub_ok {a b m r : Nat} (u v z : Value) (w : World) (hu : Lst w u a) (hv : Lst w v b) (hz : Lst w z m) (ha : c16 a ≤ 1000) (hb : c16 b ≤ 1000) (hm : c16 m ≤ 1000) (h0 : m ≠ 0) (hr : (a % m + m - b % m) % m = r) :
    Calls Try.prog 32 #[u, v, z] w (RetG w r) := by
  have HU := Lib.hid hu
  have HV := Lib.hid hv
  have HZ := Lib.hid hz
  have FA := Lib.hid ha
  have FB := Lib.hid hb
  have FM := Lib.hid hm
  have F0 := Lib.hid h0
  have FR := Lib.hid hr
  clear hu hv hz ha hb hm h0 hr
  go_enter Try.func32, Try.ntmps32
  go_wp2_with fail
  refine (rred_ok _ _ _ HU.out HZ.out (Nat.le_trans FA.out (by decide)) (Nat.le_trans FM.out (by decide)) F0.out rfl).mono ?_
  rintro e p1 ⟨v1, rfl, hv, hb⟩
  have U_1 := Lib.hid (HU.out.below hb)
  have V_1 := Lib.hid (HV.out.below hb)
  have Z_1 := Lib.hid (HZ.out.below hb)
  have W_1 := Lib.hid (hb)
  clear hb HU HV HZ
  have p_1 := Lib.hid hv
  clear hv
  go_wp2_with fail
  refine (radd_ok _ _ _ p_1.out Z_1.out (Sz.of (c16_mod FM.out F0.out) (by decide)) (Sz.of FM.out (by decide)) rfl).mono ?_
  rintro e p2 ⟨v2, rfl, hv, hb, ho2⟩
  have U_2 := Lib.hid (U_1.out.below hb)
  have V_2 := Lib.hid (V_1.out.below hb)
  have Z_2 := Lib.hid (Z_1.out.below hb)
  have p_2 := Lib.hid (p_1.out.below hb)
  have W_2 := Lib.hid (W_1.out.trans (hb.mono W_1.out.size))
  clear hb ho2 U_1 V_1 Z_1 p_1 W_1
  have s_2 := Lib.hid hv
  clear hv
  go_wp2_with fail
  refine (rred_ok _ _ _ V_2.out Z_2.out (Nat.le_trans FB.out (by decide)) (Nat.le_trans FM.out (by decide)) F0.out rfl).mono ?_
  rintro e p3 ⟨v3, rfl, hv, hb⟩
  have U_3 := Lib.hid (U_2.out.below hb)
  have V_3 := Lib.hid (V_2.out.below hb)
  have Z_3 := Lib.hid (Z_2.out.below hb)
  have p_3 := Lib.hid (p_2.out.below hb)
  have s_3 := Lib.hid (s_2.out.below hb)
  have W_3 := Lib.hid (W_2.out.trans (hb.mono W_2.out.size))
  clear hb U_2 V_2 Z_2 p_2 s_2 W_2
  have q_3 := Lib.hid hv
  clear hv
  go_wp2_with fail
  refine (rsub_ok _ _ _ s_3.out q_3.out (Sz.of (c16_sum (c16_mod FM.out F0.out) FM.out) (by decide)) (Sz.of (c16_mod FM.out F0.out) (by decide)) (Nat.le_trans (Nat.le_of_lt (Nat.mod_lt _ (Nat.pos_of_ne_zero F0.out))) (Nat.le_add_left _ _)) rfl).mono ?_
  rintro e p4 ⟨v4, rfl, hv, hb, ho4⟩
  have U_4 := Lib.hid (U_3.out.below hb)
  have V_4 := Lib.hid (V_3.out.below hb)
  have Z_4 := Lib.hid (Z_3.out.below hb)
  have p_4 := Lib.hid (p_3.out.below hb)
  have s_4 := Lib.hid (s_3.out.below hb)
  have q_4 := Lib.hid (q_3.out.below hb)
  have W_4 := Lib.hid (W_3.out.trans (hb.mono W_3.out.size))
  clear hb ho4 U_3 V_3 Z_3 p_3 s_3 q_3 W_3
  have t_4 := Lib.hid hv
  clear hv
  go_wp2_with fail
  refine (rred_ok _ _ _ t_4.out Z_4.out (Nat.le_trans (c16_mono (Nat.sub_le _ _)) (Nat.le_trans (c16_sum (c16_mod FM.out F0.out) FM.out) (by decide))) (Nat.le_trans FM.out (by decide)) F0.out FR.out).mono ?_
  rintro e p5 ⟨v5, rfl, hv, hb⟩
  have U_5 := Lib.hid (U_4.out.below hb)
  have V_5 := Lib.hid (V_4.out.below hb)
  have Z_5 := Lib.hid (Z_4.out.below hb)
  have p_5 := Lib.hid (p_4.out.below hb)
  have s_5 := Lib.hid (s_4.out.below hb)
  have q_5 := Lib.hid (q_4.out.below hb)
  have t_5 := Lib.hid (t_4.out.below hb)
  have W_5 := Lib.hid (W_4.out.trans (hb.mono W_4.out.size))
  clear hb U_4 V_4 Z_4 p_4 s_4 q_4 t_4 W_4
  have r_5 := Lib.hid hv
  clear hv
  go_wp2_with fail
  go_ret
  exact ⟨_, rfl, r_5.out, W_5.out⟩

theorem exp_bit (a x m k : Nat) : (if bitN x k = true then a ^ (x / 2 ^ (k + 1)) % m * (a ^ (x / 2 ^ (k + 1)) % m) % m * a % m else a ^ (x / 2 ^ (k + 1)) % m * (a ^ (x / 2 ^ (k + 1)) % m) % m) = a ^ (x / 2 ^ k) % m := by
  have h := half_bit x k
  rw [← Nat.mul_mod, ← Nat.pow_add, ← Nat.two_mul]
  by_cases hb : bitN x k = true
  · rw [if_pos hb] at h ⊢
    rw [h, Nat.mod_mul_mod, ← Nat.pow_succ]
  · rw [if_neg hb] at h ⊢
    rw [Nat.add_zero] at h
    rw [h]
set_option maxHeartbeats 6400000 in
theorem rmexp_ok {a x m r : Nat} (u v z : Value) (w : World) (hu : Lst w u a) (hv : Lst w v x) (hz : Lst w z m) (ha : c16 a ≤ 1000) (hx : c16 x ≤ 1000) (hm : c16 m ≤ 1000) (h0 : m ≠ 0) (hr : a ^ x % m = r) :
    Calls Try.prog 26 #[u, v, z] w (RetG w r) := by
  have HU := Lib.hid hu
  have HV := Lib.hid hv
  have HZ := Lib.hid hz
  have FA := Lib.hid ha
  have FX := Lib.hid hx
  have FM := Lib.hid hm
  have F0 := Lib.hid h0
  have FR := Lib.hid hr
  clear hu hv hz ha hx hm h0 hr
  have FBL : Hid ((bl x : Int) ≤ 16000) := Lib.hid (by have h1 := bl_le (n := x) (k := 16 * c16 x) (lt_c16 x); have := FX.out; omega)
  have hbl := FBL.out
  have U_0 := Lib.hid (HU.out.below ((Below.refl w.heap.size w).alloc (Nat.le_refl _) (.cells #[.int .i64 1] 3)))
  have V_0 := Lib.hid (HV.out.below ((Below.refl w.heap.size w).alloc (Nat.le_refl _) (.cells #[.int .i64 1] 3)))
  have Z_0 := Lib.hid (HZ.out.below ((Below.refl w.heap.size w).alloc (Nat.le_refl _) (.cells #[.int .i64 1] 3)))
  have O_0 := Lib.hid (Lst.one w)
  have W_0 := Lib.hid ((Below.refl w.heap.size w).alloc (Nat.le_refl _) (.cells #[.int .i64 1] 3))
  clear HU HV HZ
  go_enter Try.func26, Try.ntmps26
  go_wp2_with fail
  refine (rred_ok _ _ _ O_0.out Z_0.out (Nat.le_trans (c16_int (v := 1) (by decide)) (by decide)) (Nat.le_trans FM.out (by decide)) F0.out rfl).mono ?_
  rintro e p1 ⟨v1, rfl, hv, hb⟩
  have U_1 := Lib.hid (U_0.out.below hb)
  have V_1 := Lib.hid (V_0.out.below hb)
  have Z_1 := Lib.hid (Z_0.out.below hb)
  have O_1 := Lib.hid (O_0.out.below hb)
  have W_1 := Lib.hid (W_0.out.trans (hb.mono W_0.out.size))
  clear hb U_0 V_0 Z_0 O_0 W_0
  have out_1 := Lib.hid hv
  clear hv
  go_wp2_with fail
  clear O_1
  refine (rbitLen_any _ x _ V_1.out (Sz.of FX.out (by decide))).mono ?_
  rintro e p2 ⟨rfl, rfl⟩
  go_wp2_with fail
  clear hbl
  go_loopw [7, 8] (fun y i wr => ∃ k : Nat, k ≤ bl x ∧ i = .int .i64 ((k : Int) - 1) ∧ Lst wr y (a ^ (x / 2 ^ k) % m) ∧ Lst wr u a ∧ Lst wr v x ∧ Lst wr z m ∧ Below w.heap.size w wr) (fun _ i _ => (intOf i + 1).toNat)
  case atStart => exact ⟨bl x, Nat.le_refl _, rfl, by rw [Nat.div_eq_of_lt (lt_bl x), Nat.pow_zero]; exact out_1.out, U_1.out, V_1.out, Z_1.out, W_1.out⟩
  case round =>
    obtain ⟨k, hk, rfl, hy, h1, h2, h3, h4⟩ := hrel
    clear out_1 U_1 V_1 Z_1 W_1
    have Y_0 := Lib.hid hy
    have U_0 := Lib.hid h1
    have V_0 := Lib.hid h2
    have Z_0 := Lib.hid h3
    have W_0 := Lib.hid h4
    clear hy h1 h2 h3 h4
    rcases k with _ | k
    · rw [Nat.pow_zero, Nat.div_one, FR.out] at Y_0
      go_wp2_with fail
      go_ret
      exact ⟨_, rfl, Y_0.out, W_0.out⟩
    · have e1 : (((k + 1 : Nat) : Int) - 1) = (k : Int) := by omega
      rw [e1]
      have hki : (k : Int) < 16000 := by have := FBL.out; omega
      have HK : Hid (k ≤ bl x) := Lib.hid (by omega)
      have hwk : IntKind.i64.wrap ((k : Int) - 1) = (k : Int) - 1 := by rw [IntKind.wrap_i64]; omega
      obtain ⟨o1, ho1⟩ : ∃ n, a ^ (x / 2 ^ (k + 1)) % m = n := ⟨_, rfl⟩
      have hbit := exp_bit a x m k
      rw [ho1] at Y_0 hbit
      have G1 : Hid (c16 o1 ≤ 1000) := Lib.hid (by rw [← ho1]; exact c16_mod FM.out F0.out)
      obtain ⟨o2, ho2⟩ : ∃ n, o1 * o1 % m = n := ⟨_, rfl⟩
      have G2 : Hid (c16 o2 ≤ 1000) := Lib.hid (by rw [← ho2]; exact c16_mod FM.out F0.out)
      have E2 := Lib.hid ho2
      rw [ho2] at hbit
      have HB := Lib.hid hbit
      clear e1 hk ho1 ho2 hbit
      go_wp2_with fail
      refine (rmmul_ok _ _ _ _ Y_0.out Y_0.out Z_0.out G1.out G1.out FM.out F0.out E2.out).mono ?_
      rintro e p1 ⟨v1, rfl, hv, hb⟩
      have Y_1 := Lib.hid (Y_0.out.below hb)
      have U_1 := Lib.hid (U_0.out.below hb)
      have V_1 := Lib.hid (V_0.out.below hb)
      have Z_1 := Lib.hid (Z_0.out.below hb)
      have W_1 := Lib.hid (W_0.out.trans (hb.mono W_0.out.size))
      clear hb Y_0 U_0 V_0 Z_0 W_0
      have P_1 := Lib.hid hv
      clear hv
      go_wp2_with fail
      clear Y_1
      refine (rbit_any _ x (k : Int) _ V_1.out (Sz.of FX.out (by decide)) (by unfold maxI; omega)).mono ?_
      rintro e q9 ⟨rfl, rfl⟩
      rw [tI_nat]
      by_cases hb : x / 2 ^ k % 2 = 1
      · skip
        have hbt : bitN x k = true := decide_eq_true hb
        have HB2 := HB.out
        rw [if_pos hbt] at HB2
        have HB3 := Lib.hid HB2
        rw [hb]
        clear hb hbt HB2 HB
        go_wp2_with fail
        refine (rmmul_ok _ _ _ _ P_1.out U_1.out Z_1.out G2.out FA.out FM.out F0.out HB3.out).mono ?_
        rintro e p2 ⟨v2, rfl, hv, hb⟩
        have U_2 := Lib.hid (U_1.out.below hb)
        have V_2 := Lib.hid (V_1.out.below hb)
        have Z_2 := Lib.hid (Z_1.out.below hb)
        have P_2 := Lib.hid (P_1.out.below hb)
        have W_2 := Lib.hid (W_1.out.trans (hb.mono W_1.out.size))
        clear hb U_1 V_1 Z_1 P_1 W_1
        have Q_2 := Lib.hid hv
        clear hv
        go_wp2_with fail
        go_roundw
        case rel => exact ⟨k, HK.out, rfl, Q_2.out, U_2.out, V_2.out, Z_2.out, W_2.out⟩
        case measure => simp [intOf] <;> omega
      · skip
        have hbt : ¬ bitN x k = true := by unfold bitN; simpa using hb
        have HB2 := HB.out
        rw [if_neg hbt] at HB2
        have HB3 := Lib.hid HB2
        have hz : x / 2 ^ k % 2 = 0 := by omega
        rw [hz]
        clear hb hbt HB2 HB hz
        go_wp2_with fail
        go_roundw
        case rel => exact ⟨k, HK.out, rfl, by rw [← HB3.out]; exact P_1.out, U_1.out, V_1.out, Z_1.out, W_1.out⟩
        case measure => simp [intOf] <;> omega

set_option maxHeartbeats 1600000 in
theorem number_ok {n : Nat} (w : World) (hn : (n : Int) ≤ 9223372036854775807) :
    Calls Try.prog 22 #[.int .i64 (n : Int)] w fun e w' => e = .returned (.agg (natA n)) ∧ Below w.heap.size w w' := by
  have HN := Lib.hid hn
  clear hn
  have HR : Hid (NatAt (w.alloc (.cells z0 37)) (w.heap.size) (0)) := Lib.hid (by
    have h := NatAt.new w (0) 37
    rw [natA_zero] at h
    simpa using h)
  have HW : Hid (Below w.heap.size w (w.alloc (.cells z0 37))) := Lib.hid (by
    have h := Below.refl w.heap.size w
    replace h := h.alloc h.size (.cells z0 37)
    exact h)
  go_enter Try.func22, Try.ntmps22
  go_wp2_with (first | go_skip | (refine wpl_ldN ntNat rfl rfl rfl HR.out ?_) | (refine wpl_ldN_g ntNat ?hw rfl rfl HR.out ?_; (case hw => rfl)))
  refine (fromInt_pos _ _ HN.out).mono ?_
  rintro e p1 ⟨rfl, hb⟩
  have XT0_1 := Lib.hid (NatAt.zero p1)
  have XA_1 := Lib.hid (below_zero hb hb.size)
  have hsz_1 := Lib.hid hb.size
  clear hb
  go_wp2_with (first | go_skip | (refine wpl_stN ntNat rfl rfl rfl rfl XT0_1.out ?_; intro q1 hn hg; have XB0_1 := Lib.hid (XA_1.out.grown hg XA_1.out.size (fun j e => by injection e with e; rw [← e]; have := hsz_1.out; omega)); have XS00_1 := Lib.hid hn; have R_1 := Lib.hid (HR.out.below XB0_1.out); have W_1 := Lib.hid (HW.out.trans (XB0_1.out.mono HW.out.size)); have o_1 := XS00_1; clear hn hg HR HW XT0_1 XA_1 XS00_1 XB0_1 hsz_1) | (refine wpl_ldN ntNat rfl rfl rfl R_1.out ?_) | (refine wpl_ldN_g ntNat ?hw rfl rfl R_1.out ?_; (case hw => rfl)) | (refine wpl_ldN ntNat rfl rfl rfl o_1.out ?_) | (refine wpl_ldN_g ntNat ?hw rfl rfl o_1.out ?_; (case hw => rfl)) | (refine wpl_stN ntNat rfl rfl rfl rfl R_1.out ?_; intro z2 hn hg; have W_2 := Lib.hid (W_1.out.grown hg W_1.out.size (fun j e => by injection e with e; omega)); have R_2 := Lib.hid hn; clear hn hg W_1 R_1 o_1))
  refine bodyPost_ret (results_one rfl _ _ rfl R_2.out) rfl ?_
  exact ⟨rfl, W_2.out⟩

set_option maxHeartbeats 1600000 in
theorem made2_ok {n : Nat} {xs : List UInt8} (v : Value) (w : World) (h : Byt w v xs) (hl : xs.length ≤ 200) (hs : numN xs = n) (hf : Fit n) :
    Calls Try.prog 14 #[v] w fun e w' => e = .returned (.agg (natA n)) ∧ Below w.heap.size w w' := by
  have HV := Lib.hid h
  have HL := Lib.hid hl
  have HS := Lib.hid hs
  have HF := Lib.hid hf
  clear h hl hs hf
  have HR : Hid (NatAt (w.alloc (.cells z0 37)) (w.heap.size) (0)) := Lib.hid (by
    have h := NatAt.new w (0) 37
    rw [natA_zero] at h
    simpa using h)
  have HW : Hid (Below w.heap.size w (w.alloc (.cells z0 37))) := Lib.hid (by
    have h := Below.refl w.heap.size w
    replace h := h.alloc h.size (.cells z0 37)
    exact h)
  have V_0 := Lib.hid (HV.out.below HW.out)
  go_enter Try.func14, Try.ntmps14
  go_wp2_with fail
  refine (fromBytes_ok _ _ V_0.out HL.out HS.out HF.out).mono ?_
  rintro e p1 ⟨rfl, hb⟩
  have XT0_1 := Lib.hid (NatAt.zero p1)
  have XA_1 := Lib.hid (below_zero hb hb.size)
  have hsz_1 := Lib.hid hb.size
  clear hb
  go_wp2_with (first | go_skip | (refine wpl_stN ntNat rfl rfl rfl rfl XT0_1.out ?_; intro q1 hn hg; have XB0_1 := Lib.hid (XA_1.out.grown hg XA_1.out.size (fun j e => by injection e with e; rw [← e]; have := hsz_1.out; omega)); have XS00_1 := Lib.hid hn; have R_1 := Lib.hid (HR.out.below XB0_1.out); have V_1 := Lib.hid (V_0.out.below XB0_1.out); have W_1 := Lib.hid (HW.out.trans (XB0_1.out.mono HW.out.size)); have o_1 := XS00_1; clear hn hg HR V_0 HW XT0_1 XA_1 XS00_1 XB0_1 hsz_1) | (refine wpl_ldN ntNat rfl rfl rfl R_1.out ?_) | (refine wpl_ldN_g ntNat ?hw rfl rfl R_1.out ?_; (case hw => rfl)) | (refine wpl_ldN ntNat rfl rfl rfl o_1.out ?_) | (refine wpl_ldN_g ntNat ?hw rfl rfl o_1.out ?_; (case hw => rfl)) | (refine wpl_stN ntNat rfl rfl rfl rfl R_1.out ?_; intro z2 hn hg; have W_2 := Lib.hid (W_1.out.grown hg W_1.out.size (fun j e => by injection e with e; omega)); have R_2 := Lib.hid hn; clear hn hg W_1 R_1 V_1 o_1))
  refine bodyPost_ret (results_one rfl _ _ rfl R_2.out) rfl ?_
  exact ⟨rfl, W_2.out⟩

set_option maxHeartbeats 1600000 in
theorem result_ok {n : Nat} (w : World) (hf : Fit n) (hn : ¬ q62 < n) (hi : (n : Int) ≤ 9223372036854775807) :
    Calls Try.prog 33 #[.agg (natA n), .int .i64 0, .int .i64 (n : Int)] w fun e w' => e = .returned (.bool true) ∧ Below w.heap.size w w' := by
  have HF := Lib.hid hf
  have HN := Lib.hid hn
  have HI := Lib.hid hi
  clear hf hn hi
  have HA : Hid (NatAt (w.alloc (.cells (natA n) 37)) (w.heap.size) (n)) := Lib.hid (by
    have h := NatAt.new w (n) 37
    simpa using h)
  have HW : Hid (Below w.heap.size w (w.alloc (.cells (natA n) 37))) := Lib.hid (by
    have h := Below.refl w.heap.size w
    replace h := h.alloc h.size (.cells (natA n) 37)
    exact h)
  go_enter Try.func33, Try.ntmps33
  go_wp2_with (first | go_skip | (refine wpl_ldN ntNat rfl rfl rfl HA.out ?_) | (refine wpl_ldN_g ntNat ?hw rfl rfl HA.out ?_; (case hw => rfl)))
  refine (int_small HF.out HN.out _).mono ?_
  rintro e p1 ⟨rfl, hb⟩
  have A_1 := Lib.hid (HA.out.below hb)
  have W_1 := Lib.hid (HW.out.trans (hb.mono HW.out.size))
  clear hb HA HW
  go_wp2_with (first | go_skip | (refine wpl_ldN ntNat rfl rfl rfl A_1.out ?_) | (refine wpl_ldN_g ntNat ?hw rfl rfl A_1.out ?_; (case hw => rfl)))
  go_ret
  exact ⟨rfl, W_1.out⟩

set_option maxHeartbeats 1600000 in
theorem same2_any (a n : Nat) (v : Value) (w : World) (ha : Fit a) (hn : Lst w v n) (hs : Sz n) :
    Calls Try.prog 24 #[.agg (natA a), v] w fun e w' => e = .returned (.bool (decide (a = n))) ∧ Below w.heap.size w w' := by
  have HF := Lib.hid ha
  have HS := Lib.hid hs
  have HA : Hid (NatAt (w.alloc (.cells (natA a) 37)).drew w.heap.size a) := Lib.hid (NatAt.new w a 37)
  have HN1 : Hid (Lst (w.alloc (.cells (natA a) 37)).drew v n) := Lib.hid (Lst.below hn (below_drew' ((Below.refl _ _).alloc (Nat.le_refl _) _) 1))
  have HB1 : Hid (Below w.heap.size w (w.alloc (.cells (natA a) 37)).drew) := Lib.hid (below_drew' ((Below.refl _ _).alloc (Nat.le_refl _) _) 1)
  obtain ⟨A, c, rfl, _⟩ := Its.len hn
  clear ha hn hs
  go_enter Try.func24, Try.ntmps24
  go_wp2_with fail
  refine region_road Later [(0, true), (3, true), (1, false), (2, true), (4, false), (5, true), (6, true), (7, true)] (by kernel_rfl) (by kernel_rfl) (by kernel_rfl) (by kernel_rfl) (by kernel_rfl) (by kernel_rfl) later_refl later_trans (fun _ _ d _ _ h => by cases d <;> exact h) ?_
  generalize (w.alloc (.cells (natA a) 37)).drew = w1 at HA HN1 HB1 ⊢
  refine seqR_at (o := ?_) ?_ ?_
  rotate_left
  · (conv => (lhs; whnf; arg 1; whnf))
  refine seqR_y (v := ?_) (by rfl) (fun W hW => ?_) ?_
  rotate_left
  · (refine exec_ldN (x := .tmp 2) ntNat ?_ ?_ (HA.out.below hW)) <;> rfl
  try simp only [Act.put, List.setIfInBounds_toArray, List.set_cons_zero, List.set_cons_succ]
  refine seqR_at (o := ?_) ?_ ?_
  rotate_left
  · (conv => (lhs; whnf; arg 1; whnf))
  refine seqR_y (v := ?_) (by rfl) (fun W hW => ?_) ?_
  rotate_left
  · go_simp; try with_reducible rfl
  try simp only [Act.put, List.setIfInBounds_toArray, List.set_cons_zero, List.set_cons_succ]
  refine seqR_at (o := ?_) ?_ ?_
  rotate_left
  · (conv => (lhs; whnf; arg 1; whnf))
  refine seqR_c (by rfl) (fun K hK => ?_)
  go_simp
  refine (bytes_any a _ HF.out).mono ?_
  rintro e w2 ⟨v2, rfl, hv2, hb2⟩
  have HV2 := Lib.hid hv2
  have HB2 := Lib.hid (HB1.out.trans (hb2.mono HB1.out.size))
  have HN2 := Lib.hid (HN1.out.below hb2)
  refine hK _ _ hb2 ?_
  clear hb2 hv2 HN1 HB1
  try simp only [Act.put, List.setIfInBounds_toArray, List.set_cons_zero, List.set_cons_succ]
  refine seqR_at (o := ?_) ?_ ?_
  rotate_left
  · (conv => (lhs; whnf; arg 1; whnf))
  refine seqR_y (v := ?_) (by rfl) (fun W hW => ?_) ?_
  rotate_left
  · have h9 := strLater (OwnB.byt HV2.out) W hW; go_simp; try with_reducible rfl
  try simp only [Act.put, List.setIfInBounds_toArray, List.set_cons_zero, List.set_cons_succ]
  refine seqR_at (o := ?_) ?_ ?_
  rotate_left
  · (conv => (lhs; whnf; arg 1; whnf))
  refine seqR_c (by rfl) (fun K hK => ?_)
  go_simp
  refine (rbytes_any _ n _ HN2.out HS.out).mono ?_
  rintro e w3 ⟨v3, rfl, hv3, hb3⟩
  have HV3 := Lib.hid hv3
  have HB3 := Lib.hid (HB2.out.trans (hb3.mono HB2.out.size))
  refine hK _ _ hb3 ?_
  clear hb3 hv3 HN2 HB2
  try simp only [Act.put, List.setIfInBounds_toArray, List.set_cons_zero, List.set_cons_succ]
  refine seqR_at (o := ?_) ?_ ?_
  rotate_left
  · (conv => (lhs; whnf; arg 1; whnf))
  refine seqR_y (v := ?_) (by rfl) (fun W hW => ?_) ?_
  rotate_left
  · have h9 := strLater (OwnB.byt HV3.out) W hW; go_simp; try with_reducible rfl
  try simp only [Act.put, List.setIfInBounds_toArray, List.set_cons_zero, List.set_cons_succ]
  refine seqR_at (o := ?_) ?_ ?_
  rotate_left
  · (conv => (lhs; whnf; arg 1; whnf))
  refine seqR_y (v := ?_) (by rfl) (fun W hW => ?_) ?_
  rotate_left
  · go_simp; try with_reducible rfl
  try simp only [Act.put, List.setIfInBounds_toArray, List.set_cons_zero, List.set_cons_succ]
  refine seqR_at (o := ?_) ?_ ?_
  rotate_left
  · (conv => (lhs; whnf; arg 1; whnf))
  refine seqR_y (v := ?_) (by rfl) (fun W hW => ?_) ?_
  rotate_left
  · go_simp; try with_reducible rfl
  try simp only [Act.put, List.setIfInBounds_toArray, List.set_cons_zero, List.set_cons_succ]
  refine seqR_end ?_
  go_wp2_with fail
  go_ret
  refine ⟨?_, HB3.out⟩
  show Ending.returned (.bool (bytesN a == bytesN n)) = _
  rw [bytes_beq]

theorem same2_ok {a n : Nat} {c : Bool} (v : Value) (w : World) (ha : Fit a) (hn : Lst w v n) (hs : Sz n) (h : decide (a = n) = c) :
    Calls Try.prog 24 #[.agg (natA a), v] w fun e w' => e = .returned (.bool c) ∧ Below w.heap.size w w' := by
  subst h
  exact same2_any a n v w ha hn hs

end Go.Proofs.Ytfmadiepefbepaa
