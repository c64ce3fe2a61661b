/- Walk: reduce (printed by gennatbb.py). · A region that draws, step by step, with branches; plain: what Divide sets out from. -/
import Derived.Test.YtomiapceefbmeaaNatAA
import Derived.Test.YtomiapceefbmeaaDraw
import Derived.Deep.DeepCutAuto
set_option linter.unusedVariables false
set_option linter.unusedSimpArgs false
set_option maxRecDepth 20000
namespace Go.Proofs.Ytomiapceefbmeaa
open Go.RowKit

theorem DAt.other {w : World} {B B' N n : Nat} (h : DAt w B N n) (hne : B ≠ B') (j : Nat) (v : Value) : DAt (w.setCell ⟨B', j, none⟩ v) B N n := by
  obtain ⟨T, h⟩ := h
  exact ⟨T, (heap_setCell_other w ⟨B', j, none⟩ B v (by simpa using hne)).trans h⟩
def RetR (w : World) (Bu U f R V : Nat) (e : Ending) (w' : World) : Prop := e = .returned (.int .u64 ((R / V : Nat) : Int)) ∧ DAt w' Bu 33 (U % B32 f + R % V * B32 f) ∧ w.grownBy w' (some Bu)

set_option maxHeartbeats 3200000 in
set_option maxRecDepth 100000 in
theorem reduce_any (Bu Bv U V f m q : Nat) (w : World) (hu : DAt w Bu 33 U) (hv : DAt w Bv 33 V) (hne : Bu ≠ Bv) (hV0 : 0 < V) (hV : V < B32 (m + 1)) (hR : U / B32 f < V * 4294967296) (hfm : f + m + 1 < 33)
    (hq : q < 4294967296) (hq1 : U / B32 f / V ≤ q) (hq2 : q ≤ U / B32 f / V + 1) (n : Nat) (hnm : n = m + 1) :
    Calls Try.prog 55 #[.pointer (some ⟨Bu, 0, none⟩), .pointer (some ⟨Bv, 0, none⟩), .int .i64 (f : Int), .int .i64 (n : Int), .int .u64 (q : Int)] w (RetR w Bu U f (U / B32 f) V) := by
  obtain ⟨R, hRd⟩ : ∃ R, R = U / B32 f := ⟨_, rfl⟩
  rw [← hRd] at hR hq1 hq2 ⊢
  obtain ⟨hb1, hb2⟩ := rd_bounds hV hR hq
  obtain ⟨S, hSd⟩ : ∃ S, S = dfB R (V * q) (m + 2) := ⟨_, rfl⟩
  have HU := Lib.hid hu
  have HV := Lib.hid hv
  have HNE := Lib.hid hne
  have HB := Lib.hid (And.intro hfm hnm)
  have HH := Lib.hid (And.intro hV0 (And.intro hV (And.intro hR (And.intro hq (And.intro hq1 hq2)))))
  have HBB := Lib.hid (And.intro hb1 hb2)
  have HRD := Lib.hid hRd
  have HSD := Lib.hid hSd
  have hUl : U < B32 (f + (m + 2)) := by
    rw [B32_add, Nat.mul_comm, ← Nat.div_lt_iff_lt_mul (B32_pos f), ← hRd]
    exact hb1
  have HUL := Lib.hid hUl
  have q8 : (q : Int) < 4294967296 := by omega
  have q0 : (0 : Int) ≤ (q : Int) := by omega
  have n33 : (n : Int) < 33 := by omega
  have n0 : (0 : Int) ≤ (n : Int) := by omega
  have f33 : (f : Int) < 33 := by omega
  have f0 : (0 : Int) ≤ (f : Int) := by omega
  clear hu hv hne hV0 hV hR hfm hq hq1 hq2 hnm hRd hb1 hb2 hSd hUl
  obtain ⟨qi, hqi⟩ : ∃ y : Int, y = (q : Int) := ⟨_, rfl⟩
  rw [← hqi] at q8 q0 ⊢
  have HQ := Lib.hid hqi
  clear hqi
  go_enter Try.func55, Try.ntmps55
  go_wp2_with fail
  go_loopw [11, 12, 19] (fun b c i wr => ∃ k : Nat, k ≤ m + 2 ∧ i = .int .i64 (k : Int) ∧ b = .int .u32 ((cr32 S (V * q) k : Nat) : Int) ∧ c = .int .u64 ((mc32 V q k : Nat) : Int) ∧ DAt wr Bu 33 (mixD U S f k) ∧ w.grownBy wr (some Bu)) (fun _ _ i _ => ((n : Int) + 1 - intOf i).toNat)
  case atStart => exact ⟨0, Nat.zero_le _, rfl, by rw [cr32_zero]; rfl, by rw [mc32_zero]; rfl, HU.out.congr (fun j _ => (mixD_zero U S f j).symm), World.grownBy.refl _ _⟩
  case round =>
    obtain ⟨k, hk, rfl, rfl, rfl, hd, hg⟩ := hrel
    have HD := Lib.hid hd
    have HG := Lib.hid hg
    have HK := Lib.hid hk
    clear hd hg hk
    by_cases hkn : k < n + 1
    · have hki : (k : Int) < (n : Int) + 1 := by omega
      have hj33 : f + k < 33 := by have := HB.out; omega
      obtain ⟨j, hj⟩ : ∃ j, j = f + k := ⟨_, rfl⟩
      obtain ⟨p, hp⟩ : ∃ p, p = dig V k * q + mc32 V q k := ⟨_, rfl⟩
      have hy : p % 4294967296 = dig (V * q) k := by rw [hp, ← mulc_dig]
      have hc' : p / 4294967296 = mc32 V q (k + 1) := by rw [hp, ← mc32_succ]
      have hstep := dfB_step (k := k) HBB.out.1 HBB.out.2 (show k < m + 2 by have := HB.out; omega)
      rw [← HSD.out] at hstep
      have hxd : dig (mixD U S f k) j = dig R k := by
        rw [mixD_dig, if_neg (by omega), if_neg (by omega), HRD.out, dig_from, hj]
      have cU := HD.out.cell (show j < 33 by omega)
      rw [hxd] at cU
      have fU := fun t : Nat => (HD.out.drewN t).frozen j
      have fU' := HD.out.drew.frozen j
      have x8 := dig_lt' R k
      have y8 := dig_lt' (V * q) k
      have HSUB : Hid (∀ W, Calls Try.prog 60 #[.int .u32 ((dig R k : Nat) : Int), .int .u32 ((dig (V * q) k : Nat) : Int), .int .u32 ((cr32 S (V * q) k : Nat) : Int)] W fun e w' => e = .returned (.tuple #[.int .u32 ((dig S k : Nat) : Int), .int .u32 ((cr32 S (V * q) (k + 1) : Nat) : Int)]) ∧ w' = W) := Lib.hid (fun W => by
        have h1 := sub32_any (dig R k) (dig (V * q) k) ((cr32 S (V * q) k : Nat) : Int) W (by omega) (by omega) ⟨by omega, by have := cr32_le S (V * q) k; omega⟩
        rw [hstep.1, hstep.2] at h1
        exact h1)
      have hp64 : p < 18446744073709551616 := by
        have h1 := mc32_le V q k
        have h2 := dig_lt' V k
        have h3 : dig V k * q ≤ 4294967295 * q := Nat.mul_le_mul_right _ (by omega)
        have h4 := HH.out.2.2.2.1
        omega
      obtain ⟨pI, hpI⟩ : ∃ y : Int, y = (p : Int) := ⟨_, rfl⟩
      have v1 : IntKind.u32.wrap pI = ((dig (V * q) k : Nat) : Int) := by rw [hpI, IntKind.wrap_u32]; omega
      have v2 : pI / 4294967296 = ((mc32 V q (k + 1) : Nat) : Int) := by rw [hpI]; omega
      have v3 : IntKind.i64.wrap ((f : Int) + (k : Int)) = (j : Int) := by rw [show (f : Int) + (k : Int) = (j : Int) from by omega]; exact IntWalk.i64_in _ (by omega)
      have p0 : 0 ≤ pI := by omega
      have pw : IntKind.u64.wrap pI = pI := by rw [IntKind.wrap_u64]; omega
      have j33 : (j : Int) < 33 := by omega
      have j0 : (0 : Int) ≤ (j : Int) := by omega
      have HJ := Lib.hid hj
      have HPI := Lib.hid hpI
      have HP := Lib.hid hp
      have HP64 := Lib.hid hp64
      obtain ⟨mc, hmc⟩ : ∃ y : Int, y = ((mc32 V q k : Nat) : Int) := ⟨_, rfl⟩
      have hmc8 : mc ≤ qi := by have := mc32_le V q k; have := HQ.out; omega
      have hmc0 : 0 ≤ mc := by omega
      have HMC := Lib.hid hmc
      rw [← hmc]
      obtain ⟨X, hX⟩ : ∃ y : Int, y = ((dig R k : Nat) : Int) := ⟨_, rfl⟩
      obtain ⟨Y, hY⟩ : ∃ y : Int, y = ((dig (V * q) k : Nat) : Int) := ⟨_, rfl⟩
      obtain ⟨C, hC⟩ : ∃ y : Int, y = ((cr32 S (V * q) k : Nat) : Int) := ⟨_, rfl⟩
      obtain ⟨C', hC'⟩ : ∃ y : Int, y = ((cr32 S (V * q) (k + 1) : Nat) : Int) := ⟨_, rfl⟩
      obtain ⟨Z, hZ⟩ : ∃ y : Int, y = ((dig S k : Nat) : Int) := ⟨_, rfl⟩
      obtain ⟨M', hM'⟩ : ∃ y : Int, y = ((mc32 V q (k + 1) : Nat) : Int) := ⟨_, rfl⟩
      rw [← hX, ← hY, ← hC, ← hC', ← hZ] at HSUB
      rw [← hX] at cU
      rw [← hY] at v1
      rw [← hM'] at v2
      rw [← hC]
      have HX := Lib.hid (And.intro hC' (And.intro hM' hZ))
      clear hX hY hC hC' hZ hM' hmc hpI hp hp64 hj hy hc' hstep hxd x8 y8 hj33
      have HKN : Hid (k + 1 ≤ m + 2) := Lib.hid (by have := HB.out; omega)
      by_cases hkl : k < n
      · have hkl' : (k : Int) < (n : Int) := by omega
        have cV := (HV.out.grown HG.out (by have := HNE.out; simp; omega)).cell (show k < 33 by have := HB.out; omega)
        obtain ⟨D, hD⟩ : ∃ y : Int, y = ((dig V k : Nat) : Int) := ⟨_, rfl⟩
        rw [← hD] at cV
        have d8 : D < 4294967296 := by have := dig_lt' V k; omega
        have d0 : 0 ≤ D := by omega
        obtain ⟨E, hE⟩ : ∃ y : Int, qi * D = y := ⟨_, rfl⟩
        have e1 : mc + E = pI := by
          rw [← hE, HMC.out, HPI.out, HP.out, hD, HQ.out]
          simp
          rw [Int.mul_comm]
          omega
        have e0 : 0 ≤ E := by rw [← hE]; exact Int.mul_nonneg q0 d0
        have e8 : E < 18446744073709551616 := by have := HP64.out; have := HPI.out; omega
        clear hD hkl
        go_wp2_with fail
        clear e1 e0 e8 d8 d0 cV hE
        refine region_roadN (fun _ _ => True) [(0, true), (1, true), (2, true), (3, true), (4, true), (5, true), (6, true), (7, true), (8, true), (9, true), (11, true), (12, true), (13, true), (18, true), (10, false), (14, false), (15, true), (16, true), (17, true), (19, true), (20, false), (21, true)] (by kernel_rfl) (by kernel_rfl) (by kernel_rfl) (by kernel_rfl) (by kernel_rfl) (by kernel_rfl) (fun _ => trivial) (fun _ _ _ _ _ => trivial) ?_
        refine seqR_at (o := ?_) ?_ ?_
        rotate_left
        · (conv => (lhs; whnf; arg 1; whnf))
        refine seqR_y (v := ?_) (by rfl) (fun W hW => ?_) ?_
        rotate_left
        · go_simp; try with_reducible rfl
        try simp only [Act.put, List.setIfInBounds_toArray, List.set_cons_zero, List.set_cons_succ]
        refine seqR_at (o := ?_) ?_ ?_
        rotate_left
        · (conv => (lhs; whnf; arg 1; whnf))
        refine seqR_y (v := ?_) (by rfl) (fun W hW => ?_) ?_
        rotate_left
        · go_simp; try with_reducible rfl
        try simp only [Act.put, List.setIfInBounds_toArray, List.set_cons_zero, List.set_cons_succ]
        refine seqR_at (o := ?_) ?_ ?_
        rotate_left
        · (conv => (lhs; whnf; arg 1; whnf))
        refine seqR_y (v := ?_) (by rfl) (fun W hW => ?_) ?_
        rotate_left
        · go_simp; try with_reducible rfl
        try simp only [Act.put, List.setIfInBounds_toArray, List.set_cons_zero, List.set_cons_succ]
        refine seqR_at (o := ?_) ?_ ?_
        rotate_left
        · (conv => (lhs; whnf; arg 1; whnf))
        refine seqR_y (v := ?_) (by rfl) (fun W hW => ?_) ?_
        rotate_left
        · go_simp; try with_reducible rfl
        try simp only [Act.put, List.setIfInBounds_toArray, List.set_cons_zero, List.set_cons_succ]
        refine seqR_at (o := ?_) ?_ ?_
        rotate_left
        · (conv => (lhs; whnf; arg 1; whnf))
        refine seqR_y (v := ?_) (by rfl) (fun W hW => ?_) ?_
        rotate_left
        · go_simp; try with_reducible rfl
        try simp only [Act.put, List.setIfInBounds_toArray, List.set_cons_zero, List.set_cons_succ]
        refine seqR_at (o := ?_) ?_ ?_
        rotate_left
        · (conv => (lhs; whnf; arg 1; whnf))
        refine seqR_y (v := ?_) (by rfl) (fun W hW => ?_) ?_
        rotate_left
        · go_simp; try with_reducible rfl
        try simp only [Act.put, List.setIfInBounds_toArray, List.set_cons_zero, List.set_cons_succ]
        refine seqR_at (o := ?_) ?_ ?_
        rotate_left
        · (conv => (lhs; whnf; arg 1; whnf))
        refine seqR_y (v := ?_) (by rfl) (fun W hW => ?_) ?_
        rotate_left
        · go_simp; try with_reducible rfl
        try simp only [Act.put, List.setIfInBounds_toArray, List.set_cons_zero, List.set_cons_succ]
        refine seqR_at (o := ?_) ?_ ?_
        rotate_left
        · (conv => (lhs; whnf; arg 1; whnf))
        refine seqR_y (v := ?_) (by rfl) (fun W hW => ?_) ?_
        rotate_left
        · go_simp; try with_reducible rfl
        try simp only [Act.put, List.setIfInBounds_toArray, List.set_cons_zero, List.set_cons_succ]
        refine seqR_at (o := ?_) ?_ ?_
        rotate_left
        · (conv => (lhs; whnf; arg 1; whnf))
        refine seqR_y (v := ?_) (by rfl) (fun W hW => ?_) ?_
        rotate_left
        · go_simp; try with_reducible rfl
        try simp only [Act.put, List.setIfInBounds_toArray, List.set_cons_zero, List.set_cons_succ]
        refine seqR_at (o := ?_) ?_ ?_
        rotate_left
        · (conv => (lhs; whnf; arg 1; whnf))
        refine seqR_y (v := ?_) (by rfl) (fun W hW => ?_) ?_
        rotate_left
        · go_simp; try with_reducible rfl
        try simp only [Act.put, List.setIfInBounds_toArray, List.set_cons_zero, List.set_cons_succ]
        refine seqR_at (o := ?_) ?_ ?_
        rotate_left
        · (conv => (lhs; whnf; arg 1; whnf))
        refine seqR_y (v := ?_) (by rfl) (fun W hW => ?_) ?_
        rotate_left
        · go_simp; try with_reducible rfl
        try simp only [Act.put, List.setIfInBounds_toArray, List.set_cons_zero, List.set_cons_succ]
        refine seqR_at (o := ?_) ?_ ?_
        rotate_left
        · (conv => (lhs; whnf; arg 1; whnf))
        refine seqR_y (v := ?_) (by rfl) (fun W hW => ?_) ?_
        rotate_left
        · go_simp; try with_reducible rfl
        try simp only [Act.put, List.setIfInBounds_toArray, List.set_cons_zero, List.set_cons_succ]
        refine seqR_at (o := ?_) ?_ ?_
        rotate_left
        · (conv => (lhs; whnf; arg 1; whnf))
        refine seqR_y (v := ?_) (by rfl) (fun W hW => ?_) ?_
        rotate_left
        · go_simp; try with_reducible rfl
        try simp only [Act.put, List.setIfInBounds_toArray, List.set_cons_zero, List.set_cons_succ]
        refine seqR_at (o := ?_) ?_ ?_
        rotate_left
        · (conv => (lhs; whnf; arg 1; whnf))
        refine seqR_y (v := ?_) (by rfl) (fun W hW => ?_) ?_
        rotate_left
        · go_simp; try with_reducible rfl
        try simp only [Act.put, List.setIfInBounds_toArray, List.set_cons_zero, List.set_cons_succ]
        refine seqR_at (o := ?_) ?_ ?_
        rotate_left
        · (conv => (lhs; whnf; arg 1; whnf))
        refine seqR_c (by rfl) (fun K hK => ?_)
        go_simp
        refine hK _ _ trivial ?_
        try simp only [Act.put, List.setIfInBounds_toArray, List.set_cons_zero, List.set_cons_succ]
        refine seqR_at (o := ?_) ?_ ?_
        rotate_left
        · (conv => (lhs; whnf; arg 1; whnf))
        refine seqR_c (by rfl) (fun K hK => ?_)
        go_simp
        refine (HSUB.out _).mono ?_
        rintro e w' ⟨rfl, rfl⟩
        refine hK _ _ trivial ?_
        try simp only [Act.put, List.setIfInBounds_toArray, List.set_cons_zero, List.set_cons_succ]
        refine seqR_at (o := ?_) ?_ ?_
        rotate_left
        · (conv => (lhs; whnf; arg 1; whnf))
        refine seqR_y (v := ?_) (by rfl) (fun W hW => ?_) ?_
        rotate_left
        · go_simp; try with_reducible rfl
        try simp only [Act.put, List.setIfInBounds_toArray, List.set_cons_zero, List.set_cons_succ]
        refine seqR_at (o := ?_) ?_ ?_
        rotate_left
        · (conv => (lhs; whnf; arg 1; whnf))
        refine seqR_y (v := ?_) (by rfl) (fun W hW => ?_) ?_
        rotate_left
        · go_simp; try with_reducible rfl
        try simp only [Act.put, List.setIfInBounds_toArray, List.set_cons_zero, List.set_cons_succ]
        refine seqR_at (o := ?_) ?_ ?_
        rotate_left
        · (conv => (lhs; whnf; arg 1; whnf))
        refine seqR_y (v := ?_) (by rfl) (fun W hW => ?_) ?_
        rotate_left
        · go_simp; try with_reducible rfl
        try simp only [Act.put, List.setIfInBounds_toArray, List.set_cons_zero, List.set_cons_succ]
        refine seqR_at (o := ?_) ?_ ?_
        rotate_left
        · (conv => (lhs; whnf; arg 1; whnf))
        refine seqR_y (v := ?_) (by rfl) (fun W hW => ?_) ?_
        rotate_left
        · go_simp; try with_reducible rfl
        try simp only [Act.put, List.setIfInBounds_toArray, List.set_cons_zero, List.set_cons_succ]
        refine seqR_at (o := ?_) ?_ ?_
        rotate_left
        · (conv => (lhs; whnf; arg 1; whnf))
        refine seqR_c (by rfl) (fun K hK => ?_)
        go_simp
        refine hK _ _ trivial ?_
        try simp only [Act.put, List.setIfInBounds_toArray, List.set_cons_zero, List.set_cons_succ]
        refine seqR_at (o := ?_) ?_ ?_
        rotate_left
        · (conv => (lhs; whnf; arg 1; whnf))
        refine seqR_y (v := ?_) (by rfl) (fun W hW => ?_) ?_
        rotate_left
        · go_simp; try with_reducible rfl
        try simp only [Act.put, List.setIfInBounds_toArray, List.set_cons_zero, List.set_cons_succ]
        refine seqR_end ?_
        simp only [onN]
        clear HSUB cU fU fU' v1 v3
        try clear v2
        go_wp2_with fail
        have hset := HD.out.drew.set (x := dig S k) (show j < 33 by omega) (dig_lt' S k) Z HX.out.2.2
        rw [HJ.out] at hset
        have HSET := Lib.hid (hset.1.congr (fun i _ => mixD_set U S f k i))
        have HG2 : Hid (w.grownBy (wr.drew.setCell ⟨Bu, f + k, none⟩ (.int .u32 Z)) (some Bu)) := Lib.hid (grown_trans (grown_drewN HG.out 1) hset.2)
        clear hset
        rw [HJ.out]
        go_roundw
        case rel => exact ⟨k + 1, by have := HB.out; have := HKN.out; omega, by go_num, by rw [HX.out.1], by rw [HX.out.2.1], HSET.out, HG2.out⟩
        case measure => have := HKN.out; have := HB.out; simp [intOf]; omega
      · have hpm : mc = pI := by
          have h1 : dig V k = 0 := dig_high (Nat.lt_of_lt_of_le HH.out.2.1 (B32_mono (by have := HB.out; omega)))
          rw [HMC.out, HPI.out, HP.out, h1, Nat.zero_mul, Nat.zero_add]
        subst hpm
        have t1 : decide ((k : Int) < (n : Int) + 1) = true := decide_eq_true hki
        have T2 := Lib.hid (decide_eq_false hkl)
        have k40 : (k : Int) < 40 := by have := HB.out; omega
        clear hkl hki hkn q8 hmc8
        go_upto_region 6 with (fail)
        clear t1
        have t2 := T2.out
        go_wp2_with fail
        refine region_roadN (fun _ _ => True) [(0, true), (1, true), (2, true), (3, true), (4, true), (5, true), (6, true), (7, true), (8, true), (9, true), (11, true), (12, true), (13, true), (18, true), (10, false), (14, false), (15, true), (16, true), (17, true), (19, true), (20, false), (21, true)] (by kernel_rfl) (by kernel_rfl) (by kernel_rfl) (by kernel_rfl) (by kernel_rfl) (by kernel_rfl) (fun _ => trivial) (fun _ _ _ _ _ => trivial) ?_
        refine seqR_at (o := ?_) ?_ ?_
        rotate_left
        · (conv => (lhs; whnf; arg 1; whnf))
        refine seqR_y (v := ?_) (by rfl) (fun W hW => ?_) ?_
        rotate_left
        · go_simp; try with_reducible rfl
        try simp only [Act.put, List.setIfInBounds_toArray, List.set_cons_zero, List.set_cons_succ]
        refine seqR_at (o := ?_) ?_ ?_
        rotate_left
        · (conv => (lhs; whnf; arg 1; whnf))
        refine seqR_y (v := ?_) (by rfl) (fun W hW => ?_) ?_
        rotate_left
        · go_simp; try with_reducible rfl
        try simp only [Act.put, List.setIfInBounds_toArray, List.set_cons_zero, List.set_cons_succ]
        refine seqR_at (o := ?_) ?_ ?_
        rotate_left
        · (conv => (lhs; whnf; arg 1; whnf))
        refine seqR_y (v := ?_) (by rfl) (fun W hW => ?_) ?_
        rotate_left
        · go_simp; try with_reducible rfl
        try simp only [Act.put, List.setIfInBounds_toArray, List.set_cons_zero, List.set_cons_succ]
        refine seqR_at (o := ?_) ?_ ?_
        rotate_left
        · (conv => (lhs; whnf; arg 1; whnf))
        refine seqR_y (v := ?_) (by rfl) (fun W hW => ?_) ?_
        rotate_left
        · go_simp; try with_reducible rfl
        try simp only [Act.put, List.setIfInBounds_toArray, List.set_cons_zero, List.set_cons_succ]
        refine seqR_at (o := ?_) ?_ ?_
        rotate_left
        · (conv => (lhs; whnf; arg 1; whnf))
        refine seqR_y (v := ?_) (by rfl) (fun W hW => ?_) ?_
        rotate_left
        · go_simp; try with_reducible rfl
        try simp only [Act.put, List.setIfInBounds_toArray, List.set_cons_zero, List.set_cons_succ]
        refine seqR_at (o := ?_) ?_ ?_
        rotate_left
        · (conv => (lhs; whnf; arg 1; whnf))
        refine seqR_y (v := ?_) (by rfl) (fun W hW => ?_) ?_
        rotate_left
        · go_simp; try with_reducible rfl
        try simp only [Act.put, List.setIfInBounds_toArray, List.set_cons_zero, List.set_cons_succ]
        refine seqR_at (o := ?_) ?_ ?_
        rotate_left
        · (conv => (lhs; whnf; arg 1; whnf))
        refine seqR_y (v := ?_) (by rfl) (fun W hW => ?_) ?_
        rotate_left
        · go_simp; try with_reducible rfl
        try simp only [Act.put, List.setIfInBounds_toArray, List.set_cons_zero, List.set_cons_succ]
        refine seqR_at (o := ?_) ?_ ?_
        rotate_left
        · (conv => (lhs; whnf; arg 1; whnf))
        refine seqR_y (v := ?_) (by rfl) (fun W hW => ?_) ?_
        rotate_left
        · go_simp; try with_reducible rfl
        try simp only [Act.put, List.setIfInBounds_toArray, List.set_cons_zero, List.set_cons_succ]
        refine seqR_at (o := ?_) ?_ ?_
        rotate_left
        · (conv => (lhs; whnf; arg 1; whnf))
        refine seqR_y (v := ?_) (by rfl) (fun W hW => ?_) ?_
        rotate_left
        · go_simp; try with_reducible rfl
        try simp only [Act.put, List.setIfInBounds_toArray, List.set_cons_zero, List.set_cons_succ]
        refine seqR_at (o := ?_) ?_ ?_
        rotate_left
        · (conv => (lhs; whnf; arg 1; whnf))
        refine seqR_y (v := ?_) (by rfl) (fun W hW => ?_) ?_
        rotate_left
        · go_simp; try with_reducible rfl
        try simp only [Act.put, List.setIfInBounds_toArray, List.set_cons_zero, List.set_cons_succ]
        refine seqR_at (o := ?_) ?_ ?_
        rotate_left
        · (conv => (lhs; whnf; arg 1; whnf))
        refine seqR_y (v := ?_) (by rfl) (fun W hW => ?_) ?_
        rotate_left
        · go_simp; try with_reducible rfl
        try simp only [Act.put, List.setIfInBounds_toArray, List.set_cons_zero, List.set_cons_succ]
        refine seqR_at (o := ?_) ?_ ?_
        rotate_left
        · (conv => (lhs; whnf; arg 1; whnf))
        refine seqR_y (v := ?_) (by rfl) (fun W hW => ?_) ?_
        rotate_left
        · go_simp; try with_reducible rfl
        try simp only [Act.put, List.setIfInBounds_toArray, List.set_cons_zero, List.set_cons_succ]
        refine seqR_at (o := ?_) ?_ ?_
        rotate_left
        · (conv => (lhs; whnf; arg 1; whnf))
        refine seqR_y (v := ?_) (by rfl) (fun W hW => ?_) ?_
        rotate_left
        · go_simp; try with_reducible rfl
        try simp only [Act.put, List.setIfInBounds_toArray, List.set_cons_zero, List.set_cons_succ]
        refine seqR_at (o := ?_) ?_ ?_
        rotate_left
        · (conv => (lhs; whnf; arg 1; whnf))
        refine seqR_y (v := ?_) (by rfl) (fun W hW => ?_) ?_
        rotate_left
        · go_simp; try with_reducible rfl
        try simp only [Act.put, List.setIfInBounds_toArray, List.set_cons_zero, List.set_cons_succ]
        refine seqR_at (o := ?_) ?_ ?_
        rotate_left
        · (conv => (lhs; whnf; arg 1; whnf))
        refine seqR_c (by rfl) (fun K hK => ?_)
        go_simp
        refine hK _ _ trivial ?_
        try simp only [Act.put, List.setIfInBounds_toArray, List.set_cons_zero, List.set_cons_succ]
        refine seqR_at (o := ?_) ?_ ?_
        rotate_left
        · (conv => (lhs; whnf; arg 1; whnf))
        refine seqR_c (by rfl) (fun K hK => ?_)
        go_simp
        refine (HSUB.out _).mono ?_
        rintro e w' ⟨rfl, rfl⟩
        refine hK _ _ trivial ?_
        try simp only [Act.put, List.setIfInBounds_toArray, List.set_cons_zero, List.set_cons_succ]
        refine seqR_at (o := ?_) ?_ ?_
        rotate_left
        · (conv => (lhs; whnf; arg 1; whnf))
        refine seqR_y (v := ?_) (by rfl) (fun W hW => ?_) ?_
        rotate_left
        · go_simp; try with_reducible rfl
        try simp only [Act.put, List.setIfInBounds_toArray, List.set_cons_zero, List.set_cons_succ]
        refine seqR_at (o := ?_) ?_ ?_
        rotate_left
        · (conv => (lhs; whnf; arg 1; whnf))
        refine seqR_y (v := ?_) (by rfl) (fun W hW => ?_) ?_
        rotate_left
        · go_simp; try with_reducible rfl
        try simp only [Act.put, List.setIfInBounds_toArray, List.set_cons_zero, List.set_cons_succ]
        refine seqR_at (o := ?_) ?_ ?_
        rotate_left
        · (conv => (lhs; whnf; arg 1; whnf))
        refine seqR_y (v := ?_) (by rfl) (fun W hW => ?_) ?_
        rotate_left
        · go_simp; try with_reducible rfl
        try simp only [Act.put, List.setIfInBounds_toArray, List.set_cons_zero, List.set_cons_succ]
        refine seqR_at (o := ?_) ?_ ?_
        rotate_left
        · (conv => (lhs; whnf; arg 1; whnf))
        refine seqR_y (v := ?_) (by rfl) (fun W hW => ?_) ?_
        rotate_left
        · go_simp; try with_reducible rfl
        try simp only [Act.put, List.setIfInBounds_toArray, List.set_cons_zero, List.set_cons_succ]
        refine seqR_at (o := ?_) ?_ ?_
        rotate_left
        · (conv => (lhs; whnf; arg 1; whnf))
        refine seqR_c (by rfl) (fun K hK => ?_)
        go_simp
        refine hK _ _ trivial ?_
        try simp only [Act.put, List.setIfInBounds_toArray, List.set_cons_zero, List.set_cons_succ]
        refine seqR_at (o := ?_) ?_ ?_
        rotate_left
        · (conv => (lhs; whnf; arg 1; whnf))
        refine seqR_y (v := ?_) (by rfl) (fun W hW => ?_) ?_
        rotate_left
        · go_simp; try with_reducible rfl
        try simp only [Act.put, List.setIfInBounds_toArray, List.set_cons_zero, List.set_cons_succ]
        refine seqR_end ?_
        simp only [onN]
        clear HSUB cU fU fU' v1 v3
        try clear v2
        go_wp2_with fail
        have hset := HD.out.drew.set (x := dig S k) (show j < 33 by omega) (dig_lt' S k) Z HX.out.2.2
        rw [HJ.out] at hset
        have HSET := Lib.hid (hset.1.congr (fun i _ => mixD_set U S f k i))
        have HG2 : Hid (w.grownBy (wr.drew.setCell ⟨Bu, f + k, none⟩ (.int .u32 Z)) (some Bu)) := Lib.hid (grown_trans (grown_drewN HG.out 1) hset.2)
        clear hset
        rw [HJ.out]
        go_roundw
        case rel => exact ⟨k + 1, by have := HB.out; have := HKN.out; omega, by go_num, by rw [HX.out.1], by rw [HX.out.2.1], HSET.out, HG2.out⟩
        case measure => have := HKN.out; have := HB.out; simp [intOf]; omega
    · have hkm : k = m + 2 := by have := HK.out; have := HB.out; omega
      have hend := dfB_end HBB.out.1 HBB.out.2
      rw [← HSD.out, ← hkm] at hend
      have hSl : S < B32 (m + 2) := by rw [HSD.out]; exact dfB_lt _ _ _
      have HD1 : Hid (DAt wr Bu 33 (U % B32 f + S * B32 f)) := Lib.hid (HD.out.congr (fun i _ => by rw [hkm]; exact mixD_all HUL.out hSl))
      have HSL := Lib.hid hSl
      have tk : decide ((k : Int) < (n : Int) + 1) = false := by have := HB.out; simp; omega
      clear hkn HD hSl hkm
      by_cases hT : V * q ≤ R
      · have h0 : ((cr32 S (V * q) k : Nat) : Int) = 0 := by have := hend.1.2 hT; omega
        have hf := rd_fits HH.out.1 HH.out.2.1 HH.out.2.2.1 HH.out.2.2.2.1 HH.out.2.2.2.2.1 hT
        rw [← HSD.out] at hf
        have HF := Lib.hid hf
        rw [h0]
        generalize ((mc32 V q k : Nat) : Int) = mz
        clear hend hT hf h0
        go_wp2_with fail
        go_ret
        exact ⟨by rw [HQ.out, ← HF.out.1]; rfl, by rw [← HF.out.2]; exact HD1.out, HG.out⟩
      · have h0 : (((cr32 S (V * q) k : Nat) : Int) == 0) = false := by
          rw [beq_eq_false_iff_ne]
          have : cr32 S (V * q) k ≠ 0 := fun h => hT (hend.1.1 h)
          omega
        have hf := rd_back HH.out.1 HH.out.2.1 HH.out.2.2.1 HH.out.2.2.2.1 HH.out.2.2.2.2.1 HH.out.2.2.2.2.2 hT
        rw [← HSD.out] at hf
        have HF := Lib.hid hf
        generalize ((cr32 S (V * q) k : Nat) : Int) = cz at h0
        clear hend hT hf
        obtain ⟨U1, hU1⟩ : ∃ x, x = U % B32 f + S * B32 f := ⟨_, rfl⟩
        obtain ⟨S2, hS2⟩ : ∃ x, x = (S + V) % B32 (m + 2) := ⟨_, rfl⟩
        rw [← hU1] at HD1
        have hU1d : ∀ j, dig U1 (f + j) = dig S j := fun j => by
          rw [← dig_from, hU1, Nat.add_mul_div_right _ _ (B32_pos f), Nat.div_eq_of_lt (Nat.mod_lt _ (B32_pos f)), Nat.zero_add]
        have hU1m : U1 % B32 f = U % B32 f := by rw [hU1, Nat.add_mul_mod_self_right, Nat.mod_mod]
        have hU1l : U1 < B32 (f + (m + 2)) := by
          rw [B32_add, Nat.mul_comm, ← Nat.div_lt_iff_lt_mul (B32_pos f), hU1, Nat.add_mul_div_right _ _ (B32_pos f), Nat.div_eq_of_lt (Nat.mod_lt _ (B32_pos f)), Nat.zero_add]
          exact HSL.out
        have HU1 := Lib.hid (And.intro hU1d (And.intro hU1m hU1l))
        have HS2 := Lib.hid hS2
        clear hU1 hS2 hU1d hU1m hU1l
        generalize ((mc32 V q k : Nat) : Int) = mz
        go_wp2_with fail
        go_loopw [15, 63] (fun b i wr => ∃ k : Nat, k ≤ n ∧ i = .int .i64 (k : Int) ∧ b = .int .u32 ((cr32 S V k : Nat) : Int) ∧ DAt wr Bu 33 (mixD U1 S2 f k) ∧ w.grownBy wr (some Bu)) (fun _ i _ => ((n : Int) - intOf i).toNat)
        case atStart => exact ⟨0, Nat.zero_le _, rfl, by rw [cr32_zero]; rfl, HD1.out.congr (fun j _ => (mixD_zero U1 S2 f j).symm), HG.out⟩
        case round =>
          clear HD1 HG h0 tk HK
          obtain ⟨k2, hk, rfl, rfl, hd, hg⟩ := hrel
          have HD := Lib.hid hd
          have HG := Lib.hid hg
          have HK := Lib.hid hk
          clear hd hg hk
          have hj33 : f + k2 < 33 := by have := HB.out; have := HK.out; omega
          obtain ⟨j, hj⟩ : ∃ j, j = f + k2 := ⟨_, rfl⟩
          have hxd : dig (mixD U1 S2 f k2) j = dig S k2 := by
            rw [mixD_dig, if_neg (by omega), if_neg (by omega), hj, HU1.out.1]
          have cU := HD.out.cell (show j < 33 by omega)
          rw [hxd] at cU
          have fU := fun t : Nat => (HD.out.drewN t).frozen j
          have fU' := HD.out.drew.frozen j
          have x8 := dig_lt' S k2
          have y8 := dig_lt' V k2
          have c8 := cr32_le S V k2
          have hs2 : dig S2 k2 = dig (S + V) k2 := by rw [HS2.out, dig_mod (by have := HB.out; have := HK.out; omega)]
          have v3 : IntKind.i64.wrap ((f : Int) + (k2 : Int)) = (j : Int) := by rw [show (f : Int) + (k2 : Int) = (j : Int) from by omega]; exact IntWalk.i64_in _ (by omega)
          have j33 : (j : Int) < 33 := by omega
          have j0 : (0 : Int) ≤ (j : Int) := by omega
          have HJ := Lib.hid hj
          by_cases hkn : k2 < n
          · have hki : (k2 : Int) < (n : Int) := by omega
            have HKN := Lib.hid hkn
            have HK33 : Hid (k2 < 33) := Lib.hid (by omega)
            have k33 : (k2 : Int) < 33 := by omega
            have HNE2 : Hid (Bv ≠ Bu) := Lib.hid (Ne.symm HNE.out)
            have HVw : Hid (DAt wr.drew Bv 33 V) := Lib.hid (HV.out.grown (grown_drewN HG.out 1) (by have := HNE.out; simp; omega))
            have HADD : Hid (∀ W, Calls Try.prog 61 #[.int .u32 ((dig S k2 : Nat) : Int), .int .u32 ((dig V k2 : Nat) : Int), .int .u32 ((cr32 S V k2 : Nat) : Int)] W fun e w' => e = .returned (.tuple #[.int .u32 ((dig S2 k2 : Nat) : Int), .int .u32 ((cr32 S V (k2 + 1) : Nat) : Int)]) ∧ w' = W) := Lib.hid (fun W => by
              have h1 := add32_any ((dig S k2 : Nat) : Int) ((dig V k2 : Nat) : Int) ((cr32 S V k2 : Nat) : Int) W (by omega) (by omega) (by omega)
              have g1 : (((dig S k2 : Nat) : Int) + ((dig V k2 : Nat) : Int) + ((cr32 S V k2 : Nat) : Int)) % 4294967296 = ((dig S2 k2 : Nat) : Int) := by rw [hs2, add_dig]; omega
              have g2 : (((dig S k2 : Nat) : Int) + ((dig V k2 : Nat) : Int) + ((cr32 S V k2 : Nat) : Int)) / 4294967296 = ((cr32 S V (k2 + 1) : Nat) : Int) := by rw [cr32_succ]; omega
              rw [g1, g2] at h1
              exact h1)
            obtain ⟨X, hX⟩ : ∃ y : Int, y = ((dig S k2 : Nat) : Int) := ⟨_, rfl⟩
            obtain ⟨Y, hY⟩ : ∃ y : Int, y = ((dig V k2 : Nat) : Int) := ⟨_, rfl⟩
            obtain ⟨C, hC⟩ : ∃ y : Int, y = ((cr32 S V k2 : Nat) : Int) := ⟨_, rfl⟩
            obtain ⟨C', hC'⟩ : ∃ y : Int, y = ((cr32 S V (k2 + 1) : Nat) : Int) := ⟨_, rfl⟩
            obtain ⟨Z, hZ⟩ : ∃ y : Int, y = ((dig S2 k2 : Nat) : Int) := ⟨_, rfl⟩
            rw [← hX, ← hY, ← hC, ← hC', ← hZ] at HADD
            rw [← hX] at cU
            rw [← hC]
            have HX := Lib.hid (And.intro hC' (And.intro hY hZ))
            clear hX hY hC hC' hZ hj hxd x8 y8 c8 hj33 hs2 hkn
            go_wp2_with fail
            refine region_roadN (fun w w' => DAt w Bv 33 V → DAt w' Bv 33 V) [(0, true), (1, true), (2, true), (3, true), (4, true), (5, true), (6, true), (7, true), (8, true), (9, true), (11, true), (12, true), (13, true), (14, true), (15, true), (16, true), (21, true), (10, false), (17, false), (18, true), (19, true), (20, true), (22, true), (23, false), (24, true)] (by kernel_rfl) (by kernel_rfl) (by kernel_rfl) (by kernel_rfl) (by kernel_rfl) (by kernel_rfl) (fun _ h => h) (fun _ _ _ f g h => g (f h)) ?_
            refine seqR_at (o := ?_) ?_ ?_
            rotate_left
            · (conv => (lhs; whnf; arg 1; whnf))
            refine seqR_y (v := ?_) (by rfl) (fun W hW => ?_) ?_
            rotate_left
            · go_simp; try with_reducible rfl
            try simp only [Act.put, List.setIfInBounds_toArray, List.set_cons_zero, List.set_cons_succ]
            refine seqR_at (o := ?_) ?_ ?_
            rotate_left
            · (conv => (lhs; whnf; arg 1; whnf))
            refine seqR_y (v := ?_) (by rfl) (fun W hW => ?_) ?_
            rotate_left
            · go_simp; try with_reducible rfl
            try simp only [Act.put, List.setIfInBounds_toArray, List.set_cons_zero, List.set_cons_succ]
            refine seqR_at (o := ?_) ?_ ?_
            rotate_left
            · (conv => (lhs; whnf; arg 1; whnf))
            refine seqR_y (v := ?_) (by rfl) (fun W hW => ?_) ?_
            rotate_left
            · go_simp; try with_reducible rfl
            try simp only [Act.put, List.setIfInBounds_toArray, List.set_cons_zero, List.set_cons_succ]
            refine seqR_at (o := ?_) ?_ ?_
            rotate_left
            · (conv => (lhs; whnf; arg 1; whnf))
            refine seqR_y (v := ?_) (by rfl) (fun W hW => ?_) ?_
            rotate_left
            · go_simp; try with_reducible rfl
            try simp only [Act.put, List.setIfInBounds_toArray, List.set_cons_zero, List.set_cons_succ]
            refine seqR_at (o := ?_) ?_ ?_
            rotate_left
            · (conv => (lhs; whnf; arg 1; whnf))
            refine seqR_y (v := ?_) (by rfl) (fun W hW => ?_) ?_
            rotate_left
            · go_simp; try with_reducible rfl
            try simp only [Act.put, List.setIfInBounds_toArray, List.set_cons_zero, List.set_cons_succ]
            refine seqR_at (o := ?_) ?_ ?_
            rotate_left
            · (conv => (lhs; whnf; arg 1; whnf))
            refine seqR_y (v := ?_) (by rfl) (fun W hW => ?_) ?_
            rotate_left
            · go_simp; try with_reducible rfl
            try simp only [Act.put, List.setIfInBounds_toArray, List.set_cons_zero, List.set_cons_succ]
            refine seqR_at (o := ?_) ?_ ?_
            rotate_left
            · (conv => (lhs; whnf; arg 1; whnf))
            refine seqR_y (v := ?_) (by rfl) (fun W hW => ?_) ?_
            rotate_left
            · go_simp; try with_reducible rfl
            try simp only [Act.put, List.setIfInBounds_toArray, List.set_cons_zero, List.set_cons_succ]
            refine seqR_at (o := ?_) ?_ ?_
            rotate_left
            · (conv => (lhs; whnf; arg 1; whnf))
            refine seqR_y (v := ?_) (by rfl) (fun W hW => ?_) ?_
            rotate_left
            · go_simp; try with_reducible rfl
            try simp only [Act.put, List.setIfInBounds_toArray, List.set_cons_zero, List.set_cons_succ]
            refine seqR_at (o := ?_) ?_ ?_
            rotate_left
            · (conv => (lhs; whnf; arg 1; whnf))
            refine seqR_y (v := ?_) (by rfl) (fun W hW => ?_) ?_
            rotate_left
            · go_simp; try with_reducible rfl
            try simp only [Act.put, List.setIfInBounds_toArray, List.set_cons_zero, List.set_cons_succ]
            refine seqR_at (o := ?_) ?_ ?_
            rotate_left
            · (conv => (lhs; whnf; arg 1; whnf))
            refine seqR_y (v := ?_) (by rfl) (fun W hW => ?_) ?_
            rotate_left
            · go_simp; try with_reducible rfl
            try simp only [Act.put, List.setIfInBounds_toArray, List.set_cons_zero, List.set_cons_succ]
            refine seqR_at (o := ?_) ?_ ?_
            rotate_left
            · (conv => (lhs; whnf; arg 1; whnf))
            refine seqR_y (v := ?_) (by rfl) (fun W hW => ?_) ?_
            rotate_left
            · go_simp; try with_reducible rfl
            try simp only [Act.put, List.setIfInBounds_toArray, List.set_cons_zero, List.set_cons_succ]
            refine seqR_at (o := ?_) ?_ ?_
            rotate_left
            · (conv => (lhs; whnf; arg 1; whnf))
            refine seqR_y (v := ?_) (by rfl) (fun W hW => ?_) ?_
            rotate_left
            · go_simp; try with_reducible rfl
            try simp only [Act.put, List.setIfInBounds_toArray, List.set_cons_zero, List.set_cons_succ]
            refine seqR_at (o := ?_) ?_ ?_
            rotate_left
            · (conv => (lhs; whnf; arg 1; whnf))
            refine seqR_y (v := ?_) (by rfl) (fun W hW => ?_) ?_
            rotate_left
            · go_simp; try with_reducible rfl
            try simp only [Act.put, List.setIfInBounds_toArray, List.set_cons_zero, List.set_cons_succ]
            refine seqR_at (o := ?_) ?_ ?_
            rotate_left
            · (conv => (lhs; whnf; arg 1; whnf))
            refine seqR_y (v := ?_) (by rfl) (fun W hW => ?_) ?_
            rotate_left
            · go_simp; try with_reducible rfl
            try simp only [Act.put, List.setIfInBounds_toArray, List.set_cons_zero, List.set_cons_succ]
            refine seqR_at (o := ?_) ?_ ?_
            rotate_left
            · (conv => (lhs; whnf; arg 1; whnf))
            refine seqR_y (v := ?_) (by rfl) (fun W hW => ?_) ?_
            rotate_left
            · have hl := (hW HVw.out).cell HK33.out; rw [← HX.out.2.1] at hl; go_simp; try with_reducible rfl
            try simp only [Act.put, List.setIfInBounds_toArray, List.set_cons_zero, List.set_cons_succ]
            refine seqR_at (o := ?_) ?_ ?_
            rotate_left
            · (conv => (lhs; whnf; arg 1; whnf))
            refine seqR_y (v := ?_) (by rfl) (fun W hW => ?_) ?_
            rotate_left
            · go_simp; try with_reducible rfl
            try simp only [Act.put, List.setIfInBounds_toArray, List.set_cons_zero, List.set_cons_succ]
            refine seqR_at (o := ?_) ?_ ?_
            rotate_left
            · (conv => (lhs; whnf; arg 1; whnf))
            refine seqR_y (v := ?_) (by rfl) (fun W hW => ?_) ?_
            rotate_left
            · go_simp; try with_reducible rfl
            try simp only [Act.put, List.setIfInBounds_toArray, List.set_cons_zero, List.set_cons_succ]
            refine seqR_at (o := ?_) ?_ ?_
            rotate_left
            · (conv => (lhs; whnf; arg 1; whnf))
            refine seqR_c (by rfl) (fun K hK => ?_)
            go_simp
            refine hK _ _ (fun h => h) ?_
            try simp only [Act.put, List.setIfInBounds_toArray, List.set_cons_zero, List.set_cons_succ]
            refine seqR_at (o := ?_) ?_ ?_
            rotate_left
            · (conv => (lhs; whnf; arg 1; whnf))
            refine seqR_c (by rfl) (fun K hK => ?_)
            go_simp
            refine (HADD.out _).mono ?_
            rintro e w' ⟨rfl, rfl⟩
            refine hK _ _ (fun h => h) ?_
            try simp only [Act.put, List.setIfInBounds_toArray, List.set_cons_zero, List.set_cons_succ]
            refine seqR_at (o := ?_) ?_ ?_
            rotate_left
            · (conv => (lhs; whnf; arg 1; whnf))
            refine seqR_y (v := ?_) (by rfl) (fun W hW => ?_) ?_
            rotate_left
            · go_simp; try with_reducible rfl
            try simp only [Act.put, List.setIfInBounds_toArray, List.set_cons_zero, List.set_cons_succ]
            refine seqR_at (o := ?_) ?_ ?_
            rotate_left
            · (conv => (lhs; whnf; arg 1; whnf))
            refine seqR_y (v := ?_) (by rfl) (fun W hW => ?_) ?_
            rotate_left
            · go_simp; try with_reducible rfl
            try simp only [Act.put, List.setIfInBounds_toArray, List.set_cons_zero, List.set_cons_succ]
            refine seqR_at (o := ?_) ?_ ?_
            rotate_left
            · (conv => (lhs; whnf; arg 1; whnf))
            refine seqR_y (v := ?_) (by rfl) (fun W hW => ?_) ?_
            rotate_left
            · go_simp; try with_reducible rfl
            try simp only [Act.put, List.setIfInBounds_toArray, List.set_cons_zero, List.set_cons_succ]
            refine seqR_at (o := ?_) ?_ ?_
            rotate_left
            · (conv => (lhs; whnf; arg 1; whnf))
            refine seqR_y (v := ?_) (by rfl) (fun W hW => ?_) ?_
            rotate_left
            · go_simp; try with_reducible rfl
            try simp only [Act.put, List.setIfInBounds_toArray, List.set_cons_zero, List.set_cons_succ]
            refine seqR_at (o := ?_) ?_ ?_
            rotate_left
            · (conv => (lhs; whnf; arg 1; whnf))
            refine seqR_c (by rfl) (fun K hK => ?_)
            go_simp
            refine hK _ _ (fun h => DAt.other h HNE2.out _ _) ?_
            try simp only [Act.put, List.setIfInBounds_toArray, List.set_cons_zero, List.set_cons_succ]
            refine seqR_at (o := ?_) ?_ ?_
            rotate_left
            · (conv => (lhs; whnf; arg 1; whnf))
            refine seqR_y (v := ?_) (by rfl) (fun W hW => ?_) ?_
            rotate_left
            · go_simp; try with_reducible rfl
            try simp only [Act.put, List.setIfInBounds_toArray, List.set_cons_zero, List.set_cons_succ]
            refine seqR_end ?_
            simp only [onN]
            clear HADD cU fU fU' v3
            go_wp2_with fail
            have hset := HD.out.drew.set (x := dig S2 k2) (show j < 33 by omega) (dig_lt' S2 k2) Z HX.out.2.2
            rw [HJ.out] at hset
            have HSET := Lib.hid (hset.1.congr (fun i _ => mixD_set U1 S2 f k2 i))
            have HG2 : Hid (w.grownBy (wr.drew.setCell ⟨Bu, f + k2, none⟩ (.int .u32 Z)) (some Bu)) := Lib.hid (grown_trans (grown_drewN HG.out 1) hset.2)
            clear hset
            rw [HJ.out]
            go_roundw
            case rel => exact ⟨k2 + 1, HKN.out, by go_num, by rw [HX.out.1], HSET.out, HG2.out⟩
            case measure => have := HKN.out; simp [intOf]; omega
          · have hkm : k2 = n := by have := HK.out; omega
            subst hkm
            have hv0 : dig V k2 = 0 := dig_high (Nat.lt_of_lt_of_le HH.out.2.1 (B32_mono (by have := HB.out; omega)))
            have hsum : IntKind.u32.wrap (((dig S k2 : Nat) : Int) + ((cr32 S V k2 : Nat) : Int)) = ((dig S2 k2 : Nat) : Int) := by
              rw [hs2, add_dig, hv0, IntKind.wrap_u32]
              omega
            obtain ⟨X, hX⟩ : ∃ y : Int, y = ((dig S k2 : Nat) : Int) := ⟨_, rfl⟩
            obtain ⟨C, hC⟩ : ∃ y : Int, y = ((cr32 S V k2 : Nat) : Int) := ⟨_, rfl⟩
            obtain ⟨Z, hZ⟩ : ∃ y : Int, y = ((dig S2 k2 : Nat) : Int) := ⟨_, rfl⟩
            rw [← hX, ← hC, ← hZ] at hsum
            rw [← hX] at cU
            rw [← hC]
            have HZ := Lib.hid hZ
            have q1 : (1 : Int) ≤ qi := by have := HF.out.1; have := HQ.out; omega
            clear hX hC hZ hj hxd x8 y8 c8 hj33 hs2 hkn hv0
            go_wp2_with fail
            refine region_roadN (fun _ _ => True) [(0, true), (1, true), (2, true), (3, true), (4, true), (5, true), (7, true), (9, true), (6, false), (8, true), (10, true), (11, false)] (by kernel_rfl) (by kernel_rfl) (by kernel_rfl) (by kernel_rfl) (by kernel_rfl) (by kernel_rfl) (fun _ => trivial) (fun _ _ _ _ _ => trivial) ?_
            refine seqR_at (o := ?_) ?_ ?_
            rotate_left
            · (conv => (lhs; whnf; arg 1; whnf))
            refine seqR_y (v := ?_) (by rfl) (fun W hW => ?_) ?_
            rotate_left
            · go_simp; try with_reducible rfl
            try simp only [Act.put, List.setIfInBounds_toArray, List.set_cons_zero, List.set_cons_succ]
            refine seqR_at (o := ?_) ?_ ?_
            rotate_left
            · (conv => (lhs; whnf; arg 1; whnf))
            refine seqR_y (v := ?_) (by rfl) (fun W hW => ?_) ?_
            rotate_left
            · go_simp; try with_reducible rfl
            try simp only [Act.put, List.setIfInBounds_toArray, List.set_cons_zero, List.set_cons_succ]
            refine seqR_at (o := ?_) ?_ ?_
            rotate_left
            · (conv => (lhs; whnf; arg 1; whnf))
            refine seqR_y (v := ?_) (by rfl) (fun W hW => ?_) ?_
            rotate_left
            · go_simp; try with_reducible rfl
            try simp only [Act.put, List.setIfInBounds_toArray, List.set_cons_zero, List.set_cons_succ]
            refine seqR_at (o := ?_) ?_ ?_
            rotate_left
            · (conv => (lhs; whnf; arg 1; whnf))
            refine seqR_y (v := ?_) (by rfl) (fun W hW => ?_) ?_
            rotate_left
            · go_simp; try with_reducible rfl
            try simp only [Act.put, List.setIfInBounds_toArray, List.set_cons_zero, List.set_cons_succ]
            refine seqR_at (o := ?_) ?_ ?_
            rotate_left
            · (conv => (lhs; whnf; arg 1; whnf))
            refine seqR_y (v := ?_) (by rfl) (fun W hW => ?_) ?_
            rotate_left
            · go_simp; try with_reducible rfl
            try simp only [Act.put, List.setIfInBounds_toArray, List.set_cons_zero, List.set_cons_succ]
            refine seqR_at (o := ?_) ?_ ?_
            rotate_left
            · (conv => (lhs; whnf; arg 1; whnf))
            refine seqR_y (v := ?_) (by rfl) (fun W hW => ?_) ?_
            rotate_left
            · go_simp; try with_reducible rfl
            try simp only [Act.put, List.setIfInBounds_toArray, List.set_cons_zero, List.set_cons_succ]
            refine seqR_at (o := ?_) ?_ ?_
            rotate_left
            · (conv => (lhs; whnf; arg 1; whnf))
            refine seqR_y (v := ?_) (by rfl) (fun W hW => ?_) ?_
            rotate_left
            · go_simp; try with_reducible rfl
            try simp only [Act.put, List.setIfInBounds_toArray, List.set_cons_zero, List.set_cons_succ]
            refine seqR_at (o := ?_) ?_ ?_
            rotate_left
            · (conv => (lhs; whnf; arg 1; whnf))
            refine seqR_y (v := ?_) (by rfl) (fun W hW => ?_) ?_
            rotate_left
            · go_simp; try with_reducible rfl
            try simp only [Act.put, List.setIfInBounds_toArray, List.set_cons_zero, List.set_cons_succ]
            refine seqR_at (o := ?_) ?_ ?_
            rotate_left
            · (conv => (lhs; whnf; arg 1; whnf))
            refine seqR_c (by rfl) (fun K hK => ?_)
            go_simp
            refine hK _ _ trivial ?_
            try simp only [Act.put, List.setIfInBounds_toArray, List.set_cons_zero, List.set_cons_succ]
            refine seqR_at (o := ?_) ?_ ?_
            rotate_left
            · (conv => (lhs; whnf; arg 1; whnf))
            refine seqR_y (v := ?_) (by rfl) (fun W hW => ?_) ?_
            rotate_left
            · go_simp; try with_reducible rfl
            try simp only [Act.put, List.setIfInBounds_toArray, List.set_cons_zero, List.set_cons_succ]
            refine seqR_at (o := ?_) ?_ ?_
            rotate_left
            · (conv => (lhs; whnf; arg 1; whnf))
            refine seqR_y (v := ?_) (by rfl) (fun W hW => ?_) ?_
            rotate_left
            · go_simp; try with_reducible rfl
            try simp only [Act.put, List.setIfInBounds_toArray, List.set_cons_zero, List.set_cons_succ]
            refine seqR_at (o := ?_) ?_ ?_
            rotate_left
            · (conv => (lhs; whnf; arg 1; whnf))
            refine seqR_c (by rfl) (fun K hK => ?_)
            go_simp
            refine hK _ _ trivial ?_
            try simp only [Act.put, List.setIfInBounds_toArray, List.set_cons_zero, List.set_cons_succ]
            refine seqR_end ?_
            simp only [onN]
            clear cU fU fU' v3 hsum
            go_wp2_with fail
            have hset := HD.out.drew.set (x := dig S2 k2) (show j < 33 by omega) (dig_lt' S2 k2) Z HZ.out
            rw [HJ.out] at hset
            have HSET := Lib.hid (hset.1.congr (fun i _ => mixD_set U1 S2 f k2 i))
            have HG2 : Hid (w.grownBy (wr.drew.setCell ⟨Bu, f + k2, none⟩ (.int .u32 Z)) (some Bu)) := Lib.hid (grown_trans (grown_drewN HG.out 1) hset.2)
            clear hset
            rw [HJ.out]
            go_ret
            refine ⟨?_, ?_, HG2.out⟩
            · rw [show qi - 1 = ((R / V : Nat) : Int) from by have := HF.out.1; have := HF.out.2.1; have := HQ.out; omega]
              rfl
            · refine HSET.out.congr (fun i _ => ?_)
              have hkk : k2 + 1 = m + 2 := by have := HB.out; omega
              rw [hkk, mixD_all HU1.out.2.2 (by rw [HS2.out]; exact Nat.mod_lt _ (B32_pos _)), HU1.out.2.1, HS2.out, HF.out.2.2]

end Go.Proofs.Ytomiapceefbmeaa

set_option linter.unusedVariables false
set_option linter.unusedSimpArgs false
set_option maxRecDepth 20000
namespace Go.Proofs.Ytomiapceefbmeaa
open Go.RowKit

section
variable {P : Program} {ops : Array Oper} {Q : Exit → Act → World → Prop} {R : World → World → Prop}

theorem region_begin (R : World → World → Prop) (N : Nat) {id : Nat} {a : Act} {w : World} (hm : P.follows .mixedOrders = true) (hN : ops.size = N)
    (h : anyR P ops (onN Q) R N (Array.replicate N false) a w.drew) : (Code.region id ops true).wp P Q a w := by
  subst hN
  exact Code.wp_mono (fun e a w h => by cases e <;> first | exact h | exact h.elim) (wp_region_any hm (any_of_anyR _ _ _ _ h))

/-- May number i be taken first? -/
def firstOk (ops : Array Oper) (listed : Array Bool) (i : Nat) : Bool :=
  (Region.ready .any ops listed).contains i && match ops[i]? with
    | none => true
    | some oi => (List.range ops.size).all fun j => j == i || listed.getD j true || match ops[j]? with
      | none => true
      | some oj => waitsOn oj i || oi.apart ops oj
theorem firstOk_spec {listed : Array Bool} {i : Nat} {oi : Oper} (h : firstOk ops listed i = true) (hi : ops[i]? = some oi) :
    i ∈ Region.ready .any ops listed ∧ ∀ j oj, ops[j]? = some oj → j ≠ i → listed.getD j true = false → (∀ e ∈ oj.after, Region.binds .any e = true → e.on ≠ i) → oi.apart ops oj = true := by
  unfold firstOk at h
  rw [hi, Bool.and_eq_true] at h
  obtain ⟨h1, h2⟩ := h
  refine ⟨by simpa using h1, fun j oj hj hne hl hw => ?_⟩
  have h3 := List.all_eq_true.1 h2 j (List.mem_range.2 (Array.getElem?_eq_some_iff.1 hj).1)
  have h4 : waitsOn oj i = false := any_false fun e he hc => by
    simp only [Bool.and_eq_true, beq_iff_eq] at hc
    exact hw e he hc.1 hc.2
  simpa [hj, hne, hl, h4] using h3

/-- The operation laid open. -/
def stepY (P : Program) (ops : Array Oper) (Q : Exit → Act → World → Prop) (R : World → World → Prop) (fuel : Nat) (listed : Array Bool) (i : Nat) (o : Oper) (a : Act) (w : World) : Prop :=
  ops[i]? = some o → anyR P ops (onN Q) R (fuel + 1) listed a w
theorem anyR_at {fuel : Nat} {listed : Array Bool} {i : Nat} {o : Oper} {a : Act} {w : World} (hi : ops[i]? = some o) (h : stepY P ops Q R fuel listed i o a w) : anyR P ops (onN Q) R (fuel + 1) listed a w := h hi
theorem anyR_y (hrefl : ∀ w, R w w) (htrans : ∀ a b c, R a b → R b c → R a c) (hsel : Region.noSelect ops = true) {fuel : Nat} {listed : Array Bool} {i : Nat} {oi : Oper} {v : Value} {a : Act} {w : World}
    (hf : firstOk ops listed i = true) (hw : Region.wanted oi (yielded ops a.tmps) = true)
    (hv : ∀ w', R w w' → (execOp a.eval oi).run P w' = .ok (.value v) w') (h : anyR P ops (onN Q) R fuel (listed.setIfInBounds i true) (a.put oi.dst v) w) :
    stepY P ops Q R fuel listed i oi a w := fun hi =>
  let ⟨h1, h2⟩ := firstOk_spec hf hi
  anyR_first hrefl htrans hi (Region.noSelect_spec hsel) (fun _ _ _ _ _ h => h) fuel listed a w h2 h1 (.inl ⟨hw, hv⟩) h

/-- Each of those that may come up. -/
def brs (P : Program) (ops : Array Oper) (Q : Exit → Act → World → Prop) (R : World → World → Prop) (fuel : Nat) (listed : Array Bool) (a : Act) (w : World) : List Nat → Prop
  | [] => True
  | i :: r => wpOp P ops (onN Q) i (fun a' w' => R w w' ∧ anyR P ops (onN Q) R fuel (listed.setIfInBounds i true) a' w') a w ∧ brs P ops Q R fuel listed a w r
theorem brs_spec {fuel : Nat} {listed : Array Bool} {a : Act} {w : World} : ∀ {L : List Nat}, brs P ops Q R fuel listed a w L → ∀ i ∈ L, wpOp P ops (onN Q) i (fun a' w' => R w w' ∧ anyR P ops (onN Q) R fuel (listed.setIfInBounds i true) a' w') a w
  | j :: r, h, i, hi => by
    rcases List.mem_cons.1 hi with rfl | hi
    · exact h.1
    · exact brs_spec h.2 i hi
theorem anyR_branch (L : List Nat) {fuel : Nat} {listed : Array Bool} {a : Act} {w : World} (hL : Region.ready .any ops listed = L) (hne : L.isEmpty = false) (h : brs P ops Q R fuel listed a w L) :
    anyR P ops (onN Q) R (fuel + 1) listed a w := by
  subst hL
  refine ⟨fun he => (by rw [he] at hne; cases hne), brs_spec h⟩
def stepB (P : Program) (ops : Array Oper) (Q : Exit → Act → World → Prop) (R : World → World → Prop) (fuel : Nat) (listed : Array Bool) (i : Nat) (o : Oper) (a : Act) (w : World) : Prop :=
  ops[i]? = some o → wpOp P ops (onN Q) i (fun a' w' => R w w' ∧ anyR P ops (onN Q) R fuel (listed.setIfInBounds i true) a' w') a w
theorem brs_cons {fuel : Nat} {listed : Array Bool} {i : Nat} {r : List Nat} {o : Oper} {a : Act} {w : World} (hi : ops[i]? = some o) (h : stepB P ops Q R fuel listed i o a w) (h2 : brs P ops Q R fuel listed a w r) :
    brs P ops Q R fuel listed a w (i :: r) := ⟨h hi, h2⟩
theorem brs_nil {fuel : Nat} {listed : Array Bool} {a : Act} {w : World} : brs P ops Q R fuel listed a w [] := trivial
theorem stepB_c {fuel : Nat} {listed : Array Bool} {i : Nat} {oi : Oper} {a : Act} {w : World} (hw : Region.wanted oi (yielded ops a.tmps) = true)
    (h : ∀ K : Act → World → Prop, (∀ a' w', R w w' → anyR P ops (onN Q) R fuel (listed.setIfInBounds i true) a' w' → K a' w') → oi.wp P a w K (onN Q)) : stepB P ops Q R fuel listed i oi a w := by
  intro hi
  unfold wpOp
  simp only [hi, hw, if_true]
  exact .inl (h _ fun a' w' h1 h2 => ⟨h1, h2⟩)
theorem anyR_end {listed : Array Bool} {a : Act} {w : World} (hr : Region.ready .any ops listed = []) (h : Q .normal a w) : anyR P ops (onN Q) R 0 listed a w := ⟨hr, h⟩
end

/-! ### What Divide sets out from -/
theorem dv_bounds {b m : Nat} (hb : b ≠ 0) (hm : cnt b = m + 1) : bl (dig b m) ≤ 32 ∧ 32 - bl (dig b m) < 32 ∧ b * 2 ^ (32 - bl (dig b m)) < B32 (m + 1) ∧ B32 (m + 1) ≤ 2 * (b * 2 ^ (32 - bl (dig b m))) := by
  have h1 := bl_cnt hb
  rw [hm, Nat.add_sub_cancel] at h1
  have h2 := lt_bl b
  have h3 := le_bl hb
  have h0 : dig b m ≠ 0 := by
    have h4 := lt_cnt b
    have h5 := cnt_le_self hb
    rw [hm] at h4 h5
    rw [Nat.add_sub_cancel] at h5
    rw [← top_dig h4]
    exact Nat.ne_of_gt (Nat.div_pos h5 (B32_pos m))
  have h6 := bl_pos h0
  have h7 : bl (dig b m) ≤ 32 := bl_le (by have := dig_lt' b m; omega)
  generalize bl (dig b m) = l at *
  refine ⟨h7, by omega, ?_, ?_⟩
  · have h8 : b * 2 ^ (32 - l) < 2 ^ bl b * 2 ^ (32 - l) := Nat.mul_lt_mul_of_pos_right h2 (Nat.two_pow_pos _)
    rw [← Nat.pow_add, h1, show 32 * m + l + (32 - l) = 32 * (m + 1) from by omega] at h8
    exact h8
  · have h8 : 2 ^ (bl b - 1) * 2 ^ (32 - l) ≤ b * 2 ^ (32 - l) := Nat.mul_le_mul_right _ h3
    rw [← Nat.pow_add, h1] at h8
    have h9 : 2 * 2 ^ (32 * m + l - 1 + (32 - l)) = B32 (m + 1) := by
      unfold B32
      rw [Nat.mul_comm, ← Nat.pow_succ]
      congr 1
      omega
    omega
theorem dvd_start {a b s m k : Nat} (hb : b ≠ 0) (hm : cnt b = m + 1) (hk : cnt a ≤ m + k) : a * 2 ^ s / B32 k < b * 2 ^ s := by
  rw [Nat.div_lt_iff_lt_mul (B32_pos k)]
  have h1 : a < B32 (m + k) := lt_B32_of_le (lt_cnt a) hk
  have h2 := cnt_le_self hb
  rw [hm, Nat.add_sub_cancel] at h2
  have h3 : B32 m * B32 k ≤ b * B32 k := Nat.mul_le_mul_right _ h2
  rw [← B32_add] at h3
  rw [Nat.mul_right_comm]
  exact Nat.mul_lt_mul_of_pos_right (Nat.lt_of_lt_of_le h1 h3) (Nat.two_pow_pos s)
theorem dv_quot (a b s : Nat) : a * 2 ^ s / (b * 2 ^ s) = a / b := Nat.mul_div_mul_right _ _ (Nat.two_pow_pos s)
theorem dv_rest (a b s : Nat) : a * 2 ^ s % (b * 2 ^ s) = a % b * 2 ^ s := Nat.mul_mod_mul_right _ _ _
theorem dv_back (a b s : Nat) : a * 2 ^ s % (b * 2 ^ s) / 2 ^ s = a % b := by rw [dv_rest, Nat.mul_div_cancel _ (Nat.two_pow_pos s)]
theorem dv_high {A V f : Nat} (hV : 0 < V) : divU A V (f + 1) / B32 f < V * 4294967296 := by
  rw [(divU_high A V f).1]
  exact divN_lt hV
theorem dtNat : DT Try.prog 29 32 := ⟨_, Try.underlying29, rfl, by kernel_rfl⟩

/-- The results of Divide. -/
theorem results_two {fn : Func} {p q u : Tmp} (h : fn.results = #[.cell p 29, .cell q 29, .tmp u]) (tmps : Array Value) (w : World) {B C m n : Nat} (hp : tmps.getD p undef = .pointer (some ⟨B, 0, none⟩)) (hq : tmps.getD q undef = .pointer (some ⟨C, 0, none⟩))
    (hm : NatAt w B m) (hn : NatAt w C n) : (results fn tmps).run Try.prog w = .ok (.tuple #[.agg (natA m), .agg (natA n), tmps.getD u undef]) w := by
  obtain ⟨d, h1, h2, h3⟩ := ntNat
  have e1 := run_loadVar_mid w B 0 29 (natL m) d hm.range h1 h2 (by rw [natL_length]; exact h3)
  have e2 := run_loadVar_mid w C 0 29 (natL n) d hn.range h1 h2 (by rw [natL_length]; exact h3)
  have h9 : (results fn tmps).run Try.prog w = ((asAddr (tmps.getD p undef)).run Try.prog w).andThen fun a w₁ => ((loadVar 29 a).run Try.prog w₁).andThen fun v w₂ =>
      ((asAddr (tmps.getD q undef)).run Try.prog w₂).andThen fun b w₃ => ((loadVar 29 b).run Try.prog w₃).andThen fun x w₄ => .ok (.tuple #[v, x, tmps.getD u undef]) w₄ := by
    simp only [results, h]
    simp [Sem.run_bind, Result.andThen]
  rw [h9, hp, hq]
  simp only [asAddr, Sem.run_pure, Result.andThen_ok, e1, e2]
  rfl

end Go.Proofs.Ytomiapceefbmeaa
