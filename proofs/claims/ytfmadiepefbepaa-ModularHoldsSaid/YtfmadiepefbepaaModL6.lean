/- Walk: the law ModularHolds (printed by genmodlaw.py). -/
import Derived.Test.YtfmadiepefbepaaModO
set_option linter.unusedVariables false
set_option linter.unusedSimpArgs false
set_option maxRecDepth 100000
namespace Go.Proofs.Ytfmadiepefbepaa
open Go.RowKit

set_option maxHeartbeats 3200000 in
theorem fromBytes_wide (v : Value) (xs : List UInt8) (w : World) (h : Byt w v xs) (hli : (xs.length : Int) ≤ 9223372036854775807) :
    Calls Try.prog 35 #[v] w fun e w' => e = .returned (.tuple #[.agg (natA (fromN xs)), .int .i64 (fromE xs)]) ∧ Below w.heap.size w w' := by
  obtain ⟨A, c, rfl, _⟩ := h.len
  have H := Lib.hid h
  clear h
  have HR : Hid (NatAt ((w.alloc (.cells z0 37)).alloc (.cells z0 37)) (w.heap.size) (0)) := Lib.hid (by
    have h := NatAt.new w (0) 37
    rw [natA_zero] at h
    replace h := h.alloc (.cells z0 37)
    simpa using h)
  have HZ : Hid (NatAt ((w.alloc (.cells z0 37)).alloc (.cells z0 37)) (w.heap.size + 1) (0)) := Lib.hid (by
    have h := NatAt.new (w.alloc (.cells z0 37)) (0) 37
    rw [natA_zero] at h
    simpa using h)
  have HW : Hid (Below w.heap.size w ((w.alloc (.cells z0 37)).alloc (.cells z0 37))) := Lib.hid (by
    have h := Below.refl w.heap.size w
    replace h := h.alloc h.size (.cells z0 37)
    replace h := h.alloc h.size (.cells z0 37)
    exact h)
  go_enter Try.func35, Try.ntmps35
  go_wp2_with fail
  generalize ((w.alloc (.cells z0 37)).alloc (.cells z0 37)) = w1 at HR HZ HW ⊢
  have H1 : Hid (Byt w1 (.slice A xs.length c) xs) := Lib.hid (H.out.below HW.out)
  have hRB : Hid (w.heap.size + 1 ≠ w.heap.size ∧ ∀ b, (xs ≠ [] → (Value.slice A xs.length c).ownBlock = some b → b < w.heap.size)) := Lib.hid ⟨by omega, fun b hx hb => H.out.blk hx hb⟩
  go_loopw [5, 6, 9] (fun _ _ i wr => ∃ (k m : Nat), k ≤ xs.length ∧ i = .int .i64 (k : Int) ∧ NatAt wr (w.heap.size + 1) (numN (xs.drop (xs.length - k))) ∧ numN (xs.drop (xs.length - k)) < 2 ^ (8 * k) ∧ Fit (numN (xs.drop (xs.length - k))) ∧ w1.grownBy wr (some (w.heap.size + 1))) (fun _ _ i _ => xs.length - (intOf i).toNat)
  case atStart => exact ⟨0, 0, Nat.zero_le _, rfl, by rw [Nat.sub_zero, List.drop_length]; exact HZ.out, by rw [Nat.sub_zero, List.drop_length]; decide, by rw [Nat.sub_zero, List.drop_length]; exact Fit.zero, World.grownBy.refl _ _⟩
  case round =>
    obtain ⟨k, m, hk, rfl, hN, hlt8, hfit, hg⟩ := hrel
    have HN := Lib.hid hN
    have HLT := Lib.hid hlt8
    have HFIT := Lib.hid hfit
    have HG := Lib.hid hg
    clear hN hlt8 hfit hg
    by_cases hlt : k < xs.length
    · have hB : Byt wr (.slice A xs.length c) xs := H1.out.grown' HG.out (fun hx b e e2 => by injection e with e; have := hRB.out.2 _ hx e2; omega)
      obtain ⟨b, off, c2, hA, _, hc⟩ := hB.at_ (show xs.length - 1 - k < xs.length by omega)
      injection hA with hA _ hc'
      subst hA hc'
      have hst := numN_step xs k hlt
      have hxs : (xs[xs.length - 1 - k]'(by omega)).toNat < 256 := (xs[xs.length - 1 - k]'(by omega)).toNat_lt
      generalize (xs[xs.length - 1 - k]'(by omega)) = x at *
      have HST := Lib.hid hst
      have hx8 : (x.toNat : Int) < 256 := by omega
      have e1 : (xs.length : Int) - 1 - (k : Int) = ((xs.length - 1 - k : Nat) : Int) := by omega
      clear hst hxs hB
      by_cases h128 : 128 ≤ k
      · have hk128 : (128 : Int) ≤ (k : Int) := by omega
        have hki : (k : Int) < (xs.length : Int) := by omega
        by_cases hx0 : x.toNat = 0
        · have hxi : ((x.toNat : Nat) : Int) = 0 := by omega
          rw [hxi] at hc
          have hst : Hid (numN (xs.drop (xs.length - (k + 1))) = numN (xs.drop (xs.length - k))) := Lib.hid (by
            have := HST.out
            rw [hx0, Nat.zero_mul, Nat.add_zero] at this
            rw [← this, show xs.length - 1 - k = xs.length - (k + 1) from by omega])
          clear hx0 hxi
          go_wp2_with fail
          go_roundw
          case rel => exact ⟨k + 1, 0, by omega, by go_num, by rw [hst.out]; exact HN.out, by rw [hst.out]; exact Nat.lt_of_lt_of_le HLT.out (Nat.pow_le_pow_right (by decide) (by omega)), by rw [hst.out]; exact HFIT.out, HG.out⟩
          case measure => simp [intOf]; omega
        · have hnf : ¬ Fit (numN xs) := by
            intro hf
            have h1 := numN_drop_le xs (xs.length - 1 - k)
            rw [HST.out] at h1
            have h2 : B32 32 ≤ 2 ^ (8 * k) := B32_le_pow (by omega)
            have h3 : 1 * 2 ^ (8 * k) ≤ x.toNat * 2 ^ (8 * k) := Nat.mul_le_mul_right _ (by omega)
            rw [Nat.one_mul] at h3
            unfold Fit at hf
            omega
          have hF1 : Hid (fromN xs = 0) := by unfold Hid fromN; rw [if_neg hnf]
          have hF2 : Hid (fromE xs = 7) := by unfold Hid fromE; rw [if_neg hnf]
          have hRw : Hid (NatAt wr w.heap.size 0) := Lib.hid (HR.out.grown HG.out (by simp))
          have hxb : (((x.toNat : Nat) : Int) != 0) = true := by rw [bne_iff_ne]; omega
          clear hnf hx0
          go_wp2_with (refine wpl_stN (m := 0) ntNat rfl rfl rfl (by rw [natA_zero]; rfl) hRw.out ?_; intro w9 hn9 hg9; have HN9 := Lib.hid hn9; have HG9 := Lib.hid hg9; clear hn9 hg9)
          refine bodyPost_ret (results_nat rfl _ _ rfl HN9.out) rfl ?_
          refine ⟨by rw [hF1.out, hF2.out]; rfl, ?_⟩
          exact (HW.out.grown HG.out HW.out.size (fun j e => by injection e with e; omega)).grown HG9.out (Nat.le_trans HW.out.size HG.out.size) (fun j e => by injection e with e; omega)
      · have hk128 : (k : Int) < 128 := by omega
        have hki : (k : Int) < (xs.length : Int) := by omega
        have hj : (k / 4 : Nat) < 32 := by omega
        have hjz : (0 : Int) ≤ (k : Int) := by omega
        go_wp2_with fail
        have cz := HN.out.cell hj
        have fz := HN.out.frozen (k / 4)
        have q1 : IntKind.i64.wrap ((k / 4 : Nat) : Int) = ((k / 4 : Nat) : Int) := by rw [IntKind.wrap_i64]; omega
        have e4 : (k : Int) / 4 = ((k / 4 : Nat) : Int) := by omega
        have m4 : ((k : Int)).tmod 4 = ((k % 4 : Nat) : Int) := by rw [Int.tmod_eq_emod_of_nonneg (by omega)]; omega
        have ux : IntKind.u32.wrap ((x.toNat : Nat) : Int) = ((x.toNat : Nat) : Int) := by rw [IntKind.wrap_u32]; omega
        have b1 : (0 : Int) ≤ ((k / 4 : Nat) : Int) := by omega
        have b2 : ((k / 4 : Nat) : Int) < 32 := by omega
        have b3 : ((k % 4 : Nat) : Int) < 4 := by omega
        have b4 : (0 : Int) ≤ ((k % 4 : Nat) : Int) := by omega
        have q3 : IntKind.i64.wrap (8 * ((k % 4 : Nat) : Int)) = 8 * ((k % 4 : Nat) : Int) := by rw [IntKind.wrap_i64]; omega
        have q2 : IntKind.i64.wrap (k % 4 : Nat) = ((k % 4 : Nat) : Int) := by rw [IntKind.wrap_i64]; omega
        have hDl := dig_lt (numN (xs.drop (xs.length - k))) (k / 4)
        generalize hD : dig (numN (xs.drop (xs.length - k))) (k / 4) = D at *
        have HDL := Lib.hid hDl
        clear hDl
        generalize hJ : k / 4 = J at *
        generalize hM : k % 4 = M at *
        go_still_tail 16, (by kernel_rfl)
        change wpList _ _ _ _ _ wr.drew
        have hN : Hid (NatAt wr.drew (w.heap.size + 1) (numN (xs.drop (xs.length - k)))) := Lib.hid HN.out.drew
        have hG : Hid (w1.grownBy wr.drew (some (w.heap.size + 1))) := Lib.hid ⟨HG.out.os, HG.out.tape, HG.out.output, HG.out.size, HG.out.block⟩
        go_wp2_with fail
        go_roundw
        case rel =>
          have h1 : 8 * k / 32 = J := by omega
          have h2 : 8 * k % 32 = 8 * M := by omega
          have hx : x.toNat < 2 ^ 8 := x.toNat_lt
          have hput := hN.out.put (p := 8 * k) (x := x.toNat) (s := 8) HLT.out hx (by omega) (by omega) (bits .or .u32 (D : Int) ((x.toNat : Int) * 2 ^ (8 * M) % 4294967296)) (by
            rw [h1, h2, hD]
            exact or_put _ _ _ HDL.out (by
              have := x.toNat_lt
              have hM3 : M = 0 ∨ M = 1 ∨ M = 2 ∨ M = 3 := by omega
              rcases hM3 with rfl | rfl | rfl | rfl <;> simp <;> omega))
          have hlt9 := put_lt HLT.out hx
          rw [h1, ← HST.out, show xs.length - 1 - k = xs.length - (k + 1) from by omega] at hput
          rw [← HST.out, show xs.length - 1 - k = xs.length - (k + 1) from by omega, show 8 * k + 8 = 8 * (k + 1) from by omega] at hlt9
          exact ⟨k + 1, 0, by omega, by go_num, hput.1, hlt9, Nat.lt_of_lt_of_le hlt9 (pow_le_B32 (by omega)), gb_trans _ _ _ _ hG.out hput.2⟩
        case measure => simp [intOf]; omega
    · obtain rfl : k = xs.length := by omega
      have hd : numN (xs.drop (xs.length - xs.length)) = numN xs := by rw [Nat.sub_self, List.drop_zero]
      have hf : Fit (numN xs) := by rw [← hd]; exact HFIT.out
      have hRw : Hid (NatAt wr w.heap.size 0) := Lib.hid (HR.out.grown HG.out (by simp))
      have hNw : Hid (NatAt wr (w.heap.size + 1) (numN xs)) := Lib.hid (by rw [← hd]; exact HN.out)
      have hF1 : Hid (fromN xs = numN xs) := by unfold Hid fromN; rw [if_pos hf]
      have hF2 : Hid (fromE xs = 0) := by unfold Hid fromE; rw [if_pos hf]
      clear hd hf
      go_wp2_with (first | (refine wpl_ldN ntNat rfl rfl rfl hNw.out ?_) | (refine wpl_stN ntNat rfl rfl rfl rfl hRw.out ?_; intro w9 hn9 hg9; have HN9 := Lib.hid hn9; have HG9 := Lib.hid hg9; clear hn9 hg9))
      refine bodyPost_ret (results_nat rfl _ _ rfl HN9.out) rfl ?_
      refine ⟨by rw [hF1.out, hF2.out]; rfl, ?_⟩
      exact (HW.out.grown HG.out HW.out.size (fun j e => by injection e with e; omega)).grown HG9.out (Nat.le_trans HW.out.size HG.out.size) (fun j e => by injection e with e; omega)

set_option maxHeartbeats 1600000 in
theorem made_wide (v : Value) (xs : List UInt8) (w : World) (h : Byt w v xs) (hl : (xs.length : Int) ≤ 9223372036854775807) :
    Calls Try.prog 14 #[v] w fun e w' => e = .returned (.agg (natA (fromN xs))) ∧ Below w.heap.size w w' := by
  have HV := Lib.hid h
  have HL := Lib.hid hl
  clear h hl
  have HR : Hid (NatAt (w.alloc (.cells z0 37)) (w.heap.size) (0)) := Lib.hid (by
    have h := NatAt.new w (0) 37
    rw [natA_zero] at h
    simpa using h)
  have HW : Hid (Below w.heap.size w (w.alloc (.cells z0 37))) := Lib.hid (by
    have h := Below.refl w.heap.size w
    replace h := h.alloc h.size (.cells z0 37)
    exact h)
  have V_0 := Lib.hid (HV.out.below HW.out)
  go_enter Try.func14, Try.ntmps14
  go_wp2_with fail
  refine (fromBytes_wide _ xs _ V_0.out HL.out).mono ?_
  rintro e p1 ⟨rfl, hb⟩
  have XT0_1 := Lib.hid (NatAt.zero p1)
  have XA_1 := Lib.hid (below_zero hb hb.size)
  have hsz_1 := Lib.hid hb.size
  clear hb
  go_wp2_with (first | go_skip | (refine wpl_stN ntNat rfl rfl rfl rfl XT0_1.out ?_; intro q1 hn hg; have XB0_1 := Lib.hid (XA_1.out.grown hg XA_1.out.size (fun j e => by injection e with e; rw [← e]; have := hsz_1.out; omega)); have XS00_1 := Lib.hid hn; have R_1 := Lib.hid (HR.out.below XB0_1.out); have V_1 := Lib.hid (V_0.out.below XB0_1.out); have W_1 := Lib.hid (HW.out.trans (XB0_1.out.mono HW.out.size)); have o_1 := XS00_1; clear hn hg HR V_0 HW XT0_1 XA_1 XS00_1 XB0_1 hsz_1) | (refine wpl_ldN ntNat rfl rfl rfl R_1.out ?_) | (refine wpl_ldN_g ntNat ?hw rfl rfl R_1.out ?_; (case hw => rfl)) | (refine wpl_ldN ntNat rfl rfl rfl o_1.out ?_) | (refine wpl_ldN_g ntNat ?hw rfl rfl o_1.out ?_; (case hw => rfl)) | (refine wpl_stN ntNat rfl rfl rfl rfl R_1.out ?_; intro z2 hn hg; have W_2 := Lib.hid (W_1.out.grown hg W_1.out.size (fun j e => by injection e with e; omega)); have R_2 := Lib.hid hn; clear hn hg W_1 R_1 V_1 o_1))
  refine bodyPost_ret (results_one rfl _ _ rfl R_2.out) rfl ?_
  exact ⟨rfl, W_2.out⟩

theorem maxLen_le {n : Nat} (h : n ≤ maxLen) : (n : Int) ≤ 9223372036854775807 := by
  have e : maxLen = 9223372036854775807 := by decide
  omega
theorem fit_fromN (xs : List UInt8) : Fit (fromN xs) := by
  unfold fromN
  split
  · rename_i h; exact h
  · exact Fit.zero
theorem hd_dist {x y v z : Nat} : (v * x % z + v * y % z) % z = v * ((x + y) % z) % z := by
  rw [← Nat.add_mod, ← Nat.mul_add, Nat.mul_mod_mod]
theorem hd_assoc {x y v z : Nat} : v * (x * y % z) % z = v * x % z * y % z := by
  rw [Nat.mul_mod_mod, Nat.mod_mul_mod, Nat.mul_assoc]
theorem hd_back {x y z : Nat} (hz : 0 < z) : ((x % z + z - y % z) % z + y) % z = x % z := by
  have h1 := Nat.mod_lt y hz
  have e : x % z + z - y % z + y % z = x % z + z := by omega
  rw [Nat.mod_add_mod, ← Nat.add_mod_mod, e, Nat.add_mod_right, Nat.mod_mod]
theorem hd_pow {x n k z : Nat} : x ^ n % z * ((x % z) ^ k % z) % z = x ^ (n + k) % z := by
  rw [← Nat.pow_mod, ← Nat.mul_mod, Nat.pow_add]

set_option maxHeartbeats 12800000 in
theorem mh_n (va : Value) (xa : List UInt8) (vb : Value) (xb : List UInt8) (vc : Value) (xc : List UInt8) (vm : Value) (xm : List UInt8) (w : World) (ha : Byt w va xa) (hb : Byt w vb xb) (hc : Byt w vc xc) (hm : Byt w vm xm) (la : xa.length ≤ 24) (lb : xb.length ≤ 24) (lc : xc.length ≤ 24) (lm : xm.length ≤ 24) (x y v z : Nat) (ex : numN xa = x) (ey : numN xb = y) (ev : numN xc = v) (ez : numN xm = z) (nn kk : Nat) (hn : nn ≤ 1048576) (hk : kk ≤ 1048576) (h0 : z ≠ 0) :
    Calls Try.prog 4 #[va, vb, vc, vm, .int .i64 (nn : Int), .int .i64 (kk : Int)] w fun e w' => e = .returned (.bool true) ∧ Below w.heap.size w w' := by
  have Ha := Lib.hid ha
  obtain ⟨Aa, ca, rfl, -⟩ := ha.len
  have HLx : Hid (xa.length ≤ 200) := Lib.hid (by omega)
  have HSx := Lib.hid (sz_num HLx.out)
  have HFx := Lib.hid (fit_num (xs := xa) (by omega))
  have HCx := Lib.hid (c16_num HLx.out)
  rw [ex] at HSx HFx HCx
  have HEx := Lib.hid ex
  have HKx : Hid (c16 x ≤ 1000) := Lib.hid (Nat.le_trans HCx.out (by decide))
  have Hb := Lib.hid hb
  obtain ⟨Ab, cb, rfl, -⟩ := hb.len
  have HLy : Hid (xb.length ≤ 200) := Lib.hid (by omega)
  have HSy := Lib.hid (sz_num HLy.out)
  have HFy := Lib.hid (fit_num (xs := xb) (by omega))
  have HCy := Lib.hid (c16_num HLy.out)
  rw [ey] at HSy HFy HCy
  have HEy := Lib.hid ey
  have HKy : Hid (c16 y ≤ 1000) := Lib.hid (Nat.le_trans HCy.out (by decide))
  have Hc := Lib.hid hc
  obtain ⟨Ac, cc, rfl, -⟩ := hc.len
  have HLv : Hid (xc.length ≤ 200) := Lib.hid (by omega)
  have HSv := Lib.hid (sz_num HLv.out)
  have HFv := Lib.hid (fit_num (xs := xc) (by omega))
  have HCv := Lib.hid (c16_num HLv.out)
  rw [ev] at HSv HFv HCv
  have HEv := Lib.hid ev
  have HKv : Hid (c16 v ≤ 1000) := Lib.hid (Nat.le_trans HCv.out (by decide))
  have Hm := Lib.hid hm
  obtain ⟨Am, cm, rfl, -⟩ := hm.len
  have HLz : Hid (xm.length ≤ 200) := Lib.hid (by omega)
  have HSz := Lib.hid (sz_num HLz.out)
  have HFz := Lib.hid (fit_num (xs := xm) (by omega))
  have HCz := Lib.hid (c16_num HLz.out)
  rw [ez] at HSz HFz HCz
  have HEz := Lib.hid ez
  have HKz : Hid (c16 z ≤ 1000) := Lib.hid (Nat.le_trans HCz.out (by decide))
  have d0 : decide (24 < (xa.length : Int)) = false := decide_eq_false (by omega)
  have d1 : decide (24 < (xb.length : Int)) = false := decide_eq_false (by omega)
  have d2 : decide (24 < (xc.length : Int)) = false := decide_eq_false (by omega)
  have d3 : decide (24 < (xm.length : Int)) = false := decide_eq_false (by omega)
  have en : decide ((((nn : Nat)) : Int) < 0) = false := decide_eq_false (by omega)
  have gn : decide (1048576 < ((nn : Nat) : Int)) = false := decide_eq_false (by omega)
  have ek : decide ((((kk : Nat)) : Int) < 0) = false := decide_eq_false (by omega)
  have gk : decide (1048576 < ((kk : Nat) : Int)) = false := decide_eq_false (by omega)
  have H0 := Lib.hid h0
  have hz0 := Nat.pos_of_ne_zero h0
  obtain ⟨S, hS⟩ : ∃ n, (x + y) % z = n := ⟨_, rfl⟩
  have ES := Lib.hid hS
  have FS : Hid (Fit S) := Lib.hid (Nat.lt_trans (show S < z by rw [← hS]; exact Nat.mod_lt _ hz0) HFz.out)
  obtain ⟨L, hL⟩ : ∃ n, v * S % z = n := ⟨_, rfl⟩
  have EL := Lib.hid hL
  have FL : Hid (Fit L) := Lib.hid (Nat.lt_trans (show L < z by rw [← hL]; exact Nat.mod_lt _ hz0) HFz.out)
  obtain ⟨p, hp⟩ : ∃ n, v * x % z = n := ⟨_, rfl⟩
  have Ep := Lib.hid hp
  have Fp : Hid (Fit p) := Lib.hid (Nat.lt_trans (show p < z by rw [← hp]; exact Nat.mod_lt _ hz0) HFz.out)
  obtain ⟨q, hq⟩ : ∃ n, v * y % z = n := ⟨_, rfl⟩
  have Eq := Lib.hid hq
  have Fq : Hid (Fit q) := Lib.hid (Nat.lt_trans (show q < z by rw [← hq]; exact Nat.mod_lt _ hz0) HFz.out)
  obtain ⟨r1, hr1⟩ : ∃ n, p * y % z = n := ⟨_, rfl⟩
  have Er1 := Lib.hid hr1
  have Fr1 : Hid (Fit r1) := Lib.hid (Nat.lt_trans (show r1 < z by rw [← hr1]; exact Nat.mod_lt _ hz0) HFz.out)
  obtain ⟨xy, hxy⟩ : ∃ n, x * y % z = n := ⟨_, rfl⟩
  have Exy := Lib.hid hxy
  have Fxy : Hid (Fit xy) := Lib.hid (Nat.lt_trans (show xy < z by rw [← hxy]; exact Nat.mod_lt _ hz0) HFz.out)
  obtain ⟨d, hd⟩ : ∃ n, (x % z + z - y % z) % z = n := ⟨_, rfl⟩
  have Ed := Lib.hid hd
  have Fd : Hid (Fit d) := Lib.hid (Nat.lt_trans (show d < z by rw [← hd]; exact Nat.mod_lt _ hz0) HFz.out)
  obtain ⟨t, ht⟩ : ∃ n, x % z = n := ⟨_, rfl⟩
  have Et := Lib.hid ht
  have Ft : Hid (Fit t) := Lib.hid (Nat.lt_trans (show t < z by rw [← ht]; exact Nat.mod_lt _ hz0) HFz.out)
  obtain ⟨u, hu⟩ : ∃ n, x ^ nn % z = n := ⟨_, rfl⟩
  have Eu := Lib.hid hu
  have Fu : Hid (Fit u) := Lib.hid (Nat.lt_trans (show u < z by rw [← hu]; exact Nat.mod_lt _ hz0) HFz.out)
  obtain ⟨v2, hv2⟩ : ∃ n, t ^ kk % z = n := ⟨_, rfl⟩
  have Ev2 := Lib.hid hv2
  have Fv2 : Hid (Fit v2) := Lib.hid (Nat.lt_trans (show v2 < z by rw [← hv2]; exact Nat.mod_lt _ hz0) HFz.out)
  obtain ⟨bo, hbo⟩ : ∃ n, x ^ (nn + kk) % z = n := ⟨_, rfl⟩
  have Ebo := Lib.hid hbo
  have Fbo : Hid (Fit bo) := Lib.hid (Nat.lt_trans (show bo < z by rw [← hbo]; exact Nat.mod_lt _ hz0) HFz.out)
  have ER : Hid ((p + q) % z = L) := Lib.hid (by rw [← hp, ← hq, ← hL, ← hS]; exact hd_dist)
  have EW : Hid (v * xy % z = r1) := Lib.hid (by rw [← hxy, ← hr1, ← hp]; exact hd_assoc)
  have EB : Hid ((d + y) % z = t) := Lib.hid (by rw [← hd, ← ht]; exact hd_back hz0)
  have EP : Hid (u * v2 % z = bo) := Lib.hid (by rw [← hu, ← hv2, ← hbo, ← ht]; exact hd_pow)
  have EC : Hid (cmpI t z = -1) := Lib.hid (by unfold cmpI; rw [if_pos (by rw [← ht]; exact Nat.mod_lt _ hz0)])
  obtain ⟨ss, hss⟩ : ∃ s, nn + kk = s := ⟨_, rfl⟩
  have HSUM : Hid (IntKind.i64.wrap ((nn : Int) + (kk : Int)) = (ss : Int)) := Lib.hid (by rw [IntKind.wrap_i64]; omega)
  rw [hss] at hbo
  have EBO : Hid (x ^ ss % z = bo) := Lib.hid hbo
  have Knn : Hid (∀ W, Calls Try.prog 22 #[.int .i64 (nn : Int)] W fun e w' => e = .returned (.agg (natA nn)) ∧ Below W.heap.size W w') := Lib.hid (fun W => number_ok (n := nn) W (by omega))
  have Kkk : Hid (∀ W, Calls Try.prog 22 #[.int .i64 (kk : Int)] W fun e w' => e = .returned (.agg (natA kk)) ∧ Below W.heap.size W w') := Lib.hid (fun W => number_ok (n := kk) W (by omega))
  have Kss : Hid (∀ W, Calls Try.prog 22 #[.int .i64 (ss : Int)] W fun e w' => e = .returned (.agg (natA ss)) ∧ Below W.heap.size W w') := Lib.hid (fun W => number_ok (n := ss) W (by omega))
  have Fnn : Hid (Fit nn) := Lib.hid (small_fit2 (by omega))
  have Fkk : Hid (Fit kk) := Lib.hid (small_fit2 (by omega))
  have Fss : Hid (Fit ss) := Lib.hid (small_fit2 (by omega))
  clear ha hb hc hm la lb lc lm ex ey ev ez h0 hz0 hss hn hk Ebo hS hL hp hq hr1 hxy hd ht hu hv2 hbo
  go_enter Try.func4, Try.ntmps4
  go_wp2_with fail
  refine (made2_ok _ _ Hm.out HLz.out HEz.out HFz.out).mono ?_
  rintro e p1 ⟨rfl, hb⟩
  have XT0_1 := Lib.hid (NatAt.zero p1)
  have XA_1 := Lib.hid (below_zero hb hb.size)
  have hsz_1 := Lib.hid hb.size
  clear hb
  go_wp2_with (first | go_skip | (refine wpl_stN ntNat rfl rfl rfl rfl XT0_1.out ?_; intro q1 hn hg; have XB0_1 := Lib.hid (XA_1.out.grown hg XA_1.out.size (fun j e => by injection e with e; rw [← e]; have := hsz_1.out; omega)); have XS00_1 := Lib.hid hn; have A_1 := Lib.hid (Ha.out.below XB0_1.out); have B_1 := Lib.hid (Hb.out.below XB0_1.out); have C_1 := Lib.hid (Hc.out.below XB0_1.out); have M_1 := Lib.hid (Hm.out.below XB0_1.out); have W_1 := Lib.hid (XB0_1.out); have z_1 := XS00_1; clear hn hg Ha Hb Hc Hm XT0_1 XA_1 XS00_1 XB0_1 hsz_1) | (refine wpl_ldN ntNat rfl rfl rfl z_1.out ?_) | (refine wpl_ldN_g ntNat ?hw rfl rfl z_1.out ?_; (case hw => rfl)))
  refine (isZero_ok _ HFz.out (c := false) (by simp [H0.out])).mono ?_
  rintro e p2 ⟨rfl, hb⟩
  have A_2 := Lib.hid (A_1.out.below hb)
  have B_2 := Lib.hid (B_1.out.below hb)
  have C_2 := Lib.hid (C_1.out.below hb)
  have M_2 := Lib.hid (M_1.out.below hb)
  have z_2 := Lib.hid (z_1.out.below hb)
  have W_2 := Lib.hid (W_1.out.trans (hb.mono W_1.out.size))
  clear hb A_1 B_1 C_1 M_1 z_1 W_1
  go_wp2_with (first | go_skip | (refine wpl_ldN ntNat rfl rfl rfl z_2.out ?_) | (refine wpl_ldN_g ntNat ?hw rfl rfl z_2.out ?_; (case hw => rfl)))
  refine (made2_ok _ _ A_2.out HLx.out HEx.out HFx.out).mono ?_
  rintro e p3 ⟨rfl, hb⟩
  have A_3 := Lib.hid (A_2.out.below hb)
  have B_3 := Lib.hid (B_2.out.below hb)
  have C_3 := Lib.hid (C_2.out.below hb)
  have M_3 := Lib.hid (M_2.out.below hb)
  have z_3 := Lib.hid (z_2.out.below hb)
  have W_3 := Lib.hid (W_2.out.trans (hb.mono W_2.out.size))
  clear hb A_2 B_2 C_2 M_2 z_2 W_2
  go_wp2_with (first | go_skip | (refine wpl_ldN ntNat rfl rfl rfl z_3.out ?_) | (refine wpl_ldN_g ntNat ?hw rfl rfl z_3.out ?_; (case hw => rfl)))
  refine (made2_ok _ _ B_3.out HLy.out HEy.out HFy.out).mono ?_
  rintro e p4 ⟨rfl, hb⟩
  have A_4 := Lib.hid (A_3.out.below hb)
  have B_4 := Lib.hid (B_3.out.below hb)
  have C_4 := Lib.hid (C_3.out.below hb)
  have M_4 := Lib.hid (M_3.out.below hb)
  have z_4 := Lib.hid (z_3.out.below hb)
  have W_4 := Lib.hid (W_3.out.trans (hb.mono W_3.out.size))
  clear hb A_3 B_3 C_3 M_3 z_3 W_3
  go_wp2_with (first | go_skip | (refine wpl_ldN ntNat rfl rfl rfl z_4.out ?_) | (refine wpl_ldN_g ntNat ?hw rfl rfl z_4.out ?_; (case hw => rfl)))
  refine (made2_ok _ _ C_4.out HLv.out HEv.out HFv.out).mono ?_
  rintro e p5 ⟨rfl, hb⟩
  have XT0_5 := Lib.hid (NatAt.z3A p5)
  have XT1_5 := Lib.hid (NatAt.z3B p5)
  have XT2_5 := Lib.hid (NatAt.z3C p5)
  have XA_5 := Lib.hid (below_z3 hb hb.size)
  have hsz_5 := Lib.hid hb.size
  clear hb
  go_wp2_with (first | go_skip | (refine wpl_stN ntNat rfl rfl rfl rfl XT0_5.out ?_; intro r5_0 hn hg; have XB0_5 := Lib.hid (XA_5.out.grown hg XA_5.out.size (fun j e => by injection e with e; rw [← e]; have := hsz_5.out; omega)); have XS00_5 := Lib.hid hn; have XS01_5 := Lib.hid (XT1_5.out.grown hg (fun e => by injection e with e; omega)); have XS02_5 := Lib.hid (XT2_5.out.grown hg (fun e => by injection e with e; omega)); clear hn hg XT0_5 XT1_5 XT2_5 XA_5) | (refine wpl_stN ntNat rfl rfl rfl rfl XS01_5.out ?_; intro r5_1 hn hg; have XB1_5 := Lib.hid (XB0_5.out.grown hg XB0_5.out.size (fun j e => by injection e with e; rw [← e]; have := hsz_5.out; omega)); have XS10_5 := Lib.hid (XS00_5.out.grown hg (fun e => by injection e with e; omega)); have XS11_5 := Lib.hid hn; have XS12_5 := Lib.hid (XS02_5.out.grown hg (fun e => by injection e with e; omega)); clear hn hg XS00_5 XS01_5 XS02_5 XB0_5) | (refine wpl_stN ntNat rfl rfl rfl rfl XS12_5.out ?_; intro q5 hn hg; have XB2_5 := Lib.hid (XB1_5.out.grown hg XB1_5.out.size (fun j e => by injection e with e; rw [← e]; have := hsz_5.out; omega)); have XS20_5 := Lib.hid (XS10_5.out.grown hg (fun e => by injection e with e; omega)); have XS21_5 := Lib.hid (XS11_5.out.grown hg (fun e => by injection e with e; omega)); have XS22_5 := Lib.hid hn; have A_5 := Lib.hid (A_4.out.below XB2_5.out); have B_5 := Lib.hid (B_4.out.below XB2_5.out); have C_5 := Lib.hid (C_4.out.below XB2_5.out); have M_5 := Lib.hid (M_4.out.below XB2_5.out); have z_5 := Lib.hid (z_4.out.below XB2_5.out); have W_5 := Lib.hid (W_4.out.trans (XB2_5.out.mono W_4.out.size)); have x_5 := XS20_5; have y_5 := XS21_5; have v_5 := XS22_5; clear hn hg A_4 B_4 C_4 M_4 z_4 W_4 XS10_5 XS11_5 XS12_5 XB1_5 XS20_5 XS21_5 XS22_5 XB2_5 hsz_5) | (refine wpl_ldN ntNat rfl rfl rfl z_5.out ?_) | (refine wpl_ldN_g ntNat ?hw rfl rfl z_5.out ?_; (case hw => rfl)) | (refine wpl_ldN ntNat rfl rfl rfl x_5.out ?_) | (refine wpl_ldN_g ntNat ?hw rfl rfl x_5.out ?_; (case hw => rfl)) | (refine wpl_ldN ntNat rfl rfl rfl y_5.out ?_) | (refine wpl_ldN_g ntNat ?hw rfl rfl y_5.out ?_; (case hw => rfl)) | (refine wpl_ldN ntNat rfl rfl rfl v_5.out ?_) | (refine wpl_ldN_g ntNat ?hw rfl rfl v_5.out ?_; (case hw => rfl)))
  clear A_5
  clear B_5
  clear C_5
  clear M_5
  refine (madd_ok _ HFz.out H0.out HFx.out HFy.out ES.out).mono ?_
  rintro e p6 ⟨rfl, hb⟩
  have XT0_6 := Lib.hid (NatAt.zero p6)
  have XA_6 := Lib.hid (below_zero hb hb.size)
  have hsz_6 := Lib.hid hb.size
  clear hb
  go_wp2_with (first | go_skip | (refine wpl_stN ntNat rfl rfl rfl rfl XT0_6.out ?_; intro q6 hn hg; have XB0_6 := Lib.hid (XA_6.out.grown hg XA_6.out.size (fun j e => by injection e with e; rw [← e]; have := hsz_6.out; omega)); have XS00_6 := Lib.hid hn; have z_6 := Lib.hid (z_5.out.below XB0_6.out); have x_6 := Lib.hid (x_5.out.below XB0_6.out); have y_6 := Lib.hid (y_5.out.below XB0_6.out); have v_6 := Lib.hid (v_5.out.below XB0_6.out); have W_6 := Lib.hid (W_5.out.trans (XB0_6.out.mono W_5.out.size)); have S_6 := XS00_6; clear hn hg z_5 x_5 y_5 v_5 W_5 XT0_6 XA_6 XS00_6 XB0_6 hsz_6) | (refine wpl_ldN ntNat rfl rfl rfl z_6.out ?_) | (refine wpl_ldN_g ntNat ?hw rfl rfl z_6.out ?_; (case hw => rfl)) | (refine wpl_ldN ntNat rfl rfl rfl x_6.out ?_) | (refine wpl_ldN_g ntNat ?hw rfl rfl x_6.out ?_; (case hw => rfl)) | (refine wpl_ldN ntNat rfl rfl rfl y_6.out ?_) | (refine wpl_ldN_g ntNat ?hw rfl rfl y_6.out ?_; (case hw => rfl)) | (refine wpl_ldN ntNat rfl rfl rfl v_6.out ?_) | (refine wpl_ldN_g ntNat ?hw rfl rfl v_6.out ?_; (case hw => rfl)) | (refine wpl_ldN ntNat rfl rfl rfl S_6.out ?_) | (refine wpl_ldN_g ntNat ?hw rfl rfl S_6.out ?_; (case hw => rfl)))
  refine (mmul_ok _ HFz.out H0.out HFv.out FS.out EL.out).mono ?_
  rintro e p7 ⟨rfl, hb⟩
  have XT0_7 := Lib.hid (NatAt.zero p7)
  have XA_7 := Lib.hid (below_zero hb hb.size)
  have hsz_7 := Lib.hid hb.size
  clear hb
  go_wp2_with (first | go_skip | (refine wpl_stN ntNat rfl rfl rfl rfl XT0_7.out ?_; intro q7 hn hg; have XB0_7 := Lib.hid (XA_7.out.grown hg XA_7.out.size (fun j e => by injection e with e; rw [← e]; have := hsz_7.out; omega)); have XS00_7 := Lib.hid hn; have z_7 := Lib.hid (z_6.out.below XB0_7.out); have x_7 := Lib.hid (x_6.out.below XB0_7.out); have y_7 := Lib.hid (y_6.out.below XB0_7.out); have v_7 := Lib.hid (v_6.out.below XB0_7.out); have S_7 := Lib.hid (S_6.out.below XB0_7.out); have W_7 := Lib.hid (W_6.out.trans (XB0_7.out.mono W_6.out.size)); have L_7 := XS00_7; clear hn hg z_6 x_6 y_6 v_6 S_6 W_6 XT0_7 XA_7 XS00_7 XB0_7 hsz_7) | (refine wpl_ldN ntNat rfl rfl rfl z_7.out ?_) | (refine wpl_ldN_g ntNat ?hw rfl rfl z_7.out ?_; (case hw => rfl)) | (refine wpl_ldN ntNat rfl rfl rfl x_7.out ?_) | (refine wpl_ldN_g ntNat ?hw rfl rfl x_7.out ?_; (case hw => rfl)) | (refine wpl_ldN ntNat rfl rfl rfl y_7.out ?_) | (refine wpl_ldN_g ntNat ?hw rfl rfl y_7.out ?_; (case hw => rfl)) | (refine wpl_ldN ntNat rfl rfl rfl v_7.out ?_) | (refine wpl_ldN_g ntNat ?hw rfl rfl v_7.out ?_; (case hw => rfl)) | (refine wpl_ldN ntNat rfl rfl rfl S_7.out ?_) | (refine wpl_ldN_g ntNat ?hw rfl rfl S_7.out ?_; (case hw => rfl)) | (refine wpl_ldN ntNat rfl rfl rfl L_7.out ?_) | (refine wpl_ldN_g ntNat ?hw rfl rfl L_7.out ?_; (case hw => rfl)))
  clear S_7
  refine (mmul_ok _ HFz.out H0.out HFv.out HFx.out Ep.out).mono ?_
  rintro e p8 ⟨rfl, hb⟩
  have XT0_8 := Lib.hid (NatAt.zero p8)
  have XA_8 := Lib.hid (below_zero hb hb.size)
  have hsz_8 := Lib.hid hb.size
  clear hb
  go_wp2_with (first | go_skip | (refine wpl_stN ntNat rfl rfl rfl rfl XT0_8.out ?_; intro q8 hn hg; have XB0_8 := Lib.hid (XA_8.out.grown hg XA_8.out.size (fun j e => by injection e with e; rw [← e]; have := hsz_8.out; omega)); have XS00_8 := Lib.hid hn; have z_8 := Lib.hid (z_7.out.below XB0_8.out); have x_8 := Lib.hid (x_7.out.below XB0_8.out); have y_8 := Lib.hid (y_7.out.below XB0_8.out); have v_8 := Lib.hid (v_7.out.below XB0_8.out); have L_8 := Lib.hid (L_7.out.below XB0_8.out); have W_8 := Lib.hid (W_7.out.trans (XB0_8.out.mono W_7.out.size)); have p_8 := XS00_8; clear hn hg z_7 x_7 y_7 v_7 L_7 W_7 XT0_8 XA_8 XS00_8 XB0_8 hsz_8) | (refine wpl_ldN ntNat rfl rfl rfl z_8.out ?_) | (refine wpl_ldN_g ntNat ?hw rfl rfl z_8.out ?_; (case hw => rfl)) | (refine wpl_ldN ntNat rfl rfl rfl x_8.out ?_) | (refine wpl_ldN_g ntNat ?hw rfl rfl x_8.out ?_; (case hw => rfl)) | (refine wpl_ldN ntNat rfl rfl rfl y_8.out ?_) | (refine wpl_ldN_g ntNat ?hw rfl rfl y_8.out ?_; (case hw => rfl)) | (refine wpl_ldN ntNat rfl rfl rfl v_8.out ?_) | (refine wpl_ldN_g ntNat ?hw rfl rfl v_8.out ?_; (case hw => rfl)) | (refine wpl_ldN ntNat rfl rfl rfl L_8.out ?_) | (refine wpl_ldN_g ntNat ?hw rfl rfl L_8.out ?_; (case hw => rfl)) | (refine wpl_ldN ntNat rfl rfl rfl p_8.out ?_) | (refine wpl_ldN_g ntNat ?hw rfl rfl p_8.out ?_; (case hw => rfl)))
  refine (mmul_ok _ HFz.out H0.out HFv.out HFy.out Eq.out).mono ?_
  rintro e p9 ⟨rfl, hb⟩
  have XT0_9 := Lib.hid (NatAt.zero p9)
  have XA_9 := Lib.hid (below_zero hb hb.size)
  have hsz_9 := Lib.hid hb.size
  clear hb
  go_wp2_with (first | go_skip | (refine wpl_stN ntNat rfl rfl rfl rfl XT0_9.out ?_; intro q9 hn hg; have XB0_9 := Lib.hid (XA_9.out.grown hg XA_9.out.size (fun j e => by injection e with e; rw [← e]; have := hsz_9.out; omega)); have XS00_9 := Lib.hid hn; have z_9 := Lib.hid (z_8.out.below XB0_9.out); have x_9 := Lib.hid (x_8.out.below XB0_9.out); have y_9 := Lib.hid (y_8.out.below XB0_9.out); have v_9 := Lib.hid (v_8.out.below XB0_9.out); have L_9 := Lib.hid (L_8.out.below XB0_9.out); have p_9 := Lib.hid (p_8.out.below XB0_9.out); have W_9 := Lib.hid (W_8.out.trans (XB0_9.out.mono W_8.out.size)); have q_9 := XS00_9; clear hn hg z_8 x_8 y_8 v_8 L_8 p_8 W_8 XT0_9 XA_9 XS00_9 XB0_9 hsz_9) | (refine wpl_ldN ntNat rfl rfl rfl z_9.out ?_) | (refine wpl_ldN_g ntNat ?hw rfl rfl z_9.out ?_; (case hw => rfl)) | (refine wpl_ldN ntNat rfl rfl rfl x_9.out ?_) | (refine wpl_ldN_g ntNat ?hw rfl rfl x_9.out ?_; (case hw => rfl)) | (refine wpl_ldN ntNat rfl rfl rfl y_9.out ?_) | (refine wpl_ldN_g ntNat ?hw rfl rfl y_9.out ?_; (case hw => rfl)) | (refine wpl_ldN ntNat rfl rfl rfl v_9.out ?_) | (refine wpl_ldN_g ntNat ?hw rfl rfl v_9.out ?_; (case hw => rfl)) | (refine wpl_ldN ntNat rfl rfl rfl L_9.out ?_) | (refine wpl_ldN_g ntNat ?hw rfl rfl L_9.out ?_; (case hw => rfl)) | (refine wpl_ldN ntNat rfl rfl rfl p_9.out ?_) | (refine wpl_ldN_g ntNat ?hw rfl rfl p_9.out ?_; (case hw => rfl)) | (refine wpl_ldN ntNat rfl rfl rfl q_9.out ?_) | (refine wpl_ldN_g ntNat ?hw rfl rfl q_9.out ?_; (case hw => rfl)))
  refine (madd_ok _ HFz.out H0.out Fp.out Fq.out ER.out).mono ?_
  rintro e p10 ⟨rfl, hb⟩
  have XT0_10 := Lib.hid (NatAt.zero p10)
  have XA_10 := Lib.hid (below_zero hb hb.size)
  have hsz_10 := Lib.hid hb.size
  clear hb
  go_wp2_with (first | go_skip | (refine wpl_stN ntNat rfl rfl rfl rfl XT0_10.out ?_; intro q10 hn hg; have XB0_10 := Lib.hid (XA_10.out.grown hg XA_10.out.size (fun j e => by injection e with e; rw [← e]; have := hsz_10.out; omega)); have XS00_10 := Lib.hid hn; have z_10 := Lib.hid (z_9.out.below XB0_10.out); have x_10 := Lib.hid (x_9.out.below XB0_10.out); have y_10 := Lib.hid (y_9.out.below XB0_10.out); have v_10 := Lib.hid (v_9.out.below XB0_10.out); have L_10 := Lib.hid (L_9.out.below XB0_10.out); have p_10 := Lib.hid (p_9.out.below XB0_10.out); have q_10 := Lib.hid (q_9.out.below XB0_10.out); have W_10 := Lib.hid (W_9.out.trans (XB0_10.out.mono W_9.out.size)); have R_10 := XS00_10; clear hn hg z_9 x_9 y_9 v_9 L_9 p_9 q_9 W_9 XT0_10 XA_10 XS00_10 XB0_10 hsz_10) | (refine wpl_ldN ntNat rfl rfl rfl z_10.out ?_) | (refine wpl_ldN_g ntNat ?hw rfl rfl z_10.out ?_; (case hw => rfl)) | (refine wpl_ldN ntNat rfl rfl rfl x_10.out ?_) | (refine wpl_ldN_g ntNat ?hw rfl rfl x_10.out ?_; (case hw => rfl)) | (refine wpl_ldN ntNat rfl rfl rfl y_10.out ?_) | (refine wpl_ldN_g ntNat ?hw rfl rfl y_10.out ?_; (case hw => rfl)) | (refine wpl_ldN ntNat rfl rfl rfl v_10.out ?_) | (refine wpl_ldN_g ntNat ?hw rfl rfl v_10.out ?_; (case hw => rfl)) | (refine wpl_ldN ntNat rfl rfl rfl L_10.out ?_) | (refine wpl_ldN_g ntNat ?hw rfl rfl L_10.out ?_; (case hw => rfl)) | (refine wpl_ldN ntNat rfl rfl rfl p_10.out ?_) | (refine wpl_ldN_g ntNat ?hw rfl rfl p_10.out ?_; (case hw => rfl)) | (refine wpl_ldN ntNat rfl rfl rfl q_10.out ?_) | (refine wpl_ldN_g ntNat ?hw rfl rfl q_10.out ?_; (case hw => rfl)) | (refine wpl_ldN ntNat rfl rfl rfl R_10.out ?_) | (refine wpl_ldN_g ntNat ?hw rfl rfl R_10.out ?_; (case hw => rfl)) | (refine wpl_neN (v := false) ?hw rfl rfl rfl ?ha ?hb ?hv ?_; (case hw => rfl); (case ha => (with_reducible (first | exact FL.out | exact Fr1.out | exact Ft.out | exact Fbo.out))); (case hb => (with_reducible (first | exact FL.out | exact Fr1.out | exact Ft.out | exact Fbo.out))); (case hv => simp)) | (refine wpl_eqN (v := true) ?hw rfl rfl rfl ?ha ?hb ?hv ?_; (case hw => rfl); (case ha => (with_reducible (first | exact FL.out | exact Fr1.out | exact Ft.out | exact Fbo.out))); (case hb => (with_reducible (first | exact FL.out | exact Fr1.out | exact Ft.out | exact Fbo.out))); (case hv => simp)))
  clear L_10
  clear q_10
  clear R_10
  refine (mmul_ok _ HFz.out H0.out Fp.out HFy.out Er1.out).mono ?_
  rintro e p11 ⟨rfl, hb⟩
  have XT0_11 := Lib.hid (NatAt.zero p11)
  have XA_11 := Lib.hid (below_zero hb hb.size)
  have hsz_11 := Lib.hid hb.size
  clear hb
  go_wp2_with (first | go_skip | (refine wpl_stN ntNat rfl rfl rfl rfl XT0_11.out ?_; intro q11 hn hg; have XB0_11 := Lib.hid (XA_11.out.grown hg XA_11.out.size (fun j e => by injection e with e; rw [← e]; have := hsz_11.out; omega)); have XS00_11 := Lib.hid hn; have z_11 := Lib.hid (z_10.out.below XB0_11.out); have x_11 := Lib.hid (x_10.out.below XB0_11.out); have y_11 := Lib.hid (y_10.out.below XB0_11.out); have v_11 := Lib.hid (v_10.out.below XB0_11.out); have p_11 := Lib.hid (p_10.out.below XB0_11.out); have W_11 := Lib.hid (W_10.out.trans (XB0_11.out.mono W_10.out.size)); have r1_11 := XS00_11; clear hn hg z_10 x_10 y_10 v_10 p_10 W_10 XT0_11 XA_11 XS00_11 XB0_11 hsz_11) | (refine wpl_ldN ntNat rfl rfl rfl z_11.out ?_) | (refine wpl_ldN_g ntNat ?hw rfl rfl z_11.out ?_; (case hw => rfl)) | (refine wpl_ldN ntNat rfl rfl rfl x_11.out ?_) | (refine wpl_ldN_g ntNat ?hw rfl rfl x_11.out ?_; (case hw => rfl)) | (refine wpl_ldN ntNat rfl rfl rfl y_11.out ?_) | (refine wpl_ldN_g ntNat ?hw rfl rfl y_11.out ?_; (case hw => rfl)) | (refine wpl_ldN ntNat rfl rfl rfl v_11.out ?_) | (refine wpl_ldN_g ntNat ?hw rfl rfl v_11.out ?_; (case hw => rfl)) | (refine wpl_ldN ntNat rfl rfl rfl p_11.out ?_) | (refine wpl_ldN_g ntNat ?hw rfl rfl p_11.out ?_; (case hw => rfl)) | (refine wpl_ldN ntNat rfl rfl rfl r1_11.out ?_) | (refine wpl_ldN_g ntNat ?hw rfl rfl r1_11.out ?_; (case hw => rfl)))
  clear p_11
  refine (mmul_ok _ HFz.out H0.out HFx.out HFy.out Exy.out).mono ?_
  rintro e p12 ⟨rfl, hb⟩
  have XT0_12 := Lib.hid (NatAt.zero p12)
  have XA_12 := Lib.hid (below_zero hb hb.size)
  have hsz_12 := Lib.hid hb.size
  clear hb
  go_wp2_with (first | go_skip | (refine wpl_stN ntNat rfl rfl rfl rfl XT0_12.out ?_; intro q12 hn hg; have XB0_12 := Lib.hid (XA_12.out.grown hg XA_12.out.size (fun j e => by injection e with e; rw [← e]; have := hsz_12.out; omega)); have XS00_12 := Lib.hid hn; have z_12 := Lib.hid (z_11.out.below XB0_12.out); have x_12 := Lib.hid (x_11.out.below XB0_12.out); have y_12 := Lib.hid (y_11.out.below XB0_12.out); have v_12 := Lib.hid (v_11.out.below XB0_12.out); have r1_12 := Lib.hid (r1_11.out.below XB0_12.out); have W_12 := Lib.hid (W_11.out.trans (XB0_12.out.mono W_11.out.size)); have xy_12 := XS00_12; clear hn hg z_11 x_11 y_11 v_11 r1_11 W_11 XT0_12 XA_12 XS00_12 XB0_12 hsz_12) | (refine wpl_ldN ntNat rfl rfl rfl z_12.out ?_) | (refine wpl_ldN_g ntNat ?hw rfl rfl z_12.out ?_; (case hw => rfl)) | (refine wpl_ldN ntNat rfl rfl rfl x_12.out ?_) | (refine wpl_ldN_g ntNat ?hw rfl rfl x_12.out ?_; (case hw => rfl)) | (refine wpl_ldN ntNat rfl rfl rfl y_12.out ?_) | (refine wpl_ldN_g ntNat ?hw rfl rfl y_12.out ?_; (case hw => rfl)) | (refine wpl_ldN ntNat rfl rfl rfl v_12.out ?_) | (refine wpl_ldN_g ntNat ?hw rfl rfl v_12.out ?_; (case hw => rfl)) | (refine wpl_ldN ntNat rfl rfl rfl r1_12.out ?_) | (refine wpl_ldN_g ntNat ?hw rfl rfl r1_12.out ?_; (case hw => rfl)) | (refine wpl_ldN ntNat rfl rfl rfl xy_12.out ?_) | (refine wpl_ldN_g ntNat ?hw rfl rfl xy_12.out ?_; (case hw => rfl)))
  refine (mmul_ok _ HFz.out H0.out HFv.out Fxy.out EW.out).mono ?_
  rintro e p13 ⟨rfl, hb⟩
  have XT0_13 := Lib.hid (NatAt.zero p13)
  have XA_13 := Lib.hid (below_zero hb hb.size)
  have hsz_13 := Lib.hid hb.size
  clear hb
  go_wp2_with (first | go_skip | (refine wpl_stN ntNat rfl rfl rfl rfl XT0_13.out ?_; intro q13 hn hg; have XB0_13 := Lib.hid (XA_13.out.grown hg XA_13.out.size (fun j e => by injection e with e; rw [← e]; have := hsz_13.out; omega)); have XS00_13 := Lib.hid hn; have z_13 := Lib.hid (z_12.out.below XB0_13.out); have x_13 := Lib.hid (x_12.out.below XB0_13.out); have y_13 := Lib.hid (y_12.out.below XB0_13.out); have v_13 := Lib.hid (v_12.out.below XB0_13.out); have r1_13 := Lib.hid (r1_12.out.below XB0_13.out); have xy_13 := Lib.hid (xy_12.out.below XB0_13.out); have W_13 := Lib.hid (W_12.out.trans (XB0_13.out.mono W_12.out.size)); have r2_13 := XS00_13; clear hn hg z_12 x_12 y_12 v_12 r1_12 xy_12 W_12 XT0_13 XA_13 XS00_13 XB0_13 hsz_13) | (refine wpl_ldN ntNat rfl rfl rfl z_13.out ?_) | (refine wpl_ldN_g ntNat ?hw rfl rfl z_13.out ?_; (case hw => rfl)) | (refine wpl_ldN ntNat rfl rfl rfl x_13.out ?_) | (refine wpl_ldN_g ntNat ?hw rfl rfl x_13.out ?_; (case hw => rfl)) | (refine wpl_ldN ntNat rfl rfl rfl y_13.out ?_) | (refine wpl_ldN_g ntNat ?hw rfl rfl y_13.out ?_; (case hw => rfl)) | (refine wpl_ldN ntNat rfl rfl rfl v_13.out ?_) | (refine wpl_ldN_g ntNat ?hw rfl rfl v_13.out ?_; (case hw => rfl)) | (refine wpl_ldN ntNat rfl rfl rfl r1_13.out ?_) | (refine wpl_ldN_g ntNat ?hw rfl rfl r1_13.out ?_; (case hw => rfl)) | (refine wpl_ldN ntNat rfl rfl rfl xy_13.out ?_) | (refine wpl_ldN_g ntNat ?hw rfl rfl xy_13.out ?_; (case hw => rfl)) | (refine wpl_ldN ntNat rfl rfl rfl r2_13.out ?_) | (refine wpl_ldN_g ntNat ?hw rfl rfl r2_13.out ?_; (case hw => rfl)))
  clear xy_13
  clear v_13
  refine (msub_ok _ HFz.out H0.out HFx.out HFy.out Ed.out).mono ?_
  rintro e p14 ⟨rfl, hb⟩
  have XT0_14 := Lib.hid (NatAt.zero p14)
  have XA_14 := Lib.hid (below_zero hb hb.size)
  have hsz_14 := Lib.hid hb.size
  clear hb
  go_wp2_with (first | go_skip | (refine wpl_stN ntNat rfl rfl rfl rfl XT0_14.out ?_; intro q14 hn hg; have XB0_14 := Lib.hid (XA_14.out.grown hg XA_14.out.size (fun j e => by injection e with e; rw [← e]; have := hsz_14.out; omega)); have XS00_14 := Lib.hid hn; have z_14 := Lib.hid (z_13.out.below XB0_14.out); have x_14 := Lib.hid (x_13.out.below XB0_14.out); have y_14 := Lib.hid (y_13.out.below XB0_14.out); have r1_14 := Lib.hid (r1_13.out.below XB0_14.out); have r2_14 := Lib.hid (r2_13.out.below XB0_14.out); have W_14 := Lib.hid (W_13.out.trans (XB0_14.out.mono W_13.out.size)); have d_14 := XS00_14; clear hn hg z_13 x_13 y_13 r1_13 r2_13 W_13 XT0_14 XA_14 XS00_14 XB0_14 hsz_14) | (refine wpl_ldN ntNat rfl rfl rfl z_14.out ?_) | (refine wpl_ldN_g ntNat ?hw rfl rfl z_14.out ?_; (case hw => rfl)) | (refine wpl_ldN ntNat rfl rfl rfl x_14.out ?_) | (refine wpl_ldN_g ntNat ?hw rfl rfl x_14.out ?_; (case hw => rfl)) | (refine wpl_ldN ntNat rfl rfl rfl y_14.out ?_) | (refine wpl_ldN_g ntNat ?hw rfl rfl y_14.out ?_; (case hw => rfl)) | (refine wpl_ldN ntNat rfl rfl rfl r1_14.out ?_) | (refine wpl_ldN_g ntNat ?hw rfl rfl r1_14.out ?_; (case hw => rfl)) | (refine wpl_ldN ntNat rfl rfl rfl r2_14.out ?_) | (refine wpl_ldN_g ntNat ?hw rfl rfl r2_14.out ?_; (case hw => rfl)) | (refine wpl_ldN ntNat rfl rfl rfl d_14.out ?_) | (refine wpl_ldN_g ntNat ?hw rfl rfl d_14.out ?_; (case hw => rfl)))
  refine (madd_ok _ HFz.out H0.out Fd.out HFy.out EB.out).mono ?_
  rintro e p15 ⟨rfl, hb⟩
  have XT0_15 := Lib.hid (NatAt.zero p15)
  have XA_15 := Lib.hid (below_zero hb hb.size)
  have hsz_15 := Lib.hid hb.size
  clear hb
  go_wp2_with (first | go_skip | (refine wpl_stN ntNat rfl rfl rfl rfl XT0_15.out ?_; intro q15 hn hg; have XB0_15 := Lib.hid (XA_15.out.grown hg XA_15.out.size (fun j e => by injection e with e; rw [← e]; have := hsz_15.out; omega)); have XS00_15 := Lib.hid hn; have z_15 := Lib.hid (z_14.out.below XB0_15.out); have x_15 := Lib.hid (x_14.out.below XB0_15.out); have y_15 := Lib.hid (y_14.out.below XB0_15.out); have r1_15 := Lib.hid (r1_14.out.below XB0_15.out); have r2_15 := Lib.hid (r2_14.out.below XB0_15.out); have d_15 := Lib.hid (d_14.out.below XB0_15.out); have W_15 := Lib.hid (W_14.out.trans (XB0_15.out.mono W_14.out.size)); have ba_15 := XS00_15; clear hn hg z_14 x_14 y_14 r1_14 r2_14 d_14 W_14 XT0_15 XA_15 XS00_15 XB0_15 hsz_15) | (refine wpl_ldN ntNat rfl rfl rfl z_15.out ?_) | (refine wpl_ldN_g ntNat ?hw rfl rfl z_15.out ?_; (case hw => rfl)) | (refine wpl_ldN ntNat rfl rfl rfl x_15.out ?_) | (refine wpl_ldN_g ntNat ?hw rfl rfl x_15.out ?_; (case hw => rfl)) | (refine wpl_ldN ntNat rfl rfl rfl y_15.out ?_) | (refine wpl_ldN_g ntNat ?hw rfl rfl y_15.out ?_; (case hw => rfl)) | (refine wpl_ldN ntNat rfl rfl rfl r1_15.out ?_) | (refine wpl_ldN_g ntNat ?hw rfl rfl r1_15.out ?_; (case hw => rfl)) | (refine wpl_ldN ntNat rfl rfl rfl r2_15.out ?_) | (refine wpl_ldN_g ntNat ?hw rfl rfl r2_15.out ?_; (case hw => rfl)) | (refine wpl_ldN ntNat rfl rfl rfl d_15.out ?_) | (refine wpl_ldN_g ntNat ?hw rfl rfl d_15.out ?_; (case hw => rfl)) | (refine wpl_ldN ntNat rfl rfl rfl ba_15.out ?_) | (refine wpl_ldN_g ntNat ?hw rfl rfl ba_15.out ?_; (case hw => rfl)))
  clear d_15
  clear y_15
  refine (mred_ok _ HFz.out H0.out HFx.out Et.out).mono ?_
  rintro e p16 ⟨rfl, hb⟩
  have XT0_16 := Lib.hid (NatAt.zero p16)
  have XA_16 := Lib.hid (below_zero hb hb.size)
  have hsz_16 := Lib.hid hb.size
  clear hb
  go_wp2_with (first | go_skip | (refine wpl_stN ntNat rfl rfl rfl rfl XT0_16.out ?_; intro q16 hn hg; have XB0_16 := Lib.hid (XA_16.out.grown hg XA_16.out.size (fun j e => by injection e with e; rw [← e]; have := hsz_16.out; omega)); have XS00_16 := Lib.hid hn; have z_16 := Lib.hid (z_15.out.below XB0_16.out); have x_16 := Lib.hid (x_15.out.below XB0_16.out); have r1_16 := Lib.hid (r1_15.out.below XB0_16.out); have r2_16 := Lib.hid (r2_15.out.below XB0_16.out); have ba_16 := Lib.hid (ba_15.out.below XB0_16.out); have W_16 := Lib.hid (W_15.out.trans (XB0_16.out.mono W_15.out.size)); have t_16 := XS00_16; clear hn hg z_15 x_15 r1_15 r2_15 ba_15 W_15 XT0_16 XA_16 XS00_16 XB0_16 hsz_16) | (refine wpl_ldN ntNat rfl rfl rfl z_16.out ?_) | (refine wpl_ldN_g ntNat ?hw rfl rfl z_16.out ?_; (case hw => rfl)) | (refine wpl_ldN ntNat rfl rfl rfl x_16.out ?_) | (refine wpl_ldN_g ntNat ?hw rfl rfl x_16.out ?_; (case hw => rfl)) | (refine wpl_ldN ntNat rfl rfl rfl r1_16.out ?_) | (refine wpl_ldN_g ntNat ?hw rfl rfl r1_16.out ?_; (case hw => rfl)) | (refine wpl_ldN ntNat rfl rfl rfl r2_16.out ?_) | (refine wpl_ldN_g ntNat ?hw rfl rfl r2_16.out ?_; (case hw => rfl)) | (refine wpl_ldN ntNat rfl rfl rfl ba_16.out ?_) | (refine wpl_ldN_g ntNat ?hw rfl rfl ba_16.out ?_; (case hw => rfl)) | (refine wpl_ldN ntNat rfl rfl rfl t_16.out ?_) | (refine wpl_ldN_g ntNat ?hw rfl rfl t_16.out ?_; (case hw => rfl)) | (refine wpl_neN (v := false) ?hw rfl rfl rfl ?ha ?hb ?hv ?_; (case hw => rfl); (case ha => (with_reducible (first | exact FL.out | exact Fr1.out | exact Ft.out | exact Fbo.out))); (case hb => (with_reducible (first | exact FL.out | exact Fr1.out | exact Ft.out | exact Fbo.out))); (case hv => simp)) | (refine wpl_eqN (v := true) ?hw rfl rfl rfl ?ha ?hb ?hv ?_; (case hw => rfl); (case ha => (with_reducible (first | exact FL.out | exact Fr1.out | exact Ft.out | exact Fbo.out))); (case hb => (with_reducible (first | exact FL.out | exact Fr1.out | exact Ft.out | exact Fbo.out))); (case hv => simp)))
  clear r1_16
  clear r2_16
  clear ba_16
  refine (compare_ok _ Ft.out HFz.out EC.out).mono ?_
  rintro e p17 ⟨rfl, hb⟩
  have z_17 := Lib.hid (z_16.out.below hb)
  have x_17 := Lib.hid (x_16.out.below hb)
  have t_17 := Lib.hid (t_16.out.below hb)
  have W_17 := Lib.hid (W_16.out.trans (hb.mono W_16.out.size))
  clear hb z_16 x_16 t_16 W_16
  go_upto_region 20 with (first | go_skip | (refine wpl_ldN ntNat rfl rfl rfl z_17.out ?_) | (refine wpl_ldN_g ntNat ?hw rfl rfl z_17.out ?_; (case hw => rfl)) | (refine wpl_ldN ntNat rfl rfl rfl x_17.out ?_) | (refine wpl_ldN_g ntNat ?hw rfl rfl x_17.out ?_; (case hw => rfl)) | (refine wpl_ldN ntNat rfl rfl rfl t_17.out ?_) | (refine wpl_ldN_g ntNat ?hw rfl rfl t_17.out ?_; (case hw => rfl)))
  try simp only [Act.put, List.setIfInBounds_toArray, List.set_cons_zero, List.set_cons_succ]
  go_cut [39, 40] from 231 to 238 (fun x y wx => ∃ B, x = .pointer (some ⟨B, 0, none⟩) ∧ y = .int .i64 0 ∧ NatAt wx B u ∧ Below p17.heap.size p17 wx)
  case first =>
    have hRR : ∀ w9 : World, Below p17.heap.size w9 w9 := fun _ => Below.refl _ _
    have hRT : ∀ x y z : World, Below p17.heap.size x y → Below p17.heap.size y z → Below p17.heap.size x z := fun _ _ _ h1 h2 => h1.trans h2
    refine region_begin (fun x y => Below p17.heap.size x y) 11 (by kernel_rfl) (by kernel_rfl) ?_
    have BX : Hid (Below p17.heap.size p17 p17.drew) := Lib.hid (Below.refl p17.heap.size p17).drew
    have YY_x := Lib.hid x_17.out.drew
    have LT_x := Lib.hid x_17.out.lt
    have YY_z := Lib.hid z_17.out.drew
    have LT_z := Lib.hid z_17.out.lt
    clear z_17 x_17 t_17 W_17
    generalize p17.drew = tq0 at BX YY_x YY_z ⊢
    refine anyR_at (o := ?_) (i := 0) ?_ ?_
    rotate_left
    · (conv => (lhs; whnf; arg 1; whnf))
    refine anyR_y hRR hRT (by kernel_rfl) (v := ?_) (by kernel_rfl) (by rfl) (fun W hW => ?_) ?_
    rotate_left
    · (refine exec_ldN (x := .tmp 14) ntNat ?_ ?_ (natAt_below (N := p17.heap.size) YY_x.out hW LT_x.out)) <;> rfl
    try simp only [Act.put, List.setIfInBounds_toArray, List.set_cons_zero, List.set_cons_succ]
    refine anyR_at (o := ?_) (i := 1) ?_ ?_
    rotate_left
    · (conv => (lhs; whnf; arg 1; whnf))
    refine anyR_y hRR hRT (by kernel_rfl) (v := ?_) (by kernel_rfl) (by rfl) (fun W hW => ?_) ?_
    rotate_left
    · go_simp; try with_reducible rfl
    try simp only [Act.put, List.setIfInBounds_toArray, List.set_cons_zero, List.set_cons_succ]
    refine anyR_at (o := ?_) (i := 3) ?_ ?_
    rotate_left
    · (conv => (lhs; whnf; arg 1; whnf))
    refine anyR_y hRR hRT (by kernel_rfl) (v := ?_) (by kernel_rfl) (by rfl) (fun W hW => ?_) ?_
    rotate_left
    · (refine exec_ldN (x := .tmp 13) ntNat ?_ ?_ (natAt_below (N := p17.heap.size) YY_z.out hW LT_z.out)) <;> rfl
    try simp only [Act.put, List.setIfInBounds_toArray, List.set_cons_zero, List.set_cons_succ]
    refine anyR_branch [2, 8] (by kernel_rfl) rfl ?_
    refine brs_cons (o := ?_) ?_ ?_ ?_
    rotate_left
    · (conv => (lhs; whnf; arg 1; whnf))
    · refine stepB_c (by rfl) (fun K hK => ?_)
      go_simp
      refine (Knn.out _).mono ?_
      rintro e tq1 ⟨rfl, hb⟩
      have x_1 := Lib.hid (YY_x.out.below hb)
      have z_1 := Lib.hid (YY_z.out.below hb)
      have B_1 := Lib.hid (BX.out.trans (hb.mono BX.out.size))
      have R_1 := Lib.hid (hb.mono BX.out.size)
      clear hb
      refine hK _ _ R_1.out ?_
      clear hK R_1
      try simp only [Act.put, List.setIfInBounds_toArray, List.set_cons_zero, List.set_cons_succ]
      refine anyR_branch [4, 8] (by kernel_rfl) rfl ?_
      refine brs_cons (o := ?_) ?_ ?_ ?_
      rotate_left
      · (conv => (lhs; whnf; arg 1; whnf))
      · refine stepB_c (by rfl) (fun K hK => ?_)
        go_simp
        refine (mexp_ok _ HFz.out H0.out HFx.out Fnn.out Eu.out).mono ?_
        rintro e tq2 ⟨rfl, hb⟩
        have x_2 := Lib.hid (x_1.out.below hb)
        have z_2 := Lib.hid (z_1.out.below hb)
        have B_2 := Lib.hid (B_1.out.trans (hb.mono B_1.out.size))
        have R_2 := Lib.hid (hb.mono B_1.out.size)
        clear hb
        refine hK _ _ R_2.out ?_
        clear hK R_2
        clear x_1 z_1 B_1
        try simp only [Act.put, List.setIfInBounds_toArray, List.set_cons_zero, List.set_cons_succ]
        refine anyR_at (o := ?_) (i := 5) ?_ ?_
        rotate_left
        · (conv => (lhs; whnf; arg 1; whnf))
        refine anyR_y hRR hRT (by kernel_rfl) (v := ?_) (by kernel_rfl) (by rfl) (fun W hW => ?_) ?_
        rotate_left
        · go_simp; try with_reducible rfl
        try simp only [Act.put, List.setIfInBounds_toArray, List.set_cons_zero, List.set_cons_succ]
        refine anyR_at (o := ?_) (i := 6) ?_ ?_
        rotate_left
        · (conv => (lhs; whnf; arg 1; whnf))
        refine anyR_y hRR hRT (by kernel_rfl) (v := ?_) (by kernel_rfl) (by rfl) (fun W hW => ?_) ?_
        rotate_left
        · go_simp; try with_reducible rfl
        try simp only [Act.put, List.setIfInBounds_toArray, List.set_cons_zero, List.set_cons_succ]
        refine anyR_at (o := ?_) (i := 7) ?_ ?_
        rotate_left
        · (conv => (lhs; whnf; arg 1; whnf))
        refine anyR_y hRR hRT (by kernel_rfl) (v := ?_) (by kernel_rfl) (by rfl) (fun W hW => ?_) ?_
        rotate_left
        · go_simp; try with_reducible rfl
        try simp only [Act.put, List.setIfInBounds_toArray, List.set_cons_zero, List.set_cons_succ]
        refine anyR_branch [8] (by kernel_rfl) rfl ?_
        refine brs_cons (o := ?_) ?_ ?_ ?_
        rotate_left
        · (conv => (lhs; whnf; arg 1; whnf))
        · refine stepB_c (by rfl) (fun K hK => ?_)
          go_simp
          have hb : Below tq2.heap.size tq2 (tq2.alloc (.cells z0 37)) := (Below.refl _ _).alloc (Nat.le_refl _) _
          have x_3 := Lib.hid (x_2.out.below hb)
          have z_3 := Lib.hid (z_2.out.below hb)
          have B_3 := Lib.hid (B_2.out.trans (hb.mono B_2.out.size))
          have R_3 := Lib.hid (hb.mono B_2.out.size)
          have u_3 := Lib.hid (NatAt.zero tq2)
          have mu : Hid (p17.heap.size ≤ tq2.heap.size) := Lib.hid B_2.out.size
          clear hb
          generalize (tq2.alloc (.cells z0 37)) = tq3 at *
          refine hK _ _ R_3.out ?_
          clear hK R_3
          generalize tq2.heap.size = bu at *
          clear x_2 z_2 B_2
          try simp only [Act.put, List.setIfInBounds_toArray, List.set_cons_zero, List.set_cons_succ]
          refine anyR_branch [9] (by kernel_rfl) rfl ?_
          refine brs_cons (o := ?_) ?_ ?_ ?_
          rotate_left
          · (conv => (lhs; whnf; arg 1; whnf))
          · refine stepB_c (by rfl) (fun K hK => ?_)
            refine wp_stN ntNat rfl rfl (m := u) rfl u_3.out ?_
            intro tq4 hd hg
            have u_4 := Lib.hid hd
            have B_4 := Lib.hid (B_3.out.grown hg B_3.out.size (fun j e => by injection e with e; have := mu.out; omega))
            have R_4 : Hid (Below (p17.heap.size) tq3 tq4) := Lib.hid ((Below.refl _ _).grown hg B_3.out.size (fun j e => by injection e with e; have := mu.out; omega))
            clear hd hg
            refine hK _ _ R_4.out ?_
            clear hK R_4
            clear u_3 x_3 z_3 B_3
            try simp only [Act.put, List.setIfInBounds_toArray, List.set_cons_zero, List.set_cons_succ]
            refine anyR_at (o := ?_) (i := 10) ?_ ?_
            rotate_left
            · (conv => (lhs; whnf; arg 1; whnf))
            refine anyR_y hRR hRT (by kernel_rfl) (v := ?_) (by kernel_rfl) (by rfl) (fun W hW => ?_) ?_
            rotate_left
            · go_simp; try with_reducible rfl
            try simp only [Act.put, List.setIfInBounds_toArray, List.set_cons_zero, List.set_cons_succ]
            refine anyR_end (by kernel_rfl) ?_
            dsimp only [Exit.then]
            go_step
            go_meet
            exact ⟨_, rfl, rfl, u_4.out, B_4.out⟩
          exact brs_nil
        exact brs_nil
      refine brs_cons (o := ?_) ?_ ?_ ?_
      rotate_left
      · (conv => (lhs; whnf; arg 1; whnf))
      · refine stepB_c (by rfl) (fun K hK => ?_)
        go_simp
        have hb : Below tq1.heap.size tq1 (tq1.alloc (.cells z0 37)) := (Below.refl _ _).alloc (Nat.le_refl _) _
        have x_5 := Lib.hid (x_1.out.below hb)
        have z_5 := Lib.hid (z_1.out.below hb)
        have B_5 := Lib.hid (B_1.out.trans (hb.mono B_1.out.size))
        have R_5 := Lib.hid (hb.mono B_1.out.size)
        have u_5 := Lib.hid (NatAt.zero tq1)
        have mu : Hid (p17.heap.size ≤ tq1.heap.size) := Lib.hid B_1.out.size
        clear hb
        generalize (tq1.alloc (.cells z0 37)) = tq5 at *
        refine hK _ _ R_5.out ?_
        clear hK R_5
        generalize tq1.heap.size = bu at *
        clear x_1 z_1 B_1
        try simp only [Act.put, List.setIfInBounds_toArray, List.set_cons_zero, List.set_cons_succ]
        refine anyR_branch [4] (by kernel_rfl) rfl ?_
        refine brs_cons (o := ?_) ?_ ?_ ?_
        rotate_left
        · (conv => (lhs; whnf; arg 1; whnf))
        · refine stepB_c (by rfl) (fun K hK => ?_)
          go_simp
          refine (mexp_ok _ HFz.out H0.out HFx.out Fnn.out Eu.out).mono ?_
          rintro e tq6 ⟨rfl, hb⟩
          have u_6 := Lib.hid (u_5.out.below hb)
          have x_6 := Lib.hid (x_5.out.below hb)
          have z_6 := Lib.hid (z_5.out.below hb)
          have B_6 := Lib.hid (B_5.out.trans (hb.mono B_5.out.size))
          have R_6 := Lib.hid (hb.mono B_5.out.size)
          clear hb
          refine hK _ _ R_6.out ?_
          clear hK R_6
          clear u_5 x_5 z_5 B_5
          try simp only [Act.put, List.setIfInBounds_toArray, List.set_cons_zero, List.set_cons_succ]
          refine anyR_at (o := ?_) (i := 5) ?_ ?_
          rotate_left
          · (conv => (lhs; whnf; arg 1; whnf))
          refine anyR_y hRR hRT (by kernel_rfl) (v := ?_) (by kernel_rfl) (by rfl) (fun W hW => ?_) ?_
          rotate_left
          · go_simp; try with_reducible rfl
          try simp only [Act.put, List.setIfInBounds_toArray, List.set_cons_zero, List.set_cons_succ]
          refine anyR_at (o := ?_) (i := 6) ?_ ?_
          rotate_left
          · (conv => (lhs; whnf; arg 1; whnf))
          refine anyR_y hRR hRT (by kernel_rfl) (v := ?_) (by kernel_rfl) (by rfl) (fun W hW => ?_) ?_
          rotate_left
          · go_simp; try with_reducible rfl
          try simp only [Act.put, List.setIfInBounds_toArray, List.set_cons_zero, List.set_cons_succ]
          refine anyR_at (o := ?_) (i := 7) ?_ ?_
          rotate_left
          · (conv => (lhs; whnf; arg 1; whnf))
          refine anyR_y hRR hRT (by kernel_rfl) (v := ?_) (by kernel_rfl) (by rfl) (fun W hW => ?_) ?_
          rotate_left
          · go_simp; try with_reducible rfl
          try simp only [Act.put, List.setIfInBounds_toArray, List.set_cons_zero, List.set_cons_succ]
          refine anyR_branch [9] (by kernel_rfl) rfl ?_
          refine brs_cons (o := ?_) ?_ ?_ ?_
          rotate_left
          · (conv => (lhs; whnf; arg 1; whnf))
          · refine stepB_c (by rfl) (fun K hK => ?_)
            refine wp_stN ntNat rfl rfl (m := u) rfl u_6.out ?_
            intro tq7 hd hg
            have u_7 := Lib.hid hd
            have B_7 := Lib.hid (B_6.out.grown hg B_6.out.size (fun j e => by injection e with e; have := mu.out; omega))
            have R_7 : Hid (Below (p17.heap.size) tq6 tq7) := Lib.hid ((Below.refl _ _).grown hg B_6.out.size (fun j e => by injection e with e; have := mu.out; omega))
            clear hd hg
            refine hK _ _ R_7.out ?_
            clear hK R_7
            clear u_6 x_6 z_6 B_6
            try simp only [Act.put, List.setIfInBounds_toArray, List.set_cons_zero, List.set_cons_succ]
            refine anyR_at (o := ?_) (i := 10) ?_ ?_
            rotate_left
            · (conv => (lhs; whnf; arg 1; whnf))
            refine anyR_y hRR hRT (by kernel_rfl) (v := ?_) (by kernel_rfl) (by rfl) (fun W hW => ?_) ?_
            rotate_left
            · go_simp; try with_reducible rfl
            try simp only [Act.put, List.setIfInBounds_toArray, List.set_cons_zero, List.set_cons_succ]
            refine anyR_end (by kernel_rfl) ?_
            dsimp only [Exit.then]
            go_step
            go_meet
            exact ⟨_, rfl, rfl, u_7.out, B_7.out⟩
          exact brs_nil
        exact brs_nil
      exact brs_nil
    refine brs_cons (o := ?_) ?_ ?_ ?_
    rotate_left
    · (conv => (lhs; whnf; arg 1; whnf))
    · refine stepB_c (by rfl) (fun K hK => ?_)
      go_simp
      have hb : Below tq0.heap.size tq0 (tq0.alloc (.cells z0 37)) := (Below.refl _ _).alloc (Nat.le_refl _) _
      have x_8 := Lib.hid (YY_x.out.below hb)
      have z_8 := Lib.hid (YY_z.out.below hb)
      have B_8 := Lib.hid (BX.out.trans (hb.mono BX.out.size))
      have R_8 := Lib.hid (hb.mono BX.out.size)
      have u_8 := Lib.hid (NatAt.zero tq0)
      have mu : Hid (p17.heap.size ≤ tq0.heap.size) := Lib.hid BX.out.size
      clear hb
      generalize (tq0.alloc (.cells z0 37)) = tq8 at *
      refine hK _ _ R_8.out ?_
      clear hK R_8
      generalize tq0.heap.size = bu at *
      try simp only [Act.put, List.setIfInBounds_toArray, List.set_cons_zero, List.set_cons_succ]
      refine anyR_branch [2] (by kernel_rfl) rfl ?_
      refine brs_cons (o := ?_) ?_ ?_ ?_
      rotate_left
      · (conv => (lhs; whnf; arg 1; whnf))
      · refine stepB_c (by rfl) (fun K hK => ?_)
        go_simp
        refine (Knn.out _).mono ?_
        rintro e tq9 ⟨rfl, hb⟩
        have u_9 := Lib.hid (u_8.out.below hb)
        have x_9 := Lib.hid (x_8.out.below hb)
        have z_9 := Lib.hid (z_8.out.below hb)
        have B_9 := Lib.hid (B_8.out.trans (hb.mono B_8.out.size))
        have R_9 := Lib.hid (hb.mono B_8.out.size)
        clear hb
        refine hK _ _ R_9.out ?_
        clear hK R_9
        clear u_8 x_8 z_8 B_8
        try simp only [Act.put, List.setIfInBounds_toArray, List.set_cons_zero, List.set_cons_succ]
        refine anyR_branch [4] (by kernel_rfl) rfl ?_
        refine brs_cons (o := ?_) ?_ ?_ ?_
        rotate_left
        · (conv => (lhs; whnf; arg 1; whnf))
        · refine stepB_c (by rfl) (fun K hK => ?_)
          go_simp
          refine (mexp_ok _ HFz.out H0.out HFx.out Fnn.out Eu.out).mono ?_
          rintro e tq10 ⟨rfl, hb⟩
          have u_10 := Lib.hid (u_9.out.below hb)
          have x_10 := Lib.hid (x_9.out.below hb)
          have z_10 := Lib.hid (z_9.out.below hb)
          have B_10 := Lib.hid (B_9.out.trans (hb.mono B_9.out.size))
          have R_10 := Lib.hid (hb.mono B_9.out.size)
          clear hb
          refine hK _ _ R_10.out ?_
          clear hK R_10
          clear u_9 x_9 z_9 B_9
          try simp only [Act.put, List.setIfInBounds_toArray, List.set_cons_zero, List.set_cons_succ]
          refine anyR_at (o := ?_) (i := 5) ?_ ?_
          rotate_left
          · (conv => (lhs; whnf; arg 1; whnf))
          refine anyR_y hRR hRT (by kernel_rfl) (v := ?_) (by kernel_rfl) (by rfl) (fun W hW => ?_) ?_
          rotate_left
          · go_simp; try with_reducible rfl
          try simp only [Act.put, List.setIfInBounds_toArray, List.set_cons_zero, List.set_cons_succ]
          refine anyR_at (o := ?_) (i := 6) ?_ ?_
          rotate_left
          · (conv => (lhs; whnf; arg 1; whnf))
          refine anyR_y hRR hRT (by kernel_rfl) (v := ?_) (by kernel_rfl) (by rfl) (fun W hW => ?_) ?_
          rotate_left
          · go_simp; try with_reducible rfl
          try simp only [Act.put, List.setIfInBounds_toArray, List.set_cons_zero, List.set_cons_succ]
          refine anyR_at (o := ?_) (i := 7) ?_ ?_
          rotate_left
          · (conv => (lhs; whnf; arg 1; whnf))
          refine anyR_y hRR hRT (by kernel_rfl) (v := ?_) (by kernel_rfl) (by rfl) (fun W hW => ?_) ?_
          rotate_left
          · go_simp; try with_reducible rfl
          try simp only [Act.put, List.setIfInBounds_toArray, List.set_cons_zero, List.set_cons_succ]
          refine anyR_branch [9] (by kernel_rfl) rfl ?_
          refine brs_cons (o := ?_) ?_ ?_ ?_
          rotate_left
          · (conv => (lhs; whnf; arg 1; whnf))
          · refine stepB_c (by rfl) (fun K hK => ?_)
            refine wp_stN ntNat rfl rfl (m := u) rfl u_10.out ?_
            intro tq11 hd hg
            have u_11 := Lib.hid hd
            have B_11 := Lib.hid (B_10.out.grown hg B_10.out.size (fun j e => by injection e with e; have := mu.out; omega))
            have R_11 : Hid (Below (p17.heap.size) tq10 tq11) := Lib.hid ((Below.refl _ _).grown hg B_10.out.size (fun j e => by injection e with e; have := mu.out; omega))
            clear hd hg
            refine hK _ _ R_11.out ?_
            clear hK R_11
            clear u_10 x_10 z_10 B_10
            try simp only [Act.put, List.setIfInBounds_toArray, List.set_cons_zero, List.set_cons_succ]
            refine anyR_at (o := ?_) (i := 10) ?_ ?_
            rotate_left
            · (conv => (lhs; whnf; arg 1; whnf))
            refine anyR_y hRR hRT (by kernel_rfl) (v := ?_) (by kernel_rfl) (by rfl) (fun W hW => ?_) ?_
            rotate_left
            · go_simp; try with_reducible rfl
            try simp only [Act.put, List.setIfInBounds_toArray, List.set_cons_zero, List.set_cons_succ]
            refine anyR_end (by kernel_rfl) ?_
            dsimp only [Exit.then]
            go_step
            go_meet
            exact ⟨_, rfl, rfl, u_11.out, B_11.out⟩
          exact brs_nil
        exact brs_nil
      exact brs_nil
    exact brs_nil
  case rest =>
    obtain ⟨b18, rfl, rfl, hn, hb⟩ := hcut
    have z_18 := Lib.hid (z_17.out.below hb)
    have x_18 := Lib.hid (x_17.out.below hb)
    have t_18 := Lib.hid (t_17.out.below hb)
    have W_18 := Lib.hid (W_17.out.trans (hb.mono W_17.out.size))
    have u_18 := Lib.hid hn
    clear hn hb z_17 x_17 t_17 W_17
    generalize wc = p18 at *
    go_upto_region 21 with (first | go_skip | (refine wpl_ldN ntNat rfl rfl rfl z_18.out ?_) | (refine wpl_ldN_g ntNat ?hw rfl rfl z_18.out ?_; (case hw => rfl)) | (refine wpl_ldN ntNat rfl rfl rfl x_18.out ?_) | (refine wpl_ldN_g ntNat ?hw rfl rfl x_18.out ?_; (case hw => rfl)) | (refine wpl_ldN ntNat rfl rfl rfl t_18.out ?_) | (refine wpl_ldN_g ntNat ?hw rfl rfl t_18.out ?_; (case hw => rfl)) | (refine wpl_ldN ntNat rfl rfl rfl u_18.out ?_) | (refine wpl_ldN_g ntNat ?hw rfl rfl u_18.out ?_; (case hw => rfl)))
    try simp only [Act.put, List.setIfInBounds_toArray, List.set_cons_zero, List.set_cons_succ]
    go_cut [41, 42] from 239 to 246 (fun x y wx => ∃ B, x = .pointer (some ⟨B, 0, none⟩) ∧ y = .int .i64 0 ∧ NatAt wx B v2 ∧ Below p18.heap.size p18 wx)
    case first =>
      have hRR : ∀ w9 : World, Below p18.heap.size w9 w9 := fun _ => Below.refl _ _
      have hRT : ∀ x y z : World, Below p18.heap.size x y → Below p18.heap.size y z → Below p18.heap.size x z := fun _ _ _ h1 h2 => h1.trans h2
      refine region_begin (fun x y => Below p18.heap.size x y) 11 (by kernel_rfl) (by kernel_rfl) ?_
      have BX : Hid (Below p18.heap.size p18 p18.drew) := Lib.hid (Below.refl p18.heap.size p18).drew
      have YY_t := Lib.hid t_18.out.drew
      have LT_t := Lib.hid t_18.out.lt
      have YY_z := Lib.hid z_18.out.drew
      have LT_z := Lib.hid z_18.out.lt
      clear z_18 x_18 t_18 u_18 W_18
      generalize p18.drew = tq0 at BX YY_t YY_z ⊢
      refine anyR_at (o := ?_) (i := 0) ?_ ?_
      rotate_left
      · (conv => (lhs; whnf; arg 1; whnf))
      refine anyR_y hRR hRT (by kernel_rfl) (v := ?_) (by kernel_rfl) (by rfl) (fun W hW => ?_) ?_
      rotate_left
      · (refine exec_ldN (x := .tmp 37) ntNat ?_ ?_ (natAt_below (N := p18.heap.size) YY_t.out hW LT_t.out)) <;> rfl
      try simp only [Act.put, List.setIfInBounds_toArray, List.set_cons_zero, List.set_cons_succ]
      refine anyR_at (o := ?_) (i := 1) ?_ ?_
      rotate_left
      · (conv => (lhs; whnf; arg 1; whnf))
      refine anyR_y hRR hRT (by kernel_rfl) (v := ?_) (by kernel_rfl) (by rfl) (fun W hW => ?_) ?_
      rotate_left
      · go_simp; try with_reducible rfl
      try simp only [Act.put, List.setIfInBounds_toArray, List.set_cons_zero, List.set_cons_succ]
      refine anyR_at (o := ?_) (i := 3) ?_ ?_
      rotate_left
      · (conv => (lhs; whnf; arg 1; whnf))
      refine anyR_y hRR hRT (by kernel_rfl) (v := ?_) (by kernel_rfl) (by rfl) (fun W hW => ?_) ?_
      rotate_left
      · (refine exec_ldN (x := .tmp 13) ntNat ?_ ?_ (natAt_below (N := p18.heap.size) YY_z.out hW LT_z.out)) <;> rfl
      try simp only [Act.put, List.setIfInBounds_toArray, List.set_cons_zero, List.set_cons_succ]
      refine anyR_branch [2, 8] (by kernel_rfl) rfl ?_
      refine brs_cons (o := ?_) ?_ ?_ ?_
      rotate_left
      · (conv => (lhs; whnf; arg 1; whnf))
      · refine stepB_c (by rfl) (fun K hK => ?_)
        go_simp
        refine (Kkk.out _).mono ?_
        rintro e tq1 ⟨rfl, hb⟩
        have t_1 := Lib.hid (YY_t.out.below hb)
        have z_1 := Lib.hid (YY_z.out.below hb)
        have B_1 := Lib.hid (BX.out.trans (hb.mono BX.out.size))
        have R_1 := Lib.hid (hb.mono BX.out.size)
        clear hb
        refine hK _ _ R_1.out ?_
        clear hK R_1
        try simp only [Act.put, List.setIfInBounds_toArray, List.set_cons_zero, List.set_cons_succ]
        refine anyR_branch [4, 8] (by kernel_rfl) rfl ?_
        refine brs_cons (o := ?_) ?_ ?_ ?_
        rotate_left
        · (conv => (lhs; whnf; arg 1; whnf))
        · refine stepB_c (by rfl) (fun K hK => ?_)
          go_simp
          refine (mexp_ok _ HFz.out H0.out Ft.out Fkk.out Ev2.out).mono ?_
          rintro e tq2 ⟨rfl, hb⟩
          have t_2 := Lib.hid (t_1.out.below hb)
          have z_2 := Lib.hid (z_1.out.below hb)
          have B_2 := Lib.hid (B_1.out.trans (hb.mono B_1.out.size))
          have R_2 := Lib.hid (hb.mono B_1.out.size)
          clear hb
          refine hK _ _ R_2.out ?_
          clear hK R_2
          clear t_1 z_1 B_1
          try simp only [Act.put, List.setIfInBounds_toArray, List.set_cons_zero, List.set_cons_succ]
          refine anyR_at (o := ?_) (i := 5) ?_ ?_
          rotate_left
          · (conv => (lhs; whnf; arg 1; whnf))
          refine anyR_y hRR hRT (by kernel_rfl) (v := ?_) (by kernel_rfl) (by rfl) (fun W hW => ?_) ?_
          rotate_left
          · go_simp; try with_reducible rfl
          try simp only [Act.put, List.setIfInBounds_toArray, List.set_cons_zero, List.set_cons_succ]
          refine anyR_at (o := ?_) (i := 6) ?_ ?_
          rotate_left
          · (conv => (lhs; whnf; arg 1; whnf))
          refine anyR_y hRR hRT (by kernel_rfl) (v := ?_) (by kernel_rfl) (by rfl) (fun W hW => ?_) ?_
          rotate_left
          · go_simp; try with_reducible rfl
          try simp only [Act.put, List.setIfInBounds_toArray, List.set_cons_zero, List.set_cons_succ]
          refine anyR_at (o := ?_) (i := 7) ?_ ?_
          rotate_left
          · (conv => (lhs; whnf; arg 1; whnf))
          refine anyR_y hRR hRT (by kernel_rfl) (v := ?_) (by kernel_rfl) (by rfl) (fun W hW => ?_) ?_
          rotate_left
          · go_simp; try with_reducible rfl
          try simp only [Act.put, List.setIfInBounds_toArray, List.set_cons_zero, List.set_cons_succ]
          refine anyR_branch [8] (by kernel_rfl) rfl ?_
          refine brs_cons (o := ?_) ?_ ?_ ?_
          rotate_left
          · (conv => (lhs; whnf; arg 1; whnf))
          · refine stepB_c (by rfl) (fun K hK => ?_)
            go_simp
            have hb : Below tq2.heap.size tq2 (tq2.alloc (.cells z0 37)) := (Below.refl _ _).alloc (Nat.le_refl _) _
            have t_3 := Lib.hid (t_2.out.below hb)
            have z_3 := Lib.hid (z_2.out.below hb)
            have B_3 := Lib.hid (B_2.out.trans (hb.mono B_2.out.size))
            have R_3 := Lib.hid (hb.mono B_2.out.size)
            have v2_3 := Lib.hid (NatAt.zero tq2)
            have mv2 : Hid (p18.heap.size ≤ tq2.heap.size) := Lib.hid B_2.out.size
            clear hb
            generalize (tq2.alloc (.cells z0 37)) = tq3 at *
            refine hK _ _ R_3.out ?_
            clear hK R_3
            generalize tq2.heap.size = bv2 at *
            clear t_2 z_2 B_2
            try simp only [Act.put, List.setIfInBounds_toArray, List.set_cons_zero, List.set_cons_succ]
            refine anyR_branch [9] (by kernel_rfl) rfl ?_
            refine brs_cons (o := ?_) ?_ ?_ ?_
            rotate_left
            · (conv => (lhs; whnf; arg 1; whnf))
            · refine stepB_c (by rfl) (fun K hK => ?_)
              refine wp_stN ntNat rfl rfl (m := v2) rfl v2_3.out ?_
              intro tq4 hd hg
              have v2_4 := Lib.hid hd
              have B_4 := Lib.hid (B_3.out.grown hg B_3.out.size (fun j e => by injection e with e; have := mv2.out; omega))
              have R_4 : Hid (Below (p18.heap.size) tq3 tq4) := Lib.hid ((Below.refl _ _).grown hg B_3.out.size (fun j e => by injection e with e; have := mv2.out; omega))
              clear hd hg
              refine hK _ _ R_4.out ?_
              clear hK R_4
              clear v2_3 t_3 z_3 B_3
              try simp only [Act.put, List.setIfInBounds_toArray, List.set_cons_zero, List.set_cons_succ]
              refine anyR_at (o := ?_) (i := 10) ?_ ?_
              rotate_left
              · (conv => (lhs; whnf; arg 1; whnf))
              refine anyR_y hRR hRT (by kernel_rfl) (v := ?_) (by kernel_rfl) (by rfl) (fun W hW => ?_) ?_
              rotate_left
              · go_simp; try with_reducible rfl
              try simp only [Act.put, List.setIfInBounds_toArray, List.set_cons_zero, List.set_cons_succ]
              refine anyR_end (by kernel_rfl) ?_
              dsimp only [Exit.then]
              go_step
              go_meet
              exact ⟨_, rfl, rfl, v2_4.out, B_4.out⟩
            exact brs_nil
          exact brs_nil
        refine brs_cons (o := ?_) ?_ ?_ ?_
        rotate_left
        · (conv => (lhs; whnf; arg 1; whnf))
        · refine stepB_c (by rfl) (fun K hK => ?_)
          go_simp
          have hb : Below tq1.heap.size tq1 (tq1.alloc (.cells z0 37)) := (Below.refl _ _).alloc (Nat.le_refl _) _
          have t_5 := Lib.hid (t_1.out.below hb)
          have z_5 := Lib.hid (z_1.out.below hb)
          have B_5 := Lib.hid (B_1.out.trans (hb.mono B_1.out.size))
          have R_5 := Lib.hid (hb.mono B_1.out.size)
          have v2_5 := Lib.hid (NatAt.zero tq1)
          have mv2 : Hid (p18.heap.size ≤ tq1.heap.size) := Lib.hid B_1.out.size
          clear hb
          generalize (tq1.alloc (.cells z0 37)) = tq5 at *
          refine hK _ _ R_5.out ?_
          clear hK R_5
          generalize tq1.heap.size = bv2 at *
          clear t_1 z_1 B_1
          try simp only [Act.put, List.setIfInBounds_toArray, List.set_cons_zero, List.set_cons_succ]
          refine anyR_branch [4] (by kernel_rfl) rfl ?_
          refine brs_cons (o := ?_) ?_ ?_ ?_
          rotate_left
          · (conv => (lhs; whnf; arg 1; whnf))
          · refine stepB_c (by rfl) (fun K hK => ?_)
            go_simp
            refine (mexp_ok _ HFz.out H0.out Ft.out Fkk.out Ev2.out).mono ?_
            rintro e tq6 ⟨rfl, hb⟩
            have v2_6 := Lib.hid (v2_5.out.below hb)
            have t_6 := Lib.hid (t_5.out.below hb)
            have z_6 := Lib.hid (z_5.out.below hb)
            have B_6 := Lib.hid (B_5.out.trans (hb.mono B_5.out.size))
            have R_6 := Lib.hid (hb.mono B_5.out.size)
            clear hb
            refine hK _ _ R_6.out ?_
            clear hK R_6
            clear v2_5 t_5 z_5 B_5
            try simp only [Act.put, List.setIfInBounds_toArray, List.set_cons_zero, List.set_cons_succ]
            refine anyR_at (o := ?_) (i := 5) ?_ ?_
            rotate_left
            · (conv => (lhs; whnf; arg 1; whnf))
            refine anyR_y hRR hRT (by kernel_rfl) (v := ?_) (by kernel_rfl) (by rfl) (fun W hW => ?_) ?_
            rotate_left
            · go_simp; try with_reducible rfl
            try simp only [Act.put, List.setIfInBounds_toArray, List.set_cons_zero, List.set_cons_succ]
            refine anyR_at (o := ?_) (i := 6) ?_ ?_
            rotate_left
            · (conv => (lhs; whnf; arg 1; whnf))
            refine anyR_y hRR hRT (by kernel_rfl) (v := ?_) (by kernel_rfl) (by rfl) (fun W hW => ?_) ?_
            rotate_left
            · go_simp; try with_reducible rfl
            try simp only [Act.put, List.setIfInBounds_toArray, List.set_cons_zero, List.set_cons_succ]
            refine anyR_at (o := ?_) (i := 7) ?_ ?_
            rotate_left
            · (conv => (lhs; whnf; arg 1; whnf))
            refine anyR_y hRR hRT (by kernel_rfl) (v := ?_) (by kernel_rfl) (by rfl) (fun W hW => ?_) ?_
            rotate_left
            · go_simp; try with_reducible rfl
            try simp only [Act.put, List.setIfInBounds_toArray, List.set_cons_zero, List.set_cons_succ]
            refine anyR_branch [9] (by kernel_rfl) rfl ?_
            refine brs_cons (o := ?_) ?_ ?_ ?_
            rotate_left
            · (conv => (lhs; whnf; arg 1; whnf))
            · refine stepB_c (by rfl) (fun K hK => ?_)
              refine wp_stN ntNat rfl rfl (m := v2) rfl v2_6.out ?_
              intro tq7 hd hg
              have v2_7 := Lib.hid hd
              have B_7 := Lib.hid (B_6.out.grown hg B_6.out.size (fun j e => by injection e with e; have := mv2.out; omega))
              have R_7 : Hid (Below (p18.heap.size) tq6 tq7) := Lib.hid ((Below.refl _ _).grown hg B_6.out.size (fun j e => by injection e with e; have := mv2.out; omega))
              clear hd hg
              refine hK _ _ R_7.out ?_
              clear hK R_7
              clear v2_6 t_6 z_6 B_6
              try simp only [Act.put, List.setIfInBounds_toArray, List.set_cons_zero, List.set_cons_succ]
              refine anyR_at (o := ?_) (i := 10) ?_ ?_
              rotate_left
              · (conv => (lhs; whnf; arg 1; whnf))
              refine anyR_y hRR hRT (by kernel_rfl) (v := ?_) (by kernel_rfl) (by rfl) (fun W hW => ?_) ?_
              rotate_left
              · go_simp; try with_reducible rfl
              try simp only [Act.put, List.setIfInBounds_toArray, List.set_cons_zero, List.set_cons_succ]
              refine anyR_end (by kernel_rfl) ?_
              dsimp only [Exit.then]
              go_step
              go_meet
              exact ⟨_, rfl, rfl, v2_7.out, B_7.out⟩
            exact brs_nil
          exact brs_nil
        exact brs_nil
      refine brs_cons (o := ?_) ?_ ?_ ?_
      rotate_left
      · (conv => (lhs; whnf; arg 1; whnf))
      · refine stepB_c (by rfl) (fun K hK => ?_)
        go_simp
        have hb : Below tq0.heap.size tq0 (tq0.alloc (.cells z0 37)) := (Below.refl _ _).alloc (Nat.le_refl _) _
        have t_8 := Lib.hid (YY_t.out.below hb)
        have z_8 := Lib.hid (YY_z.out.below hb)
        have B_8 := Lib.hid (BX.out.trans (hb.mono BX.out.size))
        have R_8 := Lib.hid (hb.mono BX.out.size)
        have v2_8 := Lib.hid (NatAt.zero tq0)
        have mv2 : Hid (p18.heap.size ≤ tq0.heap.size) := Lib.hid BX.out.size
        clear hb
        generalize (tq0.alloc (.cells z0 37)) = tq8 at *
        refine hK _ _ R_8.out ?_
        clear hK R_8
        generalize tq0.heap.size = bv2 at *
        try simp only [Act.put, List.setIfInBounds_toArray, List.set_cons_zero, List.set_cons_succ]
        refine anyR_branch [2] (by kernel_rfl) rfl ?_
        refine brs_cons (o := ?_) ?_ ?_ ?_
        rotate_left
        · (conv => (lhs; whnf; arg 1; whnf))
        · refine stepB_c (by rfl) (fun K hK => ?_)
          go_simp
          refine (Kkk.out _).mono ?_
          rintro e tq9 ⟨rfl, hb⟩
          have v2_9 := Lib.hid (v2_8.out.below hb)
          have t_9 := Lib.hid (t_8.out.below hb)
          have z_9 := Lib.hid (z_8.out.below hb)
          have B_9 := Lib.hid (B_8.out.trans (hb.mono B_8.out.size))
          have R_9 := Lib.hid (hb.mono B_8.out.size)
          clear hb
          refine hK _ _ R_9.out ?_
          clear hK R_9
          clear v2_8 t_8 z_8 B_8
          try simp only [Act.put, List.setIfInBounds_toArray, List.set_cons_zero, List.set_cons_succ]
          refine anyR_branch [4] (by kernel_rfl) rfl ?_
          refine brs_cons (o := ?_) ?_ ?_ ?_
          rotate_left
          · (conv => (lhs; whnf; arg 1; whnf))
          · refine stepB_c (by rfl) (fun K hK => ?_)
            go_simp
            refine (mexp_ok _ HFz.out H0.out Ft.out Fkk.out Ev2.out).mono ?_
            rintro e tq10 ⟨rfl, hb⟩
            have v2_10 := Lib.hid (v2_9.out.below hb)
            have t_10 := Lib.hid (t_9.out.below hb)
            have z_10 := Lib.hid (z_9.out.below hb)
            have B_10 := Lib.hid (B_9.out.trans (hb.mono B_9.out.size))
            have R_10 := Lib.hid (hb.mono B_9.out.size)
            clear hb
            refine hK _ _ R_10.out ?_
            clear hK R_10
            clear v2_9 t_9 z_9 B_9
            try simp only [Act.put, List.setIfInBounds_toArray, List.set_cons_zero, List.set_cons_succ]
            refine anyR_at (o := ?_) (i := 5) ?_ ?_
            rotate_left
            · (conv => (lhs; whnf; arg 1; whnf))
            refine anyR_y hRR hRT (by kernel_rfl) (v := ?_) (by kernel_rfl) (by rfl) (fun W hW => ?_) ?_
            rotate_left
            · go_simp; try with_reducible rfl
            try simp only [Act.put, List.setIfInBounds_toArray, List.set_cons_zero, List.set_cons_succ]
            refine anyR_at (o := ?_) (i := 6) ?_ ?_
            rotate_left
            · (conv => (lhs; whnf; arg 1; whnf))
            refine anyR_y hRR hRT (by kernel_rfl) (v := ?_) (by kernel_rfl) (by rfl) (fun W hW => ?_) ?_
            rotate_left
            · go_simp; try with_reducible rfl
            try simp only [Act.put, List.setIfInBounds_toArray, List.set_cons_zero, List.set_cons_succ]
            refine anyR_at (o := ?_) (i := 7) ?_ ?_
            rotate_left
            · (conv => (lhs; whnf; arg 1; whnf))
            refine anyR_y hRR hRT (by kernel_rfl) (v := ?_) (by kernel_rfl) (by rfl) (fun W hW => ?_) ?_
            rotate_left
            · go_simp; try with_reducible rfl
            try simp only [Act.put, List.setIfInBounds_toArray, List.set_cons_zero, List.set_cons_succ]
            refine anyR_branch [9] (by kernel_rfl) rfl ?_
            refine brs_cons (o := ?_) ?_ ?_ ?_
            rotate_left
            · (conv => (lhs; whnf; arg 1; whnf))
            · refine stepB_c (by rfl) (fun K hK => ?_)
              refine wp_stN ntNat rfl rfl (m := v2) rfl v2_10.out ?_
              intro tq11 hd hg
              have v2_11 := Lib.hid hd
              have B_11 := Lib.hid (B_10.out.grown hg B_10.out.size (fun j e => by injection e with e; have := mv2.out; omega))
              have R_11 : Hid (Below (p18.heap.size) tq10 tq11) := Lib.hid ((Below.refl _ _).grown hg B_10.out.size (fun j e => by injection e with e; have := mv2.out; omega))
              clear hd hg
              refine hK _ _ R_11.out ?_
              clear hK R_11
              clear v2_10 t_10 z_10 B_10
              try simp only [Act.put, List.setIfInBounds_toArray, List.set_cons_zero, List.set_cons_succ]
              refine anyR_at (o := ?_) (i := 10) ?_ ?_
              rotate_left
              · (conv => (lhs; whnf; arg 1; whnf))
              refine anyR_y hRR hRT (by kernel_rfl) (v := ?_) (by kernel_rfl) (by rfl) (fun W hW => ?_) ?_
              rotate_left
              · go_simp; try with_reducible rfl
              try simp only [Act.put, List.setIfInBounds_toArray, List.set_cons_zero, List.set_cons_succ]
              refine anyR_end (by kernel_rfl) ?_
              dsimp only [Exit.then]
              go_step
              go_meet
              exact ⟨_, rfl, rfl, v2_11.out, B_11.out⟩
            exact brs_nil
          exact brs_nil
        exact brs_nil
      exact brs_nil
    case rest =>
      obtain ⟨b19, rfl, rfl, hn, hb⟩ := hcut
      have z_19 := Lib.hid (z_18.out.below hb)
      have x_19 := Lib.hid (x_18.out.below hb)
      have t_19 := Lib.hid (t_18.out.below hb)
      have u_19 := Lib.hid (u_18.out.below hb)
      have W_19 := Lib.hid (W_18.out.trans (hb.mono W_18.out.size))
      have v2_19 := Lib.hid hn
      clear hn hb z_18 x_18 t_18 u_18 W_18
      generalize wc = p19 at *
      go_upto_region 22 with (first | go_skip | (refine wpl_ldN ntNat rfl rfl rfl z_19.out ?_) | (refine wpl_ldN_g ntNat ?hw rfl rfl z_19.out ?_; (case hw => rfl)) | (refine wpl_ldN ntNat rfl rfl rfl x_19.out ?_) | (refine wpl_ldN_g ntNat ?hw rfl rfl x_19.out ?_; (case hw => rfl)) | (refine wpl_ldN ntNat rfl rfl rfl t_19.out ?_) | (refine wpl_ldN_g ntNat ?hw rfl rfl t_19.out ?_; (case hw => rfl)) | (refine wpl_ldN ntNat rfl rfl rfl u_19.out ?_) | (refine wpl_ldN_g ntNat ?hw rfl rfl u_19.out ?_; (case hw => rfl)) | (refine wpl_ldN ntNat rfl rfl rfl v2_19.out ?_) | (refine wpl_ldN_g ntNat ?hw rfl rfl v2_19.out ?_; (case hw => rfl)))
      clear t_19
      try simp only [Act.put, List.setIfInBounds_toArray, List.set_cons_zero, List.set_cons_succ]
      go_cut [43, 44] from 247 to 256 (fun x y wx => ∃ B, x = .pointer (some ⟨B, 0, none⟩) ∧ y = .int .i64 0 ∧ NatAt wx B bo ∧ Below p19.heap.size p19 wx)
      case first =>
        have hRR : ∀ w9 : World, Below p19.heap.size w9 w9 := fun _ => Below.refl _ _
        have hRT : ∀ x y z : World, Below p19.heap.size x y → Below p19.heap.size y z → Below p19.heap.size x z := fun _ _ _ h1 h2 => h1.trans h2
        refine region_begin (fun x y => Below p19.heap.size x y) 13 (by kernel_rfl) (by kernel_rfl) ?_
        have BX : Hid (Below p19.heap.size p19 p19.drew) := Lib.hid (Below.refl p19.heap.size p19).drew
        have YY_x := Lib.hid x_19.out.drew
        have LT_x := Lib.hid x_19.out.lt
        have YY_z := Lib.hid z_19.out.drew
        have LT_z := Lib.hid z_19.out.lt
        clear z_19 x_19 u_19 v2_19 W_19
        generalize p19.drew = tq0 at BX YY_x YY_z ⊢
        refine anyR_at (o := ?_) (i := 0) ?_ ?_
        rotate_left
        · (conv => (lhs; whnf; arg 1; whnf))
        refine anyR_y hRR hRT (by kernel_rfl) (v := ?_) (by kernel_rfl) (by rfl) (fun W hW => ?_) ?_
        rotate_left
        · (refine exec_ldN (x := .tmp 14) ntNat ?_ ?_ (natAt_below (N := p19.heap.size) YY_x.out hW LT_x.out)) <;> rfl
        try simp only [Act.put, List.setIfInBounds_toArray, List.set_cons_zero, List.set_cons_succ]
        refine anyR_at (o := ?_) (i := 1) ?_ ?_
        rotate_left
        · (conv => (lhs; whnf; arg 1; whnf))
        refine anyR_y hRR hRT (by kernel_rfl) (v := ?_) (by kernel_rfl) (by rfl) (fun W hW => ?_) ?_
        rotate_left
        · go_simp; try with_reducible rfl
        try simp only [Act.put, List.setIfInBounds_toArray, List.set_cons_zero, List.set_cons_succ]
        refine anyR_at (o := ?_) (i := 2) ?_ ?_
        rotate_left
        · (conv => (lhs; whnf; arg 1; whnf))
        refine anyR_y hRR hRT (by kernel_rfl) (v := ?_) (by kernel_rfl) (by rfl) (fun W hW => ?_) ?_
        rotate_left
        · go_simp; try with_reducible rfl
        try simp only [Act.put, List.setIfInBounds_toArray, List.set_cons_zero, List.set_cons_succ]
        refine anyR_at (o := ?_) (i := 3) ?_ ?_
        rotate_left
        · (conv => (lhs; whnf; arg 1; whnf))
        refine anyR_y hRR hRT (by kernel_rfl) (v := ?_) (by kernel_rfl) (by rfl) (fun W hW => ?_) ?_
        rotate_left
        · have h9 := HSUM.out; go_simp; try with_reducible rfl
        try simp only [Act.put, List.setIfInBounds_toArray, List.set_cons_zero, List.set_cons_succ]
        refine anyR_at (o := ?_) (i := 5) ?_ ?_
        rotate_left
        · (conv => (lhs; whnf; arg 1; whnf))
        refine anyR_y hRR hRT (by kernel_rfl) (v := ?_) (by kernel_rfl) (by rfl) (fun W hW => ?_) ?_
        rotate_left
        · (refine exec_ldN (x := .tmp 13) ntNat ?_ ?_ (natAt_below (N := p19.heap.size) YY_z.out hW LT_z.out)) <;> rfl
        try simp only [Act.put, List.setIfInBounds_toArray, List.set_cons_zero, List.set_cons_succ]
        refine anyR_branch [4, 10] (by kernel_rfl) rfl ?_
        refine brs_cons (o := ?_) ?_ ?_ ?_
        rotate_left
        · (conv => (lhs; whnf; arg 1; whnf))
        · refine stepB_c (by rfl) (fun K hK => ?_)
          go_simp
          refine (Kss.out _).mono ?_
          rintro e tq1 ⟨rfl, hb⟩
          have x_1 := Lib.hid (YY_x.out.below hb)
          have z_1 := Lib.hid (YY_z.out.below hb)
          have B_1 := Lib.hid (BX.out.trans (hb.mono BX.out.size))
          have R_1 := Lib.hid (hb.mono BX.out.size)
          clear hb
          refine hK _ _ R_1.out ?_
          clear hK R_1
          try simp only [Act.put, List.setIfInBounds_toArray, List.set_cons_zero, List.set_cons_succ]
          refine anyR_branch [6, 10] (by kernel_rfl) rfl ?_
          refine brs_cons (o := ?_) ?_ ?_ ?_
          rotate_left
          · (conv => (lhs; whnf; arg 1; whnf))
          · refine stepB_c (by rfl) (fun K hK => ?_)
            go_simp
            refine (mexp_ok _ HFz.out H0.out HFx.out Fss.out EBO.out).mono ?_
            rintro e tq2 ⟨rfl, hb⟩
            have x_2 := Lib.hid (x_1.out.below hb)
            have z_2 := Lib.hid (z_1.out.below hb)
            have B_2 := Lib.hid (B_1.out.trans (hb.mono B_1.out.size))
            have R_2 := Lib.hid (hb.mono B_1.out.size)
            clear hb
            refine hK _ _ R_2.out ?_
            clear hK R_2
            clear x_1 z_1 B_1
            try simp only [Act.put, List.setIfInBounds_toArray, List.set_cons_zero, List.set_cons_succ]
            refine anyR_at (o := ?_) (i := 7) ?_ ?_
            rotate_left
            · (conv => (lhs; whnf; arg 1; whnf))
            refine anyR_y hRR hRT (by kernel_rfl) (v := ?_) (by kernel_rfl) (by rfl) (fun W hW => ?_) ?_
            rotate_left
            · go_simp; try with_reducible rfl
            try simp only [Act.put, List.setIfInBounds_toArray, List.set_cons_zero, List.set_cons_succ]
            refine anyR_at (o := ?_) (i := 8) ?_ ?_
            rotate_left
            · (conv => (lhs; whnf; arg 1; whnf))
            refine anyR_y hRR hRT (by kernel_rfl) (v := ?_) (by kernel_rfl) (by rfl) (fun W hW => ?_) ?_
            rotate_left
            · go_simp; try with_reducible rfl
            try simp only [Act.put, List.setIfInBounds_toArray, List.set_cons_zero, List.set_cons_succ]
            refine anyR_at (o := ?_) (i := 9) ?_ ?_
            rotate_left
            · (conv => (lhs; whnf; arg 1; whnf))
            refine anyR_y hRR hRT (by kernel_rfl) (v := ?_) (by kernel_rfl) (by rfl) (fun W hW => ?_) ?_
            rotate_left
            · go_simp; try with_reducible rfl
            try simp only [Act.put, List.setIfInBounds_toArray, List.set_cons_zero, List.set_cons_succ]
            refine anyR_branch [10] (by kernel_rfl) rfl ?_
            refine brs_cons (o := ?_) ?_ ?_ ?_
            rotate_left
            · (conv => (lhs; whnf; arg 1; whnf))
            · refine stepB_c (by rfl) (fun K hK => ?_)
              go_simp
              have hb : Below tq2.heap.size tq2 (tq2.alloc (.cells z0 37)) := (Below.refl _ _).alloc (Nat.le_refl _) _
              have x_3 := Lib.hid (x_2.out.below hb)
              have z_3 := Lib.hid (z_2.out.below hb)
              have B_3 := Lib.hid (B_2.out.trans (hb.mono B_2.out.size))
              have R_3 := Lib.hid (hb.mono B_2.out.size)
              have bo_3 := Lib.hid (NatAt.zero tq2)
              have mbo : Hid (p19.heap.size ≤ tq2.heap.size) := Lib.hid B_2.out.size
              clear hb
              generalize (tq2.alloc (.cells z0 37)) = tq3 at *
              refine hK _ _ R_3.out ?_
              clear hK R_3
              generalize tq2.heap.size = bbo at *
              clear x_2 z_2 B_2
              try simp only [Act.put, List.setIfInBounds_toArray, List.set_cons_zero, List.set_cons_succ]
              refine anyR_branch [11] (by kernel_rfl) rfl ?_
              refine brs_cons (o := ?_) ?_ ?_ ?_
              rotate_left
              · (conv => (lhs; whnf; arg 1; whnf))
              · refine stepB_c (by rfl) (fun K hK => ?_)
                refine wp_stN ntNat rfl rfl (m := bo) rfl bo_3.out ?_
                intro tq4 hd hg
                have bo_4 := Lib.hid hd
                have B_4 := Lib.hid (B_3.out.grown hg B_3.out.size (fun j e => by injection e with e; have := mbo.out; omega))
                have R_4 : Hid (Below (p19.heap.size) tq3 tq4) := Lib.hid ((Below.refl _ _).grown hg B_3.out.size (fun j e => by injection e with e; have := mbo.out; omega))
                clear hd hg
                refine hK _ _ R_4.out ?_
                clear hK R_4
                clear bo_3 x_3 z_3 B_3
                try simp only [Act.put, List.setIfInBounds_toArray, List.set_cons_zero, List.set_cons_succ]
                refine anyR_at (o := ?_) (i := 12) ?_ ?_
                rotate_left
                · (conv => (lhs; whnf; arg 1; whnf))
                refine anyR_y hRR hRT (by kernel_rfl) (v := ?_) (by kernel_rfl) (by rfl) (fun W hW => ?_) ?_
                rotate_left
                · go_simp; try with_reducible rfl
                try simp only [Act.put, List.setIfInBounds_toArray, List.set_cons_zero, List.set_cons_succ]
                refine anyR_end (by kernel_rfl) ?_
                dsimp only [Exit.then]
                go_step
                go_meet
                exact ⟨_, rfl, rfl, bo_4.out, B_4.out⟩
              exact brs_nil
            exact brs_nil
          refine brs_cons (o := ?_) ?_ ?_ ?_
          rotate_left
          · (conv => (lhs; whnf; arg 1; whnf))
          · refine stepB_c (by rfl) (fun K hK => ?_)
            go_simp
            have hb : Below tq1.heap.size tq1 (tq1.alloc (.cells z0 37)) := (Below.refl _ _).alloc (Nat.le_refl _) _
            have x_5 := Lib.hid (x_1.out.below hb)
            have z_5 := Lib.hid (z_1.out.below hb)
            have B_5 := Lib.hid (B_1.out.trans (hb.mono B_1.out.size))
            have R_5 := Lib.hid (hb.mono B_1.out.size)
            have bo_5 := Lib.hid (NatAt.zero tq1)
            have mbo : Hid (p19.heap.size ≤ tq1.heap.size) := Lib.hid B_1.out.size
            clear hb
            generalize (tq1.alloc (.cells z0 37)) = tq5 at *
            refine hK _ _ R_5.out ?_
            clear hK R_5
            generalize tq1.heap.size = bbo at *
            clear x_1 z_1 B_1
            try simp only [Act.put, List.setIfInBounds_toArray, List.set_cons_zero, List.set_cons_succ]
            refine anyR_branch [6] (by kernel_rfl) rfl ?_
            refine brs_cons (o := ?_) ?_ ?_ ?_
            rotate_left
            · (conv => (lhs; whnf; arg 1; whnf))
            · refine stepB_c (by rfl) (fun K hK => ?_)
              go_simp
              refine (mexp_ok _ HFz.out H0.out HFx.out Fss.out EBO.out).mono ?_
              rintro e tq6 ⟨rfl, hb⟩
              have bo_6 := Lib.hid (bo_5.out.below hb)
              have x_6 := Lib.hid (x_5.out.below hb)
              have z_6 := Lib.hid (z_5.out.below hb)
              have B_6 := Lib.hid (B_5.out.trans (hb.mono B_5.out.size))
              have R_6 := Lib.hid (hb.mono B_5.out.size)
              clear hb
              refine hK _ _ R_6.out ?_
              clear hK R_6
              clear bo_5 x_5 z_5 B_5
              try simp only [Act.put, List.setIfInBounds_toArray, List.set_cons_zero, List.set_cons_succ]
              refine anyR_at (o := ?_) (i := 7) ?_ ?_
              rotate_left
              · (conv => (lhs; whnf; arg 1; whnf))
              refine anyR_y hRR hRT (by kernel_rfl) (v := ?_) (by kernel_rfl) (by rfl) (fun W hW => ?_) ?_
              rotate_left
              · go_simp; try with_reducible rfl
              try simp only [Act.put, List.setIfInBounds_toArray, List.set_cons_zero, List.set_cons_succ]
              refine anyR_at (o := ?_) (i := 8) ?_ ?_
              rotate_left
              · (conv => (lhs; whnf; arg 1; whnf))
              refine anyR_y hRR hRT (by kernel_rfl) (v := ?_) (by kernel_rfl) (by rfl) (fun W hW => ?_) ?_
              rotate_left
              · go_simp; try with_reducible rfl
              try simp only [Act.put, List.setIfInBounds_toArray, List.set_cons_zero, List.set_cons_succ]
              refine anyR_at (o := ?_) (i := 9) ?_ ?_
              rotate_left
              · (conv => (lhs; whnf; arg 1; whnf))
              refine anyR_y hRR hRT (by kernel_rfl) (v := ?_) (by kernel_rfl) (by rfl) (fun W hW => ?_) ?_
              rotate_left
              · go_simp; try with_reducible rfl
              try simp only [Act.put, List.setIfInBounds_toArray, List.set_cons_zero, List.set_cons_succ]
              refine anyR_branch [11] (by kernel_rfl) rfl ?_
              refine brs_cons (o := ?_) ?_ ?_ ?_
              rotate_left
              · (conv => (lhs; whnf; arg 1; whnf))
              · refine stepB_c (by rfl) (fun K hK => ?_)
                refine wp_stN ntNat rfl rfl (m := bo) rfl bo_6.out ?_
                intro tq7 hd hg
                have bo_7 := Lib.hid hd
                have B_7 := Lib.hid (B_6.out.grown hg B_6.out.size (fun j e => by injection e with e; have := mbo.out; omega))
                have R_7 : Hid (Below (p19.heap.size) tq6 tq7) := Lib.hid ((Below.refl _ _).grown hg B_6.out.size (fun j e => by injection e with e; have := mbo.out; omega))
                clear hd hg
                refine hK _ _ R_7.out ?_
                clear hK R_7
                clear bo_6 x_6 z_6 B_6
                try simp only [Act.put, List.setIfInBounds_toArray, List.set_cons_zero, List.set_cons_succ]
                refine anyR_at (o := ?_) (i := 12) ?_ ?_
                rotate_left
                · (conv => (lhs; whnf; arg 1; whnf))
                refine anyR_y hRR hRT (by kernel_rfl) (v := ?_) (by kernel_rfl) (by rfl) (fun W hW => ?_) ?_
                rotate_left
                · go_simp; try with_reducible rfl
                try simp only [Act.put, List.setIfInBounds_toArray, List.set_cons_zero, List.set_cons_succ]
                refine anyR_end (by kernel_rfl) ?_
                dsimp only [Exit.then]
                go_step
                go_meet
                exact ⟨_, rfl, rfl, bo_7.out, B_7.out⟩
              exact brs_nil
            exact brs_nil
          exact brs_nil
        refine brs_cons (o := ?_) ?_ ?_ ?_
        rotate_left
        · (conv => (lhs; whnf; arg 1; whnf))
        · refine stepB_c (by rfl) (fun K hK => ?_)
          go_simp
          have hb : Below tq0.heap.size tq0 (tq0.alloc (.cells z0 37)) := (Below.refl _ _).alloc (Nat.le_refl _) _
          have x_8 := Lib.hid (YY_x.out.below hb)
          have z_8 := Lib.hid (YY_z.out.below hb)
          have B_8 := Lib.hid (BX.out.trans (hb.mono BX.out.size))
          have R_8 := Lib.hid (hb.mono BX.out.size)
          have bo_8 := Lib.hid (NatAt.zero tq0)
          have mbo : Hid (p19.heap.size ≤ tq0.heap.size) := Lib.hid BX.out.size
          clear hb
          generalize (tq0.alloc (.cells z0 37)) = tq8 at *
          refine hK _ _ R_8.out ?_
          clear hK R_8
          generalize tq0.heap.size = bbo at *
          try simp only [Act.put, List.setIfInBounds_toArray, List.set_cons_zero, List.set_cons_succ]
          refine anyR_branch [4] (by kernel_rfl) rfl ?_
          refine brs_cons (o := ?_) ?_ ?_ ?_
          rotate_left
          · (conv => (lhs; whnf; arg 1; whnf))
          · refine stepB_c (by rfl) (fun K hK => ?_)
            go_simp
            refine (Kss.out _).mono ?_
            rintro e tq9 ⟨rfl, hb⟩
            have bo_9 := Lib.hid (bo_8.out.below hb)
            have x_9 := Lib.hid (x_8.out.below hb)
            have z_9 := Lib.hid (z_8.out.below hb)
            have B_9 := Lib.hid (B_8.out.trans (hb.mono B_8.out.size))
            have R_9 := Lib.hid (hb.mono B_8.out.size)
            clear hb
            refine hK _ _ R_9.out ?_
            clear hK R_9
            clear bo_8 x_8 z_8 B_8
            try simp only [Act.put, List.setIfInBounds_toArray, List.set_cons_zero, List.set_cons_succ]
            refine anyR_branch [6] (by kernel_rfl) rfl ?_
            refine brs_cons (o := ?_) ?_ ?_ ?_
            rotate_left
            · (conv => (lhs; whnf; arg 1; whnf))
            · refine stepB_c (by rfl) (fun K hK => ?_)
              go_simp
              refine (mexp_ok _ HFz.out H0.out HFx.out Fss.out EBO.out).mono ?_
              rintro e tq10 ⟨rfl, hb⟩
              have bo_10 := Lib.hid (bo_9.out.below hb)
              have x_10 := Lib.hid (x_9.out.below hb)
              have z_10 := Lib.hid (z_9.out.below hb)
              have B_10 := Lib.hid (B_9.out.trans (hb.mono B_9.out.size))
              have R_10 := Lib.hid (hb.mono B_9.out.size)
              clear hb
              refine hK _ _ R_10.out ?_
              clear hK R_10
              clear bo_9 x_9 z_9 B_9
              try simp only [Act.put, List.setIfInBounds_toArray, List.set_cons_zero, List.set_cons_succ]
              refine anyR_at (o := ?_) (i := 7) ?_ ?_
              rotate_left
              · (conv => (lhs; whnf; arg 1; whnf))
              refine anyR_y hRR hRT (by kernel_rfl) (v := ?_) (by kernel_rfl) (by rfl) (fun W hW => ?_) ?_
              rotate_left
              · go_simp; try with_reducible rfl
              try simp only [Act.put, List.setIfInBounds_toArray, List.set_cons_zero, List.set_cons_succ]
              refine anyR_at (o := ?_) (i := 8) ?_ ?_
              rotate_left
              · (conv => (lhs; whnf; arg 1; whnf))
              refine anyR_y hRR hRT (by kernel_rfl) (v := ?_) (by kernel_rfl) (by rfl) (fun W hW => ?_) ?_
              rotate_left
              · go_simp; try with_reducible rfl
              try simp only [Act.put, List.setIfInBounds_toArray, List.set_cons_zero, List.set_cons_succ]
              refine anyR_at (o := ?_) (i := 9) ?_ ?_
              rotate_left
              · (conv => (lhs; whnf; arg 1; whnf))
              refine anyR_y hRR hRT (by kernel_rfl) (v := ?_) (by kernel_rfl) (by rfl) (fun W hW => ?_) ?_
              rotate_left
              · go_simp; try with_reducible rfl
              try simp only [Act.put, List.setIfInBounds_toArray, List.set_cons_zero, List.set_cons_succ]
              refine anyR_branch [11] (by kernel_rfl) rfl ?_
              refine brs_cons (o := ?_) ?_ ?_ ?_
              rotate_left
              · (conv => (lhs; whnf; arg 1; whnf))
              · refine stepB_c (by rfl) (fun K hK => ?_)
                refine wp_stN ntNat rfl rfl (m := bo) rfl bo_10.out ?_
                intro tq11 hd hg
                have bo_11 := Lib.hid hd
                have B_11 := Lib.hid (B_10.out.grown hg B_10.out.size (fun j e => by injection e with e; have := mbo.out; omega))
                have R_11 : Hid (Below (p19.heap.size) tq10 tq11) := Lib.hid ((Below.refl _ _).grown hg B_10.out.size (fun j e => by injection e with e; have := mbo.out; omega))
                clear hd hg
                refine hK _ _ R_11.out ?_
                clear hK R_11
                clear bo_10 x_10 z_10 B_10
                try simp only [Act.put, List.setIfInBounds_toArray, List.set_cons_zero, List.set_cons_succ]
                refine anyR_at (o := ?_) (i := 12) ?_ ?_
                rotate_left
                · (conv => (lhs; whnf; arg 1; whnf))
                refine anyR_y hRR hRT (by kernel_rfl) (v := ?_) (by kernel_rfl) (by rfl) (fun W hW => ?_) ?_
                rotate_left
                · go_simp; try with_reducible rfl
                try simp only [Act.put, List.setIfInBounds_toArray, List.set_cons_zero, List.set_cons_succ]
                refine anyR_end (by kernel_rfl) ?_
                dsimp only [Exit.then]
                go_step
                go_meet
                exact ⟨_, rfl, rfl, bo_11.out, B_11.out⟩
              exact brs_nil
            exact brs_nil
          exact brs_nil
        exact brs_nil
      case rest =>
        obtain ⟨b20, rfl, rfl, hn, hb⟩ := hcut
        have z_20 := Lib.hid (z_19.out.below hb)
        have x_20 := Lib.hid (x_19.out.below hb)
        have u_20 := Lib.hid (u_19.out.below hb)
        have v2_20 := Lib.hid (v2_19.out.below hb)
        have W_20 := Lib.hid (W_19.out.trans (hb.mono W_19.out.size))
        have bo_20 := Lib.hid hn
        clear hn hb z_19 x_19 u_19 v2_19 W_19
        generalize wc = p20 at *
        clear x_20
        go_wp2_with (first | go_skip | (refine wpl_ldN ntNat rfl rfl rfl z_20.out ?_) | (refine wpl_ldN_g ntNat ?hw rfl rfl z_20.out ?_; (case hw => rfl)) | (refine wpl_ldN ntNat rfl rfl rfl u_20.out ?_) | (refine wpl_ldN_g ntNat ?hw rfl rfl u_20.out ?_; (case hw => rfl)) | (refine wpl_ldN ntNat rfl rfl rfl v2_20.out ?_) | (refine wpl_ldN_g ntNat ?hw rfl rfl v2_20.out ?_; (case hw => rfl)) | (refine wpl_ldN ntNat rfl rfl rfl bo_20.out ?_) | (refine wpl_ldN_g ntNat ?hw rfl rfl bo_20.out ?_; (case hw => rfl)))
        refine (mmul_ok _ HFz.out H0.out Fu.out Fv2.out EP.out).mono ?_
        rintro e p21 ⟨rfl, hb⟩
        have XT0_21 := Lib.hid (NatAt.zero p21)
        have XA_21 := Lib.hid (below_zero hb hb.size)
        have hsz_21 := Lib.hid hb.size
        clear hb
        go_wp2_with (first | go_skip | (refine wpl_stN ntNat rfl rfl rfl rfl XT0_21.out ?_; intro q21 hn hg; have XB0_21 := Lib.hid (XA_21.out.grown hg XA_21.out.size (fun j e => by injection e with e; rw [← e]; have := hsz_21.out; omega)); have XS00_21 := Lib.hid hn; have z_21 := Lib.hid (z_20.out.below XB0_21.out); have u_21 := Lib.hid (u_20.out.below XB0_21.out); have v2_21 := Lib.hid (v2_20.out.below XB0_21.out); have bo_21 := Lib.hid (bo_20.out.below XB0_21.out); have W_21 := Lib.hid (W_20.out.trans (XB0_21.out.mono W_20.out.size)); have pr_21 := XS00_21; clear hn hg z_20 u_20 v2_20 bo_20 W_20 XT0_21 XA_21 XS00_21 XB0_21 hsz_21) | (refine wpl_ldN ntNat rfl rfl rfl z_21.out ?_) | (refine wpl_ldN_g ntNat ?hw rfl rfl z_21.out ?_; (case hw => rfl)) | (refine wpl_ldN ntNat rfl rfl rfl u_21.out ?_) | (refine wpl_ldN_g ntNat ?hw rfl rfl u_21.out ?_; (case hw => rfl)) | (refine wpl_ldN ntNat rfl rfl rfl v2_21.out ?_) | (refine wpl_ldN_g ntNat ?hw rfl rfl v2_21.out ?_; (case hw => rfl)) | (refine wpl_ldN ntNat rfl rfl rfl bo_21.out ?_) | (refine wpl_ldN_g ntNat ?hw rfl rfl bo_21.out ?_; (case hw => rfl)) | (refine wpl_ldN ntNat rfl rfl rfl pr_21.out ?_) | (refine wpl_ldN_g ntNat ?hw rfl rfl pr_21.out ?_; (case hw => rfl)) | (refine wpl_neN (v := false) ?hw rfl rfl rfl ?ha ?hb ?hv ?_; (case hw => rfl); (case ha => (with_reducible (first | exact FL.out | exact Fr1.out | exact Ft.out | exact Fbo.out))); (case hb => (with_reducible (first | exact FL.out | exact Fr1.out | exact Ft.out | exact Fbo.out))); (case hv => simp)) | (refine wpl_eqN (v := true) ?hw rfl rfl rfl ?ha ?hb ?hv ?_; (case hw => rfl); (case ha => (with_reducible (first | exact FL.out | exact Fr1.out | exact Ft.out | exact Fbo.out))); (case hb => (with_reducible (first | exact FL.out | exact Fr1.out | exact Ft.out | exact Fbo.out))); (case hv => simp)))
        clear u_21
        clear v2_21
        clear bo_21
        clear pr_21
        clear z_21
        refine (known2_any _).mono ?_
        rintro e p22 ⟨rfl, hb⟩
        have W_22 := Lib.hid (W_21.out.trans (hb.mono W_21.out.size))
        clear hb W_21
        go_wp2_with fail
        go_ret
        exact ⟨rfl, W_22.out⟩

set_option maxHeartbeats 12800000 in
theorem mh_any (va : Value) (xa : List UInt8) (vb : Value) (xb : List UInt8) (vc : Value) (xc : List UInt8) (vm : Value) (xm : List UInt8) (n k : Int) (w : World) (ha : Byt w va xa) (hb : Byt w vb xb) (hc : Byt w vc xc) (hm : Byt w vm xm) (hn : -9223372036854775808 ≤ n ∧ n ≤ 9223372036854775807) (hk : -9223372036854775808 ≤ k ∧ k ≤ 9223372036854775807) :
    Calls Try.prog 4 #[va, vb, vc, vm, .int .i64 n, .int .i64 k] w fun e w' => e = .returned (.bool true) ∧ Below w.heap.size w w' := by
  have HA := Lib.hid ha
  have HB := Lib.hid hb
  have HC := Lib.hid hc
  have HM := Lib.hid hm
  obtain ⟨A, c, rfl, -⟩ := ha.len
  obtain ⟨B, d, rfl, -⟩ := hb.len
  obtain ⟨C, cc, rfl, -⟩ := hc.len
  obtain ⟨M, cm, rfl, mc, mm⟩ := hm.len
  have HLM := Lib.hid (maxLen_le (Nat.le_trans mc mm.1))
  have FM := Lib.hid (fit_fromN xm)
  clear ha hb hc hm mc mm
  by_cases ka : 24 < xa.length
  · skip
    have da : decide (24 < (xa.length : Int)) = true := decide_eq_true (by omega)
    clear hn hk ka
    go_enter Try.func4, Try.ntmps4
    go_wp2_with fail
    refine (made_wide _ _ _ HM.out HLM.out).mono ?_
    rintro e p1 ⟨rfl, hb⟩
    have XT0_1 := Lib.hid (NatAt.zero p1)
    have XA_1 := Lib.hid (below_zero hb hb.size)
    have hsz_1 := Lib.hid hb.size
    clear hb
    go_wp2_with (first | go_skip | (refine wpl_stN ntNat rfl rfl rfl rfl XT0_1.out ?_; intro q1 hn hg; have XB0_1 := Lib.hid (XA_1.out.grown hg XA_1.out.size (fun j e => by injection e with e; rw [← e]; have := hsz_1.out; omega)); have XS00_1 := Lib.hid hn; have M_1 := Lib.hid (HM.out.below XB0_1.out); have W_1 := Lib.hid (XB0_1.out); have z_1 := XS00_1; clear hn hg HM XT0_1 XA_1 XS00_1 XB0_1 hsz_1) | (refine wpl_ldN ntNat rfl rfl rfl z_1.out ?_) | (refine wpl_ldN_g ntNat ?hw rfl rfl z_1.out ?_; (case hw => rfl)))
    clear M_1
    refine (known2_any _).mono ?_
    rintro e p2 ⟨rfl, hb⟩
    have z_2 := Lib.hid (z_1.out.below hb)
    have W_2 := Lib.hid (W_1.out.trans (hb.mono W_1.out.size))
    clear hb z_1 W_1
    go_wp2_with (first | go_skip | (refine wpl_ldN ntNat rfl rfl rfl z_2.out ?_) | (refine wpl_ldN_g ntNat ?hw rfl rfl z_2.out ?_; (case hw => rfl)))
    go_ret
    exact ⟨rfl, W_2.out⟩
  · skip
    have da : decide (24 < (xa.length : Int)) = false := decide_eq_false (by omega)
    by_cases kb : 24 < xb.length
    · skip
      have db : decide (24 < (xb.length : Int)) = true := decide_eq_true (by omega)
      clear hn hk kb ka
      go_enter Try.func4, Try.ntmps4
      go_wp2_with fail
      refine (made_wide _ _ _ HM.out HLM.out).mono ?_
      rintro e p1 ⟨rfl, hb⟩
      have XT0_1 := Lib.hid (NatAt.zero p1)
      have XA_1 := Lib.hid (below_zero hb hb.size)
      have hsz_1 := Lib.hid hb.size
      clear hb
      go_wp2_with (first | go_skip | (refine wpl_stN ntNat rfl rfl rfl rfl XT0_1.out ?_; intro q1 hn hg; have XB0_1 := Lib.hid (XA_1.out.grown hg XA_1.out.size (fun j e => by injection e with e; rw [← e]; have := hsz_1.out; omega)); have XS00_1 := Lib.hid hn; have M_1 := Lib.hid (HM.out.below XB0_1.out); have W_1 := Lib.hid (XB0_1.out); have z_1 := XS00_1; clear hn hg HM XT0_1 XA_1 XS00_1 XB0_1 hsz_1) | (refine wpl_ldN ntNat rfl rfl rfl z_1.out ?_) | (refine wpl_ldN_g ntNat ?hw rfl rfl z_1.out ?_; (case hw => rfl)))
      clear M_1
      refine (known2_any _).mono ?_
      rintro e p2 ⟨rfl, hb⟩
      have z_2 := Lib.hid (z_1.out.below hb)
      have W_2 := Lib.hid (W_1.out.trans (hb.mono W_1.out.size))
      clear hb z_1 W_1
      go_wp2_with (first | go_skip | (refine wpl_ldN ntNat rfl rfl rfl z_2.out ?_) | (refine wpl_ldN_g ntNat ?hw rfl rfl z_2.out ?_; (case hw => rfl)))
      go_ret
      exact ⟨rfl, W_2.out⟩
    · skip
      have db : decide (24 < (xb.length : Int)) = false := decide_eq_false (by omega)
      by_cases kc : 24 < xc.length
      · skip
        have dc : decide (24 < (xc.length : Int)) = true := decide_eq_true (by omega)
        clear hn hk kc ka kb
        go_enter Try.func4, Try.ntmps4
        go_wp2_with fail
        refine (made_wide _ _ _ HM.out HLM.out).mono ?_
        rintro e p1 ⟨rfl, hb⟩
        have XT0_1 := Lib.hid (NatAt.zero p1)
        have XA_1 := Lib.hid (below_zero hb hb.size)
        have hsz_1 := Lib.hid hb.size
        clear hb
        go_wp2_with (first | go_skip | (refine wpl_stN ntNat rfl rfl rfl rfl XT0_1.out ?_; intro q1 hn hg; have XB0_1 := Lib.hid (XA_1.out.grown hg XA_1.out.size (fun j e => by injection e with e; rw [← e]; have := hsz_1.out; omega)); have XS00_1 := Lib.hid hn; have M_1 := Lib.hid (HM.out.below XB0_1.out); have W_1 := Lib.hid (XB0_1.out); have z_1 := XS00_1; clear hn hg HM XT0_1 XA_1 XS00_1 XB0_1 hsz_1) | (refine wpl_ldN ntNat rfl rfl rfl z_1.out ?_) | (refine wpl_ldN_g ntNat ?hw rfl rfl z_1.out ?_; (case hw => rfl)))
        clear M_1
        refine (known2_any _).mono ?_
        rintro e p2 ⟨rfl, hb⟩
        have z_2 := Lib.hid (z_1.out.below hb)
        have W_2 := Lib.hid (W_1.out.trans (hb.mono W_1.out.size))
        clear hb z_1 W_1
        go_wp2_with (first | go_skip | (refine wpl_ldN ntNat rfl rfl rfl z_2.out ?_) | (refine wpl_ldN_g ntNat ?hw rfl rfl z_2.out ?_; (case hw => rfl)))
        go_ret
        exact ⟨rfl, W_2.out⟩
      · skip
        have dc : decide (24 < (xc.length : Int)) = false := decide_eq_false (by omega)
        by_cases km : 24 < xm.length
        · skip
          have dm : decide (24 < (xm.length : Int)) = true := decide_eq_true (by omega)
          clear hn hk km ka kb kc
          go_enter Try.func4, Try.ntmps4
          go_wp2_with fail
          refine (made_wide _ _ _ HM.out HLM.out).mono ?_
          rintro e p1 ⟨rfl, hb⟩
          have XT0_1 := Lib.hid (NatAt.zero p1)
          have XA_1 := Lib.hid (below_zero hb hb.size)
          have hsz_1 := Lib.hid hb.size
          clear hb
          go_wp2_with (first | go_skip | (refine wpl_stN ntNat rfl rfl rfl rfl XT0_1.out ?_; intro q1 hn hg; have XB0_1 := Lib.hid (XA_1.out.grown hg XA_1.out.size (fun j e => by injection e with e; rw [← e]; have := hsz_1.out; omega)); have XS00_1 := Lib.hid hn; have M_1 := Lib.hid (HM.out.below XB0_1.out); have W_1 := Lib.hid (XB0_1.out); have z_1 := XS00_1; clear hn hg HM XT0_1 XA_1 XS00_1 XB0_1 hsz_1) | (refine wpl_ldN ntNat rfl rfl rfl z_1.out ?_) | (refine wpl_ldN_g ntNat ?hw rfl rfl z_1.out ?_; (case hw => rfl)))
          clear M_1
          refine (known2_any _).mono ?_
          rintro e p2 ⟨rfl, hb⟩
          have z_2 := Lib.hid (z_1.out.below hb)
          have W_2 := Lib.hid (W_1.out.trans (hb.mono W_1.out.size))
          clear hb z_1 W_1
          go_wp2_with (first | go_skip | (refine wpl_ldN ntNat rfl rfl rfl z_2.out ?_) | (refine wpl_ldN_g ntNat ?hw rfl rfl z_2.out ?_; (case hw => rfl)))
          go_ret
          exact ⟨rfl, W_2.out⟩
        · skip
          have dm : decide (24 < (xm.length : Int)) = false := decide_eq_false (by omega)
          by_cases hz : fromN xm = 0
          · have HZ := Lib.hid hz
            clear hz hn hk ka kb kc km
            go_enter Try.func4, Try.ntmps4
            go_wp2_with fail
            refine (made_wide _ _ _ HM.out HLM.out).mono ?_
            rintro e p1 ⟨rfl, hb⟩
            have XT0_1 := Lib.hid (NatAt.zero p1)
            have XA_1 := Lib.hid (below_zero hb hb.size)
            have hsz_1 := Lib.hid hb.size
            clear hb
            go_wp2_with (first | go_skip | (refine wpl_stN ntNat rfl rfl rfl rfl XT0_1.out ?_; intro q1 hn hg; have XB0_1 := Lib.hid (XA_1.out.grown hg XA_1.out.size (fun j e => by injection e with e; rw [← e]; have := hsz_1.out; omega)); have XS00_1 := Lib.hid hn; have M_1 := Lib.hid (HM.out.below XB0_1.out); have W_1 := Lib.hid (XB0_1.out); have z_1 := XS00_1; clear hn hg HM XT0_1 XA_1 XS00_1 XB0_1 hsz_1) | (refine wpl_ldN ntNat rfl rfl rfl z_1.out ?_) | (refine wpl_ldN_g ntNat ?hw rfl rfl z_1.out ?_; (case hw => rfl)))
            clear M_1
            refine (isZero_ok _ FM.out (c := true) (by simp [HZ.out])).mono ?_
            rintro e p2 ⟨rfl, hb⟩
            have z_2 := Lib.hid (z_1.out.below hb)
            have W_2 := Lib.hid (W_1.out.trans (hb.mono W_1.out.size))
            clear hb z_1 W_1
            go_wp2_with (first | go_skip | (refine wpl_ldN ntNat rfl rfl rfl z_2.out ?_) | (refine wpl_ldN_g ntNat ?hw rfl rfl z_2.out ?_; (case hw => rfl)))
            refine (known2_any _).mono ?_
            rintro e p3 ⟨rfl, hb⟩
            have z_3 := Lib.hid (z_2.out.below hb)
            have W_3 := Lib.hid (W_2.out.trans (hb.mono W_2.out.size))
            clear hb z_2 W_2
            go_wp2_with (first | go_skip | (refine wpl_ldN ntNat rfl rfl rfl z_3.out ?_) | (refine wpl_ldN_g ntNat ?hw rfl rfl z_3.out ?_; (case hw => rfl)))
            go_ret
            exact ⟨rfl, W_3.out⟩
          · have HZ := Lib.hid hz
            by_cases hn0 : n < 0
            · skip
              have gn0 : decide (n < 0) = true := decide_eq_true (by omega)
              clear hz hn hk ka kb kc km hn0
              go_enter Try.func4, Try.ntmps4
              go_wp2_with fail
              refine (made_wide _ _ _ HM.out HLM.out).mono ?_
              rintro e p1 ⟨rfl, hb⟩
              have XT0_1 := Lib.hid (NatAt.zero p1)
              have XA_1 := Lib.hid (below_zero hb hb.size)
              have hsz_1 := Lib.hid hb.size
              clear hb
              go_wp2_with (first | go_skip | (refine wpl_stN ntNat rfl rfl rfl rfl XT0_1.out ?_; intro q1 hn hg; have XB0_1 := Lib.hid (XA_1.out.grown hg XA_1.out.size (fun j e => by injection e with e; rw [← e]; have := hsz_1.out; omega)); have XS00_1 := Lib.hid hn; have M_1 := Lib.hid (HM.out.below XB0_1.out); have W_1 := Lib.hid (XB0_1.out); have z_1 := XS00_1; clear hn hg HM XT0_1 XA_1 XS00_1 XB0_1 hsz_1) | (refine wpl_ldN ntNat rfl rfl rfl z_1.out ?_) | (refine wpl_ldN_g ntNat ?hw rfl rfl z_1.out ?_; (case hw => rfl)))
              clear M_1
              refine (isZero_ok _ FM.out (c := false) (by simp [HZ.out])).mono ?_
              rintro e p2 ⟨rfl, hb⟩
              have z_2 := Lib.hid (z_1.out.below hb)
              have W_2 := Lib.hid (W_1.out.trans (hb.mono W_1.out.size))
              clear hb z_1 W_1
              go_wp2_with (first | go_skip | (refine wpl_ldN ntNat rfl rfl rfl z_2.out ?_) | (refine wpl_ldN_g ntNat ?hw rfl rfl z_2.out ?_; (case hw => rfl)))
              refine (known2_any _).mono ?_
              rintro e p3 ⟨rfl, hb⟩
              have z_3 := Lib.hid (z_2.out.below hb)
              have W_3 := Lib.hid (W_2.out.trans (hb.mono W_2.out.size))
              clear hb z_2 W_2
              go_wp2_with (first | go_skip | (refine wpl_ldN ntNat rfl rfl rfl z_3.out ?_) | (refine wpl_ldN_g ntNat ?hw rfl rfl z_3.out ?_; (case hw => rfl)))
              go_ret
              exact ⟨rfl, W_3.out⟩
            · skip
              have gn0 : decide (n < 0) = false := decide_eq_false (by omega)
              by_cases hk0 : k < 0
              · skip
                have gk0 : decide (k < 0) = true := decide_eq_true (by omega)
                clear hz hn hk ka kb kc km hn0 hk0
                go_enter Try.func4, Try.ntmps4
                go_wp2_with fail
                refine (made_wide _ _ _ HM.out HLM.out).mono ?_
                rintro e p1 ⟨rfl, hb⟩
                have XT0_1 := Lib.hid (NatAt.zero p1)
                have XA_1 := Lib.hid (below_zero hb hb.size)
                have hsz_1 := Lib.hid hb.size
                clear hb
                go_wp2_with (first | go_skip | (refine wpl_stN ntNat rfl rfl rfl rfl XT0_1.out ?_; intro q1 hn hg; have XB0_1 := Lib.hid (XA_1.out.grown hg XA_1.out.size (fun j e => by injection e with e; rw [← e]; have := hsz_1.out; omega)); have XS00_1 := Lib.hid hn; have M_1 := Lib.hid (HM.out.below XB0_1.out); have W_1 := Lib.hid (XB0_1.out); have z_1 := XS00_1; clear hn hg HM XT0_1 XA_1 XS00_1 XB0_1 hsz_1) | (refine wpl_ldN ntNat rfl rfl rfl z_1.out ?_) | (refine wpl_ldN_g ntNat ?hw rfl rfl z_1.out ?_; (case hw => rfl)))
                clear M_1
                refine (isZero_ok _ FM.out (c := false) (by simp [HZ.out])).mono ?_
                rintro e p2 ⟨rfl, hb⟩
                have z_2 := Lib.hid (z_1.out.below hb)
                have W_2 := Lib.hid (W_1.out.trans (hb.mono W_1.out.size))
                clear hb z_1 W_1
                go_wp2_with (first | go_skip | (refine wpl_ldN ntNat rfl rfl rfl z_2.out ?_) | (refine wpl_ldN_g ntNat ?hw rfl rfl z_2.out ?_; (case hw => rfl)))
                refine (known2_any _).mono ?_
                rintro e p3 ⟨rfl, hb⟩
                have z_3 := Lib.hid (z_2.out.below hb)
                have W_3 := Lib.hid (W_2.out.trans (hb.mono W_2.out.size))
                clear hb z_2 W_2
                go_wp2_with (first | go_skip | (refine wpl_ldN ntNat rfl rfl rfl z_3.out ?_) | (refine wpl_ldN_g ntNat ?hw rfl rfl z_3.out ?_; (case hw => rfl)))
                go_ret
                exact ⟨rfl, W_3.out⟩
              · skip
                have gk0 : decide (k < 0) = false := decide_eq_false (by omega)
                by_cases hn1 : 1048576 < n
                · skip
                  have gn1 : decide (1048576 < n) = true := decide_eq_true (by omega)
                  clear hz hn hk ka kb kc km hn0 hk0 hn1
                  go_enter Try.func4, Try.ntmps4
                  go_wp2_with fail
                  refine (made_wide _ _ _ HM.out HLM.out).mono ?_
                  rintro e p1 ⟨rfl, hb⟩
                  have XT0_1 := Lib.hid (NatAt.zero p1)
                  have XA_1 := Lib.hid (below_zero hb hb.size)
                  have hsz_1 := Lib.hid hb.size
                  clear hb
                  go_wp2_with (first | go_skip | (refine wpl_stN ntNat rfl rfl rfl rfl XT0_1.out ?_; intro q1 hn hg; have XB0_1 := Lib.hid (XA_1.out.grown hg XA_1.out.size (fun j e => by injection e with e; rw [← e]; have := hsz_1.out; omega)); have XS00_1 := Lib.hid hn; have M_1 := Lib.hid (HM.out.below XB0_1.out); have W_1 := Lib.hid (XB0_1.out); have z_1 := XS00_1; clear hn hg HM XT0_1 XA_1 XS00_1 XB0_1 hsz_1) | (refine wpl_ldN ntNat rfl rfl rfl z_1.out ?_) | (refine wpl_ldN_g ntNat ?hw rfl rfl z_1.out ?_; (case hw => rfl)))
                  clear M_1
                  refine (isZero_ok _ FM.out (c := false) (by simp [HZ.out])).mono ?_
                  rintro e p2 ⟨rfl, hb⟩
                  have z_2 := Lib.hid (z_1.out.below hb)
                  have W_2 := Lib.hid (W_1.out.trans (hb.mono W_1.out.size))
                  clear hb z_1 W_1
                  go_wp2_with (first | go_skip | (refine wpl_ldN ntNat rfl rfl rfl z_2.out ?_) | (refine wpl_ldN_g ntNat ?hw rfl rfl z_2.out ?_; (case hw => rfl)))
                  refine (known2_any _).mono ?_
                  rintro e p3 ⟨rfl, hb⟩
                  have z_3 := Lib.hid (z_2.out.below hb)
                  have W_3 := Lib.hid (W_2.out.trans (hb.mono W_2.out.size))
                  clear hb z_2 W_2
                  go_wp2_with (first | go_skip | (refine wpl_ldN ntNat rfl rfl rfl z_3.out ?_) | (refine wpl_ldN_g ntNat ?hw rfl rfl z_3.out ?_; (case hw => rfl)))
                  go_ret
                  exact ⟨rfl, W_3.out⟩
                · skip
                  have gn1 : decide (1048576 < n) = false := decide_eq_false (by omega)
                  by_cases hk1 : 1048576 < k
                  · skip
                    have gk1 : decide (1048576 < k) = true := decide_eq_true (by omega)
                    clear hz hn hk ka kb kc km hn0 hk0 hn1 hk1
                    go_enter Try.func4, Try.ntmps4
                    go_wp2_with fail
                    refine (made_wide _ _ _ HM.out HLM.out).mono ?_
                    rintro e p1 ⟨rfl, hb⟩
                    have XT0_1 := Lib.hid (NatAt.zero p1)
                    have XA_1 := Lib.hid (below_zero hb hb.size)
                    have hsz_1 := Lib.hid hb.size
                    clear hb
                    go_wp2_with (first | go_skip | (refine wpl_stN ntNat rfl rfl rfl rfl XT0_1.out ?_; intro q1 hn hg; have XB0_1 := Lib.hid (XA_1.out.grown hg XA_1.out.size (fun j e => by injection e with e; rw [← e]; have := hsz_1.out; omega)); have XS00_1 := Lib.hid hn; have M_1 := Lib.hid (HM.out.below XB0_1.out); have W_1 := Lib.hid (XB0_1.out); have z_1 := XS00_1; clear hn hg HM XT0_1 XA_1 XS00_1 XB0_1 hsz_1) | (refine wpl_ldN ntNat rfl rfl rfl z_1.out ?_) | (refine wpl_ldN_g ntNat ?hw rfl rfl z_1.out ?_; (case hw => rfl)))
                    clear M_1
                    refine (isZero_ok _ FM.out (c := false) (by simp [HZ.out])).mono ?_
                    rintro e p2 ⟨rfl, hb⟩
                    have z_2 := Lib.hid (z_1.out.below hb)
                    have W_2 := Lib.hid (W_1.out.trans (hb.mono W_1.out.size))
                    clear hb z_1 W_1
                    go_wp2_with (first | go_skip | (refine wpl_ldN ntNat rfl rfl rfl z_2.out ?_) | (refine wpl_ldN_g ntNat ?hw rfl rfl z_2.out ?_; (case hw => rfl)))
                    refine (known2_any _).mono ?_
                    rintro e p3 ⟨rfl, hb⟩
                    have z_3 := Lib.hid (z_2.out.below hb)
                    have W_3 := Lib.hid (W_2.out.trans (hb.mono W_2.out.size))
                    clear hb z_2 W_2
                    go_wp2_with (first | go_skip | (refine wpl_ldN ntNat rfl rfl rfl z_3.out ?_) | (refine wpl_ldN_g ntNat ?hw rfl rfl z_3.out ?_; (case hw => rfl)))
                    go_ret
                    exact ⟨rfl, W_3.out⟩
                  · skip
                    have gk1 : decide (1048576 < k) = false := decide_eq_false (by omega)
                    obtain ⟨nn, rfl⟩ := Int.eq_ofNat_of_zero_le (show 0 ≤ n by omega)
                    obtain ⟨kk, rfl⟩ := Int.eq_ofNat_of_zero_le (show 0 ≤ k by omega)
                    have hf : fromN xm = numN xm := by unfold fromN; rw [if_pos (fit_num (xs := xm) (by omega))]
                    exact mh_n _ xa _ xb _ xc _ xm w HA.out HB.out HC.out HM.out (by omega) (by omega) (by omega) (by omega) _ _ _ _ rfl rfl rfl rfl nn kk (by omega) (by omega) (by rw [← hf]; exact hz)

end Go.Proofs.Ytfmadiepefbepaa
