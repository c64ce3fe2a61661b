/- Walk: FromBytes (printed by gennatk.py). -/
import Derived.Test.YtomiapceefbmeaaNatJ
import Derived.StillTailTactics
set_option linter.unusedVariables false
set_option linter.unusedSimpArgs false
set_option maxRecDepth 20000
namespace Go.Proofs.Ytomiapceefbmeaa
open Go.RowKit

/-- The number with some bytes, if it has at most 1024 bits, and the error. -/
def fromN (xs : List UInt8) : Nat := if Fit (numN xs) then numN xs else 0
def fromE (xs : List UInt8) : Int := if Fit (numN xs) then 0 else 7
theorem B32_le_pow {m p : Nat} (h : 32 * m ≤ p) : B32 m ≤ 2 ^ p := Nat.pow_le_pow_right (by decide) h
theorem B32_8 (m : Nat) : B32 (m * 8) = 2 ^ (8 * (m * 32)) := by unfold B32; congr 1; omega

theorem or_put (D x r : Nat) (hD : (D : Int) < 4294967296) (h : x * 2 ^ r < 4294967296) : bits .or .u32 (D : Int) ((x : Int) * 2 ^ r % 4294967296) = ((D ||| x * 2 ^ r : Nat) : Int) := by
  have e : (x : Int) * 2 ^ r % 4294967296 = ((x * 2 ^ r : Nat) : Int) := by
    have e2 : (x : Int) * 2 ^ r = ((x * 2 ^ r : Nat) : Int) := by simp
    rw [e2]
    omega
  rw [e, u32_or_nat _ _ (by omega) h]

set_option maxHeartbeats 3200000 in
theorem fromBytes_any (v : Value) (xs : List UInt8) (w : World) (h : Byt w v xs) (hn : xs.length ≤ lim) :
    Calls Try.prog 12 #[v] w fun e w' => e = .returned (.tuple #[.agg (natA (fromN xs)), .int .i64 (fromE xs)]) ∧ Below w.heap.size w w' := by
  obtain ⟨A, c, rfl, _⟩ := h.len
  have hln := lim_le hn
  have hli : (xs.length : Int) ≤ 1099511627776 := by omega
  have H := Lib.hid h
  clear h hn hln
  have HR : Hid (NatAt ((w.alloc (.cells z0 29)).alloc (.cells z0 29)) (w.heap.size) (0)) := Lib.hid (by
    have h := NatAt.new w (0) 29
    rw [natA_zero] at h
    replace h := h.alloc (.cells z0 29)
    simpa using h)
  have HZ : Hid (NatAt ((w.alloc (.cells z0 29)).alloc (.cells z0 29)) (w.heap.size + 1) (0)) := Lib.hid (by
    have h := NatAt.new (w.alloc (.cells z0 29)) (0) 29
    rw [natA_zero] at h
    simpa using h)
  have HW : Hid (Below w.heap.size w ((w.alloc (.cells z0 29)).alloc (.cells z0 29))) := Lib.hid (by
    have h := Below.refl w.heap.size w
    replace h := h.alloc h.size (.cells z0 29)
    replace h := h.alloc h.size (.cells z0 29)
    exact h)
  go_enter Try.func12, Try.ntmps12
  go_wp2_with fail
  generalize ((w.alloc (.cells z0 29)).alloc (.cells z0 29)) = w1 at HR HZ HW ⊢
  have H1 : Hid (Byt w1 (.slice A xs.length c) xs) := Lib.hid (H.out.below HW.out)
  have hRB : Hid (w.heap.size + 1 ≠ w.heap.size ∧ ∀ b, (xs ≠ [] → (Value.slice A xs.length c).ownBlock = some b → b < w.heap.size)) := Lib.hid ⟨by omega, fun b hx hb => H.out.blk hx hb⟩
  go_loopw [5, 6, 9] (fun _ _ i wr => ∃ (k m : Nat), k ≤ xs.length ∧ i = .int .i64 (k : Int) ∧ NatAt wr (w.heap.size + 1) (numN (xs.drop (xs.length - k))) ∧ numN (xs.drop (xs.length - k)) < 2 ^ (8 * k) ∧ Fit (numN (xs.drop (xs.length - k))) ∧ w1.grownBy wr (some (w.heap.size + 1))) (fun _ _ i _ => xs.length - (intOf i).toNat)
  case atStart => exact ⟨0, 0, Nat.zero_le _, rfl, by rw [Nat.sub_zero, List.drop_length]; exact HZ.out, by rw [Nat.sub_zero, List.drop_length]; decide, by rw [Nat.sub_zero, List.drop_length]; exact Fit.zero, World.grownBy.refl _ _⟩
  case round =>
    obtain ⟨k, m, hk, rfl, hN, hlt8, hfit, hg⟩ := hrel
    have HN := Lib.hid hN
    have HLT := Lib.hid hlt8
    have HFIT := Lib.hid hfit
    have HG := Lib.hid hg
    clear hN hlt8 hfit hg
    by_cases hlt : k < xs.length
    · have hB : Byt wr (.slice A xs.length c) xs := H1.out.grown' HG.out (fun hx b e e2 => by injection e with e; have := hRB.out.2 _ hx e2; omega)
      obtain ⟨b, off, c2, hA, _, hc⟩ := hB.at_ (show xs.length - 1 - k < xs.length by omega)
      injection hA with hA _ hc'
      subst hA hc'
      have hst := numN_step xs k hlt
      have hxs : (xs[xs.length - 1 - k]'(by omega)).toNat < 256 := (xs[xs.length - 1 - k]'(by omega)).toNat_lt
      generalize (xs[xs.length - 1 - k]'(by omega)) = x at *
      have HST := Lib.hid hst
      have hx8 : (x.toNat : Int) < 256 := by omega
      have e1 : (xs.length : Int) - 1 - (k : Int) = ((xs.length - 1 - k : Nat) : Int) := by omega
      clear hst hxs hB
      by_cases h128 : 128 ≤ k
      · have hk128 : (128 : Int) ≤ (k : Int) := by omega
        have hki : (k : Int) < (xs.length : Int) := by omega
        by_cases hx0 : x.toNat = 0
        · have hxi : ((x.toNat : Nat) : Int) = 0 := by omega
          rw [hxi] at hc
          have hst : Hid (numN (xs.drop (xs.length - (k + 1))) = numN (xs.drop (xs.length - k))) := Lib.hid (by
            have := HST.out
            rw [hx0, Nat.zero_mul, Nat.add_zero] at this
            rw [← this, show xs.length - 1 - k = xs.length - (k + 1) from by omega])
          clear hx0 hxi
          go_wp2_with fail
          go_roundw
          case rel => exact ⟨k + 1, 0, by omega, by go_num, by rw [hst.out]; exact HN.out, by rw [hst.out]; exact Nat.lt_of_lt_of_le HLT.out (Nat.pow_le_pow_right (by decide) (by omega)), by rw [hst.out]; exact HFIT.out, HG.out⟩
          case measure => simp [intOf]; omega
        · have hnf : ¬ Fit (numN xs) := by
            intro hf
            have h1 := numN_drop_le xs (xs.length - 1 - k)
            rw [HST.out] at h1
            have h2 : B32 32 ≤ 2 ^ (8 * k) := B32_le_pow (by omega)
            have h3 : 1 * 2 ^ (8 * k) ≤ x.toNat * 2 ^ (8 * k) := Nat.mul_le_mul_right _ (by omega)
            rw [Nat.one_mul] at h3
            unfold Fit at hf
            omega
          have hF1 : Hid (fromN xs = 0) := by unfold Hid fromN; rw [if_neg hnf]
          have hF2 : Hid (fromE xs = 7) := by unfold Hid fromE; rw [if_neg hnf]
          have hRw : Hid (NatAt wr w.heap.size 0) := Lib.hid (HR.out.grown HG.out (by simp))
          have hxb : (((x.toNat : Nat) : Int) != 0) = true := by rw [bne_iff_ne]; omega
          clear hnf hx0
          go_wp2_with (refine wpl_stN (m := 0) ntNat rfl rfl rfl (by rw [natA_zero]; rfl) hRw.out ?_; intro w9 hn9 hg9; have HN9 := Lib.hid hn9; have HG9 := Lib.hid hg9; clear hn9 hg9)
          refine bodyPost_ret (results_nat rfl _ _ rfl HN9.out) rfl ?_
          refine ⟨by rw [hF1.out, hF2.out]; rfl, ?_⟩
          exact (HW.out.grown HG.out HW.out.size (fun j e => by injection e with e; omega)).grown HG9.out (Nat.le_trans HW.out.size HG.out.size) (fun j e => by injection e with e; omega)
      · have hk128 : (k : Int) < 128 := by omega
        have hki : (k : Int) < (xs.length : Int) := by omega
        have hj : (k / 4 : Nat) < 32 := by omega
        have hjz : (0 : Int) ≤ (k : Int) := by omega
        go_wp2_with fail
        have cz := HN.out.cell hj
        have fz := HN.out.frozen (k / 4)
        have q1 : IntKind.i64.wrap ((k / 4 : Nat) : Int) = ((k / 4 : Nat) : Int) := by rw [IntKind.wrap_i64]; omega
        have e4 : (k : Int) / 4 = ((k / 4 : Nat) : Int) := by omega
        have m4 : ((k : Int)).tmod 4 = ((k % 4 : Nat) : Int) := by rw [Int.tmod_eq_emod_of_nonneg (by omega)]; omega
        have ux : IntKind.u32.wrap ((x.toNat : Nat) : Int) = ((x.toNat : Nat) : Int) := by rw [IntKind.wrap_u32]; omega
        have b1 : (0 : Int) ≤ ((k / 4 : Nat) : Int) := by omega
        have b2 : ((k / 4 : Nat) : Int) < 32 := by omega
        have b3 : ((k % 4 : Nat) : Int) < 4 := by omega
        have b4 : (0 : Int) ≤ ((k % 4 : Nat) : Int) := by omega
        have q3 : IntKind.i64.wrap (8 * ((k % 4 : Nat) : Int)) = 8 * ((k % 4 : Nat) : Int) := by rw [IntKind.wrap_i64]; omega
        have q2 : IntKind.i64.wrap (k % 4 : Nat) = ((k % 4 : Nat) : Int) := by rw [IntKind.wrap_i64]; omega
        have hDl := dig_lt (numN (xs.drop (xs.length - k))) (k / 4)
        generalize hD : dig (numN (xs.drop (xs.length - k))) (k / 4) = D at *
        have HDL := Lib.hid hDl
        clear hDl
        generalize hJ : k / 4 = J at *
        generalize hM : k % 4 = M at *
        go_still_tail 16, (by kernel_rfl)
        change wpList _ _ _ _ _ wr.drew
        have hN : Hid (NatAt wr.drew (w.heap.size + 1) (numN (xs.drop (xs.length - k)))) := Lib.hid HN.out.drew
        have hG : Hid (w1.grownBy wr.drew (some (w.heap.size + 1))) := Lib.hid ⟨HG.out.os, HG.out.tape, HG.out.output, HG.out.size, HG.out.block⟩
        go_wp2_with fail
        go_roundw
        case rel =>
          have h1 : 8 * k / 32 = J := by omega
          have h2 : 8 * k % 32 = 8 * M := by omega
          have hx : x.toNat < 2 ^ 8 := x.toNat_lt
          have hput := hN.out.put (p := 8 * k) (x := x.toNat) (s := 8) HLT.out hx (by omega) (by omega) (bits .or .u32 (D : Int) ((x.toNat : Int) * 2 ^ (8 * M) % 4294967296)) (by
            rw [h1, h2, hD]
            exact or_put _ _ _ HDL.out (by
              have := x.toNat_lt
              have hM3 : M = 0 ∨ M = 1 ∨ M = 2 ∨ M = 3 := by omega
              rcases hM3 with rfl | rfl | rfl | rfl <;> simp <;> omega))
          have hlt9 := put_lt HLT.out hx
          rw [h1, ← HST.out, show xs.length - 1 - k = xs.length - (k + 1) from by omega] at hput
          rw [← HST.out, show xs.length - 1 - k = xs.length - (k + 1) from by omega, show 8 * k + 8 = 8 * (k + 1) from by omega] at hlt9
          exact ⟨k + 1, 0, by omega, by go_num, hput.1, hlt9, Nat.lt_of_lt_of_le hlt9 (pow_le_B32 (by omega)), gb_trans _ _ _ _ hG.out hput.2⟩
        case measure => simp [intOf]; omega
    · obtain rfl : k = xs.length := by omega
      have hd : numN (xs.drop (xs.length - xs.length)) = numN xs := by rw [Nat.sub_self, List.drop_zero]
      have hf : Fit (numN xs) := by rw [← hd]; exact HFIT.out
      have hRw : Hid (NatAt wr w.heap.size 0) := Lib.hid (HR.out.grown HG.out (by simp))
      have hNw : Hid (NatAt wr (w.heap.size + 1) (numN xs)) := Lib.hid (by rw [← hd]; exact HN.out)
      have hF1 : Hid (fromN xs = numN xs) := by unfold Hid fromN; rw [if_pos hf]
      have hF2 : Hid (fromE xs = 0) := by unfold Hid fromE; rw [if_pos hf]
      clear hd hf
      go_wp2_with (first | (refine wpl_ldN ntNat rfl rfl rfl hNw.out ?_) | (refine wpl_stN ntNat rfl rfl rfl rfl hRw.out ?_; intro w9 hn9 hg9; have HN9 := Lib.hid hn9; have HG9 := Lib.hid hg9; clear hn9 hg9))
      refine bodyPost_ret (results_nat rfl _ _ rfl HN9.out) rfl ?_
      refine ⟨by rw [hF1.out, hF2.out]; rfl, ?_⟩
      exact (HW.out.grown HG.out HW.out.size (fun j e => by injection e with e; omega)).grown HG9.out (Nat.le_trans HW.out.size HG.out.size) (fun j e => by injection e with e; omega)

end Go.Proofs.Ytomiapceefbmeaa
