/- Walk: estimate. · Walk: estimate, the code. · Plain: a product subtracted, and the divisor added back, digit by digit. -/
import Derived.Test.YtomiapceefbmeaaNatX
import Derived.WalkMore
import Derived.Deep.DeepCutAuto
import Derived.Deep.QuietTactic
import Derived.BigQuiet
set_option linter.unusedVariables false
set_option linter.unusedSimpArgs false
set_option maxRecDepth 20000
namespace Go.Proofs.Ytomiapceefbmeaa
open Go.RowKit

/-! ### Plain -/
theorem lastD_zero (a : Nat) : lastD a 0 = 0 := by unfold lastD; rw [if_pos rfl]
theorem top3_parts {R m : Nat} (hR : R < B32 (m + 2)) : top3 R m = (dig R (m + 1) * 4294967296 + dig R m) * 4294967296 + lastD R m ∧ R / B32 m = dig R (m + 1) * 4294967296 + dig R m := by
  have h1 : dig R (m + 1) = R / B32 (m + 1) := by
    rw [dig_eq', Nat.mod_eq_of_lt]
    rw [Nat.div_lt_iff_lt_mul (B32_pos _), Nat.mul_comm, ← B32_succ']
    exact hR
  have h2 := div_step' R m
  rw [← h1] at h2
  refine ⟨?_, h2⟩
  unfold top3
  rcases m with _ | k
  · rw [B32_zero, Nat.div_one] at h2
    rw [B32_zero, Nat.div_one, lastD_zero]
    omega
  · rw [lastD_succ, B32_succ', Nat.mul_div_mul_right _ _ (by decide), div_step' R k, h2]
theorem top2_parts {V m : Nat} (hV : V < B32 (m + 1)) : top3 V m = dig V m * 4294967296 + lastD V m ∧ V / B32 m = dig V m := by
  have h1 : dig V m = V / B32 m := by
    rw [dig_eq', Nat.mod_eq_of_lt]
    rw [Nat.div_lt_iff_lt_mul (B32_pos _), Nat.mul_comm, ← B32_succ']
    exact hV
  refine ⟨?_, h1.symm⟩
  unfold top3
  rcases m with _ | k
  · rw [B32_zero, Nat.div_one] at h1
    rw [B32_zero, Nat.div_one, lastD_zero]
    omega
  · rw [lastD_succ, B32_succ', Nat.mul_div_mul_right _ _ (by decide), div_step' V k, h1]

/-- What the estimate needs: R of at most n + 1 digits, V of n digits, its first bit 1; n = m + 1. -/
structure Est (R V m f s t v l : Nat) : Prop where
  hf : f = dig R (m + 1)
  hs : s = dig R m
  ht : t = lastD R m
  hv : v = dig V m
  hl : l = lastD V m
  hV : 0 < V
  hR : R < V * 4294967296
  big : 2147483648 ≤ v
  fv : f ≤ v
  r3 : top3 R m = (f * 4294967296 + s) * 4294967296 + t
  v2 : top3 V m = v * 4294967296 + l
  q0 : R / V ≤ (f * 4294967296 + s) / v
theorem Est.mk' {R V m : Nat} (hV : V < B32 (m + 1)) (hn : B32 (m + 1) ≤ 2 * V) (hR : R < V * 4294967296) : Est R V m (dig R (m + 1)) (dig R m) (lastD R m) (dig V m) (lastD V m) := by
  have hR2 : R < B32 (m + 2) := by
    rw [B32_succ']
    exact Nat.lt_of_lt_of_le hR (Nat.mul_le_mul_right _ (Nat.le_of_lt hV))
  have hV0 : 0 < V := by have := B32_pos (m + 1); omega
  obtain ⟨h1, h2⟩ := top3_parts hR2
  obtain ⟨h3, h4⟩ := top2_parts hV
  have hbig : 2147483648 ≤ dig V m := by
    rw [← h4, Nat.le_div_iff_mul_le (B32_pos m)]
    rw [B32_succ'] at hn
    omega
  refine ⟨rfl, rfl, rfl, rfl, rfl, hV0, hR, hbig, ?_, h1, h3, ?_⟩
  · have h5 : dig R (m + 1) = R / B32 (m + 1) := by
      rw [dig_eq', Nat.mod_eq_of_lt]
      rw [Nat.div_lt_iff_lt_mul (B32_pos _), Nat.mul_comm, ← B32_succ']
      exact hR2
    rw [h5, ← h4, B32_succ']
    rw [Nat.le_div_iff_mul_le (B32_pos m)]
    have h6 := Nat.div_mul_le_self R (B32 m * 4294967296)
    generalize R / (B32 m * 4294967296) = z at *
    have h7 : z * B32 m * 4294967296 < V * 4294967296 := by rw [Nat.mul_assoc]; exact Nat.lt_of_le_of_lt h6 hR
    have := Nat.lt_of_mul_lt_mul_right h7
    omega
  · rw [← h2, ← h4, Nat.le_div_iff_mul_le (by rw [h4]; omega), Nat.le_div_iff_mul_le (B32_pos m)]
    have h5 : V / B32 m * B32 m ≤ V := Nat.div_mul_le_self _ _
    have h6 : R / V * V ≤ R := Nat.div_mul_le_self _ _
    rw [Nat.mul_assoc]
    exact Nat.le_trans (Nat.mul_le_mul_left _ h5) h6
/-- Where the loop stands. -/
def EstAt (R V f s v q r : Nat) : Prop := q * v + r = f * 4294967296 + s ∧ r < 4294967296 ∧ R / V ≤ q ∧ q ≤ 4294967297
section
variable {R V m f s t v l q r : Nat}
theorem Est.lt (h : Est R V m f s t v l) : f < 4294967296 ∧ s < 4294967296 ∧ t < 4294967296 ∧ v < 4294967296 ∧ l < 4294967296 := by
  rw [h.hf, h.hs, h.ht, h.hv, h.hl]
  exact ⟨dig_lt' _ _, dig_lt' _ _, lastD_lt _ _, dig_lt' _ _, lastD_lt _ _⟩
theorem Est.start (h : Est R V m f s t v l) : EstAt R V f s v ((f * 4294967296 + s) / v) ((f * 4294967296 + s) % v) := by
  have h1 := h.big
  have h2 := h.fv
  obtain ⟨_, h3, _, h4, _⟩ := h.lt
  refine ⟨by rw [Nat.mul_comm]; exact Nat.div_add_mod _ _, Nat.lt_trans (Nat.mod_lt _ (by omega)) h4, h.q0, ?_⟩
  have h5 : (f * 4294967296 + s) / v < 4294967298 := by
    rw [Nat.div_lt_iff_lt_mul (by omega)]
    omega
  omega
theorem Est.lhs (h : Est R V m f s t v l) (e : q * v + r = f * 4294967296 + s) : (q * top3 V m ≤ top3 R m ↔ q * l ≤ r * 4294967296 + t) := by
  rw [h.r3, h.v2, ← e]
  have e1 : q * (v * 4294967296 + l) = q * v * 4294967296 + q * l := by rw [Nat.mul_add, Nat.mul_assoc]
  rw [e1]
  generalize q * v = a
  generalize q * l = b
  omega
/-- The end. -/
theorem Est.fits (h : Est R V m f s t v l) (hq : q < 4294967296) (h1 : R / V ≤ q) (h2 : q * top3 V m ≤ top3 R m) : q < 4294967296 ∧ R / V ≤ q ∧ q ≤ R / V + 1 := by
  refine ⟨hq, h1, est_at_most h.hV hq ?_ h2⟩
  rw [h.v2]
  have := h.big
  omega
theorem Est.ok (h : Est R V m f s t v l) (e : EstAt R V f s v q r) (hq : q < 4294967296) (hc : q * l ≤ r * 4294967296 + t) : q < 4294967296 ∧ R / V ≤ q ∧ q ≤ R / V + 1 :=
  h.fits hq e.2.2.1 ((h.lhs e.1).2 hc)
/-- One less. -/
theorem Est.down (h : Est R V m f s t v l) (e : EstAt R V f s v q r) (hc : 4294967296 ≤ q ∨ r * 4294967296 + t < q * l) : 1 ≤ q ∧ (q - 1) * v + (r + v) = f * 4294967296 + s ∧ R / V ≤ q - 1 := by
  obtain ⟨h1, h2, h3, h4⟩ := e
  have hlt : R / V < q := by
    rcases Nat.lt_or_ge (R / V) q with h5 | h5
    · exact h5
    · rcases hc with hc | hc
      · have h6 : R / V < 4294967296 := by
          rw [Nat.div_lt_iff_lt_mul h.hV, Nat.mul_comm]
          exact h.hR
        omega
      · have h6 := (h.lhs h1)
        have h7 : ¬ q * top3 V m ≤ top3 R m := fun h8 => by have := h6.1 h8; omega
        exact est_too_great h.hV (Nat.lt_of_not_le h7)
  have hq1 : 1 ≤ q := by generalize R / V = z at *; omega
  obtain ⟨p, rfl⟩ : ∃ p, q = p + 1 := ⟨q - 1, by omega⟩
  refine ⟨hq1, ?_, by generalize R / V = z at *; omega⟩
  rw [Nat.add_sub_cancel]
  rw [Nat.add_mul, Nat.one_mul] at h1
  generalize p * v = z at *
  omega
/-- The remainder of the estimate has left one digit. -/
theorem Est.out (h : Est R V m f s t v l) (e : q * v + r = f * 4294967296 + s) (h1 : R / V ≤ q) (hr : 4294967296 ≤ r) : q < 4294967296 ∧ R / V ≤ q ∧ q ≤ R / V + 1 := by
  obtain ⟨g1, g2, g3, g4, g5⟩ := h.lt
  have hfv := h.fv
  have hb := h.big
  have hq : q < 4294967296 := by
    rcases Nat.lt_or_ge q 4294967296 with h2 | h2
    · exact h2
    · exfalso
      have h3 : 4294967296 * v ≤ q * v := Nat.mul_le_mul_right _ h2
      generalize q * v = z at *
      omega
  refine h.fits hq h1 ((h.lhs e).2 ?_)
  have h2 : q * l ≤ 4294967295 * 4294967295 := Nat.mul_le_mul (by omega) (by omega)
  generalize q * l = z at *
  omega
end

end Go.Proofs.Ytomiapceefbmeaa

set_option linter.unusedVariables false
set_option linter.unusedSimpArgs false
set_option maxRecDepth 20000
namespace Go.Proofs.Ytomiapceefbmeaa
open Go.RowKit

/-- What estimate returns. -/
def RetE (w : World) (R V : Nat) (e : Ending) (w' : World) : Prop := ∃ q m : Nat, e = .returned (.int .u64 (q : Int)) ∧ q < 4294967296 ∧ R / V ≤ q ∧ q ≤ R / V + 1 ∧ w' = w.drewN m

theorem u64_id {x : Nat} (h : x < 4294967296) : IntKind.u64.wrap (x : Int) = (x : Int) := by rw [IntKind.wrap_u64]; omega
theorem dig_from (U f j : Nat) : dig (U / B32 f) j = dig U (f + j) := by
  rw [dig_eq', dig_eq', B32_add, Nat.div_div_eq_div_mul]

set_option maxHeartbeats 3200000 in
set_option maxRecDepth 100000 in
theorem estimate_any (Bu Bv U V f m : Nat) (w : World) (hu : DAt w Bu 33 U) (hv : DAt w Bv 33 V) (hV : V < B32 (m + 1)) (hn : B32 (m + 1) ≤ 2 * V) (hR : U / B32 f < V * 4294967296) (hfm : f + m + 1 < 33) (at' n : Nat) (hat : at' = f + m + 1) (hnm : n = m + 1) :
    Calls Try.prog 56 #[.pointer (some ⟨Bu, 0, none⟩), .pointer (some ⟨Bv, 0, none⟩), .int .i64 (at' : Int), .int .i64 (n : Int)] w (RetE w (U / B32 f) V) := by
  have hE := Est.mk' hV hn hR
  obtain ⟨F, hF⟩ : ∃ x, x = dig (U / B32 f) (m + 1) := ⟨_, rfl⟩
  obtain ⟨S, hS⟩ : ∃ x, x = dig (U / B32 f) m := ⟨_, rfl⟩
  obtain ⟨T, hT⟩ : ∃ x, x = lastD (U / B32 f) m := ⟨_, rfl⟩
  obtain ⟨v, hvd⟩ : ∃ x, x = dig V m := ⟨_, rfl⟩
  obtain ⟨l, hl⟩ : ∃ x, x = lastD V m := ⟨_, rfl⟩
  rw [← hF, ← hS, ← hT, ← hvd, ← hl] at hE
  have cF : w.cell? ⟨Bu, at', none⟩ = some (.int .u32 (F : Int)) := by
    rw [hF, dig_from, hat]
    exact hu.cell (by omega)
  obtain ⟨a1, ha1⟩ : ∃ a1, a1 = f + m := ⟨_, rfl⟩
  have cS : w.cell? ⟨Bu, a1, none⟩ = some (.int .u32 (S : Int)) := by
    rw [hS, dig_from, ha1]
    exact hu.cell (by omega)
  have cV : w.cell? ⟨Bv, m, none⟩ = some (.int .u32 (v : Int)) := by
    rw [hvd]
    exact hv.cell (by omega)
  obtain ⟨g1, g2, g3, g4, g5⟩ := hE.lt
  have u1 := u64_id g1
  have u2 := u64_id g2
  have u3 := u64_id g3
  have u4 := u64_id g4
  have u5 := u64_id g5
  have k1 : IntKind.i64.wrap ((at' : Int) - 1) = (a1 : Int) := by rw [show (at' : Int) - 1 = (a1 : Int) from by omega]; exact IntWalk.i64_in _ (by omega)
  have k2 : IntKind.i64.wrap ((n : Int) - 1) = (m : Int) := by rw [show (n : Int) - 1 = (m : Int) from by omega]; exact IntWalk.i64_in _ (by omega)
  have b1 : (at' : Int) < 33 := by omega
  have b2 : (a1 : Int) < 33 := by omega
  have b3 : (m : Int) < 33 := by omega
  have b4 : (0 : Int) ≤ (a1 : Int) := by omega
  have b5 : (0 : Int) ≤ (m : Int) := by omega
  have b6 : (0 : Int) ≤ (at' : Int) := by omega
  have HE := Lib.hid hE
  have HU := Lib.hid hu
  have HV := Lib.hid hv
  have HT := Lib.hid hT
  have HLL := Lib.hid hl
  have HB := Lib.hid (And.intro hat (And.intro ha1 (And.intro hfm hnm)))
  clear hE hu hv hV hn hR hF hS hT hvd hl hat ha1 hfm hnm g1 g2 g3 g4 g5
  have hG : ∀ K : Prop, True := fun _ => trivial
  clear hG
  go_enter Try.func56, Try.ntmps56
  go_wp2_with fail
  go_step3
  go_wp2_with fail
  go_quiet (fail)
  go_upto_if 29 with (fail)
  go_cut [11, 12] (fun s11 s12 wx => s11 = .int .u64 (T : Int) ∧ s12 = .int .u64 (l : Int) ∧ ∃ k, wx = w.drewN k)
  case first =>
    by_cases hm : m = 0
    · have hT0 : T = 0 := by rw [HT.out, hm, lastD_zero]
      have hl0 : l = 0 := by rw [HLL.out, hm, lastD_zero]
      have hn1 : decide ((1 : Int) < (n : Int)) = false := by have := HB.out.2.2.2; simp; omega
      have HT0 := Lib.hid hT0
      have HL0 := Lib.hid hl0
      rw [hn1]
      clear hT0 hl0 hm hn1
      go_wp2_with fail
      go_meet
      exact ⟨by rw [HT0.out]; rfl, by rw [HL0.out]; rfl, _, rfl⟩
    · have hn1 : decide ((1 : Int) < (n : Int)) = true := by have := HB.out.2.2.2; simp; omega
      obtain ⟨a2, ha2⟩ : ∃ a2, a2 + 1 = a1 := ⟨a1 - 1, by have := HB.out; omega⟩
      obtain ⟨m2, hm2⟩ : ∃ m2, m2 + 1 = m := ⟨m - 1, by omega⟩
      have cT : w.cell? ⟨Bu, a2, none⟩ = some (.int .u32 (T : Int)) := by
        rw [HT.out, ← hm2, lastD_succ, dig_from, show f + m2 = a2 from by have := HB.out; omega]
        exact HU.out.cell (by omega)
      have cL : w.cell? ⟨Bv, m2, none⟩ = some (.int .u32 (l : Int)) := by
        rw [HLL.out, ← hm2, lastD_succ]
        exact HV.out.cell (by omega)
      have k3 : IntKind.i64.wrap ((at' : Int) - 2) = (a2 : Int) := by rw [show (at' : Int) - 2 = (a2 : Int) from by have := HB.out; omega]; exact IntWalk.i64_in _ (by omega)
      have k4 : IntKind.i64.wrap ((n : Int) - 2) = (m2 : Int) := by rw [show (n : Int) - 2 = (m2 : Int) from by have := HB.out; omega]; exact IntWalk.i64_in _ (by omega)
      have b7 : (a2 : Int) < 33 := by omega
      have b8 : (m2 : Int) < 33 := by omega
      have b9 : (0 : Int) ≤ (a2 : Int) := by omega
      have b10 : (0 : Int) ≤ (m2 : Int) := by omega
      rw [hn1]
      clear ha2 hm2 hm hn1
      go_wp2_with fail
      go_quiet (fail)
      clear k3 k4 b7 b8 b9 b10 cT cL
      go_wp2_with fail
      go_meet
      exact ⟨rfl, rfl, _, by first | rfl | exact World.drewN_drewN _ _ _⟩
  case rest =>
    obtain ⟨rfl, rfl, k0, rfl⟩ := hcut
    have hlt := HE.out.lt
    obtain ⟨n2, hn2⟩ : ∃ x, x = F * 4294967296 + S := ⟨_, rfl⟩
    have w1 : bits .or .u64 ((F : Int) * 4294967296) (S : Int) = (n2 : Int) := by rw [or_last _ _ hlt.1 hlt.2.1, hn2]
    have w2 : IntKind.u64.wrap ((F : Int) * 4294967296) = (F : Int) * 4294967296 := by rw [IntKind.wrap_u64]; omega
    have hb := HE.out.big
    have hv0 : (0 : Int) < (v : Int) := by omega
    have hst := HE.out.start
    rw [← hn2] at hst
    have HST := Lib.hid hst
    obtain ⟨q0, hq0⟩ : ∃ x, x = n2 / v := ⟨_, rfl⟩
    obtain ⟨r0, hr0⟩ : ∃ x, x = n2 % v := ⟨_, rfl⟩
    have w3 : (n2 : Int) / (v : Int) = (q0 : Int) := by rw [hq0]; rfl
    have w4 : (n2 : Int) % (v : Int) = (r0 : Int) := by rw [hr0]; rfl
    rw [← hq0, ← hr0] at HST
    have HN2 := Lib.hid hn2
    have hq8 : (q0 : Int) ≤ 4294967297 := by have := HST.out.2.2.2; omega
    have w5 : IntKind.u64.wrap (q0 : Int) = (q0 : Int) := by rw [IntKind.wrap_u64]; omega
    clear hlt hn2 hb hst hq0 hr0
    go_wp2_with fail
    go_quiet (fail)
    go_wp2_with fail
    rw [w4, World.drewN_drewN]
    generalize k0 + nq = k1
    clear w1 w2 w3 w4 w5 hq8 HN2
    go_step3
    have e9 : (n : Int) - 1 = (m : Int) := by have := HB.out; omega
    go_wp2_with fail
    go_loop [13, 14] (fun x y => ∃ q r : Nat, x = .int .u64 (q : Int) ∧ y = .int .u64 (r : Int) ∧ EstAt (U / B32 f) V F S v q r) (fun x _ => (intOf x).toNat)
    case atStart => exact ⟨q0, r0, rfl, rfl, HST.out⟩
    case round =>
      clear HST
      obtain ⟨q, r, rfl, rfl, hat⟩ := hrel
      have HAT := Lib.hid hat
      have hlt := HE.out.lt
      have hq8 : (q : Int) ≤ 4294967297 := by have := hat.2.2.2; omega
      have hr8 : (r : Int) < 4294967296 := by have := hat.2.1; omega
      have hv8 : (v : Int) < 4294967296 := by omega
      have HLT := Lib.hid hlt
      clear hat hlt
      obtain ⟨qi, hqi⟩ : ∃ y : Int, y = (q : Int) := ⟨_, rfl⟩
      obtain ⟨ri, hri⟩ : ∃ y : Int, y = (r : Int) := ⟨_, rfl⟩
      rw [← hqi] at hq8 ⊢
      rw [← hri] at hr8 ⊢
      have hr0 : 0 ≤ ri := by omega
      have hq0 : 0 ≤ qi := by omega
      have HQ := Lib.hid hqi
      have HRI := Lib.hid hri
      by_cases hx : 4294967296 ≤ q
      · have hd := HE.out.down HAT.out (.inl hx)
        have HD := Lib.hid hd
        have tq : (qi / 4294967296 != 0) = true := by rw [bne_iff_ne]; omega
        clear hx
        clear hd
        have hq1 : (1 : Int) ≤ qi := by have := HD.out.1; omega
        by_cases hr2 : 4294967296 ≤ r + v
        · have HOUT := Lib.hid (HE.out.out HD.out.2.1 HD.out.2.2 hr2)
          have hr3 : (4294967296 : Int) ≤ ri + (v : Int) := by omega
          have tr : ((ri + (v : Int)) / 4294967296 != 0) = true := by rw [bne_iff_ne]; omega
          clear hr2 hqi hri
          go_wp2_with fail
          go_ret
          exact ⟨q - 1, k1, by rw [show qi - 1 = ((q - 1 : Nat) : Int) from by have := HD.out.1; have := HQ.out; omega]; rfl, HOUT.out.1, HOUT.out.2.1, HOUT.out.2.2, rfl⟩
        · have tr : ((ri + (v : Int)) / 4294967296 != 0) = false := by rw [bne_eq_false_iff_eq]; omega
          have HR2 := Lib.hid hr2
          clear hr2 hqi hri
          go_wp2_with fail
          go_round
          case rel => exact ⟨q - 1, r + v, by rw [show qi - 1 = ((q - 1 : Nat) : Int) from by have := HD.out.1; have := HQ.out; omega], by rw [show ri + (v : Int) = ((r + v : Nat) : Int) from by have := HRI.out; omega], HD.out.2.1, by have := HR2.out; omega, HD.out.2.2, by have := hq8; have := HQ.out; omega⟩
          case measure => simp [intOf]; omega
      · have tq : (qi / 4294967296 != 0) = false := by rw [bne_eq_false_iff_eq]; omega
        obtain ⟨p, hp⟩ : ∃ p, p = q * l := ⟨_, rfl⟩
        obtain ⟨z, hz⟩ : ∃ z, z = r * 4294967296 + T := ⟨_, rfl⟩
        obtain ⟨pi, hpi⟩ : ∃ y : Int, y = (p : Int) := ⟨_, rfl⟩
        obtain ⟨zi, hzi⟩ : ∃ y : Int, y = (z : Int) := ⟨_, rfl⟩
        have x1 : qi * (l : Int) = pi := by rw [hpi, hp, hqi]; simp
        have x2 : IntKind.u64.wrap pi = pi := by
          have h1 : q * l ≤ 4294967295 * 4294967295 := Nat.mul_le_mul (by omega) (by have := HLT.out; omega)
          rw [IntKind.wrap_u64]
          omega
        have x3 : bits .or .u64 (ri * 4294967296) (T : Int) = zi := by rw [hzi, hri, or_last _ _ (by omega) HLT.out.2.2.1, hz]
        have HX := Lib.hid hx
        clear hx
        by_cases hc : z < p
        · have hd := HE.out.down HAT.out (.inr (by rw [← hz, ← hp]; exact hc))
          have HD := Lib.hid hd
          have tz : decide (zi < pi) = true := decide_eq_true (by omega)
          clear hc hp hz hpi hzi hd
          have hq1 : (1 : Int) ≤ qi := by have := HD.out.1; omega
          by_cases hr2 : 4294967296 ≤ r + v
          · have HOUT := Lib.hid (HE.out.out HD.out.2.1 HD.out.2.2 hr2)
            have hr3 : (4294967296 : Int) ≤ ri + (v : Int) := by omega
            have tr : ((ri + (v : Int)) / 4294967296 != 0) = true := by rw [bne_iff_ne]; omega
            clear hr2 hqi hri
            go_wp2_with fail
            go_ret
            exact ⟨q - 1, k1, by rw [show qi - 1 = ((q - 1 : Nat) : Int) from by have := HD.out.1; have := HQ.out; omega]; rfl, HOUT.out.1, HOUT.out.2.1, HOUT.out.2.2, rfl⟩
          · have tr : ((ri + (v : Int)) / 4294967296 != 0) = false := by rw [bne_eq_false_iff_eq]; omega
            have HR2 := Lib.hid hr2
            clear hr2 hqi hri
            go_wp2_with fail
            go_round
            case rel => exact ⟨q - 1, r + v, by rw [show qi - 1 = ((q - 1 : Nat) : Int) from by have := HD.out.1; have := HQ.out; omega], by rw [show ri + (v : Int) = ((r + v : Nat) : Int) from by have := HRI.out; omega], HD.out.2.1, by have := HR2.out; omega, HD.out.2.2, by have := hq8; have := HQ.out; omega⟩
            case measure => simp [intOf]; omega
        · have HOK := Lib.hid (HE.out.ok HAT.out (Nat.lt_of_not_le HX.out) (by rw [← hz, ← hp]; exact Nat.not_lt.1 hc))
          have tz : decide (zi < pi) = false := decide_eq_false (by omega)
          clear hc hp hz hqi hri hpi hzi
          go_wp2_with fail
          go_ret
          exact ⟨q, k1, by rw [HQ.out]; rfl, HOK.out.1, HOK.out.2.1, HOK.out.2.2, rfl⟩

end Go.Proofs.Ytomiapceefbmeaa

set_option linter.unusedVariables false
set_option linter.unusedSimpArgs false
set_option maxRecDepth 20000
namespace Go.Proofs.Ytomiapceefbmeaa
open Go.RowKit

/-! ### A product with one digit -/
def mc32 (V q k : Nat) : Nat := V % B32 k * q / B32 k
theorem mc32_zero (V q : Nat) : mc32 V q 0 = 0 := by unfold mc32; rw [B32_zero, Nat.mod_one, Nat.zero_mul, Nat.zero_div]
theorem mc32_le (V q k : Nat) : mc32 V q k ≤ q := by
  unfold mc32
  have h1 : V % B32 k * q ≤ B32 k * q := Nat.mul_le_mul_right _ (Nat.le_of_lt (Nat.mod_lt _ (B32_pos k)))
  exact Nat.le_trans (Nat.div_le_div_right h1) (by rw [Nat.mul_div_cancel_left _ (B32_pos k)]; exact Nat.le_refl _)
theorem mulc_dig (V q k : Nat) : dig (V * q) k = (dig V k * q + mc32 V q k) % 4294967296 := by
  have h : V * q / B32 k = V / B32 k * q + mc32 V q k := by
    unfold mc32
    have h1 := Nat.div_add_mod V (B32 k)
    have e : V * q = B32 k * (V / B32 k * q) + V % B32 k * q := by rw [← Nat.mul_assoc, ← Nat.add_mul, h1]
    conv => lhs; rw [e]
    rw [Nat.mul_add_div (B32_pos k)]
  rw [dig_eq', h, dig_eq']
  conv => lhs; rw [Nat.add_mod, Nat.mul_mod]
  conv => rhs; rw [Nat.add_mod, Nat.mul_mod, Nat.mod_mod]
theorem mc32_succ (V q k : Nat) : mc32 V q (k + 1) = (dig V k * q + mc32 V q k) / 4294967296 := by
  have h : V % B32 (k + 1) * q / B32 k = dig V k * q + mc32 V q k := by
    unfold mc32
    rw [mod_step, Nat.add_mul, Nat.mul_right_comm, Nat.mul_comm _ (B32 k), Nat.mul_add_div (B32_pos k)]
  rw [← h, Nat.div_div_eq_div_mul, ← B32_succ']
  rfl
/-! ### Sums -/
def cr32 (a b k : Nat) : Nat := (a % B32 k + b % B32 k) / B32 k
theorem cr32_zero (a b : Nat) : cr32 a b 0 = 0 := by unfold cr32; rw [B32_zero, Nat.mod_one, Nat.mod_one]
theorem cr32_le (a b k : Nat) : cr32 a b k ≤ 1 := by
  unfold cr32
  have h1 := Nat.mod_lt a (B32_pos k)
  have h2 := Nat.mod_lt b (B32_pos k)
  have : (a % B32 k + b % B32 k) / B32 k < 2 := (Nat.div_lt_iff_lt_mul (B32_pos k)).2 (by omega)
  omega
theorem add_dig (a b k : Nat) : dig (a + b) k = (dig a k + dig b k + cr32 a b k) % 4294967296 := by
  have h : (a + b) / B32 k = a / B32 k + b / B32 k + cr32 a b k := by
    unfold cr32
    have h1 := Nat.div_add_mod a (B32 k)
    have h2 := Nat.div_add_mod b (B32 k)
    have e : a + b = B32 k * (a / B32 k + b / B32 k) + (a % B32 k + b % B32 k) := by rw [Nat.mul_add]; omega
    conv => lhs; rw [e]
    rw [Nat.mul_add_div (B32_pos k)]
  rw [dig_eq', h, dig_eq', dig_eq']
  omega
theorem cr32_succ (a b k : Nat) : cr32 a b (k + 1) = (dig a k + dig b k + cr32 a b k) / 4294967296 := by
  have h : (a % B32 (k + 1) + b % B32 (k + 1)) / B32 k = dig a k + dig b k + cr32 a b k := by
    unfold cr32
    rw [mod_step, mod_step]
    have e : dig a k * B32 k + a % B32 k + (dig b k * B32 k + b % B32 k) = B32 k * (dig a k + dig b k) + (a % B32 k + b % B32 k) := by
      rw [Nat.mul_add, Nat.mul_comm (B32 k), Nat.mul_comm (B32 k)]; omega
    rw [e, Nat.mul_add_div (B32_pos k)]
  rw [← h, Nat.div_div_eq_div_mul, ← B32_succ']
  rfl
/-! ### The difference modulo the base to the N -/
def dfB (R T N : Nat) : Nat := (R + (B32 N - T)) % B32 N
theorem dfB_lt (R T N : Nat) : dfB R T N < B32 N := Nat.mod_lt _ (B32_pos N)
theorem dfB_add {R T N : Nat} (hR : R < B32 N) (hT : T < B32 N) : (dfB R T N + T) % B32 N = R := by
  unfold dfB
  rw [Nat.mod_add_mod, show R + (B32 N - T) + T = R + B32 N from by omega, Nat.add_mod_right, Nat.mod_eq_of_lt hR]
theorem dfB_dig {R T N k : Nat} (hR : R < B32 N) (hT : T < B32 N) (hk : k < N) : dig R k = (dig (dfB R T N) k + dig T k + cr32 (dfB R T N) T k) % 4294967296 := by
  rw [← add_dig, ← dig_mod (n := _ + _) hk, dfB_add hR hT]
/-- What bits.Sub32 reckons. -/
theorem dfB_step {R T N k : Nat} (hR : R < B32 N) (hT : T < B32 N) (hk : k < N) :
    ((((dig R k : Nat) : Int) - ((dig T k : Nat) : Int) - ((cr32 (dfB R T N) T k : Nat) : Int)) % 4294967296 = ((dig (dfB R T N) k : Nat) : Int)) ∧
    ((if ((dig R k : Nat) : Int) < ((dig T k : Nat) : Int) + ((cr32 (dfB R T N) T k : Nat) : Int) then (1 : Int) else 0) = ((cr32 (dfB R T N) T (k + 1) : Nat) : Int)) := by
  have h1 := dfB_dig hR hT hk
  have h2 := cr32_succ (dfB R T N) T k
  have h3 := cr32_le (dfB R T N) T k
  have h4 := dig_lt' (dfB R T N) k
  have h5 := dig_lt' T k
  have h6 := dig_lt' R k
  rw [h2]
  generalize dig (dfB R T N) k = x at *
  generalize dig T k = y at *
  generalize dig R k = z at *
  generalize cr32 (dfB R T N) T k = c at *
  constructor
  · omega
  · split <;> omega
theorem dfB_end {R T N : Nat} (hR : R < B32 N) (hT : T < B32 N) : (cr32 (dfB R T N) T N = 0 ↔ T ≤ R) ∧ (T ≤ R → dfB R T N = R - T) ∧ (R < T → dfB R T N = R + B32 N - T) := by
  have h0 := B32_pos N
  have e1 : T ≤ R → dfB R T N = R - T := by
    intro h
    unfold dfB
    rw [show R + (B32 N - T) = R - T + B32 N from by omega, Nat.add_mod_right, Nat.mod_eq_of_lt (by omega)]
  have e2 : R < T → dfB R T N = R + B32 N - T := by
    intro h
    unfold dfB
    rw [Nat.mod_eq_of_lt (by omega)]
    omega
  refine ⟨?_, e1, e2⟩
  unfold cr32
  rw [Nat.mod_eq_of_lt (dfB_lt R T N), Nat.mod_eq_of_lt hT, Nat.div_eq_zero_iff_lt h0]
  constructor
  · intro h
    rcases Nat.lt_or_ge R T with h1 | h1
    · rw [e2 h1] at h; omega
    · exact h1
  · intro h
    rw [e1 h]
    omega

/-! ### What reduce does to the dividend -/
theorem sub_quot2 (R b : Nat) : R - b * (R / b) = R % b := by
  have h := Nat.div_add_mod R b
  omega
theorem rd_bounds {R V q m : Nat} (hV : V < B32 (m + 1)) (hR : R < V * 4294967296) (hq : q < 4294967296) : R < B32 (m + 2) ∧ V * q < B32 (m + 2) := by
  constructor
  · rw [B32_succ']
    exact Nat.lt_of_lt_of_le hR (Nat.mul_le_mul_right _ (Nat.le_of_lt hV))
  · rw [B32_succ']
    rcases Nat.eq_zero_or_pos q with rfl | h
    · rw [Nat.mul_zero]; exact Nat.mul_pos (B32_pos _) (by decide)
    · exact Nat.mul_lt_mul'' hV hq
theorem rd_fits {R V q m : Nat} (hV0 : 0 < V) (hV : V < B32 (m + 1)) (hR : R < V * 4294967296) (hq : q < 4294967296) (h1 : R / V ≤ q) (h : V * q ≤ R) : q = R / V ∧ dfB R (V * q) (m + 2) = R % V := by
  obtain ⟨b1, b2⟩ := rd_bounds hV hR hq
  have e : q = R / V := by
    have : q ≤ R / V := (Nat.le_div_iff_mul_le hV0).2 (by rw [Nat.mul_comm]; exact h)
    omega
  refine ⟨e, ?_⟩
  rw [(dfB_end b1 b2).2.1 h, e]
  exact sub_quot2 R V
theorem rd_back {R V q m : Nat} (hV0 : 0 < V) (hV : V < B32 (m + 1)) (hR : R < V * 4294967296) (hq : q < 4294967296) (h1 : R / V ≤ q) (h2 : q ≤ R / V + 1) (h : ¬ V * q ≤ R) :
    1 ≤ q ∧ q - 1 = R / V ∧ (dfB R (V * q) (m + 2) + V) % B32 (m + 2) = R % V := by
  obtain ⟨b1, b2⟩ := rd_bounds hV hR hq
  have hlt : R / V < q := by
    rcases Nat.lt_or_ge (R / V) q with h3 | h3
    · exact h3
    · have := (Nat.le_div_iff_mul_le hV0).1 h3
      rw [Nat.mul_comm] at this
      exact absurd this h
  obtain ⟨p, rfl⟩ : ∃ p, q = p + 1 := ⟨q - 1, by generalize R / V = z at *; omega⟩
  have e : p = R / V := by generalize R / V = z at *; omega
  refine ⟨by omega, e, ?_⟩
  rw [(dfB_end b1 b2).2.2 (Nat.lt_of_not_le h), Nat.mul_add, Nat.mul_one]
  have h3 := sub_quot2 R V
  rw [← e] at h3
  have h4 : V * p ≤ R := by rw [e, Nat.mul_comm]; exact Nat.div_mul_le_self _ _
  rw [Nat.mul_add, Nat.mul_one] at h b2
  have h5 : R + B32 (m + 2) - (V * p + V) + V = R - V * p + B32 (m + 2) := by omega
  rw [h5, Nat.add_mod_right, Nat.mod_eq_of_lt (by omega), h3]

end Go.Proofs.Ytomiapceefbmeaa
