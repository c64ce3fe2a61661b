/- Walk: the reference's Three (printed by genthree.py). -/
import Derived.Test.YteepfeggkocakaaDerO
set_option linter.unusedVariables false
set_option linter.unusedSimpArgs false
set_option maxRecDepth 20000
namespace Go.Proofs.Yteepfeggkocakaa
open Go.RowKit Der

theorem threeE_nil {p v : Int} {xs : List UInt8} (h : intE p = [] ∨ intE v = []) : threeE p v xs = [] := by
  unfold threeE recE
  rw [if_pos]
  rcases h with h | h <;> simp [h]
theorem threeE_some {p v : Int} {xs : List UInt8} (h1 : intE p ≠ []) (h2 : intE v ≠ []) : threeE p v xs = elem 48 [wrapE 160 0 (intE p), wrapE 160 1 (intE v), wrapE 160 2 (elem 4 xs)].flatten := by
  unfold threeE recE
  rw [if_neg]
  · rfl
  · simp [h1, h2, elem]
theorem three_flat (p v : Int) (xs : List UInt8) (hn : (xs.length : Int) ≤ 50000) : (([wrapE 160 0 (intE p), wrapE 160 1 (intE v), wrapE 160 2 (elem 4 xs)].flatten.length : Nat) : Int) ≤ 16777215 := by
  have h1 := intE_length p
  have h2 := intE_length v
  have h3 := elem_length 4 xs
  have g1 := wrapE_length 160 0 (intE p)
  have g2 := wrapE_length 160 1 (intE v)
  have g3 := wrapE_length 160 2 (elem 4 xs)
  simp only [List.flatten_cons, List.flatten_nil, List.length_append, List.length_nil]
  omega

set_option maxHeartbeats 3200000 in
theorem three_any (p v : Int) (b : Value) (xs : List UInt8) (w : World) (h : Byt w b xs) (hn : (xs.length : Int) ≤ 50000) (hp : -9223372036854775808 ≤ p ∧ p ≤ 9223372036854775807) (hv : -9223372036854775808 ≤ v ∧ v ≤ 9223372036854775807) :
    Calls Try.prog 35 #[.int .i64 p, .int .i64 v, b] w (RetB w (threeE p v xs)) := by
  have H := Lib.hid h
  have HP := Lib.hid hp
  have HV := Lib.hid hv
  have HL : Hid ((xs.length : Int) ≤ 16777215) := Lib.hid (by omega)
  have HF := Lib.hid (three_flat p v xs hn)
  have HLP : Hid (((intE p).length : Int) ≤ 16777215) := Lib.hid (by have := intE_length p; omega)
  have HLV : Hid (((intE v).length : Int) ≤ 16777215) := Lib.hid (by have := intE_length v; omega)
  have HLO : Hid (((elem 4 xs).length : Int) ≤ 16777215) := Lib.hid (by have := elem_length 4 xs; omega)
  clear h hn hp hv
  by_cases h0 : intE p = []
  · have HE := Lib.hid (threeE_nil (xs := xs) (p := p) (v := v) (.inl h0))
    go_enter Try.func35, Try.ntmps35
    go_wp2_with fail
    refine (r_integer_any p w HP.out.1 HP.out.2).mono ?_
    rintro e w1 ⟨v1, rfl, hown, hb⟩
    rw [h0] at hown
    obtain ⟨A1, c1, rfl, _⟩ := hown.byt.len
    have HB := Lib.hid hb
    clear hown hb h0
    go_wp2_with fail
    go_ret
    rw [HE.out]
    exact ⟨_, rfl, World.ownsRow_nil _ _ _ _, HB.out⟩
  · have hp0 : (((intE p).length : Int) == 0) = false := by rw [beq_eq_false_iff_ne]; intro e; exact h0 (List.eq_nil_of_length_eq_zero (by omega))
    by_cases h1 : intE v = []
    · have HE := Lib.hid (threeE_nil (xs := xs) (p := p) (v := v) (.inr h1))
      go_enter Try.func35, Try.ntmps35
      go_wp2_with fail
      refine (r_integer_any p w HP.out.1 HP.out.2).mono ?_
      rintro e w1 ⟨v1, rfl, hown, hb⟩
      obtain ⟨A1, c1, rfl, _⟩ := hown.byt.len
      have HB := Lib.hid hb
      clear hown hb h0
      go_wp2_with fail
      refine (r_integer_any v w1 HV.out.1 HV.out.2).mono ?_
      rintro e w2 ⟨v2, rfl, hown, hb⟩
      rw [h1] at hown
      obtain ⟨A2, c2, rfl, _⟩ := hown.byt.len
      have HB2 := Lib.hid (HB.out.trans (hb.mono HB.out.size))
      clear hown hb h1
      go_wp2_with fail
      go_ret
      rw [HE.out]
      exact ⟨_, rfl, World.ownsRow_nil _ _ _ _, HB2.out⟩
    · have hv0 : (((intE v).length : Int) == 0) = false := by rw [beq_eq_false_iff_ne]; intro e; exact h1 (List.eq_nil_of_length_eq_zero (by omega))
      have HE := Lib.hid (threeE_some (xs := xs) h0 h1)
      clear h0 h1
      go_enter Try.func35, Try.ntmps35
      go_wp2_with fail
      refine (r_integer_any p w HP.out.1 HP.out.2).mono ?_
      rintro e w1 ⟨v1, rfl, hown, hb⟩
      obtain ⟨A1, c1, rfl, _⟩ := hown.byt.len
      have HB1 := Lib.hid hb
      clear hown hb
      go_wp2_with fail
      refine (r_integer_any v w1 HV.out.1 HV.out.2).mono ?_
      rintro e w2 ⟨v2, rfl, hown, hb⟩
      obtain ⟨A2, c2, rfl, _⟩ := hown.byt.len
      have HB2 := Lib.hid (HB1.out.trans (hb.mono HB1.out.size))
      clear hown hb hp0
      go_wp2_with fail
      clear hv0
      refine (r_integer_any p w2 HP.out.1 HP.out.2).mono ?_
      rintro e w3 ⟨v3, rfl, hown, hb⟩
      have HB3 := Lib.hid (HB2.out.trans (hb.mono HB2.out.size))
      have HO3 := Lib.hid hown.byt
      clear hown hb
      go_wp2_with fail
      refine (r_tagged_any 0 _ (intE p) w3 HO3.out HLP.out).mono ?_
      rintro e w4 ⟨v4, rfl, hown, hb⟩
      obtain ⟨A4, c4, rfl, _⟩ := hown.byt.len
      have HB4 := Lib.hid (HB3.out.trans (hb.mono HB3.out.size))
      have HO4 := Lib.hid hown.byt
      clear hown hb
      go_wp2_with fail
      refine (r_integer_any v w4 HV.out.1 HV.out.2).mono ?_
      rintro e w5 ⟨v5, rfl, hown, hb⟩
      have HB5 := Lib.hid (HB4.out.trans (hb.mono HB4.out.size))
      have HO5 := Lib.hid hown.byt
      have HO4' := Lib.hid (HO4.out.below hb)
      clear hown hb HO4
      go_wp2_with fail
      refine (r_tagged_any 1 _ (intE v) w5 HO5.out HLV.out).mono ?_
      rintro e w6 ⟨v6, rfl, hown, hb⟩
      obtain ⟨A6, c6, rfl, _⟩ := hown.byt.len
      have HB6 := Lib.hid (HB5.out.trans (hb.mono HB5.out.size))
      have HO6 := Lib.hid hown.byt
      have HO4 := Lib.hid (HO4'.out.below hb)
      clear hown hb HO4'
      go_wp2_with fail
      refine (r_octets_any _ xs w6 (H.out.below HB6.out) HL.out).mono ?_
      rintro e w7 ⟨v7, rfl, hown, hb⟩
      have HB7 := Lib.hid (HB6.out.trans (hb.mono HB6.out.size))
      have HO7 := Lib.hid hown.byt
      have HO4' := Lib.hid (HO4.out.below hb)
      have HO6' := Lib.hid (HO6.out.below hb)
      clear hown hb HO4 HO6
      go_wp2_with fail
      refine (r_tagged_any 2 _ (elem 4 xs) w7 HO7.out HLO.out).mono ?_
      rintro e w8 ⟨v8, rfl, hown, hb⟩
      obtain ⟨A8, c8, rfl, _⟩ := hown.byt.len
      have HB8 := Lib.hid (HB7.out.trans (hb.mono HB7.out.size))
      have HBS := Lib.hid (bss3 (w := w8) rfl (HO4'.out.below hb) (HO6'.out.below hb) hown.byt)
      clear hown hb HO4' HO6'
      go_wp2_with fail
      refine (r_sequence_any _ _ _ HBS.out (le_lim (by simp)) HF.out).mono ?_
      rintro e w9 ⟨v9, rfl, hown, hb⟩
      have HO9 := Lib.hid hown
      have HB9 := Lib.hid hb
      clear hown hb
      go_wp2_with fail
      go_ret
      rw [HE.out]
      exact RetB.of (HB8.out.trans ((below1 _).mono HB8.out.size)) HO9.out HB9.out

end Go.Proofs.Yteepfeggkocakaa
