/- Walk: the law DerWraps (printed by genwraps.py). -/
import Derived.Test.YteepfeggkocakaaDerL1
set_option linter.unusedVariables false
set_option linter.unusedSimpArgs false
set_option maxRecDepth 20000
namespace Go.Proofs.Yteepfeggkocakaa
open Go.RowKit Der

theorem flatten_le {xss : List (List UInt8)} (m : Nat) (h : ∀ (j : Nat) (hj : j < xss.length), xss[j].length ≤ m) : xss.flatten.length ≤ xss.length * m := by
  induction xss with
  | nil => simp
  | cons x xss ih =>
    have h0 := h 0 (by simp)
    have h1 := ih fun j hj => by have := h (j + 1) (by simpa using hj); simpa using this
    simp only [List.getElem_cons_zero] at h0
    simp only [List.flatten_cons, List.length_append, List.length_cons, Nat.succ_mul]
    omega

set_option maxHeartbeats 6400000 in
theorem wraps_any (l : Value) (xss : List (List UInt8)) (n : Int) (w : World) (h : Bss w l xss) (hn : -9223372036854775808 ≤ n ∧ n ≤ 9223372036854775807) :
    Calls Try.prog 3 #[l, .int .i64 n] w fun e w' => e = .returned (.bool true) ∧ Below w.heap.size w w' := by
  obtain ⟨A, c, rfl⟩ := h.len
  have H := Lib.hid h
  have HN := Lib.hid hn
  clear h hn
  by_cases h6 : 6 < xss.length
  · go_enter Try.func3, Try.ntmps3
    go_wp2_with fail
    refine (known_any w).mono ?_
    rintro e w1 ⟨rfl, hb⟩
    have HB := Lib.hid hb
    clear hb
    go_wp2_with fail
    go_ret
    exact ⟨rfl, HB.out⟩
  · have h6' : (xss.length : Int) ≤ 6 := by omega
    go_enter Try.func3, Try.ntmps3
    go_wp2_with fail
    go_loopw [5] (fun i wr => ∃ (k : Nat), k ≤ xss.length ∧ i = .int .i64 k ∧ (∀ j (hj : j < k) (hj2 : j < xss.length), xss[j].length ≤ 100) ∧ Below w.heap.size w wr) (fun i _ => xss.length - (intOf i).toNat)
    case atStart => exact ⟨0, Nat.zero_le _, rfl, fun j hj => absurd hj (Nat.not_lt_zero _), Below.refl _ _⟩
    case round =>
      obtain ⟨k, hk, rfl, hlen, hb⟩ := hrel
      have HL := Lib.hid hlen
      have HB := Lib.hid hb
      clear hlen hb
      by_cases hlt : k < xss.length
      · obtain ⟨b, off, c2, u, hA, hblt, hc, hu⟩ := (H.out.below HB.out).at_ hlt
        injection hA with hA _ hc'
        subst hA hc'
        obtain ⟨Au, cu, rfl, _, _, _⟩ := hu.len
        have HU := Lib.hid hu
        clear hu
        by_cases hbig : 100 < xss[k].length
        · go_wp2_with fail
          refine (known_any wr).mono ?_
          rintro e w1 ⟨rfl, hb⟩
          have HB1 := Lib.hid (HB.out.trans (hb.mono HB.out.size))
          clear hb
          go_wp2_with fail
          go_ret
          exact ⟨rfl, HB1.out⟩
        · have HS : Hid ((xss[k].length : Int) ≤ 16777215) := Lib.hid (by omega)
          go_wp2_with fail
          refine region_road Later [(0, true), (1, true), (2, true), (3, true), (4, true), (7, true), (8, true), (9, true), (10, true), (11, true), (5, false), (6, true), (12, false), (13, true), (14, true), (15, true), (16, true), (17, true), (18, true), (19, true), (20, true), (23, true), (24, true), (25, true), (26, true), (27, true), (21, false), (22, true), (28, false), (29, true), (30, true), (31, true)] (by kernel_rfl) (by kernel_rfl) (by kernel_rfl) (by kernel_rfl) (by kernel_rfl) (by kernel_rfl) later_refl later_trans (fun _ _ d _ _ h => by cases d <;> exact h) ?_
          have hU : Hid (Byt wr.drew (.slice Au xss[k].length cu) xss[k]) := Lib.hid HU.out
          have hB2 : Hid (Below w.heap.size w wr.drew) := Lib.hid HB.out.drew
          have hc0 : wr.drew.cell? ⟨b, off + k, none⟩ = some (.slice Au xss[k].length cu) := hc
          have hbl0 : b < wr.drew.heap.size := hblt
          generalize wr.drew = w2 at hU hB2 hc0 hbl0 ⊢
          clear HB hc
          have HC2 : Hid (Later w2 w2) := Lib.hid (later_refl _)
          refine seqR_at (o := ?_) ?_ ?_
          rotate_left
          · (conv => (lhs; whnf; arg 1; whnf))
          refine seqR_y (v := ?_) (by rfl) (fun W hW => ?_) ?_
          rotate_left
          · go_simp; try with_reducible rfl
          try simp only [Act.put, List.setIfInBounds_toArray, List.set_cons_zero, List.set_cons_succ]
          refine seqR_at (o := ?_) ?_ ?_
          rotate_left
          · (conv => (lhs; whnf; arg 1; whnf))
          refine seqR_y (v := ?_) (by rfl) (fun W hW => ?_) ?_
          rotate_left
          · go_simp; try with_reducible rfl
          try simp only [Act.put, List.setIfInBounds_toArray, List.set_cons_zero, List.set_cons_succ]
          refine seqR_at (o := ?_) ?_ ?_
          rotate_left
          · (conv => (lhs; whnf; arg 1; whnf))
          refine seqR_y (v := ?_) (by rfl) (fun W hW => ?_) ?_
          rotate_left
          · go_simp; try with_reducible rfl
          try simp only [Act.put, List.setIfInBounds_toArray, List.set_cons_zero, List.set_cons_succ]
          refine seqR_at (o := ?_) ?_ ?_
          rotate_left
          · (conv => (lhs; whnf; arg 1; whnf))
          refine seqR_y (v := ?_) (by rfl) (fun W hW => ?_) ?_
          rotate_left
          · go_simp; try with_reducible rfl
          try simp only [Act.put, List.setIfInBounds_toArray, List.set_cons_zero, List.set_cons_succ]
          refine seqR_at (o := ?_) ?_ ?_
          rotate_left
          · (conv => (lhs; whnf; arg 1; whnf))
          refine seqR_y (v := ?_) (by rfl) (fun W hW => ?_) ?_
          rotate_left
          · have hl := (Below.cell (later_trans _ _ _ HC2.out hW) (p := ⟨b, off + k, none⟩) hbl0).trans hc0; go_simp; try with_reducible rfl
          try simp only [Act.put, List.setIfInBounds_toArray, List.set_cons_zero, List.set_cons_succ]
          refine seqR_at (o := ?_) ?_ ?_
          rotate_left
          · (conv => (lhs; whnf; arg 1; whnf))
          refine seqR_y (v := ?_) (by rfl) (fun W hW => ?_) ?_
          rotate_left
          · go_simp; try with_reducible rfl
          try simp only [Act.put, List.setIfInBounds_toArray, List.set_cons_zero, List.set_cons_succ]
          refine seqR_at (o := ?_) ?_ ?_
          rotate_left
          · (conv => (lhs; whnf; arg 1; whnf))
          refine seqR_y (v := ?_) (by rfl) (fun W hW => ?_) ?_
          rotate_left
          · go_simp; try with_reducible rfl
          try simp only [Act.put, List.setIfInBounds_toArray, List.set_cons_zero, List.set_cons_succ]
          refine seqR_at (o := ?_) ?_ ?_
          rotate_left
          · (conv => (lhs; whnf; arg 1; whnf))
          refine seqR_y (v := ?_) (by rfl) (fun W hW => ?_) ?_
          rotate_left
          · go_simp; try with_reducible rfl
          try simp only [Act.put, List.setIfInBounds_toArray, List.set_cons_zero, List.set_cons_succ]
          refine seqR_at (o := ?_) ?_ ?_
          rotate_left
          · (conv => (lhs; whnf; arg 1; whnf))
          refine seqR_y (v := ?_) (by rfl) (fun W hW => ?_) ?_
          rotate_left
          · go_simp; try with_reducible rfl
          try simp only [Act.put, List.setIfInBounds_toArray, List.set_cons_zero, List.set_cons_succ]
          refine seqR_at (o := ?_) ?_ ?_
          rotate_left
          · (conv => (lhs; whnf; arg 1; whnf))
          refine seqR_y (v := ?_) (by rfl) (fun W hW => ?_) ?_
          rotate_left
          · have hl := (Below.cell (later_trans _ _ _ HC2.out hW) (p := ⟨b, off + k, none⟩) hbl0).trans hc0; go_simp; try with_reducible rfl
          try simp only [Act.put, List.setIfInBounds_toArray, List.set_cons_zero, List.set_cons_succ]
          refine seqR_at (o := ?_) ?_ ?_
          rotate_left
          · (conv => (lhs; whnf; arg 1; whnf))
          refine seqR_c (by rfl) (fun K hK => ?_)
          go_simp
          refine (application_any n _ xss[k] _ (hU.out.below HC2.out) HS.out).mono ?_
          rintro e w3 ⟨v3, rfl, hown, hb⟩
          have c3 := strLater hown.byt
          have HC3 := Lib.hid (later_trans _ _ _ HC2.out hb)
          refine hK _ _ hb ?_
          clear hK hb hown
          try simp only [Act.put, List.setIfInBounds_toArray, List.set_cons_zero, List.set_cons_succ]
          refine seqR_at (o := ?_) ?_ ?_
          rotate_left
          · (conv => (lhs; whnf; arg 1; whnf))
          refine seqR_y (v := ?_) (by rfl) (fun W hW => ?_) ?_
          rotate_left
          · go_simp; try with_reducible rfl
          try simp only [Act.put, List.setIfInBounds_toArray, List.set_cons_zero, List.set_cons_succ]
          refine seqR_at (o := ?_) ?_ ?_
          rotate_left
          · (conv => (lhs; whnf; arg 1; whnf))
          refine seqR_c (by rfl) (fun K hK => ?_)
          go_simp
          refine (r_application_any n _ xss[k] _ (hU.out.below HC3.out) HS.out).mono ?_
          rintro e w4 ⟨v4, rfl, hown, hb⟩
          have c4 := strLater hown.byt
          have HC4 := Lib.hid (later_trans _ _ _ HC3.out hb)
          refine hK _ _ hb ?_
          clear hK hb hown
          try simp only [Act.put, List.setIfInBounds_toArray, List.set_cons_zero, List.set_cons_succ]
          refine seqR_at (o := ?_) ?_ ?_
          rotate_left
          · (conv => (lhs; whnf; arg 1; whnf))
          refine seqR_y (v := ?_) (by rfl) (fun W hW => ?_) ?_
          rotate_left
          · go_simp; try with_reducible rfl
          try simp only [Act.put, List.setIfInBounds_toArray, List.set_cons_zero, List.set_cons_succ]
          refine seqR_at (o := ?_) ?_ ?_
          rotate_left
          · (conv => (lhs; whnf; arg 1; whnf))
          refine seqR_y (v := ?_) (by rfl) (fun W hW => ?_) ?_
          rotate_left
          · go_simp; try with_reducible rfl
          try simp only [Act.put, List.setIfInBounds_toArray, List.set_cons_zero, List.set_cons_succ]
          refine seqR_at (o := ?_) ?_ ?_
          rotate_left
          · (conv => (lhs; whnf; arg 1; whnf))
          refine seqR_y (v := ?_) (by rfl) (fun W hW => ?_) ?_
          rotate_left
          · go_simp; try with_reducible rfl
          try simp only [Act.put, List.setIfInBounds_toArray, List.set_cons_zero, List.set_cons_succ]
          refine seqR_at (o := ?_) ?_ ?_
          rotate_left
          · (conv => (lhs; whnf; arg 1; whnf))
          refine seqR_y (v := ?_) (by rfl) (fun W hW => ?_) ?_
          rotate_left
          · go_simp; try with_reducible rfl
          try simp only [Act.put, List.setIfInBounds_toArray, List.set_cons_zero, List.set_cons_succ]
          refine seqR_at (o := ?_) ?_ ?_
          rotate_left
          · (conv => (lhs; whnf; arg 1; whnf))
          refine seqR_y (v := ?_) (by rfl) (fun W hW => ?_) ?_
          rotate_left
          · go_simp; try with_reducible rfl
          try simp only [Act.put, List.setIfInBounds_toArray, List.set_cons_zero, List.set_cons_succ]
          refine seqR_at (o := ?_) ?_ ?_
          rotate_left
          · (conv => (lhs; whnf; arg 1; whnf))
          refine seqR_y (v := ?_) (by rfl) (fun W hW => ?_) ?_
          rotate_left
          · go_simp; try with_reducible rfl
          try simp only [Act.put, List.setIfInBounds_toArray, List.set_cons_zero, List.set_cons_succ]
          refine seqR_at (o := ?_) ?_ ?_
          rotate_left
          · (conv => (lhs; whnf; arg 1; whnf))
          refine seqR_y (v := ?_) (by rfl) (fun W hW => ?_) ?_
          rotate_left
          · go_simp; try with_reducible rfl
          try simp only [Act.put, List.setIfInBounds_toArray, List.set_cons_zero, List.set_cons_succ]
          refine seqR_at (o := ?_) ?_ ?_
          rotate_left
          · (conv => (lhs; whnf; arg 1; whnf))
          refine seqR_y (v := ?_) (by rfl) (fun W hW => ?_) ?_
          rotate_left
          · have hl := (Below.cell (later_trans _ _ _ HC4.out hW) (p := ⟨b, off + k, none⟩) hbl0).trans hc0; go_simp; try with_reducible rfl
          try simp only [Act.put, List.setIfInBounds_toArray, List.set_cons_zero, List.set_cons_succ]
          refine seqR_at (o := ?_) ?_ ?_
          rotate_left
          · (conv => (lhs; whnf; arg 1; whnf))
          refine seqR_y (v := ?_) (by rfl) (fun W hW => ?_) ?_
          rotate_left
          · go_simp; try with_reducible rfl
          try simp only [Act.put, List.setIfInBounds_toArray, List.set_cons_zero, List.set_cons_succ]
          refine seqR_at (o := ?_) ?_ ?_
          rotate_left
          · (conv => (lhs; whnf; arg 1; whnf))
          refine seqR_y (v := ?_) (by rfl) (fun W hW => ?_) ?_
          rotate_left
          · go_simp; try with_reducible rfl
          try simp only [Act.put, List.setIfInBounds_toArray, List.set_cons_zero, List.set_cons_succ]
          refine seqR_at (o := ?_) ?_ ?_
          rotate_left
          · (conv => (lhs; whnf; arg 1; whnf))
          refine seqR_y (v := ?_) (by rfl) (fun W hW => ?_) ?_
          rotate_left
          · go_simp; try with_reducible rfl
          try simp only [Act.put, List.setIfInBounds_toArray, List.set_cons_zero, List.set_cons_succ]
          refine seqR_at (o := ?_) ?_ ?_
          rotate_left
          · (conv => (lhs; whnf; arg 1; whnf))
          refine seqR_y (v := ?_) (by rfl) (fun W hW => ?_) ?_
          rotate_left
          · go_simp; try with_reducible rfl
          try simp only [Act.put, List.setIfInBounds_toArray, List.set_cons_zero, List.set_cons_succ]
          refine seqR_at (o := ?_) ?_ ?_
          rotate_left
          · (conv => (lhs; whnf; arg 1; whnf))
          refine seqR_y (v := ?_) (by rfl) (fun W hW => ?_) ?_
          rotate_left
          · have hl := (Below.cell (later_trans _ _ _ HC4.out hW) (p := ⟨b, off + k, none⟩) hbl0).trans hc0; go_simp; try with_reducible rfl
          try simp only [Act.put, List.setIfInBounds_toArray, List.set_cons_zero, List.set_cons_succ]
          refine seqR_at (o := ?_) ?_ ?_
          rotate_left
          · (conv => (lhs; whnf; arg 1; whnf))
          refine seqR_c (by rfl) (fun K hK => ?_)
          go_simp
          refine (tagged_any n _ xss[k] _ (hU.out.below HC4.out) HS.out).mono ?_
          rintro e w5 ⟨v5, rfl, hown, hb⟩
          have c5 := strLater hown.byt
          have HC5 := Lib.hid (later_trans _ _ _ HC4.out hb)
          refine hK _ _ hb ?_
          clear hK hb hown
          try simp only [Act.put, List.setIfInBounds_toArray, List.set_cons_zero, List.set_cons_succ]
          refine seqR_at (o := ?_) ?_ ?_
          rotate_left
          · (conv => (lhs; whnf; arg 1; whnf))
          refine seqR_y (v := ?_) (by rfl) (fun W hW => ?_) ?_
          rotate_left
          · go_simp; try with_reducible rfl
          try simp only [Act.put, List.setIfInBounds_toArray, List.set_cons_zero, List.set_cons_succ]
          refine seqR_at (o := ?_) ?_ ?_
          rotate_left
          · (conv => (lhs; whnf; arg 1; whnf))
          refine seqR_c (by rfl) (fun K hK => ?_)
          go_simp
          refine (r_tagged_any n _ xss[k] _ (hU.out.below HC5.out) HS.out).mono ?_
          rintro e w6 ⟨v6, rfl, hown, hb⟩
          have c6 := strLater hown.byt
          have HC6 := Lib.hid (later_trans _ _ _ HC5.out hb)
          refine hK _ _ hb ?_
          clear hK hb hown
          try simp only [Act.put, List.setIfInBounds_toArray, List.set_cons_zero, List.set_cons_succ]
          refine seqR_at (o := ?_) ?_ ?_
          rotate_left
          · (conv => (lhs; whnf; arg 1; whnf))
          refine seqR_y (v := ?_) (by rfl) (fun W hW => ?_) ?_
          rotate_left
          · go_simp; try with_reducible rfl
          try simp only [Act.put, List.setIfInBounds_toArray, List.set_cons_zero, List.set_cons_succ]
          refine seqR_at (o := ?_) ?_ ?_
          rotate_left
          · (conv => (lhs; whnf; arg 1; whnf))
          refine seqR_y (v := ?_) (by rfl) (fun W hW => ?_) ?_
          rotate_left
          · go_simp; try with_reducible rfl
          try simp only [Act.put, List.setIfInBounds_toArray, List.set_cons_zero, List.set_cons_succ]
          refine seqR_at (o := ?_) ?_ ?_
          rotate_left
          · (conv => (lhs; whnf; arg 1; whnf))
          refine seqR_y (v := ?_) (by rfl) (fun W hW => ?_) ?_
          rotate_left
          · go_simp; try with_reducible rfl
          try simp only [Act.put, List.setIfInBounds_toArray, List.set_cons_zero, List.set_cons_succ]
          refine seqR_end ?_
          go_wp2_with fail
          go_roundw
          case rel =>
            refine ⟨k + 1, by omega, by go_num, fun j hj hj2 => ?_, hB2.out.trans (HC6.out.mono hB2.out.size)⟩
            rcases Nat.lt_or_ge j k with h1 | h1
            · exact HL.out j h1 hj2
            · obtain rfl : j = k := by omega
              omega
          case measure => simp [intOf]; omega
      · obtain rfl : k = xss.length := by omega
        have HF : Hid ((xss.flatten.length : Int) ≤ 16777215) := Lib.hid (by
          have h1 := flatten_le 100 (fun j hj => HL.out j hj hj)
          have h2 : xss.length * 100 ≤ 6 * 100 := Nat.mul_le_mul_right _ (by omega)
          omega)
        have HXL : Hid (xss.length ≤ lim) := Lib.hid (small_lim (by omega))
        clear HL
        go_wp2_with fail
        refine region_road Later [(0, true), (3, true), (1, false), (2, true), (4, false), (5, true), (6, true), (7, true), (8, false), (9, true), (10, true)] (by kernel_rfl) (by kernel_rfl) (by kernel_rfl) (by kernel_rfl) (by kernel_rfl) (by kernel_rfl) later_refl later_trans (fun _ _ d _ _ h => by cases d <;> exact h) ?_
        have hB2 : Hid (Below w.heap.size w wr.drew) := Lib.hid HB.out.drew
        generalize wr.drew = w2 at hB2 ⊢
        clear HB
        have hH : Hid (Bss w2 (.slice A xss.length c) xss) := Lib.hid (H.out.below hB2.out)
        have HC2 : Hid (Later w2 w2) := Lib.hid (later_refl _)
        refine seqR_at (o := ?_) ?_ ?_
        rotate_left
        · (conv => (lhs; whnf; arg 1; whnf))
        refine seqR_y (v := ?_) (by rfl) (fun W hW => ?_) ?_
        rotate_left
        · go_simp; try with_reducible rfl
        try simp only [Act.put, List.setIfInBounds_toArray, List.set_cons_zero, List.set_cons_succ]
        refine seqR_at (o := ?_) ?_ ?_
        rotate_left
        · (conv => (lhs; whnf; arg 1; whnf))
        refine seqR_y (v := ?_) (by rfl) (fun W hW => ?_) ?_
        rotate_left
        · go_simp; try with_reducible rfl
        try simp only [Act.put, List.setIfInBounds_toArray, List.set_cons_zero, List.set_cons_succ]
        refine seqR_at (o := ?_) ?_ ?_
        rotate_left
        · (conv => (lhs; whnf; arg 1; whnf))
        refine seqR_c (by rfl) (fun K hK => ?_)
        go_simp
        refine (sequence_any _ xss _ (hH.out.below HC2.out) HXL.out HF.out).mono ?_
        rintro e w3 ⟨v3, rfl, hown, hb⟩
        have c3 := strLater hown.byt
        have HC3 := Lib.hid (later_trans _ _ _ HC2.out hb)
        refine hK _ _ hb ?_
        clear hK hb hown
        try simp only [Act.put, List.setIfInBounds_toArray, List.set_cons_zero, List.set_cons_succ]
        refine seqR_at (o := ?_) ?_ ?_
        rotate_left
        · (conv => (lhs; whnf; arg 1; whnf))
        refine seqR_y (v := ?_) (by rfl) (fun W hW => ?_) ?_
        rotate_left
        · go_simp; try with_reducible rfl
        try simp only [Act.put, List.setIfInBounds_toArray, List.set_cons_zero, List.set_cons_succ]
        refine seqR_at (o := ?_) ?_ ?_
        rotate_left
        · (conv => (lhs; whnf; arg 1; whnf))
        refine seqR_c (by rfl) (fun K hK => ?_)
        go_simp
        refine (r_sequence_any _ xss _ (hH.out.below HC3.out) HXL.out HF.out).mono ?_
        rintro e w4 ⟨v4, rfl, hown, hb⟩
        have c4 := strLater hown.byt
        have HC4 := Lib.hid (later_trans _ _ _ HC3.out hb)
        refine hK _ _ hb ?_
        clear hK hb hown
        try simp only [Act.put, List.setIfInBounds_toArray, List.set_cons_zero, List.set_cons_succ]
        refine seqR_at (o := ?_) ?_ ?_
        rotate_left
        · (conv => (lhs; whnf; arg 1; whnf))
        refine seqR_y (v := ?_) (by rfl) (fun W hW => ?_) ?_
        rotate_left
        · go_simp; try with_reducible rfl
        try simp only [Act.put, List.setIfInBounds_toArray, List.set_cons_zero, List.set_cons_succ]
        refine seqR_at (o := ?_) ?_ ?_
        rotate_left
        · (conv => (lhs; whnf; arg 1; whnf))
        refine seqR_y (v := ?_) (by rfl) (fun W hW => ?_) ?_
        rotate_left
        · go_simp; try with_reducible rfl
        try simp only [Act.put, List.setIfInBounds_toArray, List.set_cons_zero, List.set_cons_succ]
        refine seqR_at (o := ?_) ?_ ?_
        rotate_left
        · (conv => (lhs; whnf; arg 1; whnf))
        refine seqR_y (v := ?_) (by rfl) (fun W hW => ?_) ?_
        rotate_left
        · go_simp; try with_reducible rfl
        try simp only [Act.put, List.setIfInBounds_toArray, List.set_cons_zero, List.set_cons_succ]
        refine seqR_at (o := ?_) ?_ ?_
        rotate_left
        · (conv => (lhs; whnf; arg 1; whnf))
        refine seqR_c (by rfl) (fun K hK => ?_)
        go_simp
        refine (known_any _).mono ?_
        rintro e w5 ⟨rfl, hb⟩
        have HC5 := Lib.hid (later_trans _ _ _ HC4.out hb)
        refine hK _ _ hb ?_
        clear hK hb
        try simp only [Act.put, List.setIfInBounds_toArray, List.set_cons_zero, List.set_cons_succ]
        refine seqR_at (o := ?_) ?_ ?_
        rotate_left
        · (conv => (lhs; whnf; arg 1; whnf))
        refine seqR_y (v := ?_) (by rfl) (fun W hW => ?_) ?_
        rotate_left
        · go_simp; try with_reducible rfl
        try simp only [Act.put, List.setIfInBounds_toArray, List.set_cons_zero, List.set_cons_succ]
        refine seqR_at (o := ?_) ?_ ?_
        rotate_left
        · (conv => (lhs; whnf; arg 1; whnf))
        refine seqR_y (v := ?_) (by rfl) (fun W hW => ?_) ?_
        rotate_left
        · go_simp; try with_reducible rfl
        try simp only [Act.put, List.setIfInBounds_toArray, List.set_cons_zero, List.set_cons_succ]
        refine seqR_end ?_
        go_wp2_with fail
        go_ret
        exact ⟨rfl, hB2.out.trans (HC5.out.mono hB2.out.size)⟩

end Go.Proofs.Yteepfeggkocakaa
