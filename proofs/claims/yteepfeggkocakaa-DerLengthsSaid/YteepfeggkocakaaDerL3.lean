/- Walk: the law DerLengths (printed by genlengths.py). -/
import Derived.Test.YteepfeggkocakaaDerL1
import Derived.Test.YteepfeggkocakaaDerM
import Derived.Test.YteepfeggkocakaaDerBack
set_option linter.unusedVariables false
set_option linter.unusedSimpArgs false
set_option maxRecDepth 20000
namespace Go.Proofs.Yteepfeggkocakaa
open Go.RowKit Der

set_option maxHeartbeats 6400000 in
theorem lengths_any (n f : Int) (w : World) (hn : -9223372036854775808 ≤ n ∧ n ≤ 9223372036854775807) (hf : 0 ≤ f ∧ f ≤ 255) :
    Calls Try.prog 5 #[.int .i64 n, .int .u8 f] w fun e w' => e = .returned (.bool true) ∧ Below w.heap.size w w' := by
  by_cases hout : n < 0 ∨ 70000 < n
  · have hp : (decide (n < 0) || decide (70000 < n)) = true := by simpa using hout
    by_cases h0 : n < 0
    · clear hp hout hn
      go_enter Try.func5, Try.ntmps5
      go_wp2_with fail
      refine (known_any w).mono ?_
      rintro e w1 ⟨rfl, hb⟩
      have HB := Lib.hid hb
      clear hb
      go_wp2_with fail
      go_ret
      exact ⟨rfl, HB.out⟩
    · have h1 : 70000 < n := by omega
      have d0 : decide (n < 0) = false := decide_eq_false h0
      have d1 : decide (70000 < n) = true := decide_eq_true h1
      clear hp hout hn h1 h0
      go_enter Try.func5, Try.ntmps5
      go_wp2_with fail
      refine (known_any w).mono ?_
      rintro e w1 ⟨rfl, hb⟩
      have HB := Lib.hid hb
      clear hb
      go_wp2_with fail
      go_ret
      exact ⟨rfl, HB.out⟩
  · obtain ⟨m, rfl⟩ := Int.eq_ofNat_of_zero_le (show 0 ≤ n by omega)
    have hm : (m : Int) ≤ 70000 := by omega
    have hml : m ≤ lim := small_lim (by omega)
    have hfu : Value.int .u8 f = u8v (UInt8.ofNat f.toNat) := by unfold u8v; rw [UInt8.toNat_ofNat']; congr 1; omega
    have HFU := Lib.hid hfu
    have HF := Lib.hid hf
    have HML := Lib.hid hml
    have d1 : decide (70000 < (m : Int)) = false := decide_eq_false (by omega)
    clear hout hn hfu hf hml
    obtain ⟨i0, hi, hz0, hz1, hz2⟩ := info_parts infoU8
    go_enter Try.func5, Try.ntmps5
    go_wp2_with (refine wpList_make_full _ rfl (.tmp 18) (.tmp 18) 24 rfl w.heap.size 5 i0 (.int .u8 0) 1 Try.underlying24 hi hz0 hz1 .i64 .i64 (m : Int) (m : Int) m rfl rfl rfl rfl (by rw [hz2]; omega) (by have := lim_le HML.out; unfold maxLen; omega) (Nat.le_refl _) ?_; intro w1 hown1 hg1)
    have hb1 : Below w.heap.size w w1 := below_of_none hg1 (Nat.le_refl _)
    have hown2 : OwnB w1 w.heap.size (.slice (some ⟨w.heap.size, 0, none⟩) m m) (List.replicate m 0) := by
      unfold OwnB
      rw [List.length_replicate]
      simpa [Value.cells, toList_madeCells_one, u8v] using hown1
    have HO1 := Lib.hid hown2
    have HB1 := Lib.hid hb1
    clear hown1 hown2 hg1 hb1 hi hz0 hz1 hz2 d1
    go_wp2_with fail
    go_loopw [6] (fun i wr => ∃ (k : Nat) (bs : List UInt8), (k : Int) ≤ 70096 ∧ bs.length = m ∧ i = .int .i64 k ∧ OwnB wr w.heap.size (.slice (some ⟨w.heap.size, 0, none⟩) m m) bs ∧ Below w.heap.size w wr) (fun i _ => m + 97 - (intOf i).toNat)
    case atStart => exact ⟨0, List.replicate m 0, by omega, List.length_replicate .., rfl, HO1.out, HB1.out⟩
    case round =>
      obtain ⟨k, bs, hk, hbs, rfl, hown, hb⟩ := hrel
      have HB := Lib.hid hb
      clear hb
      by_cases hlt : k < m
      · have hown' : wr.ownsRow w.heap.size 5 1 (.slice (some ⟨w.heap.size, 0, none⟩) m m) m (bs.map u8v) := by rw [← hbs]; rw [hbs]; exact hbs ▸ hown
        have hf := hown'.frozenAt k
        have hc := hown'.cellAt k (by omega)
        obtain ⟨x0, hgt⟩ : ∃ x : UInt8, (bs.map u8v)[k]? = some (u8v x) := ⟨bs[k], by rw [List.getElem?_map, List.getElem?_eq_getElem (by omega)]; rfl⟩
        rw [hgt] at hc
        have HO := Lib.hid hown'
        have HBS := Lib.hid hbs
        clear hgt hown hown' hbs
        go_wp2_with fail
        go_roundw
        case rel =>
          have hs := (HO.out.stored k (Value.int .u8 f)).1
          rw [HFU.out, ← List.map_set] at hs
          refine ⟨k + 97, bs.set k (UInt8.ofNat f.toNat), by omega, by rw [List.length_set]; exact HBS.out, by go_num, ?_, HB.out.setCell (Nat.le_refl _) _⟩
          rw [HFU.out]
          unfold OwnB
          rw [List.length_set, HBS.out]
          exact hs
        case measure => simp [intOf]; omega
      · have HO : Hid (Byt wr (.slice (some ⟨w.heap.size, 0, none⟩) m m) bs) := Lib.hid hown.byt
        have HS : Hid ((bs.length : Int) ≤ 16777215) := Lib.hid (by omega)
        have HEL : Hid ((elem 4 bs).length ≤ lim) := Lib.hid (small_lim (by have := elem_length 4 bs; omega))
        have HXG : Hid (∀ g, wr.heap.size ≤ g → (Value.slice (some ⟨w.heap.size, 0, none⟩) m m).ownBlock ≠ some g) := Lib.hid (fun g hg e => by
          have h1 := (hown.lt w.heap.size rfl).2
          simp [Value.ownBlock] at e
          omega)
        clear hown HO1 HB1 hbs hm hk
        generalize hX : (some ⟨w.heap.size, 0, none⟩ : Option Addr) = X at *
        clear hX
        have hXG : Hid (∀ g, wr.heap.size ≤ g → (Value.slice X m m).ownBlock ≠ some g) := HXG
        clear HXG
        go_wp2_with fail
        refine (octets_any _ bs wr HO.out HS.out).mono ?_
        rintro e w2 ⟨v2, rfl, hown, hb⟩
        obtain ⟨A2, c2, rfl, _⟩ := hown.byt.len
        have HX := Lib.hid hown.byt
        have HO2 : Hid (Byt w2 (.slice X m m) bs) := Lib.hid (HO.out.below hb)
        have HB2 := Lib.hid (HB.out.trans (hb.mono HB.out.size))
        have HW2 := Lib.hid hb.size
        clear hown hb HO HB
        go_wp2_with fail
        refine (new_any _ (elem 4 bs) w2 HX.out HEL.out).mono ?_
        rintro e w3 ⟨g, A3, c3, rfl, hr, hgs, _, hb⟩
        have HR := Lib.hid hr
        have HX3 : Hid (Byt w3 (.slice A2 (elem 4 bs).length c2) (elem 4 bs)) := Lib.hid (HX.out.below hb)
        have HO3 : Hid (Byt w3 (.slice X m m) bs) := Lib.hid (HO2.out.below hb)
        have HB3 := Lib.hid (HB2.out.trans (hb.mono HB2.out.size))
        have HG := Lib.hid hgs
        clear hr hgs hb HX HO2
        go_wp2_with fail
        refine region_road Later [(0, true), (1, true), (2, true), (3, false), (4, true), (5, true), (6, true), (7, true), (8, true), (9, true)] (by kernel_rfl) (by kernel_rfl) (by kernel_rfl) (by kernel_rfl) (by kernel_rfl) (by kernel_rfl) later_refl later_trans (fun _ _ d _ _ h => by cases d <;> exact h) ?_
        have hX3 : Hid (Byt w3.drew (.slice A2 (elem 4 bs).length c2) (elem 4 bs)) := HX3
        have hO3 : Hid (Byt w3.drew (.slice X m m) bs) := HO3
        have hR3 : Hid (RdrAt w3.drew g A3 c3 (elem 4 bs) 0) := HR
        have hB3 : Hid (Below w.heap.size w w3.drew) := Lib.hid HB3.out.drew
        generalize w3.drew = w4 at hX3 hO3 hR3 hB3 ⊢
        clear HX3 HO3 HR HB3
        have cx := strLater hX3.out
        refine seqR_at (o := ?_) ?_ ?_
        rotate_left
        · (conv => (lhs; whnf; arg 1; whnf))
        refine seqR_y (v := ?_) (by rfl) (fun W hW => ?_) ?_
        rotate_left
        · go_simp; try with_reducible rfl
        try simp only [Act.put, List.setIfInBounds_toArray, List.set_cons_zero, List.set_cons_succ]
        refine seqR_at (o := ?_) ?_ ?_
        rotate_left
        · (conv => (lhs; whnf; arg 1; whnf))
        refine seqR_y (v := ?_) (by rfl) (fun W hW => ?_) ?_
        rotate_left
        · go_simp; try with_reducible rfl
        try simp only [Act.put, List.setIfInBounds_toArray, List.set_cons_zero, List.set_cons_succ]
        refine seqR_at (o := ?_) ?_ ?_
        rotate_left
        · (conv => (lhs; whnf; arg 1; whnf))
        refine seqR_y (v := ?_) (by rfl) (fun W hW => ?_) ?_
        rotate_left
        · go_simp; try with_reducible rfl
        try simp only [Act.put, List.setIfInBounds_toArray, List.set_cons_zero, List.set_cons_succ]
        refine seqR_at (o := ?_) ?_ ?_
        rotate_left
        · (conv => (lhs; whnf; arg 1; whnf))
        refine seqR_c (by rfl) (fun K hK => ?_)
        go_simp
        refine (r_octets_any _ bs _ hO3.out HS.out).mono ?_
        rintro e w5 ⟨v5, rfl, hown, hb⟩
        have c5 := strLater hown.byt
        have HB5 := Lib.hid hb
        refine hK _ _ hb ?_
        clear hK hb hown
        try simp only [Act.put, List.setIfInBounds_toArray, List.set_cons_zero, List.set_cons_succ]
        refine seqR_at (o := ?_) ?_ ?_
        rotate_left
        · (conv => (lhs; whnf; arg 1; whnf))
        refine seqR_y (v := ?_) (by rfl) (fun W hW => ?_) ?_
        rotate_left
        · go_simp; try with_reducible rfl
        try simp only [Act.put, List.setIfInBounds_toArray, List.set_cons_zero, List.set_cons_succ]
        refine seqR_at (o := ?_) ?_ ?_
        rotate_left
        · (conv => (lhs; whnf; arg 1; whnf))
        refine seqR_y (v := ?_) (by rfl) (fun W hW => ?_) ?_
        rotate_left
        · go_simp; try with_reducible rfl
        try simp only [Act.put, List.setIfInBounds_toArray, List.set_cons_zero, List.set_cons_succ]
        refine seqR_at (o := ?_) ?_ ?_
        rotate_left
        · (conv => (lhs; whnf; arg 1; whnf))
        refine seqR_y (v := ?_) (by rfl) (fun W hW => ?_) ?_
        rotate_left
        · go_simp; try with_reducible rfl
        try simp only [Act.put, List.setIfInBounds_toArray, List.set_cons_zero, List.set_cons_succ]
        refine seqR_at (o := ?_) ?_ ?_
        rotate_left
        · (conv => (lhs; whnf; arg 1; whnf))
        refine seqR_y (v := ?_) (by rfl) (fun W hW => ?_) ?_
        rotate_left
        · go_simp; try with_reducible rfl
        try simp only [Act.put, List.setIfInBounds_toArray, List.set_cons_zero, List.set_cons_succ]
        refine seqR_at (o := ?_) ?_ ?_
        rotate_left
        · (conv => (lhs; whnf; arg 1; whnf))
        refine seqR_y (v := ?_) (by rfl) (fun W hW => ?_) ?_
        rotate_left
        · go_simp; try with_reducible rfl
        try simp only [Act.put, List.setIfInBounds_toArray, List.set_cons_zero, List.set_cons_succ]
        refine seqR_at (o := ?_) ?_ ?_
        rotate_left
        · (conv => (lhs; whnf; arg 1; whnf))
        refine seqR_y (v := ?_) (by rfl) (fun W hW => ?_) ?_
        rotate_left
        · go_simp; try with_reducible rfl
        try simp only [Act.put, List.setIfInBounds_toArray, List.set_cons_zero, List.set_cons_succ]
        refine seqR_end ?_
        clear cx c5
        go_wp2_with fail
        have HP : Hid (contP 4 ((elem 4 bs).drop 0) = .ok (bs, (elem 4 bs).length)) := by
          have h1 := contP_elem 4 bs [] (by decide) (by decide) HS.out
          rw [List.append_nil] at h1
          exact h1
        refine (rd_Octets_any g A3 c3 (elem 4 bs) 0 w5 (hR3.out.below HB5.out)).mono ?_
        intro e w6 hP
        rw [HP.out] at hP
        obtain ⟨v6, rfl, hown, hr, hg⟩ := hP
        have hwg : w.heap.size ≤ g := Nat.le_trans HB2.out.size HG.out
        have HB6 : Hid (Below w.heap.size w w6) := Lib.hid ((hB3.out.trans (HB5.out.mono hB3.out.size)).grown hg (Nat.le_trans hB3.out.size HB5.out.size) (fun k e => by injection e with e; omega))
        have hO6 : Byt w6 (.slice X m m) bs := (hO3.out.below HB5.out).grown' hg (fun hx b e => by injection e with e; subst e; exact hXG.out _ (Nat.le_trans HW2.out HG.out))
        have c6 := strOf hown.byt
        have c7 : (convert 24 9 (.slice X m m)).run Try.prog w6 = .ok (.string ⟨bs.toArray⟩) w6 := strOf hO6
        have HR6 := Lib.hid hr
        clear hown hr hg hO6 hwg
        go_wp2_with fail
        clear c6 c7
        refine (rd_end_any g A3 c3 (elem 4 bs) _ w6 HR6.out).mono ?_
        rintro e w7 ⟨rfl, q, rfl⟩
        rw [if_neg (by omega)]
        go_wp2_with fail
        refine (known_any _).mono ?_
        rintro e w8 ⟨rfl, hb⟩
        have HB8 := Lib.hid hb
        clear hb
        go_wp2_with fail
        go_ret
        exact ⟨rfl, (HB6.out.trans ((below_drewN w6 q).mono HB6.out.size)).trans (HB8.out.mono HB6.out.size)⟩

end Go.Proofs.Yteepfeggkocakaa
