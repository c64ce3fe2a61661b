/- Walk: the law DerRecords (printed by genrecords.py). -/
import Derived.Test.YteepfeggkocakaaDerR
set_option linter.unusedVariables false
set_option linter.unusedSimpArgs false
set_option maxRecDepth 20000
namespace Go.Proofs.Yteepfeggkocakaa
open Go.RowKit Der

set_option maxHeartbeats 6400000 in
theorem records_any (p1 v1 : Int) (b1 : Value) (x1 : List UInt8) (p2 v2 : Int) (b2 : Value) (x2 : List UInt8) (l : Value) (ds : List (Int × List UInt8)) (w : World) (h1 : Byt w b1 x1) (h2 : Byt w b2 x2) (h : Dts w l ds)
    (g1 : (-9223372036854775808 ≤ p1 ∧ p1 ≤ 9223372036854775807) ∧ (-9223372036854775808 ≤ v1 ∧ v1 ≤ 9223372036854775807)) (g2 : (-9223372036854775808 ≤ p2 ∧ p2 ≤ 9223372036854775807) ∧ (-9223372036854775808 ≤ v2 ∧ v2 ≤ 9223372036854775807))
    (g3 : ∀ d ∈ ds, -9223372036854775808 ≤ d.1 ∧ d.1 ≤ 9223372036854775807) :
    Calls Try.prog 7 #[.agg #[.int .i64 p1, .int .i64 v1, b1], .agg #[.int .i64 p2, .int .i64 v2, b2], l] w fun e w' => e = .returned (.bool true) ∧ Below w.heap.size w w' := by
  obtain ⟨A1, c1, rfl, _⟩ := h1.len
  obtain ⟨A2, c2, rfl, _⟩ := h2.len
  obtain ⟨A, c, rfl⟩ := h.len
  have H1 := Lib.hid h1
  have H2 := Lib.hid h2
  have H := Lib.hid h
  have G1 := Lib.hid g1
  have G2 := Lib.hid g2
  have G3 := Lib.hid g3
  have HWA : Hid (Below w.heap.size w ((w.alloc (.cells #[.int .i64 p1, .int .i64 v1, .slice A1 x1.length c1] 49)).alloc (.cells #[.int .i64 p2, .int .i64 v2, .slice A2 x2.length c2] 50))) := Lib.hid ((below1 _).alloc (by simp) _)
  have hrowK : Hid (((w.alloc (.cells #[.int .i64 p1, .int .i64 v1, .slice A1 x1.length c1] 49)).alloc (.cells #[.int .i64 p2, .int .i64 v2, .slice A2 x2.length c2] 50)).heap[w.heap.size]? = some (.cells #[.int .i64 p1, .int .i64 v1, .slice A1 x1.length c1] 49 (0, 0))) := Lib.hid (by
    rw [Below.heap_alloc _ _ _ (by simp)]; exact heap_alloc_new w _)
  have hrowS : Hid (((w.alloc (.cells #[.int .i64 p1, .int .i64 v1, .slice A1 x1.length c1] 49)).alloc (.cells #[.int .i64 p2, .int .i64 v2, .slice A2 x2.length c2] 50)).heap[w.heap.size + 1]? = some (.cells #[.int .i64 p2, .int .i64 v2, .slice A2 x2.length c2] 50 (0, 0))) := Lib.hid (by
    have := heap_alloc_new (w.alloc (.cells #[.int .i64 p1, .int .i64 v1, .slice A1 x1.length c1] 49)) (.cells #[.int .i64 p2, .int .i64 v2, .slice A2 x2.length c2] 50)
    simpa using this)
  clear h1 h2 h g1 g2 g3
  by_cases hx1 : 100 < x1.length
  · go_enter Try.func7, Try.ntmps7
    go_wp2_with fail
    refine (known_any _).mono ?_
    rintro e w9 ⟨rfl, hb⟩
    have HB := Lib.hid hb
    clear hb
    go_wp2_with fail
    go_ret
    exact ⟨rfl, HWA.out.trans (HB.out.mono HWA.out.size)⟩
  · by_cases hx2 : 100 < x2.length
    · go_enter Try.func7, Try.ntmps7
      go_wp2_with fail
      refine (known_any _).mono ?_
      rintro e w9 ⟨rfl, hb⟩
      have HB := Lib.hid hb
      clear hb
      go_wp2_with fail
      go_ret
      exact ⟨rfl, HWA.out.trans (HB.out.mono HWA.out.size)⟩
    · by_cases hx3 : 20 < ds.length
      · go_enter Try.func7, Try.ntmps7
        go_wp2_with fail
        refine (known_any _).mono ?_
        rintro e w9 ⟨rfl, hb⟩
        have HB := Lib.hid hb
        clear hb
        go_wp2_with fail
        go_ret
        exact ⟨rfl, HWA.out.trans (HB.out.mono HWA.out.size)⟩
      · have HX1 : Hid ((x1.length : Int) ≤ 50000) := Lib.hid (by omega)
        have HX2 : Hid ((x2.length : Int) ≤ 50000) := Lib.hid (by omega)
        have hx3' : (ds.length : Int) ≤ 20 := by omega
        go_enter Try.func7, Try.ntmps7
        go_wp2_with fail
        generalize ((w.alloc (.cells #[.int .i64 p1, .int .i64 v1, .slice A1 x1.length c1] 49)).alloc (.cells #[.int .i64 p2, .int .i64 v2, .slice A2 x2.length c2] 50)) = w1 at HWA hrowK hrowS ⊢
        have hK1 : Hid (Byt w1 (.slice A1 x1.length c1) x1) := Lib.hid (H1.out.below HWA.out)
        have hS1 : Hid (Byt w1 (.slice A2 x2.length c2) x2) := Lib.hid (H2.out.below HWA.out)
        have hD1 : Hid (Dts w1 (.slice A ds.length c) ds) := Lib.hid (H.out.below HWA.out)
        clear H1 H2 H
        go_loopw [7] (fun i wr => ∃ (k : Nat), k ≤ ds.length ∧ i = .int .i64 k ∧ (∀ (j : Nat) (hj : j < ds.length), j < k → ds[j].2.length ≤ 50) ∧ Below w1.heap.size w1 wr) (fun i _ => ds.length - (intOf i).toNat)
        case atStart => exact ⟨0, Nat.zero_le _, rfl, fun j _ hj => absurd hj (Nat.not_lt_zero _), Below.refl _ _⟩
        case round =>
          obtain ⟨k, hk, rfl, hne, hb⟩ := hrel
          have HNE := Lib.hid hne
          have HB := Lib.hid hb
          clear hne hb
          by_cases hlt : k < ds.length
          · obtain ⟨b, off, c3, u, hA, hblt, hq0, hq1, hu⟩ := (hD1.out.below HB.out).at_ hlt
            injection hA with hA _ hc'
            subst hA hc'
            obtain ⟨Au, cu, rfl, _, _, _⟩ := hu.len
            clear hu
            by_cases hbig : 50 < ds[k].2.length
            · go_wp2_with fail
              refine (known_any _).mono ?_
              rintro e w9 ⟨rfl, hb⟩
              have HB1 := HB
              have HB := Lib.hid hb
              clear hb
              go_wp2_with fail
              go_ret
              exact ⟨rfl, HWA.out.trans ((HB1.out.trans (HB.out.mono HB1.out.size)).mono HWA.out.size)⟩
            · go_wp2_with fail
              go_roundw
              case rel =>
                refine ⟨k + 1, by omega, by go_num, fun j hj hjk => ?_, HB.out⟩
                rcases Nat.lt_or_ge j k with h1 | h1
                · exact HNE.out j hj h1
                · obtain rfl : j = k := by omega
                  omega
              case measure => simp [intOf]; omega
          · obtain rfl : k = ds.length := by omega
            have HDL : Hid (∀ d ∈ ds, (d.2.length : Int) ≤ 50000) := Lib.hid (fun d hd => by
              obtain ⟨j, hj, rfl⟩ := List.mem_iff_getElem.1 hd
              have := HNE.out j hj hj
              omega)
            clear HNE
            go_wp2_with fail
            refine region_road Later [(0, true), (3, true), (4, true), (5, true), (6, true), (7, true), (8, true), (1, false), (2, true), (9, false), (10, true), (11, true), (12, true), (13, true), (16, true), (17, true), (18, true), (19, true), (20, true), (21, true), (14, false), (15, true), (22, false), (23, true), (24, true), (25, true), (26, true), (27, true), (30, true), (28, false), (29, true), (31, false), (32, true), (33, true), (34, true), (35, true), (36, false), (37, true), (38, true)] (by kernel_rfl) (by kernel_rfl) (by kernel_rfl) (by kernel_rfl) (by kernel_rfl) (by kernel_rfl) later_refl later_trans (fun _ _ d _ _ h => by cases d <;> exact h) ?_
            have hB2 : Hid (Below w1.heap.size w1 wr.drew) := Lib.hid HB.out.drew
            generalize wr.drew = w2 at hB2 ⊢
            clear HB
            have hK2 : Hid (Byt w2 (.slice A1 x1.length c1) x1) := Lib.hid (hK1.out.below hB2.out)
            have hS2 : Hid (Byt w2 (.slice A2 x2.length c2) x2) := Lib.hid (hS1.out.below hB2.out)
            have hD2 : Hid (Dts w2 (.slice A ds.length c) ds) := Lib.hid (hD1.out.below hB2.out)
            have hk1 : w.heap.size < w1.heap.size := (Array.getElem?_eq_some_iff.1 hrowK.out).1
            have hs1 : w.heap.size + 1 < w1.heap.size := (Array.getElem?_eq_some_iff.1 hrowS.out).1
            have HC2 : Hid (Later w2 w2) := Lib.hid (later_refl _)
            have hcell : Hid (∀ W, Below w1.heap.size w1 W → (W.cell? ⟨w.heap.size, 0, none⟩ = some (.int .i64 p1) ∧ W.cell? ⟨w.heap.size, 1, none⟩ = some (.int .i64 v1) ∧ W.cell? ⟨w.heap.size, 2, none⟩ = some (.slice A1 x1.length c1)) ∧
                (W.cell? ⟨w.heap.size + 1, 0, none⟩ = some (.int .i64 p2) ∧ W.cell? ⟨w.heap.size + 1, 1, none⟩ = some (.int .i64 v2) ∧ W.cell? ⟨w.heap.size + 1, 2, none⟩ = some (.slice A2 x2.length c2))) := Lib.hid (fun W hW => by
              have a1 := (hW.block _ hk1).trans hrowK.out
              have a2 := (hW.block _ hs1).trans hrowS.out
              exact ⟨⟨cell_is _ _ 0 _ _ _ a1 rfl, cell_is _ _ 1 _ _ _ a1 rfl, cell_is _ _ 2 _ _ _ a1 rfl⟩, cell_is _ _ 0 _ _ _ a2 rfl, cell_is _ _ 1 _ _ _ a2 rfl, cell_is _ _ 2 _ _ _ a2 rfl⟩)
            clear hrowK hrowS hk1 hs1
            refine seqR_at (o := ?_) ?_ ?_
            rotate_left
            · (conv => (lhs; whnf; arg 1; whnf))
            refine seqR_y (v := ?_) (by rfl) (fun W hW => ?_) ?_
            rotate_left
            · have hW2 := hB2.out.trans ((later_trans _ _ _ HC2.out hW).mono hB2.out.size); obtain ⟨⟨f1, f2, f3⟩, f4, f5, f6⟩ := hcell.out W hW2; clear hW2; go_simp; try with_reducible rfl
            try simp only [Act.put, List.setIfInBounds_toArray, List.set_cons_zero, List.set_cons_succ]
            refine seqR_at (o := ?_) ?_ ?_
            rotate_left
            · (conv => (lhs; whnf; arg 1; whnf))
            refine seqR_y (v := ?_) (by rfl) (fun W hW => ?_) ?_
            rotate_left
            · go_simp; try with_reducible rfl
            try simp only [Act.put, List.setIfInBounds_toArray, List.set_cons_zero, List.set_cons_succ]
            refine seqR_at (o := ?_) ?_ ?_
            rotate_left
            · (conv => (lhs; whnf; arg 1; whnf))
            refine seqR_y (v := ?_) (by rfl) (fun W hW => ?_) ?_
            rotate_left
            · have hW2 := hB2.out.trans ((later_trans _ _ _ HC2.out hW).mono hB2.out.size); obtain ⟨⟨f1, f2, f3⟩, f4, f5, f6⟩ := hcell.out W hW2; clear hW2; go_simp; try with_reducible rfl
            try simp only [Act.put, List.setIfInBounds_toArray, List.set_cons_zero, List.set_cons_succ]
            refine seqR_at (o := ?_) ?_ ?_
            rotate_left
            · (conv => (lhs; whnf; arg 1; whnf))
            refine seqR_y (v := ?_) (by rfl) (fun W hW => ?_) ?_
            rotate_left
            · go_simp; try with_reducible rfl
            try simp only [Act.put, List.setIfInBounds_toArray, List.set_cons_zero, List.set_cons_succ]
            refine seqR_at (o := ?_) ?_ ?_
            rotate_left
            · (conv => (lhs; whnf; arg 1; whnf))
            refine seqR_y (v := ?_) (by rfl) (fun W hW => ?_) ?_
            rotate_left
            · have hW2 := hB2.out.trans ((later_trans _ _ _ HC2.out hW).mono hB2.out.size); obtain ⟨⟨f1, f2, f3⟩, f4, f5, f6⟩ := hcell.out W hW2; clear hW2; go_simp; try with_reducible rfl
            try simp only [Act.put, List.setIfInBounds_toArray, List.set_cons_zero, List.set_cons_succ]
            refine seqR_at (o := ?_) ?_ ?_
            rotate_left
            · (conv => (lhs; whnf; arg 1; whnf))
            refine seqR_y (v := ?_) (by rfl) (fun W hW => ?_) ?_
            rotate_left
            · go_simp; try with_reducible rfl
            try simp only [Act.put, List.setIfInBounds_toArray, List.set_cons_zero, List.set_cons_succ]
            refine seqR_at (o := ?_) ?_ ?_
            rotate_left
            · (conv => (lhs; whnf; arg 1; whnf))
            refine seqR_y (v := ?_) (by rfl) (fun W hW => ?_) ?_
            rotate_left
            · have hW2 := hB2.out.trans ((later_trans _ _ _ HC2.out hW).mono hB2.out.size); obtain ⟨⟨f1, f2, f3⟩, f4, f5, f6⟩ := hcell.out W hW2; clear hW2; go_simp; try with_reducible rfl
            try simp only [Act.put, List.setIfInBounds_toArray, List.set_cons_zero, List.set_cons_succ]
            refine seqR_at (o := ?_) ?_ ?_
            rotate_left
            · (conv => (lhs; whnf; arg 1; whnf))
            refine seqR_c (by rfl) (fun K hK => ?_)
            go_simp
            refine (key_any p1 v1 _ x1 _ (hK2.out.below HC2.out) HX1.out).mono ?_
            rintro e w3 ⟨v3, rfl, hown, hb⟩
            have c3 := strLater hown.byt
            have HC3 := Lib.hid (later_trans _ _ _ HC2.out hb)
            refine hK _ _ hb ?_
            clear hK hb hown
            try simp only [Act.put, List.setIfInBounds_toArray, List.set_cons_zero, List.set_cons_succ]
            refine seqR_at (o := ?_) ?_ ?_
            rotate_left
            · (conv => (lhs; whnf; arg 1; whnf))
            refine seqR_y (v := ?_) (by rfl) (fun W hW => ?_) ?_
            rotate_left
            · go_simp; try with_reducible rfl
            try simp only [Act.put, List.setIfInBounds_toArray, List.set_cons_zero, List.set_cons_succ]
            refine seqR_at (o := ?_) ?_ ?_
            rotate_left
            · (conv => (lhs; whnf; arg 1; whnf))
            refine seqR_c (by rfl) (fun K hK => ?_)
            go_simp
            refine (three_any p1 v1 _ x1 _ (hK2.out.below HC3.out) HX1.out G1.out.1 G1.out.2).mono ?_
            rintro e w4 ⟨v4, rfl, hown, hb⟩
            have c4 := strLater hown.byt
            have HC4 := Lib.hid (later_trans _ _ _ HC3.out hb)
            refine hK _ _ hb ?_
            clear hK hb hown
            try simp only [Act.put, List.setIfInBounds_toArray, List.set_cons_zero, List.set_cons_succ]
            refine seqR_at (o := ?_) ?_ ?_
            rotate_left
            · (conv => (lhs; whnf; arg 1; whnf))
            refine seqR_y (v := ?_) (by rfl) (fun W hW => ?_) ?_
            rotate_left
            · go_simp; try with_reducible rfl
            try simp only [Act.put, List.setIfInBounds_toArray, List.set_cons_zero, List.set_cons_succ]
            refine seqR_at (o := ?_) ?_ ?_
            rotate_left
            · (conv => (lhs; whnf; arg 1; whnf))
            refine seqR_y (v := ?_) (by rfl) (fun W hW => ?_) ?_
            rotate_left
            · go_simp; try with_reducible rfl
            try simp only [Act.put, List.setIfInBounds_toArray, List.set_cons_zero, List.set_cons_succ]
            refine seqR_at (o := ?_) ?_ ?_
            rotate_left
            · (conv => (lhs; whnf; arg 1; whnf))
            refine seqR_y (v := ?_) (by rfl) (fun W hW => ?_) ?_
            rotate_left
            · go_simp; try with_reducible rfl
            try simp only [Act.put, List.setIfInBounds_toArray, List.set_cons_zero, List.set_cons_succ]
            refine seqR_at (o := ?_) ?_ ?_
            rotate_left
            · (conv => (lhs; whnf; arg 1; whnf))
            refine seqR_y (v := ?_) (by rfl) (fun W hW => ?_) ?_
            rotate_left
            · have hW2 := hB2.out.trans ((later_trans _ _ _ HC4.out hW).mono hB2.out.size); obtain ⟨⟨f1, f2, f3⟩, f4, f5, f6⟩ := hcell.out W hW2; clear hW2; go_simp; try with_reducible rfl
            try simp only [Act.put, List.setIfInBounds_toArray, List.set_cons_zero, List.set_cons_succ]
            refine seqR_at (o := ?_) ?_ ?_
            rotate_left
            · (conv => (lhs; whnf; arg 1; whnf))
            refine seqR_y (v := ?_) (by rfl) (fun W hW => ?_) ?_
            rotate_left
            · go_simp; try with_reducible rfl
            try simp only [Act.put, List.setIfInBounds_toArray, List.set_cons_zero, List.set_cons_succ]
            refine seqR_at (o := ?_) ?_ ?_
            rotate_left
            · (conv => (lhs; whnf; arg 1; whnf))
            refine seqR_y (v := ?_) (by rfl) (fun W hW => ?_) ?_
            rotate_left
            · have hW2 := hB2.out.trans ((later_trans _ _ _ HC4.out hW).mono hB2.out.size); obtain ⟨⟨f1, f2, f3⟩, f4, f5, f6⟩ := hcell.out W hW2; clear hW2; go_simp; try with_reducible rfl
            try simp only [Act.put, List.setIfInBounds_toArray, List.set_cons_zero, List.set_cons_succ]
            refine seqR_at (o := ?_) ?_ ?_
            rotate_left
            · (conv => (lhs; whnf; arg 1; whnf))
            refine seqR_y (v := ?_) (by rfl) (fun W hW => ?_) ?_
            rotate_left
            · go_simp; try with_reducible rfl
            try simp only [Act.put, List.setIfInBounds_toArray, List.set_cons_zero, List.set_cons_succ]
            refine seqR_at (o := ?_) ?_ ?_
            rotate_left
            · (conv => (lhs; whnf; arg 1; whnf))
            refine seqR_y (v := ?_) (by rfl) (fun W hW => ?_) ?_
            rotate_left
            · have hW2 := hB2.out.trans ((later_trans _ _ _ HC4.out hW).mono hB2.out.size); obtain ⟨⟨f1, f2, f3⟩, f4, f5, f6⟩ := hcell.out W hW2; clear hW2; go_simp; try with_reducible rfl
            try simp only [Act.put, List.setIfInBounds_toArray, List.set_cons_zero, List.set_cons_succ]
            refine seqR_at (o := ?_) ?_ ?_
            rotate_left
            · (conv => (lhs; whnf; arg 1; whnf))
            refine seqR_y (v := ?_) (by rfl) (fun W hW => ?_) ?_
            rotate_left
            · go_simp; try with_reducible rfl
            try simp only [Act.put, List.setIfInBounds_toArray, List.set_cons_zero, List.set_cons_succ]
            refine seqR_at (o := ?_) ?_ ?_
            rotate_left
            · (conv => (lhs; whnf; arg 1; whnf))
            refine seqR_y (v := ?_) (by rfl) (fun W hW => ?_) ?_
            rotate_left
            · have hW2 := hB2.out.trans ((later_trans _ _ _ HC4.out hW).mono hB2.out.size); obtain ⟨⟨f1, f2, f3⟩, f4, f5, f6⟩ := hcell.out W hW2; clear hW2; go_simp; try with_reducible rfl
            try simp only [Act.put, List.setIfInBounds_toArray, List.set_cons_zero, List.set_cons_succ]
            refine seqR_at (o := ?_) ?_ ?_
            rotate_left
            · (conv => (lhs; whnf; arg 1; whnf))
            refine seqR_c (by rfl) (fun K hK => ?_)
            go_simp
            refine (sealed_any p2 v2 _ x2 _ (hS2.out.below HC4.out) HX2.out).mono ?_
            rintro e w5 ⟨v5, rfl, hown, hb⟩
            have c5 := strLater hown.byt
            have HC5 := Lib.hid (later_trans _ _ _ HC4.out hb)
            refine hK _ _ hb ?_
            clear hK hb hown
            try simp only [Act.put, List.setIfInBounds_toArray, List.set_cons_zero, List.set_cons_succ]
            refine seqR_at (o := ?_) ?_ ?_
            rotate_left
            · (conv => (lhs; whnf; arg 1; whnf))
            refine seqR_y (v := ?_) (by rfl) (fun W hW => ?_) ?_
            rotate_left
            · go_simp; try with_reducible rfl
            try simp only [Act.put, List.setIfInBounds_toArray, List.set_cons_zero, List.set_cons_succ]
            refine seqR_at (o := ?_) ?_ ?_
            rotate_left
            · (conv => (lhs; whnf; arg 1; whnf))
            refine seqR_c (by rfl) (fun K hK => ?_)
            go_simp
            refine (three_any p2 v2 _ x2 _ (hS2.out.below HC5.out) HX2.out G2.out.1 G2.out.2).mono ?_
            rintro e w6 ⟨v6, rfl, hown, hb⟩
            have c6 := strLater hown.byt
            have HC6 := Lib.hid (later_trans _ _ _ HC5.out hb)
            refine hK _ _ hb ?_
            clear hK hb hown
            try simp only [Act.put, List.setIfInBounds_toArray, List.set_cons_zero, List.set_cons_succ]
            refine seqR_at (o := ?_) ?_ ?_
            rotate_left
            · (conv => (lhs; whnf; arg 1; whnf))
            refine seqR_y (v := ?_) (by rfl) (fun W hW => ?_) ?_
            rotate_left
            · go_simp; try with_reducible rfl
            try simp only [Act.put, List.setIfInBounds_toArray, List.set_cons_zero, List.set_cons_succ]
            refine seqR_at (o := ?_) ?_ ?_
            rotate_left
            · (conv => (lhs; whnf; arg 1; whnf))
            refine seqR_y (v := ?_) (by rfl) (fun W hW => ?_) ?_
            rotate_left
            · go_simp; try with_reducible rfl
            try simp only [Act.put, List.setIfInBounds_toArray, List.set_cons_zero, List.set_cons_succ]
            refine seqR_at (o := ?_) ?_ ?_
            rotate_left
            · (conv => (lhs; whnf; arg 1; whnf))
            refine seqR_y (v := ?_) (by rfl) (fun W hW => ?_) ?_
            rotate_left
            · go_simp; try with_reducible rfl
            try simp only [Act.put, List.setIfInBounds_toArray, List.set_cons_zero, List.set_cons_succ]
            refine seqR_at (o := ?_) ?_ ?_
            rotate_left
            · (conv => (lhs; whnf; arg 1; whnf))
            refine seqR_y (v := ?_) (by rfl) (fun W hW => ?_) ?_
            rotate_left
            · go_simp; try with_reducible rfl
            try simp only [Act.put, List.setIfInBounds_toArray, List.set_cons_zero, List.set_cons_succ]
            refine seqR_at (o := ?_) ?_ ?_
            rotate_left
            · (conv => (lhs; whnf; arg 1; whnf))
            refine seqR_y (v := ?_) (by rfl) (fun W hW => ?_) ?_
            rotate_left
            · go_simp; try with_reducible rfl
            try simp only [Act.put, List.setIfInBounds_toArray, List.set_cons_zero, List.set_cons_succ]
            refine seqR_at (o := ?_) ?_ ?_
            rotate_left
            · (conv => (lhs; whnf; arg 1; whnf))
            refine seqR_y (v := ?_) (by rfl) (fun W hW => ?_) ?_
            rotate_left
            · go_simp; try with_reducible rfl
            try simp only [Act.put, List.setIfInBounds_toArray, List.set_cons_zero, List.set_cons_succ]
            refine seqR_at (o := ?_) ?_ ?_
            rotate_left
            · (conv => (lhs; whnf; arg 1; whnf))
            refine seqR_c (by rfl) (fun K hK => ?_)
            go_simp
            refine (data_any _ ds _ (hD2.out.below HC6.out) (by omega) HDL.out).mono ?_
            rintro e w7 ⟨v7, rfl, hown, hb⟩
            have c7 := strLater hown.byt
            have HC7 := Lib.hid (later_trans _ _ _ HC6.out hb)
            refine hK _ _ hb ?_
            clear hK hb hown
            try simp only [Act.put, List.setIfInBounds_toArray, List.set_cons_zero, List.set_cons_succ]
            refine seqR_at (o := ?_) ?_ ?_
            rotate_left
            · (conv => (lhs; whnf; arg 1; whnf))
            refine seqR_y (v := ?_) (by rfl) (fun W hW => ?_) ?_
            rotate_left
            · go_simp; try with_reducible rfl
            try simp only [Act.put, List.setIfInBounds_toArray, List.set_cons_zero, List.set_cons_succ]
            refine seqR_at (o := ?_) ?_ ?_
            rotate_left
            · (conv => (lhs; whnf; arg 1; whnf))
            refine seqR_c (by rfl) (fun K hK => ?_)
            go_simp
            refine (r_data_any _ ds _ (hD2.out.below HC7.out) (by omega) HDL.out G3.out).mono ?_
            rintro e w8 ⟨v8, rfl, hown, hb⟩
            have c8 := strLater hown.byt
            have HC8 := Lib.hid (later_trans _ _ _ HC7.out hb)
            refine hK _ _ hb ?_
            clear hK hb hown
            try simp only [Act.put, List.setIfInBounds_toArray, List.set_cons_zero, List.set_cons_succ]
            refine seqR_at (o := ?_) ?_ ?_
            rotate_left
            · (conv => (lhs; whnf; arg 1; whnf))
            refine seqR_y (v := ?_) (by rfl) (fun W hW => ?_) ?_
            rotate_left
            · go_simp; try with_reducible rfl
            try simp only [Act.put, List.setIfInBounds_toArray, List.set_cons_zero, List.set_cons_succ]
            refine seqR_at (o := ?_) ?_ ?_
            rotate_left
            · (conv => (lhs; whnf; arg 1; whnf))
            refine seqR_y (v := ?_) (by rfl) (fun W hW => ?_) ?_
            rotate_left
            · go_simp; try with_reducible rfl
            try simp only [Act.put, List.setIfInBounds_toArray, List.set_cons_zero, List.set_cons_succ]
            refine seqR_at (o := ?_) ?_ ?_
            rotate_left
            · (conv => (lhs; whnf; arg 1; whnf))
            refine seqR_y (v := ?_) (by rfl) (fun W hW => ?_) ?_
            rotate_left
            · go_simp; try with_reducible rfl
            try simp only [Act.put, List.setIfInBounds_toArray, List.set_cons_zero, List.set_cons_succ]
            refine seqR_at (o := ?_) ?_ ?_
            rotate_left
            · (conv => (lhs; whnf; arg 1; whnf))
            refine seqR_y (v := ?_) (by rfl) (fun W hW => ?_) ?_
            rotate_left
            · go_simp; try with_reducible rfl
            try simp only [Act.put, List.setIfInBounds_toArray, List.set_cons_zero, List.set_cons_succ]
            refine seqR_at (o := ?_) ?_ ?_
            rotate_left
            · (conv => (lhs; whnf; arg 1; whnf))
            refine seqR_c (by rfl) (fun K hK => ?_)
            go_simp
            refine (known_any _).mono ?_
            rintro e w9 ⟨rfl, hb⟩
            have HC9 := Lib.hid (later_trans _ _ _ HC8.out hb)
            refine hK _ _ hb ?_
            clear hK hb
            try simp only [Act.put, List.setIfInBounds_toArray, List.set_cons_zero, List.set_cons_succ]
            refine seqR_at (o := ?_) ?_ ?_
            rotate_left
            · (conv => (lhs; whnf; arg 1; whnf))
            refine seqR_y (v := ?_) (by rfl) (fun W hW => ?_) ?_
            rotate_left
            · go_simp; try with_reducible rfl
            try simp only [Act.put, List.setIfInBounds_toArray, List.set_cons_zero, List.set_cons_succ]
            refine seqR_at (o := ?_) ?_ ?_
            rotate_left
            · (conv => (lhs; whnf; arg 1; whnf))
            refine seqR_y (v := ?_) (by rfl) (fun W hW => ?_) ?_
            rotate_left
            · go_simp; try with_reducible rfl
            try simp only [Act.put, List.setIfInBounds_toArray, List.set_cons_zero, List.set_cons_succ]
            refine seqR_end ?_
            go_wp2_with fail
            go_ret
            exact ⟨rfl, HWA.out.trans ((hB2.out.trans (HC9.out.mono hB2.out.size)).mono HWA.out.size)⟩

end Go.Proofs.Yteepfeggkocakaa
