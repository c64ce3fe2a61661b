/- Walks: keys and sealed strings (printed by genkey.py). -/
import Derived.Test.YteepfeggkocakaaDerN
import Derived.Test.YteepfeggkocakaaDerM
set_option linter.unusedVariables false
set_option linter.unusedSimpArgs false
set_option maxRecDepth 20000
namespace Go.Proofs.Yteepfeggkocakaa
open Go.RowKit Der

def threeE (p v : Int) (xs : List UInt8) : List UInt8 := recE [intE p, intE v, elem 4 xs]
theorem threeE_mem (p v : Int) (xs : List UInt8) (hn : (xs.length : Int) ≤ 50000) : ∀ x ∈ [intE p, intE v, elem 4 xs], (x.length : Int) ≤ 100000 := by
  have h1 := intE_length p
  have h2 := intE_length v
  have h3 := elem_length 4 xs
  intro x hx
  simp only [List.mem_cons, List.not_mem_nil, or_false] at hx
  rcases hx with rfl | rfl | rfl <;> omega

set_option maxHeartbeats 3200000 in
theorem key_any (p v : Int) (b : Value) (xs : List UInt8) (w : World) (h : Byt w b xs) (hn : (xs.length : Int) ≤ 50000) :
    Calls Try.prog 34 #[.agg #[.int .i64 p, .int .i64 v, b]] w (RetB w (threeE p v xs)) := by
  obtain ⟨A, c, rfl, _⟩ := h.len
  have H := Lib.hid h
  have HM := Lib.hid (threeE_mem p v xs hn)
  have HL : Hid ((xs.length : Int) ≤ 16777215) := Lib.hid (by omega)
  clear h hn
  go_enter Try.func34, Try.ntmps34
  go_wp2_with fail
  refine region_road Later [(0, true), (1, true), (3, true), (4, true), (6, true), (7, true), (2, false), (5, false), (8, false), (9, false), (10, false), (11, true)] (by kernel_rfl) (by kernel_rfl) (by kernel_rfl) (by kernel_rfl) (by kernel_rfl) (by kernel_rfl) later_refl later_trans (fun _ _ d _ _ h => by cases d <;> exact h) ?_
  have hc0 : (w.alloc (.cells #[.int .i64 p, .int .i64 v, .slice A xs.length c] 49)).drew.heap[w.heap.size]? = some (.cells #[.int .i64 p, .int .i64 v, .slice A xs.length c] 49 (0, 0)) := heap_alloc_new w _
  have hB2 : Hid (Below w.heap.size w (w.alloc (.cells #[.int .i64 p, .int .i64 v, .slice A xs.length c] 49)).drew) := Lib.hid (below1 _).drew
  have hlt : w.heap.size < (w.alloc (.cells #[.int .i64 p, .int .i64 v, .slice A xs.length c] 49)).drew.heap.size := (Array.getElem?_eq_some_iff.1 hc0).1
  generalize (w.alloc (.cells #[.int .i64 p, .int .i64 v, .slice A xs.length c] 49)).drew = w2 at hc0 hB2 hlt ⊢
  have hH : Hid (Byt w2 (.slice A xs.length c) xs) := Lib.hid (H.out.below hB2.out)
  have q0 : Hid (w2.cell? ⟨w.heap.size, 0, none⟩ = some (.int .i64 p)) := Lib.hid (cell_is _ _ 0 _ _ _ hc0 rfl)
  have q1 : Hid (w2.cell? ⟨w.heap.size, 1, none⟩ = some (.int .i64 v)) := Lib.hid (cell_is _ _ 1 _ _ _ hc0 rfl)
  have q2 : Hid (w2.cell? ⟨w.heap.size, 2, none⟩ = some (.slice A xs.length c)) := Lib.hid (cell_is _ _ 2 _ _ _ hc0 rfl)
  clear hc0
  refine seqR_at (o := ?_) ?_ ?_
  rotate_left
  · (conv => (lhs; whnf; arg 1; whnf))
  refine seqR_y (v := ?_) (by rfl) (fun W hW => ?_) ?_
  rotate_left
  · go_simp; try with_reducible rfl
  try simp only [Act.put, List.setIfInBounds_toArray, List.set_cons_zero, List.set_cons_succ]
  refine seqR_at (o := ?_) ?_ ?_
  rotate_left
  · (conv => (lhs; whnf; arg 1; whnf))
  refine seqR_y (v := ?_) (by rfl) (fun W hW => ?_) ?_
  rotate_left
  · have g0 := (Below.cell hW (p := ⟨w.heap.size, 0, none⟩) hlt).trans q0.out; have g1 := (Below.cell hW (p := ⟨w.heap.size, 1, none⟩) hlt).trans q1.out; have g2 := (Below.cell hW (p := ⟨w.heap.size, 2, none⟩) hlt).trans q2.out; go_simp; try with_reducible rfl
  try simp only [Act.put, List.setIfInBounds_toArray, List.set_cons_zero, List.set_cons_succ]
  refine seqR_at (o := ?_) ?_ ?_
  rotate_left
  · (conv => (lhs; whnf; arg 1; whnf))
  refine seqR_y (v := ?_) (by rfl) (fun W hW => ?_) ?_
  rotate_left
  · go_simp; try with_reducible rfl
  try simp only [Act.put, List.setIfInBounds_toArray, List.set_cons_zero, List.set_cons_succ]
  refine seqR_at (o := ?_) ?_ ?_
  rotate_left
  · (conv => (lhs; whnf; arg 1; whnf))
  refine seqR_y (v := ?_) (by rfl) (fun W hW => ?_) ?_
  rotate_left
  · have g0 := (Below.cell hW (p := ⟨w.heap.size, 0, none⟩) hlt).trans q0.out; have g1 := (Below.cell hW (p := ⟨w.heap.size, 1, none⟩) hlt).trans q1.out; have g2 := (Below.cell hW (p := ⟨w.heap.size, 2, none⟩) hlt).trans q2.out; go_simp; try with_reducible rfl
  try simp only [Act.put, List.setIfInBounds_toArray, List.set_cons_zero, List.set_cons_succ]
  refine seqR_at (o := ?_) ?_ ?_
  rotate_left
  · (conv => (lhs; whnf; arg 1; whnf))
  refine seqR_y (v := ?_) (by rfl) (fun W hW => ?_) ?_
  rotate_left
  · go_simp; try with_reducible rfl
  try simp only [Act.put, List.setIfInBounds_toArray, List.set_cons_zero, List.set_cons_succ]
  refine seqR_at (o := ?_) ?_ ?_
  rotate_left
  · (conv => (lhs; whnf; arg 1; whnf))
  refine seqR_y (v := ?_) (by rfl) (fun W hW => ?_) ?_
  rotate_left
  · have g0 := (Below.cell hW (p := ⟨w.heap.size, 0, none⟩) hlt).trans q0.out; have g1 := (Below.cell hW (p := ⟨w.heap.size, 1, none⟩) hlt).trans q1.out; have g2 := (Below.cell hW (p := ⟨w.heap.size, 2, none⟩) hlt).trans q2.out; go_simp; try with_reducible rfl
  try simp only [Act.put, List.setIfInBounds_toArray, List.set_cons_zero, List.set_cons_succ]
  refine seqR_at (o := ?_) ?_ ?_
  rotate_left
  · (conv => (lhs; whnf; arg 1; whnf))
  refine seqR_c (by rfl) (fun K hK => ?_)
  go_simp
  refine (integer_any p _).mono ?_
  rintro e w3 ⟨v3, rfl, hown3, hb3⟩
  obtain ⟨A3, c3, rfl, _⟩ := hown3.byt.len
  have HB3 := Lib.hid hb3
  have HO3 := Lib.hid hown3.byt
  refine hK _ _ hb3 ?_
  clear hK hb3 hown3
  try simp only [Act.put, List.setIfInBounds_toArray, List.set_cons_zero, List.set_cons_succ]
  refine seqR_at (o := ?_) ?_ ?_
  rotate_left
  · (conv => (lhs; whnf; arg 1; whnf))
  refine seqR_c (by rfl) (fun K hK => ?_)
  go_simp
  refine (integer_any v _).mono ?_
  rintro e w4 ⟨v4, rfl, hown4, hb4⟩
  obtain ⟨A4, c4, rfl, _⟩ := hown4.byt.len
  have HB4 := Lib.hid hb4
  have HO4 := Lib.hid hown4.byt
  refine hK _ _ hb4 ?_
  clear hK hb4 hown4
  try simp only [Act.put, List.setIfInBounds_toArray, List.set_cons_zero, List.set_cons_succ]
  refine seqR_at (o := ?_) ?_ ?_
  rotate_left
  · (conv => (lhs; whnf; arg 1; whnf))
  refine seqR_c (by rfl) (fun K hK => ?_)
  go_simp
  refine (octets_any _ xs _ ((hH.out.below HB3.out).below HB4.out) HL.out).mono ?_
  rintro e w5 ⟨v5, rfl, hown5, hb5⟩
  obtain ⟨A5, c5, rfl, _⟩ := hown5.byt.len
  have HB5 := Lib.hid hb5
  have hbs := bss3 (w := w5) rfl ((HO3.out.below HB4.out).below HB5.out) (HO4.out.below HB5.out) hown5.byt
  have HBS := Lib.hid hbs
  refine hK _ _ hb5 ?_
  clear hK hb5 hown5 hbs
  try simp only [Act.put, List.setIfInBounds_toArray, List.set_cons_zero, List.set_cons_succ]
  refine seqR_at (o := ?_) ?_ ?_
  rotate_left
  · (conv => (lhs; whnf; arg 1; whnf))
  refine seqR_c (by rfl) (fun K hK => ?_)
  go_simp
  refine hK _ _ (below1 _) ?_
  clear hK
  try simp only [Act.put, List.setIfInBounds_toArray, List.set_cons_zero, List.set_cons_succ]
  refine seqR_at (o := ?_) ?_ ?_
  rotate_left
  · (conv => (lhs; whnf; arg 1; whnf))
  refine seqR_c (by rfl) (fun K hK => ?_)
  go_simp
  refine (record_any _ _ _ HBS.out (by simp) HM.out).mono ?_
  rintro e w7 ⟨v7, rfl, hown7, hb7⟩
  have HB7 := Lib.hid hb7
  have HO7 := Lib.hid hown7
  refine hK _ _ hb7 ?_
  clear hK hb7 hown7
  try simp only [Act.put, List.setIfInBounds_toArray, List.set_cons_zero, List.set_cons_succ]
  refine seqR_at (o := ?_) ?_ ?_
  rotate_left
  · (conv => (lhs; whnf; arg 1; whnf))
  refine seqR_y (v := ?_) (by rfl) (fun W hW => ?_) ?_
  rotate_left
  · go_simp; try with_reducible rfl
  try simp only [Act.put, List.setIfInBounds_toArray, List.set_cons_zero, List.set_cons_succ]
  refine seqR_end ?_
  go_wp2_with fail
  go_ret
  have hall := (((hB2.out.trans (HB3.out.mono hB2.out.size)).trans (HB4.out.mono (Nat.le_trans hB2.out.size HB3.out.size))).trans (HB5.out.mono (Nat.le_trans (Nat.le_trans hB2.out.size HB3.out.size) HB4.out.size)))
  exact RetB.of (hall.trans ((below1 _).mono hall.size)) HO7.out HB7.out

set_option maxHeartbeats 3200000 in
theorem sealed_any (p v : Int) (b : Value) (xs : List UInt8) (w : World) (h : Byt w b xs) (hn : (xs.length : Int) ≤ 50000) :
    Calls Try.prog 36 #[.agg #[.int .i64 p, .int .i64 v, b]] w (RetB w (threeE p v xs)) := by
  obtain ⟨A, c, rfl, _⟩ := h.len
  have H := Lib.hid h
  have HM := Lib.hid (threeE_mem p v xs hn)
  have HL : Hid ((xs.length : Int) ≤ 16777215) := Lib.hid (by omega)
  clear h hn
  go_enter Try.func36, Try.ntmps36
  go_wp2_with fail
  refine region_road Later [(0, true), (1, true), (3, true), (4, true), (6, true), (7, true), (2, false), (5, false), (8, false), (9, false), (10, false), (11, true)] (by kernel_rfl) (by kernel_rfl) (by kernel_rfl) (by kernel_rfl) (by kernel_rfl) (by kernel_rfl) later_refl later_trans (fun _ _ d _ _ h => by cases d <;> exact h) ?_
  have hc0 : (w.alloc (.cells #[.int .i64 p, .int .i64 v, .slice A xs.length c] 50)).drew.heap[w.heap.size]? = some (.cells #[.int .i64 p, .int .i64 v, .slice A xs.length c] 50 (0, 0)) := heap_alloc_new w _
  have hB2 : Hid (Below w.heap.size w (w.alloc (.cells #[.int .i64 p, .int .i64 v, .slice A xs.length c] 50)).drew) := Lib.hid (below1 _).drew
  have hlt : w.heap.size < (w.alloc (.cells #[.int .i64 p, .int .i64 v, .slice A xs.length c] 50)).drew.heap.size := (Array.getElem?_eq_some_iff.1 hc0).1
  generalize (w.alloc (.cells #[.int .i64 p, .int .i64 v, .slice A xs.length c] 50)).drew = w2 at hc0 hB2 hlt ⊢
  have hH : Hid (Byt w2 (.slice A xs.length c) xs) := Lib.hid (H.out.below hB2.out)
  have q0 : Hid (w2.cell? ⟨w.heap.size, 0, none⟩ = some (.int .i64 p)) := Lib.hid (cell_is _ _ 0 _ _ _ hc0 rfl)
  have q1 : Hid (w2.cell? ⟨w.heap.size, 1, none⟩ = some (.int .i64 v)) := Lib.hid (cell_is _ _ 1 _ _ _ hc0 rfl)
  have q2 : Hid (w2.cell? ⟨w.heap.size, 2, none⟩ = some (.slice A xs.length c)) := Lib.hid (cell_is _ _ 2 _ _ _ hc0 rfl)
  clear hc0
  refine seqR_at (o := ?_) ?_ ?_
  rotate_left
  · (conv => (lhs; whnf; arg 1; whnf))
  refine seqR_y (v := ?_) (by rfl) (fun W hW => ?_) ?_
  rotate_left
  · go_simp; try with_reducible rfl
  try simp only [Act.put, List.setIfInBounds_toArray, List.set_cons_zero, List.set_cons_succ]
  refine seqR_at (o := ?_) ?_ ?_
  rotate_left
  · (conv => (lhs; whnf; arg 1; whnf))
  refine seqR_y (v := ?_) (by rfl) (fun W hW => ?_) ?_
  rotate_left
  · have g0 := (Below.cell hW (p := ⟨w.heap.size, 0, none⟩) hlt).trans q0.out; have g1 := (Below.cell hW (p := ⟨w.heap.size, 1, none⟩) hlt).trans q1.out; have g2 := (Below.cell hW (p := ⟨w.heap.size, 2, none⟩) hlt).trans q2.out; go_simp; try with_reducible rfl
  try simp only [Act.put, List.setIfInBounds_toArray, List.set_cons_zero, List.set_cons_succ]
  refine seqR_at (o := ?_) ?_ ?_
  rotate_left
  · (conv => (lhs; whnf; arg 1; whnf))
  refine seqR_y (v := ?_) (by rfl) (fun W hW => ?_) ?_
  rotate_left
  · go_simp; try with_reducible rfl
  try simp only [Act.put, List.setIfInBounds_toArray, List.set_cons_zero, List.set_cons_succ]
  refine seqR_at (o := ?_) ?_ ?_
  rotate_left
  · (conv => (lhs; whnf; arg 1; whnf))
  refine seqR_y (v := ?_) (by rfl) (fun W hW => ?_) ?_
  rotate_left
  · have g0 := (Below.cell hW (p := ⟨w.heap.size, 0, none⟩) hlt).trans q0.out; have g1 := (Below.cell hW (p := ⟨w.heap.size, 1, none⟩) hlt).trans q1.out; have g2 := (Below.cell hW (p := ⟨w.heap.size, 2, none⟩) hlt).trans q2.out; go_simp; try with_reducible rfl
  try simp only [Act.put, List.setIfInBounds_toArray, List.set_cons_zero, List.set_cons_succ]
  refine seqR_at (o := ?_) ?_ ?_
  rotate_left
  · (conv => (lhs; whnf; arg 1; whnf))
  refine seqR_y (v := ?_) (by rfl) (fun W hW => ?_) ?_
  rotate_left
  · go_simp; try with_reducible rfl
  try simp only [Act.put, List.setIfInBounds_toArray, List.set_cons_zero, List.set_cons_succ]
  refine seqR_at (o := ?_) ?_ ?_
  rotate_left
  · (conv => (lhs; whnf; arg 1; whnf))
  refine seqR_y (v := ?_) (by rfl) (fun W hW => ?_) ?_
  rotate_left
  · have g0 := (Below.cell hW (p := ⟨w.heap.size, 0, none⟩) hlt).trans q0.out; have g1 := (Below.cell hW (p := ⟨w.heap.size, 1, none⟩) hlt).trans q1.out; have g2 := (Below.cell hW (p := ⟨w.heap.size, 2, none⟩) hlt).trans q2.out; go_simp; try with_reducible rfl
  try simp only [Act.put, List.setIfInBounds_toArray, List.set_cons_zero, List.set_cons_succ]
  refine seqR_at (o := ?_) ?_ ?_
  rotate_left
  · (conv => (lhs; whnf; arg 1; whnf))
  refine seqR_c (by rfl) (fun K hK => ?_)
  go_simp
  refine (integer_any p _).mono ?_
  rintro e w3 ⟨v3, rfl, hown3, hb3⟩
  obtain ⟨A3, c3, rfl, _⟩ := hown3.byt.len
  have HB3 := Lib.hid hb3
  have HO3 := Lib.hid hown3.byt
  refine hK _ _ hb3 ?_
  clear hK hb3 hown3
  try simp only [Act.put, List.setIfInBounds_toArray, List.set_cons_zero, List.set_cons_succ]
  refine seqR_at (o := ?_) ?_ ?_
  rotate_left
  · (conv => (lhs; whnf; arg 1; whnf))
  refine seqR_c (by rfl) (fun K hK => ?_)
  go_simp
  refine (integer_any v _).mono ?_
  rintro e w4 ⟨v4, rfl, hown4, hb4⟩
  obtain ⟨A4, c4, rfl, _⟩ := hown4.byt.len
  have HB4 := Lib.hid hb4
  have HO4 := Lib.hid hown4.byt
  refine hK _ _ hb4 ?_
  clear hK hb4 hown4
  try simp only [Act.put, List.setIfInBounds_toArray, List.set_cons_zero, List.set_cons_succ]
  refine seqR_at (o := ?_) ?_ ?_
  rotate_left
  · (conv => (lhs; whnf; arg 1; whnf))
  refine seqR_c (by rfl) (fun K hK => ?_)
  go_simp
  refine (octets_any _ xs _ ((hH.out.below HB3.out).below HB4.out) HL.out).mono ?_
  rintro e w5 ⟨v5, rfl, hown5, hb5⟩
  obtain ⟨A5, c5, rfl, _⟩ := hown5.byt.len
  have HB5 := Lib.hid hb5
  have hbs := bss3 (w := w5) rfl ((HO3.out.below HB4.out).below HB5.out) (HO4.out.below HB5.out) hown5.byt
  have HBS := Lib.hid hbs
  refine hK _ _ hb5 ?_
  clear hK hb5 hown5 hbs
  try simp only [Act.put, List.setIfInBounds_toArray, List.set_cons_zero, List.set_cons_succ]
  refine seqR_at (o := ?_) ?_ ?_
  rotate_left
  · (conv => (lhs; whnf; arg 1; whnf))
  refine seqR_c (by rfl) (fun K hK => ?_)
  go_simp
  refine hK _ _ (below1 _) ?_
  clear hK
  try simp only [Act.put, List.setIfInBounds_toArray, List.set_cons_zero, List.set_cons_succ]
  refine seqR_at (o := ?_) ?_ ?_
  rotate_left
  · (conv => (lhs; whnf; arg 1; whnf))
  refine seqR_c (by rfl) (fun K hK => ?_)
  go_simp
  refine (record_any _ _ _ HBS.out (by simp) HM.out).mono ?_
  rintro e w7 ⟨v7, rfl, hown7, hb7⟩
  have HB7 := Lib.hid hb7
  have HO7 := Lib.hid hown7
  refine hK _ _ hb7 ?_
  clear hK hb7 hown7
  try simp only [Act.put, List.setIfInBounds_toArray, List.set_cons_zero, List.set_cons_succ]
  refine seqR_at (o := ?_) ?_ ?_
  rotate_left
  · (conv => (lhs; whnf; arg 1; whnf))
  refine seqR_y (v := ?_) (by rfl) (fun W hW => ?_) ?_
  rotate_left
  · go_simp; try with_reducible rfl
  try simp only [Act.put, List.setIfInBounds_toArray, List.set_cons_zero, List.set_cons_succ]
  refine seqR_end ?_
  go_wp2_with fail
  go_ret
  have hall := (((hB2.out.trans (HB3.out.mono hB2.out.size)).trans (HB4.out.mono (Nat.le_trans hB2.out.size HB3.out.size))).trans (HB5.out.mono (Nat.le_trans (Nat.le_trans hB2.out.size HB3.out.size) HB4.out.size)))
  exact RetB.of (hall.trans ((below1 _).mono hall.size)) HO7.out HB7.out

end Go.Proofs.Yteepfeggkocakaa
