/- Walk: the law DerWrites (printed by genwrites.py). -/
import Derived.Test.YteepfeggkocakaaDerK
import Derived.Test.YteepfeggkocakaaDraw
import Derived.Deep.RegionHeld3
import Derived.Deep.CutBlock
set_option linter.unusedVariables false
set_option linter.unusedSimpArgs false
set_option maxRecDepth 20000
namespace Go.Proofs.Yteepfeggkocakaa
open Go.RowKit Der

theorem strLater {w : World} {v : Value} {xs : List UInt8} (h : Byt w v xs) (W : World) (hW : Later w W) : (convert 24 9 v).run Try.prog W = .ok (.string ⟨xs.toArray⟩) W := strOf (h.below hW)

set_option maxHeartbeats 3200000 in
theorem writes_any (v t f : Int) (b : Value) (xs : List UInt8) (w : World) (hv : -9223372036854775808 ≤ v ∧ v ≤ 9223372036854775807) (ht : -9223372036854775808 ≤ t ∧ t ≤ 9223372036854775807) (hf : 0 ≤ f ∧ f ≤ 4294967295) (h : Byt w b xs) :
    Calls Try.prog 4 #[.int .i64 v, .int .i64 t, .int .u32 f, b] w fun e w' => e = .returned (.bool true) ∧ Below w.heap.size w w' := by
  obtain ⟨A, c, rfl, _⟩ := h.len
  have H := Lib.hid h
  have HV := Lib.hid hv
  have HT := Lib.hid ht
  have HF := Lib.hid hf
  clear h hv ht hf
  by_cases hn : 300 < xs.length
  · go_enter Try.func4, Try.ntmps4
    go_wp2_with fail
    refine (known_any w).mono ?_
    rintro e w1 ⟨rfl, hb⟩
    have HB := Lib.hid hb
    clear hb
    go_wp2_with fail
    go_ret
    exact ⟨rfl, HB.out⟩
  · have HL := Lib.hid (small_lim (n := xs.length) (by omega))
    have HS : Hid ((xs.length : Int) ≤ 16777215) := Lib.hid (by omega)
    have HZ : Hid (((⟨xs.toArray⟩ : ByteArray).size : Int) ≤ 16777215) := Lib.hid (by have := HS.out; simpa [ByteArray.size] using this)
    go_enter Try.func4, Try.ntmps4
    go_wp2_with (at_builtin; refine wpl_append_b rfl (.tmp 14) (.tmp 15) 24 rfl eiU8 w.heap.size _ [] rfl (own_lit [] (Nat.le_refl _) rfl rfl rfl (le_lim (by simp))) _ xs rfl (H.out.below (below1 _)) (by simpa using HL.out) (by simp) ?_; intro A1 c1 w1 hown1 hg1 hat1; have HO := Lib.hid hown1; have HB1 : Hid (Below w.heap.size w w1) := Lib.hid ((below1 _).trans (below_of_own (own_lit [] (Nat.le_refl _) rfl rfl rfl (le_lim (by simp))) hg1 (by simp))); clear hown1 hg1 hat1; simp only [List.length_nil, Nat.zero_add, List.nil_append] at HO ⊢)
    refine region_road Later [(0, true), (1, true), (2, true), (5, true), (6, true), (7, true), (3, false), (4, true), (8, false), (9, true), (10, true), (11, true), (12, true), (15, true), (13, false), (14, true), (16, false), (17, true), (18, true), (19, true), (20, true), (21, true), (24, true), (22, false), (23, true), (25, false), (26, true), (27, true), (28, true), (29, true), (30, true), (33, true), (31, false), (32, true), (34, false), (35, true), (36, true), (37, true), (38, true), (39, true), (42, true), (40, false), (41, true), (43, false), (44, true), (45, true), (46, true), (47, true), (48, true), (49, true), (52, true), (53, true), (50, false), (51, true), (54, false), (55, true), (56, true), (57, true), (58, true), (59, true), (60, true), (61, true), (62, true), (63, true), (64, true), (65, true), (66, false), (67, true), (68, true)] (by kernel_rfl) (by kernel_rfl) (by kernel_rfl) (by kernel_rfl) (by kernel_rfl) (by kernel_rfl) later_refl later_trans (fun _ _ d _ _ h => by cases d <;> exact h) ?_
    have hO : Hid (Byt w1.drew (.slice A1 xs.length c1) xs) := Lib.hid HO.out.byt
    have hB2 : Hid (Below w.heap.size w w1.drew) := Lib.hid HB1.out.drew
    generalize w1.drew = w2 at hO hB2 ⊢
    clear HO HB1
    have HC2 : Hid (Later w2 w2) := Lib.hid (later_refl _)
    have hH : Hid (Byt w2 (.slice A xs.length c) xs) := Lib.hid (H.out.below hB2.out)
    have co := strLater hO.out
    have cb := strLater hH.out
    refine seqR_at (o := ?_) ?_ ?_
    rotate_left
    · (conv => (lhs; whnf; arg 1; whnf))
    refine seqR_y (v := ?_) (by rfl) (fun W hW => ?_) ?_
    rotate_left
    · go_simp; try with_reducible rfl
    try simp only [Act.put, List.setIfInBounds_toArray, List.set_cons_zero, List.set_cons_succ]
    refine seqR_at (o := ?_) ?_ ?_
    rotate_left
    · (conv => (lhs; whnf; arg 1; whnf))
    refine seqR_y (v := ?_) (by rfl) (fun W hW => ?_) ?_
    rotate_left
    · go_simp; try with_reducible rfl
    try simp only [Act.put, List.setIfInBounds_toArray, List.set_cons_zero, List.set_cons_succ]
    refine seqR_at (o := ?_) ?_ ?_
    rotate_left
    · (conv => (lhs; whnf; arg 1; whnf))
    refine seqR_y (v := ?_) (by rfl) (fun W hW => ?_) ?_
    rotate_left
    · go_simp; try with_reducible rfl
    try simp only [Act.put, List.setIfInBounds_toArray, List.set_cons_zero, List.set_cons_succ]
    refine seqR_at (o := ?_) ?_ ?_
    rotate_left
    · (conv => (lhs; whnf; arg 1; whnf))
    refine seqR_y (v := ?_) (by rfl) (fun W hW => ?_) ?_
    rotate_left
    · go_simp; try with_reducible rfl
    try simp only [Act.put, List.setIfInBounds_toArray, List.set_cons_zero, List.set_cons_succ]
    refine seqR_at (o := ?_) ?_ ?_
    rotate_left
    · (conv => (lhs; whnf; arg 1; whnf))
    refine seqR_y (v := ?_) (by rfl) (fun W hW => ?_) ?_
    rotate_left
    · go_simp; try with_reducible rfl
    try simp only [Act.put, List.setIfInBounds_toArray, List.set_cons_zero, List.set_cons_succ]
    refine seqR_at (o := ?_) ?_ ?_
    rotate_left
    · (conv => (lhs; whnf; arg 1; whnf))
    refine seqR_y (v := ?_) (by rfl) (fun W hW => ?_) ?_
    rotate_left
    · go_simp; try with_reducible rfl
    try simp only [Act.put, List.setIfInBounds_toArray, List.set_cons_zero, List.set_cons_succ]
    refine seqR_at (o := ?_) ?_ ?_
    rotate_left
    · (conv => (lhs; whnf; arg 1; whnf))
    refine seqR_c (by rfl) (fun K hK => ?_)
    go_simp
    refine (bool_any _ _).mono ?_
    rintro e w3 ⟨v3, rfl, hown, hb⟩
    have c3 := strLater hown.byt
    have HC3 := Lib.hid (later_trans _ _ _ HC2.out hb)
    refine hK _ _ hb ?_
    clear hK hb hown
    try simp only [Act.put, List.setIfInBounds_toArray, List.set_cons_zero, List.set_cons_succ]
    refine seqR_at (o := ?_) ?_ ?_
    rotate_left
    · (conv => (lhs; whnf; arg 1; whnf))
    refine seqR_y (v := ?_) (by rfl) (fun W hW => ?_) ?_
    rotate_left
    · have hW2 := later_trans _ _ _ HC3.out hW; go_simp; try with_reducible rfl
    try simp only [Act.put, List.setIfInBounds_toArray, List.set_cons_zero, List.set_cons_succ]
    refine seqR_at (o := ?_) ?_ ?_
    rotate_left
    · (conv => (lhs; whnf; arg 1; whnf))
    refine seqR_c (by rfl) (fun K hK => ?_)
    go_simp
    refine (r_bool_any _ _).mono ?_
    rintro e w4 ⟨v4, rfl, hown, hb⟩
    have c4 := strLater hown.byt
    have HC4 := Lib.hid (later_trans _ _ _ HC3.out hb)
    refine hK _ _ hb ?_
    clear hK hb hown
    try simp only [Act.put, List.setIfInBounds_toArray, List.set_cons_zero, List.set_cons_succ]
    refine seqR_at (o := ?_) ?_ ?_
    rotate_left
    · (conv => (lhs; whnf; arg 1; whnf))
    refine seqR_y (v := ?_) (by rfl) (fun W hW => ?_) ?_
    rotate_left
    · have hW2 := later_trans _ _ _ HC4.out hW; go_simp; try with_reducible rfl
    try simp only [Act.put, List.setIfInBounds_toArray, List.set_cons_zero, List.set_cons_succ]
    refine seqR_at (o := ?_) ?_ ?_
    rotate_left
    · (conv => (lhs; whnf; arg 1; whnf))
    refine seqR_y (v := ?_) (by rfl) (fun W hW => ?_) ?_
    rotate_left
    · go_simp; try with_reducible rfl
    try simp only [Act.put, List.setIfInBounds_toArray, List.set_cons_zero, List.set_cons_succ]
    refine seqR_at (o := ?_) ?_ ?_
    rotate_left
    · (conv => (lhs; whnf; arg 1; whnf))
    refine seqR_y (v := ?_) (by rfl) (fun W hW => ?_) ?_
    rotate_left
    · go_simp; try with_reducible rfl
    try simp only [Act.put, List.setIfInBounds_toArray, List.set_cons_zero, List.set_cons_succ]
    refine seqR_at (o := ?_) ?_ ?_
    rotate_left
    · (conv => (lhs; whnf; arg 1; whnf))
    refine seqR_y (v := ?_) (by rfl) (fun W hW => ?_) ?_
    rotate_left
    · go_simp; try with_reducible rfl
    try simp only [Act.put, List.setIfInBounds_toArray, List.set_cons_zero, List.set_cons_succ]
    refine seqR_at (o := ?_) ?_ ?_
    rotate_left
    · (conv => (lhs; whnf; arg 1; whnf))
    refine seqR_y (v := ?_) (by rfl) (fun W hW => ?_) ?_
    rotate_left
    · go_simp; try with_reducible rfl
    try simp only [Act.put, List.setIfInBounds_toArray, List.set_cons_zero, List.set_cons_succ]
    refine seqR_at (o := ?_) ?_ ?_
    rotate_left
    · (conv => (lhs; whnf; arg 1; whnf))
    refine seqR_c (by rfl) (fun K hK => ?_)
    go_simp
    refine (integer_any v _).mono ?_
    rintro e w5 ⟨v5, rfl, hown, hb⟩
    have c5 := strLater hown.byt
    have HC5 := Lib.hid (later_trans _ _ _ HC4.out hb)
    refine hK _ _ hb ?_
    clear hK hb hown
    try simp only [Act.put, List.setIfInBounds_toArray, List.set_cons_zero, List.set_cons_succ]
    refine seqR_at (o := ?_) ?_ ?_
    rotate_left
    · (conv => (lhs; whnf; arg 1; whnf))
    refine seqR_y (v := ?_) (by rfl) (fun W hW => ?_) ?_
    rotate_left
    · have hW2 := later_trans _ _ _ HC5.out hW; go_simp; try with_reducible rfl
    try simp only [Act.put, List.setIfInBounds_toArray, List.set_cons_zero, List.set_cons_succ]
    refine seqR_at (o := ?_) ?_ ?_
    rotate_left
    · (conv => (lhs; whnf; arg 1; whnf))
    refine seqR_c (by rfl) (fun K hK => ?_)
    go_simp
    refine (r_integer_any v _ HV.out.1 HV.out.2).mono ?_
    rintro e w6 ⟨v6, rfl, hown, hb⟩
    have c6 := strLater hown.byt
    have HC6 := Lib.hid (later_trans _ _ _ HC5.out hb)
    refine hK _ _ hb ?_
    clear hK hb hown
    try simp only [Act.put, List.setIfInBounds_toArray, List.set_cons_zero, List.set_cons_succ]
    refine seqR_at (o := ?_) ?_ ?_
    rotate_left
    · (conv => (lhs; whnf; arg 1; whnf))
    refine seqR_y (v := ?_) (by rfl) (fun W hW => ?_) ?_
    rotate_left
    · have hW2 := later_trans _ _ _ HC6.out hW; go_simp; try with_reducible rfl
    try simp only [Act.put, List.setIfInBounds_toArray, List.set_cons_zero, List.set_cons_succ]
    refine seqR_at (o := ?_) ?_ ?_
    rotate_left
    · (conv => (lhs; whnf; arg 1; whnf))
    refine seqR_y (v := ?_) (by rfl) (fun W hW => ?_) ?_
    rotate_left
    · go_simp; try with_reducible rfl
    try simp only [Act.put, List.setIfInBounds_toArray, List.set_cons_zero, List.set_cons_succ]
    refine seqR_at (o := ?_) ?_ ?_
    rotate_left
    · (conv => (lhs; whnf; arg 1; whnf))
    refine seqR_y (v := ?_) (by rfl) (fun W hW => ?_) ?_
    rotate_left
    · go_simp; try with_reducible rfl
    try simp only [Act.put, List.setIfInBounds_toArray, List.set_cons_zero, List.set_cons_succ]
    refine seqR_at (o := ?_) ?_ ?_
    rotate_left
    · (conv => (lhs; whnf; arg 1; whnf))
    refine seqR_y (v := ?_) (by rfl) (fun W hW => ?_) ?_
    rotate_left
    · go_simp; try with_reducible rfl
    try simp only [Act.put, List.setIfInBounds_toArray, List.set_cons_zero, List.set_cons_succ]
    refine seqR_at (o := ?_) ?_ ?_
    rotate_left
    · (conv => (lhs; whnf; arg 1; whnf))
    refine seqR_y (v := ?_) (by rfl) (fun W hW => ?_) ?_
    rotate_left
    · go_simp; try with_reducible rfl
    try simp only [Act.put, List.setIfInBounds_toArray, List.set_cons_zero, List.set_cons_succ]
    refine seqR_at (o := ?_) ?_ ?_
    rotate_left
    · (conv => (lhs; whnf; arg 1; whnf))
    refine seqR_y (v := ?_) (by rfl) (fun W hW => ?_) ?_
    rotate_left
    · go_simp; try with_reducible rfl
    try simp only [Act.put, List.setIfInBounds_toArray, List.set_cons_zero, List.set_cons_succ]
    refine seqR_at (o := ?_) ?_ ?_
    rotate_left
    · (conv => (lhs; whnf; arg 1; whnf))
    refine seqR_c (by rfl) (fun K hK => ?_)
    go_simp
    refine (time_any t _).mono ?_
    rintro e w7 ⟨v7, rfl, hown, hb⟩
    have c7 := strLater hown.byt
    have HC7 := Lib.hid (later_trans _ _ _ HC6.out hb)
    refine hK _ _ hb ?_
    clear hK hb hown
    try simp only [Act.put, List.setIfInBounds_toArray, List.set_cons_zero, List.set_cons_succ]
    refine seqR_at (o := ?_) ?_ ?_
    rotate_left
    · (conv => (lhs; whnf; arg 1; whnf))
    refine seqR_y (v := ?_) (by rfl) (fun W hW => ?_) ?_
    rotate_left
    · have hW2 := later_trans _ _ _ HC7.out hW; go_simp; try with_reducible rfl
    try simp only [Act.put, List.setIfInBounds_toArray, List.set_cons_zero, List.set_cons_succ]
    refine seqR_at (o := ?_) ?_ ?_
    rotate_left
    · (conv => (lhs; whnf; arg 1; whnf))
    refine seqR_c (by rfl) (fun K hK => ?_)
    go_simp
    refine (r_time_any t _).mono ?_
    rintro e w8 ⟨v8, rfl, hown, hb⟩
    have c8 := strLater hown.byt
    have HC8 := Lib.hid (later_trans _ _ _ HC7.out hb)
    refine hK _ _ hb ?_
    clear hK hb hown
    try simp only [Act.put, List.setIfInBounds_toArray, List.set_cons_zero, List.set_cons_succ]
    refine seqR_at (o := ?_) ?_ ?_
    rotate_left
    · (conv => (lhs; whnf; arg 1; whnf))
    refine seqR_y (v := ?_) (by rfl) (fun W hW => ?_) ?_
    rotate_left
    · have hW2 := later_trans _ _ _ HC8.out hW; go_simp; try with_reducible rfl
    try simp only [Act.put, List.setIfInBounds_toArray, List.set_cons_zero, List.set_cons_succ]
    refine seqR_at (o := ?_) ?_ ?_
    rotate_left
    · (conv => (lhs; whnf; arg 1; whnf))
    refine seqR_y (v := ?_) (by rfl) (fun W hW => ?_) ?_
    rotate_left
    · go_simp; try with_reducible rfl
    try simp only [Act.put, List.setIfInBounds_toArray, List.set_cons_zero, List.set_cons_succ]
    refine seqR_at (o := ?_) ?_ ?_
    rotate_left
    · (conv => (lhs; whnf; arg 1; whnf))
    refine seqR_y (v := ?_) (by rfl) (fun W hW => ?_) ?_
    rotate_left
    · go_simp; try with_reducible rfl
    try simp only [Act.put, List.setIfInBounds_toArray, List.set_cons_zero, List.set_cons_succ]
    refine seqR_at (o := ?_) ?_ ?_
    rotate_left
    · (conv => (lhs; whnf; arg 1; whnf))
    refine seqR_y (v := ?_) (by rfl) (fun W hW => ?_) ?_
    rotate_left
    · go_simp; try with_reducible rfl
    try simp only [Act.put, List.setIfInBounds_toArray, List.set_cons_zero, List.set_cons_succ]
    refine seqR_at (o := ?_) ?_ ?_
    rotate_left
    · (conv => (lhs; whnf; arg 1; whnf))
    refine seqR_y (v := ?_) (by rfl) (fun W hW => ?_) ?_
    rotate_left
    · go_simp; try with_reducible rfl
    try simp only [Act.put, List.setIfInBounds_toArray, List.set_cons_zero, List.set_cons_succ]
    refine seqR_at (o := ?_) ?_ ?_
    rotate_left
    · (conv => (lhs; whnf; arg 1; whnf))
    refine seqR_y (v := ?_) (by rfl) (fun W hW => ?_) ?_
    rotate_left
    · go_simp; try with_reducible rfl
    try simp only [Act.put, List.setIfInBounds_toArray, List.set_cons_zero, List.set_cons_succ]
    refine seqR_at (o := ?_) ?_ ?_
    rotate_left
    · (conv => (lhs; whnf; arg 1; whnf))
    refine seqR_c (by rfl) (fun K hK => ?_)
    go_simp
    refine (bits_any f _ HF.out.1 HF.out.2).mono ?_
    rintro e w9 ⟨v9, rfl, hown, hb⟩
    have c9 := strLater hown.byt
    have HC9 := Lib.hid (later_trans _ _ _ HC8.out hb)
    refine hK _ _ hb ?_
    clear hK hb hown
    try simp only [Act.put, List.setIfInBounds_toArray, List.set_cons_zero, List.set_cons_succ]
    refine seqR_at (o := ?_) ?_ ?_
    rotate_left
    · (conv => (lhs; whnf; arg 1; whnf))
    refine seqR_y (v := ?_) (by rfl) (fun W hW => ?_) ?_
    rotate_left
    · have hW2 := later_trans _ _ _ HC9.out hW; go_simp; try with_reducible rfl
    try simp only [Act.put, List.setIfInBounds_toArray, List.set_cons_zero, List.set_cons_succ]
    refine seqR_at (o := ?_) ?_ ?_
    rotate_left
    · (conv => (lhs; whnf; arg 1; whnf))
    refine seqR_c (by rfl) (fun K hK => ?_)
    go_simp
    refine (r_bits_any f _ HF.out.1 HF.out.2).mono ?_
    rintro e w10 ⟨v10, rfl, hown, hb⟩
    have c10 := strLater hown.byt
    have HC10 := Lib.hid (later_trans _ _ _ HC9.out hb)
    refine hK _ _ hb ?_
    clear hK hb hown
    try simp only [Act.put, List.setIfInBounds_toArray, List.set_cons_zero, List.set_cons_succ]
    refine seqR_at (o := ?_) ?_ ?_
    rotate_left
    · (conv => (lhs; whnf; arg 1; whnf))
    refine seqR_y (v := ?_) (by rfl) (fun W hW => ?_) ?_
    rotate_left
    · have hW2 := later_trans _ _ _ HC10.out hW; go_simp; try with_reducible rfl
    try simp only [Act.put, List.setIfInBounds_toArray, List.set_cons_zero, List.set_cons_succ]
    refine seqR_at (o := ?_) ?_ ?_
    rotate_left
    · (conv => (lhs; whnf; arg 1; whnf))
    refine seqR_y (v := ?_) (by rfl) (fun W hW => ?_) ?_
    rotate_left
    · go_simp; try with_reducible rfl
    try simp only [Act.put, List.setIfInBounds_toArray, List.set_cons_zero, List.set_cons_succ]
    refine seqR_at (o := ?_) ?_ ?_
    rotate_left
    · (conv => (lhs; whnf; arg 1; whnf))
    refine seqR_y (v := ?_) (by rfl) (fun W hW => ?_) ?_
    rotate_left
    · go_simp; try with_reducible rfl
    try simp only [Act.put, List.setIfInBounds_toArray, List.set_cons_zero, List.set_cons_succ]
    refine seqR_at (o := ?_) ?_ ?_
    rotate_left
    · (conv => (lhs; whnf; arg 1; whnf))
    refine seqR_y (v := ?_) (by rfl) (fun W hW => ?_) ?_
    rotate_left
    · go_simp; try with_reducible rfl
    try simp only [Act.put, List.setIfInBounds_toArray, List.set_cons_zero, List.set_cons_succ]
    refine seqR_at (o := ?_) ?_ ?_
    rotate_left
    · (conv => (lhs; whnf; arg 1; whnf))
    refine seqR_y (v := ?_) (by rfl) (fun W hW => ?_) ?_
    rotate_left
    · go_simp; try with_reducible rfl
    try simp only [Act.put, List.setIfInBounds_toArray, List.set_cons_zero, List.set_cons_succ]
    refine seqR_at (o := ?_) ?_ ?_
    rotate_left
    · (conv => (lhs; whnf; arg 1; whnf))
    refine seqR_y (v := ?_) (by rfl) (fun W hW => ?_) ?_
    rotate_left
    · go_simp; try with_reducible rfl
    try simp only [Act.put, List.setIfInBounds_toArray, List.set_cons_zero, List.set_cons_succ]
    refine seqR_at (o := ?_) ?_ ?_
    rotate_left
    · (conv => (lhs; whnf; arg 1; whnf))
    refine seqR_c (by rfl) (fun K hK => ?_)
    go_simp
    refine (octets_any _ xs _ (hO.out.below HC10.out) HS.out).mono ?_
    rintro e w11 ⟨v11, rfl, hown, hb⟩
    have c11 := strLater hown.byt
    have HC11 := Lib.hid (later_trans _ _ _ HC10.out hb)
    refine hK _ _ hb ?_
    clear hK hb hown
    try simp only [Act.put, List.setIfInBounds_toArray, List.set_cons_zero, List.set_cons_succ]
    refine seqR_at (o := ?_) ?_ ?_
    rotate_left
    · (conv => (lhs; whnf; arg 1; whnf))
    refine seqR_y (v := ?_) (by rfl) (fun W hW => ?_) ?_
    rotate_left
    · have hW2 := later_trans _ _ _ HC11.out hW; go_simp; try with_reducible rfl
    try simp only [Act.put, List.setIfInBounds_toArray, List.set_cons_zero, List.set_cons_succ]
    refine seqR_at (o := ?_) ?_ ?_
    rotate_left
    · (conv => (lhs; whnf; arg 1; whnf))
    refine seqR_c (by rfl) (fun K hK => ?_)
    go_simp
    refine (r_octets_any _ xs _ (hH.out.below HC11.out) HS.out).mono ?_
    rintro e w12 ⟨v12, rfl, hown, hb⟩
    have c12 := strLater hown.byt
    have HC12 := Lib.hid (later_trans _ _ _ HC11.out hb)
    refine hK _ _ hb ?_
    clear hK hb hown
    try simp only [Act.put, List.setIfInBounds_toArray, List.set_cons_zero, List.set_cons_succ]
    refine seqR_at (o := ?_) ?_ ?_
    rotate_left
    · (conv => (lhs; whnf; arg 1; whnf))
    refine seqR_y (v := ?_) (by rfl) (fun W hW => ?_) ?_
    rotate_left
    · have hW2 := later_trans _ _ _ HC12.out hW; go_simp; try with_reducible rfl
    try simp only [Act.put, List.setIfInBounds_toArray, List.set_cons_zero, List.set_cons_succ]
    refine seqR_at (o := ?_) ?_ ?_
    rotate_left
    · (conv => (lhs; whnf; arg 1; whnf))
    refine seqR_y (v := ?_) (by rfl) (fun W hW => ?_) ?_
    rotate_left
    · go_simp; try with_reducible rfl
    try simp only [Act.put, List.setIfInBounds_toArray, List.set_cons_zero, List.set_cons_succ]
    refine seqR_at (o := ?_) ?_ ?_
    rotate_left
    · (conv => (lhs; whnf; arg 1; whnf))
    refine seqR_y (v := ?_) (by rfl) (fun W hW => ?_) ?_
    rotate_left
    · go_simp; try with_reducible rfl
    try simp only [Act.put, List.setIfInBounds_toArray, List.set_cons_zero, List.set_cons_succ]
    refine seqR_at (o := ?_) ?_ ?_
    rotate_left
    · (conv => (lhs; whnf; arg 1; whnf))
    refine seqR_y (v := ?_) (by rfl) (fun W hW => ?_) ?_
    rotate_left
    · go_simp; try with_reducible rfl
    try simp only [Act.put, List.setIfInBounds_toArray, List.set_cons_zero, List.set_cons_succ]
    refine seqR_at (o := ?_) ?_ ?_
    rotate_left
    · (conv => (lhs; whnf; arg 1; whnf))
    refine seqR_y (v := ?_) (by rfl) (fun W hW => ?_) ?_
    rotate_left
    · go_simp; try with_reducible rfl
    try simp only [Act.put, List.setIfInBounds_toArray, List.set_cons_zero, List.set_cons_succ]
    refine seqR_at (o := ?_) ?_ ?_
    rotate_left
    · (conv => (lhs; whnf; arg 1; whnf))
    refine seqR_y (v := ?_) (by rfl) (fun W hW => ?_) ?_
    rotate_left
    · have hW2 := later_trans _ _ _ HC12.out hW; go_simp; try with_reducible rfl
    try simp only [Act.put, List.setIfInBounds_toArray, List.set_cons_zero, List.set_cons_succ]
    refine seqR_at (o := ?_) ?_ ?_
    rotate_left
    · (conv => (lhs; whnf; arg 1; whnf))
    refine seqR_y (v := ?_) (by rfl) (fun W hW => ?_) ?_
    rotate_left
    · go_simp; try with_reducible rfl
    try simp only [Act.put, List.setIfInBounds_toArray, List.set_cons_zero, List.set_cons_succ]
    refine seqR_at (o := ?_) ?_ ?_
    rotate_left
    · (conv => (lhs; whnf; arg 1; whnf))
    refine seqR_y (v := ?_) (by rfl) (fun W hW => ?_) ?_
    rotate_left
    · have hW2 := later_trans _ _ _ HC12.out hW; go_simp; try with_reducible rfl
    try simp only [Act.put, List.setIfInBounds_toArray, List.set_cons_zero, List.set_cons_succ]
    refine seqR_at (o := ?_) ?_ ?_
    rotate_left
    · (conv => (lhs; whnf; arg 1; whnf))
    refine seqR_c (by rfl) (fun K hK => ?_)
    go_simp
    refine (string_any ⟨xs.toArray⟩ _ HZ.out).mono ?_
    rintro e w13 ⟨v13, rfl, hown, hb⟩
    have c13 := strLater hown.byt
    have HC13 := Lib.hid (later_trans _ _ _ HC12.out hb)
    refine hK _ _ hb ?_
    clear hK hb hown
    try simp only [Act.put, List.setIfInBounds_toArray, List.set_cons_zero, List.set_cons_succ]
    refine seqR_at (o := ?_) ?_ ?_
    rotate_left
    · (conv => (lhs; whnf; arg 1; whnf))
    refine seqR_y (v := ?_) (by rfl) (fun W hW => ?_) ?_
    rotate_left
    · have hW2 := later_trans _ _ _ HC13.out hW; go_simp; try with_reducible rfl
    try simp only [Act.put, List.setIfInBounds_toArray, List.set_cons_zero, List.set_cons_succ]
    refine seqR_at (o := ?_) ?_ ?_
    rotate_left
    · (conv => (lhs; whnf; arg 1; whnf))
    refine seqR_c (by rfl) (fun K hK => ?_)
    go_simp
    refine (r_string_any ⟨xs.toArray⟩ _ HZ.out).mono ?_
    rintro e w14 ⟨v14, rfl, hown, hb⟩
    have c14 := strLater hown.byt
    have HC14 := Lib.hid (later_trans _ _ _ HC13.out hb)
    refine hK _ _ hb ?_
    clear hK hb hown
    try simp only [Act.put, List.setIfInBounds_toArray, List.set_cons_zero, List.set_cons_succ]
    refine seqR_at (o := ?_) ?_ ?_
    rotate_left
    · (conv => (lhs; whnf; arg 1; whnf))
    refine seqR_y (v := ?_) (by rfl) (fun W hW => ?_) ?_
    rotate_left
    · have hW2 := later_trans _ _ _ HC14.out hW; go_simp; try with_reducible rfl
    try simp only [Act.put, List.setIfInBounds_toArray, List.set_cons_zero, List.set_cons_succ]
    refine seqR_at (o := ?_) ?_ ?_
    rotate_left
    · (conv => (lhs; whnf; arg 1; whnf))
    refine seqR_y (v := ?_) (by rfl) (fun W hW => ?_) ?_
    rotate_left
    · go_simp; try with_reducible rfl
    try simp only [Act.put, List.setIfInBounds_toArray, List.set_cons_zero, List.set_cons_succ]
    refine seqR_at (o := ?_) ?_ ?_
    rotate_left
    · (conv => (lhs; whnf; arg 1; whnf))
    refine seqR_y (v := ?_) (by rfl) (fun W hW => ?_) ?_
    rotate_left
    · go_simp; try with_reducible rfl
    try simp only [Act.put, List.setIfInBounds_toArray, List.set_cons_zero, List.set_cons_succ]
    refine seqR_at (o := ?_) ?_ ?_
    rotate_left
    · (conv => (lhs; whnf; arg 1; whnf))
    refine seqR_y (v := ?_) (by rfl) (fun W hW => ?_) ?_
    rotate_left
    · go_simp; try with_reducible rfl
    try simp only [Act.put, List.setIfInBounds_toArray, List.set_cons_zero, List.set_cons_succ]
    refine seqR_at (o := ?_) ?_ ?_
    rotate_left
    · (conv => (lhs; whnf; arg 1; whnf))
    refine seqR_y (v := ?_) (by rfl) (fun W hW => ?_) ?_
    rotate_left
    · go_simp; try with_reducible rfl
    try simp only [Act.put, List.setIfInBounds_toArray, List.set_cons_zero, List.set_cons_succ]
    refine seqR_at (o := ?_) ?_ ?_
    rotate_left
    · (conv => (lhs; whnf; arg 1; whnf))
    refine seqR_y (v := ?_) (by rfl) (fun W hW => ?_) ?_
    rotate_left
    · have hW2 := later_trans _ _ _ HC14.out hW; go_simp; try with_reducible rfl
    try simp only [Act.put, List.setIfInBounds_toArray, List.set_cons_zero, List.set_cons_succ]
    refine seqR_at (o := ?_) ?_ ?_
    rotate_left
    · (conv => (lhs; whnf; arg 1; whnf))
    refine seqR_y (v := ?_) (by rfl) (fun W hW => ?_) ?_
    rotate_left
    · go_simp; try with_reducible rfl
    try simp only [Act.put, List.setIfInBounds_toArray, List.set_cons_zero, List.set_cons_succ]
    refine seqR_at (o := ?_) ?_ ?_
    rotate_left
    · (conv => (lhs; whnf; arg 1; whnf))
    refine seqR_y (v := ?_) (by rfl) (fun W hW => ?_) ?_
    rotate_left
    · have hW2 := later_trans _ _ _ HC14.out hW; go_simp; try with_reducible rfl
    try simp only [Act.put, List.setIfInBounds_toArray, List.set_cons_zero, List.set_cons_succ]
    refine seqR_at (o := ?_) ?_ ?_
    rotate_left
    · (conv => (lhs; whnf; arg 1; whnf))
    refine seqR_y (v := ?_) (by rfl) (fun W hW => ?_) ?_
    rotate_left
    · go_simp; try with_reducible rfl
    try simp only [Act.put, List.setIfInBounds_toArray, List.set_cons_zero, List.set_cons_succ]
    refine seqR_at (o := ?_) ?_ ?_
    rotate_left
    · (conv => (lhs; whnf; arg 1; whnf))
    refine seqR_y (v := ?_) (by rfl) (fun W hW => ?_) ?_
    rotate_left
    · go_simp; try with_reducible rfl
    try simp only [Act.put, List.setIfInBounds_toArray, List.set_cons_zero, List.set_cons_succ]
    refine seqR_at (o := ?_) ?_ ?_
    rotate_left
    · (conv => (lhs; whnf; arg 1; whnf))
    refine seqR_y (v := ?_) (by rfl) (fun W hW => ?_) ?_
    rotate_left
    · go_simp; try with_reducible rfl
    try simp only [Act.put, List.setIfInBounds_toArray, List.set_cons_zero, List.set_cons_succ]
    refine seqR_at (o := ?_) ?_ ?_
    rotate_left
    · (conv => (lhs; whnf; arg 1; whnf))
    refine seqR_c (by rfl) (fun K hK => ?_)
    go_simp
    refine (known_any _).mono ?_
    rintro e w15 ⟨rfl, hb⟩
    have HC15 := Lib.hid (later_trans _ _ _ HC14.out hb)
    refine hK _ _ hb ?_
    clear hK hb
    try simp only [Act.put, List.setIfInBounds_toArray, List.set_cons_zero, List.set_cons_succ]
    refine seqR_at (o := ?_) ?_ ?_
    rotate_left
    · (conv => (lhs; whnf; arg 1; whnf))
    refine seqR_y (v := ?_) (by rfl) (fun W hW => ?_) ?_
    rotate_left
    · go_simp; try with_reducible rfl
    try simp only [Act.put, List.setIfInBounds_toArray, List.set_cons_zero, List.set_cons_succ]
    refine seqR_at (o := ?_) ?_ ?_
    rotate_left
    · (conv => (lhs; whnf; arg 1; whnf))
    refine seqR_y (v := ?_) (by rfl) (fun W hW => ?_) ?_
    rotate_left
    · go_simp; try with_reducible rfl
    try simp only [Act.put, List.setIfInBounds_toArray, List.set_cons_zero, List.set_cons_succ]
    refine seqR_end ?_
    go_wp2_with fail
    go_ret
    exact ⟨rfl, hB2.out.trans (HC15.out.mono hB2.out.size)⟩

end Go.Proofs.Yteepfeggkocakaa
