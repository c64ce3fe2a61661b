/- Walks: the power's closure; checked without a modulus; Reduce, Add, Sub, Mul, Exp (printed by genmodh.py). -/
import Derived.Test.YtfmadiepefbepaaModG
set_option linter.unusedVariables false
set_option linter.unusedSimpArgs false
set_option maxRecDepth 20000
namespace Go.Proofs.Ytfmadiepefbepaa
open Go.RowKit Go.Shelf

set_option maxHeartbeats 3200000 in
theorem exp1_ok {m a x r : Nat} (B c bE : Nat) (w : World) (hm : Fit m) (h0 : m ≠ 0) (ha : a < m) (hx : Fit x) (hl : NatsIn w B [a]) (hE : NatAt w bE x) (hr : a ^ x % m = r) :
    Calls Try.prog 44 #[.agg (natA m), .slice (some ⟨B, 0, none⟩) 1 c, .pointer (some ⟨bE, 0, none⟩)] w fun e w' => e = .returned (.agg (natA r)) ∧ Below w.heap.size w w' := by
  have FM := Lib.hid hm
  have F0 := Lib.hid h0
  have FA := Lib.hid ha
  have FX := Lib.hid hx
  have FR := Lib.hid hr
  have FL := Lib.hid hl
  have FE := Lib.hid hE
  clear hm h0 ha hx hr hl hE
  obtain ⟨u, hu⟩ : ∃ u, 1 % m = u := ⟨_, rfl⟩
  have FU := Lib.hid hu
  clear hu
  have HM : Hid (NatAt ((w.alloc (.cells (natA m) 60)).alloc (.cells z0 37)) (w.heap.size) (m)) := Lib.hid (by
    have h := NatAt.new w (m) 60
    replace h := h.alloc (.cells z0 37)
    simpa using h)
  have HR : Hid (NatAt ((w.alloc (.cells (natA m) 60)).alloc (.cells z0 37)) (w.heap.size + 1) (0)) := Lib.hid (by
    have h := NatAt.new (w.alloc (.cells (natA m) 60)) (0) 37
    rw [natA_zero] at h
    simpa using h)
  have HW : Hid (Below w.heap.size w ((w.alloc (.cells (natA m) 60)).alloc (.cells z0 37))) := Lib.hid (by
    have h := Below.refl w.heap.size w
    replace h := h.alloc h.size (.cells (natA m) 60)
    replace h := h.alloc h.size (.cells z0 37)
    exact h)
  have L_0 : Hid (NatsIn ((w.alloc (.cells (natA m) 60)).alloc (.cells z0 37)) B [a]) := Lib.hid ((FL.out.alloc _).alloc _)
  have E_0 : Hid (NatAt ((w.alloc (.cells (natA m) 60)).alloc (.cells z0 37)) bE x) := Lib.hid ((FE.out.alloc _).alloc _)
  go_enter Try.func44, Try.ntmps44
  go_wp2_with fail
  have hrep := fun W => repeat_any 40 enters_times m (fun j => a ^ j % m) (times_op FM.out F0.out) x W FX.out
  simp only [Nat.pow_one, Nat.pow_zero, Nat.mod_eq_of_lt FA.out, FR.out, FU.out] at hrep
  have HREP := Lib.hid hrep
  clear hrep
  refine region_roadT 10 Later [(0, true), (1, true), (2, true), (3, true), (4, true), (7, true), (8, true), (5, false), (6, false), (9, false), (10, false)] (by kernel_rfl) (by kernel_rfl) (by kernel_rfl) (by kernel_rfl) (by kernel_rfl) (by kernel_rfl) (by kernel_rfl) later_refl later_trans (fun _ _ d _ _ h => by cases d <;> exact h) ?_
  have M_d1 := Lib.hid HM.out.drew
  have R_d1 := Lib.hid HR.out.drew
  have L_d1 := Lib.hid L_0.out.drew
  have E_d1 := Lib.hid E_0.out.drew
  have W_d1 : Hid (Below w.heap.size w ((w.alloc (.cells (natA m) 60)).alloc (.cells z0 37)).drew) := Lib.hid HW.out.drew
  clear HM HR L_0 E_0 HW
  generalize ((w.alloc (.cells (natA m) 60)).alloc (.cells z0 37)).drew = d1 at M_d1 R_d1 L_d1 E_d1 W_d1 ⊢
  refine seqT_at (o := ?_) ?_ ?_
  rotate_left
  · (conv => (lhs; whnf; arg 1; whnf))
  refine seqT_y (v := ?_) (by rfl) (fun W hW => ?_) ?_
  rotate_left
  · go_simp; try with_reducible rfl
  try simp only [Act.put, List.setIfInBounds_toArray, List.set_cons_zero, List.set_cons_succ]
  refine seqT_at (o := ?_) ?_ ?_
  rotate_left
  · (conv => (lhs; whnf; arg 1; whnf))
  refine seqT_y (v := ?_) (by rfl) (fun W hW => ?_) ?_
  rotate_left
  · go_simp; try with_reducible rfl
  try simp only [Act.put, List.setIfInBounds_toArray, List.set_cons_zero, List.set_cons_succ]
  refine seqT_at (o := ?_) ?_ ?_
  rotate_left
  · (conv => (lhs; whnf; arg 1; whnf))
  refine seqT_y (v := ?_) (by rfl) (fun W hW => ?_) ?_
  rotate_left
  · (refine exec_ldIn (x := .tmp 7) (i := 0) (off := 0) (n := a) ntNat ?_ ?_ (L_d1.out.below hW) ?_ ?_) <;> rfl
  try simp only [Act.put, List.setIfInBounds_toArray, List.set_cons_zero, List.set_cons_succ]
  refine seqT_at (o := ?_) ?_ ?_
  rotate_left
  · (conv => (lhs; whnf; arg 1; whnf))
  refine seqT_y (v := ?_) (by rfl) (fun W hW => ?_) ?_
  rotate_left
  · (refine exec_ldN (x := .tmp 2) ntNat ?_ ?_ (E_d1.out.below hW)) <;> rfl
  try simp only [Act.put, List.setIfInBounds_toArray, List.set_cons_zero, List.set_cons_succ]
  refine seqT_at (o := ?_) ?_ ?_
  rotate_left
  · (conv => (lhs; whnf; arg 1; whnf))
  refine seqT_y (v := ?_) (by rfl) (fun W hW => ?_) ?_
  rotate_left
  · (refine exec_ldN (x := .tmp 3) ntMod ?_ ?_ (M_d1.out.below hW)) <;> rfl
  try simp only [Act.put, List.setIfInBounds_toArray, List.set_cons_zero, List.set_cons_succ]
  refine seqT_at (o := ?_) ?_ ?_
  rotate_left
  · (conv => (lhs; whnf; arg 1; whnf))
  refine seqT_y (v := ?_) (by rfl) (fun W hW => ?_) ?_
  rotate_left
  · (refine exec_ldN (x := .tmp 3) ntMod ?_ ?_ (M_d1.out.below hW)) <;> rfl
  try simp only [Act.put, List.setIfInBounds_toArray, List.set_cons_zero, List.set_cons_succ]
  refine seqT_at (o := ?_) ?_ ?_
  rotate_left
  · (conv => (lhs; whnf; arg 1; whnf))
  refine seqT_y (v := ?_) (by rfl) (fun W hW => ?_) ?_
  rotate_left
  · go_simp; try with_reducible rfl
  try simp only [Act.put, List.setIfInBounds_toArray, List.set_cons_zero, List.set_cons_succ]
  refine seqT_at (o := ?_) ?_ ?_
  rotate_left
  · (conv => (lhs; whnf; arg 1; whnf))
  refine seqT_c (by rfl) (fun K hK => ?_)
  go_simp
  refine (one_any _).mono ?_
  rintro e p2 ⟨rfl, hb⟩
  have M_2 := Lib.hid (M_d1.out.below hb)
  have R_2 := Lib.hid (R_d1.out.below hb)
  have L_2 := Lib.hid (L_d1.out.below hb)
  have E_2 := Lib.hid (E_d1.out.below hb)
  have W_2 := Lib.hid (W_d1.out.trans (hb.mono W_d1.out.size))
  refine hK _ _ hb ?_
  clear hK K hb M_d1 R_d1 L_d1 E_d1 W_d1
  try simp only [Act.put, List.setIfInBounds_toArray, List.set_cons_zero, List.set_cons_succ]
  refine seqT_at (o := ?_) ?_ ?_
  rotate_left
  · (conv => (lhs; whnf; arg 1; whnf))
  refine seqT_c (by rfl) (fun K hK => ?_)
  go_simp
  refine (residue_ok _ FM.out (fit_int (v := 1) (by decide)) F0.out FU.out).mono ?_
  rintro e p3 ⟨rfl, hb⟩
  have M_3 := Lib.hid (M_2.out.below hb)
  have R_3 := Lib.hid (R_2.out.below hb)
  have L_3 := Lib.hid (L_2.out.below hb)
  have E_3 := Lib.hid (E_2.out.below hb)
  have W_3 := Lib.hid (W_2.out.trans (hb.mono W_2.out.size))
  refine hK _ _ hb ?_
  clear hK K hb M_2 R_2 L_2 E_2 W_2
  try simp only [Act.put, List.setIfInBounds_toArray, List.set_cons_zero, List.set_cons_succ]
  refine seqT_at (o := ?_) ?_ ?_
  rotate_left
  · (conv => (lhs; whnf; arg 1; whnf))
  refine seqT_c (by rfl) (fun K hK => ?_)
  go_simp
  refine (HREP.out _).mono ?_
  rintro e p4 ⟨rfl, hb⟩
  have M_4 := Lib.hid (M_3.out.below hb)
  have R_4 := Lib.hid (R_3.out.below hb)
  have L_4 := Lib.hid (L_3.out.below hb)
  have E_4 := Lib.hid (E_3.out.below hb)
  have W_4 := Lib.hid (W_3.out.trans (hb.mono W_3.out.size))
  refine hK _ _ hb ?_
  clear hK K hb M_3 R_3 L_3 E_3 W_3
  try simp only [Act.put, List.setIfInBounds_toArray, List.set_cons_zero, List.set_cons_succ]
  refine seqT_at (o := ?_) ?_ ?_
  rotate_left
  · (conv => (lhs; whnf; arg 1; whnf))
  refine seqT_last (by rfl) (fun K hK => ?_)
  refine wp_stN ntNat rfl rfl (m := r) rfl R_4.out ?_
  intro z5 hn hg
  have W_5 := Lib.hid (W_4.out.grown hg W_4.out.size (fun j e => by injection e with e; omega))
  have R_5 := Lib.hid hn
  refine hK _ _ ?_
  clear hK K hn hg W_4 M_4 R_4 L_4 E_4
  try simp only [Act.put, List.setIfInBounds_toArray, List.set_cons_zero, List.set_cons_succ]
  refine seqT_end ?_
  go_wp2_with fail
  refine bodyPost_ret (results_one rfl _ _ rfl R_5.out) rfl ?_
  exact ⟨rfl, W_5.out⟩

theorem run_bs2 (a b : Nat) (w : World) : (Instr.buildSlice 61 2 #[(0, .agg (natA a)), (1, .agg (natA b))]).run Try.prog w = .ok (.slice (some ⟨w.heap.size, 0, none⟩) 2 2) (w.alloc (.cells ([a, b].flatMap natL).toArray 37)) := by
  kernel_rfl
theorem run_bs1 (a : Nat) (w : World) : (Instr.buildSlice 61 1 #[(0, .agg (natA a))]).run Try.prog w = .ok (.slice (some ⟨w.heap.size, 0, none⟩) 1 1) (w.alloc (.cells ([a].flatMap natL).toArray 37)) := by
  kernel_rfl
theorem run_bn (w : World) : (Instr.build 37 #[]).run Try.prog w = .ok (.agg (natA 0)) w := by
  kernel_rfl
theorem NatsIn.new (w : World) (ns : List Nat) (T : TypeId) : NatsIn (w.alloc (.cells (ns.flatMap natL).toArray T)) w.heap.size ns := by
  refine ⟨_, T, heap_alloc_new w _, by rw [List.size_toArray, flat_length]; omega, fun i x hx j hj => ?_⟩
  rw [List.getElem?_toArray, flat_get, show (32 * i + j) / 32 = i from by omega, show (32 * i + j) % 32 = j from by omega, hx]
  exact natL_get x j hj
section
variable {w : World} {ops : Array Oper} {rest : List Oper} {o : Oper} {ac : Act} {Q : Exit → Act → World → Prop} {x y : Operand} {a b : Nat}
theorem wpl_bs2 (hgd : o.guard = none) (ho : o.op = .buildSlice 61 2 #[(0, x), (1, y)]) (hx : ac.eval x = .agg (natA a)) (hy : ac.eval y = .agg (natA b))
    (h : ∀ W, NatsIn W w.heap.size [a, b] → Below w.heap.size w W → wpList Try.prog ops Q rest (ac.put o.dst (.slice (some ⟨w.heap.size, 0, none⟩) 2 2)) W) : wpList Try.prog ops Q (o :: rest) ac w := by
  refine wpList_plain hgd fun K hK => ?_
  unfold Oper.wp execOp
  simp only [ho, hx, hy, Sem.run_bind, Sem.run_pure, Result.andThen_ok, List.map_toArray, List.map_cons, List.map_nil, run_bs2]
  exact hK _ _ (h _ (NatsIn.new w [a, b] _) ((Below.refl _ _).alloc (Nat.le_refl _) _))
theorem wpl_bs1 (hgd : o.guard = none) (ho : o.op = .buildSlice 61 1 #[(0, x)]) (hx : ac.eval x = .agg (natA a))
    (h : ∀ W, NatsIn W w.heap.size [a] → Below w.heap.size w W → wpList Try.prog ops Q rest (ac.put o.dst (.slice (some ⟨w.heap.size, 0, none⟩) 1 1)) W) : wpList Try.prog ops Q (o :: rest) ac w := by
  refine wpList_plain hgd fun K hK => ?_
  unfold Oper.wp execOp
  simp only [ho, hx, Sem.run_bind, Sem.run_pure, Result.andThen_ok, List.map_toArray, List.map_cons, List.map_nil, run_bs1]
  exact hK _ _ (h _ (NatsIn.new w [a] _) ((Below.refl _ _).alloc (Nat.le_refl _) _))
theorem wpl_build_nat (hgd : o.guard = none) (ho : o.op = .build 37 #[]) (h : wpList Try.prog ops Q rest (ac.put o.dst (.agg (natA 0))) w) : wpList Try.prog ops Q (o :: rest) ac w := by
  refine wpList_plain hgd fun K hK => ?_
  unfold Oper.wp execOp
  simp only [ho, Sem.run_bind, Sem.run_pure, Result.andThen_ok, List.map_toArray, List.map_nil, run_bn]
  exact hK _ _ h
end

set_option maxHeartbeats 1600000 in
theorem checked_zero {m : Nat} (hm : m = 0) (fv : Value) (A : Option Addr) (n c : Nat) (fn : Fn) (lb : Array Value) (w : World) :
    Calls Try.prog 36 #[.agg (natA m), .func fn #[] lb, .slice A n c] w fun e w' => e = .returned (.tuple #[.agg (natA 0), .int .i64 2]) ∧ Below w.heap.size w w' := by
  have FZ : Hid (decide (m = 0) = true) := Lib.hid (decide_eq_true hm)
  have FM : Hid (Fit m) := Lib.hid (by rw [hm]; exact Fit.zero)
  clear hm
  have HM : Hid (NatAt ((w.alloc (.cells (natA m) 37)).alloc (.cells z0 37)) (w.heap.size) (m)) := Lib.hid (by
    have h := NatAt.new w (m) 37
    replace h := h.alloc (.cells z0 37)
    simpa using h)
  have HR : Hid (NatAt ((w.alloc (.cells (natA m) 37)).alloc (.cells z0 37)) (w.heap.size + 1) (0)) := Lib.hid (by
    have h := NatAt.new (w.alloc (.cells (natA m) 37)) (0) 37
    rw [natA_zero] at h
    simpa using h)
  have HW : Hid (Below w.heap.size w ((w.alloc (.cells (natA m) 37)).alloc (.cells z0 37))) := Lib.hid (by
    have h := Below.refl w.heap.size w
    replace h := h.alloc h.size (.cells (natA m) 37)
    replace h := h.alloc h.size (.cells z0 37)
    exact h)
  go_enter Try.func36, Try.ntmps36
  go_wp2_with (first | go_skip | (refine wpl_ldN ntNat rfl rfl rfl HM.out ?_) | (refine wpl_ldN_g ntNat ?hw rfl rfl HM.out ?_; (case hw => rfl)) | (refine wpl_ldN ntNat rfl rfl rfl HR.out ?_) | (refine wpl_ldN_g ntNat ?hw rfl rfl HR.out ?_; (case hw => rfl)))
  refine (isZero_ok _ FM.out FZ.out).mono ?_
  rintro e p1 ⟨rfl, hb⟩
  have M_1 := Lib.hid (HM.out.below hb)
  have R_1 := Lib.hid (HR.out.below hb)
  have W_1 := Lib.hid (HW.out.trans (hb.mono HW.out.size))
  clear hb HM HR HW
  go_wp2_with (first | go_skip | (refine wpl_ldN ntNat rfl rfl rfl M_1.out ?_) | (refine wpl_ldN_g ntNat ?hw rfl rfl M_1.out ?_; (case hw => rfl)) | (refine wpl_ldN ntNat rfl rfl rfl R_1.out ?_) | (refine wpl_ldN_g ntNat ?hw rfl rfl R_1.out ?_; (case hw => rfl)) | (refine wpl_build_nat rfl rfl ?_) | (refine wpl_stN ntNat rfl rfl rfl rfl R_1.out ?_; intro z2 hn hg; have W_2 := Lib.hid (W_1.out.grown hg W_1.out.size (fun j e => by injection e with e; omega)); have R_2 := Lib.hid hn; clear hn hg W_1 M_1 R_1))
  refine bodyPost_ret (results_nat rfl _ _ rfl R_2.out) rfl ?_
  exact ⟨rfl, W_2.out⟩

set_option maxHeartbeats 3200000 in
theorem madd_ok {m a b r : Nat} (w : World) (hm : Fit m) (h0 : m ≠ 0) (ha : Fit a) (hb : Fit b) (hr : (a + b) % m = r) :
    Calls Try.prog 16 #[.agg (natA a), .agg (natA b), .agg (natA m)] w fun e w' => e = .returned (.tuple #[.agg (natA r), .int .i64 0]) ∧ Below w.heap.size w w' := by
  have FM := Lib.hid hm
  have F0 := Lib.hid h0
  have FR := Lib.hid hr
  have Ga := Lib.hid ha
  have Gb := Lib.hid hb
  clear hm h0 hr ha hb
  have HA : Hid (NatAt ((((w.alloc (.cells (natA a) 37)).alloc (.cells (natA b) 37)).alloc (.cells (natA m) 37)).alloc (.cells z0 37)) (w.heap.size) (a)) := Lib.hid (by
    have h := NatAt.new w (a) 37
    replace h := h.alloc (.cells (natA b) 37)
    replace h := h.alloc (.cells (natA m) 37)
    replace h := h.alloc (.cells z0 37)
    simpa using h)
  have HB : Hid (NatAt ((((w.alloc (.cells (natA a) 37)).alloc (.cells (natA b) 37)).alloc (.cells (natA m) 37)).alloc (.cells z0 37)) (w.heap.size + 1) (b)) := Lib.hid (by
    have h := NatAt.new (w.alloc (.cells (natA a) 37)) (b) 37
    replace h := h.alloc (.cells (natA m) 37)
    replace h := h.alloc (.cells z0 37)
    simpa using h)
  have HM : Hid (NatAt ((((w.alloc (.cells (natA a) 37)).alloc (.cells (natA b) 37)).alloc (.cells (natA m) 37)).alloc (.cells z0 37)) (w.heap.size + 1 + 1) (m)) := Lib.hid (by
    have h := NatAt.new ((w.alloc (.cells (natA a) 37)).alloc (.cells (natA b) 37)) (m) 37
    replace h := h.alloc (.cells z0 37)
    simpa using h)
  have HR : Hid (NatAt ((((w.alloc (.cells (natA a) 37)).alloc (.cells (natA b) 37)).alloc (.cells (natA m) 37)).alloc (.cells z0 37)) (w.heap.size + 1 + 1 + 1) (0)) := Lib.hid (by
    have h := NatAt.new (((w.alloc (.cells (natA a) 37)).alloc (.cells (natA b) 37)).alloc (.cells (natA m) 37)) (0) 37
    rw [natA_zero] at h
    simpa using h)
  have HW : Hid (Below w.heap.size w ((((w.alloc (.cells (natA a) 37)).alloc (.cells (natA b) 37)).alloc (.cells (natA m) 37)).alloc (.cells z0 37))) := Lib.hid (by
    have h := Below.refl w.heap.size w
    replace h := h.alloc h.size (.cells (natA a) 37)
    replace h := h.alloc h.size (.cells (natA b) 37)
    replace h := h.alloc h.size (.cells (natA m) 37)
    replace h := h.alloc h.size (.cells z0 37)
    exact h)
  go_enter Try.func16, Try.ntmps16
  go_wp2_with (first | go_skip | (refine wpl_bs2 rfl rfl rfl rfl ?_; intro W1 hs hb; have R_1 := Lib.hid (HR.out.below hb); have W_1 := Lib.hid (HW.out.trans (hb.mono HW.out.size)); have S_1 : Hid (NatsIn W1 (w.heap.size + 1 + 1 + 1 + 1) [a, b]) := Lib.hid (by simpa using hs); clear hs hb HA HB HM HR HW) | (refine wpl_ldN ntNat rfl rfl rfl HA.out ?_) | (refine wpl_ldN_g ntNat ?hw rfl rfl HA.out ?_; (case hw => rfl)) | (refine wpl_ldN ntNat rfl rfl rfl HB.out ?_) | (refine wpl_ldN_g ntNat ?hw rfl rfl HB.out ?_; (case hw => rfl)) | (refine wpl_ldN ntNat rfl rfl rfl HM.out ?_) | (refine wpl_ldN_g ntNat ?hw rfl rfl HM.out ?_; (case hw => rfl)) | (refine wpl_ldN ntNat rfl rfl rfl HR.out ?_) | (refine wpl_ldN_g ntNat ?hw rfl rfl HR.out ?_; (case hw => rfl)))
  refine (checked_2 (r := r) 37 (enters_of Try.func37 (by kernel_rfl) rfl) _ 2 _ FM.out F0.out Ga.out Gb.out rfl rfl S_1.out (fun g cap W hW hl => add1_ok g cap W FM.out (Nat.mod_lt _ (Nat.pos_of_ne_zero F0.out)) (Nat.mod_lt _ (Nat.pos_of_ne_zero F0.out)) hl (by rw [← FR.out, ← Nat.add_mod]))).mono ?_
  rintro e p6 ⟨rfl, hb⟩
  have R_6 := Lib.hid (R_1.out.below hb)
  have W_6 := Lib.hid (W_1.out.trans (hb.mono W_1.out.size))
  clear hb R_1 W_1
  go_wp2_with (first | go_skip | (refine wpl_ldN ntNat rfl rfl rfl R_6.out ?_) | (refine wpl_ldN_g ntNat ?hw rfl rfl R_6.out ?_; (case hw => rfl)) | (refine wpl_stN ntNat rfl rfl rfl rfl R_6.out ?_; intro z7 hn hg; have W_7 := Lib.hid (W_6.out.grown hg W_6.out.size (fun j e => by injection e with e; omega)); have R_7 := Lib.hid hn; clear hn hg W_6 R_6))
  refine bodyPost_ret (results_nat rfl _ _ rfl R_7.out) rfl ?_
  exact ⟨rfl, W_7.out⟩

set_option maxHeartbeats 3200000 in
theorem madd_zero {m a b : Nat} (w : World) (hm : m = 0) (ha : Fit a) (hb : Fit b) :
    Calls Try.prog 16 #[.agg (natA a), .agg (natA b), .agg (natA m)] w fun e w' => e = .returned (.tuple #[.agg (natA 0), .int .i64 2]) ∧ Below w.heap.size w w' := by
  have FM := Lib.hid hm
  have Ga := Lib.hid ha
  have Gb := Lib.hid hb
  clear hm ha hb
  have HA : Hid (NatAt ((((w.alloc (.cells (natA a) 37)).alloc (.cells (natA b) 37)).alloc (.cells (natA m) 37)).alloc (.cells z0 37)) (w.heap.size) (a)) := Lib.hid (by
    have h := NatAt.new w (a) 37
    replace h := h.alloc (.cells (natA b) 37)
    replace h := h.alloc (.cells (natA m) 37)
    replace h := h.alloc (.cells z0 37)
    simpa using h)
  have HB : Hid (NatAt ((((w.alloc (.cells (natA a) 37)).alloc (.cells (natA b) 37)).alloc (.cells (natA m) 37)).alloc (.cells z0 37)) (w.heap.size + 1) (b)) := Lib.hid (by
    have h := NatAt.new (w.alloc (.cells (natA a) 37)) (b) 37
    replace h := h.alloc (.cells (natA m) 37)
    replace h := h.alloc (.cells z0 37)
    simpa using h)
  have HM : Hid (NatAt ((((w.alloc (.cells (natA a) 37)).alloc (.cells (natA b) 37)).alloc (.cells (natA m) 37)).alloc (.cells z0 37)) (w.heap.size + 1 + 1) (m)) := Lib.hid (by
    have h := NatAt.new ((w.alloc (.cells (natA a) 37)).alloc (.cells (natA b) 37)) (m) 37
    replace h := h.alloc (.cells z0 37)
    simpa using h)
  have HR : Hid (NatAt ((((w.alloc (.cells (natA a) 37)).alloc (.cells (natA b) 37)).alloc (.cells (natA m) 37)).alloc (.cells z0 37)) (w.heap.size + 1 + 1 + 1) (0)) := Lib.hid (by
    have h := NatAt.new (((w.alloc (.cells (natA a) 37)).alloc (.cells (natA b) 37)).alloc (.cells (natA m) 37)) (0) 37
    rw [natA_zero] at h
    simpa using h)
  have HW : Hid (Below w.heap.size w ((((w.alloc (.cells (natA a) 37)).alloc (.cells (natA b) 37)).alloc (.cells (natA m) 37)).alloc (.cells z0 37))) := Lib.hid (by
    have h := Below.refl w.heap.size w
    replace h := h.alloc h.size (.cells (natA a) 37)
    replace h := h.alloc h.size (.cells (natA b) 37)
    replace h := h.alloc h.size (.cells (natA m) 37)
    replace h := h.alloc h.size (.cells z0 37)
    exact h)
  go_enter Try.func16, Try.ntmps16
  go_wp2_with (first | go_skip | (refine wpl_bs2 rfl rfl rfl rfl ?_; intro W1 hs hb; have R_1 := Lib.hid (HR.out.below hb); have W_1 := Lib.hid (HW.out.trans (hb.mono HW.out.size)); have S_1 : Hid (NatsIn W1 (w.heap.size + 1 + 1 + 1 + 1) [a, b]) := Lib.hid (by simpa using hs); clear hs hb HA HB HM HR HW) | (refine wpl_ldN ntNat rfl rfl rfl HA.out ?_) | (refine wpl_ldN_g ntNat ?hw rfl rfl HA.out ?_; (case hw => rfl)) | (refine wpl_ldN ntNat rfl rfl rfl HB.out ?_) | (refine wpl_ldN_g ntNat ?hw rfl rfl HB.out ?_; (case hw => rfl)) | (refine wpl_ldN ntNat rfl rfl rfl HM.out ?_) | (refine wpl_ldN_g ntNat ?hw rfl rfl HM.out ?_; (case hw => rfl)) | (refine wpl_ldN ntNat rfl rfl rfl HR.out ?_) | (refine wpl_ldN_g ntNat ?hw rfl rfl HR.out ?_; (case hw => rfl)))
  refine (checked_zero FM.out undef _ _ _ _ _ _).mono ?_
  rintro e p6 ⟨rfl, hb⟩
  have R_6 := Lib.hid (R_1.out.below hb)
  have W_6 := Lib.hid (W_1.out.trans (hb.mono W_1.out.size))
  clear hb R_1 W_1
  go_wp2_with (first | go_skip | (refine wpl_ldN ntNat rfl rfl rfl R_6.out ?_) | (refine wpl_ldN_g ntNat ?hw rfl rfl R_6.out ?_; (case hw => rfl)) | (refine wpl_stN ntNat rfl rfl rfl rfl R_6.out ?_; intro z7 hn hg; have W_7 := Lib.hid (W_6.out.grown hg W_6.out.size (fun j e => by injection e with e; omega)); have R_7 := Lib.hid hn; clear hn hg W_6 R_6))
  refine bodyPost_ret (results_nat rfl _ _ rfl R_7.out) rfl ?_
  exact ⟨rfl, W_7.out⟩

set_option maxHeartbeats 3200000 in
theorem msub_ok {m a b r : Nat} (w : World) (hm : Fit m) (h0 : m ≠ 0) (ha : Fit a) (hb : Fit b) (hr : (a % m + m - b % m) % m = r) :
    Calls Try.prog 18 #[.agg (natA a), .agg (natA b), .agg (natA m)] w fun e w' => e = .returned (.tuple #[.agg (natA r), .int .i64 0]) ∧ Below w.heap.size w w' := by
  have FM := Lib.hid hm
  have F0 := Lib.hid h0
  have FR := Lib.hid hr
  have Ga := Lib.hid ha
  have Gb := Lib.hid hb
  clear hm h0 hr ha hb
  have HA : Hid (NatAt ((((w.alloc (.cells (natA a) 37)).alloc (.cells (natA b) 37)).alloc (.cells (natA m) 37)).alloc (.cells z0 37)) (w.heap.size) (a)) := Lib.hid (by
    have h := NatAt.new w (a) 37
    replace h := h.alloc (.cells (natA b) 37)
    replace h := h.alloc (.cells (natA m) 37)
    replace h := h.alloc (.cells z0 37)
    simpa using h)
  have HB : Hid (NatAt ((((w.alloc (.cells (natA a) 37)).alloc (.cells (natA b) 37)).alloc (.cells (natA m) 37)).alloc (.cells z0 37)) (w.heap.size + 1) (b)) := Lib.hid (by
    have h := NatAt.new (w.alloc (.cells (natA a) 37)) (b) 37
    replace h := h.alloc (.cells (natA m) 37)
    replace h := h.alloc (.cells z0 37)
    simpa using h)
  have HM : Hid (NatAt ((((w.alloc (.cells (natA a) 37)).alloc (.cells (natA b) 37)).alloc (.cells (natA m) 37)).alloc (.cells z0 37)) (w.heap.size + 1 + 1) (m)) := Lib.hid (by
    have h := NatAt.new ((w.alloc (.cells (natA a) 37)).alloc (.cells (natA b) 37)) (m) 37
    replace h := h.alloc (.cells z0 37)
    simpa using h)
  have HR : Hid (NatAt ((((w.alloc (.cells (natA a) 37)).alloc (.cells (natA b) 37)).alloc (.cells (natA m) 37)).alloc (.cells z0 37)) (w.heap.size + 1 + 1 + 1) (0)) := Lib.hid (by
    have h := NatAt.new (((w.alloc (.cells (natA a) 37)).alloc (.cells (natA b) 37)).alloc (.cells (natA m) 37)) (0) 37
    rw [natA_zero] at h
    simpa using h)
  have HW : Hid (Below w.heap.size w ((((w.alloc (.cells (natA a) 37)).alloc (.cells (natA b) 37)).alloc (.cells (natA m) 37)).alloc (.cells z0 37))) := Lib.hid (by
    have h := Below.refl w.heap.size w
    replace h := h.alloc h.size (.cells (natA a) 37)
    replace h := h.alloc h.size (.cells (natA b) 37)
    replace h := h.alloc h.size (.cells (natA m) 37)
    replace h := h.alloc h.size (.cells z0 37)
    exact h)
  go_enter Try.func18, Try.ntmps18
  go_wp2_with (first | go_skip | (refine wpl_bs2 rfl rfl rfl rfl ?_; intro W1 hs hb; have R_1 := Lib.hid (HR.out.below hb); have W_1 := Lib.hid (HW.out.trans (hb.mono HW.out.size)); have S_1 : Hid (NatsIn W1 (w.heap.size + 1 + 1 + 1 + 1) [a, b]) := Lib.hid (by simpa using hs); clear hs hb HA HB HM HR HW) | (refine wpl_ldN ntNat rfl rfl rfl HA.out ?_) | (refine wpl_ldN_g ntNat ?hw rfl rfl HA.out ?_; (case hw => rfl)) | (refine wpl_ldN ntNat rfl rfl rfl HB.out ?_) | (refine wpl_ldN_g ntNat ?hw rfl rfl HB.out ?_; (case hw => rfl)) | (refine wpl_ldN ntNat rfl rfl rfl HM.out ?_) | (refine wpl_ldN_g ntNat ?hw rfl rfl HM.out ?_; (case hw => rfl)) | (refine wpl_ldN ntNat rfl rfl rfl HR.out ?_) | (refine wpl_ldN_g ntNat ?hw rfl rfl HR.out ?_; (case hw => rfl)))
  refine (checked_2 (r := r) 41 (enters_of Try.func41 (by kernel_rfl) rfl) _ 2 _ FM.out F0.out Ga.out Gb.out rfl rfl S_1.out (fun g cap W hW hl => sub1_ok g cap W FM.out (Nat.mod_lt _ (Nat.pos_of_ne_zero F0.out)) (Nat.mod_lt _ (Nat.pos_of_ne_zero F0.out)) hl FR.out)).mono ?_
  rintro e p6 ⟨rfl, hb⟩
  have R_6 := Lib.hid (R_1.out.below hb)
  have W_6 := Lib.hid (W_1.out.trans (hb.mono W_1.out.size))
  clear hb R_1 W_1
  go_wp2_with (first | go_skip | (refine wpl_ldN ntNat rfl rfl rfl R_6.out ?_) | (refine wpl_ldN_g ntNat ?hw rfl rfl R_6.out ?_; (case hw => rfl)) | (refine wpl_stN ntNat rfl rfl rfl rfl R_6.out ?_; intro z7 hn hg; have W_7 := Lib.hid (W_6.out.grown hg W_6.out.size (fun j e => by injection e with e; omega)); have R_7 := Lib.hid hn; clear hn hg W_6 R_6))
  refine bodyPost_ret (results_nat rfl _ _ rfl R_7.out) rfl ?_
  exact ⟨rfl, W_7.out⟩

set_option maxHeartbeats 3200000 in
theorem msub_zero {m a b : Nat} (w : World) (hm : m = 0) (ha : Fit a) (hb : Fit b) :
    Calls Try.prog 18 #[.agg (natA a), .agg (natA b), .agg (natA m)] w fun e w' => e = .returned (.tuple #[.agg (natA 0), .int .i64 2]) ∧ Below w.heap.size w w' := by
  have FM := Lib.hid hm
  have Ga := Lib.hid ha
  have Gb := Lib.hid hb
  clear hm ha hb
  have HA : Hid (NatAt ((((w.alloc (.cells (natA a) 37)).alloc (.cells (natA b) 37)).alloc (.cells (natA m) 37)).alloc (.cells z0 37)) (w.heap.size) (a)) := Lib.hid (by
    have h := NatAt.new w (a) 37
    replace h := h.alloc (.cells (natA b) 37)
    replace h := h.alloc (.cells (natA m) 37)
    replace h := h.alloc (.cells z0 37)
    simpa using h)
  have HB : Hid (NatAt ((((w.alloc (.cells (natA a) 37)).alloc (.cells (natA b) 37)).alloc (.cells (natA m) 37)).alloc (.cells z0 37)) (w.heap.size + 1) (b)) := Lib.hid (by
    have h := NatAt.new (w.alloc (.cells (natA a) 37)) (b) 37
    replace h := h.alloc (.cells (natA m) 37)
    replace h := h.alloc (.cells z0 37)
    simpa using h)
  have HM : Hid (NatAt ((((w.alloc (.cells (natA a) 37)).alloc (.cells (natA b) 37)).alloc (.cells (natA m) 37)).alloc (.cells z0 37)) (w.heap.size + 1 + 1) (m)) := Lib.hid (by
    have h := NatAt.new ((w.alloc (.cells (natA a) 37)).alloc (.cells (natA b) 37)) (m) 37
    replace h := h.alloc (.cells z0 37)
    simpa using h)
  have HR : Hid (NatAt ((((w.alloc (.cells (natA a) 37)).alloc (.cells (natA b) 37)).alloc (.cells (natA m) 37)).alloc (.cells z0 37)) (w.heap.size + 1 + 1 + 1) (0)) := Lib.hid (by
    have h := NatAt.new (((w.alloc (.cells (natA a) 37)).alloc (.cells (natA b) 37)).alloc (.cells (natA m) 37)) (0) 37
    rw [natA_zero] at h
    simpa using h)
  have HW : Hid (Below w.heap.size w ((((w.alloc (.cells (natA a) 37)).alloc (.cells (natA b) 37)).alloc (.cells (natA m) 37)).alloc (.cells z0 37))) := Lib.hid (by
    have h := Below.refl w.heap.size w
    replace h := h.alloc h.size (.cells (natA a) 37)
    replace h := h.alloc h.size (.cells (natA b) 37)
    replace h := h.alloc h.size (.cells (natA m) 37)
    replace h := h.alloc h.size (.cells z0 37)
    exact h)
  go_enter Try.func18, Try.ntmps18
  go_wp2_with (first | go_skip | (refine wpl_bs2 rfl rfl rfl rfl ?_; intro W1 hs hb; have R_1 := Lib.hid (HR.out.below hb); have W_1 := Lib.hid (HW.out.trans (hb.mono HW.out.size)); have S_1 : Hid (NatsIn W1 (w.heap.size + 1 + 1 + 1 + 1) [a, b]) := Lib.hid (by simpa using hs); clear hs hb HA HB HM HR HW) | (refine wpl_ldN ntNat rfl rfl rfl HA.out ?_) | (refine wpl_ldN_g ntNat ?hw rfl rfl HA.out ?_; (case hw => rfl)) | (refine wpl_ldN ntNat rfl rfl rfl HB.out ?_) | (refine wpl_ldN_g ntNat ?hw rfl rfl HB.out ?_; (case hw => rfl)) | (refine wpl_ldN ntNat rfl rfl rfl HM.out ?_) | (refine wpl_ldN_g ntNat ?hw rfl rfl HM.out ?_; (case hw => rfl)) | (refine wpl_ldN ntNat rfl rfl rfl HR.out ?_) | (refine wpl_ldN_g ntNat ?hw rfl rfl HR.out ?_; (case hw => rfl)))
  refine (checked_zero FM.out undef _ _ _ _ _ _).mono ?_
  rintro e p6 ⟨rfl, hb⟩
  have R_6 := Lib.hid (R_1.out.below hb)
  have W_6 := Lib.hid (W_1.out.trans (hb.mono W_1.out.size))
  clear hb R_1 W_1
  go_wp2_with (first | go_skip | (refine wpl_ldN ntNat rfl rfl rfl R_6.out ?_) | (refine wpl_ldN_g ntNat ?hw rfl rfl R_6.out ?_; (case hw => rfl)) | (refine wpl_stN ntNat rfl rfl rfl rfl R_6.out ?_; intro z7 hn hg; have W_7 := Lib.hid (W_6.out.grown hg W_6.out.size (fun j e => by injection e with e; omega)); have R_7 := Lib.hid hn; clear hn hg W_6 R_6))
  refine bodyPost_ret (results_nat rfl _ _ rfl R_7.out) rfl ?_
  exact ⟨rfl, W_7.out⟩

set_option maxHeartbeats 3200000 in
theorem mmul_ok {m a b r : Nat} (w : World) (hm : Fit m) (h0 : m ≠ 0) (ha : Fit a) (hb : Fit b) (hr : a * b % m = r) :
    Calls Try.prog 17 #[.agg (natA a), .agg (natA b), .agg (natA m)] w fun e w' => e = .returned (.tuple #[.agg (natA r), .int .i64 0]) ∧ Below w.heap.size w w' := by
  have FM := Lib.hid hm
  have F0 := Lib.hid h0
  have FR := Lib.hid hr
  have Ga := Lib.hid ha
  have Gb := Lib.hid hb
  clear hm h0 hr ha hb
  have HA : Hid (NatAt ((((w.alloc (.cells (natA a) 37)).alloc (.cells (natA b) 37)).alloc (.cells (natA m) 37)).alloc (.cells z0 37)) (w.heap.size) (a)) := Lib.hid (by
    have h := NatAt.new w (a) 37
    replace h := h.alloc (.cells (natA b) 37)
    replace h := h.alloc (.cells (natA m) 37)
    replace h := h.alloc (.cells z0 37)
    simpa using h)
  have HB : Hid (NatAt ((((w.alloc (.cells (natA a) 37)).alloc (.cells (natA b) 37)).alloc (.cells (natA m) 37)).alloc (.cells z0 37)) (w.heap.size + 1) (b)) := Lib.hid (by
    have h := NatAt.new (w.alloc (.cells (natA a) 37)) (b) 37
    replace h := h.alloc (.cells (natA m) 37)
    replace h := h.alloc (.cells z0 37)
    simpa using h)
  have HM : Hid (NatAt ((((w.alloc (.cells (natA a) 37)).alloc (.cells (natA b) 37)).alloc (.cells (natA m) 37)).alloc (.cells z0 37)) (w.heap.size + 1 + 1) (m)) := Lib.hid (by
    have h := NatAt.new ((w.alloc (.cells (natA a) 37)).alloc (.cells (natA b) 37)) (m) 37
    replace h := h.alloc (.cells z0 37)
    simpa using h)
  have HR : Hid (NatAt ((((w.alloc (.cells (natA a) 37)).alloc (.cells (natA b) 37)).alloc (.cells (natA m) 37)).alloc (.cells z0 37)) (w.heap.size + 1 + 1 + 1) (0)) := Lib.hid (by
    have h := NatAt.new (((w.alloc (.cells (natA a) 37)).alloc (.cells (natA b) 37)).alloc (.cells (natA m) 37)) (0) 37
    rw [natA_zero] at h
    simpa using h)
  have HW : Hid (Below w.heap.size w ((((w.alloc (.cells (natA a) 37)).alloc (.cells (natA b) 37)).alloc (.cells (natA m) 37)).alloc (.cells z0 37))) := Lib.hid (by
    have h := Below.refl w.heap.size w
    replace h := h.alloc h.size (.cells (natA a) 37)
    replace h := h.alloc h.size (.cells (natA b) 37)
    replace h := h.alloc h.size (.cells (natA m) 37)
    replace h := h.alloc h.size (.cells z0 37)
    exact h)
  go_enter Try.func17, Try.ntmps17
  go_wp2_with (first | go_skip | (refine wpl_bs2 rfl rfl rfl rfl ?_; intro W1 hs hb; have R_1 := Lib.hid (HR.out.below hb); have W_1 := Lib.hid (HW.out.trans (hb.mono HW.out.size)); have S_1 : Hid (NatsIn W1 (w.heap.size + 1 + 1 + 1 + 1) [a, b]) := Lib.hid (by simpa using hs); clear hs hb HA HB HM HR HW) | (refine wpl_ldN ntNat rfl rfl rfl HA.out ?_) | (refine wpl_ldN_g ntNat ?hw rfl rfl HA.out ?_; (case hw => rfl)) | (refine wpl_ldN ntNat rfl rfl rfl HB.out ?_) | (refine wpl_ldN_g ntNat ?hw rfl rfl HB.out ?_; (case hw => rfl)) | (refine wpl_ldN ntNat rfl rfl rfl HM.out ?_) | (refine wpl_ldN_g ntNat ?hw rfl rfl HM.out ?_; (case hw => rfl)) | (refine wpl_ldN ntNat rfl rfl rfl HR.out ?_) | (refine wpl_ldN_g ntNat ?hw rfl rfl HR.out ?_; (case hw => rfl)))
  refine (checked_2 (r := r) 39 (enters_of Try.func39 (by kernel_rfl) rfl) _ 2 _ FM.out F0.out Ga.out Gb.out rfl rfl S_1.out (fun g cap W hW hl => mul1_ok g cap W FM.out (Nat.mod_lt _ (Nat.pos_of_ne_zero F0.out)) (Nat.mod_lt _ (Nat.pos_of_ne_zero F0.out)) hl (by rw [← FR.out, ← Nat.mul_mod]))).mono ?_
  rintro e p6 ⟨rfl, hb⟩
  have R_6 := Lib.hid (R_1.out.below hb)
  have W_6 := Lib.hid (W_1.out.trans (hb.mono W_1.out.size))
  clear hb R_1 W_1
  go_wp2_with (first | go_skip | (refine wpl_ldN ntNat rfl rfl rfl R_6.out ?_) | (refine wpl_ldN_g ntNat ?hw rfl rfl R_6.out ?_; (case hw => rfl)) | (refine wpl_stN ntNat rfl rfl rfl rfl R_6.out ?_; intro z7 hn hg; have W_7 := Lib.hid (W_6.out.grown hg W_6.out.size (fun j e => by injection e with e; omega)); have R_7 := Lib.hid hn; clear hn hg W_6 R_6))
  refine bodyPost_ret (results_nat rfl _ _ rfl R_7.out) rfl ?_
  exact ⟨rfl, W_7.out⟩

set_option maxHeartbeats 3200000 in
theorem mmul_zero {m a b : Nat} (w : World) (hm : m = 0) (ha : Fit a) (hb : Fit b) :
    Calls Try.prog 17 #[.agg (natA a), .agg (natA b), .agg (natA m)] w fun e w' => e = .returned (.tuple #[.agg (natA 0), .int .i64 2]) ∧ Below w.heap.size w w' := by
  have FM := Lib.hid hm
  have Ga := Lib.hid ha
  have Gb := Lib.hid hb
  clear hm ha hb
  have HA : Hid (NatAt ((((w.alloc (.cells (natA a) 37)).alloc (.cells (natA b) 37)).alloc (.cells (natA m) 37)).alloc (.cells z0 37)) (w.heap.size) (a)) := Lib.hid (by
    have h := NatAt.new w (a) 37
    replace h := h.alloc (.cells (natA b) 37)
    replace h := h.alloc (.cells (natA m) 37)
    replace h := h.alloc (.cells z0 37)
    simpa using h)
  have HB : Hid (NatAt ((((w.alloc (.cells (natA a) 37)).alloc (.cells (natA b) 37)).alloc (.cells (natA m) 37)).alloc (.cells z0 37)) (w.heap.size + 1) (b)) := Lib.hid (by
    have h := NatAt.new (w.alloc (.cells (natA a) 37)) (b) 37
    replace h := h.alloc (.cells (natA m) 37)
    replace h := h.alloc (.cells z0 37)
    simpa using h)
  have HM : Hid (NatAt ((((w.alloc (.cells (natA a) 37)).alloc (.cells (natA b) 37)).alloc (.cells (natA m) 37)).alloc (.cells z0 37)) (w.heap.size + 1 + 1) (m)) := Lib.hid (by
    have h := NatAt.new ((w.alloc (.cells (natA a) 37)).alloc (.cells (natA b) 37)) (m) 37
    replace h := h.alloc (.cells z0 37)
    simpa using h)
  have HR : Hid (NatAt ((((w.alloc (.cells (natA a) 37)).alloc (.cells (natA b) 37)).alloc (.cells (natA m) 37)).alloc (.cells z0 37)) (w.heap.size + 1 + 1 + 1) (0)) := Lib.hid (by
    have h := NatAt.new (((w.alloc (.cells (natA a) 37)).alloc (.cells (natA b) 37)).alloc (.cells (natA m) 37)) (0) 37
    rw [natA_zero] at h
    simpa using h)
  have HW : Hid (Below w.heap.size w ((((w.alloc (.cells (natA a) 37)).alloc (.cells (natA b) 37)).alloc (.cells (natA m) 37)).alloc (.cells z0 37))) := Lib.hid (by
    have h := Below.refl w.heap.size w
    replace h := h.alloc h.size (.cells (natA a) 37)
    replace h := h.alloc h.size (.cells (natA b) 37)
    replace h := h.alloc h.size (.cells (natA m) 37)
    replace h := h.alloc h.size (.cells z0 37)
    exact h)
  go_enter Try.func17, Try.ntmps17
  go_wp2_with (first | go_skip | (refine wpl_bs2 rfl rfl rfl rfl ?_; intro W1 hs hb; have R_1 := Lib.hid (HR.out.below hb); have W_1 := Lib.hid (HW.out.trans (hb.mono HW.out.size)); have S_1 : Hid (NatsIn W1 (w.heap.size + 1 + 1 + 1 + 1) [a, b]) := Lib.hid (by simpa using hs); clear hs hb HA HB HM HR HW) | (refine wpl_ldN ntNat rfl rfl rfl HA.out ?_) | (refine wpl_ldN_g ntNat ?hw rfl rfl HA.out ?_; (case hw => rfl)) | (refine wpl_ldN ntNat rfl rfl rfl HB.out ?_) | (refine wpl_ldN_g ntNat ?hw rfl rfl HB.out ?_; (case hw => rfl)) | (refine wpl_ldN ntNat rfl rfl rfl HM.out ?_) | (refine wpl_ldN_g ntNat ?hw rfl rfl HM.out ?_; (case hw => rfl)) | (refine wpl_ldN ntNat rfl rfl rfl HR.out ?_) | (refine wpl_ldN_g ntNat ?hw rfl rfl HR.out ?_; (case hw => rfl)))
  refine (checked_zero FM.out undef _ _ _ _ _ _).mono ?_
  rintro e p6 ⟨rfl, hb⟩
  have R_6 := Lib.hid (R_1.out.below hb)
  have W_6 := Lib.hid (W_1.out.trans (hb.mono W_1.out.size))
  clear hb R_1 W_1
  go_wp2_with (first | go_skip | (refine wpl_ldN ntNat rfl rfl rfl R_6.out ?_) | (refine wpl_ldN_g ntNat ?hw rfl rfl R_6.out ?_; (case hw => rfl)) | (refine wpl_stN ntNat rfl rfl rfl rfl R_6.out ?_; intro z7 hn hg; have W_7 := Lib.hid (W_6.out.grown hg W_6.out.size (fun j e => by injection e with e; omega)); have R_7 := Lib.hid hn; clear hn hg W_6 R_6))
  refine bodyPost_ret (results_nat rfl _ _ rfl R_7.out) rfl ?_
  exact ⟨rfl, W_7.out⟩

set_option maxHeartbeats 3200000 in
theorem mred_ok {m a r : Nat} (w : World) (hm : Fit m) (h0 : m ≠ 0) (ha : Fit a) (hr : a % m = r) :
    Calls Try.prog 19 #[.agg (natA a), .agg (natA m)] w fun e w' => e = .returned (.tuple #[.agg (natA r), .int .i64 0]) ∧ Below w.heap.size w w' := by
  have FM := Lib.hid hm
  have F0 := Lib.hid h0
  have FR := Lib.hid hr
  have Ga := Lib.hid ha
  clear hm h0 hr ha
  have HA : Hid (NatAt (((w.alloc (.cells (natA a) 37)).alloc (.cells (natA m) 37)).alloc (.cells z0 37)) (w.heap.size) (a)) := Lib.hid (by
    have h := NatAt.new w (a) 37
    replace h := h.alloc (.cells (natA m) 37)
    replace h := h.alloc (.cells z0 37)
    simpa using h)
  have HM : Hid (NatAt (((w.alloc (.cells (natA a) 37)).alloc (.cells (natA m) 37)).alloc (.cells z0 37)) (w.heap.size + 1) (m)) := Lib.hid (by
    have h := NatAt.new (w.alloc (.cells (natA a) 37)) (m) 37
    replace h := h.alloc (.cells z0 37)
    simpa using h)
  have HR : Hid (NatAt (((w.alloc (.cells (natA a) 37)).alloc (.cells (natA m) 37)).alloc (.cells z0 37)) (w.heap.size + 1 + 1) (0)) := Lib.hid (by
    have h := NatAt.new ((w.alloc (.cells (natA a) 37)).alloc (.cells (natA m) 37)) (0) 37
    rw [natA_zero] at h
    simpa using h)
  have HW : Hid (Below w.heap.size w (((w.alloc (.cells (natA a) 37)).alloc (.cells (natA m) 37)).alloc (.cells z0 37))) := Lib.hid (by
    have h := Below.refl w.heap.size w
    replace h := h.alloc h.size (.cells (natA a) 37)
    replace h := h.alloc h.size (.cells (natA m) 37)
    replace h := h.alloc h.size (.cells z0 37)
    exact h)
  go_enter Try.func19, Try.ntmps19
  go_wp2_with (first | go_skip | (refine wpl_bs1 rfl rfl rfl ?_; intro W1 hs hb; have R_1 := Lib.hid (HR.out.below hb); have W_1 := Lib.hid (HW.out.trans (hb.mono HW.out.size)); have S_1 : Hid (NatsIn W1 (w.heap.size + 1 + 1 + 1) [a]) := Lib.hid (by simpa using hs); clear hs hb HA HM HR HW) | (refine wpl_ldN ntNat rfl rfl rfl HA.out ?_) | (refine wpl_ldN_g ntNat ?hw rfl rfl HA.out ?_; (case hw => rfl)) | (refine wpl_ldN ntNat rfl rfl rfl HM.out ?_) | (refine wpl_ldN_g ntNat ?hw rfl rfl HM.out ?_; (case hw => rfl)) | (refine wpl_ldN ntNat rfl rfl rfl HR.out ?_) | (refine wpl_ldN_g ntNat ?hw rfl rfl HR.out ?_; (case hw => rfl)))
  refine (checked_1 (r := r) 43 (enters_of Try.func43 (by kernel_rfl) rfl) _ 1 _ FM.out F0.out Ga.out rfl S_1.out (fun g cap W hW hl => reduce1_ok g cap W (by rw [FR.out] at hl; exact hl))).mono ?_
  rintro e p6 ⟨rfl, hb⟩
  have R_6 := Lib.hid (R_1.out.below hb)
  have W_6 := Lib.hid (W_1.out.trans (hb.mono W_1.out.size))
  clear hb R_1 W_1
  go_wp2_with (first | go_skip | (refine wpl_ldN ntNat rfl rfl rfl R_6.out ?_) | (refine wpl_ldN_g ntNat ?hw rfl rfl R_6.out ?_; (case hw => rfl)) | (refine wpl_stN ntNat rfl rfl rfl rfl R_6.out ?_; intro z7 hn hg; have W_7 := Lib.hid (W_6.out.grown hg W_6.out.size (fun j e => by injection e with e; omega)); have R_7 := Lib.hid hn; clear hn hg W_6 R_6))
  refine bodyPost_ret (results_nat rfl _ _ rfl R_7.out) rfl ?_
  exact ⟨rfl, W_7.out⟩

set_option maxHeartbeats 3200000 in
theorem mred_zero {m a : Nat} (w : World) (hm : m = 0) (ha : Fit a) :
    Calls Try.prog 19 #[.agg (natA a), .agg (natA m)] w fun e w' => e = .returned (.tuple #[.agg (natA 0), .int .i64 2]) ∧ Below w.heap.size w w' := by
  have FM := Lib.hid hm
  have Ga := Lib.hid ha
  clear hm ha
  have HA : Hid (NatAt (((w.alloc (.cells (natA a) 37)).alloc (.cells (natA m) 37)).alloc (.cells z0 37)) (w.heap.size) (a)) := Lib.hid (by
    have h := NatAt.new w (a) 37
    replace h := h.alloc (.cells (natA m) 37)
    replace h := h.alloc (.cells z0 37)
    simpa using h)
  have HM : Hid (NatAt (((w.alloc (.cells (natA a) 37)).alloc (.cells (natA m) 37)).alloc (.cells z0 37)) (w.heap.size + 1) (m)) := Lib.hid (by
    have h := NatAt.new (w.alloc (.cells (natA a) 37)) (m) 37
    replace h := h.alloc (.cells z0 37)
    simpa using h)
  have HR : Hid (NatAt (((w.alloc (.cells (natA a) 37)).alloc (.cells (natA m) 37)).alloc (.cells z0 37)) (w.heap.size + 1 + 1) (0)) := Lib.hid (by
    have h := NatAt.new ((w.alloc (.cells (natA a) 37)).alloc (.cells (natA m) 37)) (0) 37
    rw [natA_zero] at h
    simpa using h)
  have HW : Hid (Below w.heap.size w (((w.alloc (.cells (natA a) 37)).alloc (.cells (natA m) 37)).alloc (.cells z0 37))) := Lib.hid (by
    have h := Below.refl w.heap.size w
    replace h := h.alloc h.size (.cells (natA a) 37)
    replace h := h.alloc h.size (.cells (natA m) 37)
    replace h := h.alloc h.size (.cells z0 37)
    exact h)
  go_enter Try.func19, Try.ntmps19
  go_wp2_with (first | go_skip | (refine wpl_bs1 rfl rfl rfl ?_; intro W1 hs hb; have R_1 := Lib.hid (HR.out.below hb); have W_1 := Lib.hid (HW.out.trans (hb.mono HW.out.size)); have S_1 : Hid (NatsIn W1 (w.heap.size + 1 + 1 + 1) [a]) := Lib.hid (by simpa using hs); clear hs hb HA HM HR HW) | (refine wpl_ldN ntNat rfl rfl rfl HA.out ?_) | (refine wpl_ldN_g ntNat ?hw rfl rfl HA.out ?_; (case hw => rfl)) | (refine wpl_ldN ntNat rfl rfl rfl HM.out ?_) | (refine wpl_ldN_g ntNat ?hw rfl rfl HM.out ?_; (case hw => rfl)) | (refine wpl_ldN ntNat rfl rfl rfl HR.out ?_) | (refine wpl_ldN_g ntNat ?hw rfl rfl HR.out ?_; (case hw => rfl)))
  refine (checked_zero FM.out undef _ _ _ _ _ _).mono ?_
  rintro e p6 ⟨rfl, hb⟩
  have R_6 := Lib.hid (R_1.out.below hb)
  have W_6 := Lib.hid (W_1.out.trans (hb.mono W_1.out.size))
  clear hb R_1 W_1
  go_wp2_with (first | go_skip | (refine wpl_ldN ntNat rfl rfl rfl R_6.out ?_) | (refine wpl_ldN_g ntNat ?hw rfl rfl R_6.out ?_; (case hw => rfl)) | (refine wpl_stN ntNat rfl rfl rfl rfl R_6.out ?_; intro z7 hn hg; have W_7 := Lib.hid (W_6.out.grown hg W_6.out.size (fun j e => by injection e with e; omega)); have R_7 := Lib.hid hn; clear hn hg W_6 R_6))
  refine bodyPost_ret (results_nat rfl _ _ rfl R_7.out) rfl ?_
  exact ⟨rfl, W_7.out⟩

set_option maxHeartbeats 3200000 in
theorem mexp_ok {m a x r : Nat} (w : World) (hm : Fit m) (h0 : m ≠ 0) (ha : Fit a) (hx : Fit x) (hr : a ^ x % m = r) :
    Calls Try.prog 21 #[.agg (natA a), .agg (natA x), .agg (natA m)] w fun e w' => e = .returned (.tuple #[.agg (natA r), .int .i64 0]) ∧ Below w.heap.size w w' := by
  have FM := Lib.hid hm
  have F0 := Lib.hid h0
  have FR := Lib.hid hr
  have Ga := Lib.hid ha
  have Gx := Lib.hid hx
  clear hm h0 hr ha hx
  have HA : Hid (NatAt ((((w.alloc (.cells (natA a) 37)).alloc (.cells (natA x) 37)).alloc (.cells (natA m) 37)).alloc (.cells z0 37)) (w.heap.size) (a)) := Lib.hid (by
    have h := NatAt.new w (a) 37
    replace h := h.alloc (.cells (natA x) 37)
    replace h := h.alloc (.cells (natA m) 37)
    replace h := h.alloc (.cells z0 37)
    simpa using h)
  have HX : Hid (NatAt ((((w.alloc (.cells (natA a) 37)).alloc (.cells (natA x) 37)).alloc (.cells (natA m) 37)).alloc (.cells z0 37)) (w.heap.size + 1) (x)) := Lib.hid (by
    have h := NatAt.new (w.alloc (.cells (natA a) 37)) (x) 37
    replace h := h.alloc (.cells (natA m) 37)
    replace h := h.alloc (.cells z0 37)
    simpa using h)
  have HM : Hid (NatAt ((((w.alloc (.cells (natA a) 37)).alloc (.cells (natA x) 37)).alloc (.cells (natA m) 37)).alloc (.cells z0 37)) (w.heap.size + 1 + 1) (m)) := Lib.hid (by
    have h := NatAt.new ((w.alloc (.cells (natA a) 37)).alloc (.cells (natA x) 37)) (m) 37
    replace h := h.alloc (.cells z0 37)
    simpa using h)
  have HR : Hid (NatAt ((((w.alloc (.cells (natA a) 37)).alloc (.cells (natA x) 37)).alloc (.cells (natA m) 37)).alloc (.cells z0 37)) (w.heap.size + 1 + 1 + 1) (0)) := Lib.hid (by
    have h := NatAt.new (((w.alloc (.cells (natA a) 37)).alloc (.cells (natA x) 37)).alloc (.cells (natA m) 37)) (0) 37
    rw [natA_zero] at h
    simpa using h)
  have HW : Hid (Below w.heap.size w ((((w.alloc (.cells (natA a) 37)).alloc (.cells (natA x) 37)).alloc (.cells (natA m) 37)).alloc (.cells z0 37))) := Lib.hid (by
    have h := Below.refl w.heap.size w
    replace h := h.alloc h.size (.cells (natA a) 37)
    replace h := h.alloc h.size (.cells (natA x) 37)
    replace h := h.alloc h.size (.cells (natA m) 37)
    replace h := h.alloc h.size (.cells z0 37)
    exact h)
  go_enter Try.func21, Try.ntmps21
  go_wp2_with (first | go_skip | (refine wpl_bs1 rfl rfl rfl ?_; intro W1 hs hb; have R_1 := Lib.hid (HR.out.below hb); have X_1 := Lib.hid (HX.out.below hb); have W_1 := Lib.hid (HW.out.trans (hb.mono HW.out.size)); have S_1 : Hid (NatsIn W1 (w.heap.size + 1 + 1 + 1 + 1) [a]) := Lib.hid (by simpa using hs); clear hs hb HA HX HM HR HW) | (refine wpl_ldN ntNat rfl rfl rfl HA.out ?_) | (refine wpl_ldN_g ntNat ?hw rfl rfl HA.out ?_; (case hw => rfl)) | (refine wpl_ldN ntNat rfl rfl rfl HX.out ?_) | (refine wpl_ldN_g ntNat ?hw rfl rfl HX.out ?_; (case hw => rfl)) | (refine wpl_ldN ntNat rfl rfl rfl HM.out ?_) | (refine wpl_ldN_g ntNat ?hw rfl rfl HM.out ?_; (case hw => rfl)) | (refine wpl_ldN ntNat rfl rfl rfl HR.out ?_) | (refine wpl_ldN_g ntNat ?hw rfl rfl HR.out ?_; (case hw => rfl)))
  refine (checked_e (r := r) 44 (enters_of Try.func44 (by kernel_rfl) rfl) _ 1 _ FM.out F0.out Ga.out rfl S_1.out (fun g cap W hW hl => exp1_ok g cap _ W FM.out F0.out (Nat.mod_lt _ (Nat.pos_of_ne_zero F0.out)) Gx.out hl (X_1.out.below hW) (by rw [← FR.out, ← Nat.pow_mod]))).mono ?_
  rintro e p6 ⟨rfl, hb⟩
  have R_6 := Lib.hid (R_1.out.below hb)
  have X_6 := Lib.hid (X_1.out.below hb)
  have W_6 := Lib.hid (W_1.out.trans (hb.mono W_1.out.size))
  clear hb R_1 X_1 W_1
  go_wp2_with (first | go_skip | (refine wpl_ldN ntNat rfl rfl rfl R_6.out ?_) | (refine wpl_ldN_g ntNat ?hw rfl rfl R_6.out ?_; (case hw => rfl)) | (refine wpl_stN ntNat rfl rfl rfl rfl R_6.out ?_; intro z7 hn hg; have W_7 := Lib.hid (W_6.out.grown hg W_6.out.size (fun j e => by injection e with e; omega)); have R_7 := Lib.hid hn; clear hn hg W_6 R_6 X_6))
  refine bodyPost_ret (results_nat rfl _ _ rfl R_7.out) rfl ?_
  exact ⟨rfl, W_7.out⟩

set_option maxHeartbeats 3200000 in
theorem mexp_zero {m a x : Nat} (w : World) (hm : m = 0) (ha : Fit a) (hx : Fit x) :
    Calls Try.prog 21 #[.agg (natA a), .agg (natA x), .agg (natA m)] w fun e w' => e = .returned (.tuple #[.agg (natA 0), .int .i64 2]) ∧ Below w.heap.size w w' := by
  have FM := Lib.hid hm
  have Ga := Lib.hid ha
  have Gx := Lib.hid hx
  clear hm ha hx
  have HA : Hid (NatAt ((((w.alloc (.cells (natA a) 37)).alloc (.cells (natA x) 37)).alloc (.cells (natA m) 37)).alloc (.cells z0 37)) (w.heap.size) (a)) := Lib.hid (by
    have h := NatAt.new w (a) 37
    replace h := h.alloc (.cells (natA x) 37)
    replace h := h.alloc (.cells (natA m) 37)
    replace h := h.alloc (.cells z0 37)
    simpa using h)
  have HX : Hid (NatAt ((((w.alloc (.cells (natA a) 37)).alloc (.cells (natA x) 37)).alloc (.cells (natA m) 37)).alloc (.cells z0 37)) (w.heap.size + 1) (x)) := Lib.hid (by
    have h := NatAt.new (w.alloc (.cells (natA a) 37)) (x) 37
    replace h := h.alloc (.cells (natA m) 37)
    replace h := h.alloc (.cells z0 37)
    simpa using h)
  have HM : Hid (NatAt ((((w.alloc (.cells (natA a) 37)).alloc (.cells (natA x) 37)).alloc (.cells (natA m) 37)).alloc (.cells z0 37)) (w.heap.size + 1 + 1) (m)) := Lib.hid (by
    have h := NatAt.new ((w.alloc (.cells (natA a) 37)).alloc (.cells (natA x) 37)) (m) 37
    replace h := h.alloc (.cells z0 37)
    simpa using h)
  have HR : Hid (NatAt ((((w.alloc (.cells (natA a) 37)).alloc (.cells (natA x) 37)).alloc (.cells (natA m) 37)).alloc (.cells z0 37)) (w.heap.size + 1 + 1 + 1) (0)) := Lib.hid (by
    have h := NatAt.new (((w.alloc (.cells (natA a) 37)).alloc (.cells (natA x) 37)).alloc (.cells (natA m) 37)) (0) 37
    rw [natA_zero] at h
    simpa using h)
  have HW : Hid (Below w.heap.size w ((((w.alloc (.cells (natA a) 37)).alloc (.cells (natA x) 37)).alloc (.cells (natA m) 37)).alloc (.cells z0 37))) := Lib.hid (by
    have h := Below.refl w.heap.size w
    replace h := h.alloc h.size (.cells (natA a) 37)
    replace h := h.alloc h.size (.cells (natA x) 37)
    replace h := h.alloc h.size (.cells (natA m) 37)
    replace h := h.alloc h.size (.cells z0 37)
    exact h)
  go_enter Try.func21, Try.ntmps21
  go_wp2_with (first | go_skip | (refine wpl_bs1 rfl rfl rfl ?_; intro W1 hs hb; have R_1 := Lib.hid (HR.out.below hb); have X_1 := Lib.hid (HX.out.below hb); have W_1 := Lib.hid (HW.out.trans (hb.mono HW.out.size)); have S_1 : Hid (NatsIn W1 (w.heap.size + 1 + 1 + 1 + 1) [a]) := Lib.hid (by simpa using hs); clear hs hb HA HX HM HR HW) | (refine wpl_ldN ntNat rfl rfl rfl HA.out ?_) | (refine wpl_ldN_g ntNat ?hw rfl rfl HA.out ?_; (case hw => rfl)) | (refine wpl_ldN ntNat rfl rfl rfl HX.out ?_) | (refine wpl_ldN_g ntNat ?hw rfl rfl HX.out ?_; (case hw => rfl)) | (refine wpl_ldN ntNat rfl rfl rfl HM.out ?_) | (refine wpl_ldN_g ntNat ?hw rfl rfl HM.out ?_; (case hw => rfl)) | (refine wpl_ldN ntNat rfl rfl rfl HR.out ?_) | (refine wpl_ldN_g ntNat ?hw rfl rfl HR.out ?_; (case hw => rfl)))
  refine (checked_zero FM.out undef _ _ _ _ _ _).mono ?_
  rintro e p6 ⟨rfl, hb⟩
  have R_6 := Lib.hid (R_1.out.below hb)
  have X_6 := Lib.hid (X_1.out.below hb)
  have W_6 := Lib.hid (W_1.out.trans (hb.mono W_1.out.size))
  clear hb R_1 X_1 W_1
  go_wp2_with (first | go_skip | (refine wpl_ldN ntNat rfl rfl rfl R_6.out ?_) | (refine wpl_ldN_g ntNat ?hw rfl rfl R_6.out ?_; (case hw => rfl)) | (refine wpl_stN ntNat rfl rfl rfl rfl R_6.out ?_; intro z7 hn hg; have W_7 := Lib.hid (W_6.out.grown hg W_6.out.size (fun j e => by injection e with e; omega)); have R_7 := Lib.hid hn; clear hn hg W_6 R_6 X_6))
  refine bodyPost_ret (results_nat rfl _ _ rfl R_7.out) rfl ?_
  exact ⟨rfl, W_7.out⟩


end Go.Proofs.Ytfmadiepefbepaa
