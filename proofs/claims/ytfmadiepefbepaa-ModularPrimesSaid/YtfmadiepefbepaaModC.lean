/- Walk: repeat (printed by genmodc.py). -/
import Derived.Test.YtfmadiepefbepaaModB
import Derived.RangeFuncNested
import Derived.RangeFuncBound
import Derived.RangeFuncCalls
import Derived.RangeFuncLeaves
import Derived.Shelf.Abstract
import Derived.Shelf.RegionOpen
import Derived.OwnWalkIn
import Derived.TacticsInMore
import Derived.LoopNIn
import Derived.LoopIn
import Derived.Laws.EntriesVeiled
set_option linter.unusedVariables false
set_option linter.unusedSimpArgs false
set_option maxRecDepth 20000
namespace Go.Proofs.Ytfmadiepefbepaa
open Go.RowKit Go.Shelf
attribute [local go_sem] Oper.semAt_some

/-! ### Plain: what the loop over the ones reckons -/
def repS (L0 : Nat) (l : List Nat) : Nat × Nat := l.foldl (fun s i => (s.1 * 2 ^ (s.2 - i) + 1, i)) (0, L0)
theorem repS_nil (L0 : Nat) : repS L0 [] = (0, L0) := rfl
theorem repS_snoc (L0 : Nat) (l : List Nat) (i : Nat) : repS L0 (l ++ [i]) = ((repS L0 l).1 * 2 ^ ((repS L0 l).2 - i) + 1, i) := by simp [repS]
theorem half_bit (t k : Nat) : t / 2 ^ k = 2 * (t / 2 ^ (k + 1)) + (if bitN t k = true then 1 else 0) := by
  have h : t / 2 ^ (k + 1) = t / 2 ^ k / 2 := by rw [Nat.pow_succ, Nat.div_div_eq_div_mul]
  have h2 : bitN t k = decide (t / 2 ^ k % 2 = 1) := rfl
  rw [h, h2]
  by_cases h3 : t / 2 ^ k % 2 = 1
  · rw [if_pos (decide_eq_true h3)]; omega
  · rw [if_neg (by simpa using h3)]; omega
theorem rep_fold (t : Nat) : ∀ (k j last : Nat), k ≤ last → j * 2 ^ (last - k) = t / 2 ^ k →
    ((onesU t k).foldl (fun (s : Nat × Nat) i => (s.1 * 2 ^ (s.2 - i) + 1, i)) (j, last)).1 * 2 ^ ((onesU t k).foldl (fun (s : Nat × Nat) i => (s.1 * 2 ^ (s.2 - i) + 1, i)) (j, last)).2 = t
  | 0, j, last, _, h => by
    rw [Nat.pow_zero, Nat.div_one] at h
    exact h
  | k + 1, j, last, hl, h => by
    have e : last - k = last - (k + 1) + 1 := by omega
    have h4 : j * 2 ^ (last - k) = 2 * (t / 2 ^ (k + 1)) := by rw [e, Nat.pow_succ, ← Nat.mul_assoc, h, Nat.mul_comm]
    have h5 := half_bit t k
    unfold onesU
    by_cases hb : bitN t k = true
    · rw [if_pos hb] at h5 ⊢
      rw [List.foldl_cons]
      exact rep_fold t k _ k (Nat.le_refl _) (by rw [Nat.sub_self, Nat.pow_zero, Nat.mul_one, h4, h5])
    · rw [if_neg hb] at h5 ⊢
      exact rep_fold t k j last (by omega) (by rw [h4]; omega)
theorem rep_all (t : Nat) : (repS (bl t) (onesN t)).1 * 2 ^ (repS (bl t) (onesN t)).2 = t := by
  unfold repS onesN
  refine rep_fold t (bl t) 0 (bl t) (Nat.le_refl _) ?_
  rw [Nat.zero_mul, Nat.div_eq_of_lt (lt_bl t)]
theorem rep_last (L0 : Nat) : ∀ (l : List Nat), (∀ x ∈ l, x ≤ L0) → (repS L0 l).2 ≤ L0 := by
  intro l h
  rcases List.eq_nil_or_concat l with rfl | ⟨l', x, rfl⟩
  · exact Nat.le_refl _
  · rw [List.concat_eq_append, repS_snoc]
    exact h x (by simp)
theorem OneAt.own {A B : World} {b : Nat} {v : Value} {row : Option Nat} (h : OneAt A b v) (hg : A.grownBy B row) (hr : ∀ r, row = some r → ∃ o : Obj, A.heap[r]? = some o ∧ o.isCells = false) : OneAt B b v := by
  refine h.grown hg (fun e => ?_)
  obtain ⟨o, ho, hc⟩ := hr b e.symm
  obtain ⟨T, h⟩ := h
  rw [h] at ho
  injection ho with ho
  subst ho
  cases hc
theorem keeps_of_below {w w' : World} (h : Below w.heap.size w w') : KeepsOthers w w' := KeepsOthers.of_grownBy (grown_of_below h) (fun j o e => by cases e)
theorem keeps_of_nat {w w' : World} {B n : Nat} (hg : w.grownBy w' (some B)) (h : NatAt w B n) : KeepsOthers w w' := KeepsOthers.of_grownBy hg (fun j o e ho => by
  injection e with e
  subst e
  obtain ⟨T, h⟩ := h
  rw [h] at ho
  injection ho with ho
  subst ho
  rfl)

set_option maxHeartbeats 6400000 in
theorem repeat_any (K : FuncId) (hE : ∀ (args : Array Value) (W : World), (callFunc K args).run Try.prog W = .ok (.enter K args) W) (m : Nat) (g : Nat → Nat) (hF : OpG K m g) (t : Nat) (w : World) (ht : Fit t) :
    Calls Try.prog 45 #[.agg (natA (g 1)), .agg (natA t), .agg (natA (g 0)), .func (.func K) #[.agg (natA m)] #[]] w (RetG1 w (g t)) := by
  have FTT := Lib.hid ht
  have HF := Lib.hid hF
  have HEE := Lib.hid hE
  have hbl : (bl t : Int) ≤ 1024 := by have := bl_fit.2 ht; omega
  have HBL := Lib.hid hbl
  obtain ⟨x1, hx1⟩ : ∃ x, x = g 1 := ⟨_, rfl⟩
  obtain ⟨x0, hx0⟩ : ∃ x, x = g 0 := ⟨_, rfl⟩
  rw [← hx1, ← hx0]
  have HX1 := Lib.hid hx1
  have HX0 := Lib.hid hx0
  clear ht hF hE hbl hx1 hx0
  have HX : Hid (NatAt (((((w.alloc (.cells (natA x1) 37)).alloc (.cells (natA t) 37)).alloc (.cells (natA x0) 37)).alloc (.cells #[.func (.func K) #[.agg (natA m)] #[]] 53)).alloc (.cells z0 37)) (w.heap.size) (x1)) := Lib.hid (by
    have h := NatAt.new w (x1) 37
    replace h := h.alloc (.cells (natA t) 37)
    replace h := h.alloc (.cells (natA x0) 37)
    replace h := h.alloc (.cells #[.func (.func K) #[.agg (natA m)] #[]] 53)
    replace h := h.alloc (.cells z0 37)
    simpa using h)
  have HT : Hid (NatAt (((((w.alloc (.cells (natA x1) 37)).alloc (.cells (natA t) 37)).alloc (.cells (natA x0) 37)).alloc (.cells #[.func (.func K) #[.agg (natA m)] #[]] 53)).alloc (.cells z0 37)) (w.heap.size + 1) (t)) := Lib.hid (by
    have h := NatAt.new (w.alloc (.cells (natA x1) 37)) (t) 37
    replace h := h.alloc (.cells (natA x0) 37)
    replace h := h.alloc (.cells #[.func (.func K) #[.agg (natA m)] #[]] 53)
    replace h := h.alloc (.cells z0 37)
    simpa using h)
  have HNN : Hid (NatAt (((((w.alloc (.cells (natA x1) 37)).alloc (.cells (natA t) 37)).alloc (.cells (natA x0) 37)).alloc (.cells #[.func (.func K) #[.agg (natA m)] #[]] 53)).alloc (.cells z0 37)) (w.heap.size + 1 + 1) (x0)) := Lib.hid (by
    have h := NatAt.new ((w.alloc (.cells (natA x1) 37)).alloc (.cells (natA t) 37)) (x0) 37
    replace h := h.alloc (.cells #[.func (.func K) #[.agg (natA m)] #[]] 53)
    replace h := h.alloc (.cells z0 37)
    simpa using h)
  have HR : Hid (NatAt (((((w.alloc (.cells (natA x1) 37)).alloc (.cells (natA t) 37)).alloc (.cells (natA x0) 37)).alloc (.cells #[.func (.func K) #[.agg (natA m)] #[]] 53)).alloc (.cells z0 37)) (w.heap.size + 1 + 1 + 1 + 1) (0)) := Lib.hid (by
    have h := NatAt.new ((((w.alloc (.cells (natA x1) 37)).alloc (.cells (natA t) 37)).alloc (.cells (natA x0) 37)).alloc (.cells #[.func (.func K) #[.agg (natA m)] #[]] 53)) (0) 37
    rw [natA_zero] at h
    simpa using h)
  have HW : Hid (Below w.heap.size w (((((w.alloc (.cells (natA x1) 37)).alloc (.cells (natA t) 37)).alloc (.cells (natA x0) 37)).alloc (.cells #[.func (.func K) #[.agg (natA m)] #[]] 53)).alloc (.cells z0 37))) := Lib.hid (by
    have h := Below.refl w.heap.size w
    replace h := h.alloc h.size (.cells (natA x1) 37)
    replace h := h.alloc h.size (.cells (natA t) 37)
    replace h := h.alloc h.size (.cells (natA x0) 37)
    replace h := h.alloc h.size (.cells #[.func (.func K) #[.agg (natA m)] #[]] 53)
    replace h := h.alloc h.size (.cells z0 37)
    exact h)
  have HFC : Hid (OneAt (((((w.alloc (.cells (natA x1) 37)).alloc (.cells (natA t) 37)).alloc (.cells (natA x0) 37)).alloc (.cells #[.func (.func K) #[.agg (natA m)] #[]] 53)).alloc (.cells z0 37)) (w.heap.size + 1 + 1 + 1) (.func (.func K) #[.agg (natA m)] #[])) := Lib.hid (by
    have h := OneAt.new (((w.alloc (.cells (natA x1) 37)).alloc (.cells (natA t) 37)).alloc (.cells (natA x0) 37)) (.func (.func K) #[.agg (natA m)] #[]) 53
    replace h := h.alloc (.cells z0 37)
    simpa using h)
  refine (callsIn_wide (n := 8)).1 ?_
  refine callsIn_of_wp_marks Try.func45 rfl trivial ?_ rfl
  refine wpIn_wide.2 ?_
  simp only [Try.ntmps45, List.size_toArray, List.length_cons, List.length_nil, Nat.reduceAdd, Nat.reduceSub, Array.replicate_succ, Array.replicate_zero, List.push_toArray, List.append_toArray, List.nil_append, List.cons_append]
  go_upto_region 1 with fail
  generalize (((((w.alloc (.cells (natA x1) 37)).alloc (.cells (natA t) 37)).alloc (.cells (natA x0) 37)).alloc (.cells #[.func (.func K) #[.agg (natA m)] #[]] 53)).alloc (.cells z0 37)) = w1 at HX HT HNN HFC HR HW ⊢
  have HZ : Hid (w.heap.size + 4 < w1.heap.size) := Lib.hid HR.out.lt
  go_cut [9, 10] from 9 to 15 (fun x y wx => ∃ B9 B10, x = .pointer (some ⟨B9, 0, none⟩) ∧ y = .pointer (some ⟨B10, 0, none⟩) ∧ B9 ≠ B10 ∧ w1.heap.size ≤ B9 ∧ w1.heap.size ≤ B10 ∧ NatAt wx B9 x0 ∧ OneAt wx B10 (.int .i64 (bl t)) ∧ Below w1.heap.size w1 wx)
  case first =>
    have hRR : ∀ w9 : World, Below w1.heap.size w9 w9 := fun _ => Below.refl _ _
    have hRT : ∀ x y z : World, Below w1.heap.size x y → Below w1.heap.size y z → Below w1.heap.size x z := fun _ _ _ h1 h2 => h1.trans h2
    refine region_begin (fun x y => Below w1.heap.size x y) 7 (by kernel_rfl) (by kernel_rfl) ?_
    have BX : Hid (Below w1.heap.size w1 w1.drew) := Lib.hid (Below.refl w1.heap.size w1).drew
    have YN : Hid (NatAt w1.drew (w.heap.size + 1 + 1) x0) := Lib.hid HNN.out.drew
    have YT : Hid (NatAt w1.drew (w.heap.size + 1) t) := Lib.hid HT.out.drew
    generalize w1.drew = q0 at BX YN YT ⊢
    refine anyR_at (o := ?_) (i := 0) ?_ ?_
    rotate_left
    · (conv => (lhs; whnf; arg 1; whnf))
    refine anyR_y hRR hRT (by kernel_rfl) (v := ?_) (by kernel_rfl) (by rfl) (fun W hW => ?_) ?_
    rotate_left
    · (refine exec_ldN (x := .tmp 6) ntNat ?_ ?_ (natAt_below (N := w1.heap.size) YN.out hW (by have := HZ.out; omega))) <;> rfl
    try simp only [Act.put, List.setIfInBounds_toArray, List.set_cons_zero, List.set_cons_succ]
    refine anyR_at (o := ?_) (i := 1) ?_ ?_
    rotate_left
    · (conv => (lhs; whnf; arg 1; whnf))
    refine anyR_y hRR hRT (by kernel_rfl) (v := ?_) (by kernel_rfl) (by rfl) (fun W hW => ?_) ?_
    rotate_left
    · (refine exec_ldN (x := .tmp 5) ntNat ?_ ?_ (natAt_below (N := w1.heap.size) YT.out hW (by have := HZ.out; omega))) <;> rfl
    try simp only [Act.put, List.setIfInBounds_toArray, List.set_cons_zero, List.set_cons_succ]
    refine anyR_branch [2, 3, 4] (by kernel_rfl) rfl ?_
    refine brs_cons (o := ?_) ?_ ?_ ?_
    rotate_left
    · (conv => (lhs; whnf; arg 1; whnf))
    · refine stepB_c (by rfl) (fun K hK => ?_)
      go_simp
      refine (bitLen_any t _ FTT.out).mono ?_
      rintro e q1 ⟨rfl, hb⟩
      have B_1 := Lib.hid (BX.out.trans (hb.mono BX.out.size))
      have R_1 := Lib.hid (hb.mono BX.out.size)
      clear hb
      refine hK _ _ R_1.out ?_
      clear hK R_1
      try simp only [Act.put, List.setIfInBounds_toArray, List.set_cons_zero, List.set_cons_succ]
      refine anyR_branch [3, 4] (by kernel_rfl) rfl ?_
      refine brs_cons (o := ?_) ?_ ?_ ?_
      rotate_left
      · (conv => (lhs; whnf; arg 1; whnf))
      · refine stepB_c (by rfl) (fun K hK => ?_)
        go_simp
        have hb : Below q1.heap.size q1 (q1.alloc (.cells z0 37)) := (Below.refl _ _).alloc (Nat.le_refl _) _
        have B_2 := Lib.hid (B_1.out.trans (hb.mono B_1.out.size))
        have R_2 := Lib.hid (hb.mono B_1.out.size)
        have d9_2 := Lib.hid (NatAt.zero q1)
        have md9_2 : Hid (w1.heap.size ≤ q1.heap.size) := Lib.hid B_1.out.size
        clear hb
        generalize (q1.alloc (.cells z0 37)) = q2 at *
        refine hK _ _ R_2.out ?_
        clear hK R_2
        generalize q1.heap.size = bd9_2 at *
        clear B_1
        try simp only [Act.put, List.setIfInBounds_toArray, List.set_cons_zero, List.set_cons_succ]
        refine anyR_branch [4] (by kernel_rfl) rfl ?_
        refine brs_cons (o := ?_) ?_ ?_ ?_
        rotate_left
        · (conv => (lhs; whnf; arg 1; whnf))
        · refine stepB_c (by rfl) (fun K hK => ?_)
          go_simp
          have hb : Below q2.heap.size q2 (q2.alloc (.cells #[.int .i64 0] 3)) := (Below.refl _ _).alloc (Nat.le_refl _) _
          have d9_3 := Lib.hid (d9_2.out.below hb)
          have B_3 := Lib.hid (B_2.out.trans (hb.mono B_2.out.size))
          have R_3 := Lib.hid (hb.mono B_2.out.size)
          have d10_3 := Lib.hid (OneAt.new q2 (.int .i64 0) 3)
          have md10_3 : Hid (w1.heap.size ≤ q2.heap.size) := Lib.hid B_2.out.size
          have ned9d10_3 := Lib.hid (Nat.ne_of_lt d9_2.out.lt)
          clear hb
          generalize (q2.alloc (.cells #[.int .i64 0] 3)) = q3 at *
          refine hK _ _ R_3.out ?_
          clear hK R_3
          generalize q2.heap.size = bd10_3 at *
          clear d9_2 B_2
          try simp only [Act.put, List.setIfInBounds_toArray, List.set_cons_zero, List.set_cons_succ]
          refine anyR_branch [5] (by kernel_rfl) rfl ?_
          refine brs_cons (o := ?_) ?_ ?_ ?_
          rotate_left
          · (conv => (lhs; whnf; arg 1; whnf))
          · refine stepB_c (by rfl) (fun K hK => ?_)
            refine wp_stN ntNat rfl rfl (m := x0) rfl d9_3.out ?_
            intro q4 hd hg
            have d9_4 := Lib.hid hd
            have d10_4 := Lib.hid (d10_3.out.grown hg (fun e => by injection e with e; exact ned9d10_3.out e.symm))
            have B_4 := Lib.hid (B_3.out.grown hg B_3.out.size (fun j e => by injection e with e; have := md9_2.out; omega))
            have R_4 : Hid (Below (w1.heap.size) q3 q4) := Lib.hid ((Below.refl _ _).grown hg B_3.out.size (fun j e => by injection e with e; have := md9_2.out; omega))
            clear hd hg
            refine hK _ _ R_4.out ?_
            clear hK R_4
            clear d9_3 d10_3 B_3
            try simp only [Act.put, List.setIfInBounds_toArray, List.set_cons_zero, List.set_cons_succ]
            refine anyR_branch [6] (by kernel_rfl) rfl ?_
            refine brs_cons (o := ?_) ?_ ?_ ?_
            rotate_left
            · (conv => (lhs; whnf; arg 1; whnf))
            · refine stepB_c (by rfl) (fun K hK => ?_)
              have hc := d10_4.out.cell; have hf := d10_4.out.frozen
              go_simp
              obtain ⟨hd, hg⟩ := d10_4.out.set (.int .i64 (bl t))
              generalize q4.setCell ⟨bd10_3, 0, none⟩ (.int .i64 (bl t)) = q5 at *
              clear hc hf
              have d10_5 := Lib.hid hd
              have d9_5 := Lib.hid (d9_4.out.grown hg (fun e => by injection e with e; exact ned9d10_3.out e))
              have B_5 := Lib.hid (B_4.out.grown hg B_4.out.size (fun j e => by injection e with e; have := md10_3.out; omega))
              have R_5 : Hid (Below (w1.heap.size) q4 q5) := Lib.hid ((Below.refl _ _).grown hg B_4.out.size (fun j e => by injection e with e; have := md10_3.out; omega))
              clear hd hg
              refine hK _ _ R_5.out ?_
              clear hK R_5
              clear d10_4 d9_4 B_4
              try simp only [Act.put, List.setIfInBounds_toArray, List.set_cons_zero, List.set_cons_succ]
              refine anyR_end (by kernel_rfl) ?_
              dsimp only [Exit.then]
              go_step
              go_meet
              exact ⟨_, _, rfl, rfl, fun e => ned9d10_3.out e, md9_2.out, md10_3.out, d9_5.out, d10_5.out, B_5.out⟩
            exact brs_nil
          exact brs_nil
        exact brs_nil
      refine brs_cons (o := ?_) ?_ ?_ ?_
      rotate_left
      · (conv => (lhs; whnf; arg 1; whnf))
      · refine stepB_c (by rfl) (fun K hK => ?_)
        go_simp
        have hb : Below q1.heap.size q1 (q1.alloc (.cells #[.int .i64 0] 3)) := (Below.refl _ _).alloc (Nat.le_refl _) _
        have B_6 := Lib.hid (B_1.out.trans (hb.mono B_1.out.size))
        have R_6 := Lib.hid (hb.mono B_1.out.size)
        have d10_6 := Lib.hid (OneAt.new q1 (.int .i64 0) 3)
        have md10_6 : Hid (w1.heap.size ≤ q1.heap.size) := Lib.hid B_1.out.size
        clear hb
        generalize (q1.alloc (.cells #[.int .i64 0] 3)) = q6 at *
        refine hK _ _ R_6.out ?_
        clear hK R_6
        generalize q1.heap.size = bd10_6 at *
        clear B_1
        try simp only [Act.put, List.setIfInBounds_toArray, List.set_cons_zero, List.set_cons_succ]
        refine anyR_branch [3] (by kernel_rfl) rfl ?_
        refine brs_cons (o := ?_) ?_ ?_ ?_
        rotate_left
        · (conv => (lhs; whnf; arg 1; whnf))
        · refine stepB_c (by rfl) (fun K hK => ?_)
          go_simp
          have hb : Below q6.heap.size q6 (q6.alloc (.cells z0 37)) := (Below.refl _ _).alloc (Nat.le_refl _) _
          have d10_7 := Lib.hid (d10_6.out.below hb)
          have B_7 := Lib.hid (B_6.out.trans (hb.mono B_6.out.size))
          have R_7 := Lib.hid (hb.mono B_6.out.size)
          have d9_7 := Lib.hid (NatAt.zero q6)
          have md9_7 : Hid (w1.heap.size ≤ q6.heap.size) := Lib.hid B_6.out.size
          have ned10d9_7 := Lib.hid (Nat.ne_of_lt d10_6.out.lt)
          clear hb
          generalize (q6.alloc (.cells z0 37)) = q7 at *
          refine hK _ _ R_7.out ?_
          clear hK R_7
          generalize q6.heap.size = bd9_7 at *
          clear d10_6 B_6
          try simp only [Act.put, List.setIfInBounds_toArray, List.set_cons_zero, List.set_cons_succ]
          refine anyR_branch [5] (by kernel_rfl) rfl ?_
          refine brs_cons (o := ?_) ?_ ?_ ?_
          rotate_left
          · (conv => (lhs; whnf; arg 1; whnf))
          · refine stepB_c (by rfl) (fun K hK => ?_)
            refine wp_stN ntNat rfl rfl (m := x0) rfl d9_7.out ?_
            intro q8 hd hg
            have d9_8 := Lib.hid hd
            have d10_8 := Lib.hid (d10_7.out.grown hg (fun e => by injection e with e; exact ned10d9_7.out e))
            have B_8 := Lib.hid (B_7.out.grown hg B_7.out.size (fun j e => by injection e with e; have := md9_7.out; omega))
            have R_8 : Hid (Below (w1.heap.size) q7 q8) := Lib.hid ((Below.refl _ _).grown hg B_7.out.size (fun j e => by injection e with e; have := md9_7.out; omega))
            clear hd hg
            refine hK _ _ R_8.out ?_
            clear hK R_8
            clear d9_7 d10_7 B_7
            try simp only [Act.put, List.setIfInBounds_toArray, List.set_cons_zero, List.set_cons_succ]
            refine anyR_branch [6] (by kernel_rfl) rfl ?_
            refine brs_cons (o := ?_) ?_ ?_ ?_
            rotate_left
            · (conv => (lhs; whnf; arg 1; whnf))
            · refine stepB_c (by rfl) (fun K hK => ?_)
              have hc := d10_8.out.cell; have hf := d10_8.out.frozen
              go_simp
              obtain ⟨hd, hg⟩ := d10_8.out.set (.int .i64 (bl t))
              generalize q8.setCell ⟨bd10_6, 0, none⟩ (.int .i64 (bl t)) = q9 at *
              clear hc hf
              have d10_9 := Lib.hid hd
              have d9_9 := Lib.hid (d9_8.out.grown hg (fun e => by injection e with e; exact ned10d9_7.out e.symm))
              have B_9 := Lib.hid (B_8.out.grown hg B_8.out.size (fun j e => by injection e with e; have := md10_6.out; omega))
              have R_9 : Hid (Below (w1.heap.size) q8 q9) := Lib.hid ((Below.refl _ _).grown hg B_8.out.size (fun j e => by injection e with e; have := md10_6.out; omega))
              clear hd hg
              refine hK _ _ R_9.out ?_
              clear hK R_9
              clear d10_8 d9_8 B_8
              try simp only [Act.put, List.setIfInBounds_toArray, List.set_cons_zero, List.set_cons_succ]
              refine anyR_end (by kernel_rfl) ?_
              dsimp only [Exit.then]
              go_step
              go_meet
              exact ⟨_, _, rfl, rfl, fun e => ned10d9_7.out e.symm, md9_7.out, md10_6.out, d9_9.out, d10_9.out, B_9.out⟩
            exact brs_nil
          exact brs_nil
        exact brs_nil
      exact brs_nil
    refine brs_cons (o := ?_) ?_ ?_ ?_
    rotate_left
    · (conv => (lhs; whnf; arg 1; whnf))
    · refine stepB_c (by rfl) (fun K hK => ?_)
      go_simp
      have hb : Below q0.heap.size q0 (q0.alloc (.cells z0 37)) := (Below.refl _ _).alloc (Nat.le_refl _) _
      have B_10 := Lib.hid (BX.out.trans (hb.mono BX.out.size))
      have R_10 := Lib.hid (hb.mono BX.out.size)
      have d9_10 := Lib.hid (NatAt.zero q0)
      have md9_10 : Hid (w1.heap.size ≤ q0.heap.size) := Lib.hid BX.out.size
      clear hb
      generalize (q0.alloc (.cells z0 37)) = q10 at *
      refine hK _ _ R_10.out ?_
      clear hK R_10
      generalize q0.heap.size = bd9_10 at *
      try simp only [Act.put, List.setIfInBounds_toArray, List.set_cons_zero, List.set_cons_succ]
      refine anyR_branch [2, 4] (by kernel_rfl) rfl ?_
      refine brs_cons (o := ?_) ?_ ?_ ?_
      rotate_left
      · (conv => (lhs; whnf; arg 1; whnf))
      · refine stepB_c (by rfl) (fun K hK => ?_)
        go_simp
        refine (bitLen_any t _ FTT.out).mono ?_
        rintro e q11 ⟨rfl, hb⟩
        have d9_11 := Lib.hid (d9_10.out.below hb)
        have B_11 := Lib.hid (B_10.out.trans (hb.mono B_10.out.size))
        have R_11 := Lib.hid (hb.mono B_10.out.size)
        clear hb
        refine hK _ _ R_11.out ?_
        clear hK R_11
        clear d9_10 B_10
        try simp only [Act.put, List.setIfInBounds_toArray, List.set_cons_zero, List.set_cons_succ]
        refine anyR_branch [4] (by kernel_rfl) rfl ?_
        refine brs_cons (o := ?_) ?_ ?_ ?_
        rotate_left
        · (conv => (lhs; whnf; arg 1; whnf))
        · refine stepB_c (by rfl) (fun K hK => ?_)
          go_simp
          have hb : Below q11.heap.size q11 (q11.alloc (.cells #[.int .i64 0] 3)) := (Below.refl _ _).alloc (Nat.le_refl _) _
          have d9_12 := Lib.hid (d9_11.out.below hb)
          have B_12 := Lib.hid (B_11.out.trans (hb.mono B_11.out.size))
          have R_12 := Lib.hid (hb.mono B_11.out.size)
          have d10_12 := Lib.hid (OneAt.new q11 (.int .i64 0) 3)
          have md10_12 : Hid (w1.heap.size ≤ q11.heap.size) := Lib.hid B_11.out.size
          have ned9d10_12 := Lib.hid (Nat.ne_of_lt d9_11.out.lt)
          clear hb
          generalize (q11.alloc (.cells #[.int .i64 0] 3)) = q12 at *
          refine hK _ _ R_12.out ?_
          clear hK R_12
          generalize q11.heap.size = bd10_12 at *
          clear d9_11 B_11
          try simp only [Act.put, List.setIfInBounds_toArray, List.set_cons_zero, List.set_cons_succ]
          refine anyR_branch [5] (by kernel_rfl) rfl ?_
          refine brs_cons (o := ?_) ?_ ?_ ?_
          rotate_left
          · (conv => (lhs; whnf; arg 1; whnf))
          · refine stepB_c (by rfl) (fun K hK => ?_)
            refine wp_stN ntNat rfl rfl (m := x0) rfl d9_12.out ?_
            intro q13 hd hg
            have d9_13 := Lib.hid hd
            have d10_13 := Lib.hid (d10_12.out.grown hg (fun e => by injection e with e; exact ned9d10_12.out e.symm))
            have B_13 := Lib.hid (B_12.out.grown hg B_12.out.size (fun j e => by injection e with e; have := md9_10.out; omega))
            have R_13 : Hid (Below (w1.heap.size) q12 q13) := Lib.hid ((Below.refl _ _).grown hg B_12.out.size (fun j e => by injection e with e; have := md9_10.out; omega))
            clear hd hg
            refine hK _ _ R_13.out ?_
            clear hK R_13
            clear d9_12 d10_12 B_12
            try simp only [Act.put, List.setIfInBounds_toArray, List.set_cons_zero, List.set_cons_succ]
            refine anyR_branch [6] (by kernel_rfl) rfl ?_
            refine brs_cons (o := ?_) ?_ ?_ ?_
            rotate_left
            · (conv => (lhs; whnf; arg 1; whnf))
            · refine stepB_c (by rfl) (fun K hK => ?_)
              have hc := d10_13.out.cell; have hf := d10_13.out.frozen
              go_simp
              obtain ⟨hd, hg⟩ := d10_13.out.set (.int .i64 (bl t))
              generalize q13.setCell ⟨bd10_12, 0, none⟩ (.int .i64 (bl t)) = q14 at *
              clear hc hf
              have d10_14 := Lib.hid hd
              have d9_14 := Lib.hid (d9_13.out.grown hg (fun e => by injection e with e; exact ned9d10_12.out e))
              have B_14 := Lib.hid (B_13.out.grown hg B_13.out.size (fun j e => by injection e with e; have := md10_12.out; omega))
              have R_14 : Hid (Below (w1.heap.size) q13 q14) := Lib.hid ((Below.refl _ _).grown hg B_13.out.size (fun j e => by injection e with e; have := md10_12.out; omega))
              clear hd hg
              refine hK _ _ R_14.out ?_
              clear hK R_14
              clear d10_13 d9_13 B_13
              try simp only [Act.put, List.setIfInBounds_toArray, List.set_cons_zero, List.set_cons_succ]
              refine anyR_end (by kernel_rfl) ?_
              dsimp only [Exit.then]
              go_step
              go_meet
              exact ⟨_, _, rfl, rfl, fun e => ned9d10_12.out e, md9_10.out, md10_12.out, d9_14.out, d10_14.out, B_14.out⟩
            exact brs_nil
          exact brs_nil
        exact brs_nil
      refine brs_cons (o := ?_) ?_ ?_ ?_
      rotate_left
      · (conv => (lhs; whnf; arg 1; whnf))
      · refine stepB_c (by rfl) (fun K hK => ?_)
        go_simp
        have hb : Below q10.heap.size q10 (q10.alloc (.cells #[.int .i64 0] 3)) := (Below.refl _ _).alloc (Nat.le_refl _) _
        have d9_15 := Lib.hid (d9_10.out.below hb)
        have B_15 := Lib.hid (B_10.out.trans (hb.mono B_10.out.size))
        have R_15 := Lib.hid (hb.mono B_10.out.size)
        have d10_15 := Lib.hid (OneAt.new q10 (.int .i64 0) 3)
        have md10_15 : Hid (w1.heap.size ≤ q10.heap.size) := Lib.hid B_10.out.size
        have ned9d10_15 := Lib.hid (Nat.ne_of_lt d9_10.out.lt)
        clear hb
        generalize (q10.alloc (.cells #[.int .i64 0] 3)) = q15 at *
        refine hK _ _ R_15.out ?_
        clear hK R_15
        generalize q10.heap.size = bd10_15 at *
        clear d9_10 B_10
        try simp only [Act.put, List.setIfInBounds_toArray, List.set_cons_zero, List.set_cons_succ]
        refine anyR_branch [2] (by kernel_rfl) rfl ?_
        refine brs_cons (o := ?_) ?_ ?_ ?_
        rotate_left
        · (conv => (lhs; whnf; arg 1; whnf))
        · refine stepB_c (by rfl) (fun K hK => ?_)
          go_simp
          refine (bitLen_any t _ FTT.out).mono ?_
          rintro e q16 ⟨rfl, hb⟩
          have d9_16 := Lib.hid (d9_15.out.below hb)
          have d10_16 := Lib.hid (d10_15.out.below hb)
          have B_16 := Lib.hid (B_15.out.trans (hb.mono B_15.out.size))
          have R_16 := Lib.hid (hb.mono B_15.out.size)
          clear hb
          refine hK _ _ R_16.out ?_
          clear hK R_16
          clear d9_15 d10_15 B_15
          try simp only [Act.put, List.setIfInBounds_toArray, List.set_cons_zero, List.set_cons_succ]
          refine anyR_branch [5] (by kernel_rfl) rfl ?_
          refine brs_cons (o := ?_) ?_ ?_ ?_
          rotate_left
          · (conv => (lhs; whnf; arg 1; whnf))
          · refine stepB_c (by rfl) (fun K hK => ?_)
            refine wp_stN ntNat rfl rfl (m := x0) rfl d9_16.out ?_
            intro q17 hd hg
            have d9_17 := Lib.hid hd
            have d10_17 := Lib.hid (d10_16.out.grown hg (fun e => by injection e with e; exact ned9d10_15.out e.symm))
            have B_17 := Lib.hid (B_16.out.grown hg B_16.out.size (fun j e => by injection e with e; have := md9_10.out; omega))
            have R_17 : Hid (Below (w1.heap.size) q16 q17) := Lib.hid ((Below.refl _ _).grown hg B_16.out.size (fun j e => by injection e with e; have := md9_10.out; omega))
            clear hd hg
            refine hK _ _ R_17.out ?_
            clear hK R_17
            clear d9_16 d10_16 B_16
            try simp only [Act.put, List.setIfInBounds_toArray, List.set_cons_zero, List.set_cons_succ]
            refine anyR_branch [6] (by kernel_rfl) rfl ?_
            refine brs_cons (o := ?_) ?_ ?_ ?_
            rotate_left
            · (conv => (lhs; whnf; arg 1; whnf))
            · refine stepB_c (by rfl) (fun K hK => ?_)
              have hc := d10_17.out.cell; have hf := d10_17.out.frozen
              go_simp
              obtain ⟨hd, hg⟩ := d10_17.out.set (.int .i64 (bl t))
              generalize q17.setCell ⟨bd10_15, 0, none⟩ (.int .i64 (bl t)) = q18 at *
              clear hc hf
              have d10_18 := Lib.hid hd
              have d9_18 := Lib.hid (d9_17.out.grown hg (fun e => by injection e with e; exact ned9d10_15.out e))
              have B_18 := Lib.hid (B_17.out.grown hg B_17.out.size (fun j e => by injection e with e; have := md10_15.out; omega))
              have R_18 : Hid (Below (w1.heap.size) q17 q18) := Lib.hid ((Below.refl _ _).grown hg B_17.out.size (fun j e => by injection e with e; have := md10_15.out; omega))
              clear hd hg
              refine hK _ _ R_18.out ?_
              clear hK R_18
              clear d10_17 d9_17 B_17
              try simp only [Act.put, List.setIfInBounds_toArray, List.set_cons_zero, List.set_cons_succ]
              refine anyR_end (by kernel_rfl) ?_
              dsimp only [Exit.then]
              go_step
              go_meet
              exact ⟨_, _, rfl, rfl, fun e => ned9d10_15.out e, md9_10.out, md10_15.out, d9_18.out, d10_18.out, B_18.out⟩
            exact brs_nil
          exact brs_nil
        exact brs_nil
      exact brs_nil
    refine brs_cons (o := ?_) ?_ ?_ ?_
    rotate_left
    · (conv => (lhs; whnf; arg 1; whnf))
    · refine stepB_c (by rfl) (fun K hK => ?_)
      go_simp
      have hb : Below q0.heap.size q0 (q0.alloc (.cells #[.int .i64 0] 3)) := (Below.refl _ _).alloc (Nat.le_refl _) _
      have B_19 := Lib.hid (BX.out.trans (hb.mono BX.out.size))
      have R_19 := Lib.hid (hb.mono BX.out.size)
      have d10_19 := Lib.hid (OneAt.new q0 (.int .i64 0) 3)
      have md10_19 : Hid (w1.heap.size ≤ q0.heap.size) := Lib.hid BX.out.size
      clear hb
      generalize (q0.alloc (.cells #[.int .i64 0] 3)) = q19 at *
      refine hK _ _ R_19.out ?_
      clear hK R_19
      generalize q0.heap.size = bd10_19 at *
      try simp only [Act.put, List.setIfInBounds_toArray, List.set_cons_zero, List.set_cons_succ]
      refine anyR_branch [2, 3] (by kernel_rfl) rfl ?_
      refine brs_cons (o := ?_) ?_ ?_ ?_
      rotate_left
      · (conv => (lhs; whnf; arg 1; whnf))
      · refine stepB_c (by rfl) (fun K hK => ?_)
        go_simp
        refine (bitLen_any t _ FTT.out).mono ?_
        rintro e q20 ⟨rfl, hb⟩
        have d10_20 := Lib.hid (d10_19.out.below hb)
        have B_20 := Lib.hid (B_19.out.trans (hb.mono B_19.out.size))
        have R_20 := Lib.hid (hb.mono B_19.out.size)
        clear hb
        refine hK _ _ R_20.out ?_
        clear hK R_20
        clear d10_19 B_19
        try simp only [Act.put, List.setIfInBounds_toArray, List.set_cons_zero, List.set_cons_succ]
        refine anyR_branch [3] (by kernel_rfl) rfl ?_
        refine brs_cons (o := ?_) ?_ ?_ ?_
        rotate_left
        · (conv => (lhs; whnf; arg 1; whnf))
        · refine stepB_c (by rfl) (fun K hK => ?_)
          go_simp
          have hb : Below q20.heap.size q20 (q20.alloc (.cells z0 37)) := (Below.refl _ _).alloc (Nat.le_refl _) _
          have d10_21 := Lib.hid (d10_20.out.below hb)
          have B_21 := Lib.hid (B_20.out.trans (hb.mono B_20.out.size))
          have R_21 := Lib.hid (hb.mono B_20.out.size)
          have d9_21 := Lib.hid (NatAt.zero q20)
          have md9_21 : Hid (w1.heap.size ≤ q20.heap.size) := Lib.hid B_20.out.size
          have ned10d9_21 := Lib.hid (Nat.ne_of_lt d10_20.out.lt)
          clear hb
          generalize (q20.alloc (.cells z0 37)) = q21 at *
          refine hK _ _ R_21.out ?_
          clear hK R_21
          generalize q20.heap.size = bd9_21 at *
          clear d10_20 B_20
          try simp only [Act.put, List.setIfInBounds_toArray, List.set_cons_zero, List.set_cons_succ]
          refine anyR_branch [5] (by kernel_rfl) rfl ?_
          refine brs_cons (o := ?_) ?_ ?_ ?_
          rotate_left
          · (conv => (lhs; whnf; arg 1; whnf))
          · refine stepB_c (by rfl) (fun K hK => ?_)
            refine wp_stN ntNat rfl rfl (m := x0) rfl d9_21.out ?_
            intro q22 hd hg
            have d9_22 := Lib.hid hd
            have d10_22 := Lib.hid (d10_21.out.grown hg (fun e => by injection e with e; exact ned10d9_21.out e))
            have B_22 := Lib.hid (B_21.out.grown hg B_21.out.size (fun j e => by injection e with e; have := md9_21.out; omega))
            have R_22 : Hid (Below (w1.heap.size) q21 q22) := Lib.hid ((Below.refl _ _).grown hg B_21.out.size (fun j e => by injection e with e; have := md9_21.out; omega))
            clear hd hg
            refine hK _ _ R_22.out ?_
            clear hK R_22
            clear d9_21 d10_21 B_21
            try simp only [Act.put, List.setIfInBounds_toArray, List.set_cons_zero, List.set_cons_succ]
            refine anyR_branch [6] (by kernel_rfl) rfl ?_
            refine brs_cons (o := ?_) ?_ ?_ ?_
            rotate_left
            · (conv => (lhs; whnf; arg 1; whnf))
            · refine stepB_c (by rfl) (fun K hK => ?_)
              have hc := d10_22.out.cell; have hf := d10_22.out.frozen
              go_simp
              obtain ⟨hd, hg⟩ := d10_22.out.set (.int .i64 (bl t))
              generalize q22.setCell ⟨bd10_19, 0, none⟩ (.int .i64 (bl t)) = q23 at *
              clear hc hf
              have d10_23 := Lib.hid hd
              have d9_23 := Lib.hid (d9_22.out.grown hg (fun e => by injection e with e; exact ned10d9_21.out e.symm))
              have B_23 := Lib.hid (B_22.out.grown hg B_22.out.size (fun j e => by injection e with e; have := md10_19.out; omega))
              have R_23 : Hid (Below (w1.heap.size) q22 q23) := Lib.hid ((Below.refl _ _).grown hg B_22.out.size (fun j e => by injection e with e; have := md10_19.out; omega))
              clear hd hg
              refine hK _ _ R_23.out ?_
              clear hK R_23
              clear d10_22 d9_22 B_22
              try simp only [Act.put, List.setIfInBounds_toArray, List.set_cons_zero, List.set_cons_succ]
              refine anyR_end (by kernel_rfl) ?_
              dsimp only [Exit.then]
              go_step
              go_meet
              exact ⟨_, _, rfl, rfl, fun e => ned10d9_21.out e.symm, md9_21.out, md10_19.out, d9_23.out, d10_23.out, B_23.out⟩
            exact brs_nil
          exact brs_nil
        exact brs_nil
      refine brs_cons (o := ?_) ?_ ?_ ?_
      rotate_left
      · (conv => (lhs; whnf; arg 1; whnf))
      · refine stepB_c (by rfl) (fun K hK => ?_)
        go_simp
        have hb : Below q19.heap.size q19 (q19.alloc (.cells z0 37)) := (Below.refl _ _).alloc (Nat.le_refl _) _
        have d10_24 := Lib.hid (d10_19.out.below hb)
        have B_24 := Lib.hid (B_19.out.trans (hb.mono B_19.out.size))
        have R_24 := Lib.hid (hb.mono B_19.out.size)
        have d9_24 := Lib.hid (NatAt.zero q19)
        have md9_24 : Hid (w1.heap.size ≤ q19.heap.size) := Lib.hid B_19.out.size
        have ned10d9_24 := Lib.hid (Nat.ne_of_lt d10_19.out.lt)
        clear hb
        generalize (q19.alloc (.cells z0 37)) = q24 at *
        refine hK _ _ R_24.out ?_
        clear hK R_24
        generalize q19.heap.size = bd9_24 at *
        clear d10_19 B_19
        try simp only [Act.put, List.setIfInBounds_toArray, List.set_cons_zero, List.set_cons_succ]
        refine anyR_branch [2] (by kernel_rfl) rfl ?_
        refine brs_cons (o := ?_) ?_ ?_ ?_
        rotate_left
        · (conv => (lhs; whnf; arg 1; whnf))
        · refine stepB_c (by rfl) (fun K hK => ?_)
          go_simp
          refine (bitLen_any t _ FTT.out).mono ?_
          rintro e q25 ⟨rfl, hb⟩
          have d10_25 := Lib.hid (d10_24.out.below hb)
          have d9_25 := Lib.hid (d9_24.out.below hb)
          have B_25 := Lib.hid (B_24.out.trans (hb.mono B_24.out.size))
          have R_25 := Lib.hid (hb.mono B_24.out.size)
          clear hb
          refine hK _ _ R_25.out ?_
          clear hK R_25
          clear d10_24 d9_24 B_24
          try simp only [Act.put, List.setIfInBounds_toArray, List.set_cons_zero, List.set_cons_succ]
          refine anyR_branch [5] (by kernel_rfl) rfl ?_
          refine brs_cons (o := ?_) ?_ ?_ ?_
          rotate_left
          · (conv => (lhs; whnf; arg 1; whnf))
          · refine stepB_c (by rfl) (fun K hK => ?_)
            refine wp_stN ntNat rfl rfl (m := x0) rfl d9_25.out ?_
            intro q26 hd hg
            have d9_26 := Lib.hid hd
            have d10_26 := Lib.hid (d10_25.out.grown hg (fun e => by injection e with e; exact ned10d9_24.out e))
            have B_26 := Lib.hid (B_25.out.grown hg B_25.out.size (fun j e => by injection e with e; have := md9_24.out; omega))
            have R_26 : Hid (Below (w1.heap.size) q25 q26) := Lib.hid ((Below.refl _ _).grown hg B_25.out.size (fun j e => by injection e with e; have := md9_24.out; omega))
            clear hd hg
            refine hK _ _ R_26.out ?_
            clear hK R_26
            clear d9_25 d10_25 B_25
            try simp only [Act.put, List.setIfInBounds_toArray, List.set_cons_zero, List.set_cons_succ]
            refine anyR_branch [6] (by kernel_rfl) rfl ?_
            refine brs_cons (o := ?_) ?_ ?_ ?_
            rotate_left
            · (conv => (lhs; whnf; arg 1; whnf))
            · refine stepB_c (by rfl) (fun K hK => ?_)
              have hc := d10_26.out.cell; have hf := d10_26.out.frozen
              go_simp
              obtain ⟨hd, hg⟩ := d10_26.out.set (.int .i64 (bl t))
              generalize q26.setCell ⟨bd10_19, 0, none⟩ (.int .i64 (bl t)) = q27 at *
              clear hc hf
              have d10_27 := Lib.hid hd
              have d9_27 := Lib.hid (d9_26.out.grown hg (fun e => by injection e with e; exact ned10d9_24.out e.symm))
              have B_27 := Lib.hid (B_26.out.grown hg B_26.out.size (fun j e => by injection e with e; have := md10_19.out; omega))
              have R_27 : Hid (Below (w1.heap.size) q26 q27) := Lib.hid ((Below.refl _ _).grown hg B_26.out.size (fun j e => by injection e with e; have := md10_19.out; omega))
              clear hd hg
              refine hK _ _ R_27.out ?_
              clear hK R_27
              clear d10_26 d9_26 B_26
              try simp only [Act.put, List.setIfInBounds_toArray, List.set_cons_zero, List.set_cons_succ]
              refine anyR_end (by kernel_rfl) ?_
              dsimp only [Exit.then]
              go_step
              go_meet
              exact ⟨_, _, rfl, rfl, fun e => ned10d9_24.out e.symm, md9_24.out, md10_19.out, d9_27.out, d10_27.out, B_27.out⟩
            exact brs_nil
          exact brs_nil
        exact brs_nil
      exact brs_nil
    exact brs_nil
  case rest =>
    obtain ⟨B9, B10, rfl, rfl, hne, hm9, hm10, h9, h10, hB⟩ := hcut
    have hnew := OneAt.new wc .nilFunc 83
    have hc11 := hnew.cell
    have hf11 := hnew.frozen
    have HXc := Lib.hid ((HX.out.below hB).alloc (.cells #[(.func (.func 66) #[] #[.pointer (some ⟨w.heap.size + 1 + 1 + 1, 0, none⟩), .pointer (some ⟨B9, 0, none⟩)])] 83))
    have HTc := Lib.hid ((HT.out.below hB).alloc (.cells #[(.func (.func 66) #[] #[.pointer (some ⟨w.heap.size + 1 + 1 + 1, 0, none⟩), .pointer (some ⟨B9, 0, none⟩)])] 83))
    have HFc := Lib.hid ((HFC.out.below hB).alloc (.cells #[(.func (.func 66) #[] #[.pointer (some ⟨w.heap.size + 1 + 1 + 1, 0, none⟩), .pointer (some ⟨B9, 0, none⟩)])] 83))
    have HRc := Lib.hid ((HR.out.below hB).alloc (.cells #[(.func (.func 66) #[] #[.pointer (some ⟨w.heap.size + 1 + 1 + 1, 0, none⟩), .pointer (some ⟨B9, 0, none⟩)])] 83))
    have HBc := Lib.hid (HW.out.trans (hB.mono HW.out.size))
    have HWc := Lib.hid (HBc.out.alloc HBc.out.size (.cells #[(.func (.func 66) #[] #[.pointer (some ⟨w.heap.size + 1 + 1 + 1, 0, none⟩), .pointer (some ⟨B9, 0, none⟩)])] 83))
    have H9c := Lib.hid (h9.alloc (.cells #[(.func (.func 66) #[] #[.pointer (some ⟨w.heap.size + 1 + 1 + 1, 0, none⟩), .pointer (some ⟨B9, 0, none⟩)])] 83))
    have H10c := Lib.hid (h10.alloc (.cells #[(.func (.func 66) #[] #[.pointer (some ⟨w.heap.size + 1 + 1 + 1, 0, none⟩), .pointer (some ⟨B9, 0, none⟩)])] 83))
    have H11c := Lib.hid (OneAt.new wc (.func (.func 66) #[] #[.pointer (some ⟨w.heap.size + 1 + 1 + 1, 0, none⟩), .pointer (some ⟨B9, 0, none⟩)]) 83)
    have L9 := Lib.hid h9.lt
    have L10 := Lib.hid h10.lt
    have N910 := Lib.hid hne
    have M9 : Hid (w.heap.size + 4 < B9) := Lib.hid (by have := HZ.out; omega)
    have M10 : Hid (w.heap.size + 4 < B10) := Lib.hid (by have := HZ.out; omega)
    clear hne hm9 hm10 h9 h10 hB HX HT HNN HFC HR HW HBc HZ hnew
    go_wp2_with (first | (refine wpl_ldN ntNat rfl rfl rfl HTc.out ?_))
    clear hc11 hf11
    generalize wc.alloc (.cells #[(.func (.func 66) #[] #[.pointer (some ⟨w.heap.size + 1 + 1 + 1, 0, none⟩), .pointer (some ⟨B9, 0, none⟩)])] 83) = w5 at HXc HTc HFc HRc HWc H9c H10c H11c ⊢
    refine (ones_any t _).mono ?_
    rintro e w6 ⟨rfl, hb6, hn6⟩
    have HX6 := Lib.hid (HXc.out.below hb6)
    have HF6 := Lib.hid (HFc.out.below hb6)
    have HR6 := Lib.hid (HRc.out.below hb6)
    have HW6 : Hid (Below w.heap.size w w6) := Lib.hid (HWc.out.trans (hb6.mono HWc.out.size))
    have H96 := Lib.hid (H9c.out.below hb6)
    have H106 := Lib.hid (H10c.out.below hb6)
    have H116 := Lib.hid (H11c.out.below hb6)
    have L11 := Lib.hid H11c.out.lt
    have HN6 := Lib.hid hn6
    have HSZ6 := Lib.hid hn6.lt
    clear hb6 hn6 HXc HTc HFc HRc HWc H9c H10c H11c
    go_wp2_with fail
    generalize wc.heap.size = B11 at *
    generalize w5.heap.size = Bn at *
    refine (wpIn_wide (n := 8)).1 ?_
    refine wpIn_rangeFunc_own1 (F := Fence.wide) (q := 19) (k := 12) (enc := fun x : Bits t => .int .i64 (x.1 : Int)) rfl (by decide) (gf := 80) (lb := #[.pointer (some ⟨Bn, 0, none⟩)]) rfl trivial (enters_of Try.func80 (by kernel_rfl) rfl)
      (ones1_stops t 7 Bn w6 FTT.out HN6.out) KeepB.trans (keepB_put HSZ6.out) (Below.refl _ _)
      (fun pre W => (NatAt W B9 (g (repS (bl t) (pre.map (·.1))).1) ∧ OneAt W B10 (.int .i64 ((repS (bl t) (pre.map (·.1))).2 : Nat)) ∧ NatAt W w.heap.size x1 ∧ OneAt W (w.heap.size + 1 + 1 + 1) (.func (.func K) #[.agg (natA m)] #[]) ∧ OneAt W B11 (.func (.func 66) #[] #[.pointer (some ⟨w.heap.size + 1 + 1 + 1, 0, none⟩), .pointer (some ⟨B9, 0, none⟩)]) ∧ NatAt W (w.heap.size + 1 + 1 + 1 + 1) 0 ∧ NatAt W Bn t) ∧ Below w.heap.size w W)
      (fun _ _ _ => False)
      (OwnFrom.and (Own.from (fun s A B row hs hg hr => ⟨hs.1.own hg hr, hs.2.1.own hg hr, hs.2.2.1.own hg hr, hs.2.2.2.1.own hg hr, hs.2.2.2.2.1.own hg hr, hs.2.2.2.2.2.1.own hg hr, hs.2.2.2.2.2.2.own hg hr⟩) _) (ownFrom_below (Nat.le_refl _) HW6.out.size))
      (fun _ _ _ _ _ hs _ _ => hs)
      ⟨⟨by rw [List.map_nil, repS_nil, ← HX0.out]; exact H96.out, H106.out, HX6.out, HF6.out, H116.out, HR6.out, HN6.out⟩, HW6.out⟩ ?assign ?body ?done ?stop
    case assign =>
      intro l x W K hK
      simp only [List.setIfInBounds_toArray, List.set_cons_zero, List.set_cons_succ] at hK ⊢
      gi_wp2
      exact hK
    case stop =>
      rintro D c pre W _ _ h _
      exact h.elim
    case body =>
      rintro l pre ⟨i, hib, hbit⟩ W ⟨⟨h9, h10, hX, hFc, h11, hR, hN⟩, hB⟩ _
      simp only [List.setIfInBounds_toArray, List.set_cons_zero, List.set_cons_succ]
      have hpre : Hid ((pre ++ [(⟨i, hib, hbit⟩ : Bits t)]).map (·.1) = pre.map (·.1) ++ [i]) := Lib.hid (by simp)
      generalize pre ++ [(⟨i, hib, hbit⟩ : Bits t)] = pre2 at *
      have hl := rep_last (bl t) (pre.map (·.1)) (fun x hx => by obtain ⟨y, _, rfl⟩ := List.mem_map.1 hx; exact Nat.le_of_lt y.2.1)
      generalize hS : repS (bl t) (pre.map (·.1)) = S at *
      obtain ⟨j, last⟩ := S
      dsimp only at h9 h10 hl
      have hS1 : (repS (bl t) (pre2.map (·.1))) = (j * 2 ^ (last - i) + 1, i) := by rw [hpre.out, repS_snoc, hS]
      have HS1 := Lib.hid hS1
      obtain ⟨z, hz⟩ : ∃ z : Int, z = (last : Int) - (i : Int) := ⟨_, rfl⟩
      have hw1 : IntKind.i64.wrap ((last : Int) - (i : Int)) = z := by have := HBL.out; rw [IntKind.wrap_i64]; omega
      have hz1 : z ≤ 1024 := by have := HBL.out; omega
      have hz2 : z.toNat = last - i := by omega
      have HZ1 := Lib.hid hz1
      have HZ2 := Lib.hid hz2
      have h9F : Hid (w.heap.size + 1 + 1 + 1 ≠ B9) := Lib.hid (by have := M9.out; omega)
      have N9 := Lib.hid h9
      have N10 := Lib.hid h10
      have NX := Lib.hid hX
      have NF := Lib.hid hFc
      have N11 := Lib.hid h11
      have NR := Lib.hid hR
      have NN := Lib.hid hN
      have NB := Lib.hid hB
      have c11 := h11.cell
      have c10 := h10.cell
      have hj2 : (2 : Nat) ≤ 8 - 1 - 1 := by decide
      clear h9 h10 hX hFc h11 hR hN hB hib hbit hl hS hpre hS1 hz hz1 hz2
      gi_wp2
      clear c11 c10
      refine ⟨trivial, (CallsIn.inRound l (callsIn_wide.2 (twice_int K HEE.out m g HF.out z (last - i) j (w.heap.size + 1 + 1 + 1) B9 W HZ1.out HZ2.out NF.out N9.out h9F.out))).mono ?_⟩
      rintro e W2 ⟨⟨v2, rfl⟩, hn2, hg2⟩
      have P9 := Lib.hid hn2
      have PG := Lib.hid hg2
      have P10 := Lib.hid (N10.out.grown hg2 (fun e => by injection e with e; exact N910.out e.symm))
      have PX := Lib.hid (NX.out.grown hg2 (fun e => by injection e with e; have := M9.out; omega))
      have PF := Lib.hid (NF.out.grown hg2 (fun e => by injection e with e; exact h9F.out e))
      have P11 := Lib.hid (N11.out.grown hg2 (fun e => by injection e with e; have := L9.out; omega))
      have PR := Lib.hid (NR.out.grown hg2 (fun e => by injection e with e; have := M9.out; omega))
      have PN := Lib.hid (NN.out.grown hg2 (fun e => by injection e with e; have := L9.out; have := L11.out; omega))
      have K2 : Hid (KeepsOthers W W2 ∧ KeepB Bn W W2) := Lib.hid ⟨keeps_of_nat hg2 N9.out, KeepB.grown hg2 NN.out.lt (fun e => by injection e with e; have := L9.out; have := L11.out; omega)⟩
      have PB := Lib.hid (NB.out.grown hg2 NB.out.size (fun k e => by injection e with e; have := M9.out; omega))
      have hE := HEE.out
      have cF := PF.out.cell
      clear hn2 hg2 NF N10 NX N11 NR NB N9 NN PG
      gi_wp2_with (first | (refine wplIn_ldN ntNat rfl rfl rfl P9.out ?_) | (refine wplIn_ldN ntNat rfl rfl rfl PX.out ?_))
      clear hE cF
      rw [HX1.out]
      refine ⟨trivial, (CallsIn.inRound l (callsIn_wide.2 (HF.out (j * 2 ^ (last - i)) 1 W2))).mono ?_⟩
      rintro e W3 ⟨rfl, hb3⟩
      have Q9 := Lib.hid (P9.out.below hb3)
      have Q10 := Lib.hid (P10.out.below hb3)
      have QX := Lib.hid (PX.out.below hb3)
      have QF := Lib.hid (PF.out.below hb3)
      have Q11 := Lib.hid (P11.out.below hb3)
      have QR := Lib.hid (PR.out.below hb3)
      have QB := Lib.hid (PB.out.trans (hb3.mono PB.out.size))
      have QN := Lib.hid (PN.out.below hb3)
      have K3 : Hid (KeepsOthers W W3 ∧ KeepB Bn W W3) := Lib.hid ⟨K2.out.1.trans (keeps_of_below hb3), K2.out.2.trans (KeepB.grown (grown_of_below hb3) PN.out.lt (fun e => by cases e))⟩
      clear hb3 P10 PX PF P11 PR PB P9 PN K2
      gi_wp2_with (first | (refine wplIn_stN ntNat rfl rfl rfl rfl Q9.out ?_; intro W4 hn4 hg4; have R9 := Lib.hid hn4; have R10 := Lib.hid (Q10.out.grown hg4 (fun e => by injection e with e; exact N910.out e.symm)); have RX := Lib.hid (QX.out.grown hg4 (fun e => by injection e with e; have := M9.out; omega)); have RF := Lib.hid (QF.out.grown hg4 (fun e => by injection e with e; exact h9F.out e)); have R11 := Lib.hid (Q11.out.grown hg4 (fun e => by injection e with e; have := L9.out; omega)); have RR := Lib.hid (QR.out.grown hg4 (fun e => by injection e with e; have := M9.out; omega)); have RN := Lib.hid (QN.out.grown hg4 (fun e => by injection e with e; have := L9.out; have := L11.out; omega)); have RB := Lib.hid (QB.out.grown hg4 QB.out.size (fun k e => by injection e with e; have := M9.out; omega)); have K4 : Hid (KeepsOthers W W4 ∧ KeepB Bn W W4) := Lib.hid ⟨K3.out.1.trans (keeps_of_nat hg4 Q9.out), K3.out.2.trans (KeepB.grown hg4 QN.out.lt (fun e => by injection e with e; have := L9.out; have := L11.out; omega))⟩; have c10 := R10.out.cell; have f10 := R10.out.frozen; clear hn4 hg4 Q9 Q10 QX QF Q11 QR QN QB K3))
      obtain ⟨hs10, hg10⟩ := R10.out.set (.int .i64 (i : Int))
      have nn : ∀ b, b ≠ B10 → some b ≠ some B10 := fun b hb e => by injection e with e; exact hb e
      refine ⟨K4.out.1.trans (KeepsOthers.setCell _ _ _), K4.out.2.trans (KeepB.grown hg10 RN.out.lt (fun e => by injection e with e; have := L10.out; have := L11.out; omega)), ⟨?_, ?_, RX.out.grown hg10 (nn _ (by have := M10.out; omega)), RF.out.grown hg10 (nn _ (by have := M10.out; omega)), R11.out.grown hg10 (nn _ (by have := L10.out; omega)), RR.out.grown hg10 (nn _ (by have := M10.out; omega)), RN.out.grown hg10 (nn _ (by have := L10.out; have := L11.out; omega))⟩, RB.out.grown hg10 RB.out.size (fun k e => by injection e with e; have := M10.out; omega)⟩
      · rw [HS1.out]; exact R9.out.grown hg10 (nn _ N910.out)
      · rw [HS1.out]; exact hs10
    case done =>
      rintro D ys W hD hS ⟨⟨h9, h10, hX, hFc, h11, hR, hN⟩, hB⟩ hK
      have hall := rep_all t
      rw [← hS] at hall
      have hl := rep_last (bl t) (ys.map (·.1)) (fun x hx => by obtain ⟨y, _, rfl⟩ := List.mem_map.1 hx; exact Nat.le_of_lt y.2.1)
      generalize repS (bl t) (ys.map (·.1)) = S at *
      obtain ⟨j, last⟩ := S
      dsimp only at h9 h10 hl hall
      have HAL := Lib.hid hall
      have hz1 : (last : Int) ≤ 1024 := by have := HBL.out; omega
      have HZ1 := Lib.hid hz1
      have h9F : Hid (w.heap.size + 1 + 1 + 1 ≠ B9) := Lib.hid (by have := M9.out; omega)
      have N9 := Lib.hid h9
      have NF := Lib.hid hFc
      have NR := Lib.hid hR
      have NB := Lib.hid hB
      have HK := Lib.hid hK
      have HDL : Hid (Bn < D) := Lib.hid (by have := HSZ6.out; omega)
      have c11 := h11.cell
      have c10 := h10.cell
      clear h9 h10 hX hFc h11 hR hN hB hl hS hall hz1 hK hD
      go_wp2_with fail
      clear c11 c10
      refine (twice_any K HEE.out m g HF.out last j (w.heap.size + 1 + 1 + 1) B9 W HZ1.out NF.out N9.out h9F.out).mono ?_
      rintro e W2 ⟨⟨v2, rfl⟩, hn2, hg2⟩
      rw [HAL.out] at hn2
      have P9 := Lib.hid hn2
      have PR := Lib.hid (NR.out.grown hg2 (fun e => by injection e with e; have := M9.out; omega))
      have PB := Lib.hid (NB.out.grown hg2 NB.out.size (fun k e => by injection e with e; have := M9.out; omega))
      have HK2 : Hid (W2.heap[D]? = some (.deferred (some []))) := Lib.hid ((hg2.block D (Array.getElem?_eq_some_iff.1 HK.out).1 (fun e => by injection e with e; have := HDL.out; have := L9.out; have := L11.out; omega)).trans HK.out)
      clear hn2 hg2 NF NR NB N9 HK
      go_wp2_with (first | (refine wpl_ldN ntNat rfl rfl rfl P9.out ?_) | (refine wpl_stN ntNat rfl rfl rfl rfl PR.out ?_; intro w9 hn9 hg9; have HN9 := Lib.hid hn9; have HG9 := Lib.hid hg9; clear hn9 hg9))
      have HDR : Hid (w.heap.size + 1 + 1 + 1 + 1 < D) := Lib.hid (by have := HDL.out; have := L9.out; have := L11.out; have := M9.out; omega)
      have hK9 : w9.heap[D]? = some (.deferred (some [])) := (HG9.out.block D (Array.getElem?_eq_some_iff.1 HK2.out).1 (fun e => by injection e with e; have := HDR.out; omega)).trans HK2.out
      have hgp := grownBy_putObj' w9 D (.deferred none)
      refine ⟨by simp, .inl ⟨_, _, rfl, run_takeDeferred hK9, ?_⟩⟩
      refine ⟨_, results_one rfl _ _ rfl (HN9.out.grown hgp (fun e => by injection e with e; have := HDR.out; omega)), rfl, ?_⟩
      exact (PB.out.grown HG9.out PB.out.size (fun j e => by injection e with e; omega)).grown hgp (Nat.le_trans PB.out.size HG9.out.size) (fun j e => by injection e with e; have := HDR.out; omega)

end Go.Proofs.Ytfmadiepefbepaa
