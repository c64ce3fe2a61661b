/- Walk: Inverse (printed by genmodj.py). -/
import Derived.Test.YtfmadiepefbepaaModI
import Derived.Test.YtfmadiepefbepaaDrawU
set_option linter.unusedVariables false
set_option linter.unusedSimpArgs false
set_option maxRecDepth 20000
namespace Go.Proofs.Ytfmadiepefbepaa
open Go.RowKit

/-- The remainders with their factors, modulo m; as many rounds as s has ones. -/
def invF (m : Nat) : Nat → Nat → Nat → Nat → Nat → Nat × Nat
  | 0, r, _, x, _ => (r, x)
  | f + 1, r, s, x, y => if s = 0 then (r, x) else invF m f s (r % s) y ((x + m - (r / s % m) * y % m) % m)
theorem invF_zero (m f r x y : Nat) : invF m f r 0 x y = (r, x) := by cases f <;> rfl
theorem small_fit' {n : Nat} (h : (n : Int) ≤ 9223372036854775807) : Fit n := fit_int h
def RetI (w : World) (r x : Nat) (e : Ending) (w' : World) : Prop := e = .returned (.tuple #[.agg (natA (if r = 1 then x else 0)), .int .i64 (if r = 1 then 0 else 9)]) ∧ Below w.heap.size w w'
def invS (m a : Nat) : Nat × Nat := invF m (a % m) m (a % m) 0 (1 % m)
theorem invF_step {m f r s x y : Nat} (h : s ≠ 0) : invF m (f + 1) r s x y = invF m f s (r % s) y ((x + m - (r / s % m) * y % m) % m) := by
  rw [invF, if_neg h]
theorem NatAt.zeroT (w : World) (T : TypeId) : NatAt (w.alloc (.cells z0 T)) w.heap.size 0 := by
  have h := NatAt.new w 0 T
  rwa [natA_zero] at h
theorem exec_bn {o : Oper} {ρ : Operand → Value} {W : World} (ho : o.op = .build 37 #[]) : (execOp ρ o).run Try.prog W = .ok (.value (.agg (natA 0))) W := by
  unfold execOp
  simp only [ho, Sem.run_bind, Sem.run_pure, Result.andThen_ok, List.map_toArray, List.map_nil, run_bn]

set_option maxHeartbeats 12800000 in
theorem inverse_main {m a r x : Nat} (w : World) (hm : Fit m) (h0 : m ≠ 0) (ha : Fit a) (hr : invS m a = (r, x)) :
    Calls Try.prog 27 #[.agg (natA a), .agg (natA m)] w (RetI w r x) := by
  have FM := Lib.hid hm
  have F0 := Lib.hid h0
  have FA := Lib.hid ha
  have FR := Lib.hid hr
  have FZ : Hid (decide (m = 0) = false) := Lib.hid (decide_eq_false h0)
  obtain ⟨u, hu⟩ : ∃ u, a % m = u := ⟨_, rfl⟩
  obtain ⟨v, hv⟩ : ∃ v, 1 % m = v := ⟨_, rfl⟩
  have FU := Lib.hid hu
  have FV := Lib.hid hv
  clear hm h0 ha hr hu hv
  have HA : Hid (NatAt (((w.alloc (.cells (natA a) 37)).alloc (.cells (natA m) 37)).alloc (.cells z0 37)) (w.heap.size) (a)) := Lib.hid (by
    have h := NatAt.new w (a) 37
    replace h := h.alloc (.cells (natA m) 37)
    replace h := h.alloc (.cells z0 37)
    simpa using h)
  have HM : Hid (NatAt (((w.alloc (.cells (natA a) 37)).alloc (.cells (natA m) 37)).alloc (.cells z0 37)) (w.heap.size + 1) (m)) := Lib.hid (by
    have h := NatAt.new (w.alloc (.cells (natA a) 37)) (m) 37
    replace h := h.alloc (.cells z0 37)
    simpa using h)
  have HR : Hid (NatAt (((w.alloc (.cells (natA a) 37)).alloc (.cells (natA m) 37)).alloc (.cells z0 37)) (w.heap.size + 1 + 1) (0)) := Lib.hid (by
    have h := NatAt.new ((w.alloc (.cells (natA a) 37)).alloc (.cells (natA m) 37)) (0) 37
    rw [natA_zero] at h
    simpa using h)
  have HW : Hid (Below w.heap.size w (((w.alloc (.cells (natA a) 37)).alloc (.cells (natA m) 37)).alloc (.cells z0 37))) := Lib.hid (by
    have h := Below.refl w.heap.size w
    replace h := h.alloc h.size (.cells (natA a) 37)
    replace h := h.alloc h.size (.cells (natA m) 37)
    replace h := h.alloc h.size (.cells z0 37)
    exact h)
  go_enter Try.func27, Try.ntmps27
  go_wp2_with (first | go_skip | (refine wpl_ldN ntNat rfl rfl rfl HA.out ?_) | (refine wpl_ldN_g ntNat ?hw rfl rfl HA.out ?_; (case hw => rfl)) | (refine wpl_ldN ntNat rfl rfl rfl HM.out ?_) | (refine wpl_ldN_g ntNat ?hw rfl rfl HM.out ?_; (case hw => rfl)) | (refine wpl_ldN ntNat rfl rfl rfl HR.out ?_) | (refine wpl_ldN_g ntNat ?hw rfl rfl HR.out ?_; (case hw => rfl)))
  refine (isZero_ok _ FM.out FZ.out).mono ?_
  rintro e p1 ⟨rfl, hb⟩
  have A_1 := Lib.hid (HA.out.below hb)
  have M_1 := Lib.hid (HM.out.below hb)
  have R_1 := Lib.hid (HR.out.below hb)
  have W_1 := Lib.hid (HW.out.trans (hb.mono HW.out.size))
  clear hb HA HM HR HW
  have A_a := Lib.hid (A_1.out.alloc (.cells z0 60))
  have M_a := Lib.hid (M_1.out.alloc (.cells z0 60))
  have R_a := Lib.hid (R_1.out.alloc (.cells z0 60))
  have W_a := Lib.hid (W_1.out.alloc W_1.out.size (.cells z0 60))
  have N_a := Lib.hid (NatAt.zeroT p1 60)
  have LA := Lib.hid R_1.out.lt
  have LB := Lib.hid W_1.out.size
  go_upto_region 4 with (first | go_skip | (refine wpl_stN ntMod rfl rfl rfl rfl N_a.out ?_; intro q hn hg; have A_b := Lib.hid (A_a.out.grown hg (fun e => by injection e with e; have := LA.out; omega)); have M_b := Lib.hid (M_a.out.grown hg (fun e => by injection e with e; have := LA.out; omega)); have R_b := Lib.hid (R_a.out.grown hg (fun e => by injection e with e; have := LA.out; omega)); have W_b := Lib.hid (W_a.out.grown hg W_a.out.size (fun j e => by injection e with e; rw [← e]; exact LB.out)); have N_b := Lib.hid hn; clear hn hg A_a M_a R_a N_a W_a) | (refine wpl_build_mod rfl rfl rfl ?_) | (refine wpl_ldN ntNat rfl rfl rfl M_1.out ?_))
  clear A_1 M_1 R_1 W_1
  generalize p1.heap.size = bN at *
  dsimp only [Act.put]
  go_cut [7, 8] (fun x y wx => ∃ B1 B2, x = .pointer (some ⟨B1, 0, none⟩) ∧ y = .pointer (some ⟨B2, 0, none⟩) ∧ B1 ≠ B2 ∧ q.heap.size ≤ B1 ∧ q.heap.size ≤ B2 ∧ NatAt wx B1 m ∧ NatAt wx B2 u ∧ Below q.heap.size q wx)
  case first =>
    have hRR : ∀ w9 : World, Below q.heap.size w9 w9 := fun _ => Below.refl _ _
    have hRT : ∀ x y z : World, Below q.heap.size x y → Below q.heap.size y z → Below q.heap.size x z := fun _ _ _ h1 h2 => h1.trans h2
    refine region_begin (fun x y => Below q.heap.size x y) 8 (by kernel_rfl) (by kernel_rfl) ?_
    have BX : Hid (Below q.heap.size q q.drew) := Lib.hid (Below.refl q.heap.size q).drew
    have LTM : Hid (w.heap.size + 1 < q.heap.size) := Lib.hid M_b.out.lt
    have YM : Hid (NatAt q.drew (w.heap.size + 1) m) := Lib.hid M_b.out.drew
    have LTN : Hid (bN < q.heap.size) := Lib.hid N_b.out.lt
    have YN : Hid (NatAt q.drew (bN) m) := Lib.hid N_b.out.drew
    have LTA : Hid (w.heap.size < q.heap.size) := Lib.hid A_b.out.lt
    have YA : Hid (NatAt q.drew (w.heap.size) a) := Lib.hid A_b.out.drew
    generalize q.drew = q0 at BX YM YN YA ⊢
    refine anyR_at (o := ?_) (i := 0) ?_ ?_
    rotate_left
    · (conv => (lhs; whnf; arg 1; whnf))
    refine anyR_y hRR hRT (by kernel_rfl) (v := ?_) (by kernel_rfl) (by rfl) (fun W hW => ?_) ?_
    rotate_left
    · (refine exec_ldN (x := .tmp 3) ntNat ?_ ?_ (natAt_below (N := q.heap.size) YM.out hW LTM.out)) <;> rfl
    try simp only [Act.put, List.setIfInBounds_toArray, List.set_cons_zero, List.set_cons_succ]
    refine anyR_at (o := ?_) (i := 1) ?_ ?_
    rotate_left
    · (conv => (lhs; whnf; arg 1; whnf))
    refine anyR_y hRR hRT (by kernel_rfl) (v := ?_) (by kernel_rfl) (by rfl) (fun W hW => ?_) ?_
    rotate_left
    · (refine exec_ldN (x := .tmp 6) ntMod ?_ ?_ (natAt_below (N := q.heap.size) YN.out hW LTN.out)) <;> rfl
    try simp only [Act.put, List.setIfInBounds_toArray, List.set_cons_zero, List.set_cons_succ]
    refine anyR_at (o := ?_) (i := 2) ?_ ?_
    rotate_left
    · (conv => (lhs; whnf; arg 1; whnf))
    refine anyR_y hRR hRT (by kernel_rfl) (v := ?_) (by kernel_rfl) (by rfl) (fun W hW => ?_) ?_
    rotate_left
    · (refine exec_ldN (x := .tmp 2) ntNat ?_ ?_ (natAt_below (N := q.heap.size) YA.out hW LTA.out)) <;> rfl
    try simp only [Act.put, List.setIfInBounds_toArray, List.set_cons_zero, List.set_cons_succ]
    refine anyR_branch [3, 4, 5] (by kernel_rfl) rfl ?_
    refine brs_cons (o := ?_) ?_ ?_ ?_
    rotate_left
    · (conv => (lhs; whnf; arg 1; whnf))
    · refine stepB_c (by rfl) (fun K hK => ?_)
      go_simp
      refine (residue_ok _ FM.out FA.out F0.out FU.out).mono ?_
      rintro e q1 ⟨rfl, hb⟩
      have B_1 := Lib.hid (BX.out.trans (hb.mono BX.out.size))
      have R_1 := Lib.hid (hb.mono BX.out.size)
      clear hb
      refine hK _ _ R_1.out ?_
      clear hK R_1
      try simp only [Act.put, List.setIfInBounds_toArray, List.set_cons_zero, List.set_cons_succ]
      refine anyR_branch [4, 5] (by kernel_rfl) rfl ?_
      refine brs_cons (o := ?_) ?_ ?_ ?_
      rotate_left
      · (conv => (lhs; whnf; arg 1; whnf))
      · refine stepB_c (by rfl) (fun K hK => ?_)
        go_simp
        have hb : Below q1.heap.size q1 (q1.alloc (.cells z0 37)) := (Below.refl _ _).alloc (Nat.le_refl _) _
        have B_2 := Lib.hid (B_1.out.trans (hb.mono B_1.out.size))
        have R_2 := Lib.hid (hb.mono B_1.out.size)
        have d7_2 := Lib.hid (NatAt.zero q1)
        have md7_2 : Hid (q.heap.size ≤ q1.heap.size) := Lib.hid B_1.out.size
        clear hb
        generalize (q1.alloc (.cells z0 37)) = q2 at *
        refine hK _ _ R_2.out ?_
        clear hK R_2
        generalize q1.heap.size = bd7_2 at *
        clear B_1
        try simp only [Act.put, List.setIfInBounds_toArray, List.set_cons_zero, List.set_cons_succ]
        refine anyR_branch [5] (by kernel_rfl) rfl ?_
        refine brs_cons (o := ?_) ?_ ?_ ?_
        rotate_left
        · (conv => (lhs; whnf; arg 1; whnf))
        · refine stepB_c (by rfl) (fun K hK => ?_)
          go_simp
          have hb : Below q2.heap.size q2 (q2.alloc (.cells z0 37)) := (Below.refl _ _).alloc (Nat.le_refl _) _
          have d7_3 := Lib.hid (d7_2.out.below hb)
          have B_3 := Lib.hid (B_2.out.trans (hb.mono B_2.out.size))
          have R_3 := Lib.hid (hb.mono B_2.out.size)
          have d8_3 := Lib.hid (NatAt.zero q2)
          have md8_3 : Hid (q.heap.size ≤ q2.heap.size) := Lib.hid B_2.out.size
          have ned7d8_3 := Lib.hid (Nat.ne_of_lt d7_2.out.lt)
          clear hb
          generalize (q2.alloc (.cells z0 37)) = q3 at *
          refine hK _ _ R_3.out ?_
          clear hK R_3
          generalize q2.heap.size = bd8_3 at *
          clear d7_2 B_2
          try simp only [Act.put, List.setIfInBounds_toArray, List.set_cons_zero, List.set_cons_succ]
          refine anyR_branch [6] (by kernel_rfl) rfl ?_
          refine brs_cons (o := ?_) ?_ ?_ ?_
          rotate_left
          · (conv => (lhs; whnf; arg 1; whnf))
          · refine stepB_c (by rfl) (fun K hK => ?_)
            refine wp_stN ntNat rfl rfl (m := m) rfl d7_3.out ?_
            intro q4 hd hg
            have d7_4 := Lib.hid hd
            have d8_4 := Lib.hid (d8_3.out.grown hg (fun e => by injection e with e; exact ned7d8_3.out e.symm))
            have B_4 := Lib.hid (B_3.out.grown hg B_3.out.size (fun j e => by injection e with e; have := md7_2.out; omega))
            have R_4 : Hid (Below (q.heap.size) q3 q4) := Lib.hid ((Below.refl _ _).grown hg B_3.out.size (fun j e => by injection e with e; have := md7_2.out; omega))
            clear hd hg
            refine hK _ _ R_4.out ?_
            clear hK R_4
            clear d7_3 d8_3 B_3
            try simp only [Act.put, List.setIfInBounds_toArray, List.set_cons_zero, List.set_cons_succ]
            refine anyR_branch [7] (by kernel_rfl) rfl ?_
            refine brs_cons (o := ?_) ?_ ?_ ?_
            rotate_left
            · (conv => (lhs; whnf; arg 1; whnf))
            · refine stepB_c (by rfl) (fun K hK => ?_)
              refine wp_stN ntNat rfl rfl (m := u) rfl d8_4.out ?_
              intro q5 hd hg
              have d8_5 := Lib.hid hd
              have d7_5 := Lib.hid (d7_4.out.grown hg (fun e => by injection e with e; exact ned7d8_3.out e))
              have B_5 := Lib.hid (B_4.out.grown hg B_4.out.size (fun j e => by injection e with e; have := md8_3.out; omega))
              have R_5 : Hid (Below (q.heap.size) q4 q5) := Lib.hid ((Below.refl _ _).grown hg B_4.out.size (fun j e => by injection e with e; have := md8_3.out; omega))
              clear hd hg
              refine hK _ _ R_5.out ?_
              clear hK R_5
              clear d8_4 d7_4 B_4
              try simp only [Act.put, List.setIfInBounds_toArray, List.set_cons_zero, List.set_cons_succ]
              refine anyR_end (by kernel_rfl) ?_
              dsimp only [Exit.then]
              go_step
              go_meet
              exact ⟨_, _, rfl, rfl, fun e => ned7d8_3.out e, md7_2.out, md8_3.out, d7_5.out, d8_5.out, B_5.out⟩
            exact brs_nil
          exact brs_nil
        exact brs_nil
      refine brs_cons (o := ?_) ?_ ?_ ?_
      rotate_left
      · (conv => (lhs; whnf; arg 1; whnf))
      · refine stepB_c (by rfl) (fun K hK => ?_)
        go_simp
        have hb : Below q1.heap.size q1 (q1.alloc (.cells z0 37)) := (Below.refl _ _).alloc (Nat.le_refl _) _
        have B_6 := Lib.hid (B_1.out.trans (hb.mono B_1.out.size))
        have R_6 := Lib.hid (hb.mono B_1.out.size)
        have d8_6 := Lib.hid (NatAt.zero q1)
        have md8_6 : Hid (q.heap.size ≤ q1.heap.size) := Lib.hid B_1.out.size
        clear hb
        generalize (q1.alloc (.cells z0 37)) = q6 at *
        refine hK _ _ R_6.out ?_
        clear hK R_6
        generalize q1.heap.size = bd8_6 at *
        clear B_1
        try simp only [Act.put, List.setIfInBounds_toArray, List.set_cons_zero, List.set_cons_succ]
        refine anyR_branch [4] (by kernel_rfl) rfl ?_
        refine brs_cons (o := ?_) ?_ ?_ ?_
        rotate_left
        · (conv => (lhs; whnf; arg 1; whnf))
        · refine stepB_c (by rfl) (fun K hK => ?_)
          go_simp
          have hb : Below q6.heap.size q6 (q6.alloc (.cells z0 37)) := (Below.refl _ _).alloc (Nat.le_refl _) _
          have d8_7 := Lib.hid (d8_6.out.below hb)
          have B_7 := Lib.hid (B_6.out.trans (hb.mono B_6.out.size))
          have R_7 := Lib.hid (hb.mono B_6.out.size)
          have d7_7 := Lib.hid (NatAt.zero q6)
          have md7_7 : Hid (q.heap.size ≤ q6.heap.size) := Lib.hid B_6.out.size
          have ned8d7_7 := Lib.hid (Nat.ne_of_lt d8_6.out.lt)
          clear hb
          generalize (q6.alloc (.cells z0 37)) = q7 at *
          refine hK _ _ R_7.out ?_
          clear hK R_7
          generalize q6.heap.size = bd7_7 at *
          clear d8_6 B_6
          try simp only [Act.put, List.setIfInBounds_toArray, List.set_cons_zero, List.set_cons_succ]
          refine anyR_branch [6] (by kernel_rfl) rfl ?_
          refine brs_cons (o := ?_) ?_ ?_ ?_
          rotate_left
          · (conv => (lhs; whnf; arg 1; whnf))
          · refine stepB_c (by rfl) (fun K hK => ?_)
            refine wp_stN ntNat rfl rfl (m := m) rfl d7_7.out ?_
            intro q8 hd hg
            have d7_8 := Lib.hid hd
            have d8_8 := Lib.hid (d8_7.out.grown hg (fun e => by injection e with e; exact ned8d7_7.out e))
            have B_8 := Lib.hid (B_7.out.grown hg B_7.out.size (fun j e => by injection e with e; have := md7_7.out; omega))
            have R_8 : Hid (Below (q.heap.size) q7 q8) := Lib.hid ((Below.refl _ _).grown hg B_7.out.size (fun j e => by injection e with e; have := md7_7.out; omega))
            clear hd hg
            refine hK _ _ R_8.out ?_
            clear hK R_8
            clear d7_7 d8_7 B_7
            try simp only [Act.put, List.setIfInBounds_toArray, List.set_cons_zero, List.set_cons_succ]
            refine anyR_branch [7] (by kernel_rfl) rfl ?_
            refine brs_cons (o := ?_) ?_ ?_ ?_
            rotate_left
            · (conv => (lhs; whnf; arg 1; whnf))
            · refine stepB_c (by rfl) (fun K hK => ?_)
              refine wp_stN ntNat rfl rfl (m := u) rfl d8_8.out ?_
              intro q9 hd hg
              have d8_9 := Lib.hid hd
              have d7_9 := Lib.hid (d7_8.out.grown hg (fun e => by injection e with e; exact ned8d7_7.out e.symm))
              have B_9 := Lib.hid (B_8.out.grown hg B_8.out.size (fun j e => by injection e with e; have := md8_6.out; omega))
              have R_9 : Hid (Below (q.heap.size) q8 q9) := Lib.hid ((Below.refl _ _).grown hg B_8.out.size (fun j e => by injection e with e; have := md8_6.out; omega))
              clear hd hg
              refine hK _ _ R_9.out ?_
              clear hK R_9
              clear d8_8 d7_8 B_8
              try simp only [Act.put, List.setIfInBounds_toArray, List.set_cons_zero, List.set_cons_succ]
              refine anyR_end (by kernel_rfl) ?_
              dsimp only [Exit.then]
              go_step
              go_meet
              exact ⟨_, _, rfl, rfl, fun e => ned8d7_7.out e.symm, md7_7.out, md8_6.out, d7_9.out, d8_9.out, B_9.out⟩
            exact brs_nil
          exact brs_nil
        exact brs_nil
      exact brs_nil
    refine brs_cons (o := ?_) ?_ ?_ ?_
    rotate_left
    · (conv => (lhs; whnf; arg 1; whnf))
    · refine stepB_c (by rfl) (fun K hK => ?_)
      go_simp
      have hb : Below q0.heap.size q0 (q0.alloc (.cells z0 37)) := (Below.refl _ _).alloc (Nat.le_refl _) _
      have B_10 := Lib.hid (BX.out.trans (hb.mono BX.out.size))
      have R_10 := Lib.hid (hb.mono BX.out.size)
      have d7_10 := Lib.hid (NatAt.zero q0)
      have md7_10 : Hid (q.heap.size ≤ q0.heap.size) := Lib.hid BX.out.size
      clear hb
      generalize (q0.alloc (.cells z0 37)) = q10 at *
      refine hK _ _ R_10.out ?_
      clear hK R_10
      generalize q0.heap.size = bd7_10 at *
      try simp only [Act.put, List.setIfInBounds_toArray, List.set_cons_zero, List.set_cons_succ]
      refine anyR_branch [3, 5] (by kernel_rfl) rfl ?_
      refine brs_cons (o := ?_) ?_ ?_ ?_
      rotate_left
      · (conv => (lhs; whnf; arg 1; whnf))
      · refine stepB_c (by rfl) (fun K hK => ?_)
        go_simp
        refine (residue_ok _ FM.out FA.out F0.out FU.out).mono ?_
        rintro e q11 ⟨rfl, hb⟩
        have d7_11 := Lib.hid (d7_10.out.below hb)
        have B_11 := Lib.hid (B_10.out.trans (hb.mono B_10.out.size))
        have R_11 := Lib.hid (hb.mono B_10.out.size)
        clear hb
        refine hK _ _ R_11.out ?_
        clear hK R_11
        clear d7_10 B_10
        try simp only [Act.put, List.setIfInBounds_toArray, List.set_cons_zero, List.set_cons_succ]
        refine anyR_branch [5] (by kernel_rfl) rfl ?_
        refine brs_cons (o := ?_) ?_ ?_ ?_
        rotate_left
        · (conv => (lhs; whnf; arg 1; whnf))
        · refine stepB_c (by rfl) (fun K hK => ?_)
          go_simp
          have hb : Below q11.heap.size q11 (q11.alloc (.cells z0 37)) := (Below.refl _ _).alloc (Nat.le_refl _) _
          have d7_12 := Lib.hid (d7_11.out.below hb)
          have B_12 := Lib.hid (B_11.out.trans (hb.mono B_11.out.size))
          have R_12 := Lib.hid (hb.mono B_11.out.size)
          have d8_12 := Lib.hid (NatAt.zero q11)
          have md8_12 : Hid (q.heap.size ≤ q11.heap.size) := Lib.hid B_11.out.size
          have ned7d8_12 := Lib.hid (Nat.ne_of_lt d7_11.out.lt)
          clear hb
          generalize (q11.alloc (.cells z0 37)) = q12 at *
          refine hK _ _ R_12.out ?_
          clear hK R_12
          generalize q11.heap.size = bd8_12 at *
          clear d7_11 B_11
          try simp only [Act.put, List.setIfInBounds_toArray, List.set_cons_zero, List.set_cons_succ]
          refine anyR_branch [6] (by kernel_rfl) rfl ?_
          refine brs_cons (o := ?_) ?_ ?_ ?_
          rotate_left
          · (conv => (lhs; whnf; arg 1; whnf))
          · refine stepB_c (by rfl) (fun K hK => ?_)
            refine wp_stN ntNat rfl rfl (m := m) rfl d7_12.out ?_
            intro q13 hd hg
            have d7_13 := Lib.hid hd
            have d8_13 := Lib.hid (d8_12.out.grown hg (fun e => by injection e with e; exact ned7d8_12.out e.symm))
            have B_13 := Lib.hid (B_12.out.grown hg B_12.out.size (fun j e => by injection e with e; have := md7_10.out; omega))
            have R_13 : Hid (Below (q.heap.size) q12 q13) := Lib.hid ((Below.refl _ _).grown hg B_12.out.size (fun j e => by injection e with e; have := md7_10.out; omega))
            clear hd hg
            refine hK _ _ R_13.out ?_
            clear hK R_13
            clear d7_12 d8_12 B_12
            try simp only [Act.put, List.setIfInBounds_toArray, List.set_cons_zero, List.set_cons_succ]
            refine anyR_branch [7] (by kernel_rfl) rfl ?_
            refine brs_cons (o := ?_) ?_ ?_ ?_
            rotate_left
            · (conv => (lhs; whnf; arg 1; whnf))
            · refine stepB_c (by rfl) (fun K hK => ?_)
              refine wp_stN ntNat rfl rfl (m := u) rfl d8_13.out ?_
              intro q14 hd hg
              have d8_14 := Lib.hid hd
              have d7_14 := Lib.hid (d7_13.out.grown hg (fun e => by injection e with e; exact ned7d8_12.out e))
              have B_14 := Lib.hid (B_13.out.grown hg B_13.out.size (fun j e => by injection e with e; have := md8_12.out; omega))
              have R_14 : Hid (Below (q.heap.size) q13 q14) := Lib.hid ((Below.refl _ _).grown hg B_13.out.size (fun j e => by injection e with e; have := md8_12.out; omega))
              clear hd hg
              refine hK _ _ R_14.out ?_
              clear hK R_14
              clear d8_13 d7_13 B_13
              try simp only [Act.put, List.setIfInBounds_toArray, List.set_cons_zero, List.set_cons_succ]
              refine anyR_end (by kernel_rfl) ?_
              dsimp only [Exit.then]
              go_step
              go_meet
              exact ⟨_, _, rfl, rfl, fun e => ned7d8_12.out e, md7_10.out, md8_12.out, d7_14.out, d8_14.out, B_14.out⟩
            exact brs_nil
          exact brs_nil
        exact brs_nil
      refine brs_cons (o := ?_) ?_ ?_ ?_
      rotate_left
      · (conv => (lhs; whnf; arg 1; whnf))
      · refine stepB_c (by rfl) (fun K hK => ?_)
        go_simp
        have hb : Below q10.heap.size q10 (q10.alloc (.cells z0 37)) := (Below.refl _ _).alloc (Nat.le_refl _) _
        have d7_15 := Lib.hid (d7_10.out.below hb)
        have B_15 := Lib.hid (B_10.out.trans (hb.mono B_10.out.size))
        have R_15 := Lib.hid (hb.mono B_10.out.size)
        have d8_15 := Lib.hid (NatAt.zero q10)
        have md8_15 : Hid (q.heap.size ≤ q10.heap.size) := Lib.hid B_10.out.size
        have ned7d8_15 := Lib.hid (Nat.ne_of_lt d7_10.out.lt)
        clear hb
        generalize (q10.alloc (.cells z0 37)) = q15 at *
        refine hK _ _ R_15.out ?_
        clear hK R_15
        generalize q10.heap.size = bd8_15 at *
        clear d7_10 B_10
        try simp only [Act.put, List.setIfInBounds_toArray, List.set_cons_zero, List.set_cons_succ]
        refine anyR_branch [3] (by kernel_rfl) rfl ?_
        refine brs_cons (o := ?_) ?_ ?_ ?_
        rotate_left
        · (conv => (lhs; whnf; arg 1; whnf))
        · refine stepB_c (by rfl) (fun K hK => ?_)
          go_simp
          refine (residue_ok _ FM.out FA.out F0.out FU.out).mono ?_
          rintro e q16 ⟨rfl, hb⟩
          have d7_16 := Lib.hid (d7_15.out.below hb)
          have d8_16 := Lib.hid (d8_15.out.below hb)
          have B_16 := Lib.hid (B_15.out.trans (hb.mono B_15.out.size))
          have R_16 := Lib.hid (hb.mono B_15.out.size)
          clear hb
          refine hK _ _ R_16.out ?_
          clear hK R_16
          clear d7_15 d8_15 B_15
          try simp only [Act.put, List.setIfInBounds_toArray, List.set_cons_zero, List.set_cons_succ]
          refine anyR_branch [6] (by kernel_rfl) rfl ?_
          refine brs_cons (o := ?_) ?_ ?_ ?_
          rotate_left
          · (conv => (lhs; whnf; arg 1; whnf))
          · refine stepB_c (by rfl) (fun K hK => ?_)
            refine wp_stN ntNat rfl rfl (m := m) rfl d7_16.out ?_
            intro q17 hd hg
            have d7_17 := Lib.hid hd
            have d8_17 := Lib.hid (d8_16.out.grown hg (fun e => by injection e with e; exact ned7d8_15.out e.symm))
            have B_17 := Lib.hid (B_16.out.grown hg B_16.out.size (fun j e => by injection e with e; have := md7_10.out; omega))
            have R_17 : Hid (Below (q.heap.size) q16 q17) := Lib.hid ((Below.refl _ _).grown hg B_16.out.size (fun j e => by injection e with e; have := md7_10.out; omega))
            clear hd hg
            refine hK _ _ R_17.out ?_
            clear hK R_17
            clear d7_16 d8_16 B_16
            try simp only [Act.put, List.setIfInBounds_toArray, List.set_cons_zero, List.set_cons_succ]
            refine anyR_branch [7] (by kernel_rfl) rfl ?_
            refine brs_cons (o := ?_) ?_ ?_ ?_
            rotate_left
            · (conv => (lhs; whnf; arg 1; whnf))
            · refine stepB_c (by rfl) (fun K hK => ?_)
              refine wp_stN ntNat rfl rfl (m := u) rfl d8_17.out ?_
              intro q18 hd hg
              have d8_18 := Lib.hid hd
              have d7_18 := Lib.hid (d7_17.out.grown hg (fun e => by injection e with e; exact ned7d8_15.out e))
              have B_18 := Lib.hid (B_17.out.grown hg B_17.out.size (fun j e => by injection e with e; have := md8_15.out; omega))
              have R_18 : Hid (Below (q.heap.size) q17 q18) := Lib.hid ((Below.refl _ _).grown hg B_17.out.size (fun j e => by injection e with e; have := md8_15.out; omega))
              clear hd hg
              refine hK _ _ R_18.out ?_
              clear hK R_18
              clear d8_17 d7_17 B_17
              try simp only [Act.put, List.setIfInBounds_toArray, List.set_cons_zero, List.set_cons_succ]
              refine anyR_end (by kernel_rfl) ?_
              dsimp only [Exit.then]
              go_step
              go_meet
              exact ⟨_, _, rfl, rfl, fun e => ned7d8_15.out e, md7_10.out, md8_15.out, d7_18.out, d8_18.out, B_18.out⟩
            exact brs_nil
          exact brs_nil
        exact brs_nil
      exact brs_nil
    refine brs_cons (o := ?_) ?_ ?_ ?_
    rotate_left
    · (conv => (lhs; whnf; arg 1; whnf))
    · refine stepB_c (by rfl) (fun K hK => ?_)
      go_simp
      have hb : Below q0.heap.size q0 (q0.alloc (.cells z0 37)) := (Below.refl _ _).alloc (Nat.le_refl _) _
      have B_19 := Lib.hid (BX.out.trans (hb.mono BX.out.size))
      have R_19 := Lib.hid (hb.mono BX.out.size)
      have d8_19 := Lib.hid (NatAt.zero q0)
      have md8_19 : Hid (q.heap.size ≤ q0.heap.size) := Lib.hid BX.out.size
      clear hb
      generalize (q0.alloc (.cells z0 37)) = q19 at *
      refine hK _ _ R_19.out ?_
      clear hK R_19
      generalize q0.heap.size = bd8_19 at *
      try simp only [Act.put, List.setIfInBounds_toArray, List.set_cons_zero, List.set_cons_succ]
      refine anyR_branch [3, 4] (by kernel_rfl) rfl ?_
      refine brs_cons (o := ?_) ?_ ?_ ?_
      rotate_left
      · (conv => (lhs; whnf; arg 1; whnf))
      · refine stepB_c (by rfl) (fun K hK => ?_)
        go_simp
        refine (residue_ok _ FM.out FA.out F0.out FU.out).mono ?_
        rintro e q20 ⟨rfl, hb⟩
        have d8_20 := Lib.hid (d8_19.out.below hb)
        have B_20 := Lib.hid (B_19.out.trans (hb.mono B_19.out.size))
        have R_20 := Lib.hid (hb.mono B_19.out.size)
        clear hb
        refine hK _ _ R_20.out ?_
        clear hK R_20
        clear d8_19 B_19
        try simp only [Act.put, List.setIfInBounds_toArray, List.set_cons_zero, List.set_cons_succ]
        refine anyR_branch [4] (by kernel_rfl) rfl ?_
        refine brs_cons (o := ?_) ?_ ?_ ?_
        rotate_left
        · (conv => (lhs; whnf; arg 1; whnf))
        · refine stepB_c (by rfl) (fun K hK => ?_)
          go_simp
          have hb : Below q20.heap.size q20 (q20.alloc (.cells z0 37)) := (Below.refl _ _).alloc (Nat.le_refl _) _
          have d8_21 := Lib.hid (d8_20.out.below hb)
          have B_21 := Lib.hid (B_20.out.trans (hb.mono B_20.out.size))
          have R_21 := Lib.hid (hb.mono B_20.out.size)
          have d7_21 := Lib.hid (NatAt.zero q20)
          have md7_21 : Hid (q.heap.size ≤ q20.heap.size) := Lib.hid B_20.out.size
          have ned8d7_21 := Lib.hid (Nat.ne_of_lt d8_20.out.lt)
          clear hb
          generalize (q20.alloc (.cells z0 37)) = q21 at *
          refine hK _ _ R_21.out ?_
          clear hK R_21
          generalize q20.heap.size = bd7_21 at *
          clear d8_20 B_20
          try simp only [Act.put, List.setIfInBounds_toArray, List.set_cons_zero, List.set_cons_succ]
          refine anyR_branch [6] (by kernel_rfl) rfl ?_
          refine brs_cons (o := ?_) ?_ ?_ ?_
          rotate_left
          · (conv => (lhs; whnf; arg 1; whnf))
          · refine stepB_c (by rfl) (fun K hK => ?_)
            refine wp_stN ntNat rfl rfl (m := m) rfl d7_21.out ?_
            intro q22 hd hg
            have d7_22 := Lib.hid hd
            have d8_22 := Lib.hid (d8_21.out.grown hg (fun e => by injection e with e; exact ned8d7_21.out e))
            have B_22 := Lib.hid (B_21.out.grown hg B_21.out.size (fun j e => by injection e with e; have := md7_21.out; omega))
            have R_22 : Hid (Below (q.heap.size) q21 q22) := Lib.hid ((Below.refl _ _).grown hg B_21.out.size (fun j e => by injection e with e; have := md7_21.out; omega))
            clear hd hg
            refine hK _ _ R_22.out ?_
            clear hK R_22
            clear d7_21 d8_21 B_21
            try simp only [Act.put, List.setIfInBounds_toArray, List.set_cons_zero, List.set_cons_succ]
            refine anyR_branch [7] (by kernel_rfl) rfl ?_
            refine brs_cons (o := ?_) ?_ ?_ ?_
            rotate_left
            · (conv => (lhs; whnf; arg 1; whnf))
            · refine stepB_c (by rfl) (fun K hK => ?_)
              refine wp_stN ntNat rfl rfl (m := u) rfl d8_22.out ?_
              intro q23 hd hg
              have d8_23 := Lib.hid hd
              have d7_23 := Lib.hid (d7_22.out.grown hg (fun e => by injection e with e; exact ned8d7_21.out e.symm))
              have B_23 := Lib.hid (B_22.out.grown hg B_22.out.size (fun j e => by injection e with e; have := md8_19.out; omega))
              have R_23 : Hid (Below (q.heap.size) q22 q23) := Lib.hid ((Below.refl _ _).grown hg B_22.out.size (fun j e => by injection e with e; have := md8_19.out; omega))
              clear hd hg
              refine hK _ _ R_23.out ?_
              clear hK R_23
              clear d8_22 d7_22 B_22
              try simp only [Act.put, List.setIfInBounds_toArray, List.set_cons_zero, List.set_cons_succ]
              refine anyR_end (by kernel_rfl) ?_
              dsimp only [Exit.then]
              go_step
              go_meet
              exact ⟨_, _, rfl, rfl, fun e => ned8d7_21.out e.symm, md7_21.out, md8_19.out, d7_23.out, d8_23.out, B_23.out⟩
            exact brs_nil
          exact brs_nil
        exact brs_nil
      refine brs_cons (o := ?_) ?_ ?_ ?_
      rotate_left
      · (conv => (lhs; whnf; arg 1; whnf))
      · refine stepB_c (by rfl) (fun K hK => ?_)
        go_simp
        have hb : Below q19.heap.size q19 (q19.alloc (.cells z0 37)) := (Below.refl _ _).alloc (Nat.le_refl _) _
        have d8_24 := Lib.hid (d8_19.out.below hb)
        have B_24 := Lib.hid (B_19.out.trans (hb.mono B_19.out.size))
        have R_24 := Lib.hid (hb.mono B_19.out.size)
        have d7_24 := Lib.hid (NatAt.zero q19)
        have md7_24 : Hid (q.heap.size ≤ q19.heap.size) := Lib.hid B_19.out.size
        have ned8d7_24 := Lib.hid (Nat.ne_of_lt d8_19.out.lt)
        clear hb
        generalize (q19.alloc (.cells z0 37)) = q24 at *
        refine hK _ _ R_24.out ?_
        clear hK R_24
        generalize q19.heap.size = bd7_24 at *
        clear d8_19 B_19
        try simp only [Act.put, List.setIfInBounds_toArray, List.set_cons_zero, List.set_cons_succ]
        refine anyR_branch [3] (by kernel_rfl) rfl ?_
        refine brs_cons (o := ?_) ?_ ?_ ?_
        rotate_left
        · (conv => (lhs; whnf; arg 1; whnf))
        · refine stepB_c (by rfl) (fun K hK => ?_)
          go_simp
          refine (residue_ok _ FM.out FA.out F0.out FU.out).mono ?_
          rintro e q25 ⟨rfl, hb⟩
          have d8_25 := Lib.hid (d8_24.out.below hb)
          have d7_25 := Lib.hid (d7_24.out.below hb)
          have B_25 := Lib.hid (B_24.out.trans (hb.mono B_24.out.size))
          have R_25 := Lib.hid (hb.mono B_24.out.size)
          clear hb
          refine hK _ _ R_25.out ?_
          clear hK R_25
          clear d8_24 d7_24 B_24
          try simp only [Act.put, List.setIfInBounds_toArray, List.set_cons_zero, List.set_cons_succ]
          refine anyR_branch [6] (by kernel_rfl) rfl ?_
          refine brs_cons (o := ?_) ?_ ?_ ?_
          rotate_left
          · (conv => (lhs; whnf; arg 1; whnf))
          · refine stepB_c (by rfl) (fun K hK => ?_)
            refine wp_stN ntNat rfl rfl (m := m) rfl d7_25.out ?_
            intro q26 hd hg
            have d7_26 := Lib.hid hd
            have d8_26 := Lib.hid (d8_25.out.grown hg (fun e => by injection e with e; exact ned8d7_24.out e))
            have B_26 := Lib.hid (B_25.out.grown hg B_25.out.size (fun j e => by injection e with e; have := md7_24.out; omega))
            have R_26 : Hid (Below (q.heap.size) q25 q26) := Lib.hid ((Below.refl _ _).grown hg B_25.out.size (fun j e => by injection e with e; have := md7_24.out; omega))
            clear hd hg
            refine hK _ _ R_26.out ?_
            clear hK R_26
            clear d7_25 d8_25 B_25
            try simp only [Act.put, List.setIfInBounds_toArray, List.set_cons_zero, List.set_cons_succ]
            refine anyR_branch [7] (by kernel_rfl) rfl ?_
            refine brs_cons (o := ?_) ?_ ?_ ?_
            rotate_left
            · (conv => (lhs; whnf; arg 1; whnf))
            · refine stepB_c (by rfl) (fun K hK => ?_)
              refine wp_stN ntNat rfl rfl (m := u) rfl d8_26.out ?_
              intro q27 hd hg
              have d8_27 := Lib.hid hd
              have d7_27 := Lib.hid (d7_26.out.grown hg (fun e => by injection e with e; exact ned8d7_24.out e.symm))
              have B_27 := Lib.hid (B_26.out.grown hg B_26.out.size (fun j e => by injection e with e; have := md8_19.out; omega))
              have R_27 : Hid (Below (q.heap.size) q26 q27) := Lib.hid ((Below.refl _ _).grown hg B_26.out.size (fun j e => by injection e with e; have := md8_19.out; omega))
              clear hd hg
              refine hK _ _ R_27.out ?_
              clear hK R_27
              clear d8_26 d7_26 B_26
              try simp only [Act.put, List.setIfInBounds_toArray, List.set_cons_zero, List.set_cons_succ]
              refine anyR_end (by kernel_rfl) ?_
              dsimp only [Exit.then]
              go_step
              go_meet
              exact ⟨_, _, rfl, rfl, fun e => ned8d7_24.out e.symm, md7_24.out, md8_19.out, d7_27.out, d8_27.out, B_27.out⟩
            exact brs_nil
          exact brs_nil
        exact brs_nil
      exact brs_nil
    exact brs_nil
  case rest =>
    obtain ⟨B7, B8, rfl, rfl, hne, hm7, hm8, h7, h8, hB⟩ := hcut
    have LR : Hid (w.heap.size + 1 + 1 < q.heap.size) := Lib.hid R_b.out.lt
    have LN : Hid (bN < q.heap.size) := Lib.hid N_b.out.lt
    have LQ : Hid (q.heap.size ≤ wc.heap.size) := Lib.hid hB.size
    have D7 := Lib.hid h7
    have D8 := Lib.hid h8
    have N78 := Lib.hid hne
    have K7 := Lib.hid hm7
    have K8 := Lib.hid hm8
    have R_c := Lib.hid (R_b.out.below hB)
    have N_c := Lib.hid (N_b.out.below hB)
    have W_c := Lib.hid (W_b.out.trans (hB.mono W_b.out.size))
    clear hne hm7 hm8 h7 h8 hB A_b M_b R_b N_b W_b
    go_upto_region 5 with fail
    generalize q.heap.size = z7 at *
    generalize wc = ww at *
    go_cut [9, 10] (fun x y wx => ∃ B1 B2, x = .pointer (some ⟨B1, 0, none⟩) ∧ y = .pointer (some ⟨B2, 0, none⟩) ∧ B1 ≠ B2 ∧ ww.heap.size ≤ B1 ∧ ww.heap.size ≤ B2 ∧ NatAt wx B1 0 ∧ NatAt wx B2 v ∧ Below ww.heap.size ww wx)
    case first =>
      have hRR : ∀ w9 : World, Below ww.heap.size w9 w9 := fun _ => Below.refl _ _
      have hRT : ∀ x y z : World, Below ww.heap.size x y → Below ww.heap.size y z → Below ww.heap.size x z := fun _ _ _ h1 h2 => h1.trans h2
      refine region_begin (fun x y => Below ww.heap.size x y) 8 (by kernel_rfl) (by kernel_rfl) ?_
      have BX : Hid (Below ww.heap.size ww ww.drew) := Lib.hid (Below.refl ww.heap.size ww).drew
      have LTN : Hid (bN < ww.heap.size) := Lib.hid N_c.out.lt
      have YN : Hid (NatAt ww.drew (bN) m) := Lib.hid N_c.out.drew
      generalize ww.drew = q0 at BX YN ⊢
      refine anyR_at (o := ?_) (i := 0) ?_ ?_
      rotate_left
      · (conv => (lhs; whnf; arg 1; whnf))
      refine anyR_y hRR hRT (by kernel_rfl) (v := ?_) (by kernel_rfl) (by rfl) (fun W hW => ?_) ?_
      rotate_left
      · (refine exec_bn ?_) <;> rfl
      try simp only [Act.put, List.setIfInBounds_toArray, List.set_cons_zero, List.set_cons_succ]
      refine anyR_at (o := ?_) (i := 1) ?_ ?_
      rotate_left
      · (conv => (lhs; whnf; arg 1; whnf))
      refine anyR_y hRR hRT (by kernel_rfl) (v := ?_) (by kernel_rfl) (by rfl) (fun W hW => ?_) ?_
      rotate_left
      · (refine exec_ldN (x := .tmp 6) ntMod ?_ ?_ (natAt_below (N := ww.heap.size) YN.out hW LTN.out)) <;> rfl
      try simp only [Act.put, List.setIfInBounds_toArray, List.set_cons_zero, List.set_cons_succ]
      refine anyR_branch [2, 4, 5] (by kernel_rfl) rfl ?_
      refine brs_cons (o := ?_) ?_ ?_ ?_
      rotate_left
      · (conv => (lhs; whnf; arg 1; whnf))
      · refine stepB_c (by rfl) (fun K hK => ?_)
        go_simp
        refine (one_any _).mono ?_
        rintro e q1 ⟨rfl, hb⟩
        have B_1 := Lib.hid (BX.out.trans (hb.mono BX.out.size))
        have R_1 := Lib.hid (hb.mono BX.out.size)
        clear hb
        refine hK _ _ R_1.out ?_
        clear hK R_1
        try simp only [Act.put, List.setIfInBounds_toArray, List.set_cons_zero, List.set_cons_succ]
        refine anyR_branch [3, 4, 5] (by kernel_rfl) rfl ?_
        refine brs_cons (o := ?_) ?_ ?_ ?_
        rotate_left
        · (conv => (lhs; whnf; arg 1; whnf))
        · refine stepB_c (by rfl) (fun K hK => ?_)
          go_simp
          refine (residue_ok _ FM.out (fit_int (v := 1) (by decide)) F0.out FV.out).mono ?_
          rintro e q2 ⟨rfl, hb⟩
          have B_2 := Lib.hid (B_1.out.trans (hb.mono B_1.out.size))
          have R_2 := Lib.hid (hb.mono B_1.out.size)
          clear hb
          refine hK _ _ R_2.out ?_
          clear hK R_2
          clear B_1
          try simp only [Act.put, List.setIfInBounds_toArray, List.set_cons_zero, List.set_cons_succ]
          refine anyR_branch [4, 5] (by kernel_rfl) rfl ?_
          refine brs_cons (o := ?_) ?_ ?_ ?_
          rotate_left
          · (conv => (lhs; whnf; arg 1; whnf))
          · refine stepB_c (by rfl) (fun K hK => ?_)
            go_simp
            have hb : Below q2.heap.size q2 (q2.alloc (.cells z0 37)) := (Below.refl _ _).alloc (Nat.le_refl _) _
            have B_3 := Lib.hid (B_2.out.trans (hb.mono B_2.out.size))
            have R_3 := Lib.hid (hb.mono B_2.out.size)
            have d9_3 := Lib.hid (NatAt.zero q2)
            have md9_3 : Hid (ww.heap.size ≤ q2.heap.size) := Lib.hid B_2.out.size
            clear hb
            generalize (q2.alloc (.cells z0 37)) = q3 at *
            refine hK _ _ R_3.out ?_
            clear hK R_3
            generalize q2.heap.size = bd9_3 at *
            clear B_2
            try simp only [Act.put, List.setIfInBounds_toArray, List.set_cons_zero, List.set_cons_succ]
            refine anyR_branch [5] (by kernel_rfl) rfl ?_
            refine brs_cons (o := ?_) ?_ ?_ ?_
            rotate_left
            · (conv => (lhs; whnf; arg 1; whnf))
            · refine stepB_c (by rfl) (fun K hK => ?_)
              go_simp
              have hb : Below q3.heap.size q3 (q3.alloc (.cells z0 37)) := (Below.refl _ _).alloc (Nat.le_refl _) _
              have d9_4 := Lib.hid (d9_3.out.below hb)
              have B_4 := Lib.hid (B_3.out.trans (hb.mono B_3.out.size))
              have R_4 := Lib.hid (hb.mono B_3.out.size)
              have d10_4 := Lib.hid (NatAt.zero q3)
              have md10_4 : Hid (ww.heap.size ≤ q3.heap.size) := Lib.hid B_3.out.size
              have ned9d10_4 := Lib.hid (Nat.ne_of_lt d9_3.out.lt)
              clear hb
              generalize (q3.alloc (.cells z0 37)) = q4 at *
              refine hK _ _ R_4.out ?_
              clear hK R_4
              generalize q3.heap.size = bd10_4 at *
              clear d9_3 B_3
              try simp only [Act.put, List.setIfInBounds_toArray, List.set_cons_zero, List.set_cons_succ]
              refine anyR_branch [6] (by kernel_rfl) rfl ?_
              refine brs_cons (o := ?_) ?_ ?_ ?_
              rotate_left
              · (conv => (lhs; whnf; arg 1; whnf))
              · refine stepB_c (by rfl) (fun K hK => ?_)
                refine wp_stN ntNat rfl rfl (m := 0) rfl d9_4.out ?_
                intro q5 hd hg
                have d9_5 := Lib.hid hd
                have d10_5 := Lib.hid (d10_4.out.grown hg (fun e => by injection e with e; exact ned9d10_4.out e.symm))
                have B_5 := Lib.hid (B_4.out.grown hg B_4.out.size (fun j e => by injection e with e; have := md9_3.out; omega))
                have R_5 : Hid (Below (ww.heap.size) q4 q5) := Lib.hid ((Below.refl _ _).grown hg B_4.out.size (fun j e => by injection e with e; have := md9_3.out; omega))
                clear hd hg
                refine hK _ _ R_5.out ?_
                clear hK R_5
                clear d9_4 d10_4 B_4
                try simp only [Act.put, List.setIfInBounds_toArray, List.set_cons_zero, List.set_cons_succ]
                refine anyR_branch [7] (by kernel_rfl) rfl ?_
                refine brs_cons (o := ?_) ?_ ?_ ?_
                rotate_left
                · (conv => (lhs; whnf; arg 1; whnf))
                · refine stepB_c (by rfl) (fun K hK => ?_)
                  refine wp_stN ntNat rfl rfl (m := v) rfl d10_5.out ?_
                  intro q6 hd hg
                  have d10_6 := Lib.hid hd
                  have d9_6 := Lib.hid (d9_5.out.grown hg (fun e => by injection e with e; exact ned9d10_4.out e))
                  have B_6 := Lib.hid (B_5.out.grown hg B_5.out.size (fun j e => by injection e with e; have := md10_4.out; omega))
                  have R_6 : Hid (Below (ww.heap.size) q5 q6) := Lib.hid ((Below.refl _ _).grown hg B_5.out.size (fun j e => by injection e with e; have := md10_4.out; omega))
                  clear hd hg
                  refine hK _ _ R_6.out ?_
                  clear hK R_6
                  clear d10_5 d9_5 B_5
                  try simp only [Act.put, List.setIfInBounds_toArray, List.set_cons_zero, List.set_cons_succ]
                  refine anyR_end (by kernel_rfl) ?_
                  dsimp only [Exit.then]
                  go_step
                  go_meet
                  exact ⟨_, _, rfl, rfl, fun e => ned9d10_4.out e, md9_3.out, md10_4.out, d9_6.out, d10_6.out, B_6.out⟩
                exact brs_nil
              exact brs_nil
            exact brs_nil
          refine brs_cons (o := ?_) ?_ ?_ ?_
          rotate_left
          · (conv => (lhs; whnf; arg 1; whnf))
          · refine stepB_c (by rfl) (fun K hK => ?_)
            go_simp
            have hb : Below q2.heap.size q2 (q2.alloc (.cells z0 37)) := (Below.refl _ _).alloc (Nat.le_refl _) _
            have B_7 := Lib.hid (B_2.out.trans (hb.mono B_2.out.size))
            have R_7 := Lib.hid (hb.mono B_2.out.size)
            have d10_7 := Lib.hid (NatAt.zero q2)
            have md10_7 : Hid (ww.heap.size ≤ q2.heap.size) := Lib.hid B_2.out.size
            clear hb
            generalize (q2.alloc (.cells z0 37)) = q7 at *
            refine hK _ _ R_7.out ?_
            clear hK R_7
            generalize q2.heap.size = bd10_7 at *
            clear B_2
            try simp only [Act.put, List.setIfInBounds_toArray, List.set_cons_zero, List.set_cons_succ]
            refine anyR_branch [4] (by kernel_rfl) rfl ?_
            refine brs_cons (o := ?_) ?_ ?_ ?_
            rotate_left
            · (conv => (lhs; whnf; arg 1; whnf))
            · refine stepB_c (by rfl) (fun K hK => ?_)
              go_simp
              have hb : Below q7.heap.size q7 (q7.alloc (.cells z0 37)) := (Below.refl _ _).alloc (Nat.le_refl _) _
              have d10_8 := Lib.hid (d10_7.out.below hb)
              have B_8 := Lib.hid (B_7.out.trans (hb.mono B_7.out.size))
              have R_8 := Lib.hid (hb.mono B_7.out.size)
              have d9_8 := Lib.hid (NatAt.zero q7)
              have md9_8 : Hid (ww.heap.size ≤ q7.heap.size) := Lib.hid B_7.out.size
              have ned10d9_8 := Lib.hid (Nat.ne_of_lt d10_7.out.lt)
              clear hb
              generalize (q7.alloc (.cells z0 37)) = q8 at *
              refine hK _ _ R_8.out ?_
              clear hK R_8
              generalize q7.heap.size = bd9_8 at *
              clear d10_7 B_7
              try simp only [Act.put, List.setIfInBounds_toArray, List.set_cons_zero, List.set_cons_succ]
              refine anyR_branch [6] (by kernel_rfl) rfl ?_
              refine brs_cons (o := ?_) ?_ ?_ ?_
              rotate_left
              · (conv => (lhs; whnf; arg 1; whnf))
              · refine stepB_c (by rfl) (fun K hK => ?_)
                refine wp_stN ntNat rfl rfl (m := 0) rfl d9_8.out ?_
                intro q9 hd hg
                have d9_9 := Lib.hid hd
                have d10_9 := Lib.hid (d10_8.out.grown hg (fun e => by injection e with e; exact ned10d9_8.out e))
                have B_9 := Lib.hid (B_8.out.grown hg B_8.out.size (fun j e => by injection e with e; have := md9_8.out; omega))
                have R_9 : Hid (Below (ww.heap.size) q8 q9) := Lib.hid ((Below.refl _ _).grown hg B_8.out.size (fun j e => by injection e with e; have := md9_8.out; omega))
                clear hd hg
                refine hK _ _ R_9.out ?_
                clear hK R_9
                clear d9_8 d10_8 B_8
                try simp only [Act.put, List.setIfInBounds_toArray, List.set_cons_zero, List.set_cons_succ]
                refine anyR_branch [7] (by kernel_rfl) rfl ?_
                refine brs_cons (o := ?_) ?_ ?_ ?_
                rotate_left
                · (conv => (lhs; whnf; arg 1; whnf))
                · refine stepB_c (by rfl) (fun K hK => ?_)
                  refine wp_stN ntNat rfl rfl (m := v) rfl d10_9.out ?_
                  intro q10 hd hg
                  have d10_10 := Lib.hid hd
                  have d9_10 := Lib.hid (d9_9.out.grown hg (fun e => by injection e with e; exact ned10d9_8.out e.symm))
                  have B_10 := Lib.hid (B_9.out.grown hg B_9.out.size (fun j e => by injection e with e; have := md10_7.out; omega))
                  have R_10 : Hid (Below (ww.heap.size) q9 q10) := Lib.hid ((Below.refl _ _).grown hg B_9.out.size (fun j e => by injection e with e; have := md10_7.out; omega))
                  clear hd hg
                  refine hK _ _ R_10.out ?_
                  clear hK R_10
                  clear d10_9 d9_9 B_9
                  try simp only [Act.put, List.setIfInBounds_toArray, List.set_cons_zero, List.set_cons_succ]
                  refine anyR_end (by kernel_rfl) ?_
                  dsimp only [Exit.then]
                  go_step
                  go_meet
                  exact ⟨_, _, rfl, rfl, fun e => ned10d9_8.out e.symm, md9_8.out, md10_7.out, d9_10.out, d10_10.out, B_10.out⟩
                exact brs_nil
              exact brs_nil
            exact brs_nil
          exact brs_nil
        refine brs_cons (o := ?_) ?_ ?_ ?_
        rotate_left
        · (conv => (lhs; whnf; arg 1; whnf))
        · refine stepB_c (by rfl) (fun K hK => ?_)
          go_simp
          have hb : Below q1.heap.size q1 (q1.alloc (.cells z0 37)) := (Below.refl _ _).alloc (Nat.le_refl _) _
          have B_11 := Lib.hid (B_1.out.trans (hb.mono B_1.out.size))
          have R_11 := Lib.hid (hb.mono B_1.out.size)
          have d9_11 := Lib.hid (NatAt.zero q1)
          have md9_11 : Hid (ww.heap.size ≤ q1.heap.size) := Lib.hid B_1.out.size
          clear hb
          generalize (q1.alloc (.cells z0 37)) = q11 at *
          refine hK _ _ R_11.out ?_
          clear hK R_11
          generalize q1.heap.size = bd9_11 at *
          clear B_1
          try simp only [Act.put, List.setIfInBounds_toArray, List.set_cons_zero, List.set_cons_succ]
          refine anyR_branch [3, 5] (by kernel_rfl) rfl ?_
          refine brs_cons (o := ?_) ?_ ?_ ?_
          rotate_left
          · (conv => (lhs; whnf; arg 1; whnf))
          · refine stepB_c (by rfl) (fun K hK => ?_)
            go_simp
            refine (residue_ok _ FM.out (fit_int (v := 1) (by decide)) F0.out FV.out).mono ?_
            rintro e q12 ⟨rfl, hb⟩
            have d9_12 := Lib.hid (d9_11.out.below hb)
            have B_12 := Lib.hid (B_11.out.trans (hb.mono B_11.out.size))
            have R_12 := Lib.hid (hb.mono B_11.out.size)
            clear hb
            refine hK _ _ R_12.out ?_
            clear hK R_12
            clear d9_11 B_11
            try simp only [Act.put, List.setIfInBounds_toArray, List.set_cons_zero, List.set_cons_succ]
            refine anyR_branch [5] (by kernel_rfl) rfl ?_
            refine brs_cons (o := ?_) ?_ ?_ ?_
            rotate_left
            · (conv => (lhs; whnf; arg 1; whnf))
            · refine stepB_c (by rfl) (fun K hK => ?_)
              go_simp
              have hb : Below q12.heap.size q12 (q12.alloc (.cells z0 37)) := (Below.refl _ _).alloc (Nat.le_refl _) _
              have d9_13 := Lib.hid (d9_12.out.below hb)
              have B_13 := Lib.hid (B_12.out.trans (hb.mono B_12.out.size))
              have R_13 := Lib.hid (hb.mono B_12.out.size)
              have d10_13 := Lib.hid (NatAt.zero q12)
              have md10_13 : Hid (ww.heap.size ≤ q12.heap.size) := Lib.hid B_12.out.size
              have ned9d10_13 := Lib.hid (Nat.ne_of_lt d9_12.out.lt)
              clear hb
              generalize (q12.alloc (.cells z0 37)) = q13 at *
              refine hK _ _ R_13.out ?_
              clear hK R_13
              generalize q12.heap.size = bd10_13 at *
              clear d9_12 B_12
              try simp only [Act.put, List.setIfInBounds_toArray, List.set_cons_zero, List.set_cons_succ]
              refine anyR_branch [6] (by kernel_rfl) rfl ?_
              refine brs_cons (o := ?_) ?_ ?_ ?_
              rotate_left
              · (conv => (lhs; whnf; arg 1; whnf))
              · refine stepB_c (by rfl) (fun K hK => ?_)
                refine wp_stN ntNat rfl rfl (m := 0) rfl d9_13.out ?_
                intro q14 hd hg
                have d9_14 := Lib.hid hd
                have d10_14 := Lib.hid (d10_13.out.grown hg (fun e => by injection e with e; exact ned9d10_13.out e.symm))
                have B_14 := Lib.hid (B_13.out.grown hg B_13.out.size (fun j e => by injection e with e; have := md9_11.out; omega))
                have R_14 : Hid (Below (ww.heap.size) q13 q14) := Lib.hid ((Below.refl _ _).grown hg B_13.out.size (fun j e => by injection e with e; have := md9_11.out; omega))
                clear hd hg
                refine hK _ _ R_14.out ?_
                clear hK R_14
                clear d9_13 d10_13 B_13
                try simp only [Act.put, List.setIfInBounds_toArray, List.set_cons_zero, List.set_cons_succ]
                refine anyR_branch [7] (by kernel_rfl) rfl ?_
                refine brs_cons (o := ?_) ?_ ?_ ?_
                rotate_left
                · (conv => (lhs; whnf; arg 1; whnf))
                · refine stepB_c (by rfl) (fun K hK => ?_)
                  refine wp_stN ntNat rfl rfl (m := v) rfl d10_14.out ?_
                  intro q15 hd hg
                  have d10_15 := Lib.hid hd
                  have d9_15 := Lib.hid (d9_14.out.grown hg (fun e => by injection e with e; exact ned9d10_13.out e))
                  have B_15 := Lib.hid (B_14.out.grown hg B_14.out.size (fun j e => by injection e with e; have := md10_13.out; omega))
                  have R_15 : Hid (Below (ww.heap.size) q14 q15) := Lib.hid ((Below.refl _ _).grown hg B_14.out.size (fun j e => by injection e with e; have := md10_13.out; omega))
                  clear hd hg
                  refine hK _ _ R_15.out ?_
                  clear hK R_15
                  clear d10_14 d9_14 B_14
                  try simp only [Act.put, List.setIfInBounds_toArray, List.set_cons_zero, List.set_cons_succ]
                  refine anyR_end (by kernel_rfl) ?_
                  dsimp only [Exit.then]
                  go_step
                  go_meet
                  exact ⟨_, _, rfl, rfl, fun e => ned9d10_13.out e, md9_11.out, md10_13.out, d9_15.out, d10_15.out, B_15.out⟩
                exact brs_nil
              exact brs_nil
            exact brs_nil
          refine brs_cons (o := ?_) ?_ ?_ ?_
          rotate_left
          · (conv => (lhs; whnf; arg 1; whnf))
          · refine stepB_c (by rfl) (fun K hK => ?_)
            go_simp
            have hb : Below q11.heap.size q11 (q11.alloc (.cells z0 37)) := (Below.refl _ _).alloc (Nat.le_refl _) _
            have d9_16 := Lib.hid (d9_11.out.below hb)
            have B_16 := Lib.hid (B_11.out.trans (hb.mono B_11.out.size))
            have R_16 := Lib.hid (hb.mono B_11.out.size)
            have d10_16 := Lib.hid (NatAt.zero q11)
            have md10_16 : Hid (ww.heap.size ≤ q11.heap.size) := Lib.hid B_11.out.size
            have ned9d10_16 := Lib.hid (Nat.ne_of_lt d9_11.out.lt)
            clear hb
            generalize (q11.alloc (.cells z0 37)) = q16 at *
            refine hK _ _ R_16.out ?_
            clear hK R_16
            generalize q11.heap.size = bd10_16 at *
            clear d9_11 B_11
            try simp only [Act.put, List.setIfInBounds_toArray, List.set_cons_zero, List.set_cons_succ]
            refine anyR_branch [3] (by kernel_rfl) rfl ?_
            refine brs_cons (o := ?_) ?_ ?_ ?_
            rotate_left
            · (conv => (lhs; whnf; arg 1; whnf))
            · refine stepB_c (by rfl) (fun K hK => ?_)
              go_simp
              refine (residue_ok _ FM.out (fit_int (v := 1) (by decide)) F0.out FV.out).mono ?_
              rintro e q17 ⟨rfl, hb⟩
              have d9_17 := Lib.hid (d9_16.out.below hb)
              have d10_17 := Lib.hid (d10_16.out.below hb)
              have B_17 := Lib.hid (B_16.out.trans (hb.mono B_16.out.size))
              have R_17 := Lib.hid (hb.mono B_16.out.size)
              clear hb
              refine hK _ _ R_17.out ?_
              clear hK R_17
              clear d9_16 d10_16 B_16
              try simp only [Act.put, List.setIfInBounds_toArray, List.set_cons_zero, List.set_cons_succ]
              refine anyR_branch [6] (by kernel_rfl) rfl ?_
              refine brs_cons (o := ?_) ?_ ?_ ?_
              rotate_left
              · (conv => (lhs; whnf; arg 1; whnf))
              · refine stepB_c (by rfl) (fun K hK => ?_)
                refine wp_stN ntNat rfl rfl (m := 0) rfl d9_17.out ?_
                intro q18 hd hg
                have d9_18 := Lib.hid hd
                have d10_18 := Lib.hid (d10_17.out.grown hg (fun e => by injection e with e; exact ned9d10_16.out e.symm))
                have B_18 := Lib.hid (B_17.out.grown hg B_17.out.size (fun j e => by injection e with e; have := md9_11.out; omega))
                have R_18 : Hid (Below (ww.heap.size) q17 q18) := Lib.hid ((Below.refl _ _).grown hg B_17.out.size (fun j e => by injection e with e; have := md9_11.out; omega))
                clear hd hg
                refine hK _ _ R_18.out ?_
                clear hK R_18
                clear d9_17 d10_17 B_17
                try simp only [Act.put, List.setIfInBounds_toArray, List.set_cons_zero, List.set_cons_succ]
                refine anyR_branch [7] (by kernel_rfl) rfl ?_
                refine brs_cons (o := ?_) ?_ ?_ ?_
                rotate_left
                · (conv => (lhs; whnf; arg 1; whnf))
                · refine stepB_c (by rfl) (fun K hK => ?_)
                  refine wp_stN ntNat rfl rfl (m := v) rfl d10_18.out ?_
                  intro q19 hd hg
                  have d10_19 := Lib.hid hd
                  have d9_19 := Lib.hid (d9_18.out.grown hg (fun e => by injection e with e; exact ned9d10_16.out e))
                  have B_19 := Lib.hid (B_18.out.grown hg B_18.out.size (fun j e => by injection e with e; have := md10_16.out; omega))
                  have R_19 : Hid (Below (ww.heap.size) q18 q19) := Lib.hid ((Below.refl _ _).grown hg B_18.out.size (fun j e => by injection e with e; have := md10_16.out; omega))
                  clear hd hg
                  refine hK _ _ R_19.out ?_
                  clear hK R_19
                  clear d10_18 d9_18 B_18
                  try simp only [Act.put, List.setIfInBounds_toArray, List.set_cons_zero, List.set_cons_succ]
                  refine anyR_end (by kernel_rfl) ?_
                  dsimp only [Exit.then]
                  go_step
                  go_meet
                  exact ⟨_, _, rfl, rfl, fun e => ned9d10_16.out e, md9_11.out, md10_16.out, d9_19.out, d10_19.out, B_19.out⟩
                exact brs_nil
              exact brs_nil
            exact brs_nil
          exact brs_nil
        refine brs_cons (o := ?_) ?_ ?_ ?_
        rotate_left
        · (conv => (lhs; whnf; arg 1; whnf))
        · refine stepB_c (by rfl) (fun K hK => ?_)
          go_simp
          have hb : Below q1.heap.size q1 (q1.alloc (.cells z0 37)) := (Below.refl _ _).alloc (Nat.le_refl _) _
          have B_20 := Lib.hid (B_1.out.trans (hb.mono B_1.out.size))
          have R_20 := Lib.hid (hb.mono B_1.out.size)
          have d10_20 := Lib.hid (NatAt.zero q1)
          have md10_20 : Hid (ww.heap.size ≤ q1.heap.size) := Lib.hid B_1.out.size
          clear hb
          generalize (q1.alloc (.cells z0 37)) = q20 at *
          refine hK _ _ R_20.out ?_
          clear hK R_20
          generalize q1.heap.size = bd10_20 at *
          clear B_1
          try simp only [Act.put, List.setIfInBounds_toArray, List.set_cons_zero, List.set_cons_succ]
          refine anyR_branch [3, 4] (by kernel_rfl) rfl ?_
          refine brs_cons (o := ?_) ?_ ?_ ?_
          rotate_left
          · (conv => (lhs; whnf; arg 1; whnf))
          · refine stepB_c (by rfl) (fun K hK => ?_)
            go_simp
            refine (residue_ok _ FM.out (fit_int (v := 1) (by decide)) F0.out FV.out).mono ?_
            rintro e q21 ⟨rfl, hb⟩
            have d10_21 := Lib.hid (d10_20.out.below hb)
            have B_21 := Lib.hid (B_20.out.trans (hb.mono B_20.out.size))
            have R_21 := Lib.hid (hb.mono B_20.out.size)
            clear hb
            refine hK _ _ R_21.out ?_
            clear hK R_21
            clear d10_20 B_20
            try simp only [Act.put, List.setIfInBounds_toArray, List.set_cons_zero, List.set_cons_succ]
            refine anyR_branch [4] (by kernel_rfl) rfl ?_
            refine brs_cons (o := ?_) ?_ ?_ ?_
            rotate_left
            · (conv => (lhs; whnf; arg 1; whnf))
            · refine stepB_c (by rfl) (fun K hK => ?_)
              go_simp
              have hb : Below q21.heap.size q21 (q21.alloc (.cells z0 37)) := (Below.refl _ _).alloc (Nat.le_refl _) _
              have d10_22 := Lib.hid (d10_21.out.below hb)
              have B_22 := Lib.hid (B_21.out.trans (hb.mono B_21.out.size))
              have R_22 := Lib.hid (hb.mono B_21.out.size)
              have d9_22 := Lib.hid (NatAt.zero q21)
              have md9_22 : Hid (ww.heap.size ≤ q21.heap.size) := Lib.hid B_21.out.size
              have ned10d9_22 := Lib.hid (Nat.ne_of_lt d10_21.out.lt)
              clear hb
              generalize (q21.alloc (.cells z0 37)) = q22 at *
              refine hK _ _ R_22.out ?_
              clear hK R_22
              generalize q21.heap.size = bd9_22 at *
              clear d10_21 B_21
              try simp only [Act.put, List.setIfInBounds_toArray, List.set_cons_zero, List.set_cons_succ]
              refine anyR_branch [6] (by kernel_rfl) rfl ?_
              refine brs_cons (o := ?_) ?_ ?_ ?_
              rotate_left
              · (conv => (lhs; whnf; arg 1; whnf))
              · refine stepB_c (by rfl) (fun K hK => ?_)
                refine wp_stN ntNat rfl rfl (m := 0) rfl d9_22.out ?_
                intro q23 hd hg
                have d9_23 := Lib.hid hd
                have d10_23 := Lib.hid (d10_22.out.grown hg (fun e => by injection e with e; exact ned10d9_22.out e))
                have B_23 := Lib.hid (B_22.out.grown hg B_22.out.size (fun j e => by injection e with e; have := md9_22.out; omega))
                have R_23 : Hid (Below (ww.heap.size) q22 q23) := Lib.hid ((Below.refl _ _).grown hg B_22.out.size (fun j e => by injection e with e; have := md9_22.out; omega))
                clear hd hg
                refine hK _ _ R_23.out ?_
                clear hK R_23
                clear d9_22 d10_22 B_22
                try simp only [Act.put, List.setIfInBounds_toArray, List.set_cons_zero, List.set_cons_succ]
                refine anyR_branch [7] (by kernel_rfl) rfl ?_
                refine brs_cons (o := ?_) ?_ ?_ ?_
                rotate_left
                · (conv => (lhs; whnf; arg 1; whnf))
                · refine stepB_c (by rfl) (fun K hK => ?_)
                  refine wp_stN ntNat rfl rfl (m := v) rfl d10_23.out ?_
                  intro q24 hd hg
                  have d10_24 := Lib.hid hd
                  have d9_24 := Lib.hid (d9_23.out.grown hg (fun e => by injection e with e; exact ned10d9_22.out e.symm))
                  have B_24 := Lib.hid (B_23.out.grown hg B_23.out.size (fun j e => by injection e with e; have := md10_20.out; omega))
                  have R_24 : Hid (Below (ww.heap.size) q23 q24) := Lib.hid ((Below.refl _ _).grown hg B_23.out.size (fun j e => by injection e with e; have := md10_20.out; omega))
                  clear hd hg
                  refine hK _ _ R_24.out ?_
                  clear hK R_24
                  clear d10_23 d9_23 B_23
                  try simp only [Act.put, List.setIfInBounds_toArray, List.set_cons_zero, List.set_cons_succ]
                  refine anyR_end (by kernel_rfl) ?_
                  dsimp only [Exit.then]
                  go_step
                  go_meet
                  exact ⟨_, _, rfl, rfl, fun e => ned10d9_22.out e.symm, md9_22.out, md10_20.out, d9_24.out, d10_24.out, B_24.out⟩
                exact brs_nil
              exact brs_nil
            exact brs_nil
          refine brs_cons (o := ?_) ?_ ?_ ?_
          rotate_left
          · (conv => (lhs; whnf; arg 1; whnf))
          · refine stepB_c (by rfl) (fun K hK => ?_)
            go_simp
            have hb : Below q20.heap.size q20 (q20.alloc (.cells z0 37)) := (Below.refl _ _).alloc (Nat.le_refl _) _
            have d10_25 := Lib.hid (d10_20.out.below hb)
            have B_25 := Lib.hid (B_20.out.trans (hb.mono B_20.out.size))
            have R_25 := Lib.hid (hb.mono B_20.out.size)
            have d9_25 := Lib.hid (NatAt.zero q20)
            have md9_25 : Hid (ww.heap.size ≤ q20.heap.size) := Lib.hid B_20.out.size
            have ned10d9_25 := Lib.hid (Nat.ne_of_lt d10_20.out.lt)
            clear hb
            generalize (q20.alloc (.cells z0 37)) = q25 at *
            refine hK _ _ R_25.out ?_
            clear hK R_25
            generalize q20.heap.size = bd9_25 at *
            clear d10_20 B_20
            try simp only [Act.put, List.setIfInBounds_toArray, List.set_cons_zero, List.set_cons_succ]
            refine anyR_branch [3] (by kernel_rfl) rfl ?_
            refine brs_cons (o := ?_) ?_ ?_ ?_
            rotate_left
            · (conv => (lhs; whnf; arg 1; whnf))
            · refine stepB_c (by rfl) (fun K hK => ?_)
              go_simp
              refine (residue_ok _ FM.out (fit_int (v := 1) (by decide)) F0.out FV.out).mono ?_
              rintro e q26 ⟨rfl, hb⟩
              have d10_26 := Lib.hid (d10_25.out.below hb)
              have d9_26 := Lib.hid (d9_25.out.below hb)
              have B_26 := Lib.hid (B_25.out.trans (hb.mono B_25.out.size))
              have R_26 := Lib.hid (hb.mono B_25.out.size)
              clear hb
              refine hK _ _ R_26.out ?_
              clear hK R_26
              clear d10_25 d9_25 B_25
              try simp only [Act.put, List.setIfInBounds_toArray, List.set_cons_zero, List.set_cons_succ]
              refine anyR_branch [6] (by kernel_rfl) rfl ?_
              refine brs_cons (o := ?_) ?_ ?_ ?_
              rotate_left
              · (conv => (lhs; whnf; arg 1; whnf))
              · refine stepB_c (by rfl) (fun K hK => ?_)
                refine wp_stN ntNat rfl rfl (m := 0) rfl d9_26.out ?_
                intro q27 hd hg
                have d9_27 := Lib.hid hd
                have d10_27 := Lib.hid (d10_26.out.grown hg (fun e => by injection e with e; exact ned10d9_25.out e))
                have B_27 := Lib.hid (B_26.out.grown hg B_26.out.size (fun j e => by injection e with e; have := md9_25.out; omega))
                have R_27 : Hid (Below (ww.heap.size) q26 q27) := Lib.hid ((Below.refl _ _).grown hg B_26.out.size (fun j e => by injection e with e; have := md9_25.out; omega))
                clear hd hg
                refine hK _ _ R_27.out ?_
                clear hK R_27
                clear d9_26 d10_26 B_26
                try simp only [Act.put, List.setIfInBounds_toArray, List.set_cons_zero, List.set_cons_succ]
                refine anyR_branch [7] (by kernel_rfl) rfl ?_
                refine brs_cons (o := ?_) ?_ ?_ ?_
                rotate_left
                · (conv => (lhs; whnf; arg 1; whnf))
                · refine stepB_c (by rfl) (fun K hK => ?_)
                  refine wp_stN ntNat rfl rfl (m := v) rfl d10_27.out ?_
                  intro q28 hd hg
                  have d10_28 := Lib.hid hd
                  have d9_28 := Lib.hid (d9_27.out.grown hg (fun e => by injection e with e; exact ned10d9_25.out e.symm))
                  have B_28 := Lib.hid (B_27.out.grown hg B_27.out.size (fun j e => by injection e with e; have := md10_20.out; omega))
                  have R_28 : Hid (Below (ww.heap.size) q27 q28) := Lib.hid ((Below.refl _ _).grown hg B_27.out.size (fun j e => by injection e with e; have := md10_20.out; omega))
                  clear hd hg
                  refine hK _ _ R_28.out ?_
                  clear hK R_28
                  clear d10_27 d9_27 B_27
                  try simp only [Act.put, List.setIfInBounds_toArray, List.set_cons_zero, List.set_cons_succ]
                  refine anyR_end (by kernel_rfl) ?_
                  dsimp only [Exit.then]
                  go_step
                  go_meet
                  exact ⟨_, _, rfl, rfl, fun e => ned10d9_25.out e.symm, md9_25.out, md10_20.out, d9_28.out, d10_28.out, B_28.out⟩
                exact brs_nil
              exact brs_nil
            exact brs_nil
          exact brs_nil
        exact brs_nil
      refine brs_cons (o := ?_) ?_ ?_ ?_
      rotate_left
      · (conv => (lhs; whnf; arg 1; whnf))
      · refine stepB_c (by rfl) (fun K hK => ?_)
        go_simp
        have hb : Below q0.heap.size q0 (q0.alloc (.cells z0 37)) := (Below.refl _ _).alloc (Nat.le_refl _) _
        have B_29 := Lib.hid (BX.out.trans (hb.mono BX.out.size))
        have R_29 := Lib.hid (hb.mono BX.out.size)
        have d9_29 := Lib.hid (NatAt.zero q0)
        have md9_29 : Hid (ww.heap.size ≤ q0.heap.size) := Lib.hid BX.out.size
        clear hb
        generalize (q0.alloc (.cells z0 37)) = q29 at *
        refine hK _ _ R_29.out ?_
        clear hK R_29
        generalize q0.heap.size = bd9_29 at *
        try simp only [Act.put, List.setIfInBounds_toArray, List.set_cons_zero, List.set_cons_succ]
        refine anyR_branch [2, 5] (by kernel_rfl) rfl ?_
        refine brs_cons (o := ?_) ?_ ?_ ?_
        rotate_left
        · (conv => (lhs; whnf; arg 1; whnf))
        · refine stepB_c (by rfl) (fun K hK => ?_)
          go_simp
          refine (one_any _).mono ?_
          rintro e q30 ⟨rfl, hb⟩
          have d9_30 := Lib.hid (d9_29.out.below hb)
          have B_30 := Lib.hid (B_29.out.trans (hb.mono B_29.out.size))
          have R_30 := Lib.hid (hb.mono B_29.out.size)
          clear hb
          refine hK _ _ R_30.out ?_
          clear hK R_30
          clear d9_29 B_29
          try simp only [Act.put, List.setIfInBounds_toArray, List.set_cons_zero, List.set_cons_succ]
          refine anyR_branch [3, 5] (by kernel_rfl) rfl ?_
          refine brs_cons (o := ?_) ?_ ?_ ?_
          rotate_left
          · (conv => (lhs; whnf; arg 1; whnf))
          · refine stepB_c (by rfl) (fun K hK => ?_)
            go_simp
            refine (residue_ok _ FM.out (fit_int (v := 1) (by decide)) F0.out FV.out).mono ?_
            rintro e q31 ⟨rfl, hb⟩
            have d9_31 := Lib.hid (d9_30.out.below hb)
            have B_31 := Lib.hid (B_30.out.trans (hb.mono B_30.out.size))
            have R_31 := Lib.hid (hb.mono B_30.out.size)
            clear hb
            refine hK _ _ R_31.out ?_
            clear hK R_31
            clear d9_30 B_30
            try simp only [Act.put, List.setIfInBounds_toArray, List.set_cons_zero, List.set_cons_succ]
            refine anyR_branch [5] (by kernel_rfl) rfl ?_
            refine brs_cons (o := ?_) ?_ ?_ ?_
            rotate_left
            · (conv => (lhs; whnf; arg 1; whnf))
            · refine stepB_c (by rfl) (fun K hK => ?_)
              go_simp
              have hb : Below q31.heap.size q31 (q31.alloc (.cells z0 37)) := (Below.refl _ _).alloc (Nat.le_refl _) _
              have d9_32 := Lib.hid (d9_31.out.below hb)
              have B_32 := Lib.hid (B_31.out.trans (hb.mono B_31.out.size))
              have R_32 := Lib.hid (hb.mono B_31.out.size)
              have d10_32 := Lib.hid (NatAt.zero q31)
              have md10_32 : Hid (ww.heap.size ≤ q31.heap.size) := Lib.hid B_31.out.size
              have ned9d10_32 := Lib.hid (Nat.ne_of_lt d9_31.out.lt)
              clear hb
              generalize (q31.alloc (.cells z0 37)) = q32 at *
              refine hK _ _ R_32.out ?_
              clear hK R_32
              generalize q31.heap.size = bd10_32 at *
              clear d9_31 B_31
              try simp only [Act.put, List.setIfInBounds_toArray, List.set_cons_zero, List.set_cons_succ]
              refine anyR_branch [6] (by kernel_rfl) rfl ?_
              refine brs_cons (o := ?_) ?_ ?_ ?_
              rotate_left
              · (conv => (lhs; whnf; arg 1; whnf))
              · refine stepB_c (by rfl) (fun K hK => ?_)
                refine wp_stN ntNat rfl rfl (m := 0) rfl d9_32.out ?_
                intro q33 hd hg
                have d9_33 := Lib.hid hd
                have d10_33 := Lib.hid (d10_32.out.grown hg (fun e => by injection e with e; exact ned9d10_32.out e.symm))
                have B_33 := Lib.hid (B_32.out.grown hg B_32.out.size (fun j e => by injection e with e; have := md9_29.out; omega))
                have R_33 : Hid (Below (ww.heap.size) q32 q33) := Lib.hid ((Below.refl _ _).grown hg B_32.out.size (fun j e => by injection e with e; have := md9_29.out; omega))
                clear hd hg
                refine hK _ _ R_33.out ?_
                clear hK R_33
                clear d9_32 d10_32 B_32
                try simp only [Act.put, List.setIfInBounds_toArray, List.set_cons_zero, List.set_cons_succ]
                refine anyR_branch [7] (by kernel_rfl) rfl ?_
                refine brs_cons (o := ?_) ?_ ?_ ?_
                rotate_left
                · (conv => (lhs; whnf; arg 1; whnf))
                · refine stepB_c (by rfl) (fun K hK => ?_)
                  refine wp_stN ntNat rfl rfl (m := v) rfl d10_33.out ?_
                  intro q34 hd hg
                  have d10_34 := Lib.hid hd
                  have d9_34 := Lib.hid (d9_33.out.grown hg (fun e => by injection e with e; exact ned9d10_32.out e))
                  have B_34 := Lib.hid (B_33.out.grown hg B_33.out.size (fun j e => by injection e with e; have := md10_32.out; omega))
                  have R_34 : Hid (Below (ww.heap.size) q33 q34) := Lib.hid ((Below.refl _ _).grown hg B_33.out.size (fun j e => by injection e with e; have := md10_32.out; omega))
                  clear hd hg
                  refine hK _ _ R_34.out ?_
                  clear hK R_34
                  clear d10_33 d9_33 B_33
                  try simp only [Act.put, List.setIfInBounds_toArray, List.set_cons_zero, List.set_cons_succ]
                  refine anyR_end (by kernel_rfl) ?_
                  dsimp only [Exit.then]
                  go_step
                  go_meet
                  exact ⟨_, _, rfl, rfl, fun e => ned9d10_32.out e, md9_29.out, md10_32.out, d9_34.out, d10_34.out, B_34.out⟩
                exact brs_nil
              exact brs_nil
            exact brs_nil
          refine brs_cons (o := ?_) ?_ ?_ ?_
          rotate_left
          · (conv => (lhs; whnf; arg 1; whnf))
          · refine stepB_c (by rfl) (fun K hK => ?_)
            go_simp
            have hb : Below q30.heap.size q30 (q30.alloc (.cells z0 37)) := (Below.refl _ _).alloc (Nat.le_refl _) _
            have d9_35 := Lib.hid (d9_30.out.below hb)
            have B_35 := Lib.hid (B_30.out.trans (hb.mono B_30.out.size))
            have R_35 := Lib.hid (hb.mono B_30.out.size)
            have d10_35 := Lib.hid (NatAt.zero q30)
            have md10_35 : Hid (ww.heap.size ≤ q30.heap.size) := Lib.hid B_30.out.size
            have ned9d10_35 := Lib.hid (Nat.ne_of_lt d9_30.out.lt)
            clear hb
            generalize (q30.alloc (.cells z0 37)) = q35 at *
            refine hK _ _ R_35.out ?_
            clear hK R_35
            generalize q30.heap.size = bd10_35 at *
            clear d9_30 B_30
            try simp only [Act.put, List.setIfInBounds_toArray, List.set_cons_zero, List.set_cons_succ]
            refine anyR_branch [3] (by kernel_rfl) rfl ?_
            refine brs_cons (o := ?_) ?_ ?_ ?_
            rotate_left
            · (conv => (lhs; whnf; arg 1; whnf))
            · refine stepB_c (by rfl) (fun K hK => ?_)
              go_simp
              refine (residue_ok _ FM.out (fit_int (v := 1) (by decide)) F0.out FV.out).mono ?_
              rintro e q36 ⟨rfl, hb⟩
              have d9_36 := Lib.hid (d9_35.out.below hb)
              have d10_36 := Lib.hid (d10_35.out.below hb)
              have B_36 := Lib.hid (B_35.out.trans (hb.mono B_35.out.size))
              have R_36 := Lib.hid (hb.mono B_35.out.size)
              clear hb
              refine hK _ _ R_36.out ?_
              clear hK R_36
              clear d9_35 d10_35 B_35
              try simp only [Act.put, List.setIfInBounds_toArray, List.set_cons_zero, List.set_cons_succ]
              refine anyR_branch [6] (by kernel_rfl) rfl ?_
              refine brs_cons (o := ?_) ?_ ?_ ?_
              rotate_left
              · (conv => (lhs; whnf; arg 1; whnf))
              · refine stepB_c (by rfl) (fun K hK => ?_)
                refine wp_stN ntNat rfl rfl (m := 0) rfl d9_36.out ?_
                intro q37 hd hg
                have d9_37 := Lib.hid hd
                have d10_37 := Lib.hid (d10_36.out.grown hg (fun e => by injection e with e; exact ned9d10_35.out e.symm))
                have B_37 := Lib.hid (B_36.out.grown hg B_36.out.size (fun j e => by injection e with e; have := md9_29.out; omega))
                have R_37 : Hid (Below (ww.heap.size) q36 q37) := Lib.hid ((Below.refl _ _).grown hg B_36.out.size (fun j e => by injection e with e; have := md9_29.out; omega))
                clear hd hg
                refine hK _ _ R_37.out ?_
                clear hK R_37
                clear d9_36 d10_36 B_36
                try simp only [Act.put, List.setIfInBounds_toArray, List.set_cons_zero, List.set_cons_succ]
                refine anyR_branch [7] (by kernel_rfl) rfl ?_
                refine brs_cons (o := ?_) ?_ ?_ ?_
                rotate_left
                · (conv => (lhs; whnf; arg 1; whnf))
                · refine stepB_c (by rfl) (fun K hK => ?_)
                  refine wp_stN ntNat rfl rfl (m := v) rfl d10_37.out ?_
                  intro q38 hd hg
                  have d10_38 := Lib.hid hd
                  have d9_38 := Lib.hid (d9_37.out.grown hg (fun e => by injection e with e; exact ned9d10_35.out e))
                  have B_38 := Lib.hid (B_37.out.grown hg B_37.out.size (fun j e => by injection e with e; have := md10_35.out; omega))
                  have R_38 : Hid (Below (ww.heap.size) q37 q38) := Lib.hid ((Below.refl _ _).grown hg B_37.out.size (fun j e => by injection e with e; have := md10_35.out; omega))
                  clear hd hg
                  refine hK _ _ R_38.out ?_
                  clear hK R_38
                  clear d10_37 d9_37 B_37
                  try simp only [Act.put, List.setIfInBounds_toArray, List.set_cons_zero, List.set_cons_succ]
                  refine anyR_end (by kernel_rfl) ?_
                  dsimp only [Exit.then]
                  go_step
                  go_meet
                  exact ⟨_, _, rfl, rfl, fun e => ned9d10_35.out e, md9_29.out, md10_35.out, d9_38.out, d10_38.out, B_38.out⟩
                exact brs_nil
              exact brs_nil
            exact brs_nil
          exact brs_nil
        refine brs_cons (o := ?_) ?_ ?_ ?_
        rotate_left
        · (conv => (lhs; whnf; arg 1; whnf))
        · refine stepB_c (by rfl) (fun K hK => ?_)
          go_simp
          have hb : Below q29.heap.size q29 (q29.alloc (.cells z0 37)) := (Below.refl _ _).alloc (Nat.le_refl _) _
          have d9_39 := Lib.hid (d9_29.out.below hb)
          have B_39 := Lib.hid (B_29.out.trans (hb.mono B_29.out.size))
          have R_39 := Lib.hid (hb.mono B_29.out.size)
          have d10_39 := Lib.hid (NatAt.zero q29)
          have md10_39 : Hid (ww.heap.size ≤ q29.heap.size) := Lib.hid B_29.out.size
          have ned9d10_39 := Lib.hid (Nat.ne_of_lt d9_29.out.lt)
          clear hb
          generalize (q29.alloc (.cells z0 37)) = q39 at *
          refine hK _ _ R_39.out ?_
          clear hK R_39
          generalize q29.heap.size = bd10_39 at *
          clear d9_29 B_29
          try simp only [Act.put, List.setIfInBounds_toArray, List.set_cons_zero, List.set_cons_succ]
          refine anyR_branch [2] (by kernel_rfl) rfl ?_
          refine brs_cons (o := ?_) ?_ ?_ ?_
          rotate_left
          · (conv => (lhs; whnf; arg 1; whnf))
          · refine stepB_c (by rfl) (fun K hK => ?_)
            go_simp
            refine (one_any _).mono ?_
            rintro e q40 ⟨rfl, hb⟩
            have d9_40 := Lib.hid (d9_39.out.below hb)
            have d10_40 := Lib.hid (d10_39.out.below hb)
            have B_40 := Lib.hid (B_39.out.trans (hb.mono B_39.out.size))
            have R_40 := Lib.hid (hb.mono B_39.out.size)
            clear hb
            refine hK _ _ R_40.out ?_
            clear hK R_40
            clear d9_39 d10_39 B_39
            try simp only [Act.put, List.setIfInBounds_toArray, List.set_cons_zero, List.set_cons_succ]
            refine anyR_branch [3] (by kernel_rfl) rfl ?_
            refine brs_cons (o := ?_) ?_ ?_ ?_
            rotate_left
            · (conv => (lhs; whnf; arg 1; whnf))
            · refine stepB_c (by rfl) (fun K hK => ?_)
              go_simp
              refine (residue_ok _ FM.out (fit_int (v := 1) (by decide)) F0.out FV.out).mono ?_
              rintro e q41 ⟨rfl, hb⟩
              have d9_41 := Lib.hid (d9_40.out.below hb)
              have d10_41 := Lib.hid (d10_40.out.below hb)
              have B_41 := Lib.hid (B_40.out.trans (hb.mono B_40.out.size))
              have R_41 := Lib.hid (hb.mono B_40.out.size)
              clear hb
              refine hK _ _ R_41.out ?_
              clear hK R_41
              clear d9_40 d10_40 B_40
              try simp only [Act.put, List.setIfInBounds_toArray, List.set_cons_zero, List.set_cons_succ]
              refine anyR_branch [6] (by kernel_rfl) rfl ?_
              refine brs_cons (o := ?_) ?_ ?_ ?_
              rotate_left
              · (conv => (lhs; whnf; arg 1; whnf))
              · refine stepB_c (by rfl) (fun K hK => ?_)
                refine wp_stN ntNat rfl rfl (m := 0) rfl d9_41.out ?_
                intro q42 hd hg
                have d9_42 := Lib.hid hd
                have d10_42 := Lib.hid (d10_41.out.grown hg (fun e => by injection e with e; exact ned9d10_39.out e.symm))
                have B_42 := Lib.hid (B_41.out.grown hg B_41.out.size (fun j e => by injection e with e; have := md9_29.out; omega))
                have R_42 : Hid (Below (ww.heap.size) q41 q42) := Lib.hid ((Below.refl _ _).grown hg B_41.out.size (fun j e => by injection e with e; have := md9_29.out; omega))
                clear hd hg
                refine hK _ _ R_42.out ?_
                clear hK R_42
                clear d9_41 d10_41 B_41
                try simp only [Act.put, List.setIfInBounds_toArray, List.set_cons_zero, List.set_cons_succ]
                refine anyR_branch [7] (by kernel_rfl) rfl ?_
                refine brs_cons (o := ?_) ?_ ?_ ?_
                rotate_left
                · (conv => (lhs; whnf; arg 1; whnf))
                · refine stepB_c (by rfl) (fun K hK => ?_)
                  refine wp_stN ntNat rfl rfl (m := v) rfl d10_42.out ?_
                  intro q43 hd hg
                  have d10_43 := Lib.hid hd
                  have d9_43 := Lib.hid (d9_42.out.grown hg (fun e => by injection e with e; exact ned9d10_39.out e))
                  have B_43 := Lib.hid (B_42.out.grown hg B_42.out.size (fun j e => by injection e with e; have := md10_39.out; omega))
                  have R_43 : Hid (Below (ww.heap.size) q42 q43) := Lib.hid ((Below.refl _ _).grown hg B_42.out.size (fun j e => by injection e with e; have := md10_39.out; omega))
                  clear hd hg
                  refine hK _ _ R_43.out ?_
                  clear hK R_43
                  clear d10_42 d9_42 B_42
                  try simp only [Act.put, List.setIfInBounds_toArray, List.set_cons_zero, List.set_cons_succ]
                  refine anyR_end (by kernel_rfl) ?_
                  dsimp only [Exit.then]
                  go_step
                  go_meet
                  exact ⟨_, _, rfl, rfl, fun e => ned9d10_39.out e, md9_29.out, md10_39.out, d9_43.out, d10_43.out, B_43.out⟩
                exact brs_nil
              exact brs_nil
            exact brs_nil
          exact brs_nil
        exact brs_nil
      refine brs_cons (o := ?_) ?_ ?_ ?_
      rotate_left
      · (conv => (lhs; whnf; arg 1; whnf))
      · refine stepB_c (by rfl) (fun K hK => ?_)
        go_simp
        have hb : Below q0.heap.size q0 (q0.alloc (.cells z0 37)) := (Below.refl _ _).alloc (Nat.le_refl _) _
        have B_44 := Lib.hid (BX.out.trans (hb.mono BX.out.size))
        have R_44 := Lib.hid (hb.mono BX.out.size)
        have d10_44 := Lib.hid (NatAt.zero q0)
        have md10_44 : Hid (ww.heap.size ≤ q0.heap.size) := Lib.hid BX.out.size
        clear hb
        generalize (q0.alloc (.cells z0 37)) = q44 at *
        refine hK _ _ R_44.out ?_
        clear hK R_44
        generalize q0.heap.size = bd10_44 at *
        try simp only [Act.put, List.setIfInBounds_toArray, List.set_cons_zero, List.set_cons_succ]
        refine anyR_branch [2, 4] (by kernel_rfl) rfl ?_
        refine brs_cons (o := ?_) ?_ ?_ ?_
        rotate_left
        · (conv => (lhs; whnf; arg 1; whnf))
        · refine stepB_c (by rfl) (fun K hK => ?_)
          go_simp
          refine (one_any _).mono ?_
          rintro e q45 ⟨rfl, hb⟩
          have d10_45 := Lib.hid (d10_44.out.below hb)
          have B_45 := Lib.hid (B_44.out.trans (hb.mono B_44.out.size))
          have R_45 := Lib.hid (hb.mono B_44.out.size)
          clear hb
          refine hK _ _ R_45.out ?_
          clear hK R_45
          clear d10_44 B_44
          try simp only [Act.put, List.setIfInBounds_toArray, List.set_cons_zero, List.set_cons_succ]
          refine anyR_branch [3, 4] (by kernel_rfl) rfl ?_
          refine brs_cons (o := ?_) ?_ ?_ ?_
          rotate_left
          · (conv => (lhs; whnf; arg 1; whnf))
          · refine stepB_c (by rfl) (fun K hK => ?_)
            go_simp
            refine (residue_ok _ FM.out (fit_int (v := 1) (by decide)) F0.out FV.out).mono ?_
            rintro e q46 ⟨rfl, hb⟩
            have d10_46 := Lib.hid (d10_45.out.below hb)
            have B_46 := Lib.hid (B_45.out.trans (hb.mono B_45.out.size))
            have R_46 := Lib.hid (hb.mono B_45.out.size)
            clear hb
            refine hK _ _ R_46.out ?_
            clear hK R_46
            clear d10_45 B_45
            try simp only [Act.put, List.setIfInBounds_toArray, List.set_cons_zero, List.set_cons_succ]
            refine anyR_branch [4] (by kernel_rfl) rfl ?_
            refine brs_cons (o := ?_) ?_ ?_ ?_
            rotate_left
            · (conv => (lhs; whnf; arg 1; whnf))
            · refine stepB_c (by rfl) (fun K hK => ?_)
              go_simp
              have hb : Below q46.heap.size q46 (q46.alloc (.cells z0 37)) := (Below.refl _ _).alloc (Nat.le_refl _) _
              have d10_47 := Lib.hid (d10_46.out.below hb)
              have B_47 := Lib.hid (B_46.out.trans (hb.mono B_46.out.size))
              have R_47 := Lib.hid (hb.mono B_46.out.size)
              have d9_47 := Lib.hid (NatAt.zero q46)
              have md9_47 : Hid (ww.heap.size ≤ q46.heap.size) := Lib.hid B_46.out.size
              have ned10d9_47 := Lib.hid (Nat.ne_of_lt d10_46.out.lt)
              clear hb
              generalize (q46.alloc (.cells z0 37)) = q47 at *
              refine hK _ _ R_47.out ?_
              clear hK R_47
              generalize q46.heap.size = bd9_47 at *
              clear d10_46 B_46
              try simp only [Act.put, List.setIfInBounds_toArray, List.set_cons_zero, List.set_cons_succ]
              refine anyR_branch [6] (by kernel_rfl) rfl ?_
              refine brs_cons (o := ?_) ?_ ?_ ?_
              rotate_left
              · (conv => (lhs; whnf; arg 1; whnf))
              · refine stepB_c (by rfl) (fun K hK => ?_)
                refine wp_stN ntNat rfl rfl (m := 0) rfl d9_47.out ?_
                intro q48 hd hg
                have d9_48 := Lib.hid hd
                have d10_48 := Lib.hid (d10_47.out.grown hg (fun e => by injection e with e; exact ned10d9_47.out e))
                have B_48 := Lib.hid (B_47.out.grown hg B_47.out.size (fun j e => by injection e with e; have := md9_47.out; omega))
                have R_48 : Hid (Below (ww.heap.size) q47 q48) := Lib.hid ((Below.refl _ _).grown hg B_47.out.size (fun j e => by injection e with e; have := md9_47.out; omega))
                clear hd hg
                refine hK _ _ R_48.out ?_
                clear hK R_48
                clear d9_47 d10_47 B_47
                try simp only [Act.put, List.setIfInBounds_toArray, List.set_cons_zero, List.set_cons_succ]
                refine anyR_branch [7] (by kernel_rfl) rfl ?_
                refine brs_cons (o := ?_) ?_ ?_ ?_
                rotate_left
                · (conv => (lhs; whnf; arg 1; whnf))
                · refine stepB_c (by rfl) (fun K hK => ?_)
                  refine wp_stN ntNat rfl rfl (m := v) rfl d10_48.out ?_
                  intro q49 hd hg
                  have d10_49 := Lib.hid hd
                  have d9_49 := Lib.hid (d9_48.out.grown hg (fun e => by injection e with e; exact ned10d9_47.out e.symm))
                  have B_49 := Lib.hid (B_48.out.grown hg B_48.out.size (fun j e => by injection e with e; have := md10_44.out; omega))
                  have R_49 : Hid (Below (ww.heap.size) q48 q49) := Lib.hid ((Below.refl _ _).grown hg B_48.out.size (fun j e => by injection e with e; have := md10_44.out; omega))
                  clear hd hg
                  refine hK _ _ R_49.out ?_
                  clear hK R_49
                  clear d10_48 d9_48 B_48
                  try simp only [Act.put, List.setIfInBounds_toArray, List.set_cons_zero, List.set_cons_succ]
                  refine anyR_end (by kernel_rfl) ?_
                  dsimp only [Exit.then]
                  go_step
                  go_meet
                  exact ⟨_, _, rfl, rfl, fun e => ned10d9_47.out e.symm, md9_47.out, md10_44.out, d9_49.out, d10_49.out, B_49.out⟩
                exact brs_nil
              exact brs_nil
            exact brs_nil
          refine brs_cons (o := ?_) ?_ ?_ ?_
          rotate_left
          · (conv => (lhs; whnf; arg 1; whnf))
          · refine stepB_c (by rfl) (fun K hK => ?_)
            go_simp
            have hb : Below q45.heap.size q45 (q45.alloc (.cells z0 37)) := (Below.refl _ _).alloc (Nat.le_refl _) _
            have d10_50 := Lib.hid (d10_45.out.below hb)
            have B_50 := Lib.hid (B_45.out.trans (hb.mono B_45.out.size))
            have R_50 := Lib.hid (hb.mono B_45.out.size)
            have d9_50 := Lib.hid (NatAt.zero q45)
            have md9_50 : Hid (ww.heap.size ≤ q45.heap.size) := Lib.hid B_45.out.size
            have ned10d9_50 := Lib.hid (Nat.ne_of_lt d10_45.out.lt)
            clear hb
            generalize (q45.alloc (.cells z0 37)) = q50 at *
            refine hK _ _ R_50.out ?_
            clear hK R_50
            generalize q45.heap.size = bd9_50 at *
            clear d10_45 B_45
            try simp only [Act.put, List.setIfInBounds_toArray, List.set_cons_zero, List.set_cons_succ]
            refine anyR_branch [3] (by kernel_rfl) rfl ?_
            refine brs_cons (o := ?_) ?_ ?_ ?_
            rotate_left
            · (conv => (lhs; whnf; arg 1; whnf))
            · refine stepB_c (by rfl) (fun K hK => ?_)
              go_simp
              refine (residue_ok _ FM.out (fit_int (v := 1) (by decide)) F0.out FV.out).mono ?_
              rintro e q51 ⟨rfl, hb⟩
              have d10_51 := Lib.hid (d10_50.out.below hb)
              have d9_51 := Lib.hid (d9_50.out.below hb)
              have B_51 := Lib.hid (B_50.out.trans (hb.mono B_50.out.size))
              have R_51 := Lib.hid (hb.mono B_50.out.size)
              clear hb
              refine hK _ _ R_51.out ?_
              clear hK R_51
              clear d10_50 d9_50 B_50
              try simp only [Act.put, List.setIfInBounds_toArray, List.set_cons_zero, List.set_cons_succ]
              refine anyR_branch [6] (by kernel_rfl) rfl ?_
              refine brs_cons (o := ?_) ?_ ?_ ?_
              rotate_left
              · (conv => (lhs; whnf; arg 1; whnf))
              · refine stepB_c (by rfl) (fun K hK => ?_)
                refine wp_stN ntNat rfl rfl (m := 0) rfl d9_51.out ?_
                intro q52 hd hg
                have d9_52 := Lib.hid hd
                have d10_52 := Lib.hid (d10_51.out.grown hg (fun e => by injection e with e; exact ned10d9_50.out e))
                have B_52 := Lib.hid (B_51.out.grown hg B_51.out.size (fun j e => by injection e with e; have := md9_50.out; omega))
                have R_52 : Hid (Below (ww.heap.size) q51 q52) := Lib.hid ((Below.refl _ _).grown hg B_51.out.size (fun j e => by injection e with e; have := md9_50.out; omega))
                clear hd hg
                refine hK _ _ R_52.out ?_
                clear hK R_52
                clear d9_51 d10_51 B_51
                try simp only [Act.put, List.setIfInBounds_toArray, List.set_cons_zero, List.set_cons_succ]
                refine anyR_branch [7] (by kernel_rfl) rfl ?_
                refine brs_cons (o := ?_) ?_ ?_ ?_
                rotate_left
                · (conv => (lhs; whnf; arg 1; whnf))
                · refine stepB_c (by rfl) (fun K hK => ?_)
                  refine wp_stN ntNat rfl rfl (m := v) rfl d10_52.out ?_
                  intro q53 hd hg
                  have d10_53 := Lib.hid hd
                  have d9_53 := Lib.hid (d9_52.out.grown hg (fun e => by injection e with e; exact ned10d9_50.out e.symm))
                  have B_53 := Lib.hid (B_52.out.grown hg B_52.out.size (fun j e => by injection e with e; have := md10_44.out; omega))
                  have R_53 : Hid (Below (ww.heap.size) q52 q53) := Lib.hid ((Below.refl _ _).grown hg B_52.out.size (fun j e => by injection e with e; have := md10_44.out; omega))
                  clear hd hg
                  refine hK _ _ R_53.out ?_
                  clear hK R_53
                  clear d10_52 d9_52 B_52
                  try simp only [Act.put, List.setIfInBounds_toArray, List.set_cons_zero, List.set_cons_succ]
                  refine anyR_end (by kernel_rfl) ?_
                  dsimp only [Exit.then]
                  go_step
                  go_meet
                  exact ⟨_, _, rfl, rfl, fun e => ned10d9_50.out e.symm, md9_50.out, md10_44.out, d9_53.out, d10_53.out, B_53.out⟩
                exact brs_nil
              exact brs_nil
            exact brs_nil
          exact brs_nil
        refine brs_cons (o := ?_) ?_ ?_ ?_
        rotate_left
        · (conv => (lhs; whnf; arg 1; whnf))
        · refine stepB_c (by rfl) (fun K hK => ?_)
          go_simp
          have hb : Below q44.heap.size q44 (q44.alloc (.cells z0 37)) := (Below.refl _ _).alloc (Nat.le_refl _) _
          have d10_54 := Lib.hid (d10_44.out.below hb)
          have B_54 := Lib.hid (B_44.out.trans (hb.mono B_44.out.size))
          have R_54 := Lib.hid (hb.mono B_44.out.size)
          have d9_54 := Lib.hid (NatAt.zero q44)
          have md9_54 : Hid (ww.heap.size ≤ q44.heap.size) := Lib.hid B_44.out.size
          have ned10d9_54 := Lib.hid (Nat.ne_of_lt d10_44.out.lt)
          clear hb
          generalize (q44.alloc (.cells z0 37)) = q54 at *
          refine hK _ _ R_54.out ?_
          clear hK R_54
          generalize q44.heap.size = bd9_54 at *
          clear d10_44 B_44
          try simp only [Act.put, List.setIfInBounds_toArray, List.set_cons_zero, List.set_cons_succ]
          refine anyR_branch [2] (by kernel_rfl) rfl ?_
          refine brs_cons (o := ?_) ?_ ?_ ?_
          rotate_left
          · (conv => (lhs; whnf; arg 1; whnf))
          · refine stepB_c (by rfl) (fun K hK => ?_)
            go_simp
            refine (one_any _).mono ?_
            rintro e q55 ⟨rfl, hb⟩
            have d10_55 := Lib.hid (d10_54.out.below hb)
            have d9_55 := Lib.hid (d9_54.out.below hb)
            have B_55 := Lib.hid (B_54.out.trans (hb.mono B_54.out.size))
            have R_55 := Lib.hid (hb.mono B_54.out.size)
            clear hb
            refine hK _ _ R_55.out ?_
            clear hK R_55
            clear d10_54 d9_54 B_54
            try simp only [Act.put, List.setIfInBounds_toArray, List.set_cons_zero, List.set_cons_succ]
            refine anyR_branch [3] (by kernel_rfl) rfl ?_
            refine brs_cons (o := ?_) ?_ ?_ ?_
            rotate_left
            · (conv => (lhs; whnf; arg 1; whnf))
            · refine stepB_c (by rfl) (fun K hK => ?_)
              go_simp
              refine (residue_ok _ FM.out (fit_int (v := 1) (by decide)) F0.out FV.out).mono ?_
              rintro e q56 ⟨rfl, hb⟩
              have d10_56 := Lib.hid (d10_55.out.below hb)
              have d9_56 := Lib.hid (d9_55.out.below hb)
              have B_56 := Lib.hid (B_55.out.trans (hb.mono B_55.out.size))
              have R_56 := Lib.hid (hb.mono B_55.out.size)
              clear hb
              refine hK _ _ R_56.out ?_
              clear hK R_56
              clear d10_55 d9_55 B_55
              try simp only [Act.put, List.setIfInBounds_toArray, List.set_cons_zero, List.set_cons_succ]
              refine anyR_branch [6] (by kernel_rfl) rfl ?_
              refine brs_cons (o := ?_) ?_ ?_ ?_
              rotate_left
              · (conv => (lhs; whnf; arg 1; whnf))
              · refine stepB_c (by rfl) (fun K hK => ?_)
                refine wp_stN ntNat rfl rfl (m := 0) rfl d9_56.out ?_
                intro q57 hd hg
                have d9_57 := Lib.hid hd
                have d10_57 := Lib.hid (d10_56.out.grown hg (fun e => by injection e with e; exact ned10d9_54.out e))
                have B_57 := Lib.hid (B_56.out.grown hg B_56.out.size (fun j e => by injection e with e; have := md9_54.out; omega))
                have R_57 : Hid (Below (ww.heap.size) q56 q57) := Lib.hid ((Below.refl _ _).grown hg B_56.out.size (fun j e => by injection e with e; have := md9_54.out; omega))
                clear hd hg
                refine hK _ _ R_57.out ?_
                clear hK R_57
                clear d9_56 d10_56 B_56
                try simp only [Act.put, List.setIfInBounds_toArray, List.set_cons_zero, List.set_cons_succ]
                refine anyR_branch [7] (by kernel_rfl) rfl ?_
                refine brs_cons (o := ?_) ?_ ?_ ?_
                rotate_left
                · (conv => (lhs; whnf; arg 1; whnf))
                · refine stepB_c (by rfl) (fun K hK => ?_)
                  refine wp_stN ntNat rfl rfl (m := v) rfl d10_57.out ?_
                  intro q58 hd hg
                  have d10_58 := Lib.hid hd
                  have d9_58 := Lib.hid (d9_57.out.grown hg (fun e => by injection e with e; exact ned10d9_54.out e.symm))
                  have B_58 := Lib.hid (B_57.out.grown hg B_57.out.size (fun j e => by injection e with e; have := md10_44.out; omega))
                  have R_58 : Hid (Below (ww.heap.size) q57 q58) := Lib.hid ((Below.refl _ _).grown hg B_57.out.size (fun j e => by injection e with e; have := md10_44.out; omega))
                  clear hd hg
                  refine hK _ _ R_58.out ?_
                  clear hK R_58
                  clear d10_57 d9_57 B_57
                  try simp only [Act.put, List.setIfInBounds_toArray, List.set_cons_zero, List.set_cons_succ]
                  refine anyR_end (by kernel_rfl) ?_
                  dsimp only [Exit.then]
                  go_step
                  go_meet
                  exact ⟨_, _, rfl, rfl, fun e => ned10d9_54.out e.symm, md9_54.out, md10_44.out, d9_58.out, d10_58.out, B_58.out⟩
                exact brs_nil
              exact brs_nil
            exact brs_nil
          exact brs_nil
        exact brs_nil
      exact brs_nil
    case rest =>
      obtain ⟨B9, B10, rfl, rfl, hne, hm9, hm10, h9, h10, hB⟩ := hcut
      have L7 : Hid (B7 < ww.heap.size) := Lib.hid D7.out.lt
      have L8 : Hid (B8 < ww.heap.size) := Lib.hid D8.out.lt
      have E9 := Lib.hid h9
      have E10 := Lib.hid h10
      have N90 := Lib.hid hne
      have K9 := Lib.hid hm9
      have K10 := Lib.hid hm10
      have E7 := Lib.hid (D7.out.below hB)
      have E8 := Lib.hid (D8.out.below hB)
      have R_e := Lib.hid (R_c.out.below hB)
      have N_e := Lib.hid (N_c.out.below hB)
      have W_e := Lib.hid (W_c.out.trans (hB.mono W_c.out.size))
      clear hne hm9 hm10 h9 h10 hB D7 D8 R_c N_c W_c
      have hpos : 0 < m := Nat.pos_of_ne_zero F0.out
      have G0 := Lib.hid hpos
      have GU : Hid (u < m) := Lib.hid (by rw [← FU.out]; exact Nat.mod_lt _ hpos)
      have GV : Hid (v < m) := Lib.hid (by rw [← FV.out]; exact Nat.mod_lt _ hpos)
      have GI : Hid (invF m u m u 0 v = (r, x)) := Lib.hid (by have h := FR.out; unfold invS at h; rwa [FU.out, FV.out] at h)
      have O1 : Hid (w.heap.size + 1 + 1 < bN ∧ bN < B7 ∧ bN < B8 ∧ B7 < B9 ∧ B7 < B10 ∧ B8 < B9 ∧ B8 < B10) := Lib.hid (by have := LA.out; have := LN.out; have := K7.out; have := K8.out; have := L7.out; have := L8.out; have := K9.out; have := K10.out; omega)
      clear hpos LA LB LN K7 K8 L7 L8 K9 K10 LR LQ FU FV FR FZ
      go_wp2_with fail
      go_loopg [13] u (fun f _ wr => ∃ rr s xx y, s ≤ f ∧ invF m f rr s xx y = (r, x) ∧ Fit rr ∧ s < m ∧ xx < m ∧ y < m ∧ NatAt wr B7 rr ∧ NatAt wr B8 s ∧ NatAt wr B9 xx ∧ NatAt wr B10 y ∧ NatAt wr bN m ∧ NatAt wr (w.heap.size + 1 + 1) 0 ∧ Below w.heap.size w wr)
      case atStart => exact ⟨m, u, 0, v, Nat.le_refl _, GI.out, FM.out, GU.out, G0.out, GV.out, E7.out, E8.out, E9.out, E10.out, N_e.out, R_e.out, W_e.out⟩
      case round =>
        clear E7 E8 E9 E10 N_e R_e W_e GI GU GV
        obtain ⟨rr, s, xx, y, hsf, hinv, hfr, hs, hx, hy, h7, h8, h9, h10, hN, hR, hW⟩ := hrel
        have P_0 := Lib.hid h7
        have S_0 := Lib.hid h8
        have X_0 := Lib.hid h9
        have Y_0 := Lib.hid h10
        have M_0 := Lib.hid hN
        have R_0 := Lib.hid hR
        have W_0 := Lib.hid hW
        have GP := Lib.hid hfr
        have GS := Lib.hid hs
        have GX := Lib.hid hx
        have GY := Lib.hid hy
        have GF : Hid (Fit s) := Lib.hid (Nat.lt_trans hs FM.out)
        have HF := Lib.hid hsf
        have HI := Lib.hid hinv
        clear hsf hinv hfr hs hx hy h7 h8 h9 h10 hN hR hW
        by_cases hs0 : s = 0
        · have HZ : Hid (decide (s = 0) = true) := Lib.hid (decide_eq_true hs0)
          have hi := HI.out
          rw [hs0, invF_zero] at hi
          injection hi with hi1 hi2
          subst hi1
          subst hi2
          clear hs0 HI HF
          go_wp2_with (first | go_skip | (refine wpl_ldN ntNat rfl rfl rfl P_0.out ?_) | (refine wpl_ldN_g ntNat ?hw rfl rfl P_0.out ?_; (case hw => rfl)) | (refine wpl_ldN ntNat rfl rfl rfl S_0.out ?_) | (refine wpl_ldN_g ntNat ?hw rfl rfl S_0.out ?_; (case hw => rfl)) | (refine wpl_ldN ntNat rfl rfl rfl X_0.out ?_) | (refine wpl_ldN_g ntNat ?hw rfl rfl X_0.out ?_; (case hw => rfl)) | (refine wpl_ldN ntNat rfl rfl rfl Y_0.out ?_) | (refine wpl_ldN_g ntNat ?hw rfl rfl Y_0.out ?_; (case hw => rfl)) | (refine wpl_ldN ntMod rfl rfl rfl M_0.out ?_) | (refine wpl_ldN_g ntMod ?hw rfl rfl M_0.out ?_; (case hw => rfl)) | (refine wpl_ldN ntNat rfl rfl rfl M_0.out ?_) | (refine wpl_ldN_g ntNat ?hw rfl rfl M_0.out ?_; (case hw => rfl)) | (refine wpl_ldN ntNat rfl rfl rfl R_0.out ?_) | (refine wpl_ldN_g ntNat ?hw rfl rfl R_0.out ?_; (case hw => rfl)))
          refine (isZero_ok _ GF.out HZ.out).mono ?_
          rintro e p1 ⟨rfl, hb⟩
          have P_1 := Lib.hid (P_0.out.below hb)
          have S_1 := Lib.hid (S_0.out.below hb)
          have X_1 := Lib.hid (X_0.out.below hb)
          have Y_1 := Lib.hid (Y_0.out.below hb)
          have M_1 := Lib.hid (M_0.out.below hb)
          have R_1 := Lib.hid (R_0.out.below hb)
          have W_1 := Lib.hid (W_0.out.trans (hb.mono W_0.out.size))
          clear hb P_0 S_0 X_0 Y_0 M_0 R_0 W_0
          go_wp2_with (first | go_skip | (refine wpl_ldN ntNat rfl rfl rfl P_1.out ?_) | (refine wpl_ldN_g ntNat ?hw rfl rfl P_1.out ?_; (case hw => rfl)) | (refine wpl_ldN ntNat rfl rfl rfl S_1.out ?_) | (refine wpl_ldN_g ntNat ?hw rfl rfl S_1.out ?_; (case hw => rfl)) | (refine wpl_ldN ntNat rfl rfl rfl X_1.out ?_) | (refine wpl_ldN_g ntNat ?hw rfl rfl X_1.out ?_; (case hw => rfl)) | (refine wpl_ldN ntNat rfl rfl rfl Y_1.out ?_) | (refine wpl_ldN_g ntNat ?hw rfl rfl Y_1.out ?_; (case hw => rfl)) | (refine wpl_ldN ntMod rfl rfl rfl M_1.out ?_) | (refine wpl_ldN_g ntMod ?hw rfl rfl M_1.out ?_; (case hw => rfl)) | (refine wpl_ldN ntNat rfl rfl rfl M_1.out ?_) | (refine wpl_ldN_g ntNat ?hw rfl rfl M_1.out ?_; (case hw => rfl)) | (refine wpl_ldN ntNat rfl rfl rfl R_1.out ?_) | (refine wpl_ldN_g ntNat ?hw rfl rfl R_1.out ?_; (case hw => rfl)))
          by_cases h1 : rr = 1
          · skip
            have H1 : Hid ((!decide (rr = 1)) = false) := Lib.hid (by simp [h1])
            have HQ := Lib.hid h1
            clear h1
            refine region_road Later [(0, true), (1, false), (2, true)] (by kernel_rfl) (by kernel_rfl) (by kernel_rfl) (by kernel_rfl) (by kernel_rfl) (by kernel_rfl) later_refl later_trans (fun _ _ d _ _ h => by cases d <;> exact h) ?_
            have P_2 := Lib.hid (P_1.out.below ((Below.refl p1.heap.size p1).drew))
            have S_2 := Lib.hid (S_1.out.below ((Below.refl p1.heap.size p1).drew))
            have X_2 := Lib.hid (X_1.out.below ((Below.refl p1.heap.size p1).drew))
            have Y_2 := Lib.hid (Y_1.out.below ((Below.refl p1.heap.size p1).drew))
            have M_2 := Lib.hid (M_1.out.below ((Below.refl p1.heap.size p1).drew))
            have R_2 := Lib.hid (R_1.out.below ((Below.refl p1.heap.size p1).drew))
            have W_2 := Lib.hid (W_1.out.trans (((Below.refl p1.heap.size p1).drew).mono W_1.out.size))
            clear P_1 S_1 X_1 Y_1 M_1 R_1 W_1
            generalize p1.drew = d2 at P_2 S_2 X_2 Y_2 M_2 R_2 W_2 ⊢
            refine seqR_at (o := ?_) ?_ ?_
            rotate_left
            · (conv => (lhs; whnf; arg 1; whnf))
            refine seqR_y (v := ?_) (by rfl) (fun W hW => ?_) ?_
            rotate_left
            · (refine exec_ldN (x := .tmp 7) ntNat ?_ ?_ (P_2.out.below hW)) <;> rfl
            try simp only [Act.put, List.setIfInBounds_toArray, List.set_cons_zero, List.set_cons_succ]
            refine seqR_at (o := ?_) ?_ ?_
            rotate_left
            · (conv => (lhs; whnf; arg 1; whnf))
            refine seqR_c (by rfl) (fun K hK => ?_)
            go_simp
            refine (one_any _).mono ?_
            rintro e p3 ⟨rfl, hb⟩
            have P_3 := Lib.hid (P_2.out.below hb)
            have S_3 := Lib.hid (S_2.out.below hb)
            have X_3 := Lib.hid (X_2.out.below hb)
            have Y_3 := Lib.hid (Y_2.out.below hb)
            have M_3 := Lib.hid (M_2.out.below hb)
            have R_3 := Lib.hid (R_2.out.below hb)
            have W_3 := Lib.hid (W_2.out.trans (hb.mono W_2.out.size))
            refine hK _ _ hb ?_
            clear hK K hb P_2 S_2 X_2 Y_2 M_2 R_2 W_2
            try simp only [Act.put, List.setIfInBounds_toArray, List.set_cons_zero, List.set_cons_succ]
            refine seqR_at (o := ?_) ?_ ?_
            rotate_left
            · (conv => (lhs; whnf; arg 1; whnf))
            refine seqR_y (v := ?_) (by rfl) (fun W hW => ?_) ?_
            rotate_left
            · (refine exec_neN (x := .tmp 49) (y := .tmp 50) (t' := 37) (a := rr) (b := 1) ?_ ?_ ?_ GP.out (small_fit' (by decide))) <;> rfl
            simp only [H1.out]
            try simp only [Act.put, List.setIfInBounds_toArray, List.set_cons_zero, List.set_cons_succ]
            refine seqR_end ?_
            go_wp2_with (first | go_skip | (refine wpl_ldN ntNat rfl rfl rfl P_3.out ?_) | (refine wpl_ldN_g ntNat ?hw rfl rfl P_3.out ?_; (case hw => rfl)) | (refine wpl_ldN ntNat rfl rfl rfl S_3.out ?_) | (refine wpl_ldN_g ntNat ?hw rfl rfl S_3.out ?_; (case hw => rfl)) | (refine wpl_ldN ntNat rfl rfl rfl X_3.out ?_) | (refine wpl_ldN_g ntNat ?hw rfl rfl X_3.out ?_; (case hw => rfl)) | (refine wpl_ldN ntNat rfl rfl rfl Y_3.out ?_) | (refine wpl_ldN_g ntNat ?hw rfl rfl Y_3.out ?_; (case hw => rfl)) | (refine wpl_ldN ntMod rfl rfl rfl M_3.out ?_) | (refine wpl_ldN_g ntMod ?hw rfl rfl M_3.out ?_; (case hw => rfl)) | (refine wpl_ldN ntNat rfl rfl rfl M_3.out ?_) | (refine wpl_ldN_g ntNat ?hw rfl rfl M_3.out ?_; (case hw => rfl)) | (refine wpl_ldN ntNat rfl rfl rfl R_3.out ?_) | (refine wpl_ldN_g ntNat ?hw rfl rfl R_3.out ?_; (case hw => rfl)) | (refine wpl_stN ntNat rfl rfl rfl rfl R_3.out ?_; intro z4 hn hg; have := O1.out; have W_4 := Lib.hid (W_3.out.grown hg W_3.out.size (fun j e => by injection e with e; omega)); have R_4 := Lib.hid hn; clear hn hg W_3 P_3 S_3 X_3 Y_3 M_3 R_3))
            refine bodyPost_ret (results_nat rfl _ _ rfl R_4.out) rfl ?_
            unfold RetI
            rw [if_pos HQ.out, if_pos HQ.out]
            exact ⟨rfl, W_4.out⟩
          · skip
            have H1 : Hid ((!decide (rr = 1)) = true) := Lib.hid (by simp [h1])
            have HQ := Lib.hid h1
            clear h1
            refine region_road Later [(0, true), (1, false), (2, true)] (by kernel_rfl) (by kernel_rfl) (by kernel_rfl) (by kernel_rfl) (by kernel_rfl) (by kernel_rfl) later_refl later_trans (fun _ _ d _ _ h => by cases d <;> exact h) ?_
            have P_2 := Lib.hid (P_1.out.below ((Below.refl p1.heap.size p1).drew))
            have S_2 := Lib.hid (S_1.out.below ((Below.refl p1.heap.size p1).drew))
            have X_2 := Lib.hid (X_1.out.below ((Below.refl p1.heap.size p1).drew))
            have Y_2 := Lib.hid (Y_1.out.below ((Below.refl p1.heap.size p1).drew))
            have M_2 := Lib.hid (M_1.out.below ((Below.refl p1.heap.size p1).drew))
            have R_2 := Lib.hid (R_1.out.below ((Below.refl p1.heap.size p1).drew))
            have W_2 := Lib.hid (W_1.out.trans (((Below.refl p1.heap.size p1).drew).mono W_1.out.size))
            clear P_1 S_1 X_1 Y_1 M_1 R_1 W_1
            generalize p1.drew = d2 at P_2 S_2 X_2 Y_2 M_2 R_2 W_2 ⊢
            refine seqR_at (o := ?_) ?_ ?_
            rotate_left
            · (conv => (lhs; whnf; arg 1; whnf))
            refine seqR_y (v := ?_) (by rfl) (fun W hW => ?_) ?_
            rotate_left
            · (refine exec_ldN (x := .tmp 7) ntNat ?_ ?_ (P_2.out.below hW)) <;> rfl
            try simp only [Act.put, List.setIfInBounds_toArray, List.set_cons_zero, List.set_cons_succ]
            refine seqR_at (o := ?_) ?_ ?_
            rotate_left
            · (conv => (lhs; whnf; arg 1; whnf))
            refine seqR_c (by rfl) (fun K hK => ?_)
            go_simp
            refine (one_any _).mono ?_
            rintro e p3 ⟨rfl, hb⟩
            have P_3 := Lib.hid (P_2.out.below hb)
            have S_3 := Lib.hid (S_2.out.below hb)
            have X_3 := Lib.hid (X_2.out.below hb)
            have Y_3 := Lib.hid (Y_2.out.below hb)
            have M_3 := Lib.hid (M_2.out.below hb)
            have R_3 := Lib.hid (R_2.out.below hb)
            have W_3 := Lib.hid (W_2.out.trans (hb.mono W_2.out.size))
            refine hK _ _ hb ?_
            clear hK K hb P_2 S_2 X_2 Y_2 M_2 R_2 W_2
            try simp only [Act.put, List.setIfInBounds_toArray, List.set_cons_zero, List.set_cons_succ]
            refine seqR_at (o := ?_) ?_ ?_
            rotate_left
            · (conv => (lhs; whnf; arg 1; whnf))
            refine seqR_y (v := ?_) (by rfl) (fun W hW => ?_) ?_
            rotate_left
            · (refine exec_neN (x := .tmp 49) (y := .tmp 50) (t' := 37) (a := rr) (b := 1) ?_ ?_ ?_ GP.out (small_fit' (by decide))) <;> rfl
            simp only [H1.out]
            try simp only [Act.put, List.setIfInBounds_toArray, List.set_cons_zero, List.set_cons_succ]
            refine seqR_end ?_
            go_wp2_with (first | go_skip | (refine wpl_ldN ntNat rfl rfl rfl P_3.out ?_) | (refine wpl_ldN_g ntNat ?hw rfl rfl P_3.out ?_; (case hw => rfl)) | (refine wpl_ldN ntNat rfl rfl rfl S_3.out ?_) | (refine wpl_ldN_g ntNat ?hw rfl rfl S_3.out ?_; (case hw => rfl)) | (refine wpl_ldN ntNat rfl rfl rfl X_3.out ?_) | (refine wpl_ldN_g ntNat ?hw rfl rfl X_3.out ?_; (case hw => rfl)) | (refine wpl_ldN ntNat rfl rfl rfl Y_3.out ?_) | (refine wpl_ldN_g ntNat ?hw rfl rfl Y_3.out ?_; (case hw => rfl)) | (refine wpl_ldN ntMod rfl rfl rfl M_3.out ?_) | (refine wpl_ldN_g ntMod ?hw rfl rfl M_3.out ?_; (case hw => rfl)) | (refine wpl_ldN ntNat rfl rfl rfl M_3.out ?_) | (refine wpl_ldN_g ntNat ?hw rfl rfl M_3.out ?_; (case hw => rfl)) | (refine wpl_ldN ntNat rfl rfl rfl R_3.out ?_) | (refine wpl_ldN_g ntNat ?hw rfl rfl R_3.out ?_; (case hw => rfl)) | (refine wpl_build_nat rfl rfl ?_) | (refine wpl_stN ntNat rfl rfl rfl rfl R_3.out ?_; intro z4 hn hg; have := O1.out; have W_4 := Lib.hid (W_3.out.grown hg W_3.out.size (fun j e => by injection e with e; omega)); have R_4 := Lib.hid hn; clear hn hg W_3 P_3 S_3 X_3 Y_3 M_3 R_3))
            refine bodyPost_ret (results_nat rfl _ _ rfl R_4.out) rfl ?_
            unfold RetI
            rw [if_neg HQ.out, if_neg HQ.out]
            exact ⟨rfl, W_4.out⟩
        · have HZ : Hid (decide (s = 0) = false) := Lib.hid (decide_eq_false hs0)
          have HS0 := Lib.hid hs0
          obtain ⟨gk', hgk⟩ : ∃ g, gk = g + 1 := ⟨gk - 1, by have := HF.out; omega⟩
          have hi := HI.out
          rw [hgk, invF_step hs0] at hi
          obtain ⟨qq, hq⟩ : ∃ n, rr / s = n := ⟨_, rfl⟩
          obtain ⟨rs, hrs⟩ : ∃ n, rr % s = n := ⟨_, rfl⟩
          obtain ⟨qm, hqm⟩ : ∃ n, qq % m = n := ⟨_, rfl⟩
          obtain ⟨tt, htt⟩ : ∃ n, qm * y % m = n := ⟨_, rfl⟩
          obtain ⟨nx, hnx⟩ : ∃ n, (xx + m - tt) % m = n := ⟨_, rfl⟩
          rw [hq, hrs, hqm, htt, hnx] at hi
          have hm0 := G0.out
          have HI2 := Lib.hid hi
          have EQ := Lib.hid hq
          have ER := Lib.hid hrs
          have EM := Lib.hid hqm
          have ET := Lib.hid htt
          have EN := Lib.hid hnx
          have hlt : rs < s := by rw [← hrs]; exact Nat.mod_lt _ (Nat.pos_of_ne_zero hs0)
          have GQ : Hid (Fit qq) := Lib.hid (by rw [← hq]; exact Nat.lt_of_le_of_lt (Nat.div_le_self _ _) GP.out)
          have GQM : Hid (qm < m) := Lib.hid (by rw [← hqm]; exact Nat.mod_lt _ hm0)
          have GT : Hid (tt < m) := Lib.hid (by rw [← htt]; exact Nat.mod_lt _ hm0)
          have GN : Hid (nx < m) := Lib.hid (by rw [← hnx]; exact Nat.mod_lt _ hm0)
          have GRS : Hid (rs < m) := Lib.hid (Nat.lt_trans hlt GS.out)
          have GLE : Hid (rs ≤ gk') := Lib.hid (by have := HF.out; omega)
          have GK : Hid (gk' < gk) := Lib.hid (by omega)
          clear hs0 hgk hi hq hrs hqm htt hnx hm0 hlt HI HF
          go_wp2_with (first | go_skip | (refine wpl_ldN ntNat rfl rfl rfl P_0.out ?_) | (refine wpl_ldN_g ntNat ?hw rfl rfl P_0.out ?_; (case hw => rfl)) | (refine wpl_ldN ntNat rfl rfl rfl S_0.out ?_) | (refine wpl_ldN_g ntNat ?hw rfl rfl S_0.out ?_; (case hw => rfl)) | (refine wpl_ldN ntNat rfl rfl rfl X_0.out ?_) | (refine wpl_ldN_g ntNat ?hw rfl rfl X_0.out ?_; (case hw => rfl)) | (refine wpl_ldN ntNat rfl rfl rfl Y_0.out ?_) | (refine wpl_ldN_g ntNat ?hw rfl rfl Y_0.out ?_; (case hw => rfl)) | (refine wpl_ldN ntMod rfl rfl rfl M_0.out ?_) | (refine wpl_ldN_g ntMod ?hw rfl rfl M_0.out ?_; (case hw => rfl)) | (refine wpl_ldN ntNat rfl rfl rfl M_0.out ?_) | (refine wpl_ldN_g ntNat ?hw rfl rfl M_0.out ?_; (case hw => rfl)) | (refine wpl_ldN ntNat rfl rfl rfl R_0.out ?_) | (refine wpl_ldN_g ntNat ?hw rfl rfl R_0.out ?_; (case hw => rfl)))
          refine (isZero_ok _ GF.out HZ.out).mono ?_
          rintro e p1 ⟨rfl, hb⟩
          have P_1 := Lib.hid (P_0.out.below hb)
          have S_1 := Lib.hid (S_0.out.below hb)
          have X_1 := Lib.hid (X_0.out.below hb)
          have Y_1 := Lib.hid (Y_0.out.below hb)
          have M_1 := Lib.hid (M_0.out.below hb)
          have R_1 := Lib.hid (R_0.out.below hb)
          have W_1 := Lib.hid (W_0.out.trans (hb.mono W_0.out.size))
          clear hb P_0 S_0 X_0 Y_0 M_0 R_0 W_0
          go_wp2_with (first | go_skip | (refine wpl_ldN ntNat rfl rfl rfl P_1.out ?_) | (refine wpl_ldN_g ntNat ?hw rfl rfl P_1.out ?_; (case hw => rfl)) | (refine wpl_ldN ntNat rfl rfl rfl S_1.out ?_) | (refine wpl_ldN_g ntNat ?hw rfl rfl S_1.out ?_; (case hw => rfl)) | (refine wpl_ldN ntNat rfl rfl rfl X_1.out ?_) | (refine wpl_ldN_g ntNat ?hw rfl rfl X_1.out ?_; (case hw => rfl)) | (refine wpl_ldN ntNat rfl rfl rfl Y_1.out ?_) | (refine wpl_ldN_g ntNat ?hw rfl rfl Y_1.out ?_; (case hw => rfl)) | (refine wpl_ldN ntMod rfl rfl rfl M_1.out ?_) | (refine wpl_ldN_g ntMod ?hw rfl rfl M_1.out ?_; (case hw => rfl)) | (refine wpl_ldN ntNat rfl rfl rfl M_1.out ?_) | (refine wpl_ldN_g ntNat ?hw rfl rfl M_1.out ?_; (case hw => rfl)) | (refine wpl_ldN ntNat rfl rfl rfl R_1.out ?_) | (refine wpl_ldN_g ntNat ?hw rfl rfl R_1.out ?_; (case hw => rfl)))
          refine (div_ok _ GP.out GF.out HS0.out EQ.out ER.out).mono ?_
          rintro e p2 ⟨rfl, hb⟩
          have ABQ_R := Lib.hid (Nat.lt_of_lt_of_le R_1.out.lt hb.size)
          have ABQ_M := Lib.hid (Nat.lt_of_lt_of_le M_1.out.lt hb.size)
          have ABQ_P := Lib.hid (Nat.lt_of_lt_of_le P_1.out.lt hb.size)
          have ABQ_S := Lib.hid (Nat.lt_of_lt_of_le S_1.out.lt hb.size)
          have ABQ_X := Lib.hid (Nat.lt_of_lt_of_le X_1.out.lt hb.size)
          have ABQ_Y := Lib.hid (Nat.lt_of_lt_of_le Y_1.out.lt hb.size)
          have XT0_2 := Lib.hid (NatAt.zeroA p2)
          have XT1_2 := Lib.hid (NatAt.zeroB p2)
          have XA_2 := Lib.hid (below_zero (below_zero hb hb.size) (Nat.le_trans hb.size (by rw [World.size_alloc]; exact Nat.le_succ _)))
          have hsz_2 : Hid (p1.heap.size ≤ p2.heap.size) := Lib.hid hb.size
          clear hb
          go_wp2_with (first | go_skip | (refine wpl_stN ntNat rfl rfl rfl rfl XT0_2.out ?_; intro r2_0 hn hg; have XB0_2 := Lib.hid (XA_2.out.grown hg XA_2.out.size (fun j e => by injection e with e; rw [← e]; have := hsz_2.out; omega)); have XS00_2 := Lib.hid hn; have XS01_2 := Lib.hid (XT1_2.out.grown hg (by simp)); clear hn hg XT0_2 XT1_2 XA_2) | (refine wpl_stN ntNat rfl rfl rfl rfl XS01_2.out ?_; intro q2 hn hg; have XB1_2 := Lib.hid (XB0_2.out.grown hg XB0_2.out.size (fun j e => by injection e with e; rw [← e]; have := hsz_2.out; omega)); have XS10_2 := Lib.hid (XS00_2.out.grown hg (by simp)); have XS11_2 := Lib.hid hn; have P_2 := Lib.hid (P_1.out.below XB1_2.out); have S_2 := Lib.hid (S_1.out.below XB1_2.out); have X_2 := Lib.hid (X_1.out.below XB1_2.out); have Y_2 := Lib.hid (Y_1.out.below XB1_2.out); have M_2 := Lib.hid (M_1.out.below XB1_2.out); have R_2 := Lib.hid (R_1.out.below XB1_2.out); have W_2 := Lib.hid (W_1.out.trans (XB1_2.out.mono W_1.out.size)); have Q_2 := XS10_2; have T_2 := XS11_2; clear hn hg P_1 S_1 X_1 Y_1 M_1 R_1 W_1 XS00_2 XS01_2 XB0_2 XS10_2 XS11_2 XB1_2 hsz_2) | (refine wpl_ldN ntNat rfl rfl rfl P_2.out ?_) | (refine wpl_ldN_g ntNat ?hw rfl rfl P_2.out ?_; (case hw => rfl)) | (refine wpl_ldN ntNat rfl rfl rfl S_2.out ?_) | (refine wpl_ldN_g ntNat ?hw rfl rfl S_2.out ?_; (case hw => rfl)) | (refine wpl_ldN ntNat rfl rfl rfl X_2.out ?_) | (refine wpl_ldN_g ntNat ?hw rfl rfl X_2.out ?_; (case hw => rfl)) | (refine wpl_ldN ntNat rfl rfl rfl Y_2.out ?_) | (refine wpl_ldN_g ntNat ?hw rfl rfl Y_2.out ?_; (case hw => rfl)) | (refine wpl_ldN ntMod rfl rfl rfl M_2.out ?_) | (refine wpl_ldN_g ntMod ?hw rfl rfl M_2.out ?_; (case hw => rfl)) | (refine wpl_ldN ntNat rfl rfl rfl M_2.out ?_) | (refine wpl_ldN_g ntNat ?hw rfl rfl M_2.out ?_; (case hw => rfl)) | (refine wpl_ldN ntNat rfl rfl rfl R_2.out ?_) | (refine wpl_ldN_g ntNat ?hw rfl rfl R_2.out ?_; (case hw => rfl)) | (refine wpl_ldN ntNat rfl rfl rfl Q_2.out ?_) | (refine wpl_ldN_g ntNat ?hw rfl rfl Q_2.out ?_; (case hw => rfl)) | (refine wpl_ldN ntNat rfl rfl rfl T_2.out ?_) | (refine wpl_ldN_g ntNat ?hw rfl rfl T_2.out ?_; (case hw => rfl)))
          refine region_roadU [3] (KeepN B7) [(0, true), (1, true), (2, false), (3, false)] (by kernel_rfl) (by kernel_rfl) (by kernel_rfl) (by kernel_rfl) (by kernel_rfl) (by kernel_rfl) (by kernel_rfl) (by kernel_rfl) (keepN_refl _) (keepN_trans _) (fun _ _ d _ _ h => by cases d <;> exact h) ?_
          have P_d3 := Lib.hid P_2.out.drew
          have S_d3 := Lib.hid S_2.out.drew
          have X_d3 := Lib.hid X_2.out.drew
          have Y_d3 := Lib.hid Y_2.out.drew
          have M_d3 := Lib.hid M_2.out.drew
          have R_d3 := Lib.hid R_2.out.drew
          have Q_d3 := Lib.hid Q_2.out.drew
          have T_d3 := Lib.hid T_2.out.drew
          have W_d3 : Hid (Below w.heap.size w q2.drew) := Lib.hid W_2.out.drew
          clear P_2 S_2 X_2 Y_2 M_2 R_2 Q_2 T_2 W_2
          generalize q2.drew = d3 at P_d3 S_d3 X_d3 Y_d3 M_d3 R_d3 Q_d3 T_d3 W_d3 ⊢
          refine seqU_at (o := ?_) ?_ ?_
          rotate_left
          · (conv => (lhs; whnf; arg 1; whnf))
          refine seqU_y (v := ?_) (by rfl) (fun W hW => ?_) ?_
          rotate_left
          · (refine exec_ldN (x := .tmp 8) ntNat ?_ ?_ (hW _ _ (fun e => by have := O1.out; have a1 := ABQ_R.out; have a2 := ABQ_M.out; have a3 := ABQ_P.out; have a4 := ABQ_S.out; have a5 := ABQ_X.out; have a6 := ABQ_Y.out; have n1 := N78.out; have n2 := N90.out; omega) S_d3.out)) <;> rfl
          try simp only [Act.put, List.setIfInBounds_toArray, List.set_cons_zero, List.set_cons_succ]
          refine seqU_at (o := ?_) ?_ ?_
          rotate_left
          · (conv => (lhs; whnf; arg 1; whnf))
          refine seqU_y (v := ?_) (by rfl) (fun W hW => ?_) ?_
          rotate_left
          · (refine exec_ldN (x := .tmp 12) ntNat ?_ ?_ (hW _ _ (fun e => by have := O1.out; have a1 := ABQ_R.out; have a2 := ABQ_M.out; have a3 := ABQ_P.out; have a4 := ABQ_S.out; have a5 := ABQ_X.out; have a6 := ABQ_Y.out; have n1 := N78.out; have n2 := N90.out; omega) T_d3.out)) <;> rfl
          try simp only [Act.put, List.setIfInBounds_toArray, List.set_cons_zero, List.set_cons_succ]
          refine seqU_at (o := ?_) ?_ ?_
          rotate_left
          · (conv => (lhs; whnf; arg 1; whnf))
          refine seqU_c (by rfl) (fun K hK => ?_)
          refine wp_stN ntNat rfl rfl (m := s) rfl P_d3.out ?_
          intro z4 hn hg
          have W_4 := Lib.hid (W_d3.out.grown hg W_d3.out.size (fun j e => by injection e with e; have := O1.out; have a1 := ABQ_R.out; have a2 := ABQ_M.out; have a3 := ABQ_P.out; have a4 := ABQ_S.out; have a5 := ABQ_X.out; have a6 := ABQ_Y.out; have n1 := N78.out; have n2 := N90.out; omega))
          have P_4 := Lib.hid hn
          have S_4 := Lib.hid (S_d3.out.grown hg (fun e => by injection e with e; have := O1.out; have a1 := ABQ_R.out; have a2 := ABQ_M.out; have a3 := ABQ_P.out; have a4 := ABQ_S.out; have a5 := ABQ_X.out; have a6 := ABQ_Y.out; have n1 := N78.out; have n2 := N90.out; omega))
          have X_4 := Lib.hid (X_d3.out.grown hg (fun e => by injection e with e; have := O1.out; have a1 := ABQ_R.out; have a2 := ABQ_M.out; have a3 := ABQ_P.out; have a4 := ABQ_S.out; have a5 := ABQ_X.out; have a6 := ABQ_Y.out; have n1 := N78.out; have n2 := N90.out; omega))
          have Y_4 := Lib.hid (Y_d3.out.grown hg (fun e => by injection e with e; have := O1.out; have a1 := ABQ_R.out; have a2 := ABQ_M.out; have a3 := ABQ_P.out; have a4 := ABQ_S.out; have a5 := ABQ_X.out; have a6 := ABQ_Y.out; have n1 := N78.out; have n2 := N90.out; omega))
          have M_4 := Lib.hid (M_d3.out.grown hg (fun e => by injection e with e; have := O1.out; have a1 := ABQ_R.out; have a2 := ABQ_M.out; have a3 := ABQ_P.out; have a4 := ABQ_S.out; have a5 := ABQ_X.out; have a6 := ABQ_Y.out; have n1 := N78.out; have n2 := N90.out; omega))
          have R_4 := Lib.hid (R_d3.out.grown hg (fun e => by injection e with e; have := O1.out; have a1 := ABQ_R.out; have a2 := ABQ_M.out; have a3 := ABQ_P.out; have a4 := ABQ_S.out; have a5 := ABQ_X.out; have a6 := ABQ_Y.out; have n1 := N78.out; have n2 := N90.out; omega))
          have Q_4 := Lib.hid (Q_d3.out.grown hg (fun e => by injection e with e; have := O1.out; have a1 := ABQ_R.out; have a2 := ABQ_M.out; have a3 := ABQ_P.out; have a4 := ABQ_S.out; have a5 := ABQ_X.out; have a6 := ABQ_Y.out; have n1 := N78.out; have n2 := N90.out; omega))
          have T_4 := Lib.hid (T_d3.out.grown hg (fun e => by injection e with e; have := O1.out; have a1 := ABQ_R.out; have a2 := ABQ_M.out; have a3 := ABQ_P.out; have a4 := ABQ_S.out; have a5 := ABQ_X.out; have a6 := ABQ_Y.out; have n1 := N78.out; have n2 := N90.out; omega))
          refine hK _ _ (fun b n hne h => h.grown hg (fun e => hne (by injection e with e))) ?_
          clear hK K hn hg W_d3 P_d3 S_d3 X_d3 Y_d3 M_d3 R_d3 Q_d3 T_d3
          try simp only [Act.put, List.setIfInBounds_toArray, List.set_cons_zero, List.set_cons_succ]
          refine seqU_at (o := ?_) ?_ ?_
          rotate_left
          · (conv => (lhs; whnf; arg 1; whnf))
          refine seqU_tail (by decide) (by rfl) (fun K hK => ?_)
          refine wp_stN ntNat rfl rfl (m := rs) rfl S_4.out ?_
          intro z5 hn hg
          have W_5 := Lib.hid (W_4.out.grown hg W_4.out.size (fun j e => by injection e with e; have := O1.out; have a1 := ABQ_R.out; have a2 := ABQ_M.out; have a3 := ABQ_P.out; have a4 := ABQ_S.out; have a5 := ABQ_X.out; have a6 := ABQ_Y.out; have n1 := N78.out; have n2 := N90.out; omega))
          have S_5 := Lib.hid hn
          have P_5 := Lib.hid (P_4.out.grown hg (fun e => by injection e with e; have := O1.out; have a1 := ABQ_R.out; have a2 := ABQ_M.out; have a3 := ABQ_P.out; have a4 := ABQ_S.out; have a5 := ABQ_X.out; have a6 := ABQ_Y.out; have n1 := N78.out; have n2 := N90.out; omega))
          have X_5 := Lib.hid (X_4.out.grown hg (fun e => by injection e with e; have := O1.out; have a1 := ABQ_R.out; have a2 := ABQ_M.out; have a3 := ABQ_P.out; have a4 := ABQ_S.out; have a5 := ABQ_X.out; have a6 := ABQ_Y.out; have n1 := N78.out; have n2 := N90.out; omega))
          have Y_5 := Lib.hid (Y_4.out.grown hg (fun e => by injection e with e; have := O1.out; have a1 := ABQ_R.out; have a2 := ABQ_M.out; have a3 := ABQ_P.out; have a4 := ABQ_S.out; have a5 := ABQ_X.out; have a6 := ABQ_Y.out; have n1 := N78.out; have n2 := N90.out; omega))
          have M_5 := Lib.hid (M_4.out.grown hg (fun e => by injection e with e; have := O1.out; have a1 := ABQ_R.out; have a2 := ABQ_M.out; have a3 := ABQ_P.out; have a4 := ABQ_S.out; have a5 := ABQ_X.out; have a6 := ABQ_Y.out; have n1 := N78.out; have n2 := N90.out; omega))
          have R_5 := Lib.hid (R_4.out.grown hg (fun e => by injection e with e; have := O1.out; have a1 := ABQ_R.out; have a2 := ABQ_M.out; have a3 := ABQ_P.out; have a4 := ABQ_S.out; have a5 := ABQ_X.out; have a6 := ABQ_Y.out; have n1 := N78.out; have n2 := N90.out; omega))
          have Q_5 := Lib.hid (Q_4.out.grown hg (fun e => by injection e with e; have := O1.out; have a1 := ABQ_R.out; have a2 := ABQ_M.out; have a3 := ABQ_P.out; have a4 := ABQ_S.out; have a5 := ABQ_X.out; have a6 := ABQ_Y.out; have n1 := N78.out; have n2 := N90.out; omega))
          have T_5 := Lib.hid (T_4.out.grown hg (fun e => by injection e with e; have := O1.out; have a1 := ABQ_R.out; have a2 := ABQ_M.out; have a3 := ABQ_P.out; have a4 := ABQ_S.out; have a5 := ABQ_X.out; have a6 := ABQ_Y.out; have n1 := N78.out; have n2 := N90.out; omega))
          refine hK _ _ ?_
          clear hK K hn hg W_4 P_4 S_4 X_4 Y_4 M_4 R_4 Q_4 T_4
          try simp only [Act.put, List.setIfInBounds_toArray, List.set_cons_zero, List.set_cons_succ]
          refine seqU_end ?_
          clear T_5
          go_wp2_with (first | go_skip | (refine wpl_ldN ntNat rfl rfl rfl S_5.out ?_) | (refine wpl_ldN_g ntNat ?hw rfl rfl S_5.out ?_; (case hw => rfl)) | (refine wpl_ldN ntNat rfl rfl rfl P_5.out ?_) | (refine wpl_ldN_g ntNat ?hw rfl rfl P_5.out ?_; (case hw => rfl)) | (refine wpl_ldN ntNat rfl rfl rfl X_5.out ?_) | (refine wpl_ldN_g ntNat ?hw rfl rfl X_5.out ?_; (case hw => rfl)) | (refine wpl_ldN ntNat rfl rfl rfl Y_5.out ?_) | (refine wpl_ldN_g ntNat ?hw rfl rfl Y_5.out ?_; (case hw => rfl)) | (refine wpl_ldN ntMod rfl rfl rfl M_5.out ?_) | (refine wpl_ldN_g ntMod ?hw rfl rfl M_5.out ?_; (case hw => rfl)) | (refine wpl_ldN ntNat rfl rfl rfl M_5.out ?_) | (refine wpl_ldN_g ntNat ?hw rfl rfl M_5.out ?_; (case hw => rfl)) | (refine wpl_ldN ntNat rfl rfl rfl R_5.out ?_) | (refine wpl_ldN_g ntNat ?hw rfl rfl R_5.out ?_; (case hw => rfl)) | (refine wpl_ldN ntNat rfl rfl rfl Q_5.out ?_) | (refine wpl_ldN_g ntNat ?hw rfl rfl Q_5.out ?_; (case hw => rfl)))
          refine region_roadU [10, 11] Later [(0, true), (1, true), (2, true), (3, true), (4, true), (5, true), (7, true), (6, false), (8, false), (9, false), (10, false), (11, false)] (by kernel_rfl) (by kernel_rfl) (by kernel_rfl) (by kernel_rfl) (by kernel_rfl) (by kernel_rfl) (by kernel_rfl) (by kernel_rfl) later_refl later_trans (fun _ _ d _ _ h => by cases d <;> exact h) ?_
          have P_d6 := Lib.hid P_5.out.drew
          have S_d6 := Lib.hid S_5.out.drew
          have X_d6 := Lib.hid X_5.out.drew
          have Y_d6 := Lib.hid Y_5.out.drew
          have M_d6 := Lib.hid M_5.out.drew
          have R_d6 := Lib.hid R_5.out.drew
          have Q_d6 := Lib.hid Q_5.out.drew
          have W_d6 : Hid (Below w.heap.size w z5.drew) := Lib.hid W_5.out.drew
          clear S_5 P_5 X_5 Y_5 M_5 R_5 Q_5 W_5
          generalize z5.drew = d6 at P_d6 S_d6 X_d6 Y_d6 M_d6 R_d6 Q_d6 W_d6 ⊢
          refine seqU_at (o := ?_) ?_ ?_
          rotate_left
          · (conv => (lhs; whnf; arg 1; whnf))
          refine seqU_y (v := ?_) (by rfl) (fun W hW => ?_) ?_
          rotate_left
          · (refine exec_ldN (x := .tmp 10) ntNat ?_ ?_ (Y_d6.out.below hW)) <;> rfl
          try simp only [Act.put, List.setIfInBounds_toArray, List.set_cons_zero, List.set_cons_succ]
          refine seqU_at (o := ?_) ?_ ?_
          rotate_left
          · (conv => (lhs; whnf; arg 1; whnf))
          refine seqU_y (v := ?_) (by rfl) (fun W hW => ?_) ?_
          rotate_left
          · (refine exec_ldN (x := .tmp 6) ntMod ?_ ?_ (M_d6.out.below hW)) <;> rfl
          try simp only [Act.put, List.setIfInBounds_toArray, List.set_cons_zero, List.set_cons_succ]
          refine seqU_at (o := ?_) ?_ ?_
          rotate_left
          · (conv => (lhs; whnf; arg 1; whnf))
          refine seqU_y (v := ?_) (by rfl) (fun W hW => ?_) ?_
          rotate_left
          · (refine exec_ldN (x := .tmp 9) ntNat ?_ ?_ (X_d6.out.below hW)) <;> rfl
          try simp only [Act.put, List.setIfInBounds_toArray, List.set_cons_zero, List.set_cons_succ]
          refine seqU_at (o := ?_) ?_ ?_
          rotate_left
          · (conv => (lhs; whnf; arg 1; whnf))
          refine seqU_y (v := ?_) (by rfl) (fun W hW => ?_) ?_
          rotate_left
          · (refine exec_ldN (x := .tmp 6) ntMod ?_ ?_ (M_d6.out.below hW)) <;> rfl
          try simp only [Act.put, List.setIfInBounds_toArray, List.set_cons_zero, List.set_cons_succ]
          refine seqU_at (o := ?_) ?_ ?_
          rotate_left
          · (conv => (lhs; whnf; arg 1; whnf))
          refine seqU_y (v := ?_) (by rfl) (fun W hW => ?_) ?_
          rotate_left
          · (refine exec_ldN (x := .tmp 6) ntMod ?_ ?_ (M_d6.out.below hW)) <;> rfl
          try simp only [Act.put, List.setIfInBounds_toArray, List.set_cons_zero, List.set_cons_succ]
          refine seqU_at (o := ?_) ?_ ?_
          rotate_left
          · (conv => (lhs; whnf; arg 1; whnf))
          refine seqU_y (v := ?_) (by rfl) (fun W hW => ?_) ?_
          rotate_left
          · (refine exec_ldN (x := .tmp 11) ntNat ?_ ?_ (Q_d6.out.below hW)) <;> rfl
          try simp only [Act.put, List.setIfInBounds_toArray, List.set_cons_zero, List.set_cons_succ]
          refine seqU_at (o := ?_) ?_ ?_
          rotate_left
          · (conv => (lhs; whnf; arg 1; whnf))
          refine seqU_y (v := ?_) (by rfl) (fun W hW => ?_) ?_
          rotate_left
          · (refine exec_ldN (x := .tmp 10) ntNat ?_ ?_ (Y_d6.out.below hW)) <;> rfl
          try simp only [Act.put, List.setIfInBounds_toArray, List.set_cons_zero, List.set_cons_succ]
          refine seqU_at (o := ?_) ?_ ?_
          rotate_left
          · (conv => (lhs; whnf; arg 1; whnf))
          refine seqU_c (by rfl) (fun K hK => ?_)
          go_simp
          refine (residue_ok _ FM.out GQ.out F0.out EM.out).mono ?_
          rintro e p7 ⟨rfl, hb⟩
          have P_7 := Lib.hid (P_d6.out.below hb)
          have S_7 := Lib.hid (S_d6.out.below hb)
          have X_7 := Lib.hid (X_d6.out.below hb)
          have Y_7 := Lib.hid (Y_d6.out.below hb)
          have M_7 := Lib.hid (M_d6.out.below hb)
          have R_7 := Lib.hid (R_d6.out.below hb)
          have Q_7 := Lib.hid (Q_d6.out.below hb)
          have W_7 := Lib.hid (W_d6.out.trans (hb.mono W_d6.out.size))
          refine hK _ _ hb ?_
          clear hK K hb P_d6 S_d6 X_d6 Y_d6 M_d6 R_d6 Q_d6 W_d6
          try simp only [Act.put, List.setIfInBounds_toArray, List.set_cons_zero, List.set_cons_succ]
          refine seqU_at (o := ?_) ?_ ?_
          rotate_left
          · (conv => (lhs; whnf; arg 1; whnf))
          refine seqU_c (by rfl) (fun K hK => ?_)
          go_simp
          refine (times_ok _ FM.out GQM.out GY.out ET.out).mono ?_
          rintro e p8 ⟨rfl, hb⟩
          have P_8 := Lib.hid (P_7.out.below hb)
          have S_8 := Lib.hid (S_7.out.below hb)
          have X_8 := Lib.hid (X_7.out.below hb)
          have Y_8 := Lib.hid (Y_7.out.below hb)
          have M_8 := Lib.hid (M_7.out.below hb)
          have R_8 := Lib.hid (R_7.out.below hb)
          have Q_8 := Lib.hid (Q_7.out.below hb)
          have W_8 := Lib.hid (W_7.out.trans (hb.mono W_7.out.size))
          refine hK _ _ hb ?_
          clear hK K hb P_7 S_7 X_7 Y_7 M_7 R_7 Q_7 W_7
          try simp only [Act.put, List.setIfInBounds_toArray, List.set_cons_zero, List.set_cons_succ]
          refine seqU_at (o := ?_) ?_ ?_
          rotate_left
          · (conv => (lhs; whnf; arg 1; whnf))
          refine seqU_c (by rfl) (fun K hK => ?_)
          go_simp
          refine (less_ok _ FM.out GX.out GT.out EN.out).mono ?_
          rintro e p9 ⟨rfl, hb⟩
          have P_9 := Lib.hid (P_8.out.below hb)
          have S_9 := Lib.hid (S_8.out.below hb)
          have X_9 := Lib.hid (X_8.out.below hb)
          have Y_9 := Lib.hid (Y_8.out.below hb)
          have M_9 := Lib.hid (M_8.out.below hb)
          have R_9 := Lib.hid (R_8.out.below hb)
          have Q_9 := Lib.hid (Q_8.out.below hb)
          have W_9 := Lib.hid (W_8.out.trans (hb.mono W_8.out.size))
          refine hK _ _ hb ?_
          clear hK K hb P_8 S_8 X_8 Y_8 M_8 R_8 Q_8 W_8
          try simp only [Act.put, List.setIfInBounds_toArray, List.set_cons_zero, List.set_cons_succ]
          refine seqU_at (o := ?_) ?_ ?_
          rotate_left
          · (conv => (lhs; whnf; arg 1; whnf))
          refine seqU_tail (by decide) (by rfl) (fun K hK => ?_)
          refine wp_stN ntNat rfl rfl (m := y) rfl X_9.out ?_
          intro z10 hn hg
          have W_10 := Lib.hid (W_9.out.grown hg W_9.out.size (fun j e => by injection e with e; have := O1.out; have a1 := ABQ_R.out; have a2 := ABQ_M.out; have a3 := ABQ_P.out; have a4 := ABQ_S.out; have a5 := ABQ_X.out; have a6 := ABQ_Y.out; have n1 := N78.out; have n2 := N90.out; omega))
          have X_10 := Lib.hid hn
          have P_10 := Lib.hid (P_9.out.grown hg (fun e => by injection e with e; have := O1.out; have a1 := ABQ_R.out; have a2 := ABQ_M.out; have a3 := ABQ_P.out; have a4 := ABQ_S.out; have a5 := ABQ_X.out; have a6 := ABQ_Y.out; have n1 := N78.out; have n2 := N90.out; omega))
          have S_10 := Lib.hid (S_9.out.grown hg (fun e => by injection e with e; have := O1.out; have a1 := ABQ_R.out; have a2 := ABQ_M.out; have a3 := ABQ_P.out; have a4 := ABQ_S.out; have a5 := ABQ_X.out; have a6 := ABQ_Y.out; have n1 := N78.out; have n2 := N90.out; omega))
          have Y_10 := Lib.hid (Y_9.out.grown hg (fun e => by injection e with e; have := O1.out; have a1 := ABQ_R.out; have a2 := ABQ_M.out; have a3 := ABQ_P.out; have a4 := ABQ_S.out; have a5 := ABQ_X.out; have a6 := ABQ_Y.out; have n1 := N78.out; have n2 := N90.out; omega))
          have M_10 := Lib.hid (M_9.out.grown hg (fun e => by injection e with e; have := O1.out; have a1 := ABQ_R.out; have a2 := ABQ_M.out; have a3 := ABQ_P.out; have a4 := ABQ_S.out; have a5 := ABQ_X.out; have a6 := ABQ_Y.out; have n1 := N78.out; have n2 := N90.out; omega))
          have R_10 := Lib.hid (R_9.out.grown hg (fun e => by injection e with e; have := O1.out; have a1 := ABQ_R.out; have a2 := ABQ_M.out; have a3 := ABQ_P.out; have a4 := ABQ_S.out; have a5 := ABQ_X.out; have a6 := ABQ_Y.out; have n1 := N78.out; have n2 := N90.out; omega))
          have Q_10 := Lib.hid (Q_9.out.grown hg (fun e => by injection e with e; have := O1.out; have a1 := ABQ_R.out; have a2 := ABQ_M.out; have a3 := ABQ_P.out; have a4 := ABQ_S.out; have a5 := ABQ_X.out; have a6 := ABQ_Y.out; have n1 := N78.out; have n2 := N90.out; omega))
          refine hK _ _ ?_
          clear hK K hn hg W_9 P_9 S_9 X_9 Y_9 M_9 R_9 Q_9
          try simp only [Act.put, List.setIfInBounds_toArray, List.set_cons_zero, List.set_cons_succ]
          refine seqU_at (o := ?_) ?_ ?_
          rotate_left
          · (conv => (lhs; whnf; arg 1; whnf))
          refine seqU_tail (by decide) (by rfl) (fun K hK => ?_)
          refine wp_stN ntNat rfl rfl (m := nx) rfl Y_10.out ?_
          intro z11 hn hg
          have W_11 := Lib.hid (W_10.out.grown hg W_10.out.size (fun j e => by injection e with e; have := O1.out; have a1 := ABQ_R.out; have a2 := ABQ_M.out; have a3 := ABQ_P.out; have a4 := ABQ_S.out; have a5 := ABQ_X.out; have a6 := ABQ_Y.out; have n1 := N78.out; have n2 := N90.out; omega))
          have Y_11 := Lib.hid hn
          have P_11 := Lib.hid (P_10.out.grown hg (fun e => by injection e with e; have := O1.out; have a1 := ABQ_R.out; have a2 := ABQ_M.out; have a3 := ABQ_P.out; have a4 := ABQ_S.out; have a5 := ABQ_X.out; have a6 := ABQ_Y.out; have n1 := N78.out; have n2 := N90.out; omega))
          have S_11 := Lib.hid (S_10.out.grown hg (fun e => by injection e with e; have := O1.out; have a1 := ABQ_R.out; have a2 := ABQ_M.out; have a3 := ABQ_P.out; have a4 := ABQ_S.out; have a5 := ABQ_X.out; have a6 := ABQ_Y.out; have n1 := N78.out; have n2 := N90.out; omega))
          have X_11 := Lib.hid (X_10.out.grown hg (fun e => by injection e with e; have := O1.out; have a1 := ABQ_R.out; have a2 := ABQ_M.out; have a3 := ABQ_P.out; have a4 := ABQ_S.out; have a5 := ABQ_X.out; have a6 := ABQ_Y.out; have n1 := N78.out; have n2 := N90.out; omega))
          have M_11 := Lib.hid (M_10.out.grown hg (fun e => by injection e with e; have := O1.out; have a1 := ABQ_R.out; have a2 := ABQ_M.out; have a3 := ABQ_P.out; have a4 := ABQ_S.out; have a5 := ABQ_X.out; have a6 := ABQ_Y.out; have n1 := N78.out; have n2 := N90.out; omega))
          have R_11 := Lib.hid (R_10.out.grown hg (fun e => by injection e with e; have := O1.out; have a1 := ABQ_R.out; have a2 := ABQ_M.out; have a3 := ABQ_P.out; have a4 := ABQ_S.out; have a5 := ABQ_X.out; have a6 := ABQ_Y.out; have n1 := N78.out; have n2 := N90.out; omega))
          have Q_11 := Lib.hid (Q_10.out.grown hg (fun e => by injection e with e; have := O1.out; have a1 := ABQ_R.out; have a2 := ABQ_M.out; have a3 := ABQ_P.out; have a4 := ABQ_S.out; have a5 := ABQ_X.out; have a6 := ABQ_Y.out; have n1 := N78.out; have n2 := N90.out; omega))
          refine hK _ _ ?_
          clear hK K hn hg W_10 X_10 P_10 S_10 Y_10 M_10 R_10 Q_10
          try simp only [Act.put, List.setIfInBounds_toArray, List.set_cons_zero, List.set_cons_succ]
          refine seqU_end ?_
          go_wp2_with fail
          go_roundg gk'
          case measure => exact GK.out
          case rel => exact ⟨s, rs, y, nx, GLE.out, HI2.out, GF.out, GRS.out, GY.out, GN.out, P_11.out, S_11.out, X_11.out, Y_11.out, M_11.out, R_11.out, W_11.out⟩

end Go.Proofs.Ytfmadiepefbepaa
