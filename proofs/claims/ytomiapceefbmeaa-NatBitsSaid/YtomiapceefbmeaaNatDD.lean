/- Walk: Divide (printed by gennatdd.py). -/
import Derived.Test.YtomiapceefbmeaaNatCC
import Derived.Test.YtomiapceefbmeaaNatT
set_option linter.unusedVariables false
set_option linter.unusedSimpArgs false
set_option maxRecDepth 20000
namespace Go.Proofs.Ytomiapceefbmeaa
open Go.RowKit

theorem NatAt.below2 {w w' : World} {B n C : Nat} (h : NatAt w B n) (hb : Below C w w') (hC : B < C) : NatAt w' B n := DAt.nat (DAt.below' (DAt.of_nat h) hb hC)
theorem wp_st_dig {P : Program} {w : World} {o : Oper} {a : Act} {K : Act → World → Prop} {Q : Exit → Act → World → Prop} {T : TypeId} {N : Nat} (hT : DT P T N) {x y : Operand} (ho : o.op = .store T x y)
    {B n m : Nat} (hx : a.eval x = .pointer (some ⟨B, 0, none⟩)) (hy : a.eval y = .agg (digA N m)) (h : DAt w B N n)
    (hk : ∀ w', DAt w' B N m → w.grownBy w' (some B) → K (a.put o.dst undef) w') : o.wp P a w K Q := by
  obtain ⟨d, h1, h2, h3⟩ := hT
  obtain ⟨g1, g2⟩ := setCells_dig m h
  refine wp_store_mid T x y ho B 0 (digA N m) hx hy (by rw [digA_size]; exact h.there) (by rw [digA_size]; exact h3) (all_oneCell_toArray (digL_one N m)) ?_
  exact hk _ g1 g2
theorem grown_undrewN {w w' : World} {row : Option Nat} {n : Nat} (h : (w.drewN n).grownBy w' row) : w.grownBy w' row := ⟨h.os, h.tape, h.output, h.size, h.block⟩
theorem wp_ld_dig {P : Program} {w : World} {o : Oper} {a : Act} {K : Act → World → Prop} {Q : Exit → Act → World → Prop} {T : TypeId} {N : Nat} (hT : DT P T N) {x : Operand} (ho : o.op = .load T x)
    {B n : Nat} (hx : a.eval x = .pointer (some ⟨B, 0, none⟩)) (h : DAt w B N n) (hk : K (a.put o.dst (.agg (digA N n))) w) : o.wp P a w K Q := by
  obtain ⟨d, h1, h2, h3⟩ := hT
  exact wp_load_mid T x ho B 0 hx (digL N n) d h.range h1 h2 (by rw [digL_length]; exact h3) hk
def RetD (w : World) (x y : Nat) (e : Int) : Ending → World → Prop := fun r w' => r = .returned (.tuple #[.agg (natA x), .agg (natA y), .int .i64 e]) ∧ Below w.heap.size w w'

set_option maxHeartbeats 3200000 in
set_option maxRecDepth 100000 in
theorem divide_main (a b m : Nat) (w : World) (ha : Fit a) (hb : Fit b) (hb0 : b ≠ 0) (hm : cnt b = m + 1) :
    Calls Try.prog 33 #[.agg (natA a), .agg (natA b)] w (RetD w (a / b) (a % b) 0) := by
  have hcb := cnt_le hb
  have hca := cnt_le ha
  obtain ⟨g1, g2, g3, g4⟩ := dv_bounds hb0 hm
  obtain ⟨s, hs⟩ : ∃ s, s = 32 - bl (dig b m) := ⟨_, rfl⟩
  rw [← hs] at g2 g3 g4
  obtain ⟨V, hV⟩ : ∃ V, V = b * 2 ^ s := ⟨_, rfl⟩
  rw [← hV] at g3 g4
  have hV0 : 0 < V := by have := B32_pos (m + 1); omega
  have HMA : Hid (∀ W, _) := Lib.hid (fun W => moved_any a s W ha g2)
  have HMB : Hid (∀ W, _) := Lib.hid (fun W => moved_any b s W hb g2)
  rw [← hV] at HMB
  have HLZ : Hid (∀ W, Calls Try.prog 53 #[.int .u32 ((dig b m : Nat) : Int)] W fun e w' => e = .returned (.int .i64 (s : Int)) ∧ w' = W) := Lib.hid (fun W => by
    have h := lz32_any (dig b m) W (dig_lt b m)
    rw [show (32 - (bl (dig b m) : Int)) = (s : Int) from by omega] at h
    exact h)
  have HCA : Hid (∀ W, _) := Lib.hid (fun W => count_any a W ha)
  have HCB : Hid (∀ W, _) := Lib.hid (fun W => count_any b W hb)
  obtain ⟨n, hn⟩ : ∃ n, n = m + 1 := ⟨_, rfl⟩
  rw [hm, ← hn] at HCB
  have m32 : m < 32 := by omega
  have m32i : (m : Int) < 32 := by omega
  have hn0 : ¬ n = 0 := by omega
  have hn1 : IntKind.i64.wrap ((n : Int) - 1) = (m : Int) := by rw [show (n : Int) - 1 = (m : Int) from by omega]; exact IntWalk.i64_in _ (by omega)
  have HN := Lib.hid hn
  clear hn
  have s32i : (s : Int) < 32 := by omega
  have HV := Lib.hid (And.intro hV (And.intro hV0 (And.intro g3 g4)))
  have HB0N := Lib.hid (And.intro hb0 (And.intro hm (And.intro hca g2)))
  clear g1 g2 g3 g4 hs hV hV0 hb0 hm hca hcb ha hb
  have HA : Hid (NatAt ((((w.alloc (.cells (natA a) 29)).alloc (.cells (natA b) 29)).alloc (.cells z0 29)).alloc (.cells z0 29)) (w.heap.size) (a)) := Lib.hid (by
    have h := NatAt.new w (a) 29
    replace h := h.alloc (.cells (natA b) 29)
    replace h := h.alloc (.cells z0 29)
    replace h := h.alloc (.cells z0 29)
    simpa using h)
  have HB : Hid (NatAt ((((w.alloc (.cells (natA a) 29)).alloc (.cells (natA b) 29)).alloc (.cells z0 29)).alloc (.cells z0 29)) (w.heap.size + 1) (b)) := Lib.hid (by
    have h := NatAt.new (w.alloc (.cells (natA a) 29)) (b) 29
    replace h := h.alloc (.cells z0 29)
    replace h := h.alloc (.cells z0 29)
    simpa using h)
  have HQ : Hid (NatAt ((((w.alloc (.cells (natA a) 29)).alloc (.cells (natA b) 29)).alloc (.cells z0 29)).alloc (.cells z0 29)) (w.heap.size + 1 + 1) (0)) := Lib.hid (by
    have h := NatAt.new ((w.alloc (.cells (natA a) 29)).alloc (.cells (natA b) 29)) (0) 29
    rw [natA_zero] at h
    replace h := h.alloc (.cells z0 29)
    simpa using h)
  have HR : Hid (NatAt ((((w.alloc (.cells (natA a) 29)).alloc (.cells (natA b) 29)).alloc (.cells z0 29)).alloc (.cells z0 29)) (w.heap.size + 1 + 1 + 1) (0)) := Lib.hid (by
    have h := NatAt.new (((w.alloc (.cells (natA a) 29)).alloc (.cells (natA b) 29)).alloc (.cells z0 29)) (0) 29
    rw [natA_zero] at h
    simpa using h)
  have HW : Hid (Below w.heap.size w ((((w.alloc (.cells (natA a) 29)).alloc (.cells (natA b) 29)).alloc (.cells z0 29)).alloc (.cells z0 29))) := Lib.hid (by
    have h := Below.refl w.heap.size w
    replace h := h.alloc h.size (.cells (natA a) 29)
    replace h := h.alloc h.size (.cells (natA b) 29)
    replace h := h.alloc h.size (.cells z0 29)
    replace h := h.alloc h.size (.cells z0 29)
    exact h)
  have HB0 : Hid (w.heap.size + 4 ≤ ((((w.alloc (.cells (natA a) 29)).alloc (.cells (natA b) 29)).alloc (.cells z0 29)).alloc (.cells z0 29)).heap.size) := Lib.hid (by simp)
  go_enter Try.func33, Try.ntmps33
  go_wp2_with (first | (refine wpl_ldN ntDigits rfl rfl rfl HA.out ?_) | (refine wpl_ldN ntDigits rfl rfl rfl HB.out ?_))
  generalize ((((w.alloc (.cells (natA a) 29)).alloc (.cells (natA b) 29)).alloc (.cells z0 29)).alloc (.cells z0 29)) = w1 at HA HB HQ HR HW HB0 ⊢
  refine (HCB.out _).mono ?_
  rintro e w2 ⟨rfl, hb2⟩
  have HA2 := Lib.hid (HA.out.below hb2)
  have HB2 := Lib.hid (HB.out.below hb2)
  have HQ2 := Lib.hid (HQ.out.below hb2)
  have HR2 := Lib.hid (HR.out.below hb2)
  have HW2 := Lib.hid (HW.out.trans (hb2.mono HW.out.size))
  replace HB0 := Lib.hid (Nat.le_trans HB0.out hb2.size)
  clear HA HB HQ HR HW hb2 HCB
  have cB := HB2.out.cell m32
  go_upto_region 5 with (refine (HLZ.out _).mono ?_; rintro e w3 ⟨rfl, rfl⟩; clear HLZ cB)
  go_cut [9, 10] (fun x y wx => ∃ B9 B10, x = .pointer (some ⟨B9, 0, none⟩) ∧ y = .pointer (some ⟨B10, 0, none⟩) ∧ B9 ≠ B10 ∧ w.heap.size + 4 ≤ B9 ∧ w.heap.size + 4 ≤ B10 ∧ DAt wx B9 33 (a * 2 ^ s) ∧ DAt wx B10 33 V ∧ Below (w.heap.size + 4) w3 wx)
  case first =>
    have hRR : ∀ w9 : World, Below (w.heap.size + 4) w9 w9 := fun _ => Below.refl _ _
    have hRT : ∀ x y z : World, Below (w.heap.size + 4) x y → Below (w.heap.size + 4) y z → Below (w.heap.size + 4) x z := fun _ _ _ h1 h2 => h1.trans h2
    refine region_begin (fun x y => Below (w.heap.size + 4) x y) 10 (by kernel_rfl) (by kernel_rfl) ?_
    have BX : Hid (Below (w.heap.size + 4) w3 w3.drew) := Lib.hid (below_drew' (Below.refl _ _) 1)
    replace HA2 := Lib.hid HA2.out.drew
    replace HB2 := Lib.hid HB2.out.drew
    generalize w3.drew = q0 at HA2 HB2 BX ⊢
    refine anyR_at (o := ?_) (i := 0) ?_ ?_
    rotate_left
    · (conv => (lhs; whnf; arg 1; whnf))
    refine anyR_y hRR hRT (by kernel_rfl) (v := ?_) (by kernel_rfl) (by rfl) (fun W hW => ?_) ?_
    rotate_left
    · (refine exec_ldN (x := .tmp 2) ntNat ?_ ?_ (NatAt.below2 HA2.out hW (by omega))) <;> rfl
    try simp only [Act.put, List.setIfInBounds_toArray, List.set_cons_zero, List.set_cons_succ]
    refine anyR_at (o := ?_) (i := 1) ?_ ?_
    rotate_left
    · (conv => (lhs; whnf; arg 1; whnf))
    refine anyR_y hRR hRT (by kernel_rfl) (v := ?_) (by kernel_rfl) (by rfl) (fun W hW => ?_) ?_
    rotate_left
    · go_simp; try with_reducible rfl
    try simp only [Act.put, List.setIfInBounds_toArray, List.set_cons_zero, List.set_cons_succ]
    refine anyR_at (o := ?_) (i := 3) ?_ ?_
    rotate_left
    · (conv => (lhs; whnf; arg 1; whnf))
    refine anyR_y hRR hRT (by kernel_rfl) (v := ?_) (by kernel_rfl) (by rfl) (fun W hW => ?_) ?_
    rotate_left
    · (refine exec_ldN (x := .tmp 3) ntNat ?_ ?_ (NatAt.below2 HB2.out hW (by omega))) <;> rfl
    try simp only [Act.put, List.setIfInBounds_toArray, List.set_cons_zero, List.set_cons_succ]
    refine anyR_at (o := ?_) (i := 4) ?_ ?_
    rotate_left
    · (conv => (lhs; whnf; arg 1; whnf))
    refine anyR_y hRR hRT (by kernel_rfl) (v := ?_) (by kernel_rfl) (by rfl) (fun W hW => ?_) ?_
    rotate_left
    · go_simp; try with_reducible rfl
    try simp only [Act.put, List.setIfInBounds_toArray, List.set_cons_zero, List.set_cons_succ]
    clear hRR hRT HA2 HB2
    refine anyR_branch [2, 6, 7] (by kernel_rfl) rfl ?_
    refine brs_cons (o := ?_) ?_ ?_ ?_
    rotate_left
    · (conv => (lhs; whnf; arg 1; whnf))
    · refine stepB_c (by rfl) (fun K hK => ?_)
      go_simp
      refine (HMA.out q0).mono ?_
      rintro e q1 ⟨rfl, hb⟩
      have B_1 := Lib.hid (BX.out.trans (hb.mono (Nat.le_trans HB0.out BX.out.size)))
      have R_1 := Lib.hid (hb.mono (Nat.le_trans HB0.out BX.out.size))
      clear hb
      refine hK _ _ R_1.out ?_
      clear hK R_1
      try simp only [Act.put, List.setIfInBounds_toArray, List.set_cons_zero, List.set_cons_succ]
      refine anyR_branch [5, 6, 7] (by kernel_rfl) rfl ?_
      refine brs_cons (o := ?_) ?_ ?_ ?_
      rotate_left
      · (conv => (lhs; whnf; arg 1; whnf))
      · refine stepB_c (by rfl) (fun K hK => ?_)
        go_simp
        refine (HMB.out q1).mono ?_
        rintro e q2 ⟨rfl, hb⟩
        have B_2 := Lib.hid (B_1.out.trans (hb.mono (Nat.le_trans HB0.out B_1.out.size)))
        have R_2 := Lib.hid (hb.mono (Nat.le_trans HB0.out B_1.out.size))
        clear hb
        refine hK _ _ R_2.out ?_
        clear hK R_2
        clear B_1
        try simp only [Act.put, List.setIfInBounds_toArray, List.set_cons_zero, List.set_cons_succ]
        refine anyR_branch [6, 7] (by kernel_rfl) rfl ?_
        refine brs_cons (o := ?_) ?_ ?_ ?_
        rotate_left
        · (conv => (lhs; whnf; arg 1; whnf))
        · refine stepB_c (by rfl) (fun K hK => ?_)
          go_simp
          have hb : Below q2.heap.size q2 (q2.alloc (.cells #[.int .u32 0, .int .u32 0, .int .u32 0, .int .u32 0, .int .u32 0, .int .u32 0, .int .u32 0, .int .u32 0, .int .u32 0, .int .u32 0, .int .u32 0, .int .u32 0, .int .u32 0, .int .u32 0, .int .u32 0, .int .u32 0, .int .u32 0, .int .u32 0, .int .u32 0, .int .u32 0, .int .u32 0, .int .u32 0, .int .u32 0, .int .u32 0, .int .u32 0, .int .u32 0, .int .u32 0, .int .u32 0, .int .u32 0, .int .u32 0, .int .u32 0, .int .u32 0, .int .u32 0] 79)) := (Below.refl _ _).alloc (Nat.le_refl _) _
          have B_3 := Lib.hid (B_2.out.trans (hb.mono (Nat.le_trans HB0.out B_2.out.size)))
          have R_3 := Lib.hid (hb.mono (Nat.le_trans HB0.out B_2.out.size))
          have d9_3 : Hid (DAt (q2.alloc (.cells #[.int .u32 0, .int .u32 0, .int .u32 0, .int .u32 0, .int .u32 0, .int .u32 0, .int .u32 0, .int .u32 0, .int .u32 0, .int .u32 0, .int .u32 0, .int .u32 0, .int .u32 0, .int .u32 0, .int .u32 0, .int .u32 0, .int .u32 0, .int .u32 0, .int .u32 0, .int .u32 0, .int .u32 0, .int .u32 0, .int .u32 0, .int .u32 0, .int .u32 0, .int .u32 0, .int .u32 0, .int .u32 0, .int .u32 0, .int .u32 0, .int .u32 0, .int .u32 0, .int .u32 0] 79)) q2.heap.size 33 0) := Lib.hid ⟨79, by rw [z33]; exact heap_alloc_new _ _⟩
          have m9_3 : Hid (w.heap.size + 4 ≤ q2.heap.size) := Lib.hid (Nat.le_trans HB0.out B_2.out.size)
          clear hb
          generalize (q2.alloc (.cells #[.int .u32 0, .int .u32 0, .int .u32 0, .int .u32 0, .int .u32 0, .int .u32 0, .int .u32 0, .int .u32 0, .int .u32 0, .int .u32 0, .int .u32 0, .int .u32 0, .int .u32 0, .int .u32 0, .int .u32 0, .int .u32 0, .int .u32 0, .int .u32 0, .int .u32 0, .int .u32 0, .int .u32 0, .int .u32 0, .int .u32 0, .int .u32 0, .int .u32 0, .int .u32 0, .int .u32 0, .int .u32 0, .int .u32 0, .int .u32 0, .int .u32 0, .int .u32 0, .int .u32 0] 79)) = q3 at *
          refine hK _ _ R_3.out ?_
          clear hK R_3
          generalize q2.heap.size = p9 at *
          clear B_2
          try simp only [Act.put, List.setIfInBounds_toArray, List.set_cons_zero, List.set_cons_succ]
          refine anyR_branch [7] (by kernel_rfl) rfl ?_
          refine brs_cons (o := ?_) ?_ ?_ ?_
          rotate_left
          · (conv => (lhs; whnf; arg 1; whnf))
          · refine stepB_c (by rfl) (fun K hK => ?_)
            go_simp
            have hb : Below q3.heap.size q3 (q3.alloc (.cells #[.int .u32 0, .int .u32 0, .int .u32 0, .int .u32 0, .int .u32 0, .int .u32 0, .int .u32 0, .int .u32 0, .int .u32 0, .int .u32 0, .int .u32 0, .int .u32 0, .int .u32 0, .int .u32 0, .int .u32 0, .int .u32 0, .int .u32 0, .int .u32 0, .int .u32 0, .int .u32 0, .int .u32 0, .int .u32 0, .int .u32 0, .int .u32 0, .int .u32 0, .int .u32 0, .int .u32 0, .int .u32 0, .int .u32 0, .int .u32 0, .int .u32 0, .int .u32 0, .int .u32 0] 79)) := (Below.refl _ _).alloc (Nat.le_refl _) _
            have d9_4 := Lib.hid (d9_3.out.below hb)
            have B_4 := Lib.hid (B_3.out.trans (hb.mono (Nat.le_trans HB0.out B_3.out.size)))
            have R_4 := Lib.hid (hb.mono (Nat.le_trans HB0.out B_3.out.size))
            have d10_4 : Hid (DAt (q3.alloc (.cells #[.int .u32 0, .int .u32 0, .int .u32 0, .int .u32 0, .int .u32 0, .int .u32 0, .int .u32 0, .int .u32 0, .int .u32 0, .int .u32 0, .int .u32 0, .int .u32 0, .int .u32 0, .int .u32 0, .int .u32 0, .int .u32 0, .int .u32 0, .int .u32 0, .int .u32 0, .int .u32 0, .int .u32 0, .int .u32 0, .int .u32 0, .int .u32 0, .int .u32 0, .int .u32 0, .int .u32 0, .int .u32 0, .int .u32 0, .int .u32 0, .int .u32 0, .int .u32 0, .int .u32 0] 79)) q3.heap.size 33 0) := Lib.hid ⟨79, by rw [z33]; exact heap_alloc_new _ _⟩
            have m10_4 : Hid (w.heap.size + 4 ≤ q3.heap.size) := Lib.hid (Nat.le_trans HB0.out B_3.out.size)
            have ne_4 := Lib.hid (Nat.ne_of_lt d9_3.out.lt)
            clear hb
            generalize (q3.alloc (.cells #[.int .u32 0, .int .u32 0, .int .u32 0, .int .u32 0, .int .u32 0, .int .u32 0, .int .u32 0, .int .u32 0, .int .u32 0, .int .u32 0, .int .u32 0, .int .u32 0, .int .u32 0, .int .u32 0, .int .u32 0, .int .u32 0, .int .u32 0, .int .u32 0, .int .u32 0, .int .u32 0, .int .u32 0, .int .u32 0, .int .u32 0, .int .u32 0, .int .u32 0, .int .u32 0, .int .u32 0, .int .u32 0, .int .u32 0, .int .u32 0, .int .u32 0, .int .u32 0, .int .u32 0] 79)) = q4 at *
            refine hK _ _ R_4.out ?_
            clear hK R_4
            generalize q3.heap.size = p10 at *
            clear B_3 d9_3
            try simp only [Act.put, List.setIfInBounds_toArray, List.set_cons_zero, List.set_cons_succ]
            refine anyR_branch [8] (by kernel_rfl) rfl ?_
            refine brs_cons (o := ?_) ?_ ?_ ?_
            rotate_left
            · (conv => (lhs; whnf; arg 1; whnf))
            · refine stepB_c (by rfl) (fun K hK => ?_)
              refine wp_st_dig dtWide rfl rfl (m := (a * 2 ^ s)) rfl d9_4.out ?_
              intro q5 hd hg
              have d9_5 := Lib.hid hd
              have d10_5 := Lib.hid (d10_4.out.grown hg (by have := ne_4.out; simp; omega))
              have B_5 := Lib.hid (B_4.out.grown hg (Nat.le_trans HB0.out B_4.out.size) (fun j e => by injection e with e; have := m9_3.out; omega))
              have R_5 : Hid (Below (w.heap.size + 4) q4 q5) := Lib.hid ((Below.refl _ _).grown hg (Nat.le_trans HB0.out B_4.out.size) (fun j e => by injection e with e; have := m9_3.out; omega))
              clear hd hg
              refine hK _ _ R_5.out ?_
              clear hK R_5
              clear B_4 d9_4 d10_4
              try simp only [Act.put, List.setIfInBounds_toArray, List.set_cons_zero, List.set_cons_succ]
              refine anyR_branch [9] (by kernel_rfl) rfl ?_
              refine brs_cons (o := ?_) ?_ ?_ ?_
              rotate_left
              · (conv => (lhs; whnf; arg 1; whnf))
              · refine stepB_c (by rfl) (fun K hK => ?_)
                refine wp_st_dig dtWide rfl rfl (m := V) rfl d10_5.out ?_
                intro q6 hd hg
                have d10_6 := Lib.hid hd
                have d9_6 := Lib.hid (d9_5.out.grown hg (by have := ne_4.out; simp; omega))
                have B_6 := Lib.hid (B_5.out.grown hg (Nat.le_trans HB0.out B_5.out.size) (fun j e => by injection e with e; have := m10_4.out; omega))
                have R_6 : Hid (Below (w.heap.size + 4) q5 q6) := Lib.hid ((Below.refl _ _).grown hg (Nat.le_trans HB0.out B_5.out.size) (fun j e => by injection e with e; have := m10_4.out; omega))
                clear hd hg
                refine hK _ _ R_6.out ?_
                clear hK R_6
                clear B_5 d9_5 d10_5
                try simp only [Act.put, List.setIfInBounds_toArray, List.set_cons_zero, List.set_cons_succ]
                refine anyR_end (by kernel_rfl) ?_
                dsimp only [Exit.then]
                go_step
                go_meet
                exact ⟨_, _, rfl, rfl, ne_4.out, m9_3.out, m10_4.out, d9_6.out, d10_6.out, B_6.out⟩
              exact brs_nil
            exact brs_nil
          exact brs_nil
        refine brs_cons (o := ?_) ?_ ?_ ?_
        rotate_left
        · (conv => (lhs; whnf; arg 1; whnf))
        · refine stepB_c (by rfl) (fun K hK => ?_)
          go_simp
          have hb : Below q2.heap.size q2 (q2.alloc (.cells #[.int .u32 0, .int .u32 0, .int .u32 0, .int .u32 0, .int .u32 0, .int .u32 0, .int .u32 0, .int .u32 0, .int .u32 0, .int .u32 0, .int .u32 0, .int .u32 0, .int .u32 0, .int .u32 0, .int .u32 0, .int .u32 0, .int .u32 0, .int .u32 0, .int .u32 0, .int .u32 0, .int .u32 0, .int .u32 0, .int .u32 0, .int .u32 0, .int .u32 0, .int .u32 0, .int .u32 0, .int .u32 0, .int .u32 0, .int .u32 0, .int .u32 0, .int .u32 0, .int .u32 0] 79)) := (Below.refl _ _).alloc (Nat.le_refl _) _
          have B_7 := Lib.hid (B_2.out.trans (hb.mono (Nat.le_trans HB0.out B_2.out.size)))
          have R_7 := Lib.hid (hb.mono (Nat.le_trans HB0.out B_2.out.size))
          have d10_7 : Hid (DAt (q2.alloc (.cells #[.int .u32 0, .int .u32 0, .int .u32 0, .int .u32 0, .int .u32 0, .int .u32 0, .int .u32 0, .int .u32 0, .int .u32 0, .int .u32 0, .int .u32 0, .int .u32 0, .int .u32 0, .int .u32 0, .int .u32 0, .int .u32 0, .int .u32 0, .int .u32 0, .int .u32 0, .int .u32 0, .int .u32 0, .int .u32 0, .int .u32 0, .int .u32 0, .int .u32 0, .int .u32 0, .int .u32 0, .int .u32 0, .int .u32 0, .int .u32 0, .int .u32 0, .int .u32 0, .int .u32 0] 79)) q2.heap.size 33 0) := Lib.hid ⟨79, by rw [z33]; exact heap_alloc_new _ _⟩
          have m10_7 : Hid (w.heap.size + 4 ≤ q2.heap.size) := Lib.hid (Nat.le_trans HB0.out B_2.out.size)
          clear hb
          generalize (q2.alloc (.cells #[.int .u32 0, .int .u32 0, .int .u32 0, .int .u32 0, .int .u32 0, .int .u32 0, .int .u32 0, .int .u32 0, .int .u32 0, .int .u32 0, .int .u32 0, .int .u32 0, .int .u32 0, .int .u32 0, .int .u32 0, .int .u32 0, .int .u32 0, .int .u32 0, .int .u32 0, .int .u32 0, .int .u32 0, .int .u32 0, .int .u32 0, .int .u32 0, .int .u32 0, .int .u32 0, .int .u32 0, .int .u32 0, .int .u32 0, .int .u32 0, .int .u32 0, .int .u32 0, .int .u32 0] 79)) = q7 at *
          refine hK _ _ R_7.out ?_
          clear hK R_7
          generalize q2.heap.size = p10 at *
          clear B_2
          try simp only [Act.put, List.setIfInBounds_toArray, List.set_cons_zero, List.set_cons_succ]
          refine anyR_branch [6] (by kernel_rfl) rfl ?_
          refine brs_cons (o := ?_) ?_ ?_ ?_
          rotate_left
          · (conv => (lhs; whnf; arg 1; whnf))
          · refine stepB_c (by rfl) (fun K hK => ?_)
            go_simp
            have hb : Below q7.heap.size q7 (q7.alloc (.cells #[.int .u32 0, .int .u32 0, .int .u32 0, .int .u32 0, .int .u32 0, .int .u32 0, .int .u32 0, .int .u32 0, .int .u32 0, .int .u32 0, .int .u32 0, .int .u32 0, .int .u32 0, .int .u32 0, .int .u32 0, .int .u32 0, .int .u32 0, .int .u32 0, .int .u32 0, .int .u32 0, .int .u32 0, .int .u32 0, .int .u32 0, .int .u32 0, .int .u32 0, .int .u32 0, .int .u32 0, .int .u32 0, .int .u32 0, .int .u32 0, .int .u32 0, .int .u32 0, .int .u32 0] 79)) := (Below.refl _ _).alloc (Nat.le_refl _) _
            have d10_8 := Lib.hid (d10_7.out.below hb)
            have B_8 := Lib.hid (B_7.out.trans (hb.mono (Nat.le_trans HB0.out B_7.out.size)))
            have R_8 := Lib.hid (hb.mono (Nat.le_trans HB0.out B_7.out.size))
            have d9_8 : Hid (DAt (q7.alloc (.cells #[.int .u32 0, .int .u32 0, .int .u32 0, .int .u32 0, .int .u32 0, .int .u32 0, .int .u32 0, .int .u32 0, .int .u32 0, .int .u32 0, .int .u32 0, .int .u32 0, .int .u32 0, .int .u32 0, .int .u32 0, .int .u32 0, .int .u32 0, .int .u32 0, .int .u32 0, .int .u32 0, .int .u32 0, .int .u32 0, .int .u32 0, .int .u32 0, .int .u32 0, .int .u32 0, .int .u32 0, .int .u32 0, .int .u32 0, .int .u32 0, .int .u32 0, .int .u32 0, .int .u32 0] 79)) q7.heap.size 33 0) := Lib.hid ⟨79, by rw [z33]; exact heap_alloc_new _ _⟩
            have m9_8 : Hid (w.heap.size + 4 ≤ q7.heap.size) := Lib.hid (Nat.le_trans HB0.out B_7.out.size)
            have ne_8 := Lib.hid (Nat.ne_of_gt d10_7.out.lt)
            clear hb
            generalize (q7.alloc (.cells #[.int .u32 0, .int .u32 0, .int .u32 0, .int .u32 0, .int .u32 0, .int .u32 0, .int .u32 0, .int .u32 0, .int .u32 0, .int .u32 0, .int .u32 0, .int .u32 0, .int .u32 0, .int .u32 0, .int .u32 0, .int .u32 0, .int .u32 0, .int .u32 0, .int .u32 0, .int .u32 0, .int .u32 0, .int .u32 0, .int .u32 0, .int .u32 0, .int .u32 0, .int .u32 0, .int .u32 0, .int .u32 0, .int .u32 0, .int .u32 0, .int .u32 0, .int .u32 0, .int .u32 0] 79)) = q8 at *
            refine hK _ _ R_8.out ?_
            clear hK R_8
            generalize q7.heap.size = p9 at *
            clear B_7 d10_7
            try simp only [Act.put, List.setIfInBounds_toArray, List.set_cons_zero, List.set_cons_succ]
            refine anyR_branch [8] (by kernel_rfl) rfl ?_
            refine brs_cons (o := ?_) ?_ ?_ ?_
            rotate_left
            · (conv => (lhs; whnf; arg 1; whnf))
            · refine stepB_c (by rfl) (fun K hK => ?_)
              refine wp_st_dig dtWide rfl rfl (m := (a * 2 ^ s)) rfl d9_8.out ?_
              intro q9 hd hg
              have d9_9 := Lib.hid hd
              have d10_9 := Lib.hid (d10_8.out.grown hg (by have := ne_8.out; simp; omega))
              have B_9 := Lib.hid (B_8.out.grown hg (Nat.le_trans HB0.out B_8.out.size) (fun j e => by injection e with e; have := m9_8.out; omega))
              have R_9 : Hid (Below (w.heap.size + 4) q8 q9) := Lib.hid ((Below.refl _ _).grown hg (Nat.le_trans HB0.out B_8.out.size) (fun j e => by injection e with e; have := m9_8.out; omega))
              clear hd hg
              refine hK _ _ R_9.out ?_
              clear hK R_9
              clear B_8 d10_8 d9_8
              try simp only [Act.put, List.setIfInBounds_toArray, List.set_cons_zero, List.set_cons_succ]
              refine anyR_branch [9] (by kernel_rfl) rfl ?_
              refine brs_cons (o := ?_) ?_ ?_ ?_
              rotate_left
              · (conv => (lhs; whnf; arg 1; whnf))
              · refine stepB_c (by rfl) (fun K hK => ?_)
                refine wp_st_dig dtWide rfl rfl (m := V) rfl d10_9.out ?_
                intro q10 hd hg
                have d10_10 := Lib.hid hd
                have d9_10 := Lib.hid (d9_9.out.grown hg (by have := ne_8.out; simp; omega))
                have B_10 := Lib.hid (B_9.out.grown hg (Nat.le_trans HB0.out B_9.out.size) (fun j e => by injection e with e; have := m10_7.out; omega))
                have R_10 : Hid (Below (w.heap.size + 4) q9 q10) := Lib.hid ((Below.refl _ _).grown hg (Nat.le_trans HB0.out B_9.out.size) (fun j e => by injection e with e; have := m10_7.out; omega))
                clear hd hg
                refine hK _ _ R_10.out ?_
                clear hK R_10
                clear B_9 d10_9 d9_9
                try simp only [Act.put, List.setIfInBounds_toArray, List.set_cons_zero, List.set_cons_succ]
                refine anyR_end (by kernel_rfl) ?_
                dsimp only [Exit.then]
                go_step
                go_meet
                exact ⟨_, _, rfl, rfl, ne_8.out, m9_8.out, m10_7.out, d9_10.out, d10_10.out, B_10.out⟩
              exact brs_nil
            exact brs_nil
          exact brs_nil
        exact brs_nil
      refine brs_cons (o := ?_) ?_ ?_ ?_
      rotate_left
      · (conv => (lhs; whnf; arg 1; whnf))
      · refine stepB_c (by rfl) (fun K hK => ?_)
        go_simp
        have hb : Below q1.heap.size q1 (q1.alloc (.cells #[.int .u32 0, .int .u32 0, .int .u32 0, .int .u32 0, .int .u32 0, .int .u32 0, .int .u32 0, .int .u32 0, .int .u32 0, .int .u32 0, .int .u32 0, .int .u32 0, .int .u32 0, .int .u32 0, .int .u32 0, .int .u32 0, .int .u32 0, .int .u32 0, .int .u32 0, .int .u32 0, .int .u32 0, .int .u32 0, .int .u32 0, .int .u32 0, .int .u32 0, .int .u32 0, .int .u32 0, .int .u32 0, .int .u32 0, .int .u32 0, .int .u32 0, .int .u32 0, .int .u32 0] 79)) := (Below.refl _ _).alloc (Nat.le_refl _) _
        have B_11 := Lib.hid (B_1.out.trans (hb.mono (Nat.le_trans HB0.out B_1.out.size)))
        have R_11 := Lib.hid (hb.mono (Nat.le_trans HB0.out B_1.out.size))
        have d9_11 : Hid (DAt (q1.alloc (.cells #[.int .u32 0, .int .u32 0, .int .u32 0, .int .u32 0, .int .u32 0, .int .u32 0, .int .u32 0, .int .u32 0, .int .u32 0, .int .u32 0, .int .u32 0, .int .u32 0, .int .u32 0, .int .u32 0, .int .u32 0, .int .u32 0, .int .u32 0, .int .u32 0, .int .u32 0, .int .u32 0, .int .u32 0, .int .u32 0, .int .u32 0, .int .u32 0, .int .u32 0, .int .u32 0, .int .u32 0, .int .u32 0, .int .u32 0, .int .u32 0, .int .u32 0, .int .u32 0, .int .u32 0] 79)) q1.heap.size 33 0) := Lib.hid ⟨79, by rw [z33]; exact heap_alloc_new _ _⟩
        have m9_11 : Hid (w.heap.size + 4 ≤ q1.heap.size) := Lib.hid (Nat.le_trans HB0.out B_1.out.size)
        clear hb
        generalize (q1.alloc (.cells #[.int .u32 0, .int .u32 0, .int .u32 0, .int .u32 0, .int .u32 0, .int .u32 0, .int .u32 0, .int .u32 0, .int .u32 0, .int .u32 0, .int .u32 0, .int .u32 0, .int .u32 0, .int .u32 0, .int .u32 0, .int .u32 0, .int .u32 0, .int .u32 0, .int .u32 0, .int .u32 0, .int .u32 0, .int .u32 0, .int .u32 0, .int .u32 0, .int .u32 0, .int .u32 0, .int .u32 0, .int .u32 0, .int .u32 0, .int .u32 0, .int .u32 0, .int .u32 0, .int .u32 0] 79)) = q11 at *
        refine hK _ _ R_11.out ?_
        clear hK R_11
        generalize q1.heap.size = p9 at *
        clear B_1
        try simp only [Act.put, List.setIfInBounds_toArray, List.set_cons_zero, List.set_cons_succ]
        refine anyR_branch [5, 7] (by kernel_rfl) rfl ?_
        refine brs_cons (o := ?_) ?_ ?_ ?_
        rotate_left
        · (conv => (lhs; whnf; arg 1; whnf))
        · refine stepB_c (by rfl) (fun K hK => ?_)
          go_simp
          refine (HMB.out q11).mono ?_
          rintro e q12 ⟨rfl, hb⟩
          have d9_12 := Lib.hid (d9_11.out.below hb)
          have B_12 := Lib.hid (B_11.out.trans (hb.mono (Nat.le_trans HB0.out B_11.out.size)))
          have R_12 := Lib.hid (hb.mono (Nat.le_trans HB0.out B_11.out.size))
          clear hb
          refine hK _ _ R_12.out ?_
          clear hK R_12
          clear B_11 d9_11
          try simp only [Act.put, List.setIfInBounds_toArray, List.set_cons_zero, List.set_cons_succ]
          refine anyR_branch [7] (by kernel_rfl) rfl ?_
          refine brs_cons (o := ?_) ?_ ?_ ?_
          rotate_left
          · (conv => (lhs; whnf; arg 1; whnf))
          · refine stepB_c (by rfl) (fun K hK => ?_)
            go_simp
            have hb : Below q12.heap.size q12 (q12.alloc (.cells #[.int .u32 0, .int .u32 0, .int .u32 0, .int .u32 0, .int .u32 0, .int .u32 0, .int .u32 0, .int .u32 0, .int .u32 0, .int .u32 0, .int .u32 0, .int .u32 0, .int .u32 0, .int .u32 0, .int .u32 0, .int .u32 0, .int .u32 0, .int .u32 0, .int .u32 0, .int .u32 0, .int .u32 0, .int .u32 0, .int .u32 0, .int .u32 0, .int .u32 0, .int .u32 0, .int .u32 0, .int .u32 0, .int .u32 0, .int .u32 0, .int .u32 0, .int .u32 0, .int .u32 0] 79)) := (Below.refl _ _).alloc (Nat.le_refl _) _
            have d9_13 := Lib.hid (d9_12.out.below hb)
            have B_13 := Lib.hid (B_12.out.trans (hb.mono (Nat.le_trans HB0.out B_12.out.size)))
            have R_13 := Lib.hid (hb.mono (Nat.le_trans HB0.out B_12.out.size))
            have d10_13 : Hid (DAt (q12.alloc (.cells #[.int .u32 0, .int .u32 0, .int .u32 0, .int .u32 0, .int .u32 0, .int .u32 0, .int .u32 0, .int .u32 0, .int .u32 0, .int .u32 0, .int .u32 0, .int .u32 0, .int .u32 0, .int .u32 0, .int .u32 0, .int .u32 0, .int .u32 0, .int .u32 0, .int .u32 0, .int .u32 0, .int .u32 0, .int .u32 0, .int .u32 0, .int .u32 0, .int .u32 0, .int .u32 0, .int .u32 0, .int .u32 0, .int .u32 0, .int .u32 0, .int .u32 0, .int .u32 0, .int .u32 0] 79)) q12.heap.size 33 0) := Lib.hid ⟨79, by rw [z33]; exact heap_alloc_new _ _⟩
            have m10_13 : Hid (w.heap.size + 4 ≤ q12.heap.size) := Lib.hid (Nat.le_trans HB0.out B_12.out.size)
            have ne_13 := Lib.hid (Nat.ne_of_lt d9_12.out.lt)
            clear hb
            generalize (q12.alloc (.cells #[.int .u32 0, .int .u32 0, .int .u32 0, .int .u32 0, .int .u32 0, .int .u32 0, .int .u32 0, .int .u32 0, .int .u32 0, .int .u32 0, .int .u32 0, .int .u32 0, .int .u32 0, .int .u32 0, .int .u32 0, .int .u32 0, .int .u32 0, .int .u32 0, .int .u32 0, .int .u32 0, .int .u32 0, .int .u32 0, .int .u32 0, .int .u32 0, .int .u32 0, .int .u32 0, .int .u32 0, .int .u32 0, .int .u32 0, .int .u32 0, .int .u32 0, .int .u32 0, .int .u32 0] 79)) = q13 at *
            refine hK _ _ R_13.out ?_
            clear hK R_13
            generalize q12.heap.size = p10 at *
            clear B_12 d9_12
            try simp only [Act.put, List.setIfInBounds_toArray, List.set_cons_zero, List.set_cons_succ]
            refine anyR_branch [8] (by kernel_rfl) rfl ?_
            refine brs_cons (o := ?_) ?_ ?_ ?_
            rotate_left
            · (conv => (lhs; whnf; arg 1; whnf))
            · refine stepB_c (by rfl) (fun K hK => ?_)
              refine wp_st_dig dtWide rfl rfl (m := (a * 2 ^ s)) rfl d9_13.out ?_
              intro q14 hd hg
              have d9_14 := Lib.hid hd
              have d10_14 := Lib.hid (d10_13.out.grown hg (by have := ne_13.out; simp; omega))
              have B_14 := Lib.hid (B_13.out.grown hg (Nat.le_trans HB0.out B_13.out.size) (fun j e => by injection e with e; have := m9_11.out; omega))
              have R_14 : Hid (Below (w.heap.size + 4) q13 q14) := Lib.hid ((Below.refl _ _).grown hg (Nat.le_trans HB0.out B_13.out.size) (fun j e => by injection e with e; have := m9_11.out; omega))
              clear hd hg
              refine hK _ _ R_14.out ?_
              clear hK R_14
              clear B_13 d9_13 d10_13
              try simp only [Act.put, List.setIfInBounds_toArray, List.set_cons_zero, List.set_cons_succ]
              refine anyR_branch [9] (by kernel_rfl) rfl ?_
              refine brs_cons (o := ?_) ?_ ?_ ?_
              rotate_left
              · (conv => (lhs; whnf; arg 1; whnf))
              · refine stepB_c (by rfl) (fun K hK => ?_)
                refine wp_st_dig dtWide rfl rfl (m := V) rfl d10_14.out ?_
                intro q15 hd hg
                have d10_15 := Lib.hid hd
                have d9_15 := Lib.hid (d9_14.out.grown hg (by have := ne_13.out; simp; omega))
                have B_15 := Lib.hid (B_14.out.grown hg (Nat.le_trans HB0.out B_14.out.size) (fun j e => by injection e with e; have := m10_13.out; omega))
                have R_15 : Hid (Below (w.heap.size + 4) q14 q15) := Lib.hid ((Below.refl _ _).grown hg (Nat.le_trans HB0.out B_14.out.size) (fun j e => by injection e with e; have := m10_13.out; omega))
                clear hd hg
                refine hK _ _ R_15.out ?_
                clear hK R_15
                clear B_14 d9_14 d10_14
                try simp only [Act.put, List.setIfInBounds_toArray, List.set_cons_zero, List.set_cons_succ]
                refine anyR_end (by kernel_rfl) ?_
                dsimp only [Exit.then]
                go_step
                go_meet
                exact ⟨_, _, rfl, rfl, ne_13.out, m9_11.out, m10_13.out, d9_15.out, d10_15.out, B_15.out⟩
              exact brs_nil
            exact brs_nil
          exact brs_nil
        refine brs_cons (o := ?_) ?_ ?_ ?_
        rotate_left
        · (conv => (lhs; whnf; arg 1; whnf))
        · refine stepB_c (by rfl) (fun K hK => ?_)
          go_simp
          have hb : Below q11.heap.size q11 (q11.alloc (.cells #[.int .u32 0, .int .u32 0, .int .u32 0, .int .u32 0, .int .u32 0, .int .u32 0, .int .u32 0, .int .u32 0, .int .u32 0, .int .u32 0, .int .u32 0, .int .u32 0, .int .u32 0, .int .u32 0, .int .u32 0, .int .u32 0, .int .u32 0, .int .u32 0, .int .u32 0, .int .u32 0, .int .u32 0, .int .u32 0, .int .u32 0, .int .u32 0, .int .u32 0, .int .u32 0, .int .u32 0, .int .u32 0, .int .u32 0, .int .u32 0, .int .u32 0, .int .u32 0, .int .u32 0] 79)) := (Below.refl _ _).alloc (Nat.le_refl _) _
          have d9_16 := Lib.hid (d9_11.out.below hb)
          have B_16 := Lib.hid (B_11.out.trans (hb.mono (Nat.le_trans HB0.out B_11.out.size)))
          have R_16 := Lib.hid (hb.mono (Nat.le_trans HB0.out B_11.out.size))
          have d10_16 : Hid (DAt (q11.alloc (.cells #[.int .u32 0, .int .u32 0, .int .u32 0, .int .u32 0, .int .u32 0, .int .u32 0, .int .u32 0, .int .u32 0, .int .u32 0, .int .u32 0, .int .u32 0, .int .u32 0, .int .u32 0, .int .u32 0, .int .u32 0, .int .u32 0, .int .u32 0, .int .u32 0, .int .u32 0, .int .u32 0, .int .u32 0, .int .u32 0, .int .u32 0, .int .u32 0, .int .u32 0, .int .u32 0, .int .u32 0, .int .u32 0, .int .u32 0, .int .u32 0, .int .u32 0, .int .u32 0, .int .u32 0] 79)) q11.heap.size 33 0) := Lib.hid ⟨79, by rw [z33]; exact heap_alloc_new _ _⟩
          have m10_16 : Hid (w.heap.size + 4 ≤ q11.heap.size) := Lib.hid (Nat.le_trans HB0.out B_11.out.size)
          have ne_16 := Lib.hid (Nat.ne_of_lt d9_11.out.lt)
          clear hb
          generalize (q11.alloc (.cells #[.int .u32 0, .int .u32 0, .int .u32 0, .int .u32 0, .int .u32 0, .int .u32 0, .int .u32 0, .int .u32 0, .int .u32 0, .int .u32 0, .int .u32 0, .int .u32 0, .int .u32 0, .int .u32 0, .int .u32 0, .int .u32 0, .int .u32 0, .int .u32 0, .int .u32 0, .int .u32 0, .int .u32 0, .int .u32 0, .int .u32 0, .int .u32 0, .int .u32 0, .int .u32 0, .int .u32 0, .int .u32 0, .int .u32 0, .int .u32 0, .int .u32 0, .int .u32 0, .int .u32 0] 79)) = q16 at *
          refine hK _ _ R_16.out ?_
          clear hK R_16
          generalize q11.heap.size = p10 at *
          clear B_11 d9_11
          try simp only [Act.put, List.setIfInBounds_toArray, List.set_cons_zero, List.set_cons_succ]
          refine anyR_branch [5] (by kernel_rfl) rfl ?_
          refine brs_cons (o := ?_) ?_ ?_ ?_
          rotate_left
          · (conv => (lhs; whnf; arg 1; whnf))
          · refine stepB_c (by rfl) (fun K hK => ?_)
            go_simp
            refine (HMB.out q16).mono ?_
            rintro e q17 ⟨rfl, hb⟩
            have d9_17 := Lib.hid (d9_16.out.below hb)
            have d10_17 := Lib.hid (d10_16.out.below hb)
            have B_17 := Lib.hid (B_16.out.trans (hb.mono (Nat.le_trans HB0.out B_16.out.size)))
            have R_17 := Lib.hid (hb.mono (Nat.le_trans HB0.out B_16.out.size))
            clear hb
            refine hK _ _ R_17.out ?_
            clear hK R_17
            clear B_16 d9_16 d10_16
            try simp only [Act.put, List.setIfInBounds_toArray, List.set_cons_zero, List.set_cons_succ]
            refine anyR_branch [8] (by kernel_rfl) rfl ?_
            refine brs_cons (o := ?_) ?_ ?_ ?_
            rotate_left
            · (conv => (lhs; whnf; arg 1; whnf))
            · refine stepB_c (by rfl) (fun K hK => ?_)
              refine wp_st_dig dtWide rfl rfl (m := (a * 2 ^ s)) rfl d9_17.out ?_
              intro q18 hd hg
              have d9_18 := Lib.hid hd
              have d10_18 := Lib.hid (d10_17.out.grown hg (by have := ne_16.out; simp; omega))
              have B_18 := Lib.hid (B_17.out.grown hg (Nat.le_trans HB0.out B_17.out.size) (fun j e => by injection e with e; have := m9_11.out; omega))
              have R_18 : Hid (Below (w.heap.size + 4) q17 q18) := Lib.hid ((Below.refl _ _).grown hg (Nat.le_trans HB0.out B_17.out.size) (fun j e => by injection e with e; have := m9_11.out; omega))
              clear hd hg
              refine hK _ _ R_18.out ?_
              clear hK R_18
              clear B_17 d9_17 d10_17
              try simp only [Act.put, List.setIfInBounds_toArray, List.set_cons_zero, List.set_cons_succ]
              refine anyR_branch [9] (by kernel_rfl) rfl ?_
              refine brs_cons (o := ?_) ?_ ?_ ?_
              rotate_left
              · (conv => (lhs; whnf; arg 1; whnf))
              · refine stepB_c (by rfl) (fun K hK => ?_)
                refine wp_st_dig dtWide rfl rfl (m := V) rfl d10_18.out ?_
                intro q19 hd hg
                have d10_19 := Lib.hid hd
                have d9_19 := Lib.hid (d9_18.out.grown hg (by have := ne_16.out; simp; omega))
                have B_19 := Lib.hid (B_18.out.grown hg (Nat.le_trans HB0.out B_18.out.size) (fun j e => by injection e with e; have := m10_16.out; omega))
                have R_19 : Hid (Below (w.heap.size + 4) q18 q19) := Lib.hid ((Below.refl _ _).grown hg (Nat.le_trans HB0.out B_18.out.size) (fun j e => by injection e with e; have := m10_16.out; omega))
                clear hd hg
                refine hK _ _ R_19.out ?_
                clear hK R_19
                clear B_18 d9_18 d10_18
                try simp only [Act.put, List.setIfInBounds_toArray, List.set_cons_zero, List.set_cons_succ]
                refine anyR_end (by kernel_rfl) ?_
                dsimp only [Exit.then]
                go_step
                go_meet
                exact ⟨_, _, rfl, rfl, ne_16.out, m9_11.out, m10_16.out, d9_19.out, d10_19.out, B_19.out⟩
              exact brs_nil
            exact brs_nil
          exact brs_nil
        exact brs_nil
      refine brs_cons (o := ?_) ?_ ?_ ?_
      rotate_left
      · (conv => (lhs; whnf; arg 1; whnf))
      · refine stepB_c (by rfl) (fun K hK => ?_)
        go_simp
        have hb : Below q1.heap.size q1 (q1.alloc (.cells #[.int .u32 0, .int .u32 0, .int .u32 0, .int .u32 0, .int .u32 0, .int .u32 0, .int .u32 0, .int .u32 0, .int .u32 0, .int .u32 0, .int .u32 0, .int .u32 0, .int .u32 0, .int .u32 0, .int .u32 0, .int .u32 0, .int .u32 0, .int .u32 0, .int .u32 0, .int .u32 0, .int .u32 0, .int .u32 0, .int .u32 0, .int .u32 0, .int .u32 0, .int .u32 0, .int .u32 0, .int .u32 0, .int .u32 0, .int .u32 0, .int .u32 0, .int .u32 0, .int .u32 0] 79)) := (Below.refl _ _).alloc (Nat.le_refl _) _
        have B_20 := Lib.hid (B_1.out.trans (hb.mono (Nat.le_trans HB0.out B_1.out.size)))
        have R_20 := Lib.hid (hb.mono (Nat.le_trans HB0.out B_1.out.size))
        have d10_20 : Hid (DAt (q1.alloc (.cells #[.int .u32 0, .int .u32 0, .int .u32 0, .int .u32 0, .int .u32 0, .int .u32 0, .int .u32 0, .int .u32 0, .int .u32 0, .int .u32 0, .int .u32 0, .int .u32 0, .int .u32 0, .int .u32 0, .int .u32 0, .int .u32 0, .int .u32 0, .int .u32 0, .int .u32 0, .int .u32 0, .int .u32 0, .int .u32 0, .int .u32 0, .int .u32 0, .int .u32 0, .int .u32 0, .int .u32 0, .int .u32 0, .int .u32 0, .int .u32 0, .int .u32 0, .int .u32 0, .int .u32 0] 79)) q1.heap.size 33 0) := Lib.hid ⟨79, by rw [z33]; exact heap_alloc_new _ _⟩
        have m10_20 : Hid (w.heap.size + 4 ≤ q1.heap.size) := Lib.hid (Nat.le_trans HB0.out B_1.out.size)
        clear hb
        generalize (q1.alloc (.cells #[.int .u32 0, .int .u32 0, .int .u32 0, .int .u32 0, .int .u32 0, .int .u32 0, .int .u32 0, .int .u32 0, .int .u32 0, .int .u32 0, .int .u32 0, .int .u32 0, .int .u32 0, .int .u32 0, .int .u32 0, .int .u32 0, .int .u32 0, .int .u32 0, .int .u32 0, .int .u32 0, .int .u32 0, .int .u32 0, .int .u32 0, .int .u32 0, .int .u32 0, .int .u32 0, .int .u32 0, .int .u32 0, .int .u32 0, .int .u32 0, .int .u32 0, .int .u32 0, .int .u32 0] 79)) = q20 at *
        refine hK _ _ R_20.out ?_
        clear hK R_20
        generalize q1.heap.size = p10 at *
        clear B_1
        try simp only [Act.put, List.setIfInBounds_toArray, List.set_cons_zero, List.set_cons_succ]
        refine anyR_branch [5, 6] (by kernel_rfl) rfl ?_
        refine brs_cons (o := ?_) ?_ ?_ ?_
        rotate_left
        · (conv => (lhs; whnf; arg 1; whnf))
        · refine stepB_c (by rfl) (fun K hK => ?_)
          go_simp
          refine (HMB.out q20).mono ?_
          rintro e q21 ⟨rfl, hb⟩
          have d10_21 := Lib.hid (d10_20.out.below hb)
          have B_21 := Lib.hid (B_20.out.trans (hb.mono (Nat.le_trans HB0.out B_20.out.size)))
          have R_21 := Lib.hid (hb.mono (Nat.le_trans HB0.out B_20.out.size))
          clear hb
          refine hK _ _ R_21.out ?_
          clear hK R_21
          clear B_20 d10_20
          try simp only [Act.put, List.setIfInBounds_toArray, List.set_cons_zero, List.set_cons_succ]
          refine anyR_branch [6] (by kernel_rfl) rfl ?_
          refine brs_cons (o := ?_) ?_ ?_ ?_
          rotate_left
          · (conv => (lhs; whnf; arg 1; whnf))
          · refine stepB_c (by rfl) (fun K hK => ?_)
            go_simp
            have hb : Below q21.heap.size q21 (q21.alloc (.cells #[.int .u32 0, .int .u32 0, .int .u32 0, .int .u32 0, .int .u32 0, .int .u32 0, .int .u32 0, .int .u32 0, .int .u32 0, .int .u32 0, .int .u32 0, .int .u32 0, .int .u32 0, .int .u32 0, .int .u32 0, .int .u32 0, .int .u32 0, .int .u32 0, .int .u32 0, .int .u32 0, .int .u32 0, .int .u32 0, .int .u32 0, .int .u32 0, .int .u32 0, .int .u32 0, .int .u32 0, .int .u32 0, .int .u32 0, .int .u32 0, .int .u32 0, .int .u32 0, .int .u32 0] 79)) := (Below.refl _ _).alloc (Nat.le_refl _) _
            have d10_22 := Lib.hid (d10_21.out.below hb)
            have B_22 := Lib.hid (B_21.out.trans (hb.mono (Nat.le_trans HB0.out B_21.out.size)))
            have R_22 := Lib.hid (hb.mono (Nat.le_trans HB0.out B_21.out.size))
            have d9_22 : Hid (DAt (q21.alloc (.cells #[.int .u32 0, .int .u32 0, .int .u32 0, .int .u32 0, .int .u32 0, .int .u32 0, .int .u32 0, .int .u32 0, .int .u32 0, .int .u32 0, .int .u32 0, .int .u32 0, .int .u32 0, .int .u32 0, .int .u32 0, .int .u32 0, .int .u32 0, .int .u32 0, .int .u32 0, .int .u32 0, .int .u32 0, .int .u32 0, .int .u32 0, .int .u32 0, .int .u32 0, .int .u32 0, .int .u32 0, .int .u32 0, .int .u32 0, .int .u32 0, .int .u32 0, .int .u32 0, .int .u32 0] 79)) q21.heap.size 33 0) := Lib.hid ⟨79, by rw [z33]; exact heap_alloc_new _ _⟩
            have m9_22 : Hid (w.heap.size + 4 ≤ q21.heap.size) := Lib.hid (Nat.le_trans HB0.out B_21.out.size)
            have ne_22 := Lib.hid (Nat.ne_of_gt d10_21.out.lt)
            clear hb
            generalize (q21.alloc (.cells #[.int .u32 0, .int .u32 0, .int .u32 0, .int .u32 0, .int .u32 0, .int .u32 0, .int .u32 0, .int .u32 0, .int .u32 0, .int .u32 0, .int .u32 0, .int .u32 0, .int .u32 0, .int .u32 0, .int .u32 0, .int .u32 0, .int .u32 0, .int .u32 0, .int .u32 0, .int .u32 0, .int .u32 0, .int .u32 0, .int .u32 0, .int .u32 0, .int .u32 0, .int .u32 0, .int .u32 0, .int .u32 0, .int .u32 0, .int .u32 0, .int .u32 0, .int .u32 0, .int .u32 0] 79)) = q22 at *
            refine hK _ _ R_22.out ?_
            clear hK R_22
            generalize q21.heap.size = p9 at *
            clear B_21 d10_21
            try simp only [Act.put, List.setIfInBounds_toArray, List.set_cons_zero, List.set_cons_succ]
            refine anyR_branch [8] (by kernel_rfl) rfl ?_
            refine brs_cons (o := ?_) ?_ ?_ ?_
            rotate_left
            · (conv => (lhs; whnf; arg 1; whnf))
            · refine stepB_c (by rfl) (fun K hK => ?_)
              refine wp_st_dig dtWide rfl rfl (m := (a * 2 ^ s)) rfl d9_22.out ?_
              intro q23 hd hg
              have d9_23 := Lib.hid hd
              have d10_23 := Lib.hid (d10_22.out.grown hg (by have := ne_22.out; simp; omega))
              have B_23 := Lib.hid (B_22.out.grown hg (Nat.le_trans HB0.out B_22.out.size) (fun j e => by injection e with e; have := m9_22.out; omega))
              have R_23 : Hid (Below (w.heap.size + 4) q22 q23) := Lib.hid ((Below.refl _ _).grown hg (Nat.le_trans HB0.out B_22.out.size) (fun j e => by injection e with e; have := m9_22.out; omega))
              clear hd hg
              refine hK _ _ R_23.out ?_
              clear hK R_23
              clear B_22 d10_22 d9_22
              try simp only [Act.put, List.setIfInBounds_toArray, List.set_cons_zero, List.set_cons_succ]
              refine anyR_branch [9] (by kernel_rfl) rfl ?_
              refine brs_cons (o := ?_) ?_ ?_ ?_
              rotate_left
              · (conv => (lhs; whnf; arg 1; whnf))
              · refine stepB_c (by rfl) (fun K hK => ?_)
                refine wp_st_dig dtWide rfl rfl (m := V) rfl d10_23.out ?_
                intro q24 hd hg
                have d10_24 := Lib.hid hd
                have d9_24 := Lib.hid (d9_23.out.grown hg (by have := ne_22.out; simp; omega))
                have B_24 := Lib.hid (B_23.out.grown hg (Nat.le_trans HB0.out B_23.out.size) (fun j e => by injection e with e; have := m10_20.out; omega))
                have R_24 : Hid (Below (w.heap.size + 4) q23 q24) := Lib.hid ((Below.refl _ _).grown hg (Nat.le_trans HB0.out B_23.out.size) (fun j e => by injection e with e; have := m10_20.out; omega))
                clear hd hg
                refine hK _ _ R_24.out ?_
                clear hK R_24
                clear B_23 d10_23 d9_23
                try simp only [Act.put, List.setIfInBounds_toArray, List.set_cons_zero, List.set_cons_succ]
                refine anyR_end (by kernel_rfl) ?_
                dsimp only [Exit.then]
                go_step
                go_meet
                exact ⟨_, _, rfl, rfl, ne_22.out, m9_22.out, m10_20.out, d9_24.out, d10_24.out, B_24.out⟩
              exact brs_nil
            exact brs_nil
          exact brs_nil
        refine brs_cons (o := ?_) ?_ ?_ ?_
        rotate_left
        · (conv => (lhs; whnf; arg 1; whnf))
        · refine stepB_c (by rfl) (fun K hK => ?_)
          go_simp
          have hb : Below q20.heap.size q20 (q20.alloc (.cells #[.int .u32 0, .int .u32 0, .int .u32 0, .int .u32 0, .int .u32 0, .int .u32 0, .int .u32 0, .int .u32 0, .int .u32 0, .int .u32 0, .int .u32 0, .int .u32 0, .int .u32 0, .int .u32 0, .int .u32 0, .int .u32 0, .int .u32 0, .int .u32 0, .int .u32 0, .int .u32 0, .int .u32 0, .int .u32 0, .int .u32 0, .int .u32 0, .int .u32 0, .int .u32 0, .int .u32 0, .int .u32 0, .int .u32 0, .int .u32 0, .int .u32 0, .int .u32 0, .int .u32 0] 79)) := (Below.refl _ _).alloc (Nat.le_refl _) _
          have d10_25 := Lib.hid (d10_20.out.below hb)
          have B_25 := Lib.hid (B_20.out.trans (hb.mono (Nat.le_trans HB0.out B_20.out.size)))
          have R_25 := Lib.hid (hb.mono (Nat.le_trans HB0.out B_20.out.size))
          have d9_25 : Hid (DAt (q20.alloc (.cells #[.int .u32 0, .int .u32 0, .int .u32 0, .int .u32 0, .int .u32 0, .int .u32 0, .int .u32 0, .int .u32 0, .int .u32 0, .int .u32 0, .int .u32 0, .int .u32 0, .int .u32 0, .int .u32 0, .int .u32 0, .int .u32 0, .int .u32 0, .int .u32 0, .int .u32 0, .int .u32 0, .int .u32 0, .int .u32 0, .int .u32 0, .int .u32 0, .int .u32 0, .int .u32 0, .int .u32 0, .int .u32 0, .int .u32 0, .int .u32 0, .int .u32 0, .int .u32 0, .int .u32 0] 79)) q20.heap.size 33 0) := Lib.hid ⟨79, by rw [z33]; exact heap_alloc_new _ _⟩
          have m9_25 : Hid (w.heap.size + 4 ≤ q20.heap.size) := Lib.hid (Nat.le_trans HB0.out B_20.out.size)
          have ne_25 := Lib.hid (Nat.ne_of_gt d10_20.out.lt)
          clear hb
          generalize (q20.alloc (.cells #[.int .u32 0, .int .u32 0, .int .u32 0, .int .u32 0, .int .u32 0, .int .u32 0, .int .u32 0, .int .u32 0, .int .u32 0, .int .u32 0, .int .u32 0, .int .u32 0, .int .u32 0, .int .u32 0, .int .u32 0, .int .u32 0, .int .u32 0, .int .u32 0, .int .u32 0, .int .u32 0, .int .u32 0, .int .u32 0, .int .u32 0, .int .u32 0, .int .u32 0, .int .u32 0, .int .u32 0, .int .u32 0, .int .u32 0, .int .u32 0, .int .u32 0, .int .u32 0, .int .u32 0] 79)) = q25 at *
          refine hK _ _ R_25.out ?_
          clear hK R_25
          generalize q20.heap.size = p9 at *
          clear B_20 d10_20
          try simp only [Act.put, List.setIfInBounds_toArray, List.set_cons_zero, List.set_cons_succ]
          refine anyR_branch [5] (by kernel_rfl) rfl ?_
          refine brs_cons (o := ?_) ?_ ?_ ?_
          rotate_left
          · (conv => (lhs; whnf; arg 1; whnf))
          · refine stepB_c (by rfl) (fun K hK => ?_)
            go_simp
            refine (HMB.out q25).mono ?_
            rintro e q26 ⟨rfl, hb⟩
            have d9_26 := Lib.hid (d9_25.out.below hb)
            have d10_26 := Lib.hid (d10_25.out.below hb)
            have B_26 := Lib.hid (B_25.out.trans (hb.mono (Nat.le_trans HB0.out B_25.out.size)))
            have R_26 := Lib.hid (hb.mono (Nat.le_trans HB0.out B_25.out.size))
            clear hb
            refine hK _ _ R_26.out ?_
            clear hK R_26
            clear B_25 d10_25 d9_25
            try simp only [Act.put, List.setIfInBounds_toArray, List.set_cons_zero, List.set_cons_succ]
            refine anyR_branch [8] (by kernel_rfl) rfl ?_
            refine brs_cons (o := ?_) ?_ ?_ ?_
            rotate_left
            · (conv => (lhs; whnf; arg 1; whnf))
            · refine stepB_c (by rfl) (fun K hK => ?_)
              refine wp_st_dig dtWide rfl rfl (m := (a * 2 ^ s)) rfl d9_26.out ?_
              intro q27 hd hg
              have d9_27 := Lib.hid hd
              have d10_27 := Lib.hid (d10_26.out.grown hg (by have := ne_25.out; simp; omega))
              have B_27 := Lib.hid (B_26.out.grown hg (Nat.le_trans HB0.out B_26.out.size) (fun j e => by injection e with e; have := m9_25.out; omega))
              have R_27 : Hid (Below (w.heap.size + 4) q26 q27) := Lib.hid ((Below.refl _ _).grown hg (Nat.le_trans HB0.out B_26.out.size) (fun j e => by injection e with e; have := m9_25.out; omega))
              clear hd hg
              refine hK _ _ R_27.out ?_
              clear hK R_27
              clear B_26 d10_26 d9_26
              try simp only [Act.put, List.setIfInBounds_toArray, List.set_cons_zero, List.set_cons_succ]
              refine anyR_branch [9] (by kernel_rfl) rfl ?_
              refine brs_cons (o := ?_) ?_ ?_ ?_
              rotate_left
              · (conv => (lhs; whnf; arg 1; whnf))
              · refine stepB_c (by rfl) (fun K hK => ?_)
                refine wp_st_dig dtWide rfl rfl (m := V) rfl d10_27.out ?_
                intro q28 hd hg
                have d10_28 := Lib.hid hd
                have d9_28 := Lib.hid (d9_27.out.grown hg (by have := ne_25.out; simp; omega))
                have B_28 := Lib.hid (B_27.out.grown hg (Nat.le_trans HB0.out B_27.out.size) (fun j e => by injection e with e; have := m10_20.out; omega))
                have R_28 : Hid (Below (w.heap.size + 4) q27 q28) := Lib.hid ((Below.refl _ _).grown hg (Nat.le_trans HB0.out B_27.out.size) (fun j e => by injection e with e; have := m10_20.out; omega))
                clear hd hg
                refine hK _ _ R_28.out ?_
                clear hK R_28
                clear B_27 d10_27 d9_27
                try simp only [Act.put, List.setIfInBounds_toArray, List.set_cons_zero, List.set_cons_succ]
                refine anyR_end (by kernel_rfl) ?_
                dsimp only [Exit.then]
                go_step
                go_meet
                exact ⟨_, _, rfl, rfl, ne_25.out, m9_25.out, m10_20.out, d9_28.out, d10_28.out, B_28.out⟩
              exact brs_nil
            exact brs_nil
          exact brs_nil
        exact brs_nil
      exact brs_nil
    refine brs_cons (o := ?_) ?_ ?_ ?_
    rotate_left
    · (conv => (lhs; whnf; arg 1; whnf))
    · refine stepB_c (by rfl) (fun K hK => ?_)
      go_simp
      have hb : Below q0.heap.size q0 (q0.alloc (.cells #[.int .u32 0, .int .u32 0, .int .u32 0, .int .u32 0, .int .u32 0, .int .u32 0, .int .u32 0, .int .u32 0, .int .u32 0, .int .u32 0, .int .u32 0, .int .u32 0, .int .u32 0, .int .u32 0, .int .u32 0, .int .u32 0, .int .u32 0, .int .u32 0, .int .u32 0, .int .u32 0, .int .u32 0, .int .u32 0, .int .u32 0, .int .u32 0, .int .u32 0, .int .u32 0, .int .u32 0, .int .u32 0, .int .u32 0, .int .u32 0, .int .u32 0, .int .u32 0, .int .u32 0] 79)) := (Below.refl _ _).alloc (Nat.le_refl _) _
      have B_29 := Lib.hid (BX.out.trans (hb.mono (Nat.le_trans HB0.out BX.out.size)))
      have R_29 := Lib.hid (hb.mono (Nat.le_trans HB0.out BX.out.size))
      have d9_29 : Hid (DAt (q0.alloc (.cells #[.int .u32 0, .int .u32 0, .int .u32 0, .int .u32 0, .int .u32 0, .int .u32 0, .int .u32 0, .int .u32 0, .int .u32 0, .int .u32 0, .int .u32 0, .int .u32 0, .int .u32 0, .int .u32 0, .int .u32 0, .int .u32 0, .int .u32 0, .int .u32 0, .int .u32 0, .int .u32 0, .int .u32 0, .int .u32 0, .int .u32 0, .int .u32 0, .int .u32 0, .int .u32 0, .int .u32 0, .int .u32 0, .int .u32 0, .int .u32 0, .int .u32 0, .int .u32 0, .int .u32 0] 79)) q0.heap.size 33 0) := Lib.hid ⟨79, by rw [z33]; exact heap_alloc_new _ _⟩
      have m9_29 : Hid (w.heap.size + 4 ≤ q0.heap.size) := Lib.hid (Nat.le_trans HB0.out BX.out.size)
      clear hb
      generalize (q0.alloc (.cells #[.int .u32 0, .int .u32 0, .int .u32 0, .int .u32 0, .int .u32 0, .int .u32 0, .int .u32 0, .int .u32 0, .int .u32 0, .int .u32 0, .int .u32 0, .int .u32 0, .int .u32 0, .int .u32 0, .int .u32 0, .int .u32 0, .int .u32 0, .int .u32 0, .int .u32 0, .int .u32 0, .int .u32 0, .int .u32 0, .int .u32 0, .int .u32 0, .int .u32 0, .int .u32 0, .int .u32 0, .int .u32 0, .int .u32 0, .int .u32 0, .int .u32 0, .int .u32 0, .int .u32 0] 79)) = q29 at *
      refine hK _ _ R_29.out ?_
      clear hK R_29
      generalize q0.heap.size = p9 at *
      try simp only [Act.put, List.setIfInBounds_toArray, List.set_cons_zero, List.set_cons_succ]
      refine anyR_branch [2, 7] (by kernel_rfl) rfl ?_
      refine brs_cons (o := ?_) ?_ ?_ ?_
      rotate_left
      · (conv => (lhs; whnf; arg 1; whnf))
      · refine stepB_c (by rfl) (fun K hK => ?_)
        go_simp
        refine (HMA.out q29).mono ?_
        rintro e q30 ⟨rfl, hb⟩
        have d9_30 := Lib.hid (d9_29.out.below hb)
        have B_30 := Lib.hid (B_29.out.trans (hb.mono (Nat.le_trans HB0.out B_29.out.size)))
        have R_30 := Lib.hid (hb.mono (Nat.le_trans HB0.out B_29.out.size))
        clear hb
        refine hK _ _ R_30.out ?_
        clear hK R_30
        clear B_29 d9_29
        try simp only [Act.put, List.setIfInBounds_toArray, List.set_cons_zero, List.set_cons_succ]
        refine anyR_branch [5, 7] (by kernel_rfl) rfl ?_
        refine brs_cons (o := ?_) ?_ ?_ ?_
        rotate_left
        · (conv => (lhs; whnf; arg 1; whnf))
        · refine stepB_c (by rfl) (fun K hK => ?_)
          go_simp
          refine (HMB.out q30).mono ?_
          rintro e q31 ⟨rfl, hb⟩
          have d9_31 := Lib.hid (d9_30.out.below hb)
          have B_31 := Lib.hid (B_30.out.trans (hb.mono (Nat.le_trans HB0.out B_30.out.size)))
          have R_31 := Lib.hid (hb.mono (Nat.le_trans HB0.out B_30.out.size))
          clear hb
          refine hK _ _ R_31.out ?_
          clear hK R_31
          clear B_30 d9_30
          try simp only [Act.put, List.setIfInBounds_toArray, List.set_cons_zero, List.set_cons_succ]
          refine anyR_branch [7] (by kernel_rfl) rfl ?_
          refine brs_cons (o := ?_) ?_ ?_ ?_
          rotate_left
          · (conv => (lhs; whnf; arg 1; whnf))
          · refine stepB_c (by rfl) (fun K hK => ?_)
            go_simp
            have hb : Below q31.heap.size q31 (q31.alloc (.cells #[.int .u32 0, .int .u32 0, .int .u32 0, .int .u32 0, .int .u32 0, .int .u32 0, .int .u32 0, .int .u32 0, .int .u32 0, .int .u32 0, .int .u32 0, .int .u32 0, .int .u32 0, .int .u32 0, .int .u32 0, .int .u32 0, .int .u32 0, .int .u32 0, .int .u32 0, .int .u32 0, .int .u32 0, .int .u32 0, .int .u32 0, .int .u32 0, .int .u32 0, .int .u32 0, .int .u32 0, .int .u32 0, .int .u32 0, .int .u32 0, .int .u32 0, .int .u32 0, .int .u32 0] 79)) := (Below.refl _ _).alloc (Nat.le_refl _) _
            have d9_32 := Lib.hid (d9_31.out.below hb)
            have B_32 := Lib.hid (B_31.out.trans (hb.mono (Nat.le_trans HB0.out B_31.out.size)))
            have R_32 := Lib.hid (hb.mono (Nat.le_trans HB0.out B_31.out.size))
            have d10_32 : Hid (DAt (q31.alloc (.cells #[.int .u32 0, .int .u32 0, .int .u32 0, .int .u32 0, .int .u32 0, .int .u32 0, .int .u32 0, .int .u32 0, .int .u32 0, .int .u32 0, .int .u32 0, .int .u32 0, .int .u32 0, .int .u32 0, .int .u32 0, .int .u32 0, .int .u32 0, .int .u32 0, .int .u32 0, .int .u32 0, .int .u32 0, .int .u32 0, .int .u32 0, .int .u32 0, .int .u32 0, .int .u32 0, .int .u32 0, .int .u32 0, .int .u32 0, .int .u32 0, .int .u32 0, .int .u32 0, .int .u32 0] 79)) q31.heap.size 33 0) := Lib.hid ⟨79, by rw [z33]; exact heap_alloc_new _ _⟩
            have m10_32 : Hid (w.heap.size + 4 ≤ q31.heap.size) := Lib.hid (Nat.le_trans HB0.out B_31.out.size)
            have ne_32 := Lib.hid (Nat.ne_of_lt d9_31.out.lt)
            clear hb
            generalize (q31.alloc (.cells #[.int .u32 0, .int .u32 0, .int .u32 0, .int .u32 0, .int .u32 0, .int .u32 0, .int .u32 0, .int .u32 0, .int .u32 0, .int .u32 0, .int .u32 0, .int .u32 0, .int .u32 0, .int .u32 0, .int .u32 0, .int .u32 0, .int .u32 0, .int .u32 0, .int .u32 0, .int .u32 0, .int .u32 0, .int .u32 0, .int .u32 0, .int .u32 0, .int .u32 0, .int .u32 0, .int .u32 0, .int .u32 0, .int .u32 0, .int .u32 0, .int .u32 0, .int .u32 0, .int .u32 0] 79)) = q32 at *
            refine hK _ _ R_32.out ?_
            clear hK R_32
            generalize q31.heap.size = p10 at *
            clear B_31 d9_31
            try simp only [Act.put, List.setIfInBounds_toArray, List.set_cons_zero, List.set_cons_succ]
            refine anyR_branch [8] (by kernel_rfl) rfl ?_
            refine brs_cons (o := ?_) ?_ ?_ ?_
            rotate_left
            · (conv => (lhs; whnf; arg 1; whnf))
            · refine stepB_c (by rfl) (fun K hK => ?_)
              refine wp_st_dig dtWide rfl rfl (m := (a * 2 ^ s)) rfl d9_32.out ?_
              intro q33 hd hg
              have d9_33 := Lib.hid hd
              have d10_33 := Lib.hid (d10_32.out.grown hg (by have := ne_32.out; simp; omega))
              have B_33 := Lib.hid (B_32.out.grown hg (Nat.le_trans HB0.out B_32.out.size) (fun j e => by injection e with e; have := m9_29.out; omega))
              have R_33 : Hid (Below (w.heap.size + 4) q32 q33) := Lib.hid ((Below.refl _ _).grown hg (Nat.le_trans HB0.out B_32.out.size) (fun j e => by injection e with e; have := m9_29.out; omega))
              clear hd hg
              refine hK _ _ R_33.out ?_
              clear hK R_33
              clear B_32 d9_32 d10_32
              try simp only [Act.put, List.setIfInBounds_toArray, List.set_cons_zero, List.set_cons_succ]
              refine anyR_branch [9] (by kernel_rfl) rfl ?_
              refine brs_cons (o := ?_) ?_ ?_ ?_
              rotate_left
              · (conv => (lhs; whnf; arg 1; whnf))
              · refine stepB_c (by rfl) (fun K hK => ?_)
                refine wp_st_dig dtWide rfl rfl (m := V) rfl d10_33.out ?_
                intro q34 hd hg
                have d10_34 := Lib.hid hd
                have d9_34 := Lib.hid (d9_33.out.grown hg (by have := ne_32.out; simp; omega))
                have B_34 := Lib.hid (B_33.out.grown hg (Nat.le_trans HB0.out B_33.out.size) (fun j e => by injection e with e; have := m10_32.out; omega))
                have R_34 : Hid (Below (w.heap.size + 4) q33 q34) := Lib.hid ((Below.refl _ _).grown hg (Nat.le_trans HB0.out B_33.out.size) (fun j e => by injection e with e; have := m10_32.out; omega))
                clear hd hg
                refine hK _ _ R_34.out ?_
                clear hK R_34
                clear B_33 d9_33 d10_33
                try simp only [Act.put, List.setIfInBounds_toArray, List.set_cons_zero, List.set_cons_succ]
                refine anyR_end (by kernel_rfl) ?_
                dsimp only [Exit.then]
                go_step
                go_meet
                exact ⟨_, _, rfl, rfl, ne_32.out, m9_29.out, m10_32.out, d9_34.out, d10_34.out, B_34.out⟩
              exact brs_nil
            exact brs_nil
          exact brs_nil
        refine brs_cons (o := ?_) ?_ ?_ ?_
        rotate_left
        · (conv => (lhs; whnf; arg 1; whnf))
        · refine stepB_c (by rfl) (fun K hK => ?_)
          go_simp
          have hb : Below q30.heap.size q30 (q30.alloc (.cells #[.int .u32 0, .int .u32 0, .int .u32 0, .int .u32 0, .int .u32 0, .int .u32 0, .int .u32 0, .int .u32 0, .int .u32 0, .int .u32 0, .int .u32 0, .int .u32 0, .int .u32 0, .int .u32 0, .int .u32 0, .int .u32 0, .int .u32 0, .int .u32 0, .int .u32 0, .int .u32 0, .int .u32 0, .int .u32 0, .int .u32 0, .int .u32 0, .int .u32 0, .int .u32 0, .int .u32 0, .int .u32 0, .int .u32 0, .int .u32 0, .int .u32 0, .int .u32 0, .int .u32 0] 79)) := (Below.refl _ _).alloc (Nat.le_refl _) _
          have d9_35 := Lib.hid (d9_30.out.below hb)
          have B_35 := Lib.hid (B_30.out.trans (hb.mono (Nat.le_trans HB0.out B_30.out.size)))
          have R_35 := Lib.hid (hb.mono (Nat.le_trans HB0.out B_30.out.size))
          have d10_35 : Hid (DAt (q30.alloc (.cells #[.int .u32 0, .int .u32 0, .int .u32 0, .int .u32 0, .int .u32 0, .int .u32 0, .int .u32 0, .int .u32 0, .int .u32 0, .int .u32 0, .int .u32 0, .int .u32 0, .int .u32 0, .int .u32 0, .int .u32 0, .int .u32 0, .int .u32 0, .int .u32 0, .int .u32 0, .int .u32 0, .int .u32 0, .int .u32 0, .int .u32 0, .int .u32 0, .int .u32 0, .int .u32 0, .int .u32 0, .int .u32 0, .int .u32 0, .int .u32 0, .int .u32 0, .int .u32 0, .int .u32 0] 79)) q30.heap.size 33 0) := Lib.hid ⟨79, by rw [z33]; exact heap_alloc_new _ _⟩
          have m10_35 : Hid (w.heap.size + 4 ≤ q30.heap.size) := Lib.hid (Nat.le_trans HB0.out B_30.out.size)
          have ne_35 := Lib.hid (Nat.ne_of_lt d9_30.out.lt)
          clear hb
          generalize (q30.alloc (.cells #[.int .u32 0, .int .u32 0, .int .u32 0, .int .u32 0, .int .u32 0, .int .u32 0, .int .u32 0, .int .u32 0, .int .u32 0, .int .u32 0, .int .u32 0, .int .u32 0, .int .u32 0, .int .u32 0, .int .u32 0, .int .u32 0, .int .u32 0, .int .u32 0, .int .u32 0, .int .u32 0, .int .u32 0, .int .u32 0, .int .u32 0, .int .u32 0, .int .u32 0, .int .u32 0, .int .u32 0, .int .u32 0, .int .u32 0, .int .u32 0, .int .u32 0, .int .u32 0, .int .u32 0] 79)) = q35 at *
          refine hK _ _ R_35.out ?_
          clear hK R_35
          generalize q30.heap.size = p10 at *
          clear B_30 d9_30
          try simp only [Act.put, List.setIfInBounds_toArray, List.set_cons_zero, List.set_cons_succ]
          refine anyR_branch [5] (by kernel_rfl) rfl ?_
          refine brs_cons (o := ?_) ?_ ?_ ?_
          rotate_left
          · (conv => (lhs; whnf; arg 1; whnf))
          · refine stepB_c (by rfl) (fun K hK => ?_)
            go_simp
            refine (HMB.out q35).mono ?_
            rintro e q36 ⟨rfl, hb⟩
            have d9_36 := Lib.hid (d9_35.out.below hb)
            have d10_36 := Lib.hid (d10_35.out.below hb)
            have B_36 := Lib.hid (B_35.out.trans (hb.mono (Nat.le_trans HB0.out B_35.out.size)))
            have R_36 := Lib.hid (hb.mono (Nat.le_trans HB0.out B_35.out.size))
            clear hb
            refine hK _ _ R_36.out ?_
            clear hK R_36
            clear B_35 d9_35 d10_35
            try simp only [Act.put, List.setIfInBounds_toArray, List.set_cons_zero, List.set_cons_succ]
            refine anyR_branch [8] (by kernel_rfl) rfl ?_
            refine brs_cons (o := ?_) ?_ ?_ ?_
            rotate_left
            · (conv => (lhs; whnf; arg 1; whnf))
            · refine stepB_c (by rfl) (fun K hK => ?_)
              refine wp_st_dig dtWide rfl rfl (m := (a * 2 ^ s)) rfl d9_36.out ?_
              intro q37 hd hg
              have d9_37 := Lib.hid hd
              have d10_37 := Lib.hid (d10_36.out.grown hg (by have := ne_35.out; simp; omega))
              have B_37 := Lib.hid (B_36.out.grown hg (Nat.le_trans HB0.out B_36.out.size) (fun j e => by injection e with e; have := m9_29.out; omega))
              have R_37 : Hid (Below (w.heap.size + 4) q36 q37) := Lib.hid ((Below.refl _ _).grown hg (Nat.le_trans HB0.out B_36.out.size) (fun j e => by injection e with e; have := m9_29.out; omega))
              clear hd hg
              refine hK _ _ R_37.out ?_
              clear hK R_37
              clear B_36 d9_36 d10_36
              try simp only [Act.put, List.setIfInBounds_toArray, List.set_cons_zero, List.set_cons_succ]
              refine anyR_branch [9] (by kernel_rfl) rfl ?_
              refine brs_cons (o := ?_) ?_ ?_ ?_
              rotate_left
              · (conv => (lhs; whnf; arg 1; whnf))
              · refine stepB_c (by rfl) (fun K hK => ?_)
                refine wp_st_dig dtWide rfl rfl (m := V) rfl d10_37.out ?_
                intro q38 hd hg
                have d10_38 := Lib.hid hd
                have d9_38 := Lib.hid (d9_37.out.grown hg (by have := ne_35.out; simp; omega))
                have B_38 := Lib.hid (B_37.out.grown hg (Nat.le_trans HB0.out B_37.out.size) (fun j e => by injection e with e; have := m10_35.out; omega))
                have R_38 : Hid (Below (w.heap.size + 4) q37 q38) := Lib.hid ((Below.refl _ _).grown hg (Nat.le_trans HB0.out B_37.out.size) (fun j e => by injection e with e; have := m10_35.out; omega))
                clear hd hg
                refine hK _ _ R_38.out ?_
                clear hK R_38
                clear B_37 d9_37 d10_37
                try simp only [Act.put, List.setIfInBounds_toArray, List.set_cons_zero, List.set_cons_succ]
                refine anyR_end (by kernel_rfl) ?_
                dsimp only [Exit.then]
                go_step
                go_meet
                exact ⟨_, _, rfl, rfl, ne_35.out, m9_29.out, m10_35.out, d9_38.out, d10_38.out, B_38.out⟩
              exact brs_nil
            exact brs_nil
          exact brs_nil
        exact brs_nil
      refine brs_cons (o := ?_) ?_ ?_ ?_
      rotate_left
      · (conv => (lhs; whnf; arg 1; whnf))
      · refine stepB_c (by rfl) (fun K hK => ?_)
        go_simp
        have hb : Below q29.heap.size q29 (q29.alloc (.cells #[.int .u32 0, .int .u32 0, .int .u32 0, .int .u32 0, .int .u32 0, .int .u32 0, .int .u32 0, .int .u32 0, .int .u32 0, .int .u32 0, .int .u32 0, .int .u32 0, .int .u32 0, .int .u32 0, .int .u32 0, .int .u32 0, .int .u32 0, .int .u32 0, .int .u32 0, .int .u32 0, .int .u32 0, .int .u32 0, .int .u32 0, .int .u32 0, .int .u32 0, .int .u32 0, .int .u32 0, .int .u32 0, .int .u32 0, .int .u32 0, .int .u32 0, .int .u32 0, .int .u32 0] 79)) := (Below.refl _ _).alloc (Nat.le_refl _) _
        have d9_39 := Lib.hid (d9_29.out.below hb)
        have B_39 := Lib.hid (B_29.out.trans (hb.mono (Nat.le_trans HB0.out B_29.out.size)))
        have R_39 := Lib.hid (hb.mono (Nat.le_trans HB0.out B_29.out.size))
        have d10_39 : Hid (DAt (q29.alloc (.cells #[.int .u32 0, .int .u32 0, .int .u32 0, .int .u32 0, .int .u32 0, .int .u32 0, .int .u32 0, .int .u32 0, .int .u32 0, .int .u32 0, .int .u32 0, .int .u32 0, .int .u32 0, .int .u32 0, .int .u32 0, .int .u32 0, .int .u32 0, .int .u32 0, .int .u32 0, .int .u32 0, .int .u32 0, .int .u32 0, .int .u32 0, .int .u32 0, .int .u32 0, .int .u32 0, .int .u32 0, .int .u32 0, .int .u32 0, .int .u32 0, .int .u32 0, .int .u32 0, .int .u32 0] 79)) q29.heap.size 33 0) := Lib.hid ⟨79, by rw [z33]; exact heap_alloc_new _ _⟩
        have m10_39 : Hid (w.heap.size + 4 ≤ q29.heap.size) := Lib.hid (Nat.le_trans HB0.out B_29.out.size)
        have ne_39 := Lib.hid (Nat.ne_of_lt d9_29.out.lt)
        clear hb
        generalize (q29.alloc (.cells #[.int .u32 0, .int .u32 0, .int .u32 0, .int .u32 0, .int .u32 0, .int .u32 0, .int .u32 0, .int .u32 0, .int .u32 0, .int .u32 0, .int .u32 0, .int .u32 0, .int .u32 0, .int .u32 0, .int .u32 0, .int .u32 0, .int .u32 0, .int .u32 0, .int .u32 0, .int .u32 0, .int .u32 0, .int .u32 0, .int .u32 0, .int .u32 0, .int .u32 0, .int .u32 0, .int .u32 0, .int .u32 0, .int .u32 0, .int .u32 0, .int .u32 0, .int .u32 0, .int .u32 0] 79)) = q39 at *
        refine hK _ _ R_39.out ?_
        clear hK R_39
        generalize q29.heap.size = p10 at *
        clear B_29 d9_29
        try simp only [Act.put, List.setIfInBounds_toArray, List.set_cons_zero, List.set_cons_succ]
        refine anyR_branch [2] (by kernel_rfl) rfl ?_
        refine brs_cons (o := ?_) ?_ ?_ ?_
        rotate_left
        · (conv => (lhs; whnf; arg 1; whnf))
        · refine stepB_c (by rfl) (fun K hK => ?_)
          go_simp
          refine (HMA.out q39).mono ?_
          rintro e q40 ⟨rfl, hb⟩
          have d9_40 := Lib.hid (d9_39.out.below hb)
          have d10_40 := Lib.hid (d10_39.out.below hb)
          have B_40 := Lib.hid (B_39.out.trans (hb.mono (Nat.le_trans HB0.out B_39.out.size)))
          have R_40 := Lib.hid (hb.mono (Nat.le_trans HB0.out B_39.out.size))
          clear hb
          refine hK _ _ R_40.out ?_
          clear hK R_40
          clear B_39 d9_39 d10_39
          try simp only [Act.put, List.setIfInBounds_toArray, List.set_cons_zero, List.set_cons_succ]
          refine anyR_branch [5] (by kernel_rfl) rfl ?_
          refine brs_cons (o := ?_) ?_ ?_ ?_
          rotate_left
          · (conv => (lhs; whnf; arg 1; whnf))
          · refine stepB_c (by rfl) (fun K hK => ?_)
            go_simp
            refine (HMB.out q40).mono ?_
            rintro e q41 ⟨rfl, hb⟩
            have d9_41 := Lib.hid (d9_40.out.below hb)
            have d10_41 := Lib.hid (d10_40.out.below hb)
            have B_41 := Lib.hid (B_40.out.trans (hb.mono (Nat.le_trans HB0.out B_40.out.size)))
            have R_41 := Lib.hid (hb.mono (Nat.le_trans HB0.out B_40.out.size))
            clear hb
            refine hK _ _ R_41.out ?_
            clear hK R_41
            clear B_40 d9_40 d10_40
            try simp only [Act.put, List.setIfInBounds_toArray, List.set_cons_zero, List.set_cons_succ]
            refine anyR_branch [8] (by kernel_rfl) rfl ?_
            refine brs_cons (o := ?_) ?_ ?_ ?_
            rotate_left
            · (conv => (lhs; whnf; arg 1; whnf))
            · refine stepB_c (by rfl) (fun K hK => ?_)
              refine wp_st_dig dtWide rfl rfl (m := (a * 2 ^ s)) rfl d9_41.out ?_
              intro q42 hd hg
              have d9_42 := Lib.hid hd
              have d10_42 := Lib.hid (d10_41.out.grown hg (by have := ne_39.out; simp; omega))
              have B_42 := Lib.hid (B_41.out.grown hg (Nat.le_trans HB0.out B_41.out.size) (fun j e => by injection e with e; have := m9_29.out; omega))
              have R_42 : Hid (Below (w.heap.size + 4) q41 q42) := Lib.hid ((Below.refl _ _).grown hg (Nat.le_trans HB0.out B_41.out.size) (fun j e => by injection e with e; have := m9_29.out; omega))
              clear hd hg
              refine hK _ _ R_42.out ?_
              clear hK R_42
              clear B_41 d9_41 d10_41
              try simp only [Act.put, List.setIfInBounds_toArray, List.set_cons_zero, List.set_cons_succ]
              refine anyR_branch [9] (by kernel_rfl) rfl ?_
              refine brs_cons (o := ?_) ?_ ?_ ?_
              rotate_left
              · (conv => (lhs; whnf; arg 1; whnf))
              · refine stepB_c (by rfl) (fun K hK => ?_)
                refine wp_st_dig dtWide rfl rfl (m := V) rfl d10_42.out ?_
                intro q43 hd hg
                have d10_43 := Lib.hid hd
                have d9_43 := Lib.hid (d9_42.out.grown hg (by have := ne_39.out; simp; omega))
                have B_43 := Lib.hid (B_42.out.grown hg (Nat.le_trans HB0.out B_42.out.size) (fun j e => by injection e with e; have := m10_39.out; omega))
                have R_43 : Hid (Below (w.heap.size + 4) q42 q43) := Lib.hid ((Below.refl _ _).grown hg (Nat.le_trans HB0.out B_42.out.size) (fun j e => by injection e with e; have := m10_39.out; omega))
                clear hd hg
                refine hK _ _ R_43.out ?_
                clear hK R_43
                clear B_42 d9_42 d10_42
                try simp only [Act.put, List.setIfInBounds_toArray, List.set_cons_zero, List.set_cons_succ]
                refine anyR_end (by kernel_rfl) ?_
                dsimp only [Exit.then]
                go_step
                go_meet
                exact ⟨_, _, rfl, rfl, ne_39.out, m9_29.out, m10_39.out, d9_43.out, d10_43.out, B_43.out⟩
              exact brs_nil
            exact brs_nil
          exact brs_nil
        exact brs_nil
      exact brs_nil
    refine brs_cons (o := ?_) ?_ ?_ ?_
    rotate_left
    · (conv => (lhs; whnf; arg 1; whnf))
    · refine stepB_c (by rfl) (fun K hK => ?_)
      go_simp
      have hb : Below q0.heap.size q0 (q0.alloc (.cells #[.int .u32 0, .int .u32 0, .int .u32 0, .int .u32 0, .int .u32 0, .int .u32 0, .int .u32 0, .int .u32 0, .int .u32 0, .int .u32 0, .int .u32 0, .int .u32 0, .int .u32 0, .int .u32 0, .int .u32 0, .int .u32 0, .int .u32 0, .int .u32 0, .int .u32 0, .int .u32 0, .int .u32 0, .int .u32 0, .int .u32 0, .int .u32 0, .int .u32 0, .int .u32 0, .int .u32 0, .int .u32 0, .int .u32 0, .int .u32 0, .int .u32 0, .int .u32 0, .int .u32 0] 79)) := (Below.refl _ _).alloc (Nat.le_refl _) _
      have B_44 := Lib.hid (BX.out.trans (hb.mono (Nat.le_trans HB0.out BX.out.size)))
      have R_44 := Lib.hid (hb.mono (Nat.le_trans HB0.out BX.out.size))
      have d10_44 : Hid (DAt (q0.alloc (.cells #[.int .u32 0, .int .u32 0, .int .u32 0, .int .u32 0, .int .u32 0, .int .u32 0, .int .u32 0, .int .u32 0, .int .u32 0, .int .u32 0, .int .u32 0, .int .u32 0, .int .u32 0, .int .u32 0, .int .u32 0, .int .u32 0, .int .u32 0, .int .u32 0, .int .u32 0, .int .u32 0, .int .u32 0, .int .u32 0, .int .u32 0, .int .u32 0, .int .u32 0, .int .u32 0, .int .u32 0, .int .u32 0, .int .u32 0, .int .u32 0, .int .u32 0, .int .u32 0, .int .u32 0] 79)) q0.heap.size 33 0) := Lib.hid ⟨79, by rw [z33]; exact heap_alloc_new _ _⟩
      have m10_44 : Hid (w.heap.size + 4 ≤ q0.heap.size) := Lib.hid (Nat.le_trans HB0.out BX.out.size)
      clear hb
      generalize (q0.alloc (.cells #[.int .u32 0, .int .u32 0, .int .u32 0, .int .u32 0, .int .u32 0, .int .u32 0, .int .u32 0, .int .u32 0, .int .u32 0, .int .u32 0, .int .u32 0, .int .u32 0, .int .u32 0, .int .u32 0, .int .u32 0, .int .u32 0, .int .u32 0, .int .u32 0, .int .u32 0, .int .u32 0, .int .u32 0, .int .u32 0, .int .u32 0, .int .u32 0, .int .u32 0, .int .u32 0, .int .u32 0, .int .u32 0, .int .u32 0, .int .u32 0, .int .u32 0, .int .u32 0, .int .u32 0] 79)) = q44 at *
      refine hK _ _ R_44.out ?_
      clear hK R_44
      generalize q0.heap.size = p10 at *
      try simp only [Act.put, List.setIfInBounds_toArray, List.set_cons_zero, List.set_cons_succ]
      refine anyR_branch [2, 6] (by kernel_rfl) rfl ?_
      refine brs_cons (o := ?_) ?_ ?_ ?_
      rotate_left
      · (conv => (lhs; whnf; arg 1; whnf))
      · refine stepB_c (by rfl) (fun K hK => ?_)
        go_simp
        refine (HMA.out q44).mono ?_
        rintro e q45 ⟨rfl, hb⟩
        have d10_45 := Lib.hid (d10_44.out.below hb)
        have B_45 := Lib.hid (B_44.out.trans (hb.mono (Nat.le_trans HB0.out B_44.out.size)))
        have R_45 := Lib.hid (hb.mono (Nat.le_trans HB0.out B_44.out.size))
        clear hb
        refine hK _ _ R_45.out ?_
        clear hK R_45
        clear B_44 d10_44
        try simp only [Act.put, List.setIfInBounds_toArray, List.set_cons_zero, List.set_cons_succ]
        refine anyR_branch [5, 6] (by kernel_rfl) rfl ?_
        refine brs_cons (o := ?_) ?_ ?_ ?_
        rotate_left
        · (conv => (lhs; whnf; arg 1; whnf))
        · refine stepB_c (by rfl) (fun K hK => ?_)
          go_simp
          refine (HMB.out q45).mono ?_
          rintro e q46 ⟨rfl, hb⟩
          have d10_46 := Lib.hid (d10_45.out.below hb)
          have B_46 := Lib.hid (B_45.out.trans (hb.mono (Nat.le_trans HB0.out B_45.out.size)))
          have R_46 := Lib.hid (hb.mono (Nat.le_trans HB0.out B_45.out.size))
          clear hb
          refine hK _ _ R_46.out ?_
          clear hK R_46
          clear B_45 d10_45
          try simp only [Act.put, List.setIfInBounds_toArray, List.set_cons_zero, List.set_cons_succ]
          refine anyR_branch [6] (by kernel_rfl) rfl ?_
          refine brs_cons (o := ?_) ?_ ?_ ?_
          rotate_left
          · (conv => (lhs; whnf; arg 1; whnf))
          · refine stepB_c (by rfl) (fun K hK => ?_)
            go_simp
            have hb : Below q46.heap.size q46 (q46.alloc (.cells #[.int .u32 0, .int .u32 0, .int .u32 0, .int .u32 0, .int .u32 0, .int .u32 0, .int .u32 0, .int .u32 0, .int .u32 0, .int .u32 0, .int .u32 0, .int .u32 0, .int .u32 0, .int .u32 0, .int .u32 0, .int .u32 0, .int .u32 0, .int .u32 0, .int .u32 0, .int .u32 0, .int .u32 0, .int .u32 0, .int .u32 0, .int .u32 0, .int .u32 0, .int .u32 0, .int .u32 0, .int .u32 0, .int .u32 0, .int .u32 0, .int .u32 0, .int .u32 0, .int .u32 0] 79)) := (Below.refl _ _).alloc (Nat.le_refl _) _
            have d10_47 := Lib.hid (d10_46.out.below hb)
            have B_47 := Lib.hid (B_46.out.trans (hb.mono (Nat.le_trans HB0.out B_46.out.size)))
            have R_47 := Lib.hid (hb.mono (Nat.le_trans HB0.out B_46.out.size))
            have d9_47 : Hid (DAt (q46.alloc (.cells #[.int .u32 0, .int .u32 0, .int .u32 0, .int .u32 0, .int .u32 0, .int .u32 0, .int .u32 0, .int .u32 0, .int .u32 0, .int .u32 0, .int .u32 0, .int .u32 0, .int .u32 0, .int .u32 0, .int .u32 0, .int .u32 0, .int .u32 0, .int .u32 0, .int .u32 0, .int .u32 0, .int .u32 0, .int .u32 0, .int .u32 0, .int .u32 0, .int .u32 0, .int .u32 0, .int .u32 0, .int .u32 0, .int .u32 0, .int .u32 0, .int .u32 0, .int .u32 0, .int .u32 0] 79)) q46.heap.size 33 0) := Lib.hid ⟨79, by rw [z33]; exact heap_alloc_new _ _⟩
            have m9_47 : Hid (w.heap.size + 4 ≤ q46.heap.size) := Lib.hid (Nat.le_trans HB0.out B_46.out.size)
            have ne_47 := Lib.hid (Nat.ne_of_gt d10_46.out.lt)
            clear hb
            generalize (q46.alloc (.cells #[.int .u32 0, .int .u32 0, .int .u32 0, .int .u32 0, .int .u32 0, .int .u32 0, .int .u32 0, .int .u32 0, .int .u32 0, .int .u32 0, .int .u32 0, .int .u32 0, .int .u32 0, .int .u32 0, .int .u32 0, .int .u32 0, .int .u32 0, .int .u32 0, .int .u32 0, .int .u32 0, .int .u32 0, .int .u32 0, .int .u32 0, .int .u32 0, .int .u32 0, .int .u32 0, .int .u32 0, .int .u32 0, .int .u32 0, .int .u32 0, .int .u32 0, .int .u32 0, .int .u32 0] 79)) = q47 at *
            refine hK _ _ R_47.out ?_
            clear hK R_47
            generalize q46.heap.size = p9 at *
            clear B_46 d10_46
            try simp only [Act.put, List.setIfInBounds_toArray, List.set_cons_zero, List.set_cons_succ]
            refine anyR_branch [8] (by kernel_rfl) rfl ?_
            refine brs_cons (o := ?_) ?_ ?_ ?_
            rotate_left
            · (conv => (lhs; whnf; arg 1; whnf))
            · refine stepB_c (by rfl) (fun K hK => ?_)
              refine wp_st_dig dtWide rfl rfl (m := (a * 2 ^ s)) rfl d9_47.out ?_
              intro q48 hd hg
              have d9_48 := Lib.hid hd
              have d10_48 := Lib.hid (d10_47.out.grown hg (by have := ne_47.out; simp; omega))
              have B_48 := Lib.hid (B_47.out.grown hg (Nat.le_trans HB0.out B_47.out.size) (fun j e => by injection e with e; have := m9_47.out; omega))
              have R_48 : Hid (Below (w.heap.size + 4) q47 q48) := Lib.hid ((Below.refl _ _).grown hg (Nat.le_trans HB0.out B_47.out.size) (fun j e => by injection e with e; have := m9_47.out; omega))
              clear hd hg
              refine hK _ _ R_48.out ?_
              clear hK R_48
              clear B_47 d10_47 d9_47
              try simp only [Act.put, List.setIfInBounds_toArray, List.set_cons_zero, List.set_cons_succ]
              refine anyR_branch [9] (by kernel_rfl) rfl ?_
              refine brs_cons (o := ?_) ?_ ?_ ?_
              rotate_left
              · (conv => (lhs; whnf; arg 1; whnf))
              · refine stepB_c (by rfl) (fun K hK => ?_)
                refine wp_st_dig dtWide rfl rfl (m := V) rfl d10_48.out ?_
                intro q49 hd hg
                have d10_49 := Lib.hid hd
                have d9_49 := Lib.hid (d9_48.out.grown hg (by have := ne_47.out; simp; omega))
                have B_49 := Lib.hid (B_48.out.grown hg (Nat.le_trans HB0.out B_48.out.size) (fun j e => by injection e with e; have := m10_44.out; omega))
                have R_49 : Hid (Below (w.heap.size + 4) q48 q49) := Lib.hid ((Below.refl _ _).grown hg (Nat.le_trans HB0.out B_48.out.size) (fun j e => by injection e with e; have := m10_44.out; omega))
                clear hd hg
                refine hK _ _ R_49.out ?_
                clear hK R_49
                clear B_48 d10_48 d9_48
                try simp only [Act.put, List.setIfInBounds_toArray, List.set_cons_zero, List.set_cons_succ]
                refine anyR_end (by kernel_rfl) ?_
                dsimp only [Exit.then]
                go_step
                go_meet
                exact ⟨_, _, rfl, rfl, ne_47.out, m9_47.out, m10_44.out, d9_49.out, d10_49.out, B_49.out⟩
              exact brs_nil
            exact brs_nil
          exact brs_nil
        refine brs_cons (o := ?_) ?_ ?_ ?_
        rotate_left
        · (conv => (lhs; whnf; arg 1; whnf))
        · refine stepB_c (by rfl) (fun K hK => ?_)
          go_simp
          have hb : Below q45.heap.size q45 (q45.alloc (.cells #[.int .u32 0, .int .u32 0, .int .u32 0, .int .u32 0, .int .u32 0, .int .u32 0, .int .u32 0, .int .u32 0, .int .u32 0, .int .u32 0, .int .u32 0, .int .u32 0, .int .u32 0, .int .u32 0, .int .u32 0, .int .u32 0, .int .u32 0, .int .u32 0, .int .u32 0, .int .u32 0, .int .u32 0, .int .u32 0, .int .u32 0, .int .u32 0, .int .u32 0, .int .u32 0, .int .u32 0, .int .u32 0, .int .u32 0, .int .u32 0, .int .u32 0, .int .u32 0, .int .u32 0] 79)) := (Below.refl _ _).alloc (Nat.le_refl _) _
          have d10_50 := Lib.hid (d10_45.out.below hb)
          have B_50 := Lib.hid (B_45.out.trans (hb.mono (Nat.le_trans HB0.out B_45.out.size)))
          have R_50 := Lib.hid (hb.mono (Nat.le_trans HB0.out B_45.out.size))
          have d9_50 : Hid (DAt (q45.alloc (.cells #[.int .u32 0, .int .u32 0, .int .u32 0, .int .u32 0, .int .u32 0, .int .u32 0, .int .u32 0, .int .u32 0, .int .u32 0, .int .u32 0, .int .u32 0, .int .u32 0, .int .u32 0, .int .u32 0, .int .u32 0, .int .u32 0, .int .u32 0, .int .u32 0, .int .u32 0, .int .u32 0, .int .u32 0, .int .u32 0, .int .u32 0, .int .u32 0, .int .u32 0, .int .u32 0, .int .u32 0, .int .u32 0, .int .u32 0, .int .u32 0, .int .u32 0, .int .u32 0, .int .u32 0] 79)) q45.heap.size 33 0) := Lib.hid ⟨79, by rw [z33]; exact heap_alloc_new _ _⟩
          have m9_50 : Hid (w.heap.size + 4 ≤ q45.heap.size) := Lib.hid (Nat.le_trans HB0.out B_45.out.size)
          have ne_50 := Lib.hid (Nat.ne_of_gt d10_45.out.lt)
          clear hb
          generalize (q45.alloc (.cells #[.int .u32 0, .int .u32 0, .int .u32 0, .int .u32 0, .int .u32 0, .int .u32 0, .int .u32 0, .int .u32 0, .int .u32 0, .int .u32 0, .int .u32 0, .int .u32 0, .int .u32 0, .int .u32 0, .int .u32 0, .int .u32 0, .int .u32 0, .int .u32 0, .int .u32 0, .int .u32 0, .int .u32 0, .int .u32 0, .int .u32 0, .int .u32 0, .int .u32 0, .int .u32 0, .int .u32 0, .int .u32 0, .int .u32 0, .int .u32 0, .int .u32 0, .int .u32 0, .int .u32 0] 79)) = q50 at *
          refine hK _ _ R_50.out ?_
          clear hK R_50
          generalize q45.heap.size = p9 at *
          clear B_45 d10_45
          try simp only [Act.put, List.setIfInBounds_toArray, List.set_cons_zero, List.set_cons_succ]
          refine anyR_branch [5] (by kernel_rfl) rfl ?_
          refine brs_cons (o := ?_) ?_ ?_ ?_
          rotate_left
          · (conv => (lhs; whnf; arg 1; whnf))
          · refine stepB_c (by rfl) (fun K hK => ?_)
            go_simp
            refine (HMB.out q50).mono ?_
            rintro e q51 ⟨rfl, hb⟩
            have d9_51 := Lib.hid (d9_50.out.below hb)
            have d10_51 := Lib.hid (d10_50.out.below hb)
            have B_51 := Lib.hid (B_50.out.trans (hb.mono (Nat.le_trans HB0.out B_50.out.size)))
            have R_51 := Lib.hid (hb.mono (Nat.le_trans HB0.out B_50.out.size))
            clear hb
            refine hK _ _ R_51.out ?_
            clear hK R_51
            clear B_50 d10_50 d9_50
            try simp only [Act.put, List.setIfInBounds_toArray, List.set_cons_zero, List.set_cons_succ]
            refine anyR_branch [8] (by kernel_rfl) rfl ?_
            refine brs_cons (o := ?_) ?_ ?_ ?_
            rotate_left
            · (conv => (lhs; whnf; arg 1; whnf))
            · refine stepB_c (by rfl) (fun K hK => ?_)
              refine wp_st_dig dtWide rfl rfl (m := (a * 2 ^ s)) rfl d9_51.out ?_
              intro q52 hd hg
              have d9_52 := Lib.hid hd
              have d10_52 := Lib.hid (d10_51.out.grown hg (by have := ne_50.out; simp; omega))
              have B_52 := Lib.hid (B_51.out.grown hg (Nat.le_trans HB0.out B_51.out.size) (fun j e => by injection e with e; have := m9_50.out; omega))
              have R_52 : Hid (Below (w.heap.size + 4) q51 q52) := Lib.hid ((Below.refl _ _).grown hg (Nat.le_trans HB0.out B_51.out.size) (fun j e => by injection e with e; have := m9_50.out; omega))
              clear hd hg
              refine hK _ _ R_52.out ?_
              clear hK R_52
              clear B_51 d10_51 d9_51
              try simp only [Act.put, List.setIfInBounds_toArray, List.set_cons_zero, List.set_cons_succ]
              refine anyR_branch [9] (by kernel_rfl) rfl ?_
              refine brs_cons (o := ?_) ?_ ?_ ?_
              rotate_left
              · (conv => (lhs; whnf; arg 1; whnf))
              · refine stepB_c (by rfl) (fun K hK => ?_)
                refine wp_st_dig dtWide rfl rfl (m := V) rfl d10_52.out ?_
                intro q53 hd hg
                have d10_53 := Lib.hid hd
                have d9_53 := Lib.hid (d9_52.out.grown hg (by have := ne_50.out; simp; omega))
                have B_53 := Lib.hid (B_52.out.grown hg (Nat.le_trans HB0.out B_52.out.size) (fun j e => by injection e with e; have := m10_44.out; omega))
                have R_53 : Hid (Below (w.heap.size + 4) q52 q53) := Lib.hid ((Below.refl _ _).grown hg (Nat.le_trans HB0.out B_52.out.size) (fun j e => by injection e with e; have := m10_44.out; omega))
                clear hd hg
                refine hK _ _ R_53.out ?_
                clear hK R_53
                clear B_52 d10_52 d9_52
                try simp only [Act.put, List.setIfInBounds_toArray, List.set_cons_zero, List.set_cons_succ]
                refine anyR_end (by kernel_rfl) ?_
                dsimp only [Exit.then]
                go_step
                go_meet
                exact ⟨_, _, rfl, rfl, ne_50.out, m9_50.out, m10_44.out, d9_53.out, d10_53.out, B_53.out⟩
              exact brs_nil
            exact brs_nil
          exact brs_nil
        exact brs_nil
      refine brs_cons (o := ?_) ?_ ?_ ?_
      rotate_left
      · (conv => (lhs; whnf; arg 1; whnf))
      · refine stepB_c (by rfl) (fun K hK => ?_)
        go_simp
        have hb : Below q44.heap.size q44 (q44.alloc (.cells #[.int .u32 0, .int .u32 0, .int .u32 0, .int .u32 0, .int .u32 0, .int .u32 0, .int .u32 0, .int .u32 0, .int .u32 0, .int .u32 0, .int .u32 0, .int .u32 0, .int .u32 0, .int .u32 0, .int .u32 0, .int .u32 0, .int .u32 0, .int .u32 0, .int .u32 0, .int .u32 0, .int .u32 0, .int .u32 0, .int .u32 0, .int .u32 0, .int .u32 0, .int .u32 0, .int .u32 0, .int .u32 0, .int .u32 0, .int .u32 0, .int .u32 0, .int .u32 0, .int .u32 0] 79)) := (Below.refl _ _).alloc (Nat.le_refl _) _
        have d10_54 := Lib.hid (d10_44.out.below hb)
        have B_54 := Lib.hid (B_44.out.trans (hb.mono (Nat.le_trans HB0.out B_44.out.size)))
        have R_54 := Lib.hid (hb.mono (Nat.le_trans HB0.out B_44.out.size))
        have d9_54 : Hid (DAt (q44.alloc (.cells #[.int .u32 0, .int .u32 0, .int .u32 0, .int .u32 0, .int .u32 0, .int .u32 0, .int .u32 0, .int .u32 0, .int .u32 0, .int .u32 0, .int .u32 0, .int .u32 0, .int .u32 0, .int .u32 0, .int .u32 0, .int .u32 0, .int .u32 0, .int .u32 0, .int .u32 0, .int .u32 0, .int .u32 0, .int .u32 0, .int .u32 0, .int .u32 0, .int .u32 0, .int .u32 0, .int .u32 0, .int .u32 0, .int .u32 0, .int .u32 0, .int .u32 0, .int .u32 0, .int .u32 0] 79)) q44.heap.size 33 0) := Lib.hid ⟨79, by rw [z33]; exact heap_alloc_new _ _⟩
        have m9_54 : Hid (w.heap.size + 4 ≤ q44.heap.size) := Lib.hid (Nat.le_trans HB0.out B_44.out.size)
        have ne_54 := Lib.hid (Nat.ne_of_gt d10_44.out.lt)
        clear hb
        generalize (q44.alloc (.cells #[.int .u32 0, .int .u32 0, .int .u32 0, .int .u32 0, .int .u32 0, .int .u32 0, .int .u32 0, .int .u32 0, .int .u32 0, .int .u32 0, .int .u32 0, .int .u32 0, .int .u32 0, .int .u32 0, .int .u32 0, .int .u32 0, .int .u32 0, .int .u32 0, .int .u32 0, .int .u32 0, .int .u32 0, .int .u32 0, .int .u32 0, .int .u32 0, .int .u32 0, .int .u32 0, .int .u32 0, .int .u32 0, .int .u32 0, .int .u32 0, .int .u32 0, .int .u32 0, .int .u32 0] 79)) = q54 at *
        refine hK _ _ R_54.out ?_
        clear hK R_54
        generalize q44.heap.size = p9 at *
        clear B_44 d10_44
        try simp only [Act.put, List.setIfInBounds_toArray, List.set_cons_zero, List.set_cons_succ]
        refine anyR_branch [2] (by kernel_rfl) rfl ?_
        refine brs_cons (o := ?_) ?_ ?_ ?_
        rotate_left
        · (conv => (lhs; whnf; arg 1; whnf))
        · refine stepB_c (by rfl) (fun K hK => ?_)
          go_simp
          refine (HMA.out q54).mono ?_
          rintro e q55 ⟨rfl, hb⟩
          have d9_55 := Lib.hid (d9_54.out.below hb)
          have d10_55 := Lib.hid (d10_54.out.below hb)
          have B_55 := Lib.hid (B_54.out.trans (hb.mono (Nat.le_trans HB0.out B_54.out.size)))
          have R_55 := Lib.hid (hb.mono (Nat.le_trans HB0.out B_54.out.size))
          clear hb
          refine hK _ _ R_55.out ?_
          clear hK R_55
          clear B_54 d10_54 d9_54
          try simp only [Act.put, List.setIfInBounds_toArray, List.set_cons_zero, List.set_cons_succ]
          refine anyR_branch [5] (by kernel_rfl) rfl ?_
          refine brs_cons (o := ?_) ?_ ?_ ?_
          rotate_left
          · (conv => (lhs; whnf; arg 1; whnf))
          · refine stepB_c (by rfl) (fun K hK => ?_)
            go_simp
            refine (HMB.out q55).mono ?_
            rintro e q56 ⟨rfl, hb⟩
            have d9_56 := Lib.hid (d9_55.out.below hb)
            have d10_56 := Lib.hid (d10_55.out.below hb)
            have B_56 := Lib.hid (B_55.out.trans (hb.mono (Nat.le_trans HB0.out B_55.out.size)))
            have R_56 := Lib.hid (hb.mono (Nat.le_trans HB0.out B_55.out.size))
            clear hb
            refine hK _ _ R_56.out ?_
            clear hK R_56
            clear B_55 d10_55 d9_55
            try simp only [Act.put, List.setIfInBounds_toArray, List.set_cons_zero, List.set_cons_succ]
            refine anyR_branch [8] (by kernel_rfl) rfl ?_
            refine brs_cons (o := ?_) ?_ ?_ ?_
            rotate_left
            · (conv => (lhs; whnf; arg 1; whnf))
            · refine stepB_c (by rfl) (fun K hK => ?_)
              refine wp_st_dig dtWide rfl rfl (m := (a * 2 ^ s)) rfl d9_56.out ?_
              intro q57 hd hg
              have d9_57 := Lib.hid hd
              have d10_57 := Lib.hid (d10_56.out.grown hg (by have := ne_54.out; simp; omega))
              have B_57 := Lib.hid (B_56.out.grown hg (Nat.le_trans HB0.out B_56.out.size) (fun j e => by injection e with e; have := m9_54.out; omega))
              have R_57 : Hid (Below (w.heap.size + 4) q56 q57) := Lib.hid ((Below.refl _ _).grown hg (Nat.le_trans HB0.out B_56.out.size) (fun j e => by injection e with e; have := m9_54.out; omega))
              clear hd hg
              refine hK _ _ R_57.out ?_
              clear hK R_57
              clear B_56 d10_56 d9_56
              try simp only [Act.put, List.setIfInBounds_toArray, List.set_cons_zero, List.set_cons_succ]
              refine anyR_branch [9] (by kernel_rfl) rfl ?_
              refine brs_cons (o := ?_) ?_ ?_ ?_
              rotate_left
              · (conv => (lhs; whnf; arg 1; whnf))
              · refine stepB_c (by rfl) (fun K hK => ?_)
                refine wp_st_dig dtWide rfl rfl (m := V) rfl d10_57.out ?_
                intro q58 hd hg
                have d10_58 := Lib.hid hd
                have d9_58 := Lib.hid (d9_57.out.grown hg (by have := ne_54.out; simp; omega))
                have B_58 := Lib.hid (B_57.out.grown hg (Nat.le_trans HB0.out B_57.out.size) (fun j e => by injection e with e; have := m10_44.out; omega))
                have R_58 : Hid (Below (w.heap.size + 4) q57 q58) := Lib.hid ((Below.refl _ _).grown hg (Nat.le_trans HB0.out B_57.out.size) (fun j e => by injection e with e; have := m10_44.out; omega))
                clear hd hg
                refine hK _ _ R_58.out ?_
                clear hK R_58
                clear B_57 d10_57 d9_57
                try simp only [Act.put, List.setIfInBounds_toArray, List.set_cons_zero, List.set_cons_succ]
                refine anyR_end (by kernel_rfl) ?_
                dsimp only [Exit.then]
                go_step
                go_meet
                exact ⟨_, _, rfl, rfl, ne_54.out, m9_54.out, m10_44.out, d9_58.out, d10_58.out, B_58.out⟩
              exact brs_nil
            exact brs_nil
          exact brs_nil
        exact brs_nil
      exact brs_nil
    exact brs_nil
  case rest =>
    obtain ⟨B9, B10, rfl, rfl, hne, h9, h10, hd9, hd10, hbw⟩ := hcut
    have HNE := Lib.hid (And.intro hne (And.intro h9 h10))
    have HAC := Lib.hid (NatAt.below2 HA2.out hbw (by omega))
    have HQC := Lib.hid (NatAt.below2 HQ2.out hbw (by omega))
    have HRC := Lib.hid (NatAt.below2 HR2.out hbw (by omega))
    have HWC := Lib.hid (HW2.out.trans (hbw.mono (by omega)))
    have H9 := Lib.hid hd9
    have H10 := Lib.hid hd10
    clear hne h9 h10 hd9 hd10 hbw HA2 HB2 HQ2 HR2 HW2 HB0 HMA HMB
    go_wp2_with (refine wpl_ldN ntDigits rfl rfl rfl HAC.out ?_)
    refine (HCA.out _).mono ?_
    rintro e w4 ⟨rfl, hb4⟩
    have HQ4 := Lib.hid (HQC.out.below hb4)
    have HR4 := Lib.hid (HRC.out.below hb4)
    have HW4 := Lib.hid (HWC.out.trans (hb4.mono HWC.out.size))
    have HU4 := Lib.hid (H9.out.below hb4)
    have HV4 := Lib.hid (H10.out.below hb4)
    clear HAC HQC HRC HWC H9 H10 hb4 HCA
    obtain ⟨x0, hx0⟩ : ∃ x : Int, x = (cnt a : Int) - (n : Int) := ⟨_, rfl⟩
    have hx1 : x0 < 32 := by have := HB0N.out.2.2.1; have := HN.out; omega
    have hx2 : -40 < x0 := by have := HN.out; omega
    have vx : IntKind.i64.wrap ((cnt a : Int) - (n : Int)) = x0 := by rw [← hx0]; exact IntWalk.i64_in _ (by omega)
    have HX0 := Lib.hid hx0
    clear hx0
    go_wp2_with fail
    clear vx
    go_loopw [11] (fun i wr => ∃ x : Int, -40 < x ∧ x ≤ x0 ∧ i = .int .i64 x ∧ DAt wr B9 33 (divU (a * 2 ^ s) V (x + 1).toNat) ∧ DAt wr B10 33 V ∧ NatAt wr (w.heap.size + 1 + 1) (divQ (a * 2 ^ s) V (x + 1).toNat) ∧ NatAt wr (w.heap.size + 1 + 1 + 1) 0 ∧ Below w.heap.size w wr) (fun i _ => (intOf i + 1).toNat)
    case atStart =>
      have hst := dvd_start (a := a) (s := s) HB0N.out.1 HB0N.out.2.1 (k := (x0 + 1).toNat) (by have := HX0.out; have := HN.out; omega)
      rw [← HV.out.1] at hst
      exact ⟨x0, hx2, Int.le_refl _, rfl, by rw [(div_start hst).1]; exact HU4.out, HV4.out, by rw [(div_start hst).2]; exact HQ4.out, HR4.out, HW4.out⟩
    case round =>
      clear HQ4 HR4 HW4 HU4 HV4
      obtain ⟨x, hy1, hy2, rfl, hd9, hd10, hdq, hdr, hw⟩ := hrel
      have H9 := Lib.hid hd9
      have H10 := Lib.hid hd10
      have HQ := Lib.hid hdq
      have HR := Lib.hid hdr
      have HW := Lib.hid hw
      have HY := Lib.hid (And.intro hy1 (And.intro hy2 hx1))
      clear hd9 hd10 hdq hdr hw hy1 hy2 hx1 hx2
      by_cases hx : 0 ≤ x
      · obtain ⟨f, rfl⟩ : ∃ f : Nat, x = (f : Int) := ⟨x.toNat, by omega⟩
        have e1 : ((f : Int) + 1).toNat = f + 1 := by omega
        rw [e1] at H9 HQ
        have hfm : f + m + 1 < 33 := by have := HY.out; have := HX0.out; have := HN.out; have := HB0N.out.2.2.1; omega
        have f32 : (f : Int) < 32 := by omega
        have hR := dv_high (A := a * 2 ^ s) (V := V) (f := f) HV.out.2.1
        obtain ⟨t, ht⟩ : ∃ t, t = f + m + 1 := ⟨_, rfl⟩
        have hE := estimate_any B9 B10 _ V f m wr H9.out H10.out HV.out.2.2.1 HV.out.2.2.2 hR hfm t n ht HN.out
        have HE := Lib.hid hE
        have vt : IntKind.i64.wrap ((f : Int) + (n : Int)) = (t : Int) := by rw [show (f : Int) + (n : Int) = (t : Int) from by have := HN.out; omega]; exact IntWalk.i64_in _ (by omega)
        have HFM := Lib.hid hfm
        have HRR := Lib.hid hR
        clear e1 hfm hR ht hE
        go_wp2_with fail
        refine HE.out.mono ?_
        rintro e w5 ⟨q, mm, rfl, hq, hq1, hq2, rfl⟩
        have hD := reduce_any B9 B10 _ V f m q (wr.drewN mm) (H9.out.drewN mm) (H10.out.drewN mm) HNE.out.1 HV.out.2.1 HV.out.2.2.1 HRR.out HFM.out hq hq1 hq2 n HN.out
        have HD := Lib.hid hD
        clear hq hq1 hq2 hD HE vt
        go_wp2_with fail
        refine HD.out.mono ?_
        rintro e w6 ⟨rfl, hd9, hg⟩
        rw [(divU_high (a * 2 ^ s) V f).1, ← divU_step HV.out.2.1] at hd9
        rw [(divU_high (a * 2 ^ s) V f).1]
        have hg' := grown_undrewN hg
        have N9 := Lib.hid hd9
        have N10 := Lib.hid (H10.out.grown hg' (by have := HNE.out.1; simp; omega))
        have NQ := Lib.hid (HQ.out.grown hg' (by have := HNE.out.2.1; simp; omega))
        have NR := Lib.hid (HR.out.grown hg' (by have := HNE.out.2.1; simp; omega))
        have NW := Lib.hid (HW.out.grown hg' HW.out.size (fun j e => by injection e with e; have := HNE.out.2.1; omega))
        have hzl := divN_digit (A := a * 2 ^ s) (V := V) (i := f) HV.out.2.1
        have cQ := (DAt.of_nat NQ.out).cell (show f < 32 by omega)
        have fQ := NQ.out.frozen f
        obtain ⟨z, hz⟩ : ∃ z : Int, z = ((divN (a * 2 ^ s) V f / V : Nat) : Int) := ⟨_, rfl⟩
        rw [← hz]
        have hz1 : IntKind.u32.wrap z = z := by rw [IntKind.wrap_u32, hz]; generalize divN (a * 2 ^ s) V f / V = zz at *; omega
        have hset := (DAt.of_nat NQ.out).set (show f < 32 by omega) hzl z hz
        rw [← divQ_step HV.out.2.1] at hset
        have HSET := Lib.hid hset.1
        have HG2 := Lib.hid hset.2
        have HF32 : Hid (f < 32) := Lib.hid (by omega)
        generalize ((dig (divQ (a * 2 ^ s) V (f + 1)) f : Nat) : Int) = old at cQ
        clear hd9 hg hg' hz hzl hset H9 H10 HQ HR HW HD HRR HFM
        have hf1 : IntKind.i64.wrap ((f : Int) - 1) = (f : Int) - 1 := IntWalk.i64_in _ (by omega)
        go_wp2_with fail
        have M9 := Lib.hid (N9.out.grown HG2.out (by have := HNE.out.2.1; simp; omega))
        have M10 := Lib.hid (N10.out.grown HG2.out (by have := HNE.out.2.2; simp; omega))
        have MR := Lib.hid (NR.out.grown HG2.out (by simp))
        have MW := Lib.hid (NW.out.grown HG2.out NW.out.size (fun j e => by injection e with e; omega))
        go_roundw
        case rel =>
          have e2 : ((f : Int) - 1 + 1).toNat = f := by omega
          refine ⟨(f : Int) - 1, by omega, by have := HY.out; omega, rfl, ?_⟩
          rw [e2]
          exact ⟨M9.out, M10.out, HSET.out, MR.out, MW.out⟩
        case measure => simp [intOf]
      · have e1 : (x + 1).toNat = 0 := by omega
        rw [e1, divU_zero] at H9
        rw [e1, divQ_zero, HV.out.1, dv_quot] at HQ
        have HN33 : Hid (n ≤ 32) := Lib.hid (by have := HN.out; omega)
        have HU : Hid ((a * 2 ^ s % V) / 2 ^ s = a % b) := Lib.hid (by rw [HV.out.1]; exact dv_back a b s)
        generalize a * 2 ^ s % V = U at H9 HU
        clear e1 HY H10 HX0
        go_wp2_with fail
        go_loopw [12, 13, 57] (fun _ _ i wr => ∃ k : Nat, k ≤ n ∧ i = .int .i64 (k : Int) ∧ NatAt wr (w.heap.size + 1 + 1 + 1) (a % b % B32 k) ∧ DAt wr B9 33 U ∧ NatAt wr (w.heap.size + 1 + 1) (a / b) ∧ Below w.heap.size w wr) (fun _ _ i _ => ((n : Int) - intOf i).toNat)
        case atStart => exact ⟨0, Nat.zero_le _, rfl, by rw [B32_zero, Nat.mod_one]; exact HR.out, H9.out, HQ.out, HW.out⟩
        case round =>
          clear HR H9 HQ HW
          obtain ⟨k, hk, rfl, hdr, hd9, hdq, hw⟩ := hrel
          have H9 := Lib.hid hd9
          have HQ := Lib.hid hdq
          have HR := Lib.hid hdr
          have HW := Lib.hid hw
          have HK := Lib.hid hk
          clear hd9 hdq hdr hw hk
          by_cases hkn : k < n
          · have hk32 : k < 32 := by have := HN33.out; omega
            have hki : (k : Int) < 32 := by omega
            obtain ⟨k', hk'⟩ : ∃ k', k' = k + 1 := ⟨_, rfl⟩
            have hk1 : IntKind.i64.wrap ((k : Int) + 1) = (k' : Int) := by rw [show (k : Int) + 1 = (k' : Int) from by omega]; exact IntWalk.i64_in _ (by omega)
            have hk2 : (k' : Int) ≤ 32 := by omega
            have hk3 : (k' : Int) < 33 := by omega
            have hk33 : (k : Int) < 33 := by omega
            have c1 := H9.out.cell (show k' < 33 by omega)
            have c0 := H9.out.cell (show k < 33 by omega)
            have cR := (DAt.of_nat HR.out).cell (show k < 32 by omega)
            have fR := HR.out.frozen k
            have HK32 := Lib.hid (And.intro hk32 hk')
            obtain ⟨X, hX⟩ : ∃ y : Int, y = ((dig U k' : Nat) : Int) := ⟨_, rfl⟩
            obtain ⟨Y, hY⟩ : ∃ y : Int, y = ((dig U k : Nat) : Int) := ⟨_, rfl⟩
            rw [← hX] at c1
            rw [← hY] at c0
            have x0 : 0 ≤ X := by omega
            have y0 : 0 ≤ Y := by omega
            have x8 : X < 4294967296 := by have := dig_lt' U k'; omega
            have y8 : Y < 4294967296 := by have := dig_lt' U k; omega
            have HXY := Lib.hid (And.intro hX hY)
            generalize ((dig (a % b % B32 k) k : Nat) : Int) = old at cR
            clear hX hY hk32 hk'
            go_wp2_with fail
            have hval : bits .or .u64 (X * 4294967296) Y / 2 ^ s % 4294967296 = ((dig (a % b) k : Nat) : Int) := by
              rw [HXY.out.1, HXY.out.2, or_last _ _ (dig_lt' _ _) (dig_lt' _ _), ← HU.out, ← back_dig U s k HB0N.out.2.2.2, HK32.out.2]
              simp
            have hset := (DAt.of_nat HR.out).set HK32.out.1 (dig_lt' (a % b) k) _ hval
            rw [setB_mod] at hset
            have HSET := Lib.hid hset.1
            have M9 := Lib.hid (H9.out.grown hset.2 (by have := HNE.out.2.1; simp; omega))
            have MQ := Lib.hid (HQ.out.grown hset.2 (by simp))
            have MW := Lib.hid (HW.out.grown hset.2 HW.out.size (fun j e => by injection e with e; omega))
            clear hset hval
            go_roundw
            case rel => exact ⟨k', by have := HK32.out.2; omega, rfl, by rw [HK32.out.2]; exact DAt.nat HSET.out, M9.out, MQ.out, MW.out⟩
            case measure => have := HK32.out.2; simp [intOf]; omega
          · have hend : Hid (a % b % B32 k = a % b) := Lib.hid (by
              have h1 : k = n := by have := HK.out; omega
              refine Nat.mod_eq_of_lt (Nat.lt_trans (Nat.mod_lt _ (Nat.pos_of_ne_zero HB0N.out.1)) ?_)
              rw [h1, HN.out, ← HB0N.out.2.1]
              exact lt_cnt b)
            rw [hend.out] at HR
            clear hend
            go_wp2_with fail
            replace HQ := Lib.hid HQ.out.drew
            replace HR := Lib.hid HR.out.drew
            replace HW := Lib.hid (below_drew' HW.out 1)
            clear H9 HK HN33 HU hkn
            refine region_roadN (fun w1 w2 => NatAt w1 (w.heap.size + 1 + 1 + 1) (a % b) → NatAt w2 (w.heap.size + 1 + 1 + 1) (a % b)) [(1, true), (0, false), (2, false), (3, false), (4, true)] (by kernel_rfl) (by kernel_rfl) (by kernel_rfl) (by kernel_rfl) (by kernel_rfl) (by kernel_rfl) (fun _ h => h) (fun _ _ _ f g h => g (f h)) ?_
            have HW' : Hid (Below w.heap.size w wr.drew) := HW
            clear HW
            have HW := HW'
            clear HW'
            generalize wr.drew = w7 at HQ HR HW ⊢
            refine seqR_at (o := ?_) ?_ ?_
            rotate_left
            · (conv => (lhs; whnf; arg 1; whnf))
            refine seqR_y (v := ?_) (by rfl) (fun W hW => ?_) ?_
            rotate_left
            · (refine exec_ldN (x := .tmp 5) ntNat ?_ ?_ (hW HR.out)) <;> rfl
            try simp only [Act.put, List.setIfInBounds_toArray, List.set_cons_zero, List.set_cons_succ]
            refine seqR_at (o := ?_) ?_ ?_
            rotate_left
            · (conv => (lhs; whnf; arg 1; whnf))
            refine seqR_c (by rfl) (fun K hK => ?_)
            refine wp_ld_dig dtNat rfl rfl (DAt.of_nat HQ.out) ?_
            refine hK _ _ (fun h => h) ?_
            try simp only [Act.put, List.setIfInBounds_toArray, List.set_cons_zero, List.set_cons_succ]
            refine seqR_at (o := ?_) ?_ ?_
            rotate_left
            · (conv => (lhs; whnf; arg 1; whnf))
            refine seqR_c (by rfl) (fun K hK => ?_)
            refine wp_st_dig dtNat rfl rfl rfl (DAt.of_nat HQ.out) ?_
            intro w8 hd8 hg8
            have S4 := Lib.hid (DAt.nat hd8)
            have S5 := Lib.hid (HR.out.grown hg8 (by simp))
            have SW := Lib.hid (HW.out.grown hg8 HW.out.size (fun j e => by injection e with e; omega))
            refine hK _ _ (fun h => NatAt.grown h hg8 (by simp)) ?_
            clear hd8 hg8 HQ HR HW
            try simp only [Act.put, List.setIfInBounds_toArray, List.set_cons_zero, List.set_cons_succ]
            refine seqR_at (o := ?_) ?_ ?_
            rotate_left
            · (conv => (lhs; whnf; arg 1; whnf))
            refine seqR_c (by rfl) (fun K hK => ?_)
            refine wp_st_dig dtNat rfl rfl rfl (DAt.of_nat S5.out) ?_
            intro w9 hd9 hg9
            have T5 := Lib.hid (DAt.nat hd9)
            have T4 := Lib.hid (S4.out.grown hg9 (by simp))
            have TW := Lib.hid (SW.out.grown hg9 SW.out.size (fun j e => by injection e with e; omega))
            refine hK _ _ (fun _ => T5.out) ?_
            clear hd9 hg9 S4 S5 SW
            try simp only [Act.put, List.setIfInBounds_toArray, List.set_cons_zero, List.set_cons_succ]
            refine seqR_at (o := ?_) ?_ ?_
            rotate_left
            · (conv => (lhs; whnf; arg 1; whnf))
            refine seqR_y (v := ?_) (by rfl) (fun W hW => ?_) ?_
            rotate_left
            · go_simp; try with_reducible rfl
            try simp only [Act.put, List.setIfInBounds_toArray, List.set_cons_zero, List.set_cons_succ]
            refine seqR_end ?_
            simp only [onN]
            dsimp only [Exit.then]
            go_wp2_with fail
            refine bodyPost_ret (results_two rfl _ _ rfl rfl T4.out T5.out) rfl ?_
            exact ⟨rfl, TW.out⟩

set_option maxHeartbeats 3200000 in
theorem divide_zero (a b : Nat) (w : World) (hb : b = 0) :
    Calls Try.prog 33 #[.agg (natA a), .agg (natA b)] w (RetD w 0 0 2) := by
  have HCB : Hid (∀ W, _) := Lib.hid (fun W => count_any b W (by rw [hb]; exact Fit.zero))
  rw [show cnt b = 0 from by rw [hb]; rfl] at HCB
  clear hb
  have HA : Hid (NatAt ((((w.alloc (.cells (natA a) 29)).alloc (.cells (natA b) 29)).alloc (.cells z0 29)).alloc (.cells z0 29)) (w.heap.size) (a)) := Lib.hid (by
    have h := NatAt.new w (a) 29
    replace h := h.alloc (.cells (natA b) 29)
    replace h := h.alloc (.cells z0 29)
    replace h := h.alloc (.cells z0 29)
    simpa using h)
  have HB : Hid (NatAt ((((w.alloc (.cells (natA a) 29)).alloc (.cells (natA b) 29)).alloc (.cells z0 29)).alloc (.cells z0 29)) (w.heap.size + 1) (b)) := Lib.hid (by
    have h := NatAt.new (w.alloc (.cells (natA a) 29)) (b) 29
    replace h := h.alloc (.cells z0 29)
    replace h := h.alloc (.cells z0 29)
    simpa using h)
  have HQ : Hid (NatAt ((((w.alloc (.cells (natA a) 29)).alloc (.cells (natA b) 29)).alloc (.cells z0 29)).alloc (.cells z0 29)) (w.heap.size + 1 + 1) (0)) := Lib.hid (by
    have h := NatAt.new ((w.alloc (.cells (natA a) 29)).alloc (.cells (natA b) 29)) (0) 29
    rw [natA_zero] at h
    replace h := h.alloc (.cells z0 29)
    simpa using h)
  have HR : Hid (NatAt ((((w.alloc (.cells (natA a) 29)).alloc (.cells (natA b) 29)).alloc (.cells z0 29)).alloc (.cells z0 29)) (w.heap.size + 1 + 1 + 1) (0)) := Lib.hid (by
    have h := NatAt.new (((w.alloc (.cells (natA a) 29)).alloc (.cells (natA b) 29)).alloc (.cells z0 29)) (0) 29
    rw [natA_zero] at h
    simpa using h)
  have HW : Hid (Below w.heap.size w ((((w.alloc (.cells (natA a) 29)).alloc (.cells (natA b) 29)).alloc (.cells z0 29)).alloc (.cells z0 29))) := Lib.hid (by
    have h := Below.refl w.heap.size w
    replace h := h.alloc h.size (.cells (natA a) 29)
    replace h := h.alloc h.size (.cells (natA b) 29)
    replace h := h.alloc h.size (.cells z0 29)
    replace h := h.alloc h.size (.cells z0 29)
    exact h)

  clear HA
  go_enter Try.func33, Try.ntmps33
  go_wp2_with (first | (refine wpl_ldN ntDigits rfl rfl rfl HB.out ?_))
  generalize ((((w.alloc (.cells (natA a) 29)).alloc (.cells (natA b) 29)).alloc (.cells z0 29)).alloc (.cells z0 29)) = w1 at HB HQ HR HW ⊢
  refine (HCB.out _).mono ?_
  rintro e w2 ⟨rfl, hb2⟩
  have HQ2 := Lib.hid (HQ.out.below hb2)
  have HR2 := Lib.hid (HR.out.below hb2)
  have HW2 := Lib.hid (HW.out.trans (hb2.mono HW.out.size))
  clear HB HQ HR HW hb2 HCB
  go_wp2_with (refine wpl_stN (m := 0) ntNat rfl rfl rfl (by rw [natA_zero]; rfl) HQ2.out ?_; intro w8 hn8 hg8; have HN8 := Lib.hid hn8; have HR3 := Lib.hid (HR2.out.grown hg8 (by simp)); have HW3 := Lib.hid (HW2.out.grown hg8 HW2.out.size (fun j e => by injection e with e; omega)); clear hn8 hg8 HQ2 HR2 HW2; refine wpl_stN (m := 0) ntNat rfl rfl rfl (by rw [natA_zero]; rfl) HR3.out ?_; intro w9 hn9 hg9; have HN9 := Lib.hid hn9; have HN10 := Lib.hid (HN8.out.grown hg9 (by simp)); have HW9 := Lib.hid (HW3.out.grown hg9 HW3.out.size (fun j e => by injection e with e; omega)); clear hn9 hg9)
  refine bodyPost_ret (results_two rfl _ _ rfl rfl HN10.out HN9.out) rfl ?_
  exact ⟨rfl, HW9.out⟩
def divA (a b : Nat) : Nat := if b = 0 then 0 else a / b
def divR (a b : Nat) : Nat := if b = 0 then 0 else a % b
def divE (b : Nat) : Int := if b = 0 then 2 else 0
theorem divide_any (a b : Nat) (w : World) (ha : Fit a) (hb : Fit b) :
    Calls Try.prog 33 #[.agg (natA a), .agg (natA b)] w (RetD w (divA a b) (divR a b) (divE b)) := by
  unfold divA divR divE
  by_cases h : b = 0
  · simp only [h, if_true]
    have := divide_zero a b w h
    rwa [h] at this
  · simp only [h, if_false]
    obtain ⟨m, hm⟩ : ∃ m, cnt b = m + 1 := ⟨cnt b - 1, by have : cnt b ≠ 0 := fun h2 => h (cnt_eq_zero.1 h2); omega⟩
    exact divide_main a b m w ha hb h hm

end Go.Proofs.Ytomiapceefbmeaa
