/- Walks: Add, Sub (printed by gennatf.py). · Walks: equality of numbers, IsZero. · Walks: IsZero, BitLen, Bit, FromInt, Int (printed by gennath.py). -/
import Derived.Test.YtomiapceefbmeaaNatE
set_option linter.unusedVariables false
set_option linter.unusedSimpArgs false
set_option maxRecDepth 20000
namespace Go.Proofs.Ytomiapceefbmeaa
open Go.RowKit

set_option maxHeartbeats 1600000 in
theorem add_any (a b : Nat) (w : World) (ha : Fit a) (hb : Fit b) :
    Calls Try.prog 36 #[.agg (natA a), .agg (natA b)] w fun e w' => e = .returned (.tuple #[.agg (natA (if a + b < B32 32 then a + b else 0)), .int .i64 (if a + b < B32 32 then 0 else 7)]) ∧ Below w.heap.size w w' := by
  have HCALL : Hid (∀ W, _) := Lib.hid (fun W => sum_any a b W ha hb)
  have hc : ((((a + b) / B32 32 : Nat) : Int) = 0) ↔ a + b < B32 32 := by
    have h1 := B32_pos 32
    constructor
    · intro h
      exact (Nat.div_eq_zero_iff_lt h1).1 (by omega)
    · intro h
      rw [Nat.div_eq_of_lt h]; rfl
  have hr : a + b < B32 32 → ((a + b) % B32 32) = a + b := by
    exact fun h => Nat.mod_eq_of_lt h
  have HCH : Hid (∀ W, Calls Try.prog 58 #[.agg (natA ((a + b) % B32 32)), .int .u32 (((a + b) / B32 32 : Nat) : Int), .int .i64 7] W fun r w' => r = .returned (.tuple #[.agg (natA (if a + b < B32 32 then a + b else 0)), .int .i64 (if a + b < B32 32 then 0 else 7)]) ∧ Below W.heap.size W w') := Lib.hid (fun W => by
    have h := checked_any ((a + b) % B32 32) (((a + b) / B32 32 : Nat) : Int) 7 W
    by_cases hx : a + b < B32 32
    · rw [if_pos (hc.2 hx), if_pos (hc.2 hx)] at h
      rw [if_pos hx, if_pos hx]
      rw [hr hx] at h ⊢
      exact h
    · rw [if_neg (fun h2 => hx (hc.1 h2)), if_neg (fun h2 => hx (hc.1 h2))] at h
      rw [if_neg hx, if_neg hx]
      exact h)
  clear hc hr ha hb
  generalize ((a + b) % B32 32) = o at *
  generalize ((a + b) / B32 32) = c at *
  generalize (if a + b < B32 32 then a + b else 0) = res at *
  generalize (if a + b < B32 32 then (0 : Int) else 7) = er at *
  have HA : Hid (NatAt (((w.alloc (.cells (natA a) 29)).alloc (.cells (natA b) 29)).alloc (.cells z0 29)) (w.heap.size) (a)) := Lib.hid (by
    have h := NatAt.new w (a) 29
    replace h := h.alloc (.cells (natA b) 29)
    replace h := h.alloc (.cells z0 29)
    simpa using h)
  have HB : Hid (NatAt (((w.alloc (.cells (natA a) 29)).alloc (.cells (natA b) 29)).alloc (.cells z0 29)) (w.heap.size + 1) (b)) := Lib.hid (by
    have h := NatAt.new (w.alloc (.cells (natA a) 29)) (b) 29
    replace h := h.alloc (.cells z0 29)
    simpa using h)
  have HZ : Hid (NatAt (((w.alloc (.cells (natA a) 29)).alloc (.cells (natA b) 29)).alloc (.cells z0 29)) (w.heap.size + 1 + 1) (0)) := Lib.hid (by
    have h := NatAt.new ((w.alloc (.cells (natA a) 29)).alloc (.cells (natA b) 29)) (0) 29
    rw [natA_zero] at h
    simpa using h)
  have HW : Hid (Below w.heap.size w (((w.alloc (.cells (natA a) 29)).alloc (.cells (natA b) 29)).alloc (.cells z0 29))) := Lib.hid (by
    have h := Below.refl w.heap.size w
    replace h := h.alloc h.size (.cells (natA a) 29)
    replace h := h.alloc h.size (.cells (natA b) 29)
    replace h := h.alloc h.size (.cells z0 29)
    exact h)
  go_enter Try.func36, Try.ntmps36
  go_wp2_with (first | (refine wpl_ldN ntNat rfl rfl rfl HA.out ?_) | (refine wpl_ldN ntNat rfl rfl rfl HB.out ?_))
  refine (HCALL.out _).mono ?_
  rintro e w2 ⟨rfl, hb2⟩
  have HZ2 := Lib.hid (HZ.out.below hb2)
  have HW2 := Lib.hid (HW.out.trans (hb2.mono HW.out.size))
  have HT : Hid (NatAt (w2.alloc (.cells z0 29)) w2.heap.size 0) := Lib.hid (by have h := NatAt.new w2 0 29; rw [natA_zero] at h; exact h)
  clear hb2 HA HB HZ
  go_wp2_with (first | (refine wpl_stN ntNat rfl rfl rfl rfl HT.out ?_; intro w3 hn3 hg3; have HN3 := Lib.hid hn3; have HG3 := Lib.hid hg3; clear hn3 hg3) | (refine wpl_ldN ntNat rfl rfl rfl HN3.out ?_))
  have HZ3 : Hid (NatAt w3 (w.heap.size + 1 + 1) 0) := Lib.hid ((HZ2.out.alloc _).grown HG3.out (by have := HZ2.out.lt; simp; omega))
  have HW3 : Hid (Below w.heap.size w w3) := Lib.hid ((HW2.out.trans ((Below.refl _ w2).alloc HW2.out.size _)).grown HG3.out (by have := HW2.out.size; simp; omega) (fun j e => by injection e with e; have := HW2.out.size; omega))
  clear HZ2 HW2 HT HG3
  refine (HCH.out _).mono ?_
  rintro e w4 ⟨rfl, hb4⟩
  have HZ4 := Lib.hid (HZ3.out.below hb4)
  have HW4 := Lib.hid (HW3.out.trans (hb4.mono HW3.out.size))
  clear hb4 HZ3 HN3
  go_wp2_with (refine wpl_stN ntNat rfl rfl rfl rfl HZ4.out ?_; intro w9 hn9 hg9; have HN9 := Lib.hid hn9; have HG9 := Lib.hid hg9; clear hn9 hg9)
  refine bodyPost_ret (results_nat rfl _ _ rfl HN9.out) rfl ?_
  exact ⟨rfl, HW4.out.grown HG9.out HW4.out.size (fun j e => by injection e with e; omega)⟩

set_option maxHeartbeats 1600000 in
theorem sub_any (a b : Nat) (w : World) (ha : Fit a) (hb : Fit b) :
    Calls Try.prog 37 #[.agg (natA a), .agg (natA b)] w fun e w' => e = .returned (.tuple #[.agg (natA (if b ≤ a then a - b else 0)), .int .i64 (if b ≤ a then 0 else 3)]) ∧ Below w.heap.size w w' := by
  have HCALL : Hid (∀ W, _) := Lib.hid (fun W => difference_any a b W ha hb)
  have hc : ((((if a < b then 1 else 0) : Nat) : Int) = 0) ↔ b ≤ a := by
    by_cases h : a < b
    · rw [if_pos h]; constructor <;> intro h2 <;> omega
    · rw [if_neg h]; constructor <;> intro h2 <;> first | omega | rfl
  have hr : b ≤ a → ((a + B32 32 - b) % B32 32) = a - b := by
    intro h
    rw [show a + B32 32 - b = a - b + B32 32 from by omega, Nat.add_mod_right, Nat.mod_eq_of_lt (show a - b < B32 32 from by unfold Fit at ha; omega)]
  have HCH : Hid (∀ W, Calls Try.prog 58 #[.agg (natA ((a + B32 32 - b) % B32 32)), .int .u32 (((if a < b then 1 else 0) : Nat) : Int), .int .i64 3] W fun r w' => r = .returned (.tuple #[.agg (natA (if b ≤ a then a - b else 0)), .int .i64 (if b ≤ a then 0 else 3)]) ∧ Below W.heap.size W w') := Lib.hid (fun W => by
    have h := checked_any ((a + B32 32 - b) % B32 32) (((if a < b then 1 else 0) : Nat) : Int) 3 W
    by_cases hx : b ≤ a
    · rw [if_pos (hc.2 hx), if_pos (hc.2 hx)] at h
      rw [if_pos hx, if_pos hx]
      rw [hr hx] at h ⊢
      exact h
    · rw [if_neg (fun h2 => hx (hc.1 h2)), if_neg (fun h2 => hx (hc.1 h2))] at h
      rw [if_neg hx, if_neg hx]
      exact h)
  clear hc hr ha hb
  generalize ((a + B32 32 - b) % B32 32) = o at *
  generalize ((if a < b then 1 else 0)) = c at *
  generalize (if b ≤ a then a - b else 0) = res at *
  generalize (if b ≤ a then (0 : Int) else 3) = er at *
  have HA : Hid (NatAt (((w.alloc (.cells (natA a) 29)).alloc (.cells (natA b) 29)).alloc (.cells z0 29)) (w.heap.size) (a)) := Lib.hid (by
    have h := NatAt.new w (a) 29
    replace h := h.alloc (.cells (natA b) 29)
    replace h := h.alloc (.cells z0 29)
    simpa using h)
  have HB : Hid (NatAt (((w.alloc (.cells (natA a) 29)).alloc (.cells (natA b) 29)).alloc (.cells z0 29)) (w.heap.size + 1) (b)) := Lib.hid (by
    have h := NatAt.new (w.alloc (.cells (natA a) 29)) (b) 29
    replace h := h.alloc (.cells z0 29)
    simpa using h)
  have HZ : Hid (NatAt (((w.alloc (.cells (natA a) 29)).alloc (.cells (natA b) 29)).alloc (.cells z0 29)) (w.heap.size + 1 + 1) (0)) := Lib.hid (by
    have h := NatAt.new ((w.alloc (.cells (natA a) 29)).alloc (.cells (natA b) 29)) (0) 29
    rw [natA_zero] at h
    simpa using h)
  have HW : Hid (Below w.heap.size w (((w.alloc (.cells (natA a) 29)).alloc (.cells (natA b) 29)).alloc (.cells z0 29))) := Lib.hid (by
    have h := Below.refl w.heap.size w
    replace h := h.alloc h.size (.cells (natA a) 29)
    replace h := h.alloc h.size (.cells (natA b) 29)
    replace h := h.alloc h.size (.cells z0 29)
    exact h)
  go_enter Try.func37, Try.ntmps37
  go_wp2_with (first | (refine wpl_ldN ntNat rfl rfl rfl HA.out ?_) | (refine wpl_ldN ntNat rfl rfl rfl HB.out ?_))
  refine (HCALL.out _).mono ?_
  rintro e w2 ⟨rfl, hb2⟩
  have HZ2 := Lib.hid (HZ.out.below hb2)
  have HW2 := Lib.hid (HW.out.trans (hb2.mono HW.out.size))
  have HT : Hid (NatAt (w2.alloc (.cells z0 29)) w2.heap.size 0) := Lib.hid (by have h := NatAt.new w2 0 29; rw [natA_zero] at h; exact h)
  clear hb2 HA HB HZ
  go_wp2_with (first | (refine wpl_stN ntNat rfl rfl rfl rfl HT.out ?_; intro w3 hn3 hg3; have HN3 := Lib.hid hn3; have HG3 := Lib.hid hg3; clear hn3 hg3) | (refine wpl_ldN ntNat rfl rfl rfl HN3.out ?_))
  have HZ3 : Hid (NatAt w3 (w.heap.size + 1 + 1) 0) := Lib.hid ((HZ2.out.alloc _).grown HG3.out (by have := HZ2.out.lt; simp; omega))
  have HW3 : Hid (Below w.heap.size w w3) := Lib.hid ((HW2.out.trans ((Below.refl _ w2).alloc HW2.out.size _)).grown HG3.out (by have := HW2.out.size; simp; omega) (fun j e => by injection e with e; have := HW2.out.size; omega))
  clear HZ2 HW2 HT HG3
  refine (HCH.out _).mono ?_
  rintro e w4 ⟨rfl, hb4⟩
  have HZ4 := Lib.hid (HZ3.out.below hb4)
  have HW4 := Lib.hid (HW3.out.trans (hb4.mono HW3.out.size))
  clear hb4 HZ3 HN3
  go_wp2_with (refine wpl_stN ntNat rfl rfl rfl rfl HZ4.out ?_; intro w9 hn9 hg9; have HN9 := Lib.hid hn9; have HG9 := Lib.hid hg9; clear hn9 hg9)
  refine bodyPost_ret (results_nat rfl _ _ rfl HN9.out) rfl ?_
  exact ⟨rfl, HW4.out.grown HG9.out HW4.out.size (fun j e => by injection e with e; omega)⟩

end Go.Proofs.Ytomiapceefbmeaa

set_option linter.unusedVariables false
set_option linter.unusedSimpArgs false
set_option maxRecDepth 20000
namespace Go.Proofs.Ytomiapceefbmeaa
open Go.RowKit

theorem infoU32 : (Try.prog.info? 24).map (fun i => (i.zero, i.size, i.bytes)) = some (some (.int .u32 0), 1, 4) := by kernel_rfl
theorem eqItems_nat (d : Nat) (a b : Nat) (w : World) : ∀ is : List Nat, (∀ i ∈ is, i < 32) → (Op.eqItems (d + 1) 24 1 (natA a) (natA b) is).run Try.prog w = .ok (is.all fun i => dig a i == dig b i) w
  | [], _ => by simp [Op.eqItems]
  | i :: is, h => by
    have hi := h i (by simp)
    have pa : (part 24 (natA a) (i * 1)).run Try.prog w = .ok (.int .u32 ((dig a i : Nat) : Int)) w := by
      simp [part, isAgg, run_underlying Try.underlying24, natA_get a i hi]
    have pb : (part 24 (natA b) (i * 1)).run Try.prog w = .ok (.int .u32 ((dig b i : Nat) : Int)) w := by
      simp [part, isAgg, run_underlying Try.underlying24, natA_get b i hi]
    have pe : (Op.equalIn (d + 1) 24 (.int .u32 ((dig a i : Nat) : Int)) (.int .u32 ((dig b i : Nat) : Int))).run Try.prog w = .ok (dig a i == dig b i) w := by
      rw [run_equalIn_int w d 24 .u32 .u32 _ _ Try.underlying24]
      congr 1
      rw [Bool.eq_iff_iff, beq_iff_eq, beq_iff_eq]
      exact Int.ofNat_inj
    simp only [Op.eqItems, Sem.run_bind, pa, pb, pe, Result.andThen_ok, List.all_cons]
    cases hb : (dig a i == dig b i)
    · simp
    · have ih := eqItems_nat d a b w is fun j hj => h j (by simp [hj])
      simpa using ih
theorem all_dig (a b : Nat) (ha : Fit a) (hb : Fit b) : ((List.range 32).all fun i => dig a i == dig b i) = decide (a = b) := by
  rw [Bool.eq_iff_iff]
  simp only [List.all_eq_true, List.mem_range, beq_iff_eq, decide_eq_true_eq]
  exact ⟨fun h => ext_dig ha hb h, fun h => by subst h; exact fun _ _ => rfl⟩
theorem extract_nat (a : Nat) : (natA a).extract 0 (0 + 32) = natA a := by
  rw [Nat.zero_add, ← natA_size a, Array.extract_size]
theorem equal_array (d : Nat) (a b : Nat) (w : World) (ha : Fit a) (hb : Fit b) : (Op.equalIn (d + 2) 25 (.agg (natA a)) (.agg (natA b))).run Try.prog w = .ok (decide (a = b)) w := by
  obtain ⟨i0, hi, _⟩ := info_parts infoU32
  rw [run_equalIn_array w (d + 1) _ _ Try.underlying25 hi, show Try.prog.cellsOf 24 = 1 from by kernel_rfl, eqItems_nat d a b w _ (by simp), all_dig a b ha hb]
theorem part_nat {t : TypeId} (ht : NT Try.prog t) (a : Nat) (w : World) : (part t (natA a) 0).run Try.prog w = .ok (.agg (natA a)) w := by
  obtain ⟨d, h1, h2, h3⟩ := ht
  cases hq : Try.prog.info? t with
  | none => simp [hq] at h3
  | some i =>
    have hs : i.size = 32 := by simpa [hq] using h3
    have hagg : (isAgg t).run Try.prog w = .ok true w := by
      unfold isAgg
      rw [Sem.run_bind, run_underlying h1 w]
      cases d <;> simp_all
    unfold part
    rw [Sem.run_bind, hagg]
    simp only [Result.andThen_ok, if_true, Sem.run_bind, sizeOf, typeInfo]
    simp [hq, hs, extract_nat]
theorem ntArray : NT Try.prog 25 := ⟨_, Try.underlying25, rfl, by kernel_rfl⟩
theorem equal_nat (a b : Nat) (w : World) (ha : Fit a) (hb : Fit b) : (binOp .eql 29 (.agg (natA a)) (.agg (natA b))).run Try.prog w = .ok (.bool (decide (a = b))) w := by
  have f1 : Try.prog.underlying 29 = some (.struct (Try.prog.fieldsOf 29)) := by kernel_rfl
  have f2 : Try.prog.underlying 27 = some (.struct (Try.prog.fieldsOf 27)) := by kernel_rfl
  have g1 : Try.prog.stoodInHeld 29 = false := by kernel_rfl
  have g2 : Try.prog.stoodInHeld 27 = false := by kernel_rfl
  rw [run_eql_struct, run_equalIn_struct w 9999 _ _ _ f1 g1]
  have e1 : (Try.prog.fieldsOf 29).toList.map (fun f => (f.name, f.type, f.offset)) = [("digits", 27, 0)] := by kernel_rfl
  have e2 : (Try.prog.fieldsOf 27).toList.map (fun f => (f.name, f.type, f.offset)) = [("d", 25, 0)] := by kernel_rfl
  generalize (Try.prog.fieldsOf 29).toList = l1 at e1
  generalize hl2 : (Try.prog.fieldsOf 27).toList = l2 at e2
  obtain ⟨x1, rfl⟩ : ∃ x, l1 = [x] := List.length_eq_one_iff.1 (by have := congrArg List.length e1; simpa using this)
  obtain ⟨x2, rfl⟩ : ∃ x, l2 = [x] := List.length_eq_one_iff.1 (by have := congrArg List.length e2; simpa using this)
  simp only [List.map_cons, List.map_nil, List.cons.injEq, Prod.mk.injEq, and_true] at e1 e2
  obtain ⟨n1, t1, o1⟩ := e1
  obtain ⟨n2, t2, o2⟩ := e2
  have hin : (Op.equalIn 9999 27 (.agg (natA a)) (.agg (natA b))).run Try.prog w = .ok (decide (a = b)) w := by
    rw [run_equalIn_struct w 9998 _ _ _ f2 g2, hl2]
    have p1 := part_nat ntArray a w
    have p2 := part_nat ntArray b w
    have p3 := equal_array 9996 a b w ha hb
    rw [← t2] at p1 p2 p3
    rw [← o2] at p1 p2
    simp only [Op.eqFields, n2]
    rw [if_pos (by decide), Sem.run_bind, p1, Result.andThen_ok, Sem.run_bind, p2, Result.andThen_ok, Sem.run_bind, p3, Result.andThen_ok]
    cases decide (a = b) <;> simp
  have p1 := part_nat ntDigits a w
  have p2 := part_nat ntDigits b w
  rw [← t1] at p1 p2 hin
  rw [← o1] at p1 p2
  simp only [Op.eqFields, n1]
  rw [if_pos (by decide), Sem.run_bind, p1, Result.andThen_ok, Sem.run_bind, p2, Result.andThen_ok, Sem.run_bind, hin, Result.andThen_ok]
  cases decide (a = b) <;> simp

end Go.Proofs.Ytomiapceefbmeaa

set_option linter.unusedVariables false
set_option linter.unusedSimpArgs false
set_option maxRecDepth 20000
namespace Go.Proofs.Ytomiapceefbmeaa
open Go.RowKit

set_option maxHeartbeats 1600000 in
theorem isZero_any (a : Nat) (w : World) (ha : Fit a) :
    Calls Try.prog 15 #[.agg (natA a)] w fun e w' => e = .returned (.bool (decide (a = 0))) ∧ Below w.heap.size w w' := by
  have HA : Hid (NatAt (w.alloc (.cells (natA a) 29)) (w.heap.size) (a)) := Lib.hid (by
    have h := NatAt.new w (a) 29
    simpa using h)
  have HW : Hid (Below w.heap.size w (w.alloc (.cells (natA a) 29))) := Lib.hid (by
    have h := Below.refl w.heap.size w
    replace h := h.alloc h.size (.cells (natA a) 29)
    exact h)
  have heq := fun W => equal_nat a 0 W ha Fit.zero
  rw [natA_zero] at heq
  clear ha
  go_enter Try.func15, Try.ntmps15
  go_wp2_with (refine wpl_ldN ntNat rfl rfl rfl HA.out ?_)
  go_ret
  exact ⟨rfl, HW.out⟩

/-! ### The number of bits -/
theorem le_bl {n : Nat} (h : n ≠ 0) : 2 ^ (bl n - 1) ≤ n := by
  unfold bl
  rw [if_neg h, Nat.add_sub_cancel]
  exact Nat.log2_self_le h
theorem bl_pos {n : Nat} (h : n ≠ 0) : 1 ≤ bl n := by unfold bl; rw [if_neg h]; omega
theorem cnt_le_self {a : Nat} (h : a ≠ 0) : B32 (cnt a - 1) ≤ a := by
  unfold cnt
  rw [if_neg h, Nat.add_sub_cancel]
  refine Nat.le_trans ?_ (Nat.log2_self_le h)
  exact Nat.pow_le_pow_right (by decide) (by omega)
theorem top_dig {a k : Nat} (h1 : a < B32 (k + 1)) : a / B32 k = dig a k := by
  have h := div_step a k
  rw [Nat.div_eq_of_lt h1] at h
  omega
theorem cnt_zero : cnt 0 = 0 := rfl
theorem cnt_eq_zero {a : Nat} : cnt a = 0 ↔ a = 0 := by
  constructor
  · intro h
    rcases Nat.eq_zero_or_pos a with h0 | h0
    · exact h0
    · unfold cnt at h
      rw [if_neg (by omega)] at h
      omega
  · rintro rfl; rfl

theorem bl_cnt {a : Nat} (h : a ≠ 0) : bl a = 32 * (cnt a - 1) + bl (dig a (cnt a - 1)) := by
  obtain ⟨k, hk⟩ : ∃ k, cnt a = k + 1 := ⟨cnt a - 1, by have : cnt a ≠ 0 := fun h2 => h (cnt_eq_zero.1 h2); omega⟩
  have h1 := lt_cnt a
  have h2 := cnt_le_self h
  rw [hk] at h1 h2
  rw [hk]
  simp only [Nat.add_sub_cancel] at h2 ⊢
  have h3 := top_dig h1
  have hd : dig a k ≠ 0 := by
    rw [← h3]
    have := (Nat.div_pos h2 (B32_pos k))
    omega
  have h4 := lt_bl (dig a k)
  have h5 := le_bl hd
  have h6 := bl_pos hd
  have h7 := Nat.div_add_mod a (B32 k)
  have h8 := Nat.mod_lt a (B32_pos k)
  rw [h3] at h7
  refine bl_eq ?_ (.inr ?_)
  · rw [Nat.pow_add]
    show a < B32 k * 2 ^ bl (dig a k)
    have h9 : B32 k * (dig a k + 1) ≤ B32 k * 2 ^ bl (dig a k) := Nat.mul_le_mul_left _ h4
    rw [Nat.mul_add, Nat.mul_one] at h9
    omega
  · rw [show 32 * k + bl (dig a k) - 1 = 32 * k + (bl (dig a k) - 1) from by omega, Nat.pow_add]
    show B32 k * 2 ^ (bl (dig a k) - 1) ≤ a
    have h9 : B32 k * 2 ^ (bl (dig a k) - 1) ≤ B32 k * dig a k := Nat.mul_le_mul_left _ h5
    omega
set_option maxHeartbeats 1600000 in
theorem bitLen_any (a : Nat) (w : World) (ha : Fit a) :
    Calls Try.prog 26 #[.agg (natA a)] w fun e w' => e = .returned (.int .i64 (bl a)) ∧ Below w.heap.size w w' := by
  have HA : Hid (NatAt (w.alloc (.cells (natA a) 29)) (w.heap.size) (a)) := Lib.hid (by
    have h := NatAt.new w (a) 29
    simpa using h)
  have HW : Hid (Below w.heap.size w (w.alloc (.cells (natA a) 29))) := Lib.hid (by
    have h := Below.refl w.heap.size w
    replace h := h.alloc h.size (.cells (natA a) 29)
    exact h)
  have HF := Lib.hid ha
  have hc := cnt_le ha
  clear ha
  by_cases h0 : a = 0
  · have hz : cnt a = 0 := cnt_eq_zero.2 h0
    have hb : Hid (bl a = 0) := Lib.hid (by rw [h0]; rfl)
    clear h0 hc
    go_enter Try.func26, Try.ntmps26
    go_wp2_with (refine wpl_ldN ntDigits rfl rfl rfl HA.out ?_)
    refine (count_any a _ HF.out).mono ?_
    rintro e w2 ⟨rfl, hb2⟩
    rw [hz]
    have HW2 := Lib.hid (HW.out.trans (hb2.mono HW.out.size))
    clear hb2 hz
    go_wp2_with fail
    go_ret
    exact ⟨by rw [hb.out]; rfl, HW2.out⟩
  · obtain ⟨k, hk⟩ : ∃ k, cnt a = k + 1 := ⟨cnt a - 1, by have : cnt a ≠ 0 := fun h => h0 (cnt_eq_zero.1 h); omega⟩
    have hk32 : (k : Int) < 32 := by omega
    have hki : ((k + 1 : Nat) : Int) = (k : Int) + 1 := by omega
    have hbl : Hid ((bl a : Int) = 32 * (k : Int) + (bl (dig a k) : Int)) := Lib.hid (by rw [bl_cnt h0, hk, Nat.add_sub_cancel]; omega)
    have hd := dig_lt a k
    have hbd : (bl (dig a k) : Int) ≤ 32 := by have := bl_le (n := dig a k) (k := 32) (by rw [p32]; omega); omega
    have hbd0 : 0 ≤ (bl (dig a k) : Int) := by omega
    have hk0 : 0 ≤ (k : Int) := by omega
    have HK := Lib.hid hk
    have HDL := Lib.hid hd
    clear h0 hc hk hd
    go_enter Try.func26, Try.ntmps26
    go_wp2_with (refine wpl_ldN ntDigits rfl rfl rfl HA.out ?_)
    refine (count_any a _ HF.out).mono ?_
    rintro e w2 ⟨rfl, hb2⟩
    rw [HK.out, hki]
    have HW2 := Lib.hid (HW.out.trans (hb2.mono HW.out.size))
    have ca := (HA.out.below hb2).cell (show k < 32 by omega)
    clear hb2 hki
    generalize dig a k = D at *
    have hne : (((k : Int) + 1) == 0) = false := by rw [beq_eq_false_iff_ne]; omega
    have hs1 : wrap64 ((k : Int) + 1 - 1) = (k : Int) := by unfold wrap64; omega
    have HBD := Lib.hid (And.intro hbd0 hbd)
    clear hbd hbd0
    go_wp2_with fail
    refine (len32_any D w2 HDL.out).mono ?_
    rintro e w3 ⟨rfl, rfl⟩
    generalize bl D = bD at *
    have hbd := HBD.out.2
    have hbd0 := HBD.out.1
    go_wp2_with fail
    go_ret
    exact ⟨by rw [hbl.out]; rfl, HW2.out⟩

/-! ### Small numbers -/
theorem natA_two {v : Nat} (h : v < B32 2) : natA v = #[.int .u32 ((dig v 0 : Nat) : Int), .int .u32 ((dig v 1 : Nat) : Int), .int .u32 0, .int .u32 0, .int .u32 0, .int .u32 0, .int .u32 0, .int .u32 0, .int .u32 0, .int .u32 0, .int .u32 0, .int .u32 0, .int .u32 0, .int .u32 0, .int .u32 0, .int .u32 0, .int .u32 0, .int .u32 0, .int .u32 0, .int .u32 0, .int .u32 0, .int .u32 0, .int .u32 0, .int .u32 0, .int .u32 0, .int .u32 0, .int .u32 0, .int .u32 0, .int .u32 0, .int .u32 0, .int .u32 0, .int .u32 0] := by
  have h1 := natA_set (n := 0) (n' := v % B32 1) (k := 0) (by decide) (B32_pos 0) (Nat.mod_lt _ (B32_pos 1)) (by rw [B32_zero, Nat.mod_one])
  have h2 := natA_set (n := v % B32 1) (n' := v) (k := 1) (by decide) (Nat.mod_lt _ (B32_pos 1)) h rfl
  rw [natA_zero] at h1
  rw [dig_mod (by decide)] at h1
  rw [← h2, ← h1]
  rfl

end Go.Proofs.Ytomiapceefbmeaa
