/- Walks: sums and differences, digit by digit (printed by gencomb.py). -/
import Derived.Test.YtomiapceefbmeaaNatB
import Derived.Test.YtomiapceefbmeaaDraw
import Derived.Deep.RegionHeld3
set_option linter.unusedVariables false
set_option linter.unusedSimpArgs false
set_option maxRecDepth 20000
namespace Go.Proofs.Ytomiapceefbmeaa
open Go.RowKit

theorem natA_zero : natA 0 = z0 := by
  have h : natL 0 = List.replicate 32 (Value.int .u32 0) := by
    unfold natL
    apply List.ext_getElem (by simp)
    intro i h1 h2
    rw [List.getElem_replicate]
    simp only [List.getElem_map, List.getElem_range, dig, Nat.zero_div, Nat.zero_mod]
    rfl
  unfold natA
  rw [h]
  rfl
theorem dig_mod {n i k : Nat} (h : i < k) : dig (n % B32 k) i = dig n i := by
  rw [dig_eq, dig_eq]
  have e : B32 k = B32 i * B32 (k - i) := by unfold B32; rw [← Nat.pow_add]; congr 1; omega
  rw [e, Nat.mod_mul_right_div_self, Nat.mod_mod_of_dvd]
  exact Nat.pow_dvd_pow 2 (by omega)
theorem lt_B32_of_le {n k m : Nat} (h : n < B32 k) (hk : k ≤ m) : n < B32 m := Nat.lt_of_lt_of_le h (B32_mono hk)
/-- One digit more. -/
theorem natA_set {n n' k : Nat} (hk : k < 32) (h1 : n < B32 k) (h2 : n' < B32 (k + 1)) (h3 : n' % B32 k = n) : (natA n).setIfInBounds k (.int .u32 ((dig n' k : Nat) : Int)) = natA n' := by
  apply Array.ext_getElem?
  intro i
  rw [Array.getElem?_setIfInBounds, natA_size]
  by_cases hi : i < 32
  · rw [natA_get n' i hi]
    by_cases e : k = i
    · subst e
      rw [if_pos rfl, if_pos hk]
    · rw [if_neg e, natA_get n i hi]
      congr 3
      rcases Nat.lt_or_ge i k with h | h
      · rw [← h3, dig_mod h]
      · rw [dig_high (lt_B32_of_le h1 h), dig_high (lt_B32_of_le h2 (by omega))]
  · rw [if_neg (by omega), Array.getElem?_eq_none (by rw [natA_size]; omega), Array.getElem?_eq_none (by rw [natA_size]; omega)]
theorem NatAt.set {w : World} {B n n' k : Nat} (h : NatAt w B n) (hk : k < 32) (h1 : n < B32 k) (h2 : n' < B32 (k + 1)) (h3 : n' % B32 k = n) (v : Int) (hv : v = ((dig n' k : Nat) : Int)) :
    NatAt (w.setCell ⟨B, k, none⟩ (.int .u32 v)) B n' ∧ w.grownBy (w.setCell ⟨B, k, none⟩ (.int .u32 v)) (some B) := by
  subst hv
  obtain ⟨T, h⟩ := h
  refine ⟨⟨T, ?_⟩, rfl, rfl, rfl, by simp, fun j _ hj => heap_setCell_other w ⟨B, k, none⟩ j _ (fun e => hj (by simp [e]))⟩
  rw [heap_setCell_same w B k _ _ _ h, natA_set hk h1 h2 h3]

/-- What a step on two digits reckons, from digit to digit. -/
structure Comb (a b : Nat) (f g : Nat → Nat → Nat → Nat) (O C : Nat → Nat) : Prop where
  o0 : O 0 = 0
  c0 : C 0 = 0
  lt : ∀ k, k ≤ 32 → O k < B32 k
  c1 : ∀ k, k ≤ 32 → C k ≤ 1
  dg : ∀ k, k < 32 → f (dig a k) (dig b k) (C k) = dig (O (k + 1)) k
  md : ∀ k, k < 32 → O (k + 1) % B32 k = O k
  cy : ∀ k, k < 32 → g (dig a k) (dig b k) (C k) = C (k + 1)

theorem ntNat : NT Try.prog 29 := ⟨_, Try.underlying29, rfl, by kernel_rfl⟩
theorem ntDigits : NT Try.prog 27 := ⟨_, Try.underlying27, rfl, by kernel_rfl⟩
def GB (B : Nat) (w w' : World) : Prop := w.grownBy w' (some B)
theorem gb_refl (B : Nat) (w : World) : GB B w w := World.grownBy.refl _ _
theorem gb_trans (B : Nat) (a b c : World) (h : GB B a b) (k : GB B b c) : GB B a c :=
  ⟨k.os.trans h.os, k.tape.trans h.tape, k.output.trans h.output, Nat.le_trans h.size k.size, fun i hi hne => (k.block i (Nat.lt_of_lt_of_le hi h.size) hne).trans (h.block i hi hne)⟩
theorem results_nat {fn : Func} {p u : Tmp} (h : fn.results = #[.cell p 29, .tmp u]) (tmps : Array Value) (w : World) {B n : Nat} (hp : tmps.getD p undef = .pointer (some ⟨B, 0, none⟩)) (hn : NatAt w B n) :
    (results fn tmps).run Try.prog w = .ok (.tuple #[.agg (natA n), tmps.getD u undef]) w := by
  obtain ⟨d, h1, h2, h3⟩ := ntNat
  rw [results_cell_tmp h, hp]
  simp only [asAddr, Sem.run_pure, Result.andThen_ok]
  rw [run_loadVar_mid w B 0 _ (natL n) d hn.range h1 h2 (by rw [natL_length]; exact h3)]
  rfl

set_option maxHeartbeats 3200000 in
theorem combine_any (F : FuncId) (hE : ∀ (args : Array Value) (W : World), (callFunc F args).run Try.prog W = .ok (.enter F args) W) (f g : Nat → Nat → Nat → Nat) (O C : Nat → Nat) (a b : Nat) (w : World) (hO : Comb a b f g O C)
    (hF : ∀ (x y c : Nat) (W : World), (x : Int) < 4294967296 → (y : Int) < 4294967296 → c ≤ 1 → Calls Try.prog F #[.int .u32 (x : Int), .int .u32 (y : Int), .int .u32 (c : Int)] W fun e W' => e = .returned (.tuple #[.int .u32 ((f x y c : Nat) : Int), .int .u32 ((g x y c : Nat) : Int)]) ∧ W' = W) :
    Calls Try.prog 62 #[.agg (natA a), .agg (natA b), .func (.func F) #[] #[]] w fun e w' => e = .returned (.tuple #[.agg (natA (O 32)), .int .u32 ((C 32 : Nat) : Int)]) ∧ Below w.heap.size w w' := by
  have HO := Lib.hid hO
  have HF := Lib.hid hF
  clear hO hF
  go_enter Try.func62, Try.ntmps62
  go_wp2_with fail
  have hA : NatAt (((w.alloc (.cells (natA a) 29)).alloc (.cells (natA b) 29)).alloc (.cells z0 29)) w.heap.size a := ((NatAt.new w a _).alloc _).alloc _
  have hB : NatAt (((w.alloc (.cells (natA a) 29)).alloc (.cells (natA b) 29)).alloc (.cells z0 29)) (w.heap.size + 1) b := by
    have := (NatAt.new (w.alloc (.cells (natA a) 29)) b 29).alloc (.cells z0 29)
    simpa using this
  have hZ : NatAt (((w.alloc (.cells (natA a) 29)).alloc (.cells (natA b) 29)).alloc (.cells z0 29)) (w.heap.size + 1 + 1) 0 := by
    have := NatAt.new ((w.alloc (.cells (natA a) 29)).alloc (.cells (natA b) 29)) 0 29
    rw [natA_zero] at this
    simpa using this
  have hW : Below w.heap.size w (((w.alloc (.cells (natA a) 29)).alloc (.cells (natA b) 29)).alloc (.cells z0 29)) := (((Below.refl _ _).alloc (Nat.le_refl _) _).alloc (by simp) _).alloc (by simp; omega) _
  generalize ((w.alloc (.cells (natA a) 29)).alloc (.cells (natA b) 29)).alloc (.cells z0 29) = w1 at hA hB hZ hW ⊢
  have HA1 := Lib.hid hA
  have HB1 := Lib.hid hB
  have HZ1 := Lib.hid hZ
  have HW := Lib.hid hW
  clear hA hB hZ hW
  go_loopw [7, 8, 9] (fun c _ i wr => ∃ k : Nat, k ≤ 32 ∧ i = .int .i64 (k : Int) ∧ c = .int .u32 ((C k : Nat) : Int) ∧ NatAt wr (w.heap.size + 1 + 1) (O k) ∧ w1.grownBy wr (some (w.heap.size + 1 + 1))) (fun _ _ i _ => 32 - (intOf i).toNat)
  case atStart => exact ⟨0, Nat.zero_le _, rfl, by rw [HO.out.c0]; rfl, by rw [HO.out.o0]; exact HZ1.out, World.grownBy.refl _ _⟩
  case round =>
    obtain ⟨k, hk, rfl, rfl, hn, hg⟩ := hrel
    have HN := Lib.hid hn
    have HG := Lib.hid hg
    clear hn hg
    by_cases hlt : k < 32
    · have hki : (k : Int) < 32 := by omega
      have hk0 : (0 : Int) ≤ (k : Int) := by omega
      go_wp2_with fail
      refine region_road (GB (w.heap.size + 1 + 1)) [(0, true), (1, true), (2, true), (3, true), (4, true), (5, true), (6, true), (7, true), (8, true), (9, true), (10, true), (11, true), (12, true), (17, true), (18, true), (13, false), (14, true), (15, true), (16, true), (19, true), (20, false), (21, true)] (by kernel_rfl) (by kernel_rfl) (by kernel_rfl) (by kernel_rfl) (by kernel_rfl) (by kernel_rfl) (gb_refl _) (gb_trans _) (fun _ _ d _ _ h => by cases d <;> exact h) ?_
      have hN : Hid (NatAt wr.drew (w.heap.size + 1 + 1) (O k)) := Lib.hid HN.out.drew
      have hA2 : Hid (NatAt wr.drew w.heap.size a) := Lib.hid ((HA1.out.grown HG.out (by simp; omega)).drew)
      have hB2 : Hid (NatAt wr.drew (w.heap.size + 1) b) := Lib.hid ((HB1.out.grown HG.out (by simp)).drew)
      have hG : Hid (w1.grownBy wr.drew (some (w.heap.size + 1 + 1))) := Lib.hid ⟨HG.out.os, HG.out.tape, HG.out.output, HG.out.size, HG.out.block⟩
      generalize wr.drew = w2 at hN hA2 hB2 hG ⊢
      clear HN HG
      have da := dig_lt a k
      have db := dig_lt b k
      refine seqR_at (o := ?_) ?_ ?_
      rotate_left
      · (conv => (lhs; whnf; arg 1; whnf))
      refine seqR_y (v := ?_) (by rfl) (fun W hW => ?_) ?_
      rotate_left
      · go_simp; try with_reducible rfl
      try simp only [Act.put, List.setIfInBounds_toArray, List.set_cons_zero, List.set_cons_succ]
      refine seqR_at (o := ?_) ?_ ?_
      rotate_left
      · (conv => (lhs; whnf; arg 1; whnf))
      refine seqR_y (v := ?_) (by rfl) (fun W hW => ?_) ?_
      rotate_left
      · go_simp; try with_reducible rfl
      try simp only [Act.put, List.setIfInBounds_toArray, List.set_cons_zero, List.set_cons_succ]
      refine seqR_at (o := ?_) ?_ ?_
      rotate_left
      · (conv => (lhs; whnf; arg 1; whnf))
      refine seqR_y (v := ?_) (by rfl) (fun W hW => ?_) ?_
      rotate_left
      · go_simp; try with_reducible rfl
      try simp only [Act.put, List.setIfInBounds_toArray, List.set_cons_zero, List.set_cons_succ]
      refine seqR_at (o := ?_) ?_ ?_
      rotate_left
      · (conv => (lhs; whnf; arg 1; whnf))
      refine seqR_y (v := ?_) (by rfl) (fun W hW => ?_) ?_
      rotate_left
      · go_simp; try with_reducible rfl
      try simp only [Act.put, List.setIfInBounds_toArray, List.set_cons_zero, List.set_cons_succ]
      refine seqR_at (o := ?_) ?_ ?_
      rotate_left
      · (conv => (lhs; whnf; arg 1; whnf))
      refine seqR_y (v := ?_) (by rfl) (fun W hW => ?_) ?_
      rotate_left
      · go_simp; try with_reducible rfl
      try simp only [Act.put, List.setIfInBounds_toArray, List.set_cons_zero, List.set_cons_succ]
      refine seqR_at (o := ?_) ?_ ?_
      rotate_left
      · (conv => (lhs; whnf; arg 1; whnf))
      refine seqR_y (v := ?_) (by rfl) (fun W hW => ?_) ?_
      rotate_left
      · go_simp; try with_reducible rfl
      try simp only [Act.put, List.setIfInBounds_toArray, List.set_cons_zero, List.set_cons_succ]
      refine seqR_at (o := ?_) ?_ ?_
      rotate_left
      · (conv => (lhs; whnf; arg 1; whnf))
      refine seqR_y (v := ?_) (by rfl) (fun W hW => ?_) ?_
      rotate_left
      · have ca := (hA2.out.grown hW (by simp; omega)).cell hlt; have cb := (hB2.out.grown hW (by simp)).cell hlt; go_simp; try with_reducible rfl
      try simp only [Act.put, List.setIfInBounds_toArray, List.set_cons_zero, List.set_cons_succ]
      refine seqR_at (o := ?_) ?_ ?_
      rotate_left
      · (conv => (lhs; whnf; arg 1; whnf))
      refine seqR_y (v := ?_) (by rfl) (fun W hW => ?_) ?_
      rotate_left
      · go_simp; try with_reducible rfl
      try simp only [Act.put, List.setIfInBounds_toArray, List.set_cons_zero, List.set_cons_succ]
      refine seqR_at (o := ?_) ?_ ?_
      rotate_left
      · (conv => (lhs; whnf; arg 1; whnf))
      refine seqR_y (v := ?_) (by rfl) (fun W hW => ?_) ?_
      rotate_left
      · go_simp; try with_reducible rfl
      try simp only [Act.put, List.setIfInBounds_toArray, List.set_cons_zero, List.set_cons_succ]
      refine seqR_at (o := ?_) ?_ ?_
      rotate_left
      · (conv => (lhs; whnf; arg 1; whnf))
      refine seqR_y (v := ?_) (by rfl) (fun W hW => ?_) ?_
      rotate_left
      · go_simp; try with_reducible rfl
      try simp only [Act.put, List.setIfInBounds_toArray, List.set_cons_zero, List.set_cons_succ]
      refine seqR_at (o := ?_) ?_ ?_
      rotate_left
      · (conv => (lhs; whnf; arg 1; whnf))
      refine seqR_y (v := ?_) (by rfl) (fun W hW => ?_) ?_
      rotate_left
      · go_simp; try with_reducible rfl
      try simp only [Act.put, List.setIfInBounds_toArray, List.set_cons_zero, List.set_cons_succ]
      refine seqR_at (o := ?_) ?_ ?_
      rotate_left
      · (conv => (lhs; whnf; arg 1; whnf))
      refine seqR_y (v := ?_) (by rfl) (fun W hW => ?_) ?_
      rotate_left
      · have ca := (hA2.out.grown hW (by simp; omega)).cell hlt; have cb := (hB2.out.grown hW (by simp)).cell hlt; go_simp; try with_reducible rfl
      try simp only [Act.put, List.setIfInBounds_toArray, List.set_cons_zero, List.set_cons_succ]
      refine seqR_at (o := ?_) ?_ ?_
      rotate_left
      · (conv => (lhs; whnf; arg 1; whnf))
      refine seqR_y (v := ?_) (by rfl) (fun W hW => ?_) ?_
      rotate_left
      · go_simp; try with_reducible rfl
      try simp only [Act.put, List.setIfInBounds_toArray, List.set_cons_zero, List.set_cons_succ]
      refine seqR_at (o := ?_) ?_ ?_
      rotate_left
      · (conv => (lhs; whnf; arg 1; whnf))
      refine seqR_y (v := ?_) (by rfl) (fun W hW => ?_) ?_
      rotate_left
      · go_simp; try with_reducible rfl
      try simp only [Act.put, List.setIfInBounds_toArray, List.set_cons_zero, List.set_cons_succ]
      refine seqR_at (o := ?_) ?_ ?_
      rotate_left
      · (conv => (lhs; whnf; arg 1; whnf))
      refine seqR_y (v := ?_) (by rfl) (fun W hW => ?_) ?_
      rotate_left
      · go_simp; try with_reducible rfl
      try simp only [Act.put, List.setIfInBounds_toArray, List.set_cons_zero, List.set_cons_succ]
      refine seqR_at (o := ?_) ?_ ?_
      rotate_left
      · (conv => (lhs; whnf; arg 1; whnf))
      refine seqR_c (by rfl) (fun K hK => ?_)
      go_simp
      refine (HF.out (dig a k) (dig b k) (C k) _ da db (HO.out.c1 k hk)).mono ?_
      rintro e w3 ⟨rfl, rfl⟩
      rw [HO.out.dg k hlt, HO.out.cy k hlt]
      refine hK _ _ (gb_refl _ _) ?_
      clear hK
      try simp only [Act.put, List.setIfInBounds_toArray, List.set_cons_zero, List.set_cons_succ]
      refine seqR_at (o := ?_) ?_ ?_
      rotate_left
      · (conv => (lhs; whnf; arg 1; whnf))
      refine seqR_y (v := ?_) (by rfl) (fun W hW => ?_) ?_
      rotate_left
      · go_simp; try with_reducible rfl
      try simp only [Act.put, List.setIfInBounds_toArray, List.set_cons_zero, List.set_cons_succ]
      refine seqR_at (o := ?_) ?_ ?_
      rotate_left
      · (conv => (lhs; whnf; arg 1; whnf))
      refine seqR_y (v := ?_) (by rfl) (fun W hW => ?_) ?_
      rotate_left
      · go_simp; try with_reducible rfl
      try simp only [Act.put, List.setIfInBounds_toArray, List.set_cons_zero, List.set_cons_succ]
      refine seqR_at (o := ?_) ?_ ?_
      rotate_left
      · (conv => (lhs; whnf; arg 1; whnf))
      refine seqR_y (v := ?_) (by rfl) (fun W hW => ?_) ?_
      rotate_left
      · go_simp; try with_reducible rfl
      try simp only [Act.put, List.setIfInBounds_toArray, List.set_cons_zero, List.set_cons_succ]
      refine seqR_at (o := ?_) ?_ ?_
      rotate_left
      · (conv => (lhs; whnf; arg 1; whnf))
      refine seqR_y (v := ?_) (by rfl) (fun W hW => ?_) ?_
      rotate_left
      · go_simp; try with_reducible rfl
      try simp only [Act.put, List.setIfInBounds_toArray, List.set_cons_zero, List.set_cons_succ]
      refine seqR_at (o := ?_) ?_ ?_
      rotate_left
      · (conv => (lhs; whnf; arg 1; whnf))
      have cz := hN.out.cell hlt
      have fz := hN.out.frozen k
      refine seqR_c (by rfl) (fun K hK => ?_)
      go_simp
      refine hK _ _ (hN.out.set hlt (HO.out.lt k hk) (HO.out.lt (k + 1) hlt) (HO.out.md k hlt) _ rfl).2 ?_
      clear hK
      try simp only [Act.put, List.setIfInBounds_toArray, List.set_cons_zero, List.set_cons_succ]
      refine seqR_at (o := ?_) ?_ ?_
      rotate_left
      · (conv => (lhs; whnf; arg 1; whnf))
      refine seqR_y (v := ?_) (by rfl) (fun W hW => ?_) ?_
      rotate_left
      · go_simp; try with_reducible rfl
      try simp only [Act.put, List.setIfInBounds_toArray, List.set_cons_zero, List.set_cons_succ]
      refine seqR_end ?_
      clear cz fz
      go_wp2_with fail
      go_roundw
      case rel =>
        obtain ⟨g1, g2⟩ := hN.out.set hlt (HO.out.lt k hk) (HO.out.lt (k + 1) hlt) (HO.out.md k hlt) _ rfl
        exact ⟨k + 1, by omega, by go_num, rfl, g1, gb_trans _ _ _ _ hG.out g2⟩
      case measure => simp [intOf]; omega
    · obtain rfl : k = 32 := by omega
      go_wp2_with (first | (refine wpl_ldN ntNat rfl rfl rfl HN.out ?_) | (refine wpl_stN ntNat rfl rfl rfl rfl HN.out ?_; intro w9 hn9 hg9; have HN9 := Lib.hid hn9; have HG9 := Lib.hid hg9; clear hn9 hg9))
      refine bodyPost_ret (results_nat rfl _ _ rfl HN9.out) rfl ?_
      refine ⟨rfl, ?_⟩
      exact (HW.out.grown HG.out HW.out.size (fun j e => by injection e with e; omega)).grown HG9.out (Nat.le_trans HW.out.size HG.out.size) (fun j e => by injection e with e; omega)

end Go.Proofs.Ytomiapceefbmeaa
