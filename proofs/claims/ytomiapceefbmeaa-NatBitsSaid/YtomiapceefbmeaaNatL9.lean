/- Walk: the law NatBits (printed by gennatbits.py). -/
import Derived.Test.YtomiapceefbmeaaNatII
import Derived.Test.YtomiapceefbmeaaNatQ
import Derived.Test.YtomiapceefbmeaaNatT
import Derived.Test.YtomiapceefbmeaaNatHH
import Derived.RangeFuncNested
import Derived.RangeFuncBound
import Derived.RangeFuncCalls
import Derived.RangeFuncLeaves
import Derived.Shelf.Abstract
import Derived.Shelf.RegionOpen
import Derived.OwnWalkIn
import Derived.TacticsInMore
import Derived.LoopNIn
import Derived.LoopIn
import Derived.LoopN
import Derived.Deep.CutBlock
set_option linter.unusedVariables false
set_option linter.unusedSimpArgs false
set_option maxRecDepth 100000
namespace Go.Proofs.Ytomiapceefbmeaa
open Go.RowKit Go.Shelf
attribute [local go_sem] Oper.semAt_some

/-- Block B is a box of one cell that holds v. -/
def OneAt (w : World) (B : Nat) (v : Value) : Prop := ∃ T, w.heap[B]? = some (.cells #[v] T (0, 0))
section
variable {w w' : World} {B : Nat} {u v : Value}
theorem OneAt.lt (h : OneAt w B v) : B < w.heap.size := let ⟨_, h⟩ := h; (Array.getElem?_eq_some_iff.1 h).1
theorem OneAt.cell (h : OneAt w B v) : w.cell? ⟨B, 0, none⟩ = some v := by
  obtain ⟨T, h⟩ := h
  rw [cell_of_row w B 0 _ _ (0, 0) h]
  rfl
theorem OneAt.frozen (h : OneAt w B v) : w.frozen? ⟨B, 0, none⟩ = false := let ⟨_, h⟩ := h; frozen_of_row w B 0 _ _ h
theorem OneAt.below (h : OneAt w B v) (hb : Below w.heap.size w w') : OneAt w' B v := by
  have hlt := h.lt
  obtain ⟨T, h⟩ := h
  exact ⟨T, by rw [hb.block B hlt]; exact h⟩
theorem OneAt.grown {row : Option Nat} (h : OneAt w B v) (hg : w.grownBy w' row) (hne : some B ≠ row) : OneAt w' B v := by
  have hlt := h.lt
  obtain ⟨T, h⟩ := h
  exact ⟨T, by rw [hg.block B hlt hne]; exact h⟩
theorem OneAt.new (w : World) (v : Value) (T : TypeId) : OneAt (w.alloc (.cells #[v] T)) w.heap.size v := ⟨T, heap_alloc_new w _⟩
theorem OneAt.alloc (h : OneAt w B v) (o : Obj) : OneAt (w.alloc o) B v := h.below ((Below.refl _ _).alloc (Nat.le_refl _) _)
theorem OneAt.drew (h : OneAt w B v) : OneAt w.drew B v := h
theorem OneAt.set (h : OneAt w B v) (u : Value) : OneAt (w.setCell ⟨B, 0, none⟩ u) B u ∧ w.grownBy (w.setCell ⟨B, 0, none⟩ u) (some B) := by
  obtain ⟨T, h⟩ := h
  exact ⟨⟨T, heap_setCell_same w B 0 _ T u h⟩, grown_setCells B [u] 0 w⟩
end
theorem grown_of_below' {w w' : World} {row : Option Nat} (h : Below w.heap.size w w') : w.grownBy w' row := ⟨h.os, h.tape, h.output, h.size, fun k hk _ => h.block k hk⟩
theorem keeps_of_below {w w' : World} (h : Below w.heap.size w w') : KeepsOthers w w' := KeepsOthers.of_grownBy (grown_of_below h) (fun j o e => by cases e)
theorem wp_cut_marks {P : Program} {s : Code} {K : Act → World → Prop} {Q' : Exit → Act → World → Prop} {a : Act} {w : World} (R : Nat → World → Prop)
    (rest : ∀ D w', R D w' → K { a with defers := { target := .collected D, args := #[] } :: a.defers } w')
    (first : s.wp P (Exit.then (fun a' w' => ∃ D, a' = { a with defers := { target := .collected D, args := #[] } :: a.defers } ∧ R D w') Q') a w) : s.wp P (Exit.then K Q') a w := by
  refine wp_mono first ?_
  intro e a' w' hq
  cases e with
  | normal => obtain ⟨D, rfl, h⟩ := hq; exact rest _ _ h
  | exit id => exact hq
  | goto l => exact hq
  | ret => exact hq
  | panic ch => exact hq
  | outgrown => exact hq
theorem ownFrom_mark {β : Type} {N D : Nat} {o : Obj} (h : D < N) : OwnFrom N (fun (_ : β) W => W.heap[D]? = some o) := fun s A B row hs hg hr => by
  have h1 := (Array.getElem?_eq_some_iff.1 hs).1
  refine (hg.block D h1 (fun e => ?_)).trans hs
  have := (hr D e.symm).1
  omega
theorem run_equalIn_func_nil {P : Program} (w : World) (d : Nat) (t : TypeId) {ps rs : Array TypeId} {v : Bool} (h : P.underlying t = some (.func ps rs v)) (f : Fn) (a b : Array Value) : (Op.equalIn (d + 1) t (.func f a b) .nilFunc).run P w = .ok false w := by
  simp [Op.equalIn, run_underlying h]
theorem run_eql_func_nil {P : Program} (w : World) (t : TypeId) {ps rs : Array TypeId} {v : Bool} (h : P.underlying t = some (.func ps rs v)) (f : Fn) (a b : Array Value) : (binOp .eql t (.func f a b) .nilFunc).run P w = .ok (.bool false) w := by
  simp only [binOp]
  simp [show Op.equal t (.func f a b) .nilFunc = Op.equalIn (9999 + 1) t (.func f a b) .nilFunc from rfl, run_equalIn_func_nil w 9999 t h f a b]

theorem run_eqO (w : World) (f : Fn) (a b : Array Value) : (binOp .eql 56 (.func f a b) .nilFunc).run Try.prog w = .ok (.bool false) w := run_eql_func_nil w _ Try.underlying56 f a b
theorem box2 (w : World) (a b : Value) (T T' : TypeId) : OneAt ((w.alloc (.cells #[a] T)).alloc (.cells #[b] T')) w.heap.size a ∧ OneAt ((w.alloc (.cells #[a] T)).alloc (.cells #[b] T')) (w.heap.size + 1) b ∧ Below w.heap.size w ((w.alloc (.cells #[a] T)).alloc (.cells #[b] T')) := by
  refine ⟨(OneAt.new w _ _).alloc _, ?_, ?_⟩
  · have h := OneAt.new (w.alloc (.cells #[a] T)) b T'
    rwa [World.size_alloc] at h
  · have h := (Below.refl w.heap.size w).alloc (Nat.le_refl _) (.cells #[a] T)
    exact h.alloc h.size _
theorem results_nb {tmps : Array Value} {w : World} {B : Nat} {b : Bool} (hp : tmps.getD 6 undef = .pointer (some ⟨B, 0, none⟩)) (hb : OneAt w B (.bool b)) :
    (results Try.f5 tmps).run Try.prog w = .ok (.bool b) w := by
  have h1 := hb.cell
  rw [Array.getD_eq_getD_getElem?] at hp
  simp [results, Try.f5, go_sem, hp, h1]
theorem wplIn_ldN_g {P : Program} {F : Fence} {r : Nat} {w : World} {ops : Array Oper} {rest : List Oper} {o : Oper} {a : Act} {Q : Exit → Act → World → Prop} {T : TypeId} (hT : NT P T) (hw : Region.wanted o (yielded ops a.tmps) = true) {x : Operand} (ho : o.op = .load T x)
    {B n : Nat} (hx : a.eval x = .pointer (some ⟨B, 0, none⟩)) (h : NatAt w B n) (hk : wpListIn F r P ops Q rest (a.put o.dst (.agg (natA n))) w) : wpListIn F r P ops Q (o :: rest) a w := by
  refine wpListIn_step fun K hK => ?_
  rw [if_pos hw]
  obtain ⟨d, h1, h2, h3⟩ := hT
  exact wpIn_of_load ho (wp_load_mid T x ho B 0 hx (natL n) d h.range h1 h2 (by rw [natL_length]; exact h3) (hK _ _ hk))
/-- The head of a list of bits, or -1. -/
def hdI : List Nat → Int
  | [] => -1
  | c :: _ => c
theorem ones_tail {n : Nat} : ∀ {k : Nat} {p : List Nat} {i : Nat} {l : List Nat}, onesU n k = p ++ i :: l → l = onesU n i
  | 0, p, i, l, h => by cases p <;> simp [onesU] at h
  | k + 1, p, i, l, h => by
    unfold onesU at h
    split at h
    · cases p with
      | nil =>
        rw [List.nil_append] at h
        injection h with h1 h2
        rw [← h1]
        exact h2.symm
      | cons q p =>
        rw [List.cons_append] at h
        injection h with h1 h2
        exact ones_tail h2
    · exact ones_tail h
theorem hd_ones (n : Nat) : hdI (onesN n) = (bl n : Int) - 1 := by
  by_cases h : n = 0
  · subst h
    rfl
  · obtain ⟨k, hk⟩ : ∃ k, bl n = k + 1 := ⟨bl n - 1, by have := bl_pos h; omega⟩
    have h1 := le_bl h
    have h2 := lt_bl n
    rw [hk] at h1 h2
    rw [Nat.add_sub_cancel] at h1
    have h3 : n / 2 ^ k = 1 := by
      have a1 : 1 ≤ n / 2 ^ k := (Nat.le_div_iff_mul_le (Nat.two_pow_pos k)).2 (by rw [Nat.one_mul]; exact h1)
      have a2 : n / 2 ^ k < 2 := (Nat.div_lt_iff_lt_mul (Nat.two_pow_pos k)).2 (by rw [Nat.pow_succ] at h2; omega)
      omega
    have h4 : bitN n k = true := by unfold bitN; rw [h3]; rfl
    unfold onesN
    rw [hk]
    unfold onesU
    rw [if_pos h4]
    show (k : Int) = _
    omega
theorem tI_bit (n : Nat) (i : Int) : (tI n i == 1) = bitI n i := by
  by_cases h : i < 0
  · unfold tI bitI
    rw [if_pos h, decide_eq_false (by omega)]
    rfl
  · obtain ⟨k, rfl⟩ := Int.eq_ofNat_of_zero_le (show 0 ≤ i by omega)
    rw [tI_nat]
    unfold bitI bitN
    rw [decide_eq_true (show (0 : Int) ≤ (k : Int) by omega), Int.toNat_natCast, Bool.true_and]
    rcases Nat.mod_two_eq_zero_or_one (n / 2 ^ k) with h1 | h1 <;> rw [h1] <;> rfl
theorem tI_set {n k : Nat} (h : bitN n k = true) : tI n (k : Int) = 1 := by
  rw [tI_nat]
  unfold bitN at h
  have := of_decide_eq_true h
  omega
theorem tI_clear {n k : Nat} (h : ¬ bitN n k = true) : tI n (k : Int) = 0 := by
  rw [tI_nat]
  unfold bitN at h
  have h1 : ¬ n / 2 ^ k % 2 = 1 := fun e => h (decide_eq_true e)
  have := Nat.mod_lt (n / 2 ^ k) (show 0 < 2 by decide)
  omega
theorem bitI_set {n k : Nat} (h : bitN n k = true) : bitI n (k : Int) = true := by
  unfold bitI
  rw [decide_eq_true (show (0 : Int) ≤ (k : Int) by omega), Int.toNat_natCast, h]
  rfl
/-- A list of the reference that lies below N. -/
def LstN (W : World) (s : Value) (n N : Nat) : Prop := Lst W s n ∧ (n ≠ 0 → ∀ g, s.ownBlock = some g → g < N)
theorem LstN.grown {W W' : World} {s : Value} {n N : Nat} {row : Option Nat} (h : LstN W s n N) (hg : W.grownBy W' row) (hr : ∀ g, row = some g → N ≤ g) : LstN W' s n N := by
  refine ⟨?_, h.2⟩
  by_cases h0 : n = 0
  · obtain ⟨A, c, h1, h2, h3, h4, -⟩ := h.1
    subst h0
    exact ⟨A, c, h1, h2, h3, h4, fun e => absurd rfl e⟩
  · exact Its.grown h.1 hg (fun g e e2 => by have := h.2 h0 g e2; have := hr g e; omega)
theorem LstN.of {W : World} {s : Value} {n : Nat} (h : Lst W s n) : LstN W s n W.heap.size := by
  refine ⟨h, fun h0 g hg => ?_⟩
  obtain ⟨A, c, rfl, -, -, -, h5⟩ := h
  obtain ⟨b, off, hA, hb, -⟩ := h5 (by intro e; exact h0 (dL_nil.1 (List.map_eq_nil_iff.1 e)))
  subst hA
  simp only [Value.ownBlock] at hg
  injection hg with hg
  subst hg
  exact hb
/-- What stays through the loops. -/
def Fx (W : World) (b5 b6 b7 b8 bt bn N : Nat) (many τ : Int) (n : Nat) (s : Value) : Prop :=
  OneAt W b5 (.int .i64 many) ∧ OneAt W b6 (.bool false) ∧ NatAt W b7 n ∧ OneAt W b8 s ∧ OneAt W bt (.int .i64 τ) ∧ NatAt W bn n ∧ LstN W s n N
theorem Fx.grown {W W' : World} {b5 b6 b7 b8 bt bn N : Nat} {many τ : Int} {n : Nat} {s : Value} {row : Option Nat} (h : Fx W b5 b6 b7 b8 bt bn N many τ n s) (hg : W.grownBy W' row)
    (hr : ∀ g, row = some g → b5 ≠ g ∧ b6 ≠ g ∧ b7 ≠ g ∧ b8 ≠ g ∧ bt ≠ g ∧ bn ≠ g ∧ N ≤ g) : Fx W' b5 b6 b7 b8 bt bn N many τ n s := by
  obtain ⟨h1, h2, h3, h4, h5, h6, h7⟩ := h
  exact ⟨h1.grown hg (fun e => (hr _ e.symm).1 rfl), h2.grown hg (fun e => (hr _ e.symm).2.1 rfl), h3.grown hg (fun e => (hr _ e.symm).2.2.1 rfl), h4.grown hg (fun e => (hr _ e.symm).2.2.2.1 rfl), h5.grown hg (fun e => (hr _ e.symm).2.2.2.2.1 rfl), h6.grown hg (fun e => (hr _ e.symm).2.2.2.2.2.1 rfl), h7.grown hg (fun g e => (hr g e).2.2.2.2.2.2)⟩
theorem Fx.below {W W' : World} {b5 b6 b7 b8 bt bn N : Nat} {many τ : Int} {n : Nat} {s : Value} (h : Fx W b5 b6 b7 b8 bt bn N many τ n s) (hb : Below W.heap.size W W') : Fx W' b5 b6 b7 b8 bt bn N many τ n s := h.grown (grown_of_below hb) (fun g e => by cases e)
/-- What a box holds, as an int. -/
def cellI (w : World) (B : Nat) : Int := match w.cell? ⟨B, 0, none⟩ with
  | some v => intOf v
  | none => 0
theorem cellI_eq {w : World} {B : Nat} {z : Int} (h : OneAt w B (.int .i64 z)) : cellI w B = z := by
  unfold cellI
  rw [h.cell]
  rfl

theorem oneAt_below {w w' : World} {B N : Nat} {v : Value} (h : OneAt w B v) (hb : Below N w w') (hB : B < N) : OneAt w' B v := by
  obtain ⟨T, h⟩ := h
  exact ⟨T, by rw [hb.block B hB]; exact h⟩
theorem len_pos9 {s : Nat} (h : s ≠ 0) : 0 < c16 s := by
  rcases Nat.eq_zero_or_pos (c16 s) with h1 | h1
  · exact absurd (c16_eq_zero.1 h1) h
  · exact h1
theorem no_next {n i : Nat} {z : Int} {p : List Nat} (h : ∀ l, p ++ l = onesN n → z = hdI l) (hz : ¬ (i : Int) = z) : ¬ p ++ [i] <+: onesN n := by
  rintro ⟨l, hl⟩
  have := h (i :: l) (by rw [← hl, List.append_assoc]; rfl)
  exact hz this.symm
theorem next_hd {n i j : Nat} {p q : List Nat} {z : Int} (hq : q = p ++ [i]) (ho : onesU n j = onesU n i) (hz : z = hdI (onesU n j)) : ∀ l, q ++ l = onesN n → z = hdI l := by
  intro l hl
  rw [hq, List.append_assoc] at hl
  have := ones_tail hl.symm
  rw [hz, ho]
  exact (congrArg hdI this).symm

set_option maxHeartbeats 12800000 in
theorem bits_any (va : Value) (xa : List UInt8) (t many : Int) (w : World) (ha : Byt w va xa) (ht : -9223372036854775808 ≤ t ∧ t ≤ 9223372036854775807) (hm : -9223372036854775808 ≤ many ∧ many ≤ 9223372036854775807) :
    Calls Try.prog 5 #[va, .int .i64 t, .int .i64 many] w fun e w' => e = .returned (.bool true) ∧ Below w.heap.size w w' := by
  have HA := Lib.hid ha
  obtain ⟨A, c, rfl, -⟩ := ha.len
  obtain ⟨h5, h6, hw0⟩ := box2 w (.int .i64 many) (.bool false) 3 4
  have H5 := Lib.hid h5
  have H6 := Lib.hid h6
  have HW0 := Lib.hid hw0
  have HV := Lib.hid (HA.out.below hw0)
  clear h5 h6 hw0 ha HA
  refine (callsIn_wide (n := 8)).1 ?_
  refine callsIn_of_wp_marks Try.func5 rfl trivial ?_ rfl
  refine wpIn_wide.2 ?_
  simp only [Try.ntmps5, List.size_toArray, List.length_cons, List.length_nil, Nat.reduceAdd, Nat.reduceSub, Array.replicate_succ, Array.replicate_zero, List.push_toArray, List.append_toArray, List.nil_append, List.cons_append]
  by_cases hl : 128 < xa.length
  · have d0 : decide (128 < (xa.length : Int)) = true := decide_eq_true (by omega)
    clear hl
    go_wp2_with fail
    refine (known_any _).mono ?_
    rintro e p1 ⟨rfl, hb⟩
    have hC1 := H6.out.below hb
    have hcc := hC1.cell
    have hfc := hC1.frozen
    have hW1 := HW0.out.trans (hb.mono HW0.out.size)
    go_wp2_with fail
    obtain ⟨hs, hgr⟩ := hC1.set (.bool true)
    exact ⟨_, results_nb rfl hs, rfl, hW1.grown hgr hW1.size (fun j e => by injection e with e; omega)⟩
  · have d0 : decide (128 < (xa.length : Int)) = false := decide_eq_false (by omega)
    have HLn : Hid (xa.length ≤ 200) := Lib.hid (by omega)
    have HSn := Lib.hid (sz_num HLn.out)
    have HFn := Lib.hid (fit_num (xs := xa) (by omega))
    have HCn := Lib.hid (c16_num HLn.out)
    obtain ⟨n, hn⟩ : ∃ n, numN xa = n := ⟨_, rfl⟩
    rw [hn] at HSn HCn HFn
    have HEn := Lib.hid hn
    clear hn
    have HBL : Hid (bl n ≤ 1024) := Lib.hid (bl_fit.2 HFn.out)
    clear hl
    go_wp2_with fail
    refine (made_ok _ _ HV.out HLn.out HEn.out HFn.out).mono ?_
    rintro e p ⟨sv, rfl, hv, hb⟩
    have hlen := Lst.len hv
    have P5 := Lib.hid (H5.out.below hb)
    have P6 := Lib.hid (H6.out.below hb)
    have PW := Lib.hid (HW0.out.trans (hb.mono HW0.out.size))
    have PL := Lib.hid (LstN.of hv)
    clear hb H5 H6 HW0 HV d0 hv
    have XT : Hid (NatAt ((p.alloc (.cells z0 29)).alloc (.cells #[.slice none 0 0] 33)) p.heap.size 0) := Lib.hid ((NatAt.zero p).alloc _)
    have XS : Hid (OneAt ((p.alloc (.cells z0 29)).alloc (.cells #[.slice none 0 0] 33)) (p.heap.size + 1) (.slice none 0 0)) := Lib.hid (by have h := OneAt.new (p.alloc (.cells z0 29)) (.slice none 0 0) 33; rwa [World.size_alloc] at h)
    have hBA : Below p.heap.size p ((p.alloc (.cells z0 29)).alloc (.cells #[.slice none 0 0] 33)) := ((Below.refl p.heap.size p).alloc (Nat.le_refl _) _).alloc (by rw [World.size_alloc]; exact Nat.le_succ _) _
    have XB := Lib.hid hBA
    clear hBA
    obtain ⟨As, cs, hsv, -⟩ := hlen
    subst hsv
    go_upto_region 4 with (first | (refine wpl_stN ntNat rfl rfl rfl rfl XT.out ?_; intro q1 hn hg; have XN := Lib.hid hn; have XS1 := Lib.hid (XS.out.grown hg (fun e => by injection e with e; omega)); have XB1 := Lib.hid (XB.out.grown hg XB.out.size (fun j e => by injection e with e; omega)); have cs8 := XS1.out.cell; have fs8 := XS1.out.frozen; clear hn hg XT XS XB))
    have hs8 := XS1.out.set (.slice As (c16 n) cs)
    have hB2 := XB1.out.grown hs8.2 XB1.out.size (fun j e => by injection e with e; omega)
    have G5 := Lib.hid (P5.out.below hB2)
    have G6 := Lib.hid (P6.out.below hB2)
    have G7 := Lib.hid (XN.out.grown hs8.2 (fun e => by injection e with e; omega))
    have G8 := Lib.hid hs8.1
    have GL := Lib.hid (PL.out.grown (grown_of_below hB2) (fun g e => by cases e))
    have GW := Lib.hid (PW.out.trans (hB2.mono PW.out.size))
    have GL2 := Lib.hid GL.out.1
    have hP6 := P6.out.lt
    clear hs8 hB2 XS1 XB1 XN cs8 fs8 P5 P6 PW PL
    generalize q1.setCell ⟨p.heap.size + 1, 0, none⟩ (.slice As (c16 n) cs) = w2 at *
    generalize p.heap.size = B7 at *
    have hP6' := Lib.hid hP6
    clear hP6
    obtain ⟨bb, hbb⟩ : ∃ b, bitI n t = b := ⟨_, rfl⟩
    have HBB : Hid ((tI n t == 1) = bb) := Lib.hid (by rw [tI_bit, hbb])
    have KBit : Hid (∀ W, Calls Try.prog 28 #[.agg (natA n), .int .i64 t] W fun e w' => e = .returned (.bool bb) ∧ Below W.heap.size W w') := Lib.hid (fun W => by rw [← hbb]; exact bit_any n t W HFn.out)
    have HTI : Hid (t ≤ maxI) := Lib.hid (by unfold maxI; exact ht.2)
    clear hbb
    obtain ⟨zz, hzz⟩ : ∃ b, decide (n = 0) = b := ⟨_, rfl⟩
    have HZZ : Hid ((((c16 n : Nat) : Int) == 0) = zz) := Lib.hid (by rw [← hzz]; by_cases h : n = 0; (rw [decide_eq_true h, h]; rfl); (rw [decide_eq_false h]; have := len_pos9 h; exact beq_eq_false_iff_ne.2 (by omega)))
    have KZ : Hid (∀ W, Calls Try.prog 15 #[.agg (natA n)] W fun e w' => e = .returned (.bool zz) ∧ Below W.heap.size W w') := Lib.hid (fun W => by rw [← hzz]; exact isZero_any n W HFn.out)
    clear hzz
    have hRR : ∀ w9 : World, Below w2.heap.size w9 w9 := fun _ => Below.refl _ _
    have hRT : ∀ x y z : World, Below w2.heap.size x y → Below w2.heap.size y z → Below w2.heap.size x z := fun _ _ _ h1 h2 => h1.trans h2
    have LTA := Lib.hid G7.out.lt
    have LTS := Lib.hid G8.out.lt
    refine region_begin (fun x y => Below w2.heap.size x y) 27 (by kernel_rfl) (by kernel_rfl) ?_
    have BX : Hid (Below w2.heap.size w2 w2.drew) := Lib.hid (Below.refl w2.heap.size w2).drew
    have A_0 : Hid (NatAt w2.drew B7 n) := Lib.hid G7.out.drew
    have S_0 : Hid (OneAt w2.drew (B7 + 1) (.slice As (c16 n) cs)) := Lib.hid G8.out
    have M_0 : Hid (Lst w2.drew (.slice As (c16 n) cs) n) := Lib.hid GL2.out.drew
    generalize w2.drew = d0 at BX A_0 S_0 M_0 ⊢
    refine anyR_at (o := ?_) (i := 0) ?_ ?_
    rotate_left
    · (conv => (lhs; whnf; arg 1; whnf))
    refine anyR_y hRR hRT (by kernel_rfl) (v := ?_) (by kernel_rfl) (by rfl) (fun W hW => ?_) ?_
    rotate_left
    · go_simp; try with_reducible rfl
    try simp only [Act.put, List.setIfInBounds_toArray, List.set_cons_zero, List.set_cons_succ]
    refine anyR_at (o := ?_) (i := 1) ?_ ?_
    rotate_left
    · (conv => (lhs; whnf; arg 1; whnf))
    refine anyR_y hRR hRT (by kernel_rfl) (v := ?_) (by kernel_rfl) (by rfl) (fun W hW => ?_) ?_
    rotate_left
    · go_simp; try with_reducible rfl
    try simp only [Act.put, List.setIfInBounds_toArray, List.set_cons_zero, List.set_cons_succ]
    refine anyR_at (o := ?_) (i := 2) ?_ ?_
    rotate_left
    · (conv => (lhs; whnf; arg 1; whnf))
    refine anyR_y hRR hRT (by kernel_rfl) (v := ?_) (by kernel_rfl) (by rfl) (fun W hW => ?_) ?_
    rotate_left
    · go_simp; try with_reducible rfl
    try simp only [Act.put, List.setIfInBounds_toArray, List.set_cons_zero, List.set_cons_succ]
    refine anyR_at (o := ?_) (i := 3) ?_ ?_
    rotate_left
    · (conv => (lhs; whnf; arg 1; whnf))
    refine anyR_y hRR hRT (by kernel_rfl) (v := ?_) (by kernel_rfl) (by rfl) (fun W hW => ?_) ?_
    rotate_left
    · (refine exec_ldN (x := .tmp 7) ntNat ?_ ?_ (natAt_below (N := w2.heap.size) A_0.out hW LTA.out)) <;> rfl
    try simp only [Act.put, List.setIfInBounds_toArray, List.set_cons_zero, List.set_cons_succ]
    refine anyR_at (o := ?_) (i := 5) ?_ ?_
    rotate_left
    · (conv => (lhs; whnf; arg 1; whnf))
    refine anyR_y hRR hRT (by kernel_rfl) (v := ?_) (by kernel_rfl) (by rfl) (fun W hW => ?_) ?_
    rotate_left
    · have h9 := (oneAt_below S_0.out hW LTS.out).cell; go_simp; try with_reducible rfl
    try simp only [Act.put, List.setIfInBounds_toArray, List.set_cons_zero, List.set_cons_succ]
    refine anyR_branch [4] (by kernel_rfl) rfl ?_
    refine brs_cons (o := ?_) ?_ ?_ brs_nil
    rotate_left
    · (conv => (lhs; whnf; arg 1; whnf))
    refine stepB_c (by rfl) (fun K hK => ?_)
    go_simp
    refine (bitLen_any n _ HFn.out).mono ?_
    rintro e d1 ⟨rfl, hb⟩
    have A_1 := Lib.hid (A_0.out.below hb)
    have S_1 := Lib.hid (S_0.out.below hb)
    have M_1 := Lib.hid (M_0.out.below hb)
    have B_1 := Lib.hid (BX.out.trans (hb.mono BX.out.size))
    have R_1 := Lib.hid (hb.mono BX.out.size)
    clear hb A_0 S_0 M_0 BX
    refine hK _ _ R_1.out ?_
    clear hK K R_1
    try simp only [Act.put, List.setIfInBounds_toArray, List.set_cons_zero, List.set_cons_succ]
    refine anyR_branch [6] (by kernel_rfl) rfl ?_
    refine brs_cons (o := ?_) ?_ ?_ brs_nil
    rotate_left
    · (conv => (lhs; whnf; arg 1; whnf))
    refine stepB_c (by rfl) (fun K hK => ?_)
    go_simp
    refine (rbitLen_any _ n _ M_1.out HSn.out).mono ?_
    rintro e x2z ⟨rfl, rfl⟩
    refine hK _ _ (hRR _) ?_
    clear hK K
    try simp only [Act.put, List.setIfInBounds_toArray, List.set_cons_zero, List.set_cons_succ]
    refine anyR_at (o := ?_) (i := 7) ?_ ?_
    rotate_left
    · (conv => (lhs; whnf; arg 1; whnf))
    refine anyR_y hRR hRT (by kernel_rfl) (v := ?_) (by kernel_rfl) (by rfl) (fun W hW => ?_) ?_
    rotate_left
    · go_simp; try with_reducible rfl
    try simp only [Act.put, List.setIfInBounds_toArray, List.set_cons_zero, List.set_cons_succ]
    refine anyR_at (o := ?_) (i := 8) ?_ ?_
    rotate_left
    · (conv => (lhs; whnf; arg 1; whnf))
    refine anyR_y hRR hRT (by kernel_rfl) (v := ?_) (by kernel_rfl) (by rfl) (fun W hW => ?_) ?_
    rotate_left
    · go_simp; try with_reducible rfl
    try simp only [Act.put, List.setIfInBounds_toArray, List.set_cons_zero, List.set_cons_succ]
    refine anyR_at (o := ?_) (i := 9) ?_ ?_
    rotate_left
    · (conv => (lhs; whnf; arg 1; whnf))
    refine anyR_y hRR hRT (by kernel_rfl) (v := ?_) (by kernel_rfl) (by rfl) (fun W hW => ?_) ?_
    rotate_left
    · go_simp; try with_reducible rfl
    try simp only [Act.put, List.setIfInBounds_toArray, List.set_cons_zero, List.set_cons_succ]
    refine anyR_at (o := ?_) (i := 10) ?_ ?_
    rotate_left
    · (conv => (lhs; whnf; arg 1; whnf))
    refine anyR_y hRR hRT (by kernel_rfl) (v := ?_) (by kernel_rfl) (by rfl) (fun W hW => ?_) ?_
    rotate_left
    · (refine exec_ldN (x := .tmp 7) ntNat ?_ ?_ (natAt_below (N := w2.heap.size) A_1.out hW LTA.out)) <;> rfl
    try simp only [Act.put, List.setIfInBounds_toArray, List.set_cons_zero, List.set_cons_succ]
    refine anyR_at (o := ?_) (i := 12) ?_ ?_
    rotate_left
    · (conv => (lhs; whnf; arg 1; whnf))
    refine anyR_y hRR hRT (by kernel_rfl) (v := ?_) (by kernel_rfl) (by rfl) (fun W hW => ?_) ?_
    rotate_left
    · have h9 := (oneAt_below S_1.out hW LTS.out).cell; go_simp; try with_reducible rfl
    try simp only [Act.put, List.setIfInBounds_toArray, List.set_cons_zero, List.set_cons_succ]
    refine anyR_at (o := ?_) (i := 13) ?_ ?_
    rotate_left
    · (conv => (lhs; whnf; arg 1; whnf))
    refine anyR_y hRR hRT (by kernel_rfl) (v := ?_) (by kernel_rfl) (by rfl) (fun W hW => ?_) ?_
    rotate_left
    · go_simp; try with_reducible rfl
    try simp only [Act.put, List.setIfInBounds_toArray, List.set_cons_zero, List.set_cons_succ]
    refine anyR_at (o := ?_) (i := 14) ?_ ?_
    rotate_left
    · (conv => (lhs; whnf; arg 1; whnf))
    refine anyR_y hRR hRT (by kernel_rfl) (v := ?_) (by kernel_rfl) (by rfl) (fun W hW => ?_) ?_
    rotate_left
    · have h9 := HZZ.out; go_simp; try with_reducible rfl
    try simp only [Act.put, List.setIfInBounds_toArray, List.set_cons_zero, List.set_cons_succ]
    refine anyR_branch [11] (by kernel_rfl) rfl ?_
    refine brs_cons (o := ?_) ?_ ?_ brs_nil
    rotate_left
    · (conv => (lhs; whnf; arg 1; whnf))
    refine stepB_c (by rfl) (fun K hK => ?_)
    go_simp
    refine (KZ.out _).mono ?_
    rintro e d3 ⟨rfl, hb⟩
    have A_3 := Lib.hid (A_1.out.below hb)
    have S_3 := Lib.hid (S_1.out.below hb)
    have M_3 := Lib.hid (M_1.out.below hb)
    have B_3 := Lib.hid (B_1.out.trans (hb.mono B_1.out.size))
    have R_3 := Lib.hid (hb.mono B_1.out.size)
    clear hb A_1 S_1 M_1 B_1
    refine hK _ _ R_3.out ?_
    clear hK K R_3
    try simp only [Act.put, List.setIfInBounds_toArray, List.set_cons_zero, List.set_cons_succ]
    refine anyR_at (o := ?_) (i := 15) ?_ ?_
    rotate_left
    · (conv => (lhs; whnf; arg 1; whnf))
    refine anyR_y hRR hRT (by kernel_rfl) (v := ?_) (by kernel_rfl) (by rfl) (fun W hW => ?_) ?_
    rotate_left
    · go_simp; try with_reducible rfl
    try simp only [Act.put, List.setIfInBounds_toArray, List.set_cons_zero, List.set_cons_succ]
    refine anyR_at (o := ?_) (i := 16) ?_ ?_
    rotate_left
    · (conv => (lhs; whnf; arg 1; whnf))
    refine anyR_y hRR hRT (by kernel_rfl) (v := ?_) (by kernel_rfl) (by rfl) (fun W hW => ?_) ?_
    rotate_left
    · go_simp; try with_reducible rfl
    try simp only [Act.put, List.setIfInBounds_toArray, List.set_cons_zero, List.set_cons_succ]
    refine anyR_at (o := ?_) (i := 17) ?_ ?_
    rotate_left
    · (conv => (lhs; whnf; arg 1; whnf))
    refine anyR_y hRR hRT (by kernel_rfl) (v := ?_) (by kernel_rfl) (by rfl) (fun W hW => ?_) ?_
    rotate_left
    · go_simp; try with_reducible rfl
    try simp only [Act.put, List.setIfInBounds_toArray, List.set_cons_zero, List.set_cons_succ]
    refine anyR_at (o := ?_) (i := 18) ?_ ?_
    rotate_left
    · (conv => (lhs; whnf; arg 1; whnf))
    refine anyR_y hRR hRT (by kernel_rfl) (v := ?_) (by kernel_rfl) (by rfl) (fun W hW => ?_) ?_
    rotate_left
    · (refine exec_ldN (x := .tmp 7) ntNat ?_ ?_ (natAt_below (N := w2.heap.size) A_3.out hW LTA.out)) <;> rfl
    try simp only [Act.put, List.setIfInBounds_toArray, List.set_cons_zero, List.set_cons_succ]
    refine anyR_at (o := ?_) (i := 19) ?_ ?_
    rotate_left
    · (conv => (lhs; whnf; arg 1; whnf))
    refine anyR_y hRR hRT (by kernel_rfl) (v := ?_) (by kernel_rfl) (by rfl) (fun W hW => ?_) ?_
    rotate_left
    · go_simp; try with_reducible rfl
    try simp only [Act.put, List.setIfInBounds_toArray, List.set_cons_zero, List.set_cons_succ]
    refine anyR_at (o := ?_) (i := 21) ?_ ?_
    rotate_left
    · (conv => (lhs; whnf; arg 1; whnf))
    refine anyR_y hRR hRT (by kernel_rfl) (v := ?_) (by kernel_rfl) (by rfl) (fun W hW => ?_) ?_
    rotate_left
    · have h9 := (oneAt_below S_3.out hW LTS.out).cell; go_simp; try with_reducible rfl
    try simp only [Act.put, List.setIfInBounds_toArray, List.set_cons_zero, List.set_cons_succ]
    refine anyR_at (o := ?_) (i := 22) ?_ ?_
    rotate_left
    · (conv => (lhs; whnf; arg 1; whnf))
    refine anyR_y hRR hRT (by kernel_rfl) (v := ?_) (by kernel_rfl) (by rfl) (fun W hW => ?_) ?_
    rotate_left
    · go_simp; try with_reducible rfl
    try simp only [Act.put, List.setIfInBounds_toArray, List.set_cons_zero, List.set_cons_succ]
    refine anyR_branch [20] (by kernel_rfl) rfl ?_
    refine brs_cons (o := ?_) ?_ ?_ brs_nil
    rotate_left
    · (conv => (lhs; whnf; arg 1; whnf))
    refine stepB_c (by rfl) (fun K hK => ?_)
    go_simp
    refine (KBit.out _).mono ?_
    rintro e d4 ⟨rfl, hb⟩
    have A_4 := Lib.hid (A_3.out.below hb)
    have S_4 := Lib.hid (S_3.out.below hb)
    have M_4 := Lib.hid (M_3.out.below hb)
    have B_4 := Lib.hid (B_3.out.trans (hb.mono B_3.out.size))
    have R_4 := Lib.hid (hb.mono B_3.out.size)
    clear hb A_3 S_3 M_3 B_3
    refine hK _ _ R_4.out ?_
    clear hK K R_4
    try simp only [Act.put, List.setIfInBounds_toArray, List.set_cons_zero, List.set_cons_succ]
    refine anyR_branch [23] (by kernel_rfl) rfl ?_
    refine brs_cons (o := ?_) ?_ ?_ brs_nil
    rotate_left
    · (conv => (lhs; whnf; arg 1; whnf))
    refine stepB_c (by rfl) (fun K hK => ?_)
    go_simp
    refine (rbit_any _ n t _ M_4.out HSn.out HTI.out).mono ?_
    rintro e x5z ⟨rfl, rfl⟩
    refine hK _ _ (hRR _) ?_
    clear hK K
    try simp only [Act.put, List.setIfInBounds_toArray, List.set_cons_zero, List.set_cons_succ]
    refine anyR_at (o := ?_) (i := 24) ?_ ?_
    rotate_left
    · (conv => (lhs; whnf; arg 1; whnf))
    refine anyR_y hRR hRT (by kernel_rfl) (v := ?_) (by kernel_rfl) (by rfl) (fun W hW => ?_) ?_
    rotate_left
    · have h9 := HBB.out; go_simp; try with_reducible rfl
    try simp only [Act.put, List.setIfInBounds_toArray, List.set_cons_zero, List.set_cons_succ]
    refine anyR_at (o := ?_) (i := 25) ?_ ?_
    rotate_left
    · (conv => (lhs; whnf; arg 1; whnf))
    refine anyR_y hRR hRT (by kernel_rfl) (v := ?_) (by kernel_rfl) (by rfl) (fun W hW => ?_) ?_
    rotate_left
    · go_simp; try with_reducible rfl
    try simp only [Act.put, List.setIfInBounds_toArray, List.set_cons_zero, List.set_cons_succ]
    refine anyR_at (o := ?_) (i := 26) ?_ ?_
    rotate_left
    · (conv => (lhs; whnf; arg 1; whnf))
    refine anyR_y hRR hRT (by kernel_rfl) (v := ?_) (by kernel_rfl) (by rfl) (fun W hW => ?_) ?_
    rotate_left
    · go_simp; try with_reducible rfl
    try simp only [Act.put, List.setIfInBounds_toArray, List.set_cons_zero, List.set_cons_succ]
    refine anyR_end (by kernel_rfl) ?_
    have Q5 := Lib.hid (oneAt_below G5.out B_4.out G5.out.lt)
    have Q6 := Lib.hid (oneAt_below G6.out B_4.out G6.out.lt)
    have QW := Lib.hid (GW.out.trans (B_4.out.mono GW.out.size))
    clear G5 G6 GW GL2 G7 G8 LTA LTS hRR hRT B_4
    go_wp2_with (first | (refine wpl_ldN ntNat rfl rfl rfl A_4.out ?_))
    refine (ones_any n _).mono ?_
    rintro e p9 ⟨rfl, hb, hn⟩
    have JA := Lib.hid (A_4.out.below hb)
    have JS := Lib.hid (S_4.out.below hb)
    have J5 := Lib.hid (Q5.out.below hb)
    have J6 := Lib.hid (Q6.out.below hb)
    have JLst := Lib.hid (M_4.out.below hb)
    have JW := Lib.hid (QW.out.trans (hb.mono QW.out.size))
    have JN := Lib.hid hn
    have LN := Lib.hid hn.lt
    have LA := Lib.hid A_4.out.lt
    have LS := Lib.hid S_4.out.lt
    have JL : Hid (LstN p9 (.slice As (c16 n) cs) n B7) := Lib.hid ⟨JLst.out, GL.out.2⟩
    clear hb hn GL JLst A_4 S_4 M_4 Q5 Q6 QW
    generalize d4.heap.size = Bn at *
    generalize hB8 : B7 + 1 = B8 at *
    go_upto_block 0 with (rw [run_eqO])
    have T1 := Lib.hid (OneAt.new p9 (.int .i64 0) 3)
    generalize hsv : Value.slice As (c16 n) cs = sv at *
    have F1 : Hid (Fx (p9.alloc (.cells #[.int .i64 0] 3)) (w.heap.size) (w.heap.size + 1) B7 B8 p9.heap.size Bn B7 many 0 n sv) := Lib.hid ⟨J5.out.alloc _, J6.out.alloc _, JA.out.alloc _, JS.out.alloc _, T1.out, JN.out.alloc _, ⟨Lst.below JL.out.1 ((Below.refl _ _).alloc (Nat.le_refl _) _), JL.out.2⟩⟩
    have W1 := Lib.hid (JW.out.alloc JW.out.size (.cells #[.int .i64 0] 3))
    clear T1 J5 J6 JA JS JL JN JW LN LA LS
    generalize p9.alloc (.cells #[.int .i64 0] 3) = w3 at *
    generalize p9.heap.size = Bt at *
    have hw1 : IntKind.i64.wrap ((bl n : Int) - 1) = (bl n : Int) - 1 := by rw [IntKind.wrap_i64]; have := HBL.out; omega
    refine wp_block ?_
    refine wp_loop_rounds 3 ?_
    rw [rounds_succ]
    have hc8 := F1.out.2.2.2.1.cell
    have hct := F1.out.2.2.2.2.1.cell
    go_wp2_with fail
    refine (rbitLen_any _ n _ F1.out.2.2.2.2.2.2.1 HSn.out).mono ?_
    rintro e x9 ⟨rfl, rfl⟩
    go_upto_block 2 with fail
    clear hc8 hct
    obtain ⟨h12, h13, hbx⟩ := box2 w3 (.int .i64 0) (.int .i64 ((bl n : Int) - 1)) 3 3
    have F_t0 := Lib.hid (F1.out.below hbx)
    have W_t0 := Lib.hid (W1.out.trans (hbx.mono W1.out.size))
    have K12 := Lib.hid h12
    have K13 := Lib.hid h13
    have GE : Hid (w.heap.size + 1 < w3.heap.size ∧ B7 < w3.heap.size ∧ B8 < w3.heap.size ∧ Bt < w3.heap.size ∧ Bn < w3.heap.size) := Lib.hid ⟨F1.out.2.1.lt, F1.out.2.2.1.lt, F1.out.2.2.2.1.lt, F1.out.2.2.2.2.1.lt, F1.out.2.2.2.2.2.1.lt⟩
    have S12 := Lib.hid h12.lt
    have S13 := Lib.hid h13.lt
    clear h12 h13 hbx F1 W1
    generalize (w3.alloc (.cells #[.int .i64 0] 3)).alloc (.cells #[.int .i64 ((bl n : Int) - 1)] 3) = x0 at *
    generalize w3.heap.size = b12 at *
    refine wp_cut_marks (fun D w' => x0.heap.size ≤ D ∧ w'.heap[D]? = some (.deferred (some [])) ∧ Fx w' (w.heap.size) (w.heap.size + 1) B7 B8 Bt Bn B7 many 0 n sv ∧ Below w.heap.size w w') ?rest ?first
    case first =>
      refine (wpIn_wide (n := 8)).1 ?_
      refine wpIn_block ?_
      refine wpIn_rangeFunc_own1 (F := Fence.wide) (q := 64) (k := 14) (enc := fun x : Bits n => .int .i64 (x.1 : Int)) rfl (by decide) (gf := 52) (lb := #[.pointer (some ⟨Bn, 0, none⟩)]) rfl trivial (enters_of Try.func52 (by kernel_rfl) rfl)
        (ones1_stops n 7 Bn x0 HFn.out F_t0.out.2.2.2.2.2.1) KeepB.trans (keepB_put F_t0.out.2.2.2.2.2.1.lt) (Below.refl _ _)
        (fun (pre : List (Bits n)) (W : World) => ((∃ zk : Int, OneAt W b12 (.int .i64 zk)) ∧ (∃ z : Int, OneAt W (b12 + 1) (.int .i64 z) ∧ ∀ l, pre.map (fun x : Bits n => x.1) ++ l = onesN n → z = hdI l) ∧ Fx W (w.heap.size) (w.heap.size + 1) B7 B8 Bt Bn B7 many 0 n sv) ∧ Below w.heap.size w W)
        (fun (c : Code) (pre : List (Bits n)) (W : World) => ((c = .ret ∧ ¬ pre.map (fun x : Bits n => x.1) <+: onesN n) ∨ (c = .exit 2 ∧ Fx W (w.heap.size) (w.heap.size + 1) B7 B8 Bt Bn B7 many 0 n sv)) ∧ Below w.heap.size w W)
        (OwnFrom.and (fun st A B row hs0 hg hr => by
          obtain ⟨⟨zk, hk⟩, ⟨z, hz, himp⟩, hs⟩ := hs0
          exact ⟨⟨zk, hk.grown hg (fun e => by have := (hr _ e.symm).1; have := S12.out; omega)⟩, ⟨z, hz.grown hg (fun e => by have := (hr _ e.symm).1; have := S13.out; omega), himp⟩, (hs.grown hg (fun g e => by have := (hr g e).1; have := GE.out; have := S12.out; omega))⟩) (ownFrom_below (Nat.le_refl _) W_t0.out.size))
        (fun c => OwnFrom.and (fun (st : List (Bits n)) A B row hs0 hg hr => by
          rcases hs0 with h | ⟨h, hs⟩
          · exact .inl h
          · exact .inr ⟨h, (hs.grown hg (fun g e => by have := (hr g e).1; have := GE.out; have := S12.out; omega))⟩) (ownFrom_below (Nat.le_refl _) W_t0.out.size))
        ⟨⟨⟨0, K12.out⟩, ⟨_, K13.out, fun l hl => by rw [List.map_nil, List.nil_append] at hl; rw [hl, hd_ones]⟩, F_t0.out⟩, W_t0.out⟩ ?assign ?body ?done ?stop
      case assign =>
        intro l x W K hK
        simp only [List.setIfInBounds_toArray, List.set_cons_zero, List.set_cons_succ] at hK ⊢
        gi_wp2
        exact hK
      case body =>
        rintro l pre ⟨i, hib, hbit⟩ W ⟨⟨⟨zk, hk⟩, ⟨z, hz, himp⟩, hF⟩, hBel⟩ _
        simp only [List.setIfInBounds_toArray, List.set_cons_zero, List.set_cons_succ]
        have hpre : Hid ((pre ++ [(⟨i, hib, hbit⟩ : Bits n)]).map (·.1) = pre.map (·.1) ++ [i]) := Lib.hid (by simp)
        generalize pre ++ [(⟨i, hib, hbit⟩ : Bits n)] = pre2 at *
        have YK := Lib.hid hk
        have YZ := Lib.hid hz
        have YI := Lib.hid himp
        have YF := Lib.hid hF
        have YW := Lib.hid hBel
        have YB := Lib.hid hbit
        have YIB := Lib.hid hib
        have cz := hz.cell
        have c6 := hF.2.1.cell
        have f6 := hF.2.1.frozen
        have c8 := hF.2.2.2.1.cell
        clear hk hz himp hF hBel hbit hib 
        by_cases hzi : (i : Int) = z
        · skip
          subst hzi
          have hiI : (i : Int) ≤ maxI := by unfold maxI; have := HBL.out; have := YIB.out; omega
          have HII := Lib.hid hiI
          have hi1 : IntKind.i64.wrap ((i : Int) - 1) = (i : Int) - 1 := by rw [IntKind.wrap_i64]; have := HBL.out; have := YIB.out; omega
          have HI1 := Lib.hid hi1
          clear hi1 hiI
          repeat (first | go_values | gi_guarded | gi_step | gi_upon | gi_back)
          refine ⟨trivial, (CallsIn.inRound l (callsIn_wide.2 (rbit_any _ n i W YF.out.2.2.2.2.2.2.1 HSn.out HII.out))).mono ?_⟩
          rintro e W2 ⟨rfl, rfl⟩
          rw [tI_set YB.out]
          try dsimp only
          repeat (first | (refine wplIn_ldN ntNat rfl rfl rfl YF.out.2.2.1 ?_) | (refine wplIn_ldN_g ntNat rfl rfl rfl YF.out.2.2.1 ?_) | go_values | gi_guarded | gi_step | gi_upon | gi_back)
          refine ⟨trivial, (CallsIn.inRound l (callsIn_wide.2 (bit_any n i W HFn.out))).mono ?_⟩
          rintro e W3 ⟨rfl, hb⟩
          rw [bitI_set YB.out]
          try dsimp only
          have ZK := Lib.hid (YK.out.below hb)
          have ZZ := Lib.hid (YZ.out.below hb)
          have ZF := Lib.hid (YF.out.below hb)
          have ZW := Lib.hid (YW.out.trans (hb.mono YW.out.size))
          have KO3 := Lib.hid (keeps_of_below hb)
          have KB3 := Lib.hid (KeepB.grown (grown_of_below hb) YF.out.2.2.2.2.2.1.lt (fun e => by cases e))
          clear hb cz c6 f6 c8 YK YZ YF YW
          have cz := ZZ.out.cell
          have fz := ZZ.out.frozen
          have hi1 := HI1.out
          repeat (first | go_values | gi_guarded | gi_step | gi_upon | gi_back)
          have hs0 := ZZ.out.set (.int .i64 ((i : Int) - 1))
          clear cz fz hi1
          gi_loopw [] (fun wr => ∃ j : Nat, j ≤ i ∧ OneAt wr (b12 + 1) (.int .i64 ((j : Int) - 1)) ∧ onesU n j = onesU n i ∧ W3.grownBy wr (some (b12 + 1)) ∧ KeepsOthers W3 wr) (fun wr => (cellI wr (b12 + 1) + 1).toNat)
          case atStart => exact ⟨i, Nat.le_refl _, hs0.1, rfl, hs0.2, KeepsOthers.setCell _ _ _⟩
          case round =>
            obtain ⟨j, hj, hz, ho, hgw, hko⟩ := hrel
            have VZ := Lib.hid hz
            have VO := Lib.hid ho
            have HGW := Lib.hid hgw
            have KOW := Lib.hid (KO3.out.trans hko)
            have KO4 := Lib.hid hko
            have VF := Lib.hid (ZF.out.grown hgw (fun g e => by injection e with e; subst e; exact ⟨by have := GE.out; omega, by have := GE.out; omega, by have := GE.out; omega, by have := GE.out; omega, by have := GE.out; omega, by have := GE.out; omega, by have := GE.out; omega⟩))
            have VK := Lib.hid (ZK.out.grown hgw (fun e => by injection e with e; omega))
            have VW := Lib.hid (ZW.out.grown hgw ZW.out.size (fun k e => by injection e with e; have := GE.out; omega))
            have VKB := Lib.hid (KB3.out.trans (KeepB.grown hgw ZF.out.2.2.2.2.2.1.lt (fun e => by injection e with e; have := GE.out; omega)))
            have hjI : (j : Int) ≤ 1024 := by have := HBL.out; have := YIB.out; omega
            have cz := hz.cell
            have fz := hz.frozen
            have c8 := VF.out.2.2.2.1.cell
            have hme := cellI_eq hz
            have HME := Lib.hid hme
            clear hs0 hz ho hgw hko hme
            rcases j with _ | j
            · have hge : ¬ (0 : Int) ≤ ((0 : Nat) : Int) - 1 := by omega
              have dge := decide_eq_false hge
              have e0 : (((0 : Nat) : Int) - 1) = -1 := rfl
              rw [e0] at cz VZ dge
              clear hge e0
              repeat (first | go_values | gi_guarded | gi_step | gi_upon | gi_back)
              refine ⟨trivial, ?_⟩
              have ck := VK.out.cell
              have fk := VK.out.frozen
              have ct := VF.out.2.2.2.2.1.cell
              have c5 := VF.out.1.cell
              have s12 := fun u : Value => VK.out.set u
              have ht1 : ∀ u : Value, (wr.setCell ⟨b12, 0, none⟩ u).cell? ⟨Bt, 0, none⟩ = some (.int .i64 0) := fun u => (VF.out.2.2.2.2.1.grown (s12 u).2 (fun e => by injection e with e; have := GE.out; omega)).cell
              have hk1 : ∀ u : Value, (wr.setCell ⟨b12, 0, none⟩ u).cell? ⟨b12, 0, none⟩ = some u := fun u => (s12 u).1.cell
              have h51 : ∀ u : Value, (wr.setCell ⟨b12, 0, none⟩ u).cell? ⟨w.heap.size, 0, none⟩ = some (.int .i64 many) := fun u => (VF.out.1.grown (s12 u).2 (fun e => by injection e with e; have := GE.out; omega)).cell
              obtain ⟨zk2, hzk2⟩ : ∃ z, IntKind.i64.wrap (zk + 1) = z := ⟨_, rfl⟩
              clear cz fz c8
              by_cases hbr : many ≤ zk2
              · have dbr := decide_eq_true hbr
                repeat (first | go_values | gi_guarded | gi_step | gi_upon | gi_back)
                exact ⟨(KOW.out.trans (KeepsOthers.setCell _ _ _)), .inr ⟨rfl, (VF.out.grown (s12 _).2 (fun g e => by injection e with e; subst e; exact ⟨by have := GE.out; omega, by have := GE.out; omega, by have := GE.out; omega, by have := GE.out; omega, by have := GE.out; omega, by have := GE.out; omega, by have := GE.out; omega⟩))⟩, (VW.out.grown (s12 _).2 VW.out.size (fun k e => by injection e with e; have := GE.out; omega))⟩
              · have dbr := decide_eq_false hbr
                repeat (first | go_values | gi_guarded | gi_step | gi_upon | gi_back)
                exact ⟨(KOW.out.trans (KeepsOthers.setCell _ _ _)), VKB.out.trans (KeepB.grown (s12 _).2 VF.out.2.2.2.2.2.1.lt (fun e => by injection e with e; have := GE.out; omega)), ⟨⟨_, (s12 _).1⟩, ⟨_, VZ.out.grown (s12 _).2 (fun e => by injection e with e; omega), next_hd hpre.out VO.out rfl⟩, (VF.out.grown (s12 _).2 (fun g e => by injection e with e; subst e; exact ⟨by have := GE.out; omega, by have := GE.out; omega, by have := GE.out; omega, by have := GE.out; omega, by have := GE.out; omega, by have := GE.out; omega, by have := GE.out; omega⟩))⟩, (VW.out.grown (s12 _).2 VW.out.size (fun k e => by injection e with e; have := GE.out; omega))⟩
            · have e1 : (((j + 1 : Nat) : Int) - 1) = (j : Int) := by omega
              rw [e1] at cz VZ HME
              have hge : (0 : Int) ≤ (j : Int) := by omega
              have dge := decide_eq_true hge
              have hjm : (j : Int) ≤ maxI := by unfold maxI; omega
              have HJM := Lib.hid hjm
              have hj1 : IntKind.i64.wrap ((j : Int) - 1) = (j : Int) - 1 := by rw [IntKind.wrap_i64]; omega
              have HJ1 := Lib.hid hj1
              clear e1 hjm hj1
              repeat (first | go_values | gi_guarded | gi_step | gi_upon | gi_back)
              refine ⟨trivial, (CallsIn.inRound l (callsIn_wide.2 (rbit_any _ n j wr VF.out.2.2.2.2.2.2.1 HSn.out HJM.out))).mono ?_⟩
              rintro e W5 ⟨rfl, rfl⟩
              by_cases hbj : bitN n j = true
              · rw [tI_set hbj]
                try dsimp only
                have VO2 : Hid (onesU n i = j :: onesU n j) := Lib.hid (by rw [← VO.out, onesU, if_pos hbj])
                clear hbj
                have ck := VK.out.cell
                have fk := VK.out.frozen
                have ct := VF.out.2.2.2.2.1.cell
                have c5 := VF.out.1.cell
                have s12 := fun u : Value => VK.out.set u
                have ht1 : ∀ u : Value, (wr.setCell ⟨b12, 0, none⟩ u).cell? ⟨Bt, 0, none⟩ = some (.int .i64 0) := fun u => (VF.out.2.2.2.2.1.grown (s12 u).2 (fun e => by injection e with e; have := GE.out; omega)).cell
                have hk1 : ∀ u : Value, (wr.setCell ⟨b12, 0, none⟩ u).cell? ⟨b12, 0, none⟩ = some u := fun u => (s12 u).1.cell
                have h51 : ∀ u : Value, (wr.setCell ⟨b12, 0, none⟩ u).cell? ⟨w.heap.size, 0, none⟩ = some (.int .i64 many) := fun u => (VF.out.1.grown (s12 u).2 (fun e => by injection e with e; have := GE.out; omega)).cell
                obtain ⟨zk2, hzk2⟩ : ∃ z, IntKind.i64.wrap (zk + 1) = z := ⟨_, rfl⟩
                clear cz fz c8
                by_cases hbr : many ≤ zk2
                · have dbr := decide_eq_true hbr
                  repeat (first | go_values | gi_guarded | gi_step | gi_upon | gi_back)
                  exact ⟨(KOW.out.trans (KeepsOthers.setCell _ _ _)), .inr ⟨rfl, (VF.out.grown (s12 _).2 (fun g e => by injection e with e; subst e; exact ⟨by have := GE.out; omega, by have := GE.out; omega, by have := GE.out; omega, by have := GE.out; omega, by have := GE.out; omega, by have := GE.out; omega, by have := GE.out; omega⟩))⟩, (VW.out.grown (s12 _).2 VW.out.size (fun k e => by injection e with e; have := GE.out; omega))⟩
                · have dbr := decide_eq_false hbr
                  repeat (first | go_values | gi_guarded | gi_step | gi_upon | gi_back)
                  exact ⟨(KOW.out.trans (KeepsOthers.setCell _ _ _)), VKB.out.trans (KeepB.grown (s12 _).2 VF.out.2.2.2.2.2.1.lt (fun e => by injection e with e; have := GE.out; omega)), ⟨⟨_, (s12 _).1⟩, ⟨_, VZ.out.grown (s12 _).2 (fun e => by injection e with e; omega), next_hd hpre.out rfl (by rw [VO2.out]; rfl)⟩, (VF.out.grown (s12 _).2 (fun g e => by injection e with e; subst e; exact ⟨by have := GE.out; omega, by have := GE.out; omega, by have := GE.out; omega, by have := GE.out; omega, by have := GE.out; omega, by have := GE.out; omega, by have := GE.out; omega⟩))⟩, (VW.out.grown (s12 _).2 VW.out.size (fun k e => by injection e with e; have := GE.out; omega))⟩
              · rw [tI_clear hbj]
                try dsimp only
                have VO2 : Hid (onesU n j = onesU n i) := Lib.hid (by rw [← VO.out, onesU, if_neg hbj])
                clear hbj
                have hs := VZ.out.set (.int .i64 ((j : Int) - 1))
                have hj1 := HJ1.out
                repeat (first | go_values | gi_guarded | gi_step | gi_upon | gi_back)
                go_roundw
                case rel => exact ⟨j, by omega, hs.1, VO2.out, grown_trans HGW.out hs.2, KO4.out.trans (KeepsOthers.setCell _ _ _)⟩
                case measure => rw [HME.out, cellI_eq hs.1]; omega
        · have NO : Hid (¬ pre2.map (·.1) <+: onesN n) := Lib.hid (by rw [hpre.out]; exact no_next YI.out hzi)
          have dz : ((i : Int) != z) = true := bne_iff_ne.2 hzi
          clear hzi
          repeat (first | go_values | gi_guarded | gi_step | gi_upon | gi_back)
          refine ⟨trivial, ?_⟩
          repeat (first | go_values | gi_guarded | gi_step | gi_upon | gi_back)
          refine ⟨trivial, ?_⟩
          repeat (first | go_values | gi_guarded | gi_step | gi_upon | gi_back)
          exact ⟨(KeepsOthers.setCell _ _ _), .inl ⟨rfl, NO.out⟩, (YW.out.setCell (p := ⟨w.heap.size + 1, 0, none⟩) (by simp) _)⟩
      case done =>
        rintro D ys W hD hS ⟨⟨-, ⟨z, hz, himp⟩, hc⟩, hBel⟩ hK
        simp only [Exit.inBlock, Exit.then]
        exact ⟨D, rfl, hD, hK, hc, hBel⟩
      case stop =>
        rintro D c pre W hD hpre ⟨h, hBel⟩ hK
        rcases h with ⟨-, hno⟩ | ⟨rfl, hc⟩
        · exact absurd hpre hno
        · refine wpIn_exit ?_
          simp only [Exit.inBlock, Exit.then, ↓reduceIte]
          exact ⟨D, rfl, hD, hK, hc, hBel⟩
    case rest =>
      rintro D0 y0 ⟨hD0, hK0, hF, hBel⟩
      have hct := hF.2.2.2.2.1.cell
      go_wp2_with fail
      rw [rounds_succ]
      have hDL0 : w.heap.size ≤ D0 := Nat.le_trans W_t0.out.size hD0
      have DL0 := Lib.hid hDL0
      clear hD0 hDL0 K12 K13 GE S12 S13 F_t0 W_t0
      have T5 := Lib.hid (OneAt.new y0 (.int .i64 1) 3)
      have F5 : Hid (Fx (y0.alloc (.cells #[.int .i64 1] 3)) (w.heap.size) (w.heap.size + 1) B7 B8 y0.heap.size Bn B7 many 1 n sv) := Lib.hid ⟨hF.1.alloc _, hF.2.1.alloc _, hF.2.2.1.alloc _, hF.2.2.2.1.alloc _, T5.out, hF.2.2.2.2.2.1.alloc _, ⟨Lst.below hF.2.2.2.2.2.2.1 ((Below.refl _ _).alloc (Nat.le_refl _) _), hF.2.2.2.2.2.2.2⟩⟩
      have W5 := Lib.hid (hBel.alloc hBel.size (.cells #[.int .i64 1] 3))
      have MD0 : Hid ((y0.alloc (.cells #[.int .i64 1] 3)).heap[D0]? = some (.deferred (some []))) := Lib.hid ((((Below.refl y0.heap.size y0).alloc (Nat.le_refl _) (.cells #[.int .i64 1] 3)).block _ (Array.getElem?_eq_some_iff.1 hK0).1).trans hK0)
      clear T5 hF hBel hct hK0
      generalize y0.alloc (.cells #[.int .i64 1] 3) = w5 at *
      generalize y0.heap.size = Bt5 at *
      have hc8 := F5.out.2.2.2.1.cell
      have hct := F5.out.2.2.2.2.1.cell
      go_wp2_with fail
      refine (rbitLen_any _ n _ F5.out.2.2.2.2.2.2.1 HSn.out).mono ?_
      rintro e x9 ⟨rfl, rfl⟩
      go_upto_block 2 with fail
      clear hc8 hct
      obtain ⟨h12, h13, hbx⟩ := box2 w5 (.int .i64 0) (.int .i64 ((bl n : Int) - 1)) 3 3
      have F_t1 := Lib.hid (F5.out.below hbx)
      have W_t1 := Lib.hid (W5.out.trans (hbx.mono W5.out.size))
      have K12 := Lib.hid h12
      have K13 := Lib.hid h13
      have MD0_t1 : Hid (((w5.alloc (.cells #[.int .i64 0] 3)).alloc (.cells #[.int .i64 ((bl n : Int) - 1)] 3)).heap[D0]? = some (.deferred (some []))) := Lib.hid ((hbx.block _ (Array.getElem?_eq_some_iff.1 MD0.out).1).trans MD0.out)
      have LT_MD0_t1 : Hid (D0 < ((w5.alloc (.cells #[.int .i64 0] 3)).alloc (.cells #[.int .i64 ((bl n : Int) - 1)] 3)).heap.size) := Lib.hid (Nat.lt_of_lt_of_le (Array.getElem?_eq_some_iff.1 MD0.out).1 hbx.size)
      have GE : Hid (w.heap.size + 1 < w5.heap.size ∧ B7 < w5.heap.size ∧ B8 < w5.heap.size ∧ Bt5 < w5.heap.size ∧ Bn < w5.heap.size) := Lib.hid ⟨F5.out.2.1.lt, F5.out.2.2.1.lt, F5.out.2.2.2.1.lt, F5.out.2.2.2.2.1.lt, F5.out.2.2.2.2.2.1.lt⟩
      have S12 := Lib.hid h12.lt
      have S13 := Lib.hid h13.lt
      clear h12 h13 hbx F5 W5 MD0
      generalize (w5.alloc (.cells #[.int .i64 0] 3)).alloc (.cells #[.int .i64 ((bl n : Int) - 1)] 3) = x1 at *
      generalize w5.heap.size = b12 at *
      refine wp_cut_marks (fun D w' => x1.heap.size ≤ D ∧ w'.heap[D]? = some (.deferred (some [])) ∧ Fx w' (w.heap.size) (w.heap.size + 1) B7 B8 Bt5 Bn B7 many 1 n sv ∧ w'.heap[D0]? = some (.deferred (some [])) ∧ OneAt w' (b12 + 1) (.int .i64 (-1)) ∧ Below w.heap.size w w') ?rest ?first
      case first =>
        refine (wpIn_wide (n := 8)).1 ?_
        refine wpIn_block ?_
        refine wpIn_rangeFunc_own1 (F := Fence.wide) (q := 64) (k := 14) (enc := fun x : Bits n => .int .i64 (x.1 : Int)) rfl (by decide) (gf := 52) (lb := #[.pointer (some ⟨Bn, 0, none⟩)]) rfl trivial (enters_of Try.func52 (by kernel_rfl) rfl)
          (ones1_stops n 7 Bn x1 HFn.out F_t1.out.2.2.2.2.2.1) KeepB.trans (keepB_put F_t1.out.2.2.2.2.2.1.lt) (Below.refl _ _)
          (fun (pre : List (Bits n)) (W : World) => ((∃ zk : Int, OneAt W b12 (.int .i64 zk)) ∧ (∃ z : Int, OneAt W (b12 + 1) (.int .i64 z) ∧ ∀ l, pre.map (fun x : Bits n => x.1) ++ l = onesN n → z = hdI l) ∧ Fx W (w.heap.size) (w.heap.size + 1) B7 B8 Bt5 Bn B7 many 1 n sv) ∧ W.heap[D0]? = some (.deferred (some [])) ∧ Below w.heap.size w W)
          (fun (c : Code) (pre : List (Bits n)) (W : World) => ((c = .ret ∧ ¬ pre.map (fun x : Bits n => x.1) <+: onesN n)) ∧ W.heap[D0]? = some (.deferred (some [])) ∧ Below w.heap.size w W)
          (OwnFrom.and (fun st A B row hs0 hg hr => by
            obtain ⟨⟨zk, hk⟩, ⟨z, hz, himp⟩, hs⟩ := hs0
            exact ⟨⟨zk, hk.grown hg (fun e => by have := (hr _ e.symm).1; have := S12.out; omega)⟩, ⟨z, hz.grown hg (fun e => by have := (hr _ e.symm).1; have := S13.out; omega), himp⟩, (hs.grown hg (fun g e => by have := (hr g e).1; have := GE.out; have := S12.out; omega))⟩) (OwnFrom.and (ownFrom_mark LT_MD0_t1.out) (ownFrom_below (Nat.le_refl _) W_t1.out.size)))
          (fun c => OwnFrom.and (fun (st : List (Bits n)) A B row hs0 hg hr => hs0) (OwnFrom.and (ownFrom_mark LT_MD0_t1.out) (ownFrom_below (Nat.le_refl _) W_t1.out.size)))
          ⟨⟨⟨0, K12.out⟩, ⟨_, K13.out, fun l hl => by rw [List.map_nil, List.nil_append] at hl; rw [hl, hd_ones]⟩, F_t1.out⟩, MD0_t1.out, W_t1.out⟩ ?assign ?body ?done ?stop
        case assign =>
          intro l x W K hK
          simp only [List.setIfInBounds_toArray, List.set_cons_zero, List.set_cons_succ] at hK ⊢
          gi_wp2
          exact hK
        case body =>
          rintro l pre ⟨i, hib, hbit⟩ W ⟨⟨⟨zk, hk⟩, ⟨z, hz, himp⟩, hF⟩, hD0, hBel⟩ _
          simp only [List.setIfInBounds_toArray, List.set_cons_zero, List.set_cons_succ]
          have hpre : Hid ((pre ++ [(⟨i, hib, hbit⟩ : Bits n)]).map (·.1) = pre.map (·.1) ++ [i]) := Lib.hid (by simp)
          generalize pre ++ [(⟨i, hib, hbit⟩ : Bits n)] = pre2 at *
          have YK := Lib.hid hk
          have YZ := Lib.hid hz
          have YI := Lib.hid himp
          have YF := Lib.hid hF
          have YW := Lib.hid hBel
          have YB := Lib.hid hbit
          have YIB := Lib.hid hib
          have YD0 := Lib.hid hD0
          have cz := hz.cell
          have c6 := hF.2.1.cell
          have f6 := hF.2.1.frozen
          have c8 := hF.2.2.2.1.cell
          clear hk hz himp hF hBel hbit hib hD0
          by_cases hzi : (i : Int) = z
          · skip
            subst hzi
            have hiI : (i : Int) ≤ maxI := by unfold maxI; have := HBL.out; have := YIB.out; omega
            have HII := Lib.hid hiI
            have hi1 : IntKind.i64.wrap ((i : Int) - 1) = (i : Int) - 1 := by rw [IntKind.wrap_i64]; have := HBL.out; have := YIB.out; omega
            have HI1 := Lib.hid hi1
            clear hi1 hiI
            repeat (first | go_values | gi_guarded | gi_step | gi_upon | gi_back)
            refine ⟨trivial, (CallsIn.inRound l (callsIn_wide.2 (rbit_any _ n i W YF.out.2.2.2.2.2.2.1 HSn.out HII.out))).mono ?_⟩
            rintro e W2 ⟨rfl, rfl⟩
            rw [tI_set YB.out]
            try dsimp only
            repeat (first | (refine wplIn_ldN ntNat rfl rfl rfl YF.out.2.2.1 ?_) | (refine wplIn_ldN_g ntNat rfl rfl rfl YF.out.2.2.1 ?_) | go_values | gi_guarded | gi_step | gi_upon | gi_back)
            refine ⟨trivial, (CallsIn.inRound l (callsIn_wide.2 (bit_any n i W HFn.out))).mono ?_⟩
            rintro e W3 ⟨rfl, hb⟩
            rw [bitI_set YB.out]
            try dsimp only
            have ZK := Lib.hid (YK.out.below hb)
            have ZZ := Lib.hid (YZ.out.below hb)
            have ZF := Lib.hid (YF.out.below hb)
            have ZW := Lib.hid (YW.out.trans (hb.mono YW.out.size))
            have KO3 := Lib.hid (keeps_of_below hb)
            have KB3 := Lib.hid (KeepB.grown (grown_of_below hb) YF.out.2.2.2.2.2.1.lt (fun e => by cases e))
            clear hb cz c6 f6 c8 YK YZ YF YW
            have cz := ZZ.out.cell
            have fz := ZZ.out.frozen
            have hi1 := HI1.out
            repeat (first | go_values | gi_guarded | gi_step | gi_upon | gi_back)
            have hs0 := ZZ.out.set (.int .i64 ((i : Int) - 1))
            clear cz fz hi1
            gi_loopw [] (fun wr => ∃ j : Nat, j ≤ i ∧ OneAt wr (b12 + 1) (.int .i64 ((j : Int) - 1)) ∧ onesU n j = onesU n i ∧ W3.grownBy wr (some (b12 + 1)) ∧ KeepsOthers W3 wr) (fun wr => (cellI wr (b12 + 1) + 1).toNat)
            case atStart => exact ⟨i, Nat.le_refl _, hs0.1, rfl, hs0.2, KeepsOthers.setCell _ _ _⟩
            case round =>
              obtain ⟨j, hj, hz, ho, hgw, hko⟩ := hrel
              have VZ := Lib.hid hz
              have VO := Lib.hid ho
              have HGW := Lib.hid hgw
              have KOW := Lib.hid (KO3.out.trans hko)
              have KO4 := Lib.hid hko
              have VF := Lib.hid (ZF.out.grown hgw (fun g e => by injection e with e; subst e; exact ⟨by have := GE.out; omega, by have := GE.out; omega, by have := GE.out; omega, by have := GE.out; omega, by have := GE.out; omega, by have := GE.out; omega, by have := GE.out; omega⟩))
              have VK := Lib.hid (ZK.out.grown hgw (fun e => by injection e with e; omega))
              have VW := Lib.hid (ZW.out.grown hgw ZW.out.size (fun k e => by injection e with e; have := GE.out; omega))
              have VKB := Lib.hid (KB3.out.trans (KeepB.grown hgw ZF.out.2.2.2.2.2.1.lt (fun e => by injection e with e; have := GE.out; omega)))
              have hjI : (j : Int) ≤ 1024 := by have := HBL.out; have := YIB.out; omega
              have cz := hz.cell
              have fz := hz.frozen
              have c8 := VF.out.2.2.2.1.cell
              have hme := cellI_eq hz
              have HME := Lib.hid hme
              clear hs0 hz ho hgw hko hme
              rcases j with _ | j
              · have hge : ¬ (0 : Int) ≤ ((0 : Nat) : Int) - 1 := by omega
                have dge := decide_eq_false hge
                have e0 : (((0 : Nat) : Int) - 1) = -1 := rfl
                rw [e0] at cz VZ dge
                clear hge e0
                repeat (first | go_values | gi_guarded | gi_step | gi_upon | gi_back)
                refine ⟨trivial, ?_⟩
                have ck := VK.out.cell
                have fk := VK.out.frozen
                have ct := VF.out.2.2.2.2.1.cell
                have c5 := VF.out.1.cell
                have s12 := fun u : Value => VK.out.set u
                have ht1 : ∀ u : Value, (wr.setCell ⟨b12, 0, none⟩ u).cell? ⟨Bt5, 0, none⟩ = some (.int .i64 1) := fun u => (VF.out.2.2.2.2.1.grown (s12 u).2 (fun e => by injection e with e; have := GE.out; omega)).cell
                have hk1 : ∀ u : Value, (wr.setCell ⟨b12, 0, none⟩ u).cell? ⟨b12, 0, none⟩ = some u := fun u => (s12 u).1.cell
                have h51 : ∀ u : Value, (wr.setCell ⟨b12, 0, none⟩ u).cell? ⟨w.heap.size, 0, none⟩ = some (.int .i64 many) := fun u => (VF.out.1.grown (s12 u).2 (fun e => by injection e with e; have := GE.out; omega)).cell
                obtain ⟨zk2, hzk2⟩ : ∃ z, IntKind.i64.wrap (zk + 1) = z := ⟨_, rfl⟩
                clear cz fz c8
                repeat (first | go_values | gi_guarded | gi_step | gi_upon | gi_back)
                exact ⟨(KOW.out.trans (KeepsOthers.setCell _ _ _)), VKB.out.trans (KeepB.grown (s12 _).2 VF.out.2.2.2.2.2.1.lt (fun e => by injection e with e; have := GE.out; omega)), ⟨⟨_, (s12 _).1⟩, ⟨_, VZ.out.grown (s12 _).2 (fun e => by injection e with e; omega), next_hd hpre.out VO.out rfl⟩, (VF.out.grown (s12 _).2 (fun g e => by injection e with e; subst e; exact ⟨by have := GE.out; omega, by have := GE.out; omega, by have := GE.out; omega, by have := GE.out; omega, by have := GE.out; omega, by have := GE.out; omega, by have := GE.out; omega⟩))⟩, ((KOW.out.trans (KeepsOthers.setCell _ _ _))).same _ _ YD0.out rfl, (VW.out.grown (s12 _).2 VW.out.size (fun k e => by injection e with e; have := GE.out; omega))⟩
              · have e1 : (((j + 1 : Nat) : Int) - 1) = (j : Int) := by omega
                rw [e1] at cz VZ HME
                have hge : (0 : Int) ≤ (j : Int) := by omega
                have dge := decide_eq_true hge
                have hjm : (j : Int) ≤ maxI := by unfold maxI; omega
                have HJM := Lib.hid hjm
                have hj1 : IntKind.i64.wrap ((j : Int) - 1) = (j : Int) - 1 := by rw [IntKind.wrap_i64]; omega
                have HJ1 := Lib.hid hj1
                clear e1 hjm hj1
                repeat (first | go_values | gi_guarded | gi_step | gi_upon | gi_back)
                refine ⟨trivial, (CallsIn.inRound l (callsIn_wide.2 (rbit_any _ n j wr VF.out.2.2.2.2.2.2.1 HSn.out HJM.out))).mono ?_⟩
                rintro e W5 ⟨rfl, rfl⟩
                by_cases hbj : bitN n j = true
                · rw [tI_set hbj]
                  try dsimp only
                  have VO2 : Hid (onesU n i = j :: onesU n j) := Lib.hid (by rw [← VO.out, onesU, if_pos hbj])
                  clear hbj
                  have ck := VK.out.cell
                  have fk := VK.out.frozen
                  have ct := VF.out.2.2.2.2.1.cell
                  have c5 := VF.out.1.cell
                  have s12 := fun u : Value => VK.out.set u
                  have ht1 : ∀ u : Value, (wr.setCell ⟨b12, 0, none⟩ u).cell? ⟨Bt5, 0, none⟩ = some (.int .i64 1) := fun u => (VF.out.2.2.2.2.1.grown (s12 u).2 (fun e => by injection e with e; have := GE.out; omega)).cell
                  have hk1 : ∀ u : Value, (wr.setCell ⟨b12, 0, none⟩ u).cell? ⟨b12, 0, none⟩ = some u := fun u => (s12 u).1.cell
                  have h51 : ∀ u : Value, (wr.setCell ⟨b12, 0, none⟩ u).cell? ⟨w.heap.size, 0, none⟩ = some (.int .i64 many) := fun u => (VF.out.1.grown (s12 u).2 (fun e => by injection e with e; have := GE.out; omega)).cell
                  obtain ⟨zk2, hzk2⟩ : ∃ z, IntKind.i64.wrap (zk + 1) = z := ⟨_, rfl⟩
                  clear cz fz c8
                  repeat (first | go_values | gi_guarded | gi_step | gi_upon | gi_back)
                  exact ⟨(KOW.out.trans (KeepsOthers.setCell _ _ _)), VKB.out.trans (KeepB.grown (s12 _).2 VF.out.2.2.2.2.2.1.lt (fun e => by injection e with e; have := GE.out; omega)), ⟨⟨_, (s12 _).1⟩, ⟨_, VZ.out.grown (s12 _).2 (fun e => by injection e with e; omega), next_hd hpre.out rfl (by rw [VO2.out]; rfl)⟩, (VF.out.grown (s12 _).2 (fun g e => by injection e with e; subst e; exact ⟨by have := GE.out; omega, by have := GE.out; omega, by have := GE.out; omega, by have := GE.out; omega, by have := GE.out; omega, by have := GE.out; omega, by have := GE.out; omega⟩))⟩, ((KOW.out.trans (KeepsOthers.setCell _ _ _))).same _ _ YD0.out rfl, (VW.out.grown (s12 _).2 VW.out.size (fun k e => by injection e with e; have := GE.out; omega))⟩
                · rw [tI_clear hbj]
                  try dsimp only
                  have VO2 : Hid (onesU n j = onesU n i) := Lib.hid (by rw [← VO.out, onesU, if_neg hbj])
                  clear hbj
                  have hs := VZ.out.set (.int .i64 ((j : Int) - 1))
                  have hj1 := HJ1.out
                  repeat (first | go_values | gi_guarded | gi_step | gi_upon | gi_back)
                  go_roundw
                  case rel => exact ⟨j, by omega, hs.1, VO2.out, grown_trans HGW.out hs.2, KO4.out.trans (KeepsOthers.setCell _ _ _)⟩
                  case measure => rw [HME.out, cellI_eq hs.1]; omega
          · have NO : Hid (¬ pre2.map (·.1) <+: onesN n) := Lib.hid (by rw [hpre.out]; exact no_next YI.out hzi)
            have dz : ((i : Int) != z) = true := bne_iff_ne.2 hzi
            clear hzi
            repeat (first | go_values | gi_guarded | gi_step | gi_upon | gi_back)
            refine ⟨trivial, ?_⟩
            repeat (first | go_values | gi_guarded | gi_step | gi_upon | gi_back)
            refine ⟨trivial, ?_⟩
            repeat (first | go_values | gi_guarded | gi_step | gi_upon | gi_back)
            exact ⟨(KeepsOthers.setCell _ _ _), ⟨rfl, NO.out⟩, ((KeepsOthers.setCell _ _ _)).same _ _ YD0.out rfl, (YW.out.setCell (p := ⟨w.heap.size + 1, 0, none⟩) (by simp) _)⟩
        case done =>
          rintro D ys W hD hS ⟨⟨-, ⟨z, hz, himp⟩, hc⟩, hD0, hBel⟩ hK
          simp only [Exit.inBlock, Exit.then]
          have hz1 : z = -1 := himp [] (by rw [List.append_nil]; exact hS)
          rw [hz1] at hz
          exact ⟨D, rfl, hD, hK, hc, hD0, hz, hBel⟩
        case stop =>
          rintro D c pre W hD hpre ⟨⟨-, hno⟩, hD0, hBel⟩ hK
          exact absurd hpre hno
      case rest =>
        rintro D1 y1 ⟨hD1, hK1, hF, hK0, hz, hBel⟩
        have DD : Hid (D0 < D1) := Lib.hid (Nat.lt_of_lt_of_le LT_MD0_t1.out hD1)
        have DL : Hid (w.heap.size ≤ D1) := Lib.hid (Nat.le_trans W_t1.out.size hD1)
        clear K12 K13 GE S12 S13 F_t1 W_t1 MD0_t1 LT_MD0_t1 hD1
        have hct := hF.2.2.2.2.1.cell
        have hcz := hz.cell
        go_wp2_with fail
        rw [rounds_succ]
        clear hcz hz
        have T6 := Lib.hid (OneAt.new y1 (.int .i64 2) 3)
        have F6 : Hid (Fx (y1.alloc (.cells #[.int .i64 2] 3)) (w.heap.size) (w.heap.size + 1) B7 B8 y1.heap.size Bn B7 many 2 n sv) := Lib.hid ⟨hF.1.alloc _, hF.2.1.alloc _, hF.2.2.1.alloc _, hF.2.2.2.1.alloc _, T6.out, hF.2.2.2.2.2.1.alloc _, ⟨Lst.below hF.2.2.2.2.2.2.1 ((Below.refl _ _).alloc (Nat.le_refl _) _), hF.2.2.2.2.2.2.2⟩⟩
        have W6 := Lib.hid (hBel.alloc hBel.size (.cells #[.int .i64 2] 3))
        have MD0 : Hid ((y1.alloc (.cells #[.int .i64 2] 3)).heap[D0]? = some (.deferred (some []))) := Lib.hid ((((Below.refl y1.heap.size y1).alloc (Nat.le_refl _) (.cells #[.int .i64 2] 3)).block _ (Array.getElem?_eq_some_iff.1 hK0).1).trans hK0)
        have MD1 : Hid ((y1.alloc (.cells #[.int .i64 2] 3)).heap[D1]? = some (.deferred (some []))) := Lib.hid ((((Below.refl y1.heap.size y1).alloc (Nat.le_refl _) (.cells #[.int .i64 2] 3)).block _ (Array.getElem?_eq_some_iff.1 hK1).1).trans hK1)
        clear T6 hF hBel hct hK0 hK1
        generalize y1.alloc (.cells #[.int .i64 2] 3) = w6 at *
        generalize y1.heap.size = Bt6 at *
        have hct := F6.out.2.2.2.2.1.cell
        go_wp2_with fail
        refine (known_any _).mono ?_
        rintro e p7 ⟨rfl, hb⟩
        have hC7 := F6.out.2.1.below hb
        have hcc := hC7.cell
        have hfc := hC7.frozen
        have W7 := Lib.hid (W6.out.trans (hb.mono W6.out.size))
        have hk0 := (hb.block _ (Array.getElem?_eq_some_iff.1 MD0.out).1).trans MD0.out
        have hk1 := (hb.block _ (Array.getElem?_eq_some_iff.1 MD1.out).1).trans MD1.out
        clear hb hct
        have HK0 := Lib.hid hk0
        have HK1 := Lib.hid hk1
        have HC7 := Lib.hid hC7
        clear hk0 hk1 hC7
        go_wp2_with fail
        obtain ⟨hs, hgr⟩ := HC7.out.set (.bool true)
        have hk1 := (KeepsOthers.setCell p7 ⟨w.heap.size + 1, 0, none⟩ (.bool true)).same D1 _ HK1.out rfl
        have hk0 := (KeepsOthers.setCell p7 ⟨w.heap.size + 1, 0, none⟩ (.bool true)).same D0 _ HK0.out rfl
        have W8 := W7.out.grown hgr W7.out.size (fun j e => by injection e with e; omega)
        generalize p7.setCell ⟨w.heap.size + 1, 0, none⟩ (.bool true) = p8 at *
        have g1 := grownBy_putObj' p8 D1 (.deferred none)
        have hk0' := (g1.block D0 (Array.getElem?_eq_some_iff.1 hk0).1 (fun e => by injection e with e; have := DD.out; omega)).trans hk0
        have g2 := grownBy_putObj' (p8.putObj D1 (.deferred none)) D0 (.deferred none)
        have n1 : some (w.heap.size + 1) ≠ some D1 := fun e => by injection e with e; subst e; obtain ⟨T, h⟩ := hs; rw [h] at hk1; cases hk1
        have n0 : some (w.heap.size + 1) ≠ some D0 := fun e => by injection e with e; subst e; obtain ⟨T, h⟩ := hs; rw [h] at hk0; cases hk0
        refine ⟨by simp, .inl ⟨_, _, rfl, run_takeDeferred hk1, ?_⟩⟩
        refine ⟨by simp, .inl ⟨_, _, rfl, run_takeDeferred hk0', ?_⟩⟩
        exact ⟨_, results_nb rfl ((hs.grown g1 n1).grown g2 n0), rfl, (W8.trans (belowK_b (w := w) (Nat.le_refl _) p8 D1 _ _ DL.out hk1 rfl rfl)).trans (belowK_b (w := w) (Nat.le_refl _) _ D0 _ _ DL0.out hk0' rfl rfl)⟩
end Go.Proofs.Ytomiapceefbmeaa
