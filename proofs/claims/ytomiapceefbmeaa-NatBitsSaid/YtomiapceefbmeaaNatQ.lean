/- A region without calls that draws, inside a fence. No program here. · Walk: Ones and the function that it returns: a range over a function. · Walks: Ones, ShiftLeft, ShiftRight. · Plain: bits put in one by one. -/
import Derived.OrdersIn
import Derived.TacticsIn
import Derived.StillTail
import Derived.StillTailTactics
import Derived.RangeFuncNested
import Derived.RangeFuncBound
import Derived.RangeFuncCalls
import Derived.RangeFuncLeaves
import Derived.Shelf.Abstract
import Derived.Shelf.RegionOpen
import Derived.WalkKit
import Derived.OwnWalkIn
import Derived.TacticsInMore
import Derived.LoopNIn
import Derived.LoopIn
import Derived.Test.YtomiapceefbmeaaNatN
import Derived.RangeFuncFrom
set_option linter.unusedVariables false
namespace Go.Proofs.Ytomiapceefbmeaa

section
variable {P : Program} {ops : Array Oper} {md : Region.Mode} {Q : Exit → Act → World → Prop} {F : Fence} {r : Nat} {w : World}

/-- An operation that is no call, no defer, no panic. -/
def plainOp (o : Oper) : Bool := match o.op with
  | .move _ | .assign _ | .binOp .. | .load .. | .fieldAddr .. | .indexAddr .. | .convert .. | .index .. => true
  | _ => false

theorem plain_value {o : Oper} (h : plainOp o = true) (ρ : Operand → Value) (w : World) : (∃ v w', (execOp ρ o).run P w = .ok (.value v) w') ∨ ∃ h w', (execOp ρ o).run P w = .halt h w' := by
  have key : ∀ s : Sem Value, (∃ v w', (s >>= fun v => pure (Next.value v)).run P w = .ok (.value v) w') ∨ ∃ h w', (s >>= fun v => pure (Next.value v)).run P w = .halt h w' := by
    intro s
    rw [Sem.run_bind]
    cases s.run P w with
    | ok v w' => exact .inl ⟨v, w', rfl⟩
    | halt x w' => exact .inr ⟨x, w', rfl⟩
  unfold plainOp at h
  unfold execOp
  cases ho : o.op <;> rw [ho] at h <;> first | (simp at h; done) | exact .inl ⟨_, w, rfl⟩ | exact key _
theorem plain_about {o : Oper} (h : plainOp o = true) (ρ : Operand → Value) (w : World) : o.about P w ρ = none := by
  unfold plainOp at h
  unfold Oper.about
  cases ho : o.op <;> rw [ho] at h <;> first | rfl | (simp at h; done)
theorem plain_semAt {o : Oper} (h : plainOp o = true) (ro : Option Nat) (ρ : Operand → Value) : o.semAt ro ρ = execOp ρ o :=
  Oper.semAt_eq ro ρ o fun c hc => by unfold plainOp at h; rw [hc] at h; cases h

theorem wpIn_of_still {o : Oper} {a : Act} {K : Act → Prop} {K' : Act → World → Prop} (hp : plainOp o = true) (h : ∀ a, K a → K' a w) (hh : o.still P a w K) : o.wpIn F r P a w K' Q := by
  unfold Oper.still at hh
  unfold Oper.wpIn
  rw [plain_about hp, plain_semAt hp]
  refine ⟨fun f hf => (by cases hf), ?_⟩
  rcases plain_value (P := P) hp a.eval w with ⟨v, w', e⟩ | ⟨x, w', e⟩
  · rw [e] at hh ⊢
    obtain ⟨rfl, hK⟩ := hh
    exact h _ hK
  · rw [e] at hh
    exact hh.elim

theorem wpOpIn_of_stOp {i : Nat} {a : Act} {K : Act → Prop} {K' : Act → World → Prop} (hpi : ∀ o, ops[i]? = some o → plainOp o = true) (h : ∀ a, K a → K' a w) (hh : stOp P ops w i K a) : wpOpIn F r P ops Q i K' a w := by
  unfold stOp at hh
  unfold wpOpIn
  split
  · rename_i ho; simp only [ho] at hh; exact h _ hh
  · rename_i o ho
    simp only [ho] at hh
    split
    · rename_i hw; simp only [hw, if_true] at hh; exact wpIn_of_still (hpi o ho) h hh
    · rename_i hw; simp only [hw] at hh; exact ⟨fun f hf => (by rw [plain_about (hpi o ho)] at hf; cases hf), h _ hh⟩

theorem wpAnyIn_of_head {n g : Nat} {L : Array Bool → Act → Prop} (hpl : ∀ i o, i < n → ops[i]? = some o → plainOp o = true) (hL : ∀ listed a, L listed a → wpAnyIn F r P md ops Q g listed a w) :
    ∀ (f : Nat) (listed : Array Bool) (a : Act), wpAnyL P md ops w n L f listed a → wpAnyIn F r P md ops Q (f + g) listed a w
  | 0, listed, a, h => by rw [Nat.zero_add]; exact hL _ _ h
  | f + 1, listed, a, h => by
    rw [show f + 1 + g = (f + g) + 1 by omega]
    exact ⟨fun h0 => absurd h0 h.1, fun i hi => wpOpIn_of_stOp (fun o ho => hpl i o (h.2 i hi).1 ho) (fun a' h' => wpAnyIn_of_head hpl hL f _ a' h') (h.2 i hi).2⟩

theorem wpAnyIn_of_seq : ∀ (l : List Oper) (k : Nat) (listed : Array Bool) (a : Act) (w : World), (∀ j, l[j]? = ops[k + j]?) →
    Region.seqB md ops l.length k listed = true → wpListIn F r P ops Q l a w → wpAnyIn F r P md ops Q l.length listed a w
  | [], _, _, _, _, _, hB, h => ⟨by simpa [Region.seqB] using hB, h⟩
  | o :: l, k, listed, a, w, hl, hB, h => by
    have h0 : ops[k]? = some o := by simpa using (hl 0).symm
    simp only [List.length_cons, Region.seqB, Bool.and_eq_true, decide_eq_true_eq] at hB
    refine ⟨fun h1 => (by rw [hB.1] at h1; cases h1), fun i hi => ?_⟩
    rw [hB.1] at hi
    have hik : i = k := by simpa using hi
    subst hik
    have hw : wpOpIn F r P ops Q i (wpListIn F r P ops Q l) a w := by unfold wpOpIn; simp only [h0]; exact h
    exact wpOpIn_mono (fun a' w' h' => wpAnyIn_of_seq l (i + 1) _ a' w' (fun j => by have := hl (j + 1); simpa [Nat.add_assoc, Nat.add_comm 1 j] using this) hB.2 h') hw

/-- A region that draws; its head only reads and calls nothing; its tail has one order. -/
theorem wpIn_region_still_tail {id : Nat} {a : Act} {l : List Oper} (n : Nat) (hm : P.follows .mixedOrders = true) (hB : Region.lexTailB .any l.toArray n = true) (hpl : (l.take n).all plainOp = true)
    (h : wpStill P l.toArray { w with drawn := w.drawn + 1 } (fun a' => wpListIn F r P l.toArray Q (l.drop n) a' { w with drawn := w.drawn + 1 }) (l.take n) a) : (Code.region id l.toArray true).wpIn F r P Q a w := by
  simp only [Region.lexTailB, Bool.and_eq_true, decide_eq_true_eq] at hB
  obtain ⟨⟨⟨⟨hsel, hn⟩, hs⟩, hc⟩, hlex⟩ := hB
  have hn' : n < l.length := by simpa using hn
  have htl : (l.take n).length = n := by simp; omega
  have hdl : (l.drop n).length = l.toArray.size - n := by simp
  have inv0 : HeadInv .any l.toArray n (Array.replicate l.toArray.size false) :=
    ⟨by simp, fun j oj _ hl => (by rw [getD_replicate_false] at hl; cases hl), fun t _ ht => getD_in (by simpa using ht) (getD_replicate_false _ _)⟩
  have H := wpAnyL_lex (md := .any) (g := l.toArray.size - n) hsel hs hc hn (l.take n) 0 _ a (fun j hj => by
    have hj' : j < n := by rw [htl] at hj; exact hj
    simp [hj']) (by simpa using htl) inv0 (by rw [htl]; exact hlex) h
  refine wpIn_region_any hm ?_
  have := wpAnyIn_of_head (F := F) (r := r) (Q := Q) (g := l.toArray.size - n) (fun i o hi ho => by
    have h1 := List.all_eq_true.1 hpl o
    refine h1 ?_
    have h2 : l[i]? = some o := by simpa using ho
    exact List.mem_of_getElem? (i := i) (by rw [List.getElem?_take, if_pos hi]; exact h2)) (fun listed a' hL => by
    have := wpAnyIn_of_seq (F := F) (r := r) (md := .any) (Q := Q) (l.drop n) n listed a' { w with drawn := w.drawn + 1 } (fun j => by simp [List.getElem?_drop]) (by rw [hdl]; exact hL.1) hL.2
    rwa [hdl] at this) _ _ _ H
  rw [htl, show n + (l.toArray.size - n) = l.toArray.size by omega] at this
  exact this
end

end Go.Proofs.Ytomiapceefbmeaa

set_option linter.unusedVariables false
set_option linter.unusedSimpArgs false
set_option maxRecDepth 20000
namespace Go.Proofs.Ytomiapceefbmeaa
open Go.RowKit Go.Shelf
attribute [local go_sem] Oper.semAt_some

/-- The bits below k that are 1, from the top. -/
def onesU (a : Nat) : Nat → List Nat
  | 0 => []
  | k + 1 => if bitN a k then k :: onesU a k else onesU a k
/-- The bits that are 1, from the top. -/
def onesN (a : Nat) : List Nat := onesU a (bl a)
theorem onesU_length (a k : Nat) : (onesU a k).length ≤ k := by
  induction k with
  | zero => exact Nat.le_refl _
  | succ k ih =>
    unfold onesU
    split
    · rw [List.length_cons]; omega
    · omega

section
variable {P : Program} {w : World} {F : Fence} {r : Nat}
theorem wpIn_of_load {o : Oper} {a : Act} {K : Act → World → Prop} {Q : Exit → Act → World → Prop} {T : TypeId} {x : Operand} (ho : o.op = .load T x) (h : o.wp P a w K Q) : o.wpIn F r P a w K Q := by
  have hp : plainOp o = true := by unfold plainOp; rw [ho]
  unfold Oper.wpIn
  rw [plain_about hp, plain_semAt hp]
  refine ⟨fun f hf => (by cases hf), ?_⟩
  unfold Oper.wp at h
  rcases plain_value (P := P) hp a.eval w with ⟨v, w', e⟩ | ⟨x, w', e⟩
  · rw [e] at h ⊢; exact h
  · rw [e] at h ⊢
    cases x <;> first | exact h | exact h.elim
theorem wplIn_ldN {ops : Array Oper} {rest : List Oper} {o : Oper} {a : Act} {Q : Exit → Act → World → Prop} {T : TypeId} (hT : NT P T) (hgd : o.guard = none) {x : Operand} (ho : o.op = .load T x)
    {B n : Nat} (hx : a.eval x = .pointer (some ⟨B, 0, none⟩)) (h : NatAt w B n) (hk : wpListIn F r P ops Q rest (a.put o.dst (.agg (natA n))) w) : wpListIn F r P ops Q (o :: rest) a w := by
  obtain ⟨d, h1, h2, h3⟩ := hT
  exact wpListIn_plain hgd fun _ hK => wpIn_of_load ho (wp_load_mid T x ho B 0 hx (natL n) d h.range h1 h2 (by rw [natL_length]; exact h3) (hK _ _ hk))
end

theorem natAt_below {w w' : World} {B n N : Nat} (h : NatAt w B n) (hb : Below N w w') (hB : B < N) : NatAt w' B n := by
  obtain ⟨T, h⟩ := h
  exact ⟨T, by rw [hb.block B hB]; exact h⟩
/-- A block stays; none goes. -/
def KeepB (B : Nat) (W W' : World) : Prop := W'.heap[B]? = W.heap[B]? ∧ W.heap.size ≤ W'.heap.size
theorem NatAt.keepB {w w' : World} {B n : Nat} (h : NatAt w B n) (k : KeepB B w w') : NatAt w' B n := by
  obtain ⟨T, h⟩ := h
  exact ⟨T, by rw [k.1]; exact h⟩
theorem KeepB.trans {B : Nat} {a b c : World} (h : KeepB B a b) (k : KeepB B b c) : KeepB B a c := ⟨k.1.trans h.1, Nat.le_trans h.2 k.2⟩
theorem KeepB.refl (B : Nat) (w : World) : KeepB B w w := ⟨rfl, Nat.le_refl _⟩
theorem KeepB.grown {B : Nat} {w w' : World} {row : Option Nat} (hg : w.grownBy w' row) (hB : B < w.heap.size) (hr : row ≠ some B) : KeepB B w w' := ⟨hg.block B hB (fun e => hr e.symm), hg.size⟩
theorem keepB_put {w : World} {B : Nat} (hB : B < w.heap.size) : ∀ (W : World) (l : Nat) (o o' : Obj), w.heap.size ≤ l → W.heap[l]? = some o → o.isCells = false → o.isWalk = false → KeepB B W (W.putObj l o') := by
  intro W l o o' hl ho _ _
  have hg : W.grownBy (W.putObj l o') (some l) := grownBy_putObj' W l o'
  have hlt : l < W.heap.size := (Array.getElem?_eq_some_iff.1 ho).1
  exact ⟨hg.block B (by omega) (fun e => by injection e with e; omega), hg.size⟩
theorem grown_of_below {w w' : World} (h : Below w.heap.size w w') : w.grownBy w' none := ⟨h.os, h.tape, h.output, h.size, fun k hk _ => h.block k hk⟩

/-- A bit of a number. -/
abbrev Bits (a : Nat) := { i : Nat // i < bl a ∧ bitN a i = true }
def encB {a : Nat} (x : Bits a) : Array Value := #[.int .i64 (x.1 : Int)]

set_option maxHeartbeats 3200000 in
theorem ones1_stops (a n Bn : Nat) (w : World) (ha : Fit a) (hA : NatAt w Bn a) :
    SeqStopsK Fence.wide n Try.prog 52 #[.pointer (some ⟨Bn, 0, none⟩)] (@encB a) (KeepB Bn) (fun xs => xs.map (·.1) = onesN a) (fun xs => xs.map (·.1) <+: onesN a) (bl a) w := by
  intro l J Jx W hW hJ hJx hY h0
  have HF := Lib.hid ha
  have HA := Lib.hid (hA.below hW)
  clear ha hA
  refine callsIn_of_wp Try.func52 rfl trivial ?_ rfl
  simp only [Try.ntmps52, List.size_toArray, List.length_cons, List.length_nil, Nat.reduceAdd, Nat.reduceSub, Array.replicate_succ, Array.replicate_zero, List.push_toArray, List.append_toArray, List.nil_append, List.cons_append]
  gi_wp2_with (refine wplIn_ldN ntNat rfl rfl rfl HA.out ?_)
  refine ⟨trivial, fun h => (by cases h), ?_⟩
  refine (callsIn_wide.2 (bitLen_any a _ HF.out)).mono ?_
  rintro e w2 ⟨rfl, hb2⟩
  have hJ2 : J [] w2 := hJ _ _ _ none h0 (grown_of_below hb2) (fun r e => by cases e)
  have HA2 := Lib.hid (HA.out.below hb2)
  have hbl : (bl a : Int) ≤ 1024 := by have := bl_le (n := a) (k := 32 * 32) HF.out; omega
  have HJ2 := Lib.hid hJ2
  have HW2 := Lib.hid (hW.trans (hb2.mono hW.size))
  have HJ := Lib.hid hJ
  have HJx := Lib.hid hJx
  have HY := Lib.hid hY
  have HWS := Lib.hid (Nat.le_trans hW.size hb2.size)
  clear hJ2 h0 hb2 hW HA hJ hJx hY
  gi_wp2
  gi_loopw [3] (fun i wr => ∃ (k : Nat) (pre : List (Bits a)), k ≤ bl a ∧ i = .int .i64 ((k : Int) - 1) ∧ pre.map (·.1) ++ onesU a k = onesN a ∧ NatAt wr Bn a ∧ w.heap.size ≤ wr.heap.size ∧ J pre wr) (fun i _ => (intOf i + 1).toNat)
  case atStart => exact ⟨bl a, [], Nat.le_refl _, rfl, rfl, HA2.out, HW2.out.size, HJ2.out⟩
  case round =>
    obtain ⟨k, pre, hk, rfl, hp, hA4, hs4, hJ4⟩ := hrel
    rcases k with _ | k
    · have HP := Lib.hid hp
      have HJ4 := Lib.hid hJ4
      clear hp hJ4 hA4
      gi_wp2
      go_end0
      exact ⟨⟨_, rfl⟩, .inl ⟨pre, by have := HP.out; simpa [onesU] using this, HJ4.out⟩⟩
    · have e1 : (((k + 1 : Nat) : Int) - 1) = (k : Int) := by omega
      rw [e1]
      have HP := Lib.hid hp
      have HA4 := Lib.hid hA4
      have HJ4 := Lib.hid hJ4
      have HS4 := Lib.hid hs4
      clear hp hA4 hJ4 e1
      gi_wp2_with (refine wplIn_ldN ntNat rfl rfl rfl HA4.out ?_)
      refine ⟨trivial, fun h => (by cases h), ?_⟩
      refine (callsIn_wide.2 (bit_any a (k : Int) _ HF.out)).mono ?_
      rintro e w3 ⟨rfl, hb3⟩
      have HJ5 : Hid (J pre w3) := Lib.hid (HJ.out _ _ _ none HJ4.out (grown_of_below hb3) (fun r e => by cases e))
      have HA5 := Lib.hid (HA4.out.below hb3)
      have HS5 := Lib.hid (Nat.le_trans HS4.out hb3.size)
      clear hb3
      by_cases hbit : bitN a k = true
      · have hI : bitI a (k : Int) = true := by unfold bitI; rw [decide_eq_true (show (0 : Int) ≤ (k : Int) by omega)]; simpa using hbit
        rw [hI]
        obtain ⟨x, hx⟩ : ∃ x : Bits a, x.1 = k := ⟨⟨k, by omega, hbit⟩, rfl⟩
        have hlen : pre.length < bl a := by
          have h1 := congrArg List.length HP.out
          have h2 := onesU_length a (bl a)
          have h3 : 0 < (onesU a (k + 1)).length := by
            unfold onesU
            rw [if_pos hbit]
            simp
          simp only [List.length_append, List.length_map, onesN] at h1
          omega
        obtain ⟨fn, tmps, assign, body, hy, hR⟩ := HY.out pre x w3 HJ5.out hlen
        dsimp only [encB] at hy
        rw [hx] at hy
        have HX := Lib.hid hx
        have HBT := Lib.hid hbit
        clear hI hbit hx hlen
        gi_wp2
        refine ⟨fun h => (by cases h), hR.mono ?_⟩
        rintro e W' (⟨rfl, hJ', hk'⟩ | ⟨rfl, hJx'⟩)
        · have HJ' := Lib.hid hJ'
          have HK' := Lib.hid hk'
          clear hJ' hk' hR hy
          gi_wp2
          go_roundw
          case rel =>
            refine ⟨k, pre ++ [x], by omega, by go_num, ?_, HA5.out.keepB HK'.out, Nat.le_trans HS5.out HK'.out.2, HJ'.out⟩
            have h1 := HP.out
            unfold onesU at h1
            rw [if_pos HBT.out] at h1
            rw [List.map_append, ← h1, List.append_assoc]
            simp [HX.out]
          case measure => simp [intOf]
        · have HJx' := Lib.hid hJx'
          clear hJx' hR hy
          gi_wp2
          refine bodyPost_ret (results_none rfl _ _ _) rfl ?_
          refine ⟨⟨_, rfl⟩, .inr ⟨pre ++ [x], ⟨onesU a k, ?_⟩, HJx'.out⟩⟩
          have h1 := HP.out
          unfold onesU at h1
          rw [if_pos HBT.out] at h1
          rw [List.map_append, ← h1, List.append_assoc]
          simp [HX.out]
      · have hI : bitI a (k : Int) = false := by unfold bitI; rw [decide_eq_true (show (0 : Int) ≤ (k : Int) by omega)]; simpa using hbit
        rw [hI]
        have HBT := Lib.hid hbit
        clear hI hbit
        gi_wp2
        refine ⟨fun _ h => (by cases h), ?_⟩
        gi_wp2
        go_roundw
        case rel =>
          refine ⟨k, pre, by omega, by go_num, ?_, HA5.out, HS5.out, HJ5.out⟩
          have h1 := HP.out
          unfold onesU at h1
          rw [if_neg HBT.out] at h1
          exact h1
        case measure => simp [intOf]

end Go.Proofs.Ytomiapceefbmeaa

set_option linter.unusedVariables false
set_option linter.unusedSimpArgs false
set_option maxRecDepth 20000
namespace Go.Proofs.Ytomiapceefbmeaa
open Go.RowKit Go.Shelf
attribute [local go_sem] Oper.semAt_some

set_option maxHeartbeats 1600000 in
theorem ones_any (a : Nat) (w : World) :
    Calls Try.prog 30 #[.agg (natA a)] w fun e w' => e = .returned (.func (.func 52) #[] #[.pointer (some ⟨w.heap.size, 0, none⟩)]) ∧ Below w.heap.size w w' ∧ NatAt w' w.heap.size a := by
  have HA : Hid (NatAt (w.alloc (.cells (natA a) 29)) (w.heap.size) (a)) := Lib.hid (by
    have h := NatAt.new w (a) 29
    simpa using h)
  have HW : Hid (Below w.heap.size w (w.alloc (.cells (natA a) 29))) := Lib.hid (by
    have h := Below.refl w.heap.size w
    replace h := h.alloc h.size (.cells (natA a) 29)
    exact h)
  go_enter Try.func30, Try.ntmps30
  go_wp2_with fail
  go_ret
  exact ⟨rfl, HW.out, HA.out⟩

end Go.Proofs.Ytomiapceefbmeaa

set_option linter.unusedVariables false
set_option linter.unusedSimpArgs false
set_option maxRecDepth 20000
namespace Go.Proofs.Ytomiapceefbmeaa
open Go.RowKit

theorem dig_or (n m i : Nat) : dig (n ||| m) i = dig n i ||| dig m i := by
  unfold dig
  rw [Nat.or_div_two_pow, Nat.or_mod_two_pow]
theorem dig_pow_same (p : Nat) : dig (2 ^ p) (p / 32) = 2 ^ (p % 32) := by
  rw [dig_eq, pow_parts p, Nat.mul_div_cancel_left _ (B32_pos _)]
  refine Nat.mod_eq_of_lt ?_
  exact Nat.pow_lt_pow_right (by decide) (show p % 32 < 32 * 1 by omega)
theorem dig_pow_other {p i : Nat} (h : i ≠ p / 32) : dig (2 ^ p) i = 0 := by
  rcases Nat.lt_or_ge i (p / 32) with h1 | h1
  · rw [dig_eq, show p = 32 * i + (32 * 1 + (p - 32 * i - 32)) from by omega, Nat.pow_add]
    show B32 i * _ / B32 i % B32 1 = 0
    rw [Nat.mul_div_cancel_left _ (B32_pos _), Nat.pow_add]
    exact Nat.mul_mod_right _ _
  · have h2 : 2 ^ p < B32 i := Nat.pow_lt_pow_right (by decide) (by omega)
    exact dig_high h2
/-- One bit more. -/
theorem NatAt.orb {w : World} {B n p : Nat} (h : NatAt w B n) (hp : p / 32 < 32) (v : Int) (hv : v = ((dig n (p / 32) ||| 2 ^ (p % 32) : Nat) : Int)) :
    NatAt (w.setCell ⟨B, p / 32, none⟩ (.int .u32 v)) B (n ||| 2 ^ p) ∧ w.grownBy (w.setCell ⟨B, p / 32, none⟩ (.int .u32 v)) (some B) := by
  refine h.setG hp (fun i hi hne => ?_) v ?_
  · rw [dig_or, dig_pow_other hne, Nat.or_zero]
  · rw [dig_or, dig_pow_same, hv]

theorem pow_or {x k : Nat} (h : x < 2 ^ k) : 2 ^ k ||| x = 2 ^ k + x := by
  have := Nat.two_pow_add_eq_or_of_lt h 1
  rw [Nat.mul_one] at this
  exact this.symm
theorem mod2_step (a k : Nat) : a % 2 ^ (k + 1) = (a / 2 ^ k % 2) * 2 ^ k + a % 2 ^ k := by
  rw [Nat.pow_succ, Nat.mod_mul, Nat.mul_comm, Nat.add_comm]
theorem bitN_iff {a k : Nat} : bitN a k = true ↔ a / 2 ^ k % 2 = 1 := by unfold bitN; exact decide_eq_true_iff
theorem mod_bit1 {a k : Nat} (h : bitN a k = true) : a % 2 ^ (k + 1) = 2 ^ k + a % 2 ^ k := by rw [mod2_step, bitN_iff.1 h, Nat.one_mul]
theorem mod_bit0 {a k : Nat} (h : ¬ bitN a k = true) : a % 2 ^ (k + 1) = a % 2 ^ k := by
  have h1 : a / 2 ^ k % 2 = 0 := by
    have h5 : ¬ a / 2 ^ k % 2 = 1 := fun h2 => h (bitN_iff.2 h2)
    have := Nat.mod_lt (a / 2 ^ k) (show 0 < 2 by decide)
    omega
  rw [mod2_step, h1, Nat.zero_mul, Nat.zero_add]

/-- The bits that have come, moved to the left. -/
def shlF (n : Nat) (l : List Nat) (V : Nat) : Nat := l.foldl (fun V x => V ||| 2 ^ (x + n)) V
theorem shl_ones (a n : Nat) : ∀ k V, shlF n (onesU a k) V = V ||| (a % 2 ^ k * 2 ^ n)
  | 0, V => by simp [shlF, onesU, Nat.mod_one]
  | k + 1, V => by
    unfold onesU
    split
    · rename_i hb
      show shlF n (onesU a k) (V ||| 2 ^ (k + n)) = _
      rw [shl_ones a n k, mod_bit1 hb, Nat.or_assoc, Nat.add_mul, ← Nat.pow_add]
      congr 1
      refine pow_or ?_
      rw [Nat.pow_add]
      exact Nat.mul_lt_mul_of_pos_right (Nat.mod_lt _ (Nat.two_pow_pos _)) (Nat.two_pow_pos _)
    · rename_i hb
      rw [shl_ones a n k, mod_bit0 hb]
/-- The bits that have come, moved to the right. -/
def shrF (n : Nat) (l : List Nat) (V : Nat) : Nat := l.foldl (fun V x => V ||| 2 ^ (x - n)) V
theorem shr_ones (a n : Nat) : ∀ k V, shrF n ((onesU a k).filter (fun x => decide (n ≤ x))) V = V ||| (a % 2 ^ k / 2 ^ n)
  | 0, V => by simp [shrF, onesU, Nat.mod_one]
  | k + 1, V => by
    unfold onesU
    by_cases hb : bitN a k = true
    · rw [if_pos hb, mod_bit1 hb]
      by_cases hn : n ≤ k
      · rw [List.filter_cons_of_pos (by simpa using hn)]
        show shrF n _ (V ||| 2 ^ (k - n)) = _
        rw [shr_ones a n k, Nat.or_assoc]
        congr 1
        obtain ⟨m, rfl⟩ : ∃ m, k = n + m := ⟨k - n, by omega⟩
        rw [Nat.add_sub_cancel_left, Nat.pow_add, Nat.mul_comm (2 ^ n), Nat.mul_comm (2 ^ m), Nat.mul_add_div (Nat.two_pow_pos _)]
        refine pow_or ?_
        rw [Nat.div_lt_iff_lt_mul (Nat.two_pow_pos _)]
        rw [Nat.mul_comm (2 ^ m)]
        exact Nat.mod_lt _ (Nat.mul_pos (Nat.two_pow_pos _) (Nat.two_pow_pos _))
      · rw [List.filter_cons_of_neg (by simpa using hn), shr_ones a n k]
        congr 1
        have h1 : 2 ^ (k + 1) ≤ 2 ^ n := Nat.pow_le_pow_right (by decide) (by omega)
        have h2 : a % 2 ^ k < 2 ^ k := Nat.mod_lt _ (Nat.two_pow_pos _)
        rw [Nat.pow_succ] at h1
        rw [Nat.div_eq_of_lt (by omega), Nat.div_eq_of_lt (by omega)]
    · rw [if_neg hb, mod_bit0 hb, shr_ones a n k]
theorem onesU_lt (a : Nat) : ∀ k x, x ∈ onesU a k → x < k
  | 0, x, h => by simp [onesU] at h
  | k + 1, x, h => by
    unfold onesU at h
    split at h
    · rcases List.mem_cons.1 h with rfl | h
      · omega
      · have := onesU_lt a k x h; omega
    · have := onesU_lt a k x h; omega
theorem onesU_sorted (a : Nat) : ∀ k, (onesU a k).Pairwise (fun x y => y < x)
  | 0 => by simp [onesU]
  | k + 1 => by
    unfold onesU
    split
    · exact List.pairwise_cons.2 ⟨fun y hy => onesU_lt a k y hy, onesU_sorted a k⟩
    · exact onesU_sorted a k

end Go.Proofs.Ytomiapceefbmeaa
