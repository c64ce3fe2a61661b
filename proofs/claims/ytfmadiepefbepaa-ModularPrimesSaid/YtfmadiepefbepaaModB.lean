/- Walk: the doubling closure of repeat; one-cell boxes (printed by genmodb.py). -/
import Derived.Test.YtfmadiepefbepaaModA
set_option linter.unusedVariables false
set_option linter.unusedSimpArgs false
set_option maxRecDepth 20000
namespace Go.Proofs.Ytfmadiepefbepaa
open Go.RowKit

/-- Block B is a box of one cell that holds v. -/
def OneAt (w : World) (B : Nat) (v : Value) : Prop := ∃ T, w.heap[B]? = some (.cells #[v] T (0, 0))
section
variable {w w' : World} {B : Nat} {u v : Value}
theorem OneAt.lt (h : OneAt w B v) : B < w.heap.size := let ⟨_, h⟩ := h; (Array.getElem?_eq_some_iff.1 h).1
theorem OneAt.cell (h : OneAt w B v) : w.cell? ⟨B, 0, none⟩ = some v := by
  obtain ⟨T, h⟩ := h
  rw [cell_of_row w B 0 _ _ (0, 0) h]
  rfl
theorem OneAt.frozen (h : OneAt w B v) : w.frozen? ⟨B, 0, none⟩ = false := let ⟨_, h⟩ := h; frozen_of_row w B 0 _ _ h
theorem OneAt.below (h : OneAt w B v) (hb : Below w.heap.size w w') : OneAt w' B v := by
  have hlt := h.lt
  obtain ⟨T, h⟩ := h
  exact ⟨T, by rw [hb.block B hlt]; exact h⟩
theorem OneAt.grown {row : Option Nat} (h : OneAt w B v) (hg : w.grownBy w' row) (hne : some B ≠ row) : OneAt w' B v := by
  have hlt := h.lt
  obtain ⟨T, h⟩ := h
  exact ⟨T, by rw [hg.block B hlt hne]; exact h⟩
theorem OneAt.new (w : World) (v : Value) (T : TypeId) : OneAt (w.alloc (.cells #[v] T)) w.heap.size v := ⟨T, heap_alloc_new w _⟩
theorem OneAt.alloc (h : OneAt w B v) (o : Obj) : OneAt (w.alloc o) B v := h.below ((Below.refl _ _).alloc (Nat.le_refl _) _)
theorem OneAt.set (h : OneAt w B v) (u : Value) : OneAt (w.setCell ⟨B, 0, none⟩ u) B u ∧ w.grownBy (w.setCell ⟨B, 0, none⟩ u) (some B) := by
  obtain ⟨T, h⟩ := h
  exact ⟨⟨T, heap_setCell_same w B 0 _ T u h⟩, grown_setCells B [u] 0 w⟩
end
theorem grown_of_below' {w w' : World} {row : Option Nat} (h : Below w.heap.size w w') : w.grownBy w' row := ⟨h.os, h.tape, h.output, h.size, fun k hk _ => h.block k hk⟩
theorem wp_stN {P : Program} {w : World} {o : Oper} {a : Act} {K : Act → World → Prop} {Q : Exit → Act → World → Prop} {T : TypeId} (hT : NT P T) {x y : Operand} (ho : o.op = .store T x y)
    {B n m : Nat} (hx : a.eval x = .pointer (some ⟨B, 0, none⟩)) (hy : a.eval y = .agg (natA m)) (h : NatAt w B n)
    (hk : ∀ w', NatAt w' B m → w.grownBy w' (some B) → K (a.put o.dst undef) w') : o.wp P a w K Q := by
  obtain ⟨d, h1, h2, h3⟩ := hT
  obtain ⟨g1, g2⟩ := setCells_nat m h
  refine wp_store_mid T x y ho B 0 (natA m) hx hy (by rw [natA_size]; exact h.there) (by rw [natA_size]; exact h3) (all_oneCell_toArray (natL_one m)) ?_
  exact hk _ g1 g2

/-- An operation on numbers g j that adds their j: as a function of the program with the modulus bound. -/
def OpG (K : FuncId) (m : Nat) (g : Nat → Nat) : Prop := ∀ (j k : Nat) (W : World), Calls Try.prog K #[.agg (natA m), .agg (natA (g j)), .agg (natA (g k))] W fun e W' => e = .returned (.agg (natA (g (j + k)))) ∧ Below W.heap.size W W'
def RetTw (w : World) (B n : Nat) (e : Ending) (w' : World) : Prop := (∃ v, e = .returned v) ∧ NatAt w' B n ∧ w.grownBy w' (some B)

set_option maxHeartbeats 1600000 in
theorem twice_any (K : FuncId) (hE : ∀ (args : Array Value) (W : World), (callFunc K args).run Try.prog W = .ok (.enter K args) W) (m : Nat) (g : Nat → Nat) (hF : OpG K m g) (n j bF bO : Nat) (w : World) (hn : (n : Int) ≤ 1024)
    (hC : OneAt w bF (.func (.func K) #[.agg (natA m)] #[])) (hO : NatAt w bO (g j)) (hne : bF ≠ bO) :
    Calls Try.prog 66 #[.int .i64 (n : Int), .pointer (some ⟨bF, 0, none⟩), .pointer (some ⟨bO, 0, none⟩)] w (RetTw w bO (g (j * 2 ^ n))) := by
  have HC := Lib.hid hC
  have HO := Lib.hid hO
  have HF := Lib.hid hF
  have HNE := Lib.hid hne
  have HN := Lib.hid hn
  clear hC hO hF hne hn
  go_enter Try.func66, Try.ntmps66
  go_wp2_with fail
  go_loopw [5] (fun i wr => ∃ k : Nat, k ≤ n ∧ i = .int .i64 (k : Int) ∧ NatAt wr bO (g (j * 2 ^ k)) ∧ w.grownBy wr (some bO)) (fun i _ => n - (intOf i).toNat)
  case atStart => exact ⟨0, Nat.zero_le _, rfl, by rw [Nat.pow_zero, Nat.mul_one]; exact HO.out, World.grownBy.refl _ _⟩
  case round =>
    obtain ⟨k, hk, rfl, ho, hg⟩ := hrel
    have H1 := Lib.hid ho
    have H2 := Lib.hid hg
    have H3 := Lib.hid (HC.out.grown hg (by have := HNE.out; simpa using this))
    clear ho hg
    by_cases hlt : k < n
    · have hk1 : (k : Int) < 1024 := by have := HN.out; omega
      have hc := H3.out.cell
      go_wp2_with (first | (refine wpl_ldN ntNat rfl rfl rfl H1.out ?_))
      refine (HF.out (j * 2 ^ k) (j * 2 ^ k) _).mono ?_
      rintro e w2 ⟨rfl, hb⟩
      have H4 := Lib.hid (H1.out.below hb)
      have H5 := Lib.hid (grown_trans H2.out (grown_of_below' hb))
      clear hb hc
      go_wp2_with (first | (refine wpl_stN ntNat rfl rfl rfl rfl H4.out ?_; intro w3 hn3 hg3; have H6 := Lib.hid hn3; have H7 := Lib.hid (grown_trans H5.out hg3); clear hn3 hg3 H4 H5))
      go_roundw
      case rel => exact ⟨k + 1, by omega, by go_num, by rw [Nat.pow_succ, ← Nat.mul_assoc, Nat.mul_two]; exact H6.out, H7.out⟩
      case measure => simp [intOf]; omega
    · obtain rfl : k = n := by omega
      go_wp2_with fail
      go_end0
      exact ⟨⟨_, rfl⟩, H1.out, H2.out⟩

theorem twice_neg (K : FuncId) (g : Nat → Nat) (z : Int) (j bF bO : Nat) (w : World) (hz : z < 0) (hO : NatAt w bO (g j)) :
    Calls Try.prog 66 #[.int .i64 z, .pointer (some ⟨bF, 0, none⟩), .pointer (some ⟨bO, 0, none⟩)] w (RetTw w bO (g j)) := by
  have HO := Lib.hid hO
  have d0 : ¬ 0 < z := by omega
  clear hO hz
  go_enter Try.func66, Try.ntmps66
  go_wp2_with fail
  go_loopw [5] (fun i wr => i = .int .i64 0 ∧ wr = w) (fun i _ => 0)
  case atStart => exact ⟨rfl, rfl⟩
  case round =>
    obtain ⟨rfl, rfl⟩ := hrel
    go_wp2_with fail
    go_end0
    exact ⟨⟨_, rfl⟩, HO.out, World.grownBy.refl _ _⟩
theorem twice_int (K : FuncId) (hE : ∀ (args : Array Value) (W : World), (callFunc K args).run Try.prog W = .ok (.enter K args) W) (m : Nat) (g : Nat → Nat) (hF : OpG K m g) (z : Int) (d j bF bO : Nat) (w : World) (hz : z ≤ 1024) (hd : z.toNat = d)
    (hC : OneAt w bF (.func (.func K) #[.agg (natA m)] #[])) (hO : NatAt w bO (g j)) (hne : bF ≠ bO) :
    Calls Try.prog 66 #[.int .i64 z, .pointer (some ⟨bF, 0, none⟩), .pointer (some ⟨bO, 0, none⟩)] w (RetTw w bO (g (j * 2 ^ d))) := by
  subst hd
  by_cases h : z < 0
  · rw [Int.toNat_of_nonpos (by omega), Nat.pow_zero, Nat.mul_one]
    exact twice_neg K g z j bF bO w h hO
  · obtain ⟨n, rfl⟩ := Int.eq_ofNat_of_zero_le (show 0 ≤ z by omega)
    rw [Int.toNat_natCast]
    exact twice_any K hE m g hF n j bF bO w hz hC hO hne

/-! A store inside a fence, or in a round. -/
section
variable {P : Program} {w : World} {F : Fence} {r : Nat}
theorem wpIn_of_store {o : Oper} {a : Act} {K : Act → World → Prop} {Q : Exit → Act → World → Prop} {T : TypeId} {x y : Operand} (ho : o.op = .store T x y) (h : o.wp P a w K Q) : o.wpIn F r P a w K Q := by
  have ha : o.about P w a.eval = none := by unfold Oper.about; rw [ho]
  have hs : ∀ ro, o.semAt ro a.eval = execOp a.eval o := fun ro => Oper.semAt_eq ro _ o fun c hc => by rw [ho] at hc; cases hc
  have key : ∀ s : Sem Unit, (∃ w', (s >>= fun _ => pure Next.skip).run P w = .ok .skip w') ∨ ∃ h w', (s >>= fun _ => pure Next.skip).run P w = .halt h w' := by
    intro s
    rw [Sem.run_bind]
    cases s.run P w with
    | ok v w' => exact .inl ⟨w', rfl⟩
    | halt x w' => exact .inr ⟨x, w', rfl⟩
  have hk : (∃ w', (execOp a.eval o).run P w = .ok .skip w') ∨ ∃ h w', (execOp a.eval o).run P w = .halt h w' := by
    unfold execOp
    rw [ho]
    exact key _
  unfold Oper.wpIn
  rw [ha, hs]
  refine ⟨fun f hf => (by cases hf), ?_⟩
  unfold Oper.wp at h
  rcases hk with ⟨w', e⟩ | ⟨x, w', e⟩
  · rw [e] at h ⊢; exact h
  · rw [e] at h ⊢
    cases x <;> first | exact h | exact h.elim
theorem wplIn_stN {ops : Array Oper} {rest : List Oper} {o : Oper} {a : Act} {Q : Exit → Act → World → Prop} {T : TypeId} (hT : NT P T) (hgd : o.guard = none) {x y : Operand} (ho : o.op = .store T x y)
    {B n m : Nat} (hx : a.eval x = .pointer (some ⟨B, 0, none⟩)) (hy : a.eval y = .agg (natA m)) (h : NatAt w B n)
    (hk : ∀ w', NatAt w' B m → w.grownBy w' (some B) → wpListIn F r P ops Q rest (a.put o.dst undef) w') : wpListIn F r P ops Q (o :: rest) a w :=
  wpListIn_plain hgd fun _ hK => wpIn_of_store ho (wp_stN hT ho hx hy h fun w' h1 h2 => hK _ _ (hk w' h1 h2))
end

end Go.Proofs.Ytfmadiepefbepaa
