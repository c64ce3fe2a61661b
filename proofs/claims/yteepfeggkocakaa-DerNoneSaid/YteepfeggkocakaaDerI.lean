/- Walks: read, its deferred closure, readers. -/
import Derived.Test.YteepfeggkocakaaDerH
import Derived.Recover
import Derived.Defers
set_option linter.unusedVariables false
set_option linter.unusedSimpArgs false
set_option maxRecDepth 20000
namespace Go.Proofs.Yteepfeggkocakaa
open Go.RowKit Der

theorem run_assert_errno (ev : Int) (W : World) : (Instr.typeAssert (.iface 37 (.int .i64 ev)) 20 37 true).run Try.prog W = .ok (.tuple #[.int .i64 ev, .bool true]) W := by
  simp [Instr.typeAssert, run_underlying Try.underlying37]

/-- Block g is a reader that exists: the bytes xs, at offset k. -/
def RdrAt (w : World) (g : Nat) (A : Option Addr) (c : Nat) (xs : List UInt8) (k : Nat) : Prop :=
  w.heap[g]? = some (.cells #[.slice A xs.length c, .int .i64 (k : Int), .bool true] 62 (0, 0)) ∧ Byt w (.slice A xs.length c) xs ∧ k ≤ xs.length ∧ xs.length ≤ lim ∧ (xs ≠ [] → (Value.slice A xs.length c).ownBlock ≠ some g)
section
variable {w w' : World} {g : Nat} {A : Option Addr} {c k : Nat} {xs : List UInt8}
theorem RdrAt.lt (h : RdrAt w g A c xs k) : g < w.heap.size := (Array.getElem?_eq_some_iff.1 h.1).1
theorem RdrAt.cell0 (h : RdrAt w g A c xs k) : w.cell? ⟨g, 0, none⟩ = some (.slice A xs.length c) := by rw [cell_of_row w g 0 _ _ (0, 0) h.1]; rfl
theorem RdrAt.cell1 (h : RdrAt w g A c xs k) : w.cell? ⟨g, 1, none⟩ = some (.int .i64 (k : Int)) := by rw [cell_of_row w g 1 _ _ (0, 0) h.1]; rfl
theorem RdrAt.cell2 (h : RdrAt w g A c xs k) : w.cell? ⟨g, 2, none⟩ = some (.bool true) := by rw [cell_of_row w g 2 _ _ (0, 0) h.1]; rfl
theorem RdrAt.frozen (h : RdrAt w g A c xs k) (j : Nat) : w.frozen? ⟨g, j, none⟩ = false := frozen_of_row w g j _ _ h.1
theorem RdrAt.below (h : RdrAt w g A c xs k) (hb : Below w.heap.size w w') : RdrAt w' g A c xs k := ⟨by rw [hb.block g h.lt]; exact h.1, h.2.1.below hb, h.2.2⟩
end

set_option maxHeartbeats 800000 in
theorem none_ok (g : Nat) (A : Option Addr) (c : Nat) (xs : List UInt8) (k : Nat) (w : World) (h : RdrAt w g A c xs k) :
    Calls Try.prog 61 #[.pointer (some ⟨g, 0, none⟩)] w fun e w' => e = .returned (.bool false) ∧ w = w' := by
  have h2 := h.cell2
  clear h
  go_enter Try.func61, Try.ntmps61
  go_wp2
  go_ret
  exact ⟨rfl, rfl⟩

/-- The blocks of a call of 'read': the reader, the two results, the copy of the input. -/
structure ReadSt (w : World) (g B0 B1 B2 : Nat) (T0 : TypeId) (A : Option Addr) (c : Nat) (xs : List UInt8) (kr kx : Nat) (x0 x1 : Value) : Prop where
  rdr : w.heap[g]? = some (.cells #[.slice A xs.length c, .int .i64 (kr : Int), .bool true] 62 (0, 0))
  out : w.heap[B0]? = some (.cells #[x0] T0 (0, 0))
  err : w.heap[B1]? = some (.cells #[x1] 37 (0, 0))
  inp : w.heap[B2]? = some (.cells #[.slice A xs.length c, .int .i64 (kx : Int)] 60 (0, 0))
  g0 : B0 ≠ g
  g1 : B1 ≠ g
  g2 : B2 ≠ g
  e1 : B1 ≠ B0
  e2 : B2 ≠ B0
  e3 : B2 ≠ B1

section
variable {w : World} {g B0 B1 B2 : Nat} {T0 : TypeId} {A : Option Addr} {c : Nat} {xs : List UInt8} {kr kx : Nat} {x0 x1 : Value}
theorem heap_set_ne (w : World) (b b' i : Nat) (v : Value) (h : b' ≠ b) : (w.setCell ⟨b, i, none⟩ v).heap[b']? = w.heap[b']? := heap_setCell_other w ⟨b, i, none⟩ b' v (by simpa using h)
theorem ReadSt.setOut (h : ReadSt w g B0 B1 B2 T0 A c xs kr kx x0 x1) (x : Value) : ReadSt (w.setCell ⟨B0, 0, none⟩ x) g B0 B1 B2 T0 A c xs kr kx x x1 where
  rdr := by rw [heap_set_ne _ _ _ _ _ (Ne.symm h.g0)]; exact h.rdr
  out := by rw [heap_setCell_same w B0 0 _ _ _ h.out]; rfl
  err := by rw [heap_set_ne _ _ _ _ _ h.e1]; exact h.err
  inp := by rw [heap_set_ne _ _ _ _ _ h.e2]; exact h.inp
  g0 := h.g0
  g1 := h.g1
  g2 := h.g2
  e1 := h.e1
  e2 := h.e2
  e3 := h.e3
theorem ReadSt.setErr (h : ReadSt w g B0 B1 B2 T0 A c xs kr kx x0 x1) (x : Value) : ReadSt (w.setCell ⟨B1, 0, none⟩ x) g B0 B1 B2 T0 A c xs kr kx x0 x where
  rdr := by rw [heap_set_ne _ _ _ _ _ (Ne.symm h.g1)]; exact h.rdr
  out := by rw [heap_set_ne _ _ _ _ _ (Ne.symm h.e1)]; exact h.out
  err := by rw [heap_setCell_same w B1 0 _ _ _ h.err]; rfl
  inp := by rw [heap_set_ne _ _ _ _ _ h.e3]; exact h.inp
  g0 := h.g0
  g1 := h.g1
  g2 := h.g2
  e1 := h.e1
  e2 := h.e2
  e3 := h.e3
/-- 'r.input = x': two cells. -/
theorem ReadSt.setRdr (h : ReadSt w g B0 B1 B2 T0 A c xs kr kx x0 x1) (k : Nat) : ReadSt ((w.setCell ⟨g, 0, none⟩ (.slice A xs.length c)).setCell ⟨g, 1, none⟩ (.int .i64 (k : Int))) g B0 B1 B2 T0 A c xs k kx x0 x1 where
  rdr := by
    have h1 := heap_setCell_same w g 0 _ _ (.slice A xs.length c) h.rdr
    rw [heap_setCell_same _ g 1 _ _ _ h1]
    rfl
  out := by rw [heap_set_ne _ _ _ _ _ h.g0, heap_set_ne _ _ _ _ _ h.g0]; exact h.out
  err := by rw [heap_set_ne _ _ _ _ _ h.g1, heap_set_ne _ _ _ _ _ h.g1]; exact h.err
  inp := by rw [heap_set_ne _ _ _ _ _ h.g2, heap_set_ne _ _ _ _ _ h.g2]; exact h.inp
  g0 := h.g0
  g1 := h.g1
  g2 := h.g2
  e1 := h.e1
  e2 := h.e2
  e3 := h.e3
theorem ReadSt.rdrHalf (h : ReadSt w g B0 B1 B2 T0 A c xs kr kx x0 x1) : (w.setCell ⟨g, 0, none⟩ (.slice A xs.length c)).heap[g]? = some (.cells #[.slice A xs.length c, .int .i64 (kr : Int), .bool true] 62 (0, 0)) := by
  rw [heap_setCell_same w g 0 _ _ (.slice A xs.length c) h.rdr]
  rfl
theorem cell_at (w : World) (b i : Nat) (cs : Array Value) (t : TypeId) (h : w.heap[b]? = some (.cells cs t (0, 0))) : w.cell? ⟨b, i, none⟩ = cs[i]? := cell_of_row w b i cs t (0, 0) h
end

theorem grown_set_new {a w : World} {row : Option Nat} (h : a.grownBy w row) (b i : Nat) (v : Value) (hb : a.heap.size ≤ b) : a.grownBy (w.setCell ⟨b, i, none⟩ v) row :=
  ⟨h.os, h.tape, h.output, by simpa using h.size, fun j hj hr => by rw [heap_set_ne _ _ _ _ _ (by omega)]; exact h.block j hj hr⟩
theorem grown_set_row {a w : World} {g : Nat} (h : a.grownBy w (some g)) (i : Nat) (v : Value) : a.grownBy (w.setCell ⟨g, i, none⟩ v) (some g) :=
  ⟨h.os, h.tape, h.output, by simpa using h.size, fun j hj hr => by rw [heap_set_ne _ _ _ _ _ (fun e => hr (by rw [e]))]; exact h.block j hj hr⟩
theorem grown_then {a w w' : World} {row : Option Nat} {B : Nat} (h : a.grownBy w row) (hg : w.grownBy w' (some B)) (hB : a.heap.size ≤ B) : a.grownBy w' row :=
  ⟨hg.os.trans h.os, hg.tape.trans h.tape, hg.output.trans h.output, Nat.le_trans h.size hg.size, fun j hj hr => (hg.block j (by have := h.size; omega) (by simp; omega)).trans (h.block j hj hr)⟩
/-- Two worlds alike but for the blocks of a call of 'read'. -/
def Same3 (w' w'' : World) (g B0 B1 : Nat) : Prop := w''.heap.size = w'.heap.size ∧ ∀ b, b ≠ g → b ≠ B0 → b ≠ B1 → w''.heap[b]? = w'.heap[b]?
/-- The end of a call of 'read' that goes well. -/
theorem read_end {w w4 : World} {g B0 B1 B2 : Nat} {T0 : TypeId} {A : Option Addr} {c : Nat} {xs : List UInt8} {kr kx : Nat} {x0 x1 : Value} (h : RdrAt w g A c xs kr) (h0 : B0 = w.heap.size) (h1 : B1 = w.heap.size + 1) (v : Value)
    (S : ReadSt w4 g B0 B1 B2 T0 A c xs kr kx x0 x1) (hi : InAt w4 B2 A c xs kx) (hg : w.grownBy w4 (some g)) :
    RdrAt (((((w4.setCell ⟨B0, 0, none⟩ v).setCell ⟨g, 0, none⟩ (.slice A xs.length c)).setCell ⟨g, 1, none⟩ (.int .i64 (kx : Int))).setCell ⟨B0, 0, none⟩ v).setCell ⟨B1, 0, none⟩ (.int .i64 0)) g A c xs kx ∧
    w.grownBy (((((w4.setCell ⟨B0, 0, none⟩ v).setCell ⟨g, 0, none⟩ (.slice A xs.length c)).setCell ⟨g, 1, none⟩ (.int .i64 (kx : Int))).setCell ⟨B0, 0, none⟩ v).setCell ⟨B1, 0, none⟩ (.int .i64 0)) (some g) ∧
    Same3 w4 (((((w4.setCell ⟨B0, 0, none⟩ v).setCell ⟨g, 0, none⟩ (.slice A xs.length c)).setCell ⟨g, 1, none⟩ (.int .i64 (kx : Int))).setCell ⟨B0, 0, none⟩ v).setCell ⟨B1, 0, none⟩ (.int .i64 0)) g B0 B1 := by
  have S5 := S.setOut v
  have S7 := S5.setRdr kx
  have S8 := S7.setOut v
  have S9 := S8.setErr (.int .i64 0)
  have hG : w.grownBy (((((w4.setCell ⟨B0, 0, none⟩ v).setCell ⟨g, 0, none⟩ (.slice A xs.length c)).setCell ⟨g, 1, none⟩ (.int .i64 (kx : Int))).setCell ⟨B0, 0, none⟩ v).setCell ⟨B1, 0, none⟩ (.int .i64 0)) (some g) :=
    grown_set_new (grown_set_new (grown_set_row (grown_set_row (grown_set_new hg _ _ _ (by omega)) _ _) _ _) _ _ _ (by omega)) _ _ _ (by omega)
  refine ⟨⟨S9.rdr, h.2.1.grown' hG (fun hx b hb => by injection hb with hb; subst hb; exact h.2.2.2.2 hx), hi.2.2.1, h.2.2.2⟩, hG, by simp, fun b n1 n2 n3 => ?_⟩
  rw [heap_set_ne _ _ _ _ _ n3, heap_set_ne _ _ _ _ _ n2, heap_set_ne _ _ _ _ _ n1, heap_set_ne _ _ _ _ _ n1, heap_set_ne _ _ _ _ _ n2]

/-- The end of a call of 'read' that goes well; with an error. -/
def RdOk {X : Type} (mk : X → Value) (R : X → World → Prop) (w : World) (g : Nat) (A : Option Addr) (c : Nat) (xs : List UInt8) (k : Nat) (e : Ending) (w' : World) : Prop :=
  ∃ v w1, e = .returned (.tuple #[mk v, .int .i64 0]) ∧ RdrAt w' g A c xs k ∧ w.grownBy w' (some g) ∧ R v w1 ∧ Same3 w1 w' g w.heap.size (w.heap.size + 1)
def RdErr (z : Value) (er : Int) (w : World) (e : Ending) (w' : World) : Prop := e = .returned (.tuple #[z, .int .i64 er]) ∧ Below w.heap.size w w'
theorem cell_is (w : World) (b i : Nat) (cs : Array Value) (t : TypeId) (x : Value) (h : w.heap[b]? = some (.cells cs t (0, 0))) (hx : cs[i]? = some x) : w.cell? ⟨b, i, none⟩ = some x := (cell_at w b i cs t h).trans hx

end Go.Proofs.Yteepfeggkocakaa
