/- Walks: read[T] for the types whose datum is one cell (printed by genread.py). -/
import Derived.Test.YteepfeggkocakaaDerI
set_option linter.unusedVariables false
set_option linter.unusedSimpArgs false
set_option maxRecDepth 20000
namespace Go.Proofs.Yteepfeggkocakaa
open Go.RowKit Der

set_option maxHeartbeats 1600000 in
theorem catch_int_panicking (p q : Nat) (x : Value) (y ev : Int) (older : List PanicEntry) (w : World) (hc : w.cell? ⟨p, 0, none⟩ = some x) (hz : w.frozen? ⟨p, 0, none⟩ = false)
    (hc2 : w.cell? ⟨q, 0, none⟩ = some (.int .i64 y)) (hz2 : w.frozen? ⟨q, 0, none⟩ = false) (hpq : q ≠ p) :
    CallsD Try.prog 95 #[.pointer (some ⟨p, 0, none⟩), .pointer (some ⟨q, 0, none⟩)] (.panicking ({ v := .iface 37 (.int .i64 ev), recovered := false } :: older)) w fun e u' w' =>
      e = .returned (.tuple #[]) ∧ u' = .panicking ({ v := .iface 37 (.int .i64 ev), recovered := true } :: older) ∧ w' = (w.setCell ⟨p, 0, none⟩ (.int .i64 0)).setCell ⟨q, 0, none⟩ (.int .i64 ev) := by
  refine callsD_of_wpS Try.func95 rfl fun c₀ cs hu => ?_
  apply wpS_seq
  apply wpS_region
  simp [wpOpsS, go_sem, recoverD, hu, Try.ntmps95, Exit.thenS]
  refine wpS_of_wp ?_
  simp only [Array.replicate_succ, Array.replicate_zero, List.push_toArray, List.append_toArray, List.nil_append, List.cons_append, List.setIfInBounds_toArray, List.set_cons_succ, List.set_cons_zero]
  have hc2' : (w.setCell ⟨p, 0, none⟩ (.int .i64 0)).cell? ⟨q, 0, none⟩ = some (.int .i64 y) := by rw [World.cell?_setCell_other _ _ _ _ (by intro e; injection e with e; exact hpq e.symm)]; exact hc2
  have hz2' : (w.setCell ⟨p, 0, none⟩ (.int .i64 0)).frozen? ⟨q, 0, none⟩ = false := by rw [World.frozen?_setCell]; exact hz2
  have hta := run_assert_errno ev
  go_wp2
  exact ⟨rfl, _, rfl, _, results_none rfl _ _ _, rfl, rfl, rfl⟩

set_option maxHeartbeats 1600000 in
theorem catch_int_idle (p q : Addr) (w : World) :
    CallsD Try.prog 95 #[.pointer (some p), .pointer (some q)] .returning w fun e u' w' => e = .returned (.tuple #[]) ∧ u' = .returning ∧ w' = w := by
  refine callsD_of_wpS Try.func95 rfl fun c₀ cs hu => ?_
  apply wpS_seq
  apply wpS_region
  simp [wpOpsS, go_sem, recoverD, hu, Try.ntmps95, Exit.thenS]
  refine wpS_of_wp ?_
  simp only [Array.replicate_succ, Array.replicate_zero, List.push_toArray, List.append_toArray, List.nil_append, List.cons_append, List.setIfInBounds_toArray, List.set_cons_succ, List.set_cons_zero]
  go_wp2
  cases c₀
  exact ⟨rfl, _, by simp_all, _, results_none rfl _ _ _, rfl, rfl, rfl⟩

set_option maxHeartbeats 3200000 in
theorem read_int_ok (F : FuncId) (cap : Array Value) (hE : ∀ (args : Array Value) (W : World), (callFunc F args).run Try.prog W = .ok (.enter F args) W) (g : Nat) (A : Option Addr) (c : Nat) (xs : List UInt8) (k j : Nat) (w : World) (h : RdrAt w g A c xs k)
    (R : Int → World → Prop)
    (hF : ∀ (W : World) (B : Nat), InAt W B A c xs k → Below w.heap.size w W → w.heap.size + 3 ≤ W.heap.size → Calls Try.prog F (#[.pointer (some ⟨B, 0, none⟩)] ++ cap) W fun e W' => ∃ v, e = .returned (.int .i64 v) ∧ InAt W' B A c xs (k + j) ∧ W.grownBy W' (some B) ∧ R v W') :
    Calls Try.prog 72 #[.pointer (some ⟨g, 0, none⟩), .func (.func F) #[] cap] w fun e w' => RdOk (fun v : Int => .int .i64 v) R w g A c xs (k + j) e w' := by
  have hmf : ∀ (fn : Fn) (first cap : Array Value) (w : World), (Instr.makeFunc fn first cap).run Try.prog w = .ok (.func fn first cap) w := fun _ _ _ _ => rfl
  have hlt := h.lt
  have H := Lib.hid h
  have HF := Lib.hid hF
  have hb3 := (((below1 (w := w) (.cells #[.int .i64 0] 3)).alloc (by simp) (.cells #[.int .i64 0] 37)).alloc (by simp; omega) (.cells #[.slice A xs.length c, .int .i64 (k : Int)] 60))
  have HB3 := Lib.hid hb3
  clear h hF hb3
  go_enter_defers Try.func72, Try.ntmps72
  go_wp2_with fail
  refine (none_ok g A c xs k _ (((H.out.below (below1 _)).below (below1 _)))).mono ?_
  rintro e w1 ⟨rfl, rfl⟩
  have hc0 := ((H.out.below (below1 (.cells #[.int .i64 0] 3))).below (below1 (.cells #[.int .i64 0] 37))).cell0
  have hc1 := ((H.out.below (below1 (.cells #[.int .i64 0] 3))).below (below1 (.cells #[.int .i64 0] 37))).cell1
  go_wp2_with fail
  clear hc0 hc1
  have hin : InAt (((w.alloc (.cells #[.int .i64 0] 3)).alloc (.cells #[.int .i64 0] 37)).alloc (.cells #[.slice A xs.length c, .int .i64 (k : Int)] 60)) (w.heap.size + 1 + 1) A c xs k := by
    refine ⟨?_, H.out.2.1.below HB3.out, H.out.2.2.1, H.out.2.2.2.1, ?_⟩
    · have := heap_alloc_new ((w.alloc (.cells #[.int .i64 0] 3)).alloc (.cells #[.int .i64 0] 37)) (.cells #[.slice A xs.length c, .int .i64 (k : Int)] 60)
      simpa using this
    · intro hx e
      have := H.out.2.1.blk hx e
      omega
  have hs3 : ReadSt (((w.alloc (.cells #[.int .i64 0] 3)).alloc (.cells #[.int .i64 0] 37)).alloc (.cells #[.slice A xs.length c, .int .i64 (k : Int)] 60)) g w.heap.size (w.heap.size + 1) (w.heap.size + 1 + 1) 3 A c xs k k (.int .i64 0) (.int .i64 0) := by
    refine ⟨?_, ?_, ?_, hin.1, by omega, by omega, by omega, by omega, by omega, by omega⟩
    · rw [HB3.out.block g hlt]; exact H.out.1
    · rw [Below.heap_alloc _ _ _ (by simp; omega), Below.heap_alloc _ _ _ (by simp; try omega)]; exact heap_alloc_new w _
    · rw [Below.heap_alloc _ _ _ (by simp)]
      have := heap_alloc_new (w.alloc (.cells #[.int .i64 0] 3)) (.cells #[.int .i64 0] 37)
      simpa using this
  have hsz : w.heap.size + 3 ≤ (((w.alloc (.cells #[.int .i64 0] 3)).alloc (.cells #[.int .i64 0] 37)).alloc (.cells #[.slice A xs.length c, .int .i64 (k : Int)] 60)).heap.size := by simp
  have hcall := HF.out _ _ hin HB3.out hsz
  refine hcall.mono ?_
  rintro e w4 ⟨v, rfl, hin4, hg4, hR4⟩
  clear hcall hsz
  have hlt2 : w.heap.size + 1 + 1 < (((w.alloc (.cells #[.int .i64 0] 3)).alloc (.cells #[.int .i64 0] 37)).alloc (.cells #[.slice A xs.length c, .int .i64 (k : Int)] 60)).heap.size := by simp
  have S4 : ReadSt w4 g w.heap.size (w.heap.size + 1) (w.heap.size + 1 + 1) 3 A c xs k (k + j) (.int .i64 0) (.int .i64 0) := by
    refine ⟨?_, ?_, ?_, hin4.1, hs3.g0, hs3.g1, hs3.g2, hs3.e1, hs3.e2, hs3.e3⟩
    · rw [hg4.block g (by omega) (by simp; omega)]; exact hs3.rdr
    · rw [hg4.block _ (by omega) (by simp; omega)]; exact hs3.out
    · rw [hg4.block _ (by omega) (by simp)]; exact hs3.err
  have c1 := cell_at _ _ 0 _ _ S4.out
  have f1 := frozen_of_row _ _ 0 _ _ S4.out
  have c2 := cell_at _ _ 0 _ _ S4.inp
  have c3 := cell_at _ _ 1 _ _ S4.inp
  have c4 := cell_at _ _ 0 _ _ S4.rdr
  have f4 := frozen_of_row _ _ 0 _ _ S4.rdr
  have c5 := cell_at _ _ 1 _ _ S4.rdr
  have f5 := frozen_of_row _ _ 1 _ _ S4.rdr
  have c7 := cell_at _ _ 0 _ _ S4.err
  have f7 := frozen_of_row _ _ 0 _ _ S4.err
  have n0 := S4.g0
  have n1 := S4.g1
  have n2 := S4.g2
  have m0 := Ne.symm S4.g0
  have m1 := Ne.symm S4.g1
  have m2 := Ne.symm S4.g2
  simp only [List.getElem?_toArray, List.getElem?_cons_zero, List.getElem?_cons_succ] at c1 c2 c3 c4 c5 c7
  have hGE := grown_then (grown_of_below HB3.out (some g)) hg4 (by omega)
  have hEnd := Lib.hid (read_end H.out rfl rfl (.int .i64 v) S4 hin4 hGE)
  have HR4 := Lib.hid hR4
  have hO9 : (((((w4.setCell ⟨w.heap.size, 0, none⟩ (.int .i64 v)).setCell ⟨g, 0, none⟩ (.slice A xs.length c)).setCell ⟨g, 1, none⟩ (.int .i64 ((k + j : Nat) : Int))).setCell ⟨w.heap.size, 0, none⟩ (.int .i64 v)).setCell ⟨w.heap.size + 1, 0, none⟩ (.int .i64 0)).cell? ⟨w.heap.size, 0, none⟩ = some (.int .i64 v) :=
    cell_at _ _ 0 _ _ ((((S4.setOut (.int .i64 v)).setRdr (k + j)).setOut (.int .i64 v)).setErr (.int .i64 0)).out
  have hE9 : (((((w4.setCell ⟨w.heap.size, 0, none⟩ (.int .i64 v)).setCell ⟨g, 0, none⟩ (.slice A xs.length c)).setCell ⟨g, 1, none⟩ (.int .i64 ((k + j : Nat) : Int))).setCell ⟨w.heap.size, 0, none⟩ (.int .i64 v)).setCell ⟨w.heap.size + 1, 0, none⟩ (.int .i64 0)).cell? ⟨w.heap.size + 1, 0, none⟩ = some (.int .i64 0) :=
    cell_at _ _ 0 _ _ ((((S4.setOut (.int .i64 v)).setRdr (k + j)).setOut (.int .i64 v)).setErr (.int .i64 0)).err
  have HO9 := Lib.hid hO9
  have HE9 := Lib.hid hE9
  clear hGE S4 hs3 hin hin4 hg4 hlt2 hO9 hE9 hR4
  go_wp2_with fail
  clear c1 c2 c3 c4 c5 c7 f1 f4 f5 f7
  rw [← Int.natCast_add]
  generalize (((((w4.setCell ⟨w.heap.size, 0, none⟩ (.int .i64 v)).setCell ⟨g, 0, none⟩ (.slice A xs.length c)).setCell ⟨g, 1, none⟩ (.int .i64 ((k + j : Nat) : Int))).setCell ⟨w.heap.size, 0, none⟩ (.int .i64 v)).setCell ⟨w.heap.size + 1, 0, none⟩ (.int .i64 0)) = w9 at hEnd HO9 HE9 ⊢
  have ho9 := HO9.out
  have he9 := HE9.out
  refine leaves_cons (f := 95) (args := #[.pointer (some ⟨w.heap.size, 0, none⟩), .pointer (some ⟨w.heap.size + 1, 0, none⟩)]) (by simp) (by simp [go_sem]) ?_
  refine (catch_int_idle _ _ _).mono ?_
  rintro e u' w'' ⟨rfl, rfl, rfl⟩
  simp [Leaves, settle, results, Try.results72, go_sem, ho9, he9]
  exact ⟨v, _, rfl, hEnd.out.1, hEnd.out.2.1, HR4.out, hEnd.out.2.2⟩

set_option maxHeartbeats 3200000 in
theorem read_int_err (F : FuncId) (cap : Array Value) (hE : ∀ (args : Array Value) (W : World), (callFunc F args).run Try.prog W = .ok (.enter F args) W) (g : Nat) (A : Option Addr) (c : Nat) (xs : List UInt8) (k : Nat) (er : Int) (w : World) (h : RdrAt w g A c xs k)
    (hF : ∀ (W : World) (B : Nat), InAt W B A c xs k → Below w.heap.size w W → Calls Try.prog F (#[.pointer (some ⟨B, 0, none⟩)] ++ cap) W fun e W' => e = .panicked (thrown er) ∧ W.grownBy W' (some B)) :
    Calls Try.prog 72 #[.pointer (some ⟨g, 0, none⟩), .func (.func F) #[] cap] w (RdErr (.int .i64 0) er w) := by
  have hmf : ∀ (fn : Fn) (first cap : Array Value) (w : World), (Instr.makeFunc fn first cap).run Try.prog w = .ok (.func fn first cap) w := fun _ _ _ _ => rfl
  have hlt := h.lt
  have H := Lib.hid h
  have HF := Lib.hid hF
  have hb3 := (((below1 (w := w) (.cells #[.int .i64 0] 3)).alloc (by simp) (.cells #[.int .i64 0] 37)).alloc (by simp; omega) (.cells #[.slice A xs.length c, .int .i64 (k : Int)] 60))
  have HB3 := Lib.hid hb3
  clear h hF hb3
  go_enter_defers Try.func72, Try.ntmps72
  go_wp2_with fail
  refine (none_ok g A c xs k _ (((H.out.below (below1 _)).below (below1 _)))).mono ?_
  rintro e w1 ⟨rfl, rfl⟩
  have hc0 := ((H.out.below (below1 (.cells #[.int .i64 0] 3))).below (below1 (.cells #[.int .i64 0] 37))).cell0
  have hc1 := ((H.out.below (below1 (.cells #[.int .i64 0] 3))).below (below1 (.cells #[.int .i64 0] 37))).cell1
  go_wp2_with fail
  clear hc0 hc1
  have hin : InAt (((w.alloc (.cells #[.int .i64 0] 3)).alloc (.cells #[.int .i64 0] 37)).alloc (.cells #[.slice A xs.length c, .int .i64 (k : Int)] 60)) (w.heap.size + 1 + 1) A c xs k := by
    refine ⟨?_, H.out.2.1.below HB3.out, H.out.2.2.1, H.out.2.2.2.1, ?_⟩
    · have := heap_alloc_new ((w.alloc (.cells #[.int .i64 0] 3)).alloc (.cells #[.int .i64 0] 37)) (.cells #[.slice A xs.length c, .int .i64 (k : Int)] 60)
      simpa using this
    · intro hx e
      have := H.out.2.1.blk hx e
      omega
  have hcall := HF.out _ _ hin HB3.out
  refine hcall.mono ?_
  rintro e w4 ⟨rfl, hg4⟩
  clear hcall hin
  have hout : w4.heap[w.heap.size]? = some (.cells #[.int .i64 0] 3 (0, 0)) := by
    rw [hg4.block _ (by simp; omega) (by simp; omega), Below.heap_alloc _ _ _ (by simp; omega), Below.heap_alloc _ _ _ (by simp; try omega)]
    exact heap_alloc_new w _
  have herr : w4.heap[w.heap.size + 1]? = some (.cells #[.int .i64 0] 37 (0, 0)) := by
    rw [hg4.block _ (by simp; try omega) (by simp), Below.heap_alloc _ _ _ (by simp)]
    have := heap_alloc_new (w.alloc (.cells #[.int .i64 0] 3)) (.cells #[.int .i64 0] 37)
    simpa using this
  have hb4 : Below w.heap.size w w4 := HB3.out.grown hg4 (by simp; omega) (fun b hb => by injection hb with hb; omega)
  have HB4 := Lib.hid hb4
  have HO := Lib.hid hout
  have HR := Lib.hid herr
  clear hg4 hb4 hout herr HB3
  go_wp2_with fail
  refine leaves_cons (f := 95) (args := #[.pointer (some ⟨w.heap.size, 0, none⟩), .pointer (some ⟨w.heap.size + 1, 0, none⟩)]) (by simp) (by simp [go_sem]) ?_
  refine (catch_int_panicking w.heap.size (w.heap.size + 1) (.int .i64 0) 0 er [] w4 (cell_at _ _ 0 _ _ HO.out) (frozen_of_row _ _ 0 _ _ HO.out) (cell_at _ _ 0 _ _ HR.out) (frozen_of_row _ _ 0 _ _ HR.out) (by omega)).mono ?_
  rintro e u' w'' ⟨rfl, rfl, rfl⟩
  have ho9 : ((w4.setCell ⟨w.heap.size, 0, none⟩ (.int .i64 0)).setCell ⟨w.heap.size + 1, 0, none⟩ (.int .i64 er)).cell? ⟨w.heap.size, 0, none⟩ = some (.int .i64 0) := by
    rw [World.cell?_setCell_other _ _ _ _ (by intro e; injection e with e; omega)]
    exact World.cell?_setCell_same _ _ _ (cell_is _ _ 0 _ _ _ HO.out rfl)
  have he9 : ((w4.setCell ⟨w.heap.size, 0, none⟩ (.int .i64 0)).setCell ⟨w.heap.size + 1, 0, none⟩ (.int .i64 er)).cell? ⟨w.heap.size + 1, 0, none⟩ = some (.int .i64 er) := by
    have h0 : (w4.setCell ⟨w.heap.size, 0, none⟩ (.int .i64 0)).cell? ⟨w.heap.size + 1, 0, none⟩ = some (.int .i64 0) := by
      rw [World.cell?_setCell_other _ _ _ _ (by intro e; injection e with e; omega)]
      exact cell_is _ _ 0 _ _ _ HR.out rfl
    exact World.cell?_setCell_same _ _ _ h0
  have hb9 : Below w.heap.size w ((w4.setCell ⟨w.heap.size, 0, none⟩ (.int .i64 0)).setCell ⟨w.heap.size + 1, 0, none⟩ (.int .i64 er)) := (HB4.out.setCell (by simp) _).setCell (by simp) _
  generalize (w4.setCell ⟨w.heap.size, 0, none⟩ (.int .i64 0)).setCell ⟨w.heap.size + 1, 0, none⟩ (.int .i64 er) = w9 at ho9 he9 hb9 ⊢
  simp [Leaves, settle, results, Try.results72, go_sem, ho9, he9]
  exact ⟨rfl, hb9⟩

set_option maxHeartbeats 1600000 in
theorem read_int_nil (r : Value) (fv : Value) (w : World) (hN : ∀ W, Below w.heap.size w W → Calls Try.prog 61 #[r] W fun e w' => e = .returned (.bool true) ∧ W = w') :
    Calls Try.prog 72 #[r, fv] w (RdErr (.int .i64 0) 1 w) := by
  have hb2 := (below1 (w := w) (.cells #[.int .i64 0] 3)).alloc (by simp) (.cells #[.int .i64 0] 37)
  have HB2 := Lib.hid hb2
  have HN := Lib.hid hN
  clear hN hb2
  go_enter_defers Try.func72, Try.ntmps72
  go_wp2_with fail
  refine (HN.out _ HB2.out).mono ?_
  rintro e w1 ⟨rfl, rfl⟩
  go_wp2_with fail
  have ho9 : ((w.alloc (.cells #[.int .i64 0] 3)).alloc (.cells #[.int .i64 1] 37)).cell? ⟨w.heap.size, 0, none⟩ = some (.int .i64 0) := by
    refine cell_is _ _ 0 #[.int .i64 0] 3 _ ?_ rfl
    rw [Below.heap_alloc _ _ _ (by simp)]
    exact heap_alloc_new w _
  have he9 : ((w.alloc (.cells #[.int .i64 0] 3)).alloc (.cells #[.int .i64 1] 37)).cell? ⟨w.heap.size + 1, 0, none⟩ = some (.int .i64 1) := by
    refine cell_is _ _ 0 #[.int .i64 1] 37 _ ?_ rfl
    have := heap_alloc_new (w.alloc (.cells #[.int .i64 0] 3)) (.cells #[.int .i64 1] 37)
    simpa using this
  have hb9 : Below w.heap.size w ((w.alloc (.cells #[.int .i64 0] 3)).alloc (.cells #[.int .i64 1] 37)) := (below1 (w := w) (.cells #[.int .i64 0] 3)).alloc (by simp) (.cells #[.int .i64 1] 37)
  generalize (w.alloc (.cells #[.int .i64 0] 3)).alloc (.cells #[.int .i64 1] 37) = w9 at ho9 he9 hb9 ⊢
  simp [bodyPostD, Leaves, settle, results, Try.results72, go_sem, ho9, he9]
  exact ⟨rfl, hb9⟩

set_option maxHeartbeats 1600000 in
theorem catch_bool_panicking (p q : Nat) (x : Value) (y ev : Int) (older : List PanicEntry) (w : World) (hc : w.cell? ⟨p, 0, none⟩ = some x) (hz : w.frozen? ⟨p, 0, none⟩ = false)
    (hc2 : w.cell? ⟨q, 0, none⟩ = some (.int .i64 y)) (hz2 : w.frozen? ⟨q, 0, none⟩ = false) (hpq : q ≠ p) :
    CallsD Try.prog 94 #[.pointer (some ⟨p, 0, none⟩), .pointer (some ⟨q, 0, none⟩)] (.panicking ({ v := .iface 37 (.int .i64 ev), recovered := false } :: older)) w fun e u' w' =>
      e = .returned (.tuple #[]) ∧ u' = .panicking ({ v := .iface 37 (.int .i64 ev), recovered := true } :: older) ∧ w' = (w.setCell ⟨p, 0, none⟩ (.bool false)).setCell ⟨q, 0, none⟩ (.int .i64 ev) := by
  refine callsD_of_wpS Try.func94 rfl fun c₀ cs hu => ?_
  apply wpS_seq
  apply wpS_region
  simp [wpOpsS, go_sem, recoverD, hu, Try.ntmps94, Exit.thenS]
  refine wpS_of_wp ?_
  simp only [Array.replicate_succ, Array.replicate_zero, List.push_toArray, List.append_toArray, List.nil_append, List.cons_append, List.setIfInBounds_toArray, List.set_cons_succ, List.set_cons_zero]
  have hc2' : (w.setCell ⟨p, 0, none⟩ (.bool false)).cell? ⟨q, 0, none⟩ = some (.int .i64 y) := by rw [World.cell?_setCell_other _ _ _ _ (by intro e; injection e with e; exact hpq e.symm)]; exact hc2
  have hz2' : (w.setCell ⟨p, 0, none⟩ (.bool false)).frozen? ⟨q, 0, none⟩ = false := by rw [World.frozen?_setCell]; exact hz2
  have hta := run_assert_errno ev
  go_wp2
  exact ⟨rfl, _, rfl, _, results_none rfl _ _ _, rfl, rfl, rfl⟩

set_option maxHeartbeats 1600000 in
theorem catch_bool_idle (p q : Addr) (w : World) :
    CallsD Try.prog 94 #[.pointer (some p), .pointer (some q)] .returning w fun e u' w' => e = .returned (.tuple #[]) ∧ u' = .returning ∧ w' = w := by
  refine callsD_of_wpS Try.func94 rfl fun c₀ cs hu => ?_
  apply wpS_seq
  apply wpS_region
  simp [wpOpsS, go_sem, recoverD, hu, Try.ntmps94, Exit.thenS]
  refine wpS_of_wp ?_
  simp only [Array.replicate_succ, Array.replicate_zero, List.push_toArray, List.append_toArray, List.nil_append, List.cons_append, List.setIfInBounds_toArray, List.set_cons_succ, List.set_cons_zero]
  go_wp2
  cases c₀
  exact ⟨rfl, _, by simp_all, _, results_none rfl _ _ _, rfl, rfl, rfl⟩

set_option maxHeartbeats 3200000 in
theorem read_bool_ok (F : FuncId) (cap : Array Value) (hE : ∀ (args : Array Value) (W : World), (callFunc F args).run Try.prog W = .ok (.enter F args) W) (g : Nat) (A : Option Addr) (c : Nat) (xs : List UInt8) (k j : Nat) (w : World) (h : RdrAt w g A c xs k)
    (R : Bool → World → Prop)
    (hF : ∀ (W : World) (B : Nat), InAt W B A c xs k → Below w.heap.size w W → w.heap.size + 3 ≤ W.heap.size → Calls Try.prog F (#[.pointer (some ⟨B, 0, none⟩)] ++ cap) W fun e W' => ∃ v, e = .returned (.bool v) ∧ InAt W' B A c xs (k + j) ∧ W.grownBy W' (some B) ∧ R v W') :
    Calls Try.prog 68 #[.pointer (some ⟨g, 0, none⟩), .func (.func F) #[] cap] w fun e w' => RdOk (fun v : Bool => .bool v) R w g A c xs (k + j) e w' := by
  have hmf : ∀ (fn : Fn) (first cap : Array Value) (w : World), (Instr.makeFunc fn first cap).run Try.prog w = .ok (.func fn first cap) w := fun _ _ _ _ => rfl
  have hlt := h.lt
  have H := Lib.hid h
  have HF := Lib.hid hF
  have hb3 := (((below1 (w := w) (.cells #[.bool false] 4)).alloc (by simp) (.cells #[.int .i64 0] 37)).alloc (by simp; omega) (.cells #[.slice A xs.length c, .int .i64 (k : Int)] 60))
  have HB3 := Lib.hid hb3
  clear h hF hb3
  go_enter_defers Try.func68, Try.ntmps68
  go_wp2_with fail
  refine (none_ok g A c xs k _ (((H.out.below (below1 _)).below (below1 _)))).mono ?_
  rintro e w1 ⟨rfl, rfl⟩
  have hc0 := ((H.out.below (below1 (.cells #[.bool false] 4))).below (below1 (.cells #[.int .i64 0] 37))).cell0
  have hc1 := ((H.out.below (below1 (.cells #[.bool false] 4))).below (below1 (.cells #[.int .i64 0] 37))).cell1
  go_wp2_with fail
  clear hc0 hc1
  have hin : InAt (((w.alloc (.cells #[.bool false] 4)).alloc (.cells #[.int .i64 0] 37)).alloc (.cells #[.slice A xs.length c, .int .i64 (k : Int)] 60)) (w.heap.size + 1 + 1) A c xs k := by
    refine ⟨?_, H.out.2.1.below HB3.out, H.out.2.2.1, H.out.2.2.2.1, ?_⟩
    · have := heap_alloc_new ((w.alloc (.cells #[.bool false] 4)).alloc (.cells #[.int .i64 0] 37)) (.cells #[.slice A xs.length c, .int .i64 (k : Int)] 60)
      simpa using this
    · intro hx e
      have := H.out.2.1.blk hx e
      omega
  have hs3 : ReadSt (((w.alloc (.cells #[.bool false] 4)).alloc (.cells #[.int .i64 0] 37)).alloc (.cells #[.slice A xs.length c, .int .i64 (k : Int)] 60)) g w.heap.size (w.heap.size + 1) (w.heap.size + 1 + 1) 4 A c xs k k (.bool false) (.int .i64 0) := by
    refine ⟨?_, ?_, ?_, hin.1, by omega, by omega, by omega, by omega, by omega, by omega⟩
    · rw [HB3.out.block g hlt]; exact H.out.1
    · rw [Below.heap_alloc _ _ _ (by simp; omega), Below.heap_alloc _ _ _ (by simp; try omega)]; exact heap_alloc_new w _
    · rw [Below.heap_alloc _ _ _ (by simp)]
      have := heap_alloc_new (w.alloc (.cells #[.bool false] 4)) (.cells #[.int .i64 0] 37)
      simpa using this
  have hsz : w.heap.size + 3 ≤ (((w.alloc (.cells #[.bool false] 4)).alloc (.cells #[.int .i64 0] 37)).alloc (.cells #[.slice A xs.length c, .int .i64 (k : Int)] 60)).heap.size := by simp
  have hcall := HF.out _ _ hin HB3.out hsz
  refine hcall.mono ?_
  rintro e w4 ⟨v, rfl, hin4, hg4, hR4⟩
  clear hcall hsz
  have hlt2 : w.heap.size + 1 + 1 < (((w.alloc (.cells #[.bool false] 4)).alloc (.cells #[.int .i64 0] 37)).alloc (.cells #[.slice A xs.length c, .int .i64 (k : Int)] 60)).heap.size := by simp
  have S4 : ReadSt w4 g w.heap.size (w.heap.size + 1) (w.heap.size + 1 + 1) 4 A c xs k (k + j) (.bool false) (.int .i64 0) := by
    refine ⟨?_, ?_, ?_, hin4.1, hs3.g0, hs3.g1, hs3.g2, hs3.e1, hs3.e2, hs3.e3⟩
    · rw [hg4.block g (by omega) (by simp; omega)]; exact hs3.rdr
    · rw [hg4.block _ (by omega) (by simp; omega)]; exact hs3.out
    · rw [hg4.block _ (by omega) (by simp)]; exact hs3.err
  have c1 := cell_at _ _ 0 _ _ S4.out
  have f1 := frozen_of_row _ _ 0 _ _ S4.out
  have c2 := cell_at _ _ 0 _ _ S4.inp
  have c3 := cell_at _ _ 1 _ _ S4.inp
  have c4 := cell_at _ _ 0 _ _ S4.rdr
  have f4 := frozen_of_row _ _ 0 _ _ S4.rdr
  have c5 := cell_at _ _ 1 _ _ S4.rdr
  have f5 := frozen_of_row _ _ 1 _ _ S4.rdr
  have c7 := cell_at _ _ 0 _ _ S4.err
  have f7 := frozen_of_row _ _ 0 _ _ S4.err
  have n0 := S4.g0
  have n1 := S4.g1
  have n2 := S4.g2
  have m0 := Ne.symm S4.g0
  have m1 := Ne.symm S4.g1
  have m2 := Ne.symm S4.g2
  simp only [List.getElem?_toArray, List.getElem?_cons_zero, List.getElem?_cons_succ] at c1 c2 c3 c4 c5 c7
  have hGE := grown_then (grown_of_below HB3.out (some g)) hg4 (by omega)
  have hEnd := Lib.hid (read_end H.out rfl rfl (.bool v) S4 hin4 hGE)
  have HR4 := Lib.hid hR4
  have hO9 : (((((w4.setCell ⟨w.heap.size, 0, none⟩ (.bool v)).setCell ⟨g, 0, none⟩ (.slice A xs.length c)).setCell ⟨g, 1, none⟩ (.int .i64 ((k + j : Nat) : Int))).setCell ⟨w.heap.size, 0, none⟩ (.bool v)).setCell ⟨w.heap.size + 1, 0, none⟩ (.int .i64 0)).cell? ⟨w.heap.size, 0, none⟩ = some (.bool v) :=
    cell_at _ _ 0 _ _ ((((S4.setOut (.bool v)).setRdr (k + j)).setOut (.bool v)).setErr (.int .i64 0)).out
  have hE9 : (((((w4.setCell ⟨w.heap.size, 0, none⟩ (.bool v)).setCell ⟨g, 0, none⟩ (.slice A xs.length c)).setCell ⟨g, 1, none⟩ (.int .i64 ((k + j : Nat) : Int))).setCell ⟨w.heap.size, 0, none⟩ (.bool v)).setCell ⟨w.heap.size + 1, 0, none⟩ (.int .i64 0)).cell? ⟨w.heap.size + 1, 0, none⟩ = some (.int .i64 0) :=
    cell_at _ _ 0 _ _ ((((S4.setOut (.bool v)).setRdr (k + j)).setOut (.bool v)).setErr (.int .i64 0)).err
  have HO9 := Lib.hid hO9
  have HE9 := Lib.hid hE9
  clear hGE S4 hs3 hin hin4 hg4 hlt2 hO9 hE9 hR4
  go_wp2_with fail
  clear c1 c2 c3 c4 c5 c7 f1 f4 f5 f7
  rw [← Int.natCast_add]
  generalize (((((w4.setCell ⟨w.heap.size, 0, none⟩ (.bool v)).setCell ⟨g, 0, none⟩ (.slice A xs.length c)).setCell ⟨g, 1, none⟩ (.int .i64 ((k + j : Nat) : Int))).setCell ⟨w.heap.size, 0, none⟩ (.bool v)).setCell ⟨w.heap.size + 1, 0, none⟩ (.int .i64 0)) = w9 at hEnd HO9 HE9 ⊢
  have ho9 := HO9.out
  have he9 := HE9.out
  refine leaves_cons (f := 94) (args := #[.pointer (some ⟨w.heap.size, 0, none⟩), .pointer (some ⟨w.heap.size + 1, 0, none⟩)]) (by simp) (by simp [go_sem]) ?_
  refine (catch_bool_idle _ _ _).mono ?_
  rintro e u' w'' ⟨rfl, rfl, rfl⟩
  simp [Leaves, settle, results, Try.results68, go_sem, ho9, he9]
  exact ⟨v, _, rfl, hEnd.out.1, hEnd.out.2.1, HR4.out, hEnd.out.2.2⟩

set_option maxHeartbeats 3200000 in
theorem read_bool_err (F : FuncId) (cap : Array Value) (hE : ∀ (args : Array Value) (W : World), (callFunc F args).run Try.prog W = .ok (.enter F args) W) (g : Nat) (A : Option Addr) (c : Nat) (xs : List UInt8) (k : Nat) (er : Int) (w : World) (h : RdrAt w g A c xs k)
    (hF : ∀ (W : World) (B : Nat), InAt W B A c xs k → Below w.heap.size w W → Calls Try.prog F (#[.pointer (some ⟨B, 0, none⟩)] ++ cap) W fun e W' => e = .panicked (thrown er) ∧ W.grownBy W' (some B)) :
    Calls Try.prog 68 #[.pointer (some ⟨g, 0, none⟩), .func (.func F) #[] cap] w (RdErr (.bool false) er w) := by
  have hmf : ∀ (fn : Fn) (first cap : Array Value) (w : World), (Instr.makeFunc fn first cap).run Try.prog w = .ok (.func fn first cap) w := fun _ _ _ _ => rfl
  have hlt := h.lt
  have H := Lib.hid h
  have HF := Lib.hid hF
  have hb3 := (((below1 (w := w) (.cells #[.bool false] 4)).alloc (by simp) (.cells #[.int .i64 0] 37)).alloc (by simp; omega) (.cells #[.slice A xs.length c, .int .i64 (k : Int)] 60))
  have HB3 := Lib.hid hb3
  clear h hF hb3
  go_enter_defers Try.func68, Try.ntmps68
  go_wp2_with fail
  refine (none_ok g A c xs k _ (((H.out.below (below1 _)).below (below1 _)))).mono ?_
  rintro e w1 ⟨rfl, rfl⟩
  have hc0 := ((H.out.below (below1 (.cells #[.bool false] 4))).below (below1 (.cells #[.int .i64 0] 37))).cell0
  have hc1 := ((H.out.below (below1 (.cells #[.bool false] 4))).below (below1 (.cells #[.int .i64 0] 37))).cell1
  go_wp2_with fail
  clear hc0 hc1
  have hin : InAt (((w.alloc (.cells #[.bool false] 4)).alloc (.cells #[.int .i64 0] 37)).alloc (.cells #[.slice A xs.length c, .int .i64 (k : Int)] 60)) (w.heap.size + 1 + 1) A c xs k := by
    refine ⟨?_, H.out.2.1.below HB3.out, H.out.2.2.1, H.out.2.2.2.1, ?_⟩
    · have := heap_alloc_new ((w.alloc (.cells #[.bool false] 4)).alloc (.cells #[.int .i64 0] 37)) (.cells #[.slice A xs.length c, .int .i64 (k : Int)] 60)
      simpa using this
    · intro hx e
      have := H.out.2.1.blk hx e
      omega
  have hcall := HF.out _ _ hin HB3.out
  refine hcall.mono ?_
  rintro e w4 ⟨rfl, hg4⟩
  clear hcall hin
  have hout : w4.heap[w.heap.size]? = some (.cells #[.bool false] 4 (0, 0)) := by
    rw [hg4.block _ (by simp; omega) (by simp; omega), Below.heap_alloc _ _ _ (by simp; omega), Below.heap_alloc _ _ _ (by simp; try omega)]
    exact heap_alloc_new w _
  have herr : w4.heap[w.heap.size + 1]? = some (.cells #[.int .i64 0] 37 (0, 0)) := by
    rw [hg4.block _ (by simp; try omega) (by simp), Below.heap_alloc _ _ _ (by simp)]
    have := heap_alloc_new (w.alloc (.cells #[.bool false] 4)) (.cells #[.int .i64 0] 37)
    simpa using this
  have hb4 : Below w.heap.size w w4 := HB3.out.grown hg4 (by simp; omega) (fun b hb => by injection hb with hb; omega)
  have HB4 := Lib.hid hb4
  have HO := Lib.hid hout
  have HR := Lib.hid herr
  clear hg4 hb4 hout herr HB3
  go_wp2_with fail
  refine leaves_cons (f := 94) (args := #[.pointer (some ⟨w.heap.size, 0, none⟩), .pointer (some ⟨w.heap.size + 1, 0, none⟩)]) (by simp) (by simp [go_sem]) ?_
  refine (catch_bool_panicking w.heap.size (w.heap.size + 1) (.bool false) 0 er [] w4 (cell_at _ _ 0 _ _ HO.out) (frozen_of_row _ _ 0 _ _ HO.out) (cell_at _ _ 0 _ _ HR.out) (frozen_of_row _ _ 0 _ _ HR.out) (by omega)).mono ?_
  rintro e u' w'' ⟨rfl, rfl, rfl⟩
  have ho9 : ((w4.setCell ⟨w.heap.size, 0, none⟩ (.bool false)).setCell ⟨w.heap.size + 1, 0, none⟩ (.int .i64 er)).cell? ⟨w.heap.size, 0, none⟩ = some (.bool false) := by
    rw [World.cell?_setCell_other _ _ _ _ (by intro e; injection e with e; omega)]
    exact World.cell?_setCell_same _ _ _ (cell_is _ _ 0 _ _ _ HO.out rfl)
  have he9 : ((w4.setCell ⟨w.heap.size, 0, none⟩ (.bool false)).setCell ⟨w.heap.size + 1, 0, none⟩ (.int .i64 er)).cell? ⟨w.heap.size + 1, 0, none⟩ = some (.int .i64 er) := by
    have h0 : (w4.setCell ⟨w.heap.size, 0, none⟩ (.bool false)).cell? ⟨w.heap.size + 1, 0, none⟩ = some (.int .i64 0) := by
      rw [World.cell?_setCell_other _ _ _ _ (by intro e; injection e with e; omega)]
      exact cell_is _ _ 0 _ _ _ HR.out rfl
    exact World.cell?_setCell_same _ _ _ h0
  have hb9 : Below w.heap.size w ((w4.setCell ⟨w.heap.size, 0, none⟩ (.bool false)).setCell ⟨w.heap.size + 1, 0, none⟩ (.int .i64 er)) := (HB4.out.setCell (by simp) _).setCell (by simp) _
  generalize (w4.setCell ⟨w.heap.size, 0, none⟩ (.bool false)).setCell ⟨w.heap.size + 1, 0, none⟩ (.int .i64 er) = w9 at ho9 he9 hb9 ⊢
  simp [Leaves, settle, results, Try.results68, go_sem, ho9, he9]
  exact ⟨rfl, hb9⟩

set_option maxHeartbeats 1600000 in
theorem read_bool_nil (r : Value) (fv : Value) (w : World) (hN : ∀ W, Below w.heap.size w W → Calls Try.prog 61 #[r] W fun e w' => e = .returned (.bool true) ∧ W = w') :
    Calls Try.prog 68 #[r, fv] w (RdErr (.bool false) 1 w) := by
  have hb2 := (below1 (w := w) (.cells #[.bool false] 4)).alloc (by simp) (.cells #[.int .i64 0] 37)
  have HB2 := Lib.hid hb2
  have HN := Lib.hid hN
  clear hN hb2
  go_enter_defers Try.func68, Try.ntmps68
  go_wp2_with fail
  refine (HN.out _ HB2.out).mono ?_
  rintro e w1 ⟨rfl, rfl⟩
  go_wp2_with fail
  have ho9 : ((w.alloc (.cells #[.bool false] 4)).alloc (.cells #[.int .i64 1] 37)).cell? ⟨w.heap.size, 0, none⟩ = some (.bool false) := by
    refine cell_is _ _ 0 #[.bool false] 4 _ ?_ rfl
    rw [Below.heap_alloc _ _ _ (by simp)]
    exact heap_alloc_new w _
  have he9 : ((w.alloc (.cells #[.bool false] 4)).alloc (.cells #[.int .i64 1] 37)).cell? ⟨w.heap.size + 1, 0, none⟩ = some (.int .i64 1) := by
    refine cell_is _ _ 0 #[.int .i64 1] 37 _ ?_ rfl
    have := heap_alloc_new (w.alloc (.cells #[.bool false] 4)) (.cells #[.int .i64 1] 37)
    simpa using this
  have hb9 : Below w.heap.size w ((w.alloc (.cells #[.bool false] 4)).alloc (.cells #[.int .i64 1] 37)) := (below1 (w := w) (.cells #[.bool false] 4)).alloc (by simp) (.cells #[.int .i64 1] 37)
  generalize (w.alloc (.cells #[.bool false] 4)).alloc (.cells #[.int .i64 1] 37) = w9 at ho9 he9 hb9 ⊢
  simp [bodyPostD, Leaves, settle, results, Try.results68, go_sem, ho9, he9]
  exact ⟨rfl, hb9⟩

set_option maxHeartbeats 1600000 in
theorem catch_u32_panicking (p q : Nat) (x : Value) (y ev : Int) (older : List PanicEntry) (w : World) (hc : w.cell? ⟨p, 0, none⟩ = some x) (hz : w.frozen? ⟨p, 0, none⟩ = false)
    (hc2 : w.cell? ⟨q, 0, none⟩ = some (.int .i64 y)) (hz2 : w.frozen? ⟨q, 0, none⟩ = false) (hpq : q ≠ p) :
    CallsD Try.prog 97 #[.pointer (some ⟨p, 0, none⟩), .pointer (some ⟨q, 0, none⟩)] (.panicking ({ v := .iface 37 (.int .i64 ev), recovered := false } :: older)) w fun e u' w' =>
      e = .returned (.tuple #[]) ∧ u' = .panicking ({ v := .iface 37 (.int .i64 ev), recovered := true } :: older) ∧ w' = (w.setCell ⟨p, 0, none⟩ (.int .u32 0)).setCell ⟨q, 0, none⟩ (.int .i64 ev) := by
  refine callsD_of_wpS Try.func97 rfl fun c₀ cs hu => ?_
  apply wpS_seq
  apply wpS_region
  simp [wpOpsS, go_sem, recoverD, hu, Try.ntmps97, Exit.thenS]
  refine wpS_of_wp ?_
  simp only [Array.replicate_succ, Array.replicate_zero, List.push_toArray, List.append_toArray, List.nil_append, List.cons_append, List.setIfInBounds_toArray, List.set_cons_succ, List.set_cons_zero]
  have hc2' : (w.setCell ⟨p, 0, none⟩ (.int .u32 0)).cell? ⟨q, 0, none⟩ = some (.int .i64 y) := by rw [World.cell?_setCell_other _ _ _ _ (by intro e; injection e with e; exact hpq e.symm)]; exact hc2
  have hz2' : (w.setCell ⟨p, 0, none⟩ (.int .u32 0)).frozen? ⟨q, 0, none⟩ = false := by rw [World.frozen?_setCell]; exact hz2
  have hta := run_assert_errno ev
  go_wp2
  exact ⟨rfl, _, rfl, _, results_none rfl _ _ _, rfl, rfl, rfl⟩

set_option maxHeartbeats 1600000 in
theorem catch_u32_idle (p q : Addr) (w : World) :
    CallsD Try.prog 97 #[.pointer (some p), .pointer (some q)] .returning w fun e u' w' => e = .returned (.tuple #[]) ∧ u' = .returning ∧ w' = w := by
  refine callsD_of_wpS Try.func97 rfl fun c₀ cs hu => ?_
  apply wpS_seq
  apply wpS_region
  simp [wpOpsS, go_sem, recoverD, hu, Try.ntmps97, Exit.thenS]
  refine wpS_of_wp ?_
  simp only [Array.replicate_succ, Array.replicate_zero, List.push_toArray, List.append_toArray, List.nil_append, List.cons_append, List.setIfInBounds_toArray, List.set_cons_succ, List.set_cons_zero]
  go_wp2
  cases c₀
  exact ⟨rfl, _, by simp_all, _, results_none rfl _ _ _, rfl, rfl, rfl⟩

set_option maxHeartbeats 3200000 in
theorem read_u32_ok (F : FuncId) (cap : Array Value) (hE : ∀ (args : Array Value) (W : World), (callFunc F args).run Try.prog W = .ok (.enter F args) W) (g : Nat) (A : Option Addr) (c : Nat) (xs : List UInt8) (k j : Nat) (w : World) (h : RdrAt w g A c xs k)
    (R : Int → World → Prop)
    (hF : ∀ (W : World) (B : Nat), InAt W B A c xs k → Below w.heap.size w W → w.heap.size + 3 ≤ W.heap.size → Calls Try.prog F (#[.pointer (some ⟨B, 0, none⟩)] ++ cap) W fun e W' => ∃ v, e = .returned (.int .u32 v) ∧ InAt W' B A c xs (k + j) ∧ W.grownBy W' (some B) ∧ R v W') :
    Calls Try.prog 74 #[.pointer (some ⟨g, 0, none⟩), .func (.func F) #[] cap] w fun e w' => RdOk (fun v : Int => .int .u32 v) R w g A c xs (k + j) e w' := by
  have hmf : ∀ (fn : Fn) (first cap : Array Value) (w : World), (Instr.makeFunc fn first cap).run Try.prog w = .ok (.func fn first cap) w := fun _ _ _ _ => rfl
  have hlt := h.lt
  have H := Lib.hid h
  have HF := Lib.hid hF
  have hb3 := (((below1 (w := w) (.cells #[.int .u32 0] 28)).alloc (by simp) (.cells #[.int .i64 0] 37)).alloc (by simp; omega) (.cells #[.slice A xs.length c, .int .i64 (k : Int)] 60))
  have HB3 := Lib.hid hb3
  clear h hF hb3
  go_enter_defers Try.func74, Try.ntmps74
  go_wp2_with fail
  refine (none_ok g A c xs k _ (((H.out.below (below1 _)).below (below1 _)))).mono ?_
  rintro e w1 ⟨rfl, rfl⟩
  have hc0 := ((H.out.below (below1 (.cells #[.int .u32 0] 28))).below (below1 (.cells #[.int .i64 0] 37))).cell0
  have hc1 := ((H.out.below (below1 (.cells #[.int .u32 0] 28))).below (below1 (.cells #[.int .i64 0] 37))).cell1
  go_wp2_with fail
  clear hc0 hc1
  have hin : InAt (((w.alloc (.cells #[.int .u32 0] 28)).alloc (.cells #[.int .i64 0] 37)).alloc (.cells #[.slice A xs.length c, .int .i64 (k : Int)] 60)) (w.heap.size + 1 + 1) A c xs k := by
    refine ⟨?_, H.out.2.1.below HB3.out, H.out.2.2.1, H.out.2.2.2.1, ?_⟩
    · have := heap_alloc_new ((w.alloc (.cells #[.int .u32 0] 28)).alloc (.cells #[.int .i64 0] 37)) (.cells #[.slice A xs.length c, .int .i64 (k : Int)] 60)
      simpa using this
    · intro hx e
      have := H.out.2.1.blk hx e
      omega
  have hs3 : ReadSt (((w.alloc (.cells #[.int .u32 0] 28)).alloc (.cells #[.int .i64 0] 37)).alloc (.cells #[.slice A xs.length c, .int .i64 (k : Int)] 60)) g w.heap.size (w.heap.size + 1) (w.heap.size + 1 + 1) 28 A c xs k k (.int .u32 0) (.int .i64 0) := by
    refine ⟨?_, ?_, ?_, hin.1, by omega, by omega, by omega, by omega, by omega, by omega⟩
    · rw [HB3.out.block g hlt]; exact H.out.1
    · rw [Below.heap_alloc _ _ _ (by simp; omega), Below.heap_alloc _ _ _ (by simp; try omega)]; exact heap_alloc_new w _
    · rw [Below.heap_alloc _ _ _ (by simp)]
      have := heap_alloc_new (w.alloc (.cells #[.int .u32 0] 28)) (.cells #[.int .i64 0] 37)
      simpa using this
  have hsz : w.heap.size + 3 ≤ (((w.alloc (.cells #[.int .u32 0] 28)).alloc (.cells #[.int .i64 0] 37)).alloc (.cells #[.slice A xs.length c, .int .i64 (k : Int)] 60)).heap.size := by simp
  have hcall := HF.out _ _ hin HB3.out hsz
  refine hcall.mono ?_
  rintro e w4 ⟨v, rfl, hin4, hg4, hR4⟩
  clear hcall hsz
  have hlt2 : w.heap.size + 1 + 1 < (((w.alloc (.cells #[.int .u32 0] 28)).alloc (.cells #[.int .i64 0] 37)).alloc (.cells #[.slice A xs.length c, .int .i64 (k : Int)] 60)).heap.size := by simp
  have S4 : ReadSt w4 g w.heap.size (w.heap.size + 1) (w.heap.size + 1 + 1) 28 A c xs k (k + j) (.int .u32 0) (.int .i64 0) := by
    refine ⟨?_, ?_, ?_, hin4.1, hs3.g0, hs3.g1, hs3.g2, hs3.e1, hs3.e2, hs3.e3⟩
    · rw [hg4.block g (by omega) (by simp; omega)]; exact hs3.rdr
    · rw [hg4.block _ (by omega) (by simp; omega)]; exact hs3.out
    · rw [hg4.block _ (by omega) (by simp)]; exact hs3.err
  have c1 := cell_at _ _ 0 _ _ S4.out
  have f1 := frozen_of_row _ _ 0 _ _ S4.out
  have c2 := cell_at _ _ 0 _ _ S4.inp
  have c3 := cell_at _ _ 1 _ _ S4.inp
  have c4 := cell_at _ _ 0 _ _ S4.rdr
  have f4 := frozen_of_row _ _ 0 _ _ S4.rdr
  have c5 := cell_at _ _ 1 _ _ S4.rdr
  have f5 := frozen_of_row _ _ 1 _ _ S4.rdr
  have c7 := cell_at _ _ 0 _ _ S4.err
  have f7 := frozen_of_row _ _ 0 _ _ S4.err
  have n0 := S4.g0
  have n1 := S4.g1
  have n2 := S4.g2
  have m0 := Ne.symm S4.g0
  have m1 := Ne.symm S4.g1
  have m2 := Ne.symm S4.g2
  simp only [List.getElem?_toArray, List.getElem?_cons_zero, List.getElem?_cons_succ] at c1 c2 c3 c4 c5 c7
  have hGE := grown_then (grown_of_below HB3.out (some g)) hg4 (by omega)
  have hEnd := Lib.hid (read_end H.out rfl rfl (.int .u32 v) S4 hin4 hGE)
  have HR4 := Lib.hid hR4
  have hO9 : (((((w4.setCell ⟨w.heap.size, 0, none⟩ (.int .u32 v)).setCell ⟨g, 0, none⟩ (.slice A xs.length c)).setCell ⟨g, 1, none⟩ (.int .i64 ((k + j : Nat) : Int))).setCell ⟨w.heap.size, 0, none⟩ (.int .u32 v)).setCell ⟨w.heap.size + 1, 0, none⟩ (.int .i64 0)).cell? ⟨w.heap.size, 0, none⟩ = some (.int .u32 v) :=
    cell_at _ _ 0 _ _ ((((S4.setOut (.int .u32 v)).setRdr (k + j)).setOut (.int .u32 v)).setErr (.int .i64 0)).out
  have hE9 : (((((w4.setCell ⟨w.heap.size, 0, none⟩ (.int .u32 v)).setCell ⟨g, 0, none⟩ (.slice A xs.length c)).setCell ⟨g, 1, none⟩ (.int .i64 ((k + j : Nat) : Int))).setCell ⟨w.heap.size, 0, none⟩ (.int .u32 v)).setCell ⟨w.heap.size + 1, 0, none⟩ (.int .i64 0)).cell? ⟨w.heap.size + 1, 0, none⟩ = some (.int .i64 0) :=
    cell_at _ _ 0 _ _ ((((S4.setOut (.int .u32 v)).setRdr (k + j)).setOut (.int .u32 v)).setErr (.int .i64 0)).err
  have HO9 := Lib.hid hO9
  have HE9 := Lib.hid hE9
  clear hGE S4 hs3 hin hin4 hg4 hlt2 hO9 hE9 hR4
  go_wp2_with fail
  clear c1 c2 c3 c4 c5 c7 f1 f4 f5 f7
  rw [← Int.natCast_add]
  generalize (((((w4.setCell ⟨w.heap.size, 0, none⟩ (.int .u32 v)).setCell ⟨g, 0, none⟩ (.slice A xs.length c)).setCell ⟨g, 1, none⟩ (.int .i64 ((k + j : Nat) : Int))).setCell ⟨w.heap.size, 0, none⟩ (.int .u32 v)).setCell ⟨w.heap.size + 1, 0, none⟩ (.int .i64 0)) = w9 at hEnd HO9 HE9 ⊢
  have ho9 := HO9.out
  have he9 := HE9.out
  refine leaves_cons (f := 97) (args := #[.pointer (some ⟨w.heap.size, 0, none⟩), .pointer (some ⟨w.heap.size + 1, 0, none⟩)]) (by simp) (by simp [go_sem]) ?_
  refine (catch_u32_idle _ _ _).mono ?_
  rintro e u' w'' ⟨rfl, rfl, rfl⟩
  simp [Leaves, settle, results, Try.results74, go_sem, ho9, he9]
  exact ⟨v, _, rfl, hEnd.out.1, hEnd.out.2.1, HR4.out, hEnd.out.2.2⟩

set_option maxHeartbeats 3200000 in
theorem read_u32_err (F : FuncId) (cap : Array Value) (hE : ∀ (args : Array Value) (W : World), (callFunc F args).run Try.prog W = .ok (.enter F args) W) (g : Nat) (A : Option Addr) (c : Nat) (xs : List UInt8) (k : Nat) (er : Int) (w : World) (h : RdrAt w g A c xs k)
    (hF : ∀ (W : World) (B : Nat), InAt W B A c xs k → Below w.heap.size w W → Calls Try.prog F (#[.pointer (some ⟨B, 0, none⟩)] ++ cap) W fun e W' => e = .panicked (thrown er) ∧ W.grownBy W' (some B)) :
    Calls Try.prog 74 #[.pointer (some ⟨g, 0, none⟩), .func (.func F) #[] cap] w (RdErr (.int .u32 0) er w) := by
  have hmf : ∀ (fn : Fn) (first cap : Array Value) (w : World), (Instr.makeFunc fn first cap).run Try.prog w = .ok (.func fn first cap) w := fun _ _ _ _ => rfl
  have hlt := h.lt
  have H := Lib.hid h
  have HF := Lib.hid hF
  have hb3 := (((below1 (w := w) (.cells #[.int .u32 0] 28)).alloc (by simp) (.cells #[.int .i64 0] 37)).alloc (by simp; omega) (.cells #[.slice A xs.length c, .int .i64 (k : Int)] 60))
  have HB3 := Lib.hid hb3
  clear h hF hb3
  go_enter_defers Try.func74, Try.ntmps74
  go_wp2_with fail
  refine (none_ok g A c xs k _ (((H.out.below (below1 _)).below (below1 _)))).mono ?_
  rintro e w1 ⟨rfl, rfl⟩
  have hc0 := ((H.out.below (below1 (.cells #[.int .u32 0] 28))).below (below1 (.cells #[.int .i64 0] 37))).cell0
  have hc1 := ((H.out.below (below1 (.cells #[.int .u32 0] 28))).below (below1 (.cells #[.int .i64 0] 37))).cell1
  go_wp2_with fail
  clear hc0 hc1
  have hin : InAt (((w.alloc (.cells #[.int .u32 0] 28)).alloc (.cells #[.int .i64 0] 37)).alloc (.cells #[.slice A xs.length c, .int .i64 (k : Int)] 60)) (w.heap.size + 1 + 1) A c xs k := by
    refine ⟨?_, H.out.2.1.below HB3.out, H.out.2.2.1, H.out.2.2.2.1, ?_⟩
    · have := heap_alloc_new ((w.alloc (.cells #[.int .u32 0] 28)).alloc (.cells #[.int .i64 0] 37)) (.cells #[.slice A xs.length c, .int .i64 (k : Int)] 60)
      simpa using this
    · intro hx e
      have := H.out.2.1.blk hx e
      omega
  have hcall := HF.out _ _ hin HB3.out
  refine hcall.mono ?_
  rintro e w4 ⟨rfl, hg4⟩
  clear hcall hin
  have hout : w4.heap[w.heap.size]? = some (.cells #[.int .u32 0] 28 (0, 0)) := by
    rw [hg4.block _ (by simp; omega) (by simp; omega), Below.heap_alloc _ _ _ (by simp; omega), Below.heap_alloc _ _ _ (by simp; try omega)]
    exact heap_alloc_new w _
  have herr : w4.heap[w.heap.size + 1]? = some (.cells #[.int .i64 0] 37 (0, 0)) := by
    rw [hg4.block _ (by simp; try omega) (by simp), Below.heap_alloc _ _ _ (by simp)]
    have := heap_alloc_new (w.alloc (.cells #[.int .u32 0] 28)) (.cells #[.int .i64 0] 37)
    simpa using this
  have hb4 : Below w.heap.size w w4 := HB3.out.grown hg4 (by simp; omega) (fun b hb => by injection hb with hb; omega)
  have HB4 := Lib.hid hb4
  have HO := Lib.hid hout
  have HR := Lib.hid herr
  clear hg4 hb4 hout herr HB3
  go_wp2_with fail
  refine leaves_cons (f := 97) (args := #[.pointer (some ⟨w.heap.size, 0, none⟩), .pointer (some ⟨w.heap.size + 1, 0, none⟩)]) (by simp) (by simp [go_sem]) ?_
  refine (catch_u32_panicking w.heap.size (w.heap.size + 1) (.int .u32 0) 0 er [] w4 (cell_at _ _ 0 _ _ HO.out) (frozen_of_row _ _ 0 _ _ HO.out) (cell_at _ _ 0 _ _ HR.out) (frozen_of_row _ _ 0 _ _ HR.out) (by omega)).mono ?_
  rintro e u' w'' ⟨rfl, rfl, rfl⟩
  have ho9 : ((w4.setCell ⟨w.heap.size, 0, none⟩ (.int .u32 0)).setCell ⟨w.heap.size + 1, 0, none⟩ (.int .i64 er)).cell? ⟨w.heap.size, 0, none⟩ = some (.int .u32 0) := by
    rw [World.cell?_setCell_other _ _ _ _ (by intro e; injection e with e; omega)]
    exact World.cell?_setCell_same _ _ _ (cell_is _ _ 0 _ _ _ HO.out rfl)
  have he9 : ((w4.setCell ⟨w.heap.size, 0, none⟩ (.int .u32 0)).setCell ⟨w.heap.size + 1, 0, none⟩ (.int .i64 er)).cell? ⟨w.heap.size + 1, 0, none⟩ = some (.int .i64 er) := by
    have h0 : (w4.setCell ⟨w.heap.size, 0, none⟩ (.int .u32 0)).cell? ⟨w.heap.size + 1, 0, none⟩ = some (.int .i64 0) := by
      rw [World.cell?_setCell_other _ _ _ _ (by intro e; injection e with e; omega)]
      exact cell_is _ _ 0 _ _ _ HR.out rfl
    exact World.cell?_setCell_same _ _ _ h0
  have hb9 : Below w.heap.size w ((w4.setCell ⟨w.heap.size, 0, none⟩ (.int .u32 0)).setCell ⟨w.heap.size + 1, 0, none⟩ (.int .i64 er)) := (HB4.out.setCell (by simp) _).setCell (by simp) _
  generalize (w4.setCell ⟨w.heap.size, 0, none⟩ (.int .u32 0)).setCell ⟨w.heap.size + 1, 0, none⟩ (.int .i64 er) = w9 at ho9 he9 hb9 ⊢
  simp [Leaves, settle, results, Try.results74, go_sem, ho9, he9]
  exact ⟨rfl, hb9⟩

set_option maxHeartbeats 1600000 in
theorem read_u32_nil (r : Value) (fv : Value) (w : World) (hN : ∀ W, Below w.heap.size w W → Calls Try.prog 61 #[r] W fun e w' => e = .returned (.bool true) ∧ W = w') :
    Calls Try.prog 74 #[r, fv] w (RdErr (.int .u32 0) 1 w) := by
  have hb2 := (below1 (w := w) (.cells #[.int .u32 0] 28)).alloc (by simp) (.cells #[.int .i64 0] 37)
  have HB2 := Lib.hid hb2
  have HN := Lib.hid hN
  clear hN hb2
  go_enter_defers Try.func74, Try.ntmps74
  go_wp2_with fail
  refine (HN.out _ HB2.out).mono ?_
  rintro e w1 ⟨rfl, rfl⟩
  go_wp2_with fail
  have ho9 : ((w.alloc (.cells #[.int .u32 0] 28)).alloc (.cells #[.int .i64 1] 37)).cell? ⟨w.heap.size, 0, none⟩ = some (.int .u32 0) := by
    refine cell_is _ _ 0 #[.int .u32 0] 28 _ ?_ rfl
    rw [Below.heap_alloc _ _ _ (by simp)]
    exact heap_alloc_new w _
  have he9 : ((w.alloc (.cells #[.int .u32 0] 28)).alloc (.cells #[.int .i64 1] 37)).cell? ⟨w.heap.size + 1, 0, none⟩ = some (.int .i64 1) := by
    refine cell_is _ _ 0 #[.int .i64 1] 37 _ ?_ rfl
    have := heap_alloc_new (w.alloc (.cells #[.int .u32 0] 28)) (.cells #[.int .i64 1] 37)
    simpa using this
  have hb9 : Below w.heap.size w ((w.alloc (.cells #[.int .u32 0] 28)).alloc (.cells #[.int .i64 1] 37)) := (below1 (w := w) (.cells #[.int .u32 0] 28)).alloc (by simp) (.cells #[.int .i64 1] 37)
  generalize (w.alloc (.cells #[.int .u32 0] 28)).alloc (.cells #[.int .i64 1] 37) = w9 at ho9 he9 hb9 ⊢
  simp [bodyPostD, Leaves, settle, results, Try.results74, go_sem, ho9, he9]
  exact ⟨rfl, hb9⟩

set_option maxHeartbeats 1600000 in
theorem catch_str_panicking (p q : Nat) (x : Value) (y ev : Int) (older : List PanicEntry) (w : World) (hc : w.cell? ⟨p, 0, none⟩ = some x) (hz : w.frozen? ⟨p, 0, none⟩ = false)
    (hc2 : w.cell? ⟨q, 0, none⟩ = some (.int .i64 y)) (hz2 : w.frozen? ⟨q, 0, none⟩ = false) (hpq : q ≠ p) :
    CallsD Try.prog 98 #[.pointer (some ⟨p, 0, none⟩), .pointer (some ⟨q, 0, none⟩)] (.panicking ({ v := .iface 37 (.int .i64 ev), recovered := false } :: older)) w fun e u' w' =>
      e = .returned (.tuple #[]) ∧ u' = .panicking ({ v := .iface 37 (.int .i64 ev), recovered := true } :: older) ∧ w' = (w.setCell ⟨p, 0, none⟩ (.string ⟨#[]⟩)).setCell ⟨q, 0, none⟩ (.int .i64 ev) := by
  refine callsD_of_wpS Try.func98 rfl fun c₀ cs hu => ?_
  apply wpS_seq
  apply wpS_region
  simp [wpOpsS, go_sem, recoverD, hu, Try.ntmps98, Exit.thenS]
  refine wpS_of_wp ?_
  simp only [Array.replicate_succ, Array.replicate_zero, List.push_toArray, List.append_toArray, List.nil_append, List.cons_append, List.setIfInBounds_toArray, List.set_cons_succ, List.set_cons_zero]
  have hc2' : (w.setCell ⟨p, 0, none⟩ (.string ⟨#[]⟩)).cell? ⟨q, 0, none⟩ = some (.int .i64 y) := by rw [World.cell?_setCell_other _ _ _ _ (by intro e; injection e with e; exact hpq e.symm)]; exact hc2
  have hz2' : (w.setCell ⟨p, 0, none⟩ (.string ⟨#[]⟩)).frozen? ⟨q, 0, none⟩ = false := by rw [World.frozen?_setCell]; exact hz2
  have hta := run_assert_errno ev
  go_wp2
  exact ⟨rfl, _, rfl, _, results_none rfl _ _ _, rfl, rfl, rfl⟩

set_option maxHeartbeats 1600000 in
theorem catch_str_idle (p q : Addr) (w : World) :
    CallsD Try.prog 98 #[.pointer (some p), .pointer (some q)] .returning w fun e u' w' => e = .returned (.tuple #[]) ∧ u' = .returning ∧ w' = w := by
  refine callsD_of_wpS Try.func98 rfl fun c₀ cs hu => ?_
  apply wpS_seq
  apply wpS_region
  simp [wpOpsS, go_sem, recoverD, hu, Try.ntmps98, Exit.thenS]
  refine wpS_of_wp ?_
  simp only [Array.replicate_succ, Array.replicate_zero, List.push_toArray, List.append_toArray, List.nil_append, List.cons_append, List.setIfInBounds_toArray, List.set_cons_succ, List.set_cons_zero]
  go_wp2
  cases c₀
  exact ⟨rfl, _, by simp_all, _, results_none rfl _ _ _, rfl, rfl, rfl⟩

set_option maxHeartbeats 3200000 in
theorem read_str_ok (F : FuncId) (cap : Array Value) (hE : ∀ (args : Array Value) (W : World), (callFunc F args).run Try.prog W = .ok (.enter F args) W) (g : Nat) (A : Option Addr) (c : Nat) (xs : List UInt8) (k j : Nat) (w : World) (h : RdrAt w g A c xs k)
    (R : ByteArray → World → Prop)
    (hF : ∀ (W : World) (B : Nat), InAt W B A c xs k → Below w.heap.size w W → w.heap.size + 3 ≤ W.heap.size → Calls Try.prog F (#[.pointer (some ⟨B, 0, none⟩)] ++ cap) W fun e W' => ∃ v, e = .returned (.string v) ∧ InAt W' B A c xs (k + j) ∧ W.grownBy W' (some B) ∧ R v W') :
    Calls Try.prog 78 #[.pointer (some ⟨g, 0, none⟩), .func (.func F) #[] cap] w fun e w' => RdOk (fun v : ByteArray => .string v) R w g A c xs (k + j) e w' := by
  have hmf : ∀ (fn : Fn) (first cap : Array Value) (w : World), (Instr.makeFunc fn first cap).run Try.prog w = .ok (.func fn first cap) w := fun _ _ _ _ => rfl
  have hlt := h.lt
  have H := Lib.hid h
  have HF := Lib.hid hF
  have hb3 := (((below1 (w := w) (.cells #[.string ⟨#[]⟩] 9)).alloc (by simp) (.cells #[.int .i64 0] 37)).alloc (by simp; omega) (.cells #[.slice A xs.length c, .int .i64 (k : Int)] 60))
  have HB3 := Lib.hid hb3
  clear h hF hb3
  go_enter_defers Try.func78, Try.ntmps78
  go_wp2_with fail
  refine (none_ok g A c xs k _ (((H.out.below (below1 _)).below (below1 _)))).mono ?_
  rintro e w1 ⟨rfl, rfl⟩
  have hc0 := ((H.out.below (below1 (.cells #[.string ⟨#[]⟩] 9))).below (below1 (.cells #[.int .i64 0] 37))).cell0
  have hc1 := ((H.out.below (below1 (.cells #[.string ⟨#[]⟩] 9))).below (below1 (.cells #[.int .i64 0] 37))).cell1
  go_wp2_with fail
  clear hc0 hc1
  have hin : InAt (((w.alloc (.cells #[.string ⟨#[]⟩] 9)).alloc (.cells #[.int .i64 0] 37)).alloc (.cells #[.slice A xs.length c, .int .i64 (k : Int)] 60)) (w.heap.size + 1 + 1) A c xs k := by
    refine ⟨?_, H.out.2.1.below HB3.out, H.out.2.2.1, H.out.2.2.2.1, ?_⟩
    · have := heap_alloc_new ((w.alloc (.cells #[.string ⟨#[]⟩] 9)).alloc (.cells #[.int .i64 0] 37)) (.cells #[.slice A xs.length c, .int .i64 (k : Int)] 60)
      simpa using this
    · intro hx e
      have := H.out.2.1.blk hx e
      omega
  have hs3 : ReadSt (((w.alloc (.cells #[.string ⟨#[]⟩] 9)).alloc (.cells #[.int .i64 0] 37)).alloc (.cells #[.slice A xs.length c, .int .i64 (k : Int)] 60)) g w.heap.size (w.heap.size + 1) (w.heap.size + 1 + 1) 9 A c xs k k (.string ⟨#[]⟩) (.int .i64 0) := by
    refine ⟨?_, ?_, ?_, hin.1, by omega, by omega, by omega, by omega, by omega, by omega⟩
    · rw [HB3.out.block g hlt]; exact H.out.1
    · rw [Below.heap_alloc _ _ _ (by simp; omega), Below.heap_alloc _ _ _ (by simp; try omega)]; exact heap_alloc_new w _
    · rw [Below.heap_alloc _ _ _ (by simp)]
      have := heap_alloc_new (w.alloc (.cells #[.string ⟨#[]⟩] 9)) (.cells #[.int .i64 0] 37)
      simpa using this
  have hsz : w.heap.size + 3 ≤ (((w.alloc (.cells #[.string ⟨#[]⟩] 9)).alloc (.cells #[.int .i64 0] 37)).alloc (.cells #[.slice A xs.length c, .int .i64 (k : Int)] 60)).heap.size := by simp
  have hcall := HF.out _ _ hin HB3.out hsz
  refine hcall.mono ?_
  rintro e w4 ⟨v, rfl, hin4, hg4, hR4⟩
  clear hcall hsz
  have hlt2 : w.heap.size + 1 + 1 < (((w.alloc (.cells #[.string ⟨#[]⟩] 9)).alloc (.cells #[.int .i64 0] 37)).alloc (.cells #[.slice A xs.length c, .int .i64 (k : Int)] 60)).heap.size := by simp
  have S4 : ReadSt w4 g w.heap.size (w.heap.size + 1) (w.heap.size + 1 + 1) 9 A c xs k (k + j) (.string ⟨#[]⟩) (.int .i64 0) := by
    refine ⟨?_, ?_, ?_, hin4.1, hs3.g0, hs3.g1, hs3.g2, hs3.e1, hs3.e2, hs3.e3⟩
    · rw [hg4.block g (by omega) (by simp; omega)]; exact hs3.rdr
    · rw [hg4.block _ (by omega) (by simp; omega)]; exact hs3.out
    · rw [hg4.block _ (by omega) (by simp)]; exact hs3.err
  have c1 := cell_at _ _ 0 _ _ S4.out
  have f1 := frozen_of_row _ _ 0 _ _ S4.out
  have c2 := cell_at _ _ 0 _ _ S4.inp
  have c3 := cell_at _ _ 1 _ _ S4.inp
  have c4 := cell_at _ _ 0 _ _ S4.rdr
  have f4 := frozen_of_row _ _ 0 _ _ S4.rdr
  have c5 := cell_at _ _ 1 _ _ S4.rdr
  have f5 := frozen_of_row _ _ 1 _ _ S4.rdr
  have c7 := cell_at _ _ 0 _ _ S4.err
  have f7 := frozen_of_row _ _ 0 _ _ S4.err
  have n0 := S4.g0
  have n1 := S4.g1
  have n2 := S4.g2
  have m0 := Ne.symm S4.g0
  have m1 := Ne.symm S4.g1
  have m2 := Ne.symm S4.g2
  simp only [List.getElem?_toArray, List.getElem?_cons_zero, List.getElem?_cons_succ] at c1 c2 c3 c4 c5 c7
  have hGE := grown_then (grown_of_below HB3.out (some g)) hg4 (by omega)
  have hEnd := Lib.hid (read_end H.out rfl rfl (.string v) S4 hin4 hGE)
  have HR4 := Lib.hid hR4
  have hO9 : (((((w4.setCell ⟨w.heap.size, 0, none⟩ (.string v)).setCell ⟨g, 0, none⟩ (.slice A xs.length c)).setCell ⟨g, 1, none⟩ (.int .i64 ((k + j : Nat) : Int))).setCell ⟨w.heap.size, 0, none⟩ (.string v)).setCell ⟨w.heap.size + 1, 0, none⟩ (.int .i64 0)).cell? ⟨w.heap.size, 0, none⟩ = some (.string v) :=
    cell_at _ _ 0 _ _ ((((S4.setOut (.string v)).setRdr (k + j)).setOut (.string v)).setErr (.int .i64 0)).out
  have hE9 : (((((w4.setCell ⟨w.heap.size, 0, none⟩ (.string v)).setCell ⟨g, 0, none⟩ (.slice A xs.length c)).setCell ⟨g, 1, none⟩ (.int .i64 ((k + j : Nat) : Int))).setCell ⟨w.heap.size, 0, none⟩ (.string v)).setCell ⟨w.heap.size + 1, 0, none⟩ (.int .i64 0)).cell? ⟨w.heap.size + 1, 0, none⟩ = some (.int .i64 0) :=
    cell_at _ _ 0 _ _ ((((S4.setOut (.string v)).setRdr (k + j)).setOut (.string v)).setErr (.int .i64 0)).err
  have HO9 := Lib.hid hO9
  have HE9 := Lib.hid hE9
  clear hGE S4 hs3 hin hin4 hg4 hlt2 hO9 hE9 hR4
  go_wp2_with fail
  clear c1 c2 c3 c4 c5 c7 f1 f4 f5 f7
  rw [← Int.natCast_add]
  generalize (((((w4.setCell ⟨w.heap.size, 0, none⟩ (.string v)).setCell ⟨g, 0, none⟩ (.slice A xs.length c)).setCell ⟨g, 1, none⟩ (.int .i64 ((k + j : Nat) : Int))).setCell ⟨w.heap.size, 0, none⟩ (.string v)).setCell ⟨w.heap.size + 1, 0, none⟩ (.int .i64 0)) = w9 at hEnd HO9 HE9 ⊢
  have ho9 := HO9.out
  have he9 := HE9.out
  refine leaves_cons (f := 98) (args := #[.pointer (some ⟨w.heap.size, 0, none⟩), .pointer (some ⟨w.heap.size + 1, 0, none⟩)]) (by simp) (by simp [go_sem]) ?_
  refine (catch_str_idle _ _ _).mono ?_
  rintro e u' w'' ⟨rfl, rfl, rfl⟩
  simp [Leaves, settle, results, Try.results78, go_sem, ho9, he9]
  exact ⟨v, _, rfl, hEnd.out.1, hEnd.out.2.1, HR4.out, hEnd.out.2.2⟩

set_option maxHeartbeats 3200000 in
theorem read_str_err (F : FuncId) (cap : Array Value) (hE : ∀ (args : Array Value) (W : World), (callFunc F args).run Try.prog W = .ok (.enter F args) W) (g : Nat) (A : Option Addr) (c : Nat) (xs : List UInt8) (k : Nat) (er : Int) (w : World) (h : RdrAt w g A c xs k)
    (hF : ∀ (W : World) (B : Nat), InAt W B A c xs k → Below w.heap.size w W → Calls Try.prog F (#[.pointer (some ⟨B, 0, none⟩)] ++ cap) W fun e W' => e = .panicked (thrown er) ∧ W.grownBy W' (some B)) :
    Calls Try.prog 78 #[.pointer (some ⟨g, 0, none⟩), .func (.func F) #[] cap] w (RdErr (.string ⟨#[]⟩) er w) := by
  have hmf : ∀ (fn : Fn) (first cap : Array Value) (w : World), (Instr.makeFunc fn first cap).run Try.prog w = .ok (.func fn first cap) w := fun _ _ _ _ => rfl
  have hlt := h.lt
  have H := Lib.hid h
  have HF := Lib.hid hF
  have hb3 := (((below1 (w := w) (.cells #[.string ⟨#[]⟩] 9)).alloc (by simp) (.cells #[.int .i64 0] 37)).alloc (by simp; omega) (.cells #[.slice A xs.length c, .int .i64 (k : Int)] 60))
  have HB3 := Lib.hid hb3
  clear h hF hb3
  go_enter_defers Try.func78, Try.ntmps78
  go_wp2_with fail
  refine (none_ok g A c xs k _ (((H.out.below (below1 _)).below (below1 _)))).mono ?_
  rintro e w1 ⟨rfl, rfl⟩
  have hc0 := ((H.out.below (below1 (.cells #[.string ⟨#[]⟩] 9))).below (below1 (.cells #[.int .i64 0] 37))).cell0
  have hc1 := ((H.out.below (below1 (.cells #[.string ⟨#[]⟩] 9))).below (below1 (.cells #[.int .i64 0] 37))).cell1
  go_wp2_with fail
  clear hc0 hc1
  have hin : InAt (((w.alloc (.cells #[.string ⟨#[]⟩] 9)).alloc (.cells #[.int .i64 0] 37)).alloc (.cells #[.slice A xs.length c, .int .i64 (k : Int)] 60)) (w.heap.size + 1 + 1) A c xs k := by
    refine ⟨?_, H.out.2.1.below HB3.out, H.out.2.2.1, H.out.2.2.2.1, ?_⟩
    · have := heap_alloc_new ((w.alloc (.cells #[.string ⟨#[]⟩] 9)).alloc (.cells #[.int .i64 0] 37)) (.cells #[.slice A xs.length c, .int .i64 (k : Int)] 60)
      simpa using this
    · intro hx e
      have := H.out.2.1.blk hx e
      omega
  have hcall := HF.out _ _ hin HB3.out
  refine hcall.mono ?_
  rintro e w4 ⟨rfl, hg4⟩
  clear hcall hin
  have hout : w4.heap[w.heap.size]? = some (.cells #[.string ⟨#[]⟩] 9 (0, 0)) := by
    rw [hg4.block _ (by simp; omega) (by simp; omega), Below.heap_alloc _ _ _ (by simp; omega), Below.heap_alloc _ _ _ (by simp; try omega)]
    exact heap_alloc_new w _
  have herr : w4.heap[w.heap.size + 1]? = some (.cells #[.int .i64 0] 37 (0, 0)) := by
    rw [hg4.block _ (by simp; try omega) (by simp), Below.heap_alloc _ _ _ (by simp)]
    have := heap_alloc_new (w.alloc (.cells #[.string ⟨#[]⟩] 9)) (.cells #[.int .i64 0] 37)
    simpa using this
  have hb4 : Below w.heap.size w w4 := HB3.out.grown hg4 (by simp; omega) (fun b hb => by injection hb with hb; omega)
  have HB4 := Lib.hid hb4
  have HO := Lib.hid hout
  have HR := Lib.hid herr
  clear hg4 hb4 hout herr HB3
  go_wp2_with fail
  refine leaves_cons (f := 98) (args := #[.pointer (some ⟨w.heap.size, 0, none⟩), .pointer (some ⟨w.heap.size + 1, 0, none⟩)]) (by simp) (by simp [go_sem]) ?_
  refine (catch_str_panicking w.heap.size (w.heap.size + 1) (.string ⟨#[]⟩) 0 er [] w4 (cell_at _ _ 0 _ _ HO.out) (frozen_of_row _ _ 0 _ _ HO.out) (cell_at _ _ 0 _ _ HR.out) (frozen_of_row _ _ 0 _ _ HR.out) (by omega)).mono ?_
  rintro e u' w'' ⟨rfl, rfl, rfl⟩
  have ho9 : ((w4.setCell ⟨w.heap.size, 0, none⟩ (.string ⟨#[]⟩)).setCell ⟨w.heap.size + 1, 0, none⟩ (.int .i64 er)).cell? ⟨w.heap.size, 0, none⟩ = some (.string ⟨#[]⟩) := by
    rw [World.cell?_setCell_other _ _ _ _ (by intro e; injection e with e; omega)]
    exact World.cell?_setCell_same _ _ _ (cell_is _ _ 0 _ _ _ HO.out rfl)
  have he9 : ((w4.setCell ⟨w.heap.size, 0, none⟩ (.string ⟨#[]⟩)).setCell ⟨w.heap.size + 1, 0, none⟩ (.int .i64 er)).cell? ⟨w.heap.size + 1, 0, none⟩ = some (.int .i64 er) := by
    have h0 : (w4.setCell ⟨w.heap.size, 0, none⟩ (.string ⟨#[]⟩)).cell? ⟨w.heap.size + 1, 0, none⟩ = some (.int .i64 0) := by
      rw [World.cell?_setCell_other _ _ _ _ (by intro e; injection e with e; omega)]
      exact cell_is _ _ 0 _ _ _ HR.out rfl
    exact World.cell?_setCell_same _ _ _ h0
  have hb9 : Below w.heap.size w ((w4.setCell ⟨w.heap.size, 0, none⟩ (.string ⟨#[]⟩)).setCell ⟨w.heap.size + 1, 0, none⟩ (.int .i64 er)) := (HB4.out.setCell (by simp) _).setCell (by simp) _
  generalize (w4.setCell ⟨w.heap.size, 0, none⟩ (.string ⟨#[]⟩)).setCell ⟨w.heap.size + 1, 0, none⟩ (.int .i64 er) = w9 at ho9 he9 hb9 ⊢
  simp [Leaves, settle, results, Try.results78, go_sem, ho9, he9]
  exact ⟨rfl, hb9⟩

set_option maxHeartbeats 1600000 in
theorem read_str_nil (r : Value) (fv : Value) (w : World) (hN : ∀ W, Below w.heap.size w W → Calls Try.prog 61 #[r] W fun e w' => e = .returned (.bool true) ∧ W = w') :
    Calls Try.prog 78 #[r, fv] w (RdErr (.string ⟨#[]⟩) 1 w) := by
  have hb2 := (below1 (w := w) (.cells #[.string ⟨#[]⟩] 9)).alloc (by simp) (.cells #[.int .i64 0] 37)
  have HB2 := Lib.hid hb2
  have HN := Lib.hid hN
  clear hN hb2
  go_enter_defers Try.func78, Try.ntmps78
  go_wp2_with fail
  refine (HN.out _ HB2.out).mono ?_
  rintro e w1 ⟨rfl, rfl⟩
  go_wp2_with fail
  have ho9 : ((w.alloc (.cells #[.string ⟨#[]⟩] 9)).alloc (.cells #[.int .i64 1] 37)).cell? ⟨w.heap.size, 0, none⟩ = some (.string ⟨#[]⟩) := by
    refine cell_is _ _ 0 #[.string ⟨#[]⟩] 9 _ ?_ rfl
    rw [Below.heap_alloc _ _ _ (by simp)]
    exact heap_alloc_new w _
  have he9 : ((w.alloc (.cells #[.string ⟨#[]⟩] 9)).alloc (.cells #[.int .i64 1] 37)).cell? ⟨w.heap.size + 1, 0, none⟩ = some (.int .i64 1) := by
    refine cell_is _ _ 0 #[.int .i64 1] 37 _ ?_ rfl
    have := heap_alloc_new (w.alloc (.cells #[.string ⟨#[]⟩] 9)) (.cells #[.int .i64 1] 37)
    simpa using this
  have hb9 : Below w.heap.size w ((w.alloc (.cells #[.string ⟨#[]⟩] 9)).alloc (.cells #[.int .i64 1] 37)) := (below1 (w := w) (.cells #[.string ⟨#[]⟩] 9)).alloc (by simp) (.cells #[.int .i64 1] 37)
  generalize (w.alloc (.cells #[.string ⟨#[]⟩] 9)).alloc (.cells #[.int .i64 1] 37) = w9 at ho9 he9 hb9 ⊢
  simp [bodyPostD, Leaves, settle, results, Try.results78, go_sem, ho9, he9]
  exact ⟨rfl, hb9⟩

set_option maxHeartbeats 1600000 in
theorem catch_byt_panicking (p q : Nat) (x : Value) (y ev : Int) (older : List PanicEntry) (w : World) (hc : w.cell? ⟨p, 0, none⟩ = some x) (hz : w.frozen? ⟨p, 0, none⟩ = false)
    (hc2 : w.cell? ⟨q, 0, none⟩ = some (.int .i64 y)) (hz2 : w.frozen? ⟨q, 0, none⟩ = false) (hpq : q ≠ p) :
    CallsD Try.prog 93 #[.pointer (some ⟨p, 0, none⟩), .pointer (some ⟨q, 0, none⟩)] (.panicking ({ v := .iface 37 (.int .i64 ev), recovered := false } :: older)) w fun e u' w' =>
      e = .returned (.tuple #[]) ∧ u' = .panicking ({ v := .iface 37 (.int .i64 ev), recovered := true } :: older) ∧ w' = (w.setCell ⟨p, 0, none⟩ (.slice none 0 0)).setCell ⟨q, 0, none⟩ (.int .i64 ev) := by
  refine callsD_of_wpS Try.func93 rfl fun c₀ cs hu => ?_
  apply wpS_seq
  apply wpS_region
  simp [wpOpsS, go_sem, recoverD, hu, Try.ntmps93, Exit.thenS]
  refine wpS_of_wp ?_
  simp only [Array.replicate_succ, Array.replicate_zero, List.push_toArray, List.append_toArray, List.nil_append, List.cons_append, List.setIfInBounds_toArray, List.set_cons_succ, List.set_cons_zero]
  have hc2' : (w.setCell ⟨p, 0, none⟩ (.slice none 0 0)).cell? ⟨q, 0, none⟩ = some (.int .i64 y) := by rw [World.cell?_setCell_other _ _ _ _ (by intro e; injection e with e; exact hpq e.symm)]; exact hc2
  have hz2' : (w.setCell ⟨p, 0, none⟩ (.slice none 0 0)).frozen? ⟨q, 0, none⟩ = false := by rw [World.frozen?_setCell]; exact hz2
  have hta := run_assert_errno ev
  go_wp2
  exact ⟨rfl, _, rfl, _, results_none rfl _ _ _, rfl, rfl, rfl⟩

set_option maxHeartbeats 1600000 in
theorem catch_byt_idle (p q : Addr) (w : World) :
    CallsD Try.prog 93 #[.pointer (some p), .pointer (some q)] .returning w fun e u' w' => e = .returned (.tuple #[]) ∧ u' = .returning ∧ w' = w := by
  refine callsD_of_wpS Try.func93 rfl fun c₀ cs hu => ?_
  apply wpS_seq
  apply wpS_region
  simp [wpOpsS, go_sem, recoverD, hu, Try.ntmps93, Exit.thenS]
  refine wpS_of_wp ?_
  simp only [Array.replicate_succ, Array.replicate_zero, List.push_toArray, List.append_toArray, List.nil_append, List.cons_append, List.setIfInBounds_toArray, List.set_cons_succ, List.set_cons_zero]
  go_wp2
  cases c₀
  exact ⟨rfl, _, by simp_all, _, results_none rfl _ _ _, rfl, rfl, rfl⟩

set_option maxHeartbeats 3200000 in
theorem read_byt_ok (F : FuncId) (cap : Array Value) (hE : ∀ (args : Array Value) (W : World), (callFunc F args).run Try.prog W = .ok (.enter F args) W) (g : Nat) (A : Option Addr) (c : Nat) (xs : List UInt8) (k j : Nat) (w : World) (h : RdrAt w g A c xs k)
    (R : Option Addr × Nat × Nat → World → Prop)
    (hF : ∀ (W : World) (B : Nat), InAt W B A c xs k → Below w.heap.size w W → w.heap.size + 3 ≤ W.heap.size → Calls Try.prog F (#[.pointer (some ⟨B, 0, none⟩)] ++ cap) W fun e W' => ∃ v, e = .returned (.slice v.1 v.2.1 v.2.2) ∧ InAt W' B A c xs (k + j) ∧ W.grownBy W' (some B) ∧ R v W') :
    Calls Try.prog 59 #[.pointer (some ⟨g, 0, none⟩), .func (.func F) #[] cap] w fun e w' => RdOk (fun v : Option Addr × Nat × Nat => .slice v.1 v.2.1 v.2.2) R w g A c xs (k + j) e w' := by
  have hmf : ∀ (fn : Fn) (first cap : Array Value) (w : World), (Instr.makeFunc fn first cap).run Try.prog w = .ok (.func fn first cap) w := fun _ _ _ _ => rfl
  have hlt := h.lt
  have H := Lib.hid h
  have HF := Lib.hid hF
  have hb3 := (((below1 (w := w) (.cells #[.slice none 0 0] 24)).alloc (by simp) (.cells #[.int .i64 0] 37)).alloc (by simp; omega) (.cells #[.slice A xs.length c, .int .i64 (k : Int)] 60))
  have HB3 := Lib.hid hb3
  clear h hF hb3
  go_enter_defers Try.func59, Try.ntmps59
  go_wp2_with fail
  refine (none_ok g A c xs k _ (((H.out.below (below1 _)).below (below1 _)))).mono ?_
  rintro e w1 ⟨rfl, rfl⟩
  have hc0 := ((H.out.below (below1 (.cells #[.slice none 0 0] 24))).below (below1 (.cells #[.int .i64 0] 37))).cell0
  have hc1 := ((H.out.below (below1 (.cells #[.slice none 0 0] 24))).below (below1 (.cells #[.int .i64 0] 37))).cell1
  go_wp2_with fail
  clear hc0 hc1
  have hin : InAt (((w.alloc (.cells #[.slice none 0 0] 24)).alloc (.cells #[.int .i64 0] 37)).alloc (.cells #[.slice A xs.length c, .int .i64 (k : Int)] 60)) (w.heap.size + 1 + 1) A c xs k := by
    refine ⟨?_, H.out.2.1.below HB3.out, H.out.2.2.1, H.out.2.2.2.1, ?_⟩
    · have := heap_alloc_new ((w.alloc (.cells #[.slice none 0 0] 24)).alloc (.cells #[.int .i64 0] 37)) (.cells #[.slice A xs.length c, .int .i64 (k : Int)] 60)
      simpa using this
    · intro hx e
      have := H.out.2.1.blk hx e
      omega
  have hs3 : ReadSt (((w.alloc (.cells #[.slice none 0 0] 24)).alloc (.cells #[.int .i64 0] 37)).alloc (.cells #[.slice A xs.length c, .int .i64 (k : Int)] 60)) g w.heap.size (w.heap.size + 1) (w.heap.size + 1 + 1) 24 A c xs k k (.slice none 0 0) (.int .i64 0) := by
    refine ⟨?_, ?_, ?_, hin.1, by omega, by omega, by omega, by omega, by omega, by omega⟩
    · rw [HB3.out.block g hlt]; exact H.out.1
    · rw [Below.heap_alloc _ _ _ (by simp; omega), Below.heap_alloc _ _ _ (by simp; try omega)]; exact heap_alloc_new w _
    · rw [Below.heap_alloc _ _ _ (by simp)]
      have := heap_alloc_new (w.alloc (.cells #[.slice none 0 0] 24)) (.cells #[.int .i64 0] 37)
      simpa using this
  have hsz : w.heap.size + 3 ≤ (((w.alloc (.cells #[.slice none 0 0] 24)).alloc (.cells #[.int .i64 0] 37)).alloc (.cells #[.slice A xs.length c, .int .i64 (k : Int)] 60)).heap.size := by simp
  have hcall := HF.out _ _ hin HB3.out hsz
  refine hcall.mono ?_
  rintro e w4 ⟨v, rfl, hin4, hg4, hR4⟩
  clear hcall hsz
  have hlt2 : w.heap.size + 1 + 1 < (((w.alloc (.cells #[.slice none 0 0] 24)).alloc (.cells #[.int .i64 0] 37)).alloc (.cells #[.slice A xs.length c, .int .i64 (k : Int)] 60)).heap.size := by simp
  have S4 : ReadSt w4 g w.heap.size (w.heap.size + 1) (w.heap.size + 1 + 1) 24 A c xs k (k + j) (.slice none 0 0) (.int .i64 0) := by
    refine ⟨?_, ?_, ?_, hin4.1, hs3.g0, hs3.g1, hs3.g2, hs3.e1, hs3.e2, hs3.e3⟩
    · rw [hg4.block g (by omega) (by simp; omega)]; exact hs3.rdr
    · rw [hg4.block _ (by omega) (by simp; omega)]; exact hs3.out
    · rw [hg4.block _ (by omega) (by simp)]; exact hs3.err
  have c1 := cell_at _ _ 0 _ _ S4.out
  have f1 := frozen_of_row _ _ 0 _ _ S4.out
  have c2 := cell_at _ _ 0 _ _ S4.inp
  have c3 := cell_at _ _ 1 _ _ S4.inp
  have c4 := cell_at _ _ 0 _ _ S4.rdr
  have f4 := frozen_of_row _ _ 0 _ _ S4.rdr
  have c5 := cell_at _ _ 1 _ _ S4.rdr
  have f5 := frozen_of_row _ _ 1 _ _ S4.rdr
  have c7 := cell_at _ _ 0 _ _ S4.err
  have f7 := frozen_of_row _ _ 0 _ _ S4.err
  have n0 := S4.g0
  have n1 := S4.g1
  have n2 := S4.g2
  have m0 := Ne.symm S4.g0
  have m1 := Ne.symm S4.g1
  have m2 := Ne.symm S4.g2
  simp only [List.getElem?_toArray, List.getElem?_cons_zero, List.getElem?_cons_succ] at c1 c2 c3 c4 c5 c7
  have hGE := grown_then (grown_of_below HB3.out (some g)) hg4 (by omega)
  have hEnd := Lib.hid (read_end H.out rfl rfl (.slice v.1 v.2.1 v.2.2) S4 hin4 hGE)
  have HR4 := Lib.hid hR4
  have hO9 : (((((w4.setCell ⟨w.heap.size, 0, none⟩ (.slice v.1 v.2.1 v.2.2)).setCell ⟨g, 0, none⟩ (.slice A xs.length c)).setCell ⟨g, 1, none⟩ (.int .i64 ((k + j : Nat) : Int))).setCell ⟨w.heap.size, 0, none⟩ (.slice v.1 v.2.1 v.2.2)).setCell ⟨w.heap.size + 1, 0, none⟩ (.int .i64 0)).cell? ⟨w.heap.size, 0, none⟩ = some (.slice v.1 v.2.1 v.2.2) :=
    cell_at _ _ 0 _ _ ((((S4.setOut (.slice v.1 v.2.1 v.2.2)).setRdr (k + j)).setOut (.slice v.1 v.2.1 v.2.2)).setErr (.int .i64 0)).out
  have hE9 : (((((w4.setCell ⟨w.heap.size, 0, none⟩ (.slice v.1 v.2.1 v.2.2)).setCell ⟨g, 0, none⟩ (.slice A xs.length c)).setCell ⟨g, 1, none⟩ (.int .i64 ((k + j : Nat) : Int))).setCell ⟨w.heap.size, 0, none⟩ (.slice v.1 v.2.1 v.2.2)).setCell ⟨w.heap.size + 1, 0, none⟩ (.int .i64 0)).cell? ⟨w.heap.size + 1, 0, none⟩ = some (.int .i64 0) :=
    cell_at _ _ 0 _ _ ((((S4.setOut (.slice v.1 v.2.1 v.2.2)).setRdr (k + j)).setOut (.slice v.1 v.2.1 v.2.2)).setErr (.int .i64 0)).err
  have HO9 := Lib.hid hO9
  have HE9 := Lib.hid hE9
  clear hGE S4 hs3 hin hin4 hg4 hlt2 hO9 hE9 hR4
  go_wp2_with fail
  clear c1 c2 c3 c4 c5 c7 f1 f4 f5 f7
  rw [← Int.natCast_add]
  generalize (((((w4.setCell ⟨w.heap.size, 0, none⟩ (.slice v.1 v.2.1 v.2.2)).setCell ⟨g, 0, none⟩ (.slice A xs.length c)).setCell ⟨g, 1, none⟩ (.int .i64 ((k + j : Nat) : Int))).setCell ⟨w.heap.size, 0, none⟩ (.slice v.1 v.2.1 v.2.2)).setCell ⟨w.heap.size + 1, 0, none⟩ (.int .i64 0)) = w9 at hEnd HO9 HE9 ⊢
  have ho9 := HO9.out
  have he9 := HE9.out
  refine leaves_cons (f := 93) (args := #[.pointer (some ⟨w.heap.size, 0, none⟩), .pointer (some ⟨w.heap.size + 1, 0, none⟩)]) (by simp) (by simp [go_sem]) ?_
  refine (catch_byt_idle _ _ _).mono ?_
  rintro e u' w'' ⟨rfl, rfl, rfl⟩
  simp [Leaves, settle, results, Try.results59, go_sem, ho9, he9]
  exact ⟨v, _, rfl, hEnd.out.1, hEnd.out.2.1, HR4.out, hEnd.out.2.2⟩

set_option maxHeartbeats 3200000 in
theorem read_byt_err (F : FuncId) (cap : Array Value) (hE : ∀ (args : Array Value) (W : World), (callFunc F args).run Try.prog W = .ok (.enter F args) W) (g : Nat) (A : Option Addr) (c : Nat) (xs : List UInt8) (k : Nat) (er : Int) (w : World) (h : RdrAt w g A c xs k)
    (hF : ∀ (W : World) (B : Nat), InAt W B A c xs k → Below w.heap.size w W → Calls Try.prog F (#[.pointer (some ⟨B, 0, none⟩)] ++ cap) W fun e W' => e = .panicked (thrown er) ∧ W.grownBy W' (some B)) :
    Calls Try.prog 59 #[.pointer (some ⟨g, 0, none⟩), .func (.func F) #[] cap] w (RdErr (.slice none 0 0) er w) := by
  have hmf : ∀ (fn : Fn) (first cap : Array Value) (w : World), (Instr.makeFunc fn first cap).run Try.prog w = .ok (.func fn first cap) w := fun _ _ _ _ => rfl
  have hlt := h.lt
  have H := Lib.hid h
  have HF := Lib.hid hF
  have hb3 := (((below1 (w := w) (.cells #[.slice none 0 0] 24)).alloc (by simp) (.cells #[.int .i64 0] 37)).alloc (by simp; omega) (.cells #[.slice A xs.length c, .int .i64 (k : Int)] 60))
  have HB3 := Lib.hid hb3
  clear h hF hb3
  go_enter_defers Try.func59, Try.ntmps59
  go_wp2_with fail
  refine (none_ok g A c xs k _ (((H.out.below (below1 _)).below (below1 _)))).mono ?_
  rintro e w1 ⟨rfl, rfl⟩
  have hc0 := ((H.out.below (below1 (.cells #[.slice none 0 0] 24))).below (below1 (.cells #[.int .i64 0] 37))).cell0
  have hc1 := ((H.out.below (below1 (.cells #[.slice none 0 0] 24))).below (below1 (.cells #[.int .i64 0] 37))).cell1
  go_wp2_with fail
  clear hc0 hc1
  have hin : InAt (((w.alloc (.cells #[.slice none 0 0] 24)).alloc (.cells #[.int .i64 0] 37)).alloc (.cells #[.slice A xs.length c, .int .i64 (k : Int)] 60)) (w.heap.size + 1 + 1) A c xs k := by
    refine ⟨?_, H.out.2.1.below HB3.out, H.out.2.2.1, H.out.2.2.2.1, ?_⟩
    · have := heap_alloc_new ((w.alloc (.cells #[.slice none 0 0] 24)).alloc (.cells #[.int .i64 0] 37)) (.cells #[.slice A xs.length c, .int .i64 (k : Int)] 60)
      simpa using this
    · intro hx e
      have := H.out.2.1.blk hx e
      omega
  have hcall := HF.out _ _ hin HB3.out
  refine hcall.mono ?_
  rintro e w4 ⟨rfl, hg4⟩
  clear hcall hin
  have hout : w4.heap[w.heap.size]? = some (.cells #[.slice none 0 0] 24 (0, 0)) := by
    rw [hg4.block _ (by simp; omega) (by simp; omega), Below.heap_alloc _ _ _ (by simp; omega), Below.heap_alloc _ _ _ (by simp; try omega)]
    exact heap_alloc_new w _
  have herr : w4.heap[w.heap.size + 1]? = some (.cells #[.int .i64 0] 37 (0, 0)) := by
    rw [hg4.block _ (by simp; try omega) (by simp), Below.heap_alloc _ _ _ (by simp)]
    have := heap_alloc_new (w.alloc (.cells #[.slice none 0 0] 24)) (.cells #[.int .i64 0] 37)
    simpa using this
  have hb4 : Below w.heap.size w w4 := HB3.out.grown hg4 (by simp; omega) (fun b hb => by injection hb with hb; omega)
  have HB4 := Lib.hid hb4
  have HO := Lib.hid hout
  have HR := Lib.hid herr
  clear hg4 hb4 hout herr HB3
  go_wp2_with fail
  refine leaves_cons (f := 93) (args := #[.pointer (some ⟨w.heap.size, 0, none⟩), .pointer (some ⟨w.heap.size + 1, 0, none⟩)]) (by simp) (by simp [go_sem]) ?_
  refine (catch_byt_panicking w.heap.size (w.heap.size + 1) (.slice none 0 0) 0 er [] w4 (cell_at _ _ 0 _ _ HO.out) (frozen_of_row _ _ 0 _ _ HO.out) (cell_at _ _ 0 _ _ HR.out) (frozen_of_row _ _ 0 _ _ HR.out) (by omega)).mono ?_
  rintro e u' w'' ⟨rfl, rfl, rfl⟩
  have ho9 : ((w4.setCell ⟨w.heap.size, 0, none⟩ (.slice none 0 0)).setCell ⟨w.heap.size + 1, 0, none⟩ (.int .i64 er)).cell? ⟨w.heap.size, 0, none⟩ = some (.slice none 0 0) := by
    rw [World.cell?_setCell_other _ _ _ _ (by intro e; injection e with e; omega)]
    exact World.cell?_setCell_same _ _ _ (cell_is _ _ 0 _ _ _ HO.out rfl)
  have he9 : ((w4.setCell ⟨w.heap.size, 0, none⟩ (.slice none 0 0)).setCell ⟨w.heap.size + 1, 0, none⟩ (.int .i64 er)).cell? ⟨w.heap.size + 1, 0, none⟩ = some (.int .i64 er) := by
    have h0 : (w4.setCell ⟨w.heap.size, 0, none⟩ (.slice none 0 0)).cell? ⟨w.heap.size + 1, 0, none⟩ = some (.int .i64 0) := by
      rw [World.cell?_setCell_other _ _ _ _ (by intro e; injection e with e; omega)]
      exact cell_is _ _ 0 _ _ _ HR.out rfl
    exact World.cell?_setCell_same _ _ _ h0
  have hb9 : Below w.heap.size w ((w4.setCell ⟨w.heap.size, 0, none⟩ (.slice none 0 0)).setCell ⟨w.heap.size + 1, 0, none⟩ (.int .i64 er)) := (HB4.out.setCell (by simp) _).setCell (by simp) _
  generalize (w4.setCell ⟨w.heap.size, 0, none⟩ (.slice none 0 0)).setCell ⟨w.heap.size + 1, 0, none⟩ (.int .i64 er) = w9 at ho9 he9 hb9 ⊢
  simp [Leaves, settle, results, Try.results59, go_sem, ho9, he9]
  exact ⟨rfl, hb9⟩

set_option maxHeartbeats 1600000 in
theorem read_byt_nil (r : Value) (fv : Value) (w : World) (hN : ∀ W, Below w.heap.size w W → Calls Try.prog 61 #[r] W fun e w' => e = .returned (.bool true) ∧ W = w') :
    Calls Try.prog 59 #[r, fv] w (RdErr (.slice none 0 0) 1 w) := by
  have hb2 := (below1 (w := w) (.cells #[.slice none 0 0] 24)).alloc (by simp) (.cells #[.int .i64 0] 37)
  have HB2 := Lib.hid hb2
  have HN := Lib.hid hN
  clear hN hb2
  go_enter_defers Try.func59, Try.ntmps59
  go_wp2_with fail
  refine (HN.out _ HB2.out).mono ?_
  rintro e w1 ⟨rfl, rfl⟩
  go_wp2_with fail
  have ho9 : ((w.alloc (.cells #[.slice none 0 0] 24)).alloc (.cells #[.int .i64 1] 37)).cell? ⟨w.heap.size, 0, none⟩ = some (.slice none 0 0) := by
    refine cell_is _ _ 0 #[.slice none 0 0] 24 _ ?_ rfl
    rw [Below.heap_alloc _ _ _ (by simp)]
    exact heap_alloc_new w _
  have he9 : ((w.alloc (.cells #[.slice none 0 0] 24)).alloc (.cells #[.int .i64 1] 37)).cell? ⟨w.heap.size + 1, 0, none⟩ = some (.int .i64 1) := by
    refine cell_is _ _ 0 #[.int .i64 1] 37 _ ?_ rfl
    have := heap_alloc_new (w.alloc (.cells #[.slice none 0 0] 24)) (.cells #[.int .i64 1] 37)
    simpa using this
  have hb9 : Below w.heap.size w ((w.alloc (.cells #[.slice none 0 0] 24)).alloc (.cells #[.int .i64 1] 37)) := (below1 (w := w) (.cells #[.slice none 0 0] 24)).alloc (by simp) (.cells #[.int .i64 1] 37)
  generalize (w.alloc (.cells #[.slice none 0 0] 24)).alloc (.cells #[.int .i64 1] 37) = w9 at ho9 he9 hb9 ⊢
  simp [bodyPostD, Leaves, settle, results, Try.results59, go_sem, ho9, he9]
  exact ⟨rfl, hb9⟩

set_option maxHeartbeats 1600000 in
theorem catch_rdr_panicking (p q : Nat) (x : Value) (y ev : Int) (older : List PanicEntry) (w : World) (hc : w.cell? ⟨p, 0, none⟩ = some x) (hz : w.frozen? ⟨p, 0, none⟩ = false)
    (hc2 : w.cell? ⟨q, 0, none⟩ = some (.int .i64 y)) (hz2 : w.frozen? ⟨q, 0, none⟩ = false) (hpq : q ≠ p) :
    CallsD Try.prog 106 #[.pointer (some ⟨p, 0, none⟩), .pointer (some ⟨q, 0, none⟩)] (.panicking ({ v := .iface 37 (.int .i64 ev), recovered := false } :: older)) w fun e u' w' =>
      e = .returned (.tuple #[]) ∧ u' = .panicking ({ v := .iface 37 (.int .i64 ev), recovered := true } :: older) ∧ w' = (w.setCell ⟨p, 0, none⟩ (.pointer none)).setCell ⟨q, 0, none⟩ (.int .i64 ev) := by
  refine callsD_of_wpS Try.func106 rfl fun c₀ cs hu => ?_
  apply wpS_seq
  apply wpS_region
  simp [wpOpsS, go_sem, recoverD, hu, Try.ntmps106, Exit.thenS]
  refine wpS_of_wp ?_
  simp only [Array.replicate_succ, Array.replicate_zero, List.push_toArray, List.append_toArray, List.nil_append, List.cons_append, List.setIfInBounds_toArray, List.set_cons_succ, List.set_cons_zero]
  have hc2' : (w.setCell ⟨p, 0, none⟩ (.pointer none)).cell? ⟨q, 0, none⟩ = some (.int .i64 y) := by rw [World.cell?_setCell_other _ _ _ _ (by intro e; injection e with e; exact hpq e.symm)]; exact hc2
  have hz2' : (w.setCell ⟨p, 0, none⟩ (.pointer none)).frozen? ⟨q, 0, none⟩ = false := by rw [World.frozen?_setCell]; exact hz2
  have hta := run_assert_errno ev
  go_wp2
  exact ⟨rfl, _, rfl, _, results_none rfl _ _ _, rfl, rfl, rfl⟩

set_option maxHeartbeats 1600000 in
theorem catch_rdr_idle (p q : Addr) (w : World) :
    CallsD Try.prog 106 #[.pointer (some p), .pointer (some q)] .returning w fun e u' w' => e = .returned (.tuple #[]) ∧ u' = .returning ∧ w' = w := by
  refine callsD_of_wpS Try.func106 rfl fun c₀ cs hu => ?_
  apply wpS_seq
  apply wpS_region
  simp [wpOpsS, go_sem, recoverD, hu, Try.ntmps106, Exit.thenS]
  refine wpS_of_wp ?_
  simp only [Array.replicate_succ, Array.replicate_zero, List.push_toArray, List.append_toArray, List.nil_append, List.cons_append, List.setIfInBounds_toArray, List.set_cons_succ, List.set_cons_zero]
  go_wp2
  cases c₀
  exact ⟨rfl, _, by simp_all, _, results_none rfl _ _ _, rfl, rfl, rfl⟩

set_option maxHeartbeats 3200000 in
theorem read_rdr_ok (F : FuncId) (cap : Array Value) (hE : ∀ (args : Array Value) (W : World), (callFunc F args).run Try.prog W = .ok (.enter F args) W) (g : Nat) (A : Option Addr) (c : Nat) (xs : List UInt8) (k j : Nat) (w : World) (h : RdrAt w g A c xs k)
    (R : Option Addr → World → Prop)
    (hF : ∀ (W : World) (B : Nat), InAt W B A c xs k → Below w.heap.size w W → w.heap.size + 3 ≤ W.heap.size → Calls Try.prog F (#[.pointer (some ⟨B, 0, none⟩)] ++ cap) W fun e W' => ∃ v, e = .returned (.pointer v) ∧ InAt W' B A c xs (k + j) ∧ W.grownBy W' (some B) ∧ R v W') :
    Calls Try.prog 99 #[.pointer (some ⟨g, 0, none⟩), .func (.func F) #[] cap] w fun e w' => RdOk (fun v : Option Addr => .pointer v) R w g A c xs (k + j) e w' := by
  have hmf : ∀ (fn : Fn) (first cap : Array Value) (w : World), (Instr.makeFunc fn first cap).run Try.prog w = .ok (.func fn first cap) w := fun _ _ _ _ => rfl
  have hlt := h.lt
  have H := Lib.hid h
  have HF := Lib.hid hF
  have hb3 := (((below1 (w := w) (.cells #[.pointer none] 35)).alloc (by simp) (.cells #[.int .i64 0] 37)).alloc (by simp; omega) (.cells #[.slice A xs.length c, .int .i64 (k : Int)] 60))
  have HB3 := Lib.hid hb3
  clear h hF hb3
  go_enter_defers Try.func99, Try.ntmps99
  go_wp2_with fail
  refine (none_ok g A c xs k _ (((H.out.below (below1 _)).below (below1 _)))).mono ?_
  rintro e w1 ⟨rfl, rfl⟩
  have hc0 := ((H.out.below (below1 (.cells #[.pointer none] 35))).below (below1 (.cells #[.int .i64 0] 37))).cell0
  have hc1 := ((H.out.below (below1 (.cells #[.pointer none] 35))).below (below1 (.cells #[.int .i64 0] 37))).cell1
  go_wp2_with fail
  clear hc0 hc1
  have hin : InAt (((w.alloc (.cells #[.pointer none] 35)).alloc (.cells #[.int .i64 0] 37)).alloc (.cells #[.slice A xs.length c, .int .i64 (k : Int)] 60)) (w.heap.size + 1 + 1) A c xs k := by
    refine ⟨?_, H.out.2.1.below HB3.out, H.out.2.2.1, H.out.2.2.2.1, ?_⟩
    · have := heap_alloc_new ((w.alloc (.cells #[.pointer none] 35)).alloc (.cells #[.int .i64 0] 37)) (.cells #[.slice A xs.length c, .int .i64 (k : Int)] 60)
      simpa using this
    · intro hx e
      have := H.out.2.1.blk hx e
      omega
  have hs3 : ReadSt (((w.alloc (.cells #[.pointer none] 35)).alloc (.cells #[.int .i64 0] 37)).alloc (.cells #[.slice A xs.length c, .int .i64 (k : Int)] 60)) g w.heap.size (w.heap.size + 1) (w.heap.size + 1 + 1) 35 A c xs k k (.pointer none) (.int .i64 0) := by
    refine ⟨?_, ?_, ?_, hin.1, by omega, by omega, by omega, by omega, by omega, by omega⟩
    · rw [HB3.out.block g hlt]; exact H.out.1
    · rw [Below.heap_alloc _ _ _ (by simp; omega), Below.heap_alloc _ _ _ (by simp; try omega)]; exact heap_alloc_new w _
    · rw [Below.heap_alloc _ _ _ (by simp)]
      have := heap_alloc_new (w.alloc (.cells #[.pointer none] 35)) (.cells #[.int .i64 0] 37)
      simpa using this
  have hsz : w.heap.size + 3 ≤ (((w.alloc (.cells #[.pointer none] 35)).alloc (.cells #[.int .i64 0] 37)).alloc (.cells #[.slice A xs.length c, .int .i64 (k : Int)] 60)).heap.size := by simp
  have hcall := HF.out _ _ hin HB3.out hsz
  refine hcall.mono ?_
  rintro e w4 ⟨v, rfl, hin4, hg4, hR4⟩
  clear hcall hsz
  have hlt2 : w.heap.size + 1 + 1 < (((w.alloc (.cells #[.pointer none] 35)).alloc (.cells #[.int .i64 0] 37)).alloc (.cells #[.slice A xs.length c, .int .i64 (k : Int)] 60)).heap.size := by simp
  have S4 : ReadSt w4 g w.heap.size (w.heap.size + 1) (w.heap.size + 1 + 1) 35 A c xs k (k + j) (.pointer none) (.int .i64 0) := by
    refine ⟨?_, ?_, ?_, hin4.1, hs3.g0, hs3.g1, hs3.g2, hs3.e1, hs3.e2, hs3.e3⟩
    · rw [hg4.block g (by omega) (by simp; omega)]; exact hs3.rdr
    · rw [hg4.block _ (by omega) (by simp; omega)]; exact hs3.out
    · rw [hg4.block _ (by omega) (by simp)]; exact hs3.err
  have c1 := cell_at _ _ 0 _ _ S4.out
  have f1 := frozen_of_row _ _ 0 _ _ S4.out
  have c2 := cell_at _ _ 0 _ _ S4.inp
  have c3 := cell_at _ _ 1 _ _ S4.inp
  have c4 := cell_at _ _ 0 _ _ S4.rdr
  have f4 := frozen_of_row _ _ 0 _ _ S4.rdr
  have c5 := cell_at _ _ 1 _ _ S4.rdr
  have f5 := frozen_of_row _ _ 1 _ _ S4.rdr
  have c7 := cell_at _ _ 0 _ _ S4.err
  have f7 := frozen_of_row _ _ 0 _ _ S4.err
  have n0 := S4.g0
  have n1 := S4.g1
  have n2 := S4.g2
  have m0 := Ne.symm S4.g0
  have m1 := Ne.symm S4.g1
  have m2 := Ne.symm S4.g2
  simp only [List.getElem?_toArray, List.getElem?_cons_zero, List.getElem?_cons_succ] at c1 c2 c3 c4 c5 c7
  have hGE := grown_then (grown_of_below HB3.out (some g)) hg4 (by omega)
  have hEnd := Lib.hid (read_end H.out rfl rfl (.pointer v) S4 hin4 hGE)
  have HR4 := Lib.hid hR4
  have hO9 : (((((w4.setCell ⟨w.heap.size, 0, none⟩ (.pointer v)).setCell ⟨g, 0, none⟩ (.slice A xs.length c)).setCell ⟨g, 1, none⟩ (.int .i64 ((k + j : Nat) : Int))).setCell ⟨w.heap.size, 0, none⟩ (.pointer v)).setCell ⟨w.heap.size + 1, 0, none⟩ (.int .i64 0)).cell? ⟨w.heap.size, 0, none⟩ = some (.pointer v) :=
    cell_at _ _ 0 _ _ ((((S4.setOut (.pointer v)).setRdr (k + j)).setOut (.pointer v)).setErr (.int .i64 0)).out
  have hE9 : (((((w4.setCell ⟨w.heap.size, 0, none⟩ (.pointer v)).setCell ⟨g, 0, none⟩ (.slice A xs.length c)).setCell ⟨g, 1, none⟩ (.int .i64 ((k + j : Nat) : Int))).setCell ⟨w.heap.size, 0, none⟩ (.pointer v)).setCell ⟨w.heap.size + 1, 0, none⟩ (.int .i64 0)).cell? ⟨w.heap.size + 1, 0, none⟩ = some (.int .i64 0) :=
    cell_at _ _ 0 _ _ ((((S4.setOut (.pointer v)).setRdr (k + j)).setOut (.pointer v)).setErr (.int .i64 0)).err
  have HO9 := Lib.hid hO9
  have HE9 := Lib.hid hE9
  clear hGE S4 hs3 hin hin4 hg4 hlt2 hO9 hE9 hR4
  go_wp2_with fail
  clear c1 c2 c3 c4 c5 c7 f1 f4 f5 f7
  rw [← Int.natCast_add]
  generalize (((((w4.setCell ⟨w.heap.size, 0, none⟩ (.pointer v)).setCell ⟨g, 0, none⟩ (.slice A xs.length c)).setCell ⟨g, 1, none⟩ (.int .i64 ((k + j : Nat) : Int))).setCell ⟨w.heap.size, 0, none⟩ (.pointer v)).setCell ⟨w.heap.size + 1, 0, none⟩ (.int .i64 0)) = w9 at hEnd HO9 HE9 ⊢
  have ho9 := HO9.out
  have he9 := HE9.out
  refine leaves_cons (f := 106) (args := #[.pointer (some ⟨w.heap.size, 0, none⟩), .pointer (some ⟨w.heap.size + 1, 0, none⟩)]) (by simp) (by simp [go_sem]) ?_
  refine (catch_rdr_idle _ _ _).mono ?_
  rintro e u' w'' ⟨rfl, rfl, rfl⟩
  simp [Leaves, settle, results, Try.results99, go_sem, ho9, he9]
  exact ⟨v, _, rfl, hEnd.out.1, hEnd.out.2.1, HR4.out, hEnd.out.2.2⟩

set_option maxHeartbeats 3200000 in
theorem read_rdr_err (F : FuncId) (cap : Array Value) (hE : ∀ (args : Array Value) (W : World), (callFunc F args).run Try.prog W = .ok (.enter F args) W) (g : Nat) (A : Option Addr) (c : Nat) (xs : List UInt8) (k : Nat) (er : Int) (w : World) (h : RdrAt w g A c xs k)
    (hF : ∀ (W : World) (B : Nat), InAt W B A c xs k → Below w.heap.size w W → Calls Try.prog F (#[.pointer (some ⟨B, 0, none⟩)] ++ cap) W fun e W' => e = .panicked (thrown er) ∧ W.grownBy W' (some B)) :
    Calls Try.prog 99 #[.pointer (some ⟨g, 0, none⟩), .func (.func F) #[] cap] w (RdErr (.pointer none) er w) := by
  have hmf : ∀ (fn : Fn) (first cap : Array Value) (w : World), (Instr.makeFunc fn first cap).run Try.prog w = .ok (.func fn first cap) w := fun _ _ _ _ => rfl
  have hlt := h.lt
  have H := Lib.hid h
  have HF := Lib.hid hF
  have hb3 := (((below1 (w := w) (.cells #[.pointer none] 35)).alloc (by simp) (.cells #[.int .i64 0] 37)).alloc (by simp; omega) (.cells #[.slice A xs.length c, .int .i64 (k : Int)] 60))
  have HB3 := Lib.hid hb3
  clear h hF hb3
  go_enter_defers Try.func99, Try.ntmps99
  go_wp2_with fail
  refine (none_ok g A c xs k _ (((H.out.below (below1 _)).below (below1 _)))).mono ?_
  rintro e w1 ⟨rfl, rfl⟩
  have hc0 := ((H.out.below (below1 (.cells #[.pointer none] 35))).below (below1 (.cells #[.int .i64 0] 37))).cell0
  have hc1 := ((H.out.below (below1 (.cells #[.pointer none] 35))).below (below1 (.cells #[.int .i64 0] 37))).cell1
  go_wp2_with fail
  clear hc0 hc1
  have hin : InAt (((w.alloc (.cells #[.pointer none] 35)).alloc (.cells #[.int .i64 0] 37)).alloc (.cells #[.slice A xs.length c, .int .i64 (k : Int)] 60)) (w.heap.size + 1 + 1) A c xs k := by
    refine ⟨?_, H.out.2.1.below HB3.out, H.out.2.2.1, H.out.2.2.2.1, ?_⟩
    · have := heap_alloc_new ((w.alloc (.cells #[.pointer none] 35)).alloc (.cells #[.int .i64 0] 37)) (.cells #[.slice A xs.length c, .int .i64 (k : Int)] 60)
      simpa using this
    · intro hx e
      have := H.out.2.1.blk hx e
      omega
  have hcall := HF.out _ _ hin HB3.out
  refine hcall.mono ?_
  rintro e w4 ⟨rfl, hg4⟩
  clear hcall hin
  have hout : w4.heap[w.heap.size]? = some (.cells #[.pointer none] 35 (0, 0)) := by
    rw [hg4.block _ (by simp; omega) (by simp; omega), Below.heap_alloc _ _ _ (by simp; omega), Below.heap_alloc _ _ _ (by simp; try omega)]
    exact heap_alloc_new w _
  have herr : w4.heap[w.heap.size + 1]? = some (.cells #[.int .i64 0] 37 (0, 0)) := by
    rw [hg4.block _ (by simp; try omega) (by simp), Below.heap_alloc _ _ _ (by simp)]
    have := heap_alloc_new (w.alloc (.cells #[.pointer none] 35)) (.cells #[.int .i64 0] 37)
    simpa using this
  have hb4 : Below w.heap.size w w4 := HB3.out.grown hg4 (by simp; omega) (fun b hb => by injection hb with hb; omega)
  have HB4 := Lib.hid hb4
  have HO := Lib.hid hout
  have HR := Lib.hid herr
  clear hg4 hb4 hout herr HB3
  go_wp2_with fail
  refine leaves_cons (f := 106) (args := #[.pointer (some ⟨w.heap.size, 0, none⟩), .pointer (some ⟨w.heap.size + 1, 0, none⟩)]) (by simp) (by simp [go_sem]) ?_
  refine (catch_rdr_panicking w.heap.size (w.heap.size + 1) (.pointer none) 0 er [] w4 (cell_at _ _ 0 _ _ HO.out) (frozen_of_row _ _ 0 _ _ HO.out) (cell_at _ _ 0 _ _ HR.out) (frozen_of_row _ _ 0 _ _ HR.out) (by omega)).mono ?_
  rintro e u' w'' ⟨rfl, rfl, rfl⟩
  have ho9 : ((w4.setCell ⟨w.heap.size, 0, none⟩ (.pointer none)).setCell ⟨w.heap.size + 1, 0, none⟩ (.int .i64 er)).cell? ⟨w.heap.size, 0, none⟩ = some (.pointer none) := by
    rw [World.cell?_setCell_other _ _ _ _ (by intro e; injection e with e; omega)]
    exact World.cell?_setCell_same _ _ _ (cell_is _ _ 0 _ _ _ HO.out rfl)
  have he9 : ((w4.setCell ⟨w.heap.size, 0, none⟩ (.pointer none)).setCell ⟨w.heap.size + 1, 0, none⟩ (.int .i64 er)).cell? ⟨w.heap.size + 1, 0, none⟩ = some (.int .i64 er) := by
    have h0 : (w4.setCell ⟨w.heap.size, 0, none⟩ (.pointer none)).cell? ⟨w.heap.size + 1, 0, none⟩ = some (.int .i64 0) := by
      rw [World.cell?_setCell_other _ _ _ _ (by intro e; injection e with e; omega)]
      exact cell_is _ _ 0 _ _ _ HR.out rfl
    exact World.cell?_setCell_same _ _ _ h0
  have hb9 : Below w.heap.size w ((w4.setCell ⟨w.heap.size, 0, none⟩ (.pointer none)).setCell ⟨w.heap.size + 1, 0, none⟩ (.int .i64 er)) := (HB4.out.setCell (by simp) _).setCell (by simp) _
  generalize (w4.setCell ⟨w.heap.size, 0, none⟩ (.pointer none)).setCell ⟨w.heap.size + 1, 0, none⟩ (.int .i64 er) = w9 at ho9 he9 hb9 ⊢
  simp [Leaves, settle, results, Try.results99, go_sem, ho9, he9]
  exact ⟨rfl, hb9⟩

set_option maxHeartbeats 1600000 in
theorem read_rdr_nil (r : Value) (fv : Value) (w : World) (hN : ∀ W, Below w.heap.size w W → Calls Try.prog 61 #[r] W fun e w' => e = .returned (.bool true) ∧ W = w') :
    Calls Try.prog 99 #[r, fv] w (RdErr (.pointer none) 1 w) := by
  have hb2 := (below1 (w := w) (.cells #[.pointer none] 35)).alloc (by simp) (.cells #[.int .i64 0] 37)
  have HB2 := Lib.hid hb2
  have HN := Lib.hid hN
  clear hN hb2
  go_enter_defers Try.func99, Try.ntmps99
  go_wp2_with fail
  refine (HN.out _ HB2.out).mono ?_
  rintro e w1 ⟨rfl, rfl⟩
  go_wp2_with fail
  have ho9 : ((w.alloc (.cells #[.pointer none] 35)).alloc (.cells #[.int .i64 1] 37)).cell? ⟨w.heap.size, 0, none⟩ = some (.pointer none) := by
    refine cell_is _ _ 0 #[.pointer none] 35 _ ?_ rfl
    rw [Below.heap_alloc _ _ _ (by simp)]
    exact heap_alloc_new w _
  have he9 : ((w.alloc (.cells #[.pointer none] 35)).alloc (.cells #[.int .i64 1] 37)).cell? ⟨w.heap.size + 1, 0, none⟩ = some (.int .i64 1) := by
    refine cell_is _ _ 0 #[.int .i64 1] 37 _ ?_ rfl
    have := heap_alloc_new (w.alloc (.cells #[.pointer none] 35)) (.cells #[.int .i64 1] 37)
    simpa using this
  have hb9 : Below w.heap.size w ((w.alloc (.cells #[.pointer none] 35)).alloc (.cells #[.int .i64 1] 37)) := (below1 (w := w) (.cells #[.pointer none] 35)).alloc (by simp) (.cells #[.int .i64 1] 37)
  generalize (w.alloc (.cells #[.pointer none] 35)).alloc (.cells #[.int .i64 1] 37) = w9 at ho9 he9 hb9 ⊢
  simp [bodyPostD, Leaves, settle, results, Try.results99, go_sem, ho9, he9]
  exact ⟨rfl, hb9⟩

set_option maxHeartbeats 1600000 in
theorem catch_dat_panicking (p q : Nat) (x : Value) (y ev : Int) (older : List PanicEntry) (w : World) (hc : w.cell? ⟨p, 0, none⟩ = some x) (hz : w.frozen? ⟨p, 0, none⟩ = false)
    (hc2 : w.cell? ⟨q, 0, none⟩ = some (.int .i64 y)) (hz2 : w.frozen? ⟨q, 0, none⟩ = false) (hpq : q ≠ p) :
    CallsD Try.prog 104 #[.pointer (some ⟨p, 0, none⟩), .pointer (some ⟨q, 0, none⟩)] (.panicking ({ v := .iface 37 (.int .i64 ev), recovered := false } :: older)) w fun e u' w' =>
      e = .returned (.tuple #[]) ∧ u' = .panicking ({ v := .iface 37 (.int .i64 ev), recovered := true } :: older) ∧ w' = (w.setCell ⟨p, 0, none⟩ (.slice none 0 0)).setCell ⟨q, 0, none⟩ (.int .i64 ev) := by
  refine callsD_of_wpS Try.func104 rfl fun c₀ cs hu => ?_
  apply wpS_seq
  apply wpS_region
  simp [wpOpsS, go_sem, recoverD, hu, Try.ntmps104, Exit.thenS]
  refine wpS_of_wp ?_
  simp only [Array.replicate_succ, Array.replicate_zero, List.push_toArray, List.append_toArray, List.nil_append, List.cons_append, List.setIfInBounds_toArray, List.set_cons_succ, List.set_cons_zero]
  have hc2' : (w.setCell ⟨p, 0, none⟩ (.slice none 0 0)).cell? ⟨q, 0, none⟩ = some (.int .i64 y) := by rw [World.cell?_setCell_other _ _ _ _ (by intro e; injection e with e; exact hpq e.symm)]; exact hc2
  have hz2' : (w.setCell ⟨p, 0, none⟩ (.slice none 0 0)).frozen? ⟨q, 0, none⟩ = false := by rw [World.frozen?_setCell]; exact hz2
  have hta := run_assert_errno ev
  go_wp2
  exact ⟨rfl, _, rfl, _, results_none rfl _ _ _, rfl, rfl, rfl⟩

set_option maxHeartbeats 1600000 in
theorem catch_dat_idle (p q : Addr) (w : World) :
    CallsD Try.prog 104 #[.pointer (some p), .pointer (some q)] .returning w fun e u' w' => e = .returned (.tuple #[]) ∧ u' = .returning ∧ w' = w := by
  refine callsD_of_wpS Try.func104 rfl fun c₀ cs hu => ?_
  apply wpS_seq
  apply wpS_region
  simp [wpOpsS, go_sem, recoverD, hu, Try.ntmps104, Exit.thenS]
  refine wpS_of_wp ?_
  simp only [Array.replicate_succ, Array.replicate_zero, List.push_toArray, List.append_toArray, List.nil_append, List.cons_append, List.setIfInBounds_toArray, List.set_cons_succ, List.set_cons_zero]
  go_wp2
  cases c₀
  exact ⟨rfl, _, by simp_all, _, results_none rfl _ _ _, rfl, rfl, rfl⟩

set_option maxHeartbeats 3200000 in
theorem read_dat_ok (F : FuncId) (cap : Array Value) (hE : ∀ (args : Array Value) (W : World), (callFunc F args).run Try.prog W = .ok (.enter F args) W) (g : Nat) (A : Option Addr) (c : Nat) (xs : List UInt8) (k j : Nat) (w : World) (h : RdrAt w g A c xs k)
    (R : Option Addr × Nat × Nat → World → Prop)
    (hF : ∀ (W : World) (B : Nat), InAt W B A c xs k → Below w.heap.size w W → w.heap.size + 3 ≤ W.heap.size → Calls Try.prog F (#[.pointer (some ⟨B, 0, none⟩)] ++ cap) W fun e W' => ∃ v, e = .returned (.slice v.1 v.2.1 v.2.2) ∧ InAt W' B A c xs (k + j) ∧ W.grownBy W' (some B) ∧ R v W') :
    Calls Try.prog 84 #[.pointer (some ⟨g, 0, none⟩), .func (.func F) #[] cap] w fun e w' => RdOk (fun v : Option Addr × Nat × Nat => .slice v.1 v.2.1 v.2.2) R w g A c xs (k + j) e w' := by
  have hmf : ∀ (fn : Fn) (first cap : Array Value) (w : World), (Instr.makeFunc fn first cap).run Try.prog w = .ok (.func fn first cap) w := fun _ _ _ _ => rfl
  have hlt := h.lt
  have H := Lib.hid h
  have HF := Lib.hid hF
  have hb3 := (((below1 (w := w) (.cells #[.slice none 0 0] 51)).alloc (by simp) (.cells #[.int .i64 0] 37)).alloc (by simp; omega) (.cells #[.slice A xs.length c, .int .i64 (k : Int)] 60))
  have HB3 := Lib.hid hb3
  clear h hF hb3
  go_enter_defers Try.func84, Try.ntmps84
  go_wp2_with fail
  refine (none_ok g A c xs k _ (((H.out.below (below1 _)).below (below1 _)))).mono ?_
  rintro e w1 ⟨rfl, rfl⟩
  have hc0 := ((H.out.below (below1 (.cells #[.slice none 0 0] 51))).below (below1 (.cells #[.int .i64 0] 37))).cell0
  have hc1 := ((H.out.below (below1 (.cells #[.slice none 0 0] 51))).below (below1 (.cells #[.int .i64 0] 37))).cell1
  go_wp2_with fail
  clear hc0 hc1
  have hin : InAt (((w.alloc (.cells #[.slice none 0 0] 51)).alloc (.cells #[.int .i64 0] 37)).alloc (.cells #[.slice A xs.length c, .int .i64 (k : Int)] 60)) (w.heap.size + 1 + 1) A c xs k := by
    refine ⟨?_, H.out.2.1.below HB3.out, H.out.2.2.1, H.out.2.2.2.1, ?_⟩
    · have := heap_alloc_new ((w.alloc (.cells #[.slice none 0 0] 51)).alloc (.cells #[.int .i64 0] 37)) (.cells #[.slice A xs.length c, .int .i64 (k : Int)] 60)
      simpa using this
    · intro hx e
      have := H.out.2.1.blk hx e
      omega
  have hs3 : ReadSt (((w.alloc (.cells #[.slice none 0 0] 51)).alloc (.cells #[.int .i64 0] 37)).alloc (.cells #[.slice A xs.length c, .int .i64 (k : Int)] 60)) g w.heap.size (w.heap.size + 1) (w.heap.size + 1 + 1) 51 A c xs k k (.slice none 0 0) (.int .i64 0) := by
    refine ⟨?_, ?_, ?_, hin.1, by omega, by omega, by omega, by omega, by omega, by omega⟩
    · rw [HB3.out.block g hlt]; exact H.out.1
    · rw [Below.heap_alloc _ _ _ (by simp; omega), Below.heap_alloc _ _ _ (by simp; try omega)]; exact heap_alloc_new w _
    · rw [Below.heap_alloc _ _ _ (by simp)]
      have := heap_alloc_new (w.alloc (.cells #[.slice none 0 0] 51)) (.cells #[.int .i64 0] 37)
      simpa using this
  have hsz : w.heap.size + 3 ≤ (((w.alloc (.cells #[.slice none 0 0] 51)).alloc (.cells #[.int .i64 0] 37)).alloc (.cells #[.slice A xs.length c, .int .i64 (k : Int)] 60)).heap.size := by simp
  have hcall := HF.out _ _ hin HB3.out hsz
  refine hcall.mono ?_
  rintro e w4 ⟨v, rfl, hin4, hg4, hR4⟩
  clear hcall hsz
  have hlt2 : w.heap.size + 1 + 1 < (((w.alloc (.cells #[.slice none 0 0] 51)).alloc (.cells #[.int .i64 0] 37)).alloc (.cells #[.slice A xs.length c, .int .i64 (k : Int)] 60)).heap.size := by simp
  have S4 : ReadSt w4 g w.heap.size (w.heap.size + 1) (w.heap.size + 1 + 1) 51 A c xs k (k + j) (.slice none 0 0) (.int .i64 0) := by
    refine ⟨?_, ?_, ?_, hin4.1, hs3.g0, hs3.g1, hs3.g2, hs3.e1, hs3.e2, hs3.e3⟩
    · rw [hg4.block g (by omega) (by simp; omega)]; exact hs3.rdr
    · rw [hg4.block _ (by omega) (by simp; omega)]; exact hs3.out
    · rw [hg4.block _ (by omega) (by simp)]; exact hs3.err
  have c1 := cell_at _ _ 0 _ _ S4.out
  have f1 := frozen_of_row _ _ 0 _ _ S4.out
  have c2 := cell_at _ _ 0 _ _ S4.inp
  have c3 := cell_at _ _ 1 _ _ S4.inp
  have c4 := cell_at _ _ 0 _ _ S4.rdr
  have f4 := frozen_of_row _ _ 0 _ _ S4.rdr
  have c5 := cell_at _ _ 1 _ _ S4.rdr
  have f5 := frozen_of_row _ _ 1 _ _ S4.rdr
  have c7 := cell_at _ _ 0 _ _ S4.err
  have f7 := frozen_of_row _ _ 0 _ _ S4.err
  have n0 := S4.g0
  have n1 := S4.g1
  have n2 := S4.g2
  have m0 := Ne.symm S4.g0
  have m1 := Ne.symm S4.g1
  have m2 := Ne.symm S4.g2
  simp only [List.getElem?_toArray, List.getElem?_cons_zero, List.getElem?_cons_succ] at c1 c2 c3 c4 c5 c7
  have hGE := grown_then (grown_of_below HB3.out (some g)) hg4 (by omega)
  have hEnd := Lib.hid (read_end H.out rfl rfl (.slice v.1 v.2.1 v.2.2) S4 hin4 hGE)
  have HR4 := Lib.hid hR4
  have hO9 : (((((w4.setCell ⟨w.heap.size, 0, none⟩ (.slice v.1 v.2.1 v.2.2)).setCell ⟨g, 0, none⟩ (.slice A xs.length c)).setCell ⟨g, 1, none⟩ (.int .i64 ((k + j : Nat) : Int))).setCell ⟨w.heap.size, 0, none⟩ (.slice v.1 v.2.1 v.2.2)).setCell ⟨w.heap.size + 1, 0, none⟩ (.int .i64 0)).cell? ⟨w.heap.size, 0, none⟩ = some (.slice v.1 v.2.1 v.2.2) :=
    cell_at _ _ 0 _ _ ((((S4.setOut (.slice v.1 v.2.1 v.2.2)).setRdr (k + j)).setOut (.slice v.1 v.2.1 v.2.2)).setErr (.int .i64 0)).out
  have hE9 : (((((w4.setCell ⟨w.heap.size, 0, none⟩ (.slice v.1 v.2.1 v.2.2)).setCell ⟨g, 0, none⟩ (.slice A xs.length c)).setCell ⟨g, 1, none⟩ (.int .i64 ((k + j : Nat) : Int))).setCell ⟨w.heap.size, 0, none⟩ (.slice v.1 v.2.1 v.2.2)).setCell ⟨w.heap.size + 1, 0, none⟩ (.int .i64 0)).cell? ⟨w.heap.size + 1, 0, none⟩ = some (.int .i64 0) :=
    cell_at _ _ 0 _ _ ((((S4.setOut (.slice v.1 v.2.1 v.2.2)).setRdr (k + j)).setOut (.slice v.1 v.2.1 v.2.2)).setErr (.int .i64 0)).err
  have HO9 := Lib.hid hO9
  have HE9 := Lib.hid hE9
  clear hGE S4 hs3 hin hin4 hg4 hlt2 hO9 hE9 hR4
  go_wp2_with fail
  clear c1 c2 c3 c4 c5 c7 f1 f4 f5 f7
  rw [← Int.natCast_add]
  generalize (((((w4.setCell ⟨w.heap.size, 0, none⟩ (.slice v.1 v.2.1 v.2.2)).setCell ⟨g, 0, none⟩ (.slice A xs.length c)).setCell ⟨g, 1, none⟩ (.int .i64 ((k + j : Nat) : Int))).setCell ⟨w.heap.size, 0, none⟩ (.slice v.1 v.2.1 v.2.2)).setCell ⟨w.heap.size + 1, 0, none⟩ (.int .i64 0)) = w9 at hEnd HO9 HE9 ⊢
  have ho9 := HO9.out
  have he9 := HE9.out
  refine leaves_cons (f := 104) (args := #[.pointer (some ⟨w.heap.size, 0, none⟩), .pointer (some ⟨w.heap.size + 1, 0, none⟩)]) (by simp) (by simp [go_sem]) ?_
  refine (catch_dat_idle _ _ _).mono ?_
  rintro e u' w'' ⟨rfl, rfl, rfl⟩
  simp [Leaves, settle, results, Try.results84, go_sem, ho9, he9]
  exact ⟨v, _, rfl, hEnd.out.1, hEnd.out.2.1, HR4.out, hEnd.out.2.2⟩

set_option maxHeartbeats 3200000 in
theorem read_dat_err (F : FuncId) (cap : Array Value) (hE : ∀ (args : Array Value) (W : World), (callFunc F args).run Try.prog W = .ok (.enter F args) W) (g : Nat) (A : Option Addr) (c : Nat) (xs : List UInt8) (k : Nat) (er : Int) (w : World) (h : RdrAt w g A c xs k)
    (hF : ∀ (W : World) (B : Nat), InAt W B A c xs k → Below w.heap.size w W → Calls Try.prog F (#[.pointer (some ⟨B, 0, none⟩)] ++ cap) W fun e W' => e = .panicked (thrown er) ∧ W.grownBy W' (some B)) :
    Calls Try.prog 84 #[.pointer (some ⟨g, 0, none⟩), .func (.func F) #[] cap] w (RdErr (.slice none 0 0) er w) := by
  have hmf : ∀ (fn : Fn) (first cap : Array Value) (w : World), (Instr.makeFunc fn first cap).run Try.prog w = .ok (.func fn first cap) w := fun _ _ _ _ => rfl
  have hlt := h.lt
  have H := Lib.hid h
  have HF := Lib.hid hF
  have hb3 := (((below1 (w := w) (.cells #[.slice none 0 0] 51)).alloc (by simp) (.cells #[.int .i64 0] 37)).alloc (by simp; omega) (.cells #[.slice A xs.length c, .int .i64 (k : Int)] 60))
  have HB3 := Lib.hid hb3
  clear h hF hb3
  go_enter_defers Try.func84, Try.ntmps84
  go_wp2_with fail
  refine (none_ok g A c xs k _ (((H.out.below (below1 _)).below (below1 _)))).mono ?_
  rintro e w1 ⟨rfl, rfl⟩
  have hc0 := ((H.out.below (below1 (.cells #[.slice none 0 0] 51))).below (below1 (.cells #[.int .i64 0] 37))).cell0
  have hc1 := ((H.out.below (below1 (.cells #[.slice none 0 0] 51))).below (below1 (.cells #[.int .i64 0] 37))).cell1
  go_wp2_with fail
  clear hc0 hc1
  have hin : InAt (((w.alloc (.cells #[.slice none 0 0] 51)).alloc (.cells #[.int .i64 0] 37)).alloc (.cells #[.slice A xs.length c, .int .i64 (k : Int)] 60)) (w.heap.size + 1 + 1) A c xs k := by
    refine ⟨?_, H.out.2.1.below HB3.out, H.out.2.2.1, H.out.2.2.2.1, ?_⟩
    · have := heap_alloc_new ((w.alloc (.cells #[.slice none 0 0] 51)).alloc (.cells #[.int .i64 0] 37)) (.cells #[.slice A xs.length c, .int .i64 (k : Int)] 60)
      simpa using this
    · intro hx e
      have := H.out.2.1.blk hx e
      omega
  have hcall := HF.out _ _ hin HB3.out
  refine hcall.mono ?_
  rintro e w4 ⟨rfl, hg4⟩
  clear hcall hin
  have hout : w4.heap[w.heap.size]? = some (.cells #[.slice none 0 0] 51 (0, 0)) := by
    rw [hg4.block _ (by simp; omega) (by simp; omega), Below.heap_alloc _ _ _ (by simp; omega), Below.heap_alloc _ _ _ (by simp; try omega)]
    exact heap_alloc_new w _
  have herr : w4.heap[w.heap.size + 1]? = some (.cells #[.int .i64 0] 37 (0, 0)) := by
    rw [hg4.block _ (by simp; try omega) (by simp), Below.heap_alloc _ _ _ (by simp)]
    have := heap_alloc_new (w.alloc (.cells #[.slice none 0 0] 51)) (.cells #[.int .i64 0] 37)
    simpa using this
  have hb4 : Below w.heap.size w w4 := HB3.out.grown hg4 (by simp; omega) (fun b hb => by injection hb with hb; omega)
  have HB4 := Lib.hid hb4
  have HO := Lib.hid hout
  have HR := Lib.hid herr
  clear hg4 hb4 hout herr HB3
  go_wp2_with fail
  refine leaves_cons (f := 104) (args := #[.pointer (some ⟨w.heap.size, 0, none⟩), .pointer (some ⟨w.heap.size + 1, 0, none⟩)]) (by simp) (by simp [go_sem]) ?_
  refine (catch_dat_panicking w.heap.size (w.heap.size + 1) (.slice none 0 0) 0 er [] w4 (cell_at _ _ 0 _ _ HO.out) (frozen_of_row _ _ 0 _ _ HO.out) (cell_at _ _ 0 _ _ HR.out) (frozen_of_row _ _ 0 _ _ HR.out) (by omega)).mono ?_
  rintro e u' w'' ⟨rfl, rfl, rfl⟩
  have ho9 : ((w4.setCell ⟨w.heap.size, 0, none⟩ (.slice none 0 0)).setCell ⟨w.heap.size + 1, 0, none⟩ (.int .i64 er)).cell? ⟨w.heap.size, 0, none⟩ = some (.slice none 0 0) := by
    rw [World.cell?_setCell_other _ _ _ _ (by intro e; injection e with e; omega)]
    exact World.cell?_setCell_same _ _ _ (cell_is _ _ 0 _ _ _ HO.out rfl)
  have he9 : ((w4.setCell ⟨w.heap.size, 0, none⟩ (.slice none 0 0)).setCell ⟨w.heap.size + 1, 0, none⟩ (.int .i64 er)).cell? ⟨w.heap.size + 1, 0, none⟩ = some (.int .i64 er) := by
    have h0 : (w4.setCell ⟨w.heap.size, 0, none⟩ (.slice none 0 0)).cell? ⟨w.heap.size + 1, 0, none⟩ = some (.int .i64 0) := by
      rw [World.cell?_setCell_other _ _ _ _ (by intro e; injection e with e; omega)]
      exact cell_is _ _ 0 _ _ _ HR.out rfl
    exact World.cell?_setCell_same _ _ _ h0
  have hb9 : Below w.heap.size w ((w4.setCell ⟨w.heap.size, 0, none⟩ (.slice none 0 0)).setCell ⟨w.heap.size + 1, 0, none⟩ (.int .i64 er)) := (HB4.out.setCell (by simp) _).setCell (by simp) _
  generalize (w4.setCell ⟨w.heap.size, 0, none⟩ (.slice none 0 0)).setCell ⟨w.heap.size + 1, 0, none⟩ (.int .i64 er) = w9 at ho9 he9 hb9 ⊢
  simp [Leaves, settle, results, Try.results84, go_sem, ho9, he9]
  exact ⟨rfl, hb9⟩

set_option maxHeartbeats 1600000 in
theorem read_dat_nil (r : Value) (fv : Value) (w : World) (hN : ∀ W, Below w.heap.size w W → Calls Try.prog 61 #[r] W fun e w' => e = .returned (.bool true) ∧ W = w') :
    Calls Try.prog 84 #[r, fv] w (RdErr (.slice none 0 0) 1 w) := by
  have hb2 := (below1 (w := w) (.cells #[.slice none 0 0] 51)).alloc (by simp) (.cells #[.int .i64 0] 37)
  have HB2 := Lib.hid hb2
  have HN := Lib.hid hN
  clear hN hb2
  go_enter_defers Try.func84, Try.ntmps84
  go_wp2_with fail
  refine (HN.out _ HB2.out).mono ?_
  rintro e w1 ⟨rfl, rfl⟩
  go_wp2_with fail
  have ho9 : ((w.alloc (.cells #[.slice none 0 0] 51)).alloc (.cells #[.int .i64 1] 37)).cell? ⟨w.heap.size, 0, none⟩ = some (.slice none 0 0) := by
    refine cell_is _ _ 0 #[.slice none 0 0] 51 _ ?_ rfl
    rw [Below.heap_alloc _ _ _ (by simp)]
    exact heap_alloc_new w _
  have he9 : ((w.alloc (.cells #[.slice none 0 0] 51)).alloc (.cells #[.int .i64 1] 37)).cell? ⟨w.heap.size + 1, 0, none⟩ = some (.int .i64 1) := by
    refine cell_is _ _ 0 #[.int .i64 1] 37 _ ?_ rfl
    have := heap_alloc_new (w.alloc (.cells #[.slice none 0 0] 51)) (.cells #[.int .i64 1] 37)
    simpa using this
  have hb9 : Below w.heap.size w ((w.alloc (.cells #[.slice none 0 0] 51)).alloc (.cells #[.int .i64 1] 37)) := (below1 (w := w) (.cells #[.slice none 0 0] 51)).alloc (by simp) (.cells #[.int .i64 1] 37)
  generalize (w.alloc (.cells #[.slice none 0 0] 51)).alloc (.cells #[.int .i64 1] 37) = w9 at ho9 he9 hb9 ⊢
  simp [bodyPostD, Leaves, settle, results, Try.results84, go_sem, ho9, he9]
  exact ⟨rfl, hb9⟩

end Go.Proofs.Yteepfeggkocakaa
