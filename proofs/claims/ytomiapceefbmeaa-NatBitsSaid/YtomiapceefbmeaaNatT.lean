/- Walks: ShiftLeft, ShiftRight (printed by gennatr.py). · Walk: ShiftRight (printed by gennatt.py). -/
import Derived.Test.YtomiapceefbmeaaNatQ
set_option linter.unusedVariables false
set_option linter.unusedSimpArgs false
set_option maxRecDepth 20000
namespace Go.Proofs.Ytomiapceefbmeaa
open Go.RowKit Go.Shelf
attribute [local go_sem] Oper.semAt_some

/-- ShiftLeft's number and error. -/
def shlN (a : Nat) (n : Int) : Nat := if n < 0 then 0 else if a = 0 then 0 else if 1024 - (bl a : Int) < n then 0 else a * 2 ^ n.toNat
def shlE (a : Nat) (n : Int) : Int := if n < 0 then 2 else if a = 0 then 0 else if 1024 - (bl a : Int) < n then 7 else 0
def RetN (B : Nat) (w : World) (v : Nat) (e : Int) : Ending → World → Prop := fun r w' => r = .returned (.tuple #[.agg (natA v), .int .i64 e]) ∧ Below B w w'

set_option maxHeartbeats 3200000 in
theorem shl_neg (a : Nat) (n : Int) (w : World) (hn0 : n < 0) :
    Calls Try.prog 40 #[.agg (natA a), .int .i64 n] w (RetN w.heap.size w 0 2) := by
  have HA : Hid (NatAt (((w.alloc (.cells (natA a) 29)).alloc (.cells #[.int .i64 n] 3)).alloc (.cells z0 29)) (w.heap.size) (a)) := Lib.hid (by
    have h := NatAt.new w (a) 29
    replace h := h.alloc (.cells #[.int .i64 n] 3)
    replace h := h.alloc (.cells z0 29)
    simpa using h)
  have HR : Hid (NatAt (((w.alloc (.cells (natA a) 29)).alloc (.cells #[.int .i64 n] 3)).alloc (.cells z0 29)) (w.heap.size + 1 + 1) (0)) := Lib.hid (by
    have h := NatAt.new ((w.alloc (.cells (natA a) 29)).alloc (.cells #[.int .i64 n] 3)) (0) 29
    rw [natA_zero] at h
    simpa using h)
  have HW : Hid (Below w.heap.size w (((w.alloc (.cells (natA a) 29)).alloc (.cells #[.int .i64 n] 3)).alloc (.cells z0 29))) := Lib.hid (by
    have h := Below.refl w.heap.size w
    replace h := h.alloc h.size (.cells (natA a) 29)
    replace h := h.alloc h.size (.cells #[.int .i64 n] 3)
    replace h := h.alloc h.size (.cells z0 29)
    exact h)
  go_enter Try.func40, Try.ntmps40
  go_wp2_with (refine wpl_stN (m := 0) ntNat rfl rfl rfl (by rw [natA_zero]; rfl) HR.out ?_; intro w9 hn9 hg9; have HN9 := Lib.hid hn9; have HG9 := Lib.hid hg9; clear hn9 hg9)
  refine bodyPost_ret (results_nat rfl _ _ rfl HN9.out) rfl ?_
  exact ⟨rfl, HW.out.grown HG9.out HW.out.size (fun j e => by injection e with e; omega)⟩

theorem natLoad_run {P : Program} {T : TypeId} (hT : NT P T) {W : World} {B n : Nat} (h : NatAt W B n) : (Instr.loadAt T (.pointer (some ⟨B, 0, none⟩))).run P W = .ok (.agg (natA n)) W := by
  obtain ⟨d, h1, h2, h3⟩ := hT
  exact run_loadAt_mid W B 0 T (natL n) d h.range h1 h2 (by rw [natL_length]; exact h3)

set_option maxHeartbeats 3200000 in
theorem shl_zero (a : Nat) (n : Int) (w : World) (ha : Fit a) (h0 : a = 0) (hn0 : ¬ n < 0) :
    Calls Try.prog 40 #[.agg (natA a), .int .i64 n] w (RetN w.heap.size w a 0) := by
  have HF := Lib.hid ha
  have HZ : Hid (decide (a = 0) = true) := Lib.hid (decide_eq_true h0)
  clear ha h0
  have HA : Hid (NatAt (((w.alloc (.cells (natA a) 29)).alloc (.cells #[.int .i64 n] 3)).alloc (.cells z0 29)) (w.heap.size) (a)) := Lib.hid (by
    have h := NatAt.new w (a) 29
    replace h := h.alloc (.cells #[.int .i64 n] 3)
    replace h := h.alloc (.cells z0 29)
    simpa using h)
  have HR : Hid (NatAt (((w.alloc (.cells (natA a) 29)).alloc (.cells #[.int .i64 n] 3)).alloc (.cells z0 29)) (w.heap.size + 1 + 1) (0)) := Lib.hid (by
    have h := NatAt.new ((w.alloc (.cells (natA a) 29)).alloc (.cells #[.int .i64 n] 3)) (0) 29
    rw [natA_zero] at h
    simpa using h)
  have HW : Hid (Below w.heap.size w (((w.alloc (.cells (natA a) 29)).alloc (.cells #[.int .i64 n] 3)).alloc (.cells z0 29))) := Lib.hid (by
    have h := Below.refl w.heap.size w
    replace h := h.alloc h.size (.cells (natA a) 29)
    replace h := h.alloc h.size (.cells #[.int .i64 n] 3)
    replace h := h.alloc h.size (.cells z0 29)
    exact h)
  go_enter Try.func40, Try.ntmps40
  go_wp2_with (refine wpl_ldN ntNat rfl rfl rfl HA.out ?_)
  refine (isZero_any a _ HF.out).mono ?_
  rintro e w2 ⟨rfl, hb2⟩
  have HA2 := Lib.hid (HA.out.below hb2)
  have HR2 := Lib.hid (HR.out.below hb2)
  have HW2 := Lib.hid (HW.out.trans (hb2.mono HW.out.size))
  clear hb2 HA HR HW
  rw [HZ.out]
  go_wp2_with (first | (refine wpl_ldN ntNat rfl rfl rfl HA2.out ?_) | (refine wpl_stN ntNat rfl rfl rfl rfl HR2.out ?_; intro w9 hn9 hg9; have HN9 := Lib.hid hn9; have HG9 := Lib.hid hg9; clear hn9 hg9))
  refine bodyPost_ret (results_nat rfl _ _ rfl HN9.out) rfl ?_
  exact ⟨rfl, HW2.out.grown HG9.out HW2.out.size (fun j e => by injection e with e; omega)⟩

theorem exec_ldN {P : Program} {T : TypeId} (hT : NT P T) {o : Oper} {ρ : Operand → Value} {x : Operand} (ho : o.op = .load T x) {W : World} {B n : Nat} (hx : ρ x = .pointer (some ⟨B, 0, none⟩)) (h : NatAt W B n) :
    (execOp ρ o).run P W = .ok (.value (.agg (natA n))) W := by
  unfold execOp
  simp only [ho, hx, Sem.run_bind, natLoad_run hT h, Result.andThen_ok, Sem.run_pure]
theorem cell_later {W W' : World} {B i : Nat} {v : Value} (h : W.cell? ⟨B, i, none⟩ = some v) (hb : Below W.heap.size W W') : W'.cell? ⟨B, i, none⟩ = some v := by
  refine (hb.cell (p := ⟨B, i, none⟩) ?_).trans h
  rcases Nat.lt_or_ge B W.heap.size with h1 | h1
  · exact h1
  · simp [World.cell?, Array.getElem?_eq_none h1] at h
theorem NatAt.own {A B : World} {b n : Nat} {row : Option Nat} (h : NatAt A b n) (hg : A.grownBy B row) (hr : ∀ r, row = some r → ∃ o : Obj, A.heap[r]? = some o ∧ o.isCells = false) : NatAt B b n := by
  refine h.grown hg (fun e => ?_)
  obtain ⟨o, ho, hc⟩ := hr b e.symm
  obtain ⟨T, h⟩ := h
  rw [h] at ho
  injection ho with ho
  subst ho
  cases hc

set_option maxHeartbeats 3200000 in
theorem shl_far (a : Nat) (n : Int) (w : World) (ha : Fit a) (h0 : a ≠ 0) (hn0 : ¬ n < 0) (hf : 1024 - (bl a : Int) < n) :
    Calls Try.prog 40 #[.agg (natA a), .int .i64 n] w (RetN w.heap.size w 0 7) := by
  have HF := Lib.hid ha
  have hbl : (bl a : Int) ≤ 1024 := by have := bl_le (n := a) (k := 32 * 32) ha; omega
  have HZ : Hid (decide (a = 0) = false) := Lib.hid (decide_eq_false h0)
  clear ha h0
  have HA : Hid (NatAt (((w.alloc (.cells (natA a) 29)).alloc (.cells #[.int .i64 n] 3)).alloc (.cells z0 29)) (w.heap.size) (a)) := Lib.hid (by
    have h := NatAt.new w (a) 29
    replace h := h.alloc (.cells #[.int .i64 n] 3)
    replace h := h.alloc (.cells z0 29)
    simpa using h)
  have HR : Hid (NatAt (((w.alloc (.cells (natA a) 29)).alloc (.cells #[.int .i64 n] 3)).alloc (.cells z0 29)) (w.heap.size + 1 + 1) (0)) := Lib.hid (by
    have h := NatAt.new ((w.alloc (.cells (natA a) 29)).alloc (.cells #[.int .i64 n] 3)) (0) 29
    rw [natA_zero] at h
    simpa using h)
  have HW : Hid (Below w.heap.size w (((w.alloc (.cells (natA a) 29)).alloc (.cells #[.int .i64 n] 3)).alloc (.cells z0 29))) := Lib.hid (by
    have h := Below.refl w.heap.size w
    replace h := h.alloc h.size (.cells (natA a) 29)
    replace h := h.alloc h.size (.cells #[.int .i64 n] 3)
    replace h := h.alloc h.size (.cells z0 29)
    exact h)
  have HC : Hid ((((w.alloc (.cells (natA a) 29)).alloc (.cells #[.int .i64 n] 3)).alloc (.cells z0 29)).cell? ⟨w.heap.size + 1, 0, none⟩ = some (.int .i64 n)) := Lib.hid (by
    have h1 := World.cell?_alloc_mark (w.alloc (.cells (natA a) 29)) #[.int .i64 n] 3 (0, 0) 0
    rw [World.size_alloc] at h1
    exact (World.cell?_alloc_lt _ _ _ (by simp)).trans h1)
  go_enter Try.func40, Try.ntmps40
  go_wp2_with (refine wpl_ldN ntNat rfl rfl rfl HA.out ?_)
  refine (isZero_any a _ HF.out).mono ?_
  rintro e w2 ⟨rfl, hb2⟩
  have HA2 := Lib.hid (HA.out.below hb2)
  have HR2 := Lib.hid (HR.out.below hb2)
  have HCW := Lib.hid (cell_later HC.out hb2)
  have HC2 : Hid (∀ W, Later w2.drew W → W.cell? ⟨w.heap.size + 1, 0, none⟩ = some (.int .i64 n)) := Lib.hid (fun W hW => cell_later (W := w2.drew) HCW.out hW)
  have HW2 := Lib.hid (HW.out.trans (hb2.mono HW.out.size))
  clear hb2 HA HR HW HC
  rw [HZ.out]
  go_wp2_with fail
  have hsb : IntKind.i64.wrap (1024 - (bl a : Int)) = 1024 - (bl a : Int) := by rw [IntKind.wrap_i64]; omega
  refine region_road Later [(0, true), (1, true), (2, false), (3, true), (4, true), (5, true)] (by kernel_rfl) (by kernel_rfl) (by kernel_rfl) (by kernel_rfl) (by kernel_rfl) (by kernel_rfl) later_refl later_trans (fun _ _ d _ _ h => by cases d <;> exact h) ?_
  refine seqR_at (o := ?_) ?_ ?_
  rotate_left
  · (conv => (lhs; whnf; arg 1; whnf))
  refine seqR_y (v := ?_) (by rfl) (fun W hW => ?_) ?_
  rotate_left
  · have hl := HC2.out W hW; go_simp; try with_reducible rfl
  try simp only [Act.put, List.setIfInBounds_toArray, List.set_cons_zero, List.set_cons_succ]
  refine seqR_at (o := ?_) ?_ ?_
  rotate_left
  · (conv => (lhs; whnf; arg 1; whnf))
  refine seqR_y (v := ?_) (by rfl) (fun W hW => ?_) ?_
  rotate_left
  · (refine exec_ldN (x := .tmp 2) ntNat ?_ ?_ (HA2.out.drew.below hW)) <;> rfl
  try simp only [Act.put, List.setIfInBounds_toArray, List.set_cons_zero, List.set_cons_succ]
  refine seqR_at (o := ?_) ?_ ?_
  rotate_left
  · (conv => (lhs; whnf; arg 1; whnf))
  refine seqR_c (by rfl) (fun K hK => ?_)
  go_simp
  refine (bitLen_any a _ HF.out).mono ?_
  rintro e w4 ⟨rfl, hb4⟩
  have HB4 := Lib.hid hb4
  clear hb4
  refine hK _ _ HB4.out ?_
  try simp only [Act.put, List.setIfInBounds_toArray, List.set_cons_zero, List.set_cons_succ]
  refine seqR_at (o := ?_) ?_ ?_
  rotate_left
  · (conv => (lhs; whnf; arg 1; whnf))
  refine seqR_y (v := ?_) (by rfl) (fun W hW => ?_) ?_
  rotate_left
  · go_simp; try with_reducible rfl
  try simp only [Act.put, List.setIfInBounds_toArray, List.set_cons_zero, List.set_cons_succ]
  refine seqR_at (o := ?_) ?_ ?_
  rotate_left
  · (conv => (lhs; whnf; arg 1; whnf))
  refine seqR_y (v := ?_) (by rfl) (fun W hW => ?_) ?_
  rotate_left
  · go_simp; try with_reducible rfl
  try simp only [Act.put, List.setIfInBounds_toArray, List.set_cons_zero, List.set_cons_succ]
  refine seqR_at (o := ?_) ?_ ?_
  rotate_left
  · (conv => (lhs; whnf; arg 1; whnf))
  refine seqR_y (v := ?_) (by rfl) (fun W hW => ?_) ?_
  rotate_left
  · go_simp; try with_reducible rfl
  try simp only [Act.put, List.setIfInBounds_toArray, List.set_cons_zero, List.set_cons_succ]
  refine seqR_end ?_
  have HA4 := Lib.hid (HA2.out.drew.below HB4.out)
  have HR4 := Lib.hid (HR2.out.drew.below HB4.out)
  have HC4 := Lib.hid (cell_later (W := w2.drew) HCW.out HB4.out)
  have HW4 : Hid (Below w.heap.size w w4) := Lib.hid (HW2.out.drew.trans (Below.mono HB4.out HW2.out.size))
  clear HA2 HR2 HC2 HCW HW2 HB4 hsb
  go_wp2_with (refine wpl_stN (m := 0) ntNat rfl rfl rfl (by rw [natA_zero]; rfl) HR4.out ?_; intro w9 hn9 hg9; have HN9 := Lib.hid hn9; have HG9 := Lib.hid hg9; clear hn9 hg9)
  refine bodyPost_ret (results_nat rfl _ _ rfl HN9.out) rfl ?_
  exact ⟨rfl, HW4.out.grown HG9.out HW4.out.size (fun j e => by injection e with e; omega)⟩

theorem Fit.shl {a N : Nat} (h : bl a + N ≤ 1024) : Fit (a * 2 ^ N) := by
  have h1 := lt_bl a
  have h2 : a * 2 ^ N < 2 ^ (bl a + N) := by rw [Nat.pow_add]; exact Nat.mul_lt_mul_of_pos_right h1 (Nat.two_pow_pos _)
  exact Nat.lt_of_lt_of_le h2 (pow_le_B32 (by omega))
theorem shl_all (a N : Nat) : shlF N (onesN a) 0 = a * 2 ^ N := by
  unfold onesN
  rw [shl_ones, Nat.mod_eq_of_lt (lt_bl a), Nat.zero_or]
theorem shlF_snoc (N : Nat) (l : List Nat) (x : Nat) (V : Nat) : shlF N (l ++ [x]) V = shlF N l V ||| 2 ^ (x + N) := by simp [shlF]

theorem or_pow (D M : Nat) (hD : (D : Int) < 4294967296) (hM : M < 32) : bits .or .u32 (D : Int) (IntKind.u32.wrap (2 ^ M)) = ((D ||| 2 ^ M : Nat) : Int) := by
  have h : 2 ^ M < 2 ^ 32 := Nat.pow_lt_pow_right (by decide) hM
  rw [p32] at h
  have e2 : ((2 : Int) ^ M) = ((2 ^ M : Nat) : Int) := by simp
  have e : IntKind.u32.wrap ((2 : Int) ^ M) = ((2 ^ M : Nat) : Int) := by
    rw [IntKind.wrap_u32, e2]
    clear e2
    generalize 2 ^ M = q at *
    omega
  rw [e, u32_or_nat _ _ (by omega) h]
theorem cell_kept' {W W' : World} {B i : Nat} {v : Value} {row : Option Nat} (h : W.cell? ⟨B, i, none⟩ = some v) (hg : W.grownBy W' row) (hne : row ≠ some B) : W'.cell? ⟨B, i, none⟩ = some v := by
  refine (World.cell?_of_block (hg.block B ?_ (fun e => hne e.symm))).trans h
  rcases Nat.lt_or_ge B W.heap.size with h1 | h1
  · exact h1
  · simp [World.cell?, Array.getElem?_eq_none h1] at h
/-- A loop over an iterator of one variable that lies in no box: its frame is the loop's, with the variable. -/
theorem wpIn_rangeFunc_own1 {F : Fence} {n : Nat} {P : Program} {α : Type} {g : Operand} {q k : Nat} {assign body : Code} {Q : Exit → Act → World → Prop} {a : Act} {w : World}
    (hro : F.round = none) (h1 : 1 ≤ n) {gf : Nat} {lb : Array Value} (hg : a.eval g = .func (.func gf) #[] lb) (hFg : F.fn gf) (eg : ∀ args w, (callFunc gf args).run P w = .ok (.enter gf args) w)
    {enc : α → Value} {Kp : World → World → Prop} {S Sp : List α → Prop} {N : Nat} {w0 : World} (hseq : SeqStopsK F (n - 1) P gf lb (fun x => #[enc x]) Kp S Sp N w0)
    (hKt : ∀ {A B C : World}, Kp A B → Kp B C → Kp A C) (hKb : ∀ (W : World) (l : Nat) (o o' : Obj), w.heap.size ≤ l → W.heap[l]? = some o → o.isCells = false → o.isWalk = false → Kp W (W.putObj l o')) (hb0 : Below w0.heap.size w0 w)
    (I : List α → World → Prop) (Ix : Code → List α → World → Prop) (hI : OwnFrom w.heap.size I) (hIx : ∀ c, OwnFrom w.heap.size (Ix c)) (h0 : I [] w)
    (hassign : ∀ (l : Nat) (x : α) (W : World) (K : Act → World → Prop), K { tmps := (a.tmps.setIfInBounds q (enc x)).setIfInBounds k (enc x), defers := [] } W →
      assign.wpIn (F.inRound l) (n - 1 - 1) P (Exit.then K (fun _ _ _ => False)) { tmps := a.tmps.setIfInBounds q (enc x), defers := [] } W)
    (hbody : ∀ (l : Nat) (pre : List α) (x : α) (W : World), I pre W → pre.length < N → body.wpIn (F.inRound l) (n - 1 - 1) P (ownPostK Kp I Ix (pre ++ [x]) W) { tmps := (a.tmps.setIfInBounds q (enc x)).setIfInBounds k (enc x), defers := [] } W)
    (hdone : ∀ (D : Nat) (xs : List α) (W : World), w.heap.size ≤ D → S xs → I xs W → W.heap[D]? = some (.deferred (some [])) → Q .normal { a with defers := { target := .collected D, args := #[] } :: a.defers } W)
    (hstop : ∀ (D : Nat) (c : Code) (pre : List α) (W : World), w.heap.size ≤ D → Sp pre → Ix c pre W → W.heap[D]? = some (.deferred (some [])) → c.wpIn F n P Q { a with defers := { target := .collected D, args := #[] } :: a.defers } W) :
    (Code.rangeFunc g #[q] assign body).wpIn F n P Q a w :=
  wpIn_rangeFunc_ownF hro h1 hg hFg eg hseq hKt hKb hb0 (fun _ => rfl) I Ix hI hIx h0 (fun x => { tmps := (a.tmps.setIfInBounds q (enc x)).setIfInBounds k (enc x), defers := [] })
    (fun l x W K hK => by simpa using hassign l x W K hK) hbody hdone hstop

set_option maxHeartbeats 3200000 in
theorem shl_main (a N : Nat) (w : World) (ha : Fit a) (h0 : a ≠ 0) (hf : bl a + N ≤ 1024) :
    Calls Try.prog 40 #[.agg (natA a), .int .i64 (N : Int)] w (RetN w.heap.size w (a * 2 ^ N) 0) := by
  obtain ⟨n, hn⟩ : ∃ n : Int, n = (N : Int) := ⟨_, rfl⟩
  rw [← hn]
  have hn0 : ¬ n < 0 := by omega
  have hfn : n ≤ 1024 - (bl a : Int) := by omega
  have HN := Lib.hid hn
  have HF := Lib.hid ha
  have hbl : (bl a : Int) ≤ 1024 := by have := bl_le (n := a) (k := 32 * 32) ha; omega
  have HFF := Lib.hid hf
  have HZ : Hid (decide (a = 0) = false) := Lib.hid (decide_eq_false h0)
  clear ha h0 hn hf
  have HA : Hid (NatAt (((w.alloc (.cells (natA a) 29)).alloc (.cells #[.int .i64 n] 3)).alloc (.cells z0 29)) (w.heap.size) (a)) := Lib.hid (by
    have h := NatAt.new w (a) 29
    replace h := h.alloc (.cells #[.int .i64 n] 3)
    replace h := h.alloc (.cells z0 29)
    simpa using h)
  have HR : Hid (NatAt (((w.alloc (.cells (natA a) 29)).alloc (.cells #[.int .i64 n] 3)).alloc (.cells z0 29)) (w.heap.size + 1 + 1) (0)) := Lib.hid (by
    have h := NatAt.new ((w.alloc (.cells (natA a) 29)).alloc (.cells #[.int .i64 n] 3)) (0) 29
    rw [natA_zero] at h
    simpa using h)
  have HW : Hid (Below w.heap.size w (((w.alloc (.cells (natA a) 29)).alloc (.cells #[.int .i64 n] 3)).alloc (.cells z0 29))) := Lib.hid (by
    have h := Below.refl w.heap.size w
    replace h := h.alloc h.size (.cells (natA a) 29)
    replace h := h.alloc h.size (.cells #[.int .i64 n] 3)
    replace h := h.alloc h.size (.cells z0 29)
    exact h)
  have HC : Hid ((((w.alloc (.cells (natA a) 29)).alloc (.cells #[.int .i64 n] 3)).alloc (.cells z0 29)).cell? ⟨w.heap.size + 1, 0, none⟩ = some (.int .i64 n)) := Lib.hid (by
    have h1 := World.cell?_alloc_mark (w.alloc (.cells (natA a) 29)) #[.int .i64 n] 3 (0, 0) 0
    rw [World.size_alloc] at h1
    exact (World.cell?_alloc_lt _ _ _ (by simp)).trans h1)
  refine (callsIn_wide (n := 8)).1 ?_
  refine callsIn_of_wp_marks Try.func40 rfl trivial ?_ rfl
  refine wpIn_wide.2 ?_
  simp only [Try.ntmps40, List.size_toArray, List.length_cons, List.length_nil, Nat.reduceAdd, Nat.reduceSub, Array.replicate_succ, Array.replicate_zero, List.push_toArray, List.append_toArray, List.nil_append, List.cons_append]
  go_wp2_with (refine wpl_ldN ntNat rfl rfl rfl HA.out ?_)
  refine (isZero_any a _ HF.out).mono ?_
  rintro e w2 ⟨rfl, hb2⟩
  have HA2 := Lib.hid (HA.out.below hb2)
  have HR2 := Lib.hid (HR.out.below hb2)
  have HCW := Lib.hid (cell_later HC.out hb2)
  have HC2 : Hid (∀ W, Later w2.drew W → W.cell? ⟨w.heap.size + 1, 0, none⟩ = some (.int .i64 n)) := Lib.hid (fun W hW => cell_later (W := w2.drew) HCW.out hW)
  have HW2 := Lib.hid (HW.out.trans (hb2.mono HW.out.size))
  clear hb2 HA HR HW HC
  rw [HZ.out]
  go_wp2_with fail
  have hsb : IntKind.i64.wrap (1024 - (bl a : Int)) = 1024 - (bl a : Int) := by rw [IntKind.wrap_i64]; omega
  refine region_roadN Later [(0, true), (1, true), (2, false), (3, true), (4, true), (5, true)] (by kernel_rfl) (by kernel_rfl) (by kernel_rfl) (by kernel_rfl) (by kernel_rfl) (by kernel_rfl) later_refl later_trans ?_
  refine seqR_at (o := ?_) ?_ ?_
  rotate_left
  · (conv => (lhs; whnf; arg 1; whnf))
  refine seqR_y (v := ?_) (by rfl) (fun W hW => ?_) ?_
  rotate_left
  · have hl := HC2.out W hW; go_simp; try with_reducible rfl
  try simp only [Act.put, List.setIfInBounds_toArray, List.set_cons_zero, List.set_cons_succ]
  refine seqR_at (o := ?_) ?_ ?_
  rotate_left
  · (conv => (lhs; whnf; arg 1; whnf))
  refine seqR_y (v := ?_) (by rfl) (fun W hW => ?_) ?_
  rotate_left
  · (refine exec_ldN (x := .tmp 2) ntNat ?_ ?_ (HA2.out.drew.below hW)) <;> rfl
  try simp only [Act.put, List.setIfInBounds_toArray, List.set_cons_zero, List.set_cons_succ]
  refine seqR_at (o := ?_) ?_ ?_
  rotate_left
  · (conv => (lhs; whnf; arg 1; whnf))
  refine seqR_c (by rfl) (fun K hK => ?_)
  go_simp
  refine (bitLen_any a _ HF.out).mono ?_
  rintro e w4 ⟨rfl, hb4⟩
  have HB4 := Lib.hid hb4
  clear hb4
  refine hK _ _ HB4.out ?_
  try simp only [Act.put, List.setIfInBounds_toArray, List.set_cons_zero, List.set_cons_succ]
  refine seqR_at (o := ?_) ?_ ?_
  rotate_left
  · (conv => (lhs; whnf; arg 1; whnf))
  refine seqR_y (v := ?_) (by rfl) (fun W hW => ?_) ?_
  rotate_left
  · go_simp; try with_reducible rfl
  try simp only [Act.put, List.setIfInBounds_toArray, List.set_cons_zero, List.set_cons_succ]
  refine seqR_at (o := ?_) ?_ ?_
  rotate_left
  · (conv => (lhs; whnf; arg 1; whnf))
  refine seqR_y (v := ?_) (by rfl) (fun W hW => ?_) ?_
  rotate_left
  · go_simp; try with_reducible rfl
  try simp only [Act.put, List.setIfInBounds_toArray, List.set_cons_zero, List.set_cons_succ]
  refine seqR_at (o := ?_) ?_ ?_
  rotate_left
  · (conv => (lhs; whnf; arg 1; whnf))
  refine seqR_y (v := ?_) (by rfl) (fun W hW => ?_) ?_
  rotate_left
  · go_simp; try with_reducible rfl
  try simp only [Act.put, List.setIfInBounds_toArray, List.set_cons_zero, List.set_cons_succ]
  refine seqR_end ?_
  simp only [onN]
  have HA4 := Lib.hid (HA2.out.drew.below HB4.out)
  have HR4 := Lib.hid (HR2.out.drew.below HB4.out)
  have HC4 := Lib.hid (cell_later (W := w2.drew) HCW.out HB4.out)
  have HW4 : Hid (Below w.heap.size w w4) := Lib.hid (HW2.out.drew.trans (Below.mono HB4.out HW2.out.size))
  clear HA2 HR2 HC2 HCW HW2 HB4 hsb
  have HS4 : Hid (w.heap.size + 2 < w4.heap.size) := Lib.hid HR4.out.lt
  have HO5 : Hid (NatAt (w4.alloc (.cells z0 29)) w4.heap.size 0) := Lib.hid (by
    have h := NatAt.new w4 0 29
    rw [natA_zero] at h
    exact h)
  have HA5 : Hid (NatAt (w4.alloc (.cells z0 29)) w.heap.size a) := Lib.hid (HA4.out.alloc _)
  have HR5 : Hid (NatAt (w4.alloc (.cells z0 29)) (w.heap.size + 1 + 1) 0) := Lib.hid (HR4.out.alloc _)
  have HC5 : Hid ((w4.alloc (.cells z0 29)).cell? ⟨w.heap.size + 1, 0, none⟩ = some (.int .i64 n)) := Lib.hid (cell_later HC4.out ((Below.refl _ _).alloc (Nat.le_refl _) _))
  have HW5 : Hid (Below w.heap.size w (w4.alloc (.cells z0 29))) := Lib.hid (HW4.out.alloc (by have := HS4.out; omega) _)
  go_wp2_with (refine wpl_ldN ntNat rfl rfl rfl HA5.out ?_)
  generalize w4.alloc (.cells z0 29) = w5 at HO5 HA5 HR5 HC5 HW5 ⊢
  refine (ones_any a _).mono ?_
  rintro e w6 ⟨rfl, hb6, hn6⟩
  have HSZ5 : Hid (w4.heap.size < w5.heap.size) := Lib.hid HO5.out.lt
  have HO6 := Lib.hid (HO5.out.below hb6)
  have HR6 := Lib.hid (HR5.out.below hb6)
  have HC6 := Lib.hid (cell_later HC5.out hb6)
  have HW6 : Hid (Below w.heap.size w w6) := Lib.hid (HW5.out.trans (hb6.mono HW5.out.size))
  have HN6 := Lib.hid hn6
  have HSZ6 : Hid (w5.heap.size < w6.heap.size) := Lib.hid hn6.lt
  clear hb6 hn6 HA5 HO5 HR5 HC5 HW5
  go_wp2_with fail
  generalize w4.heap.size = B6 at *
  generalize w5.heap.size = Bn at *
  refine (wpIn_wide (n := 8)).1 ?_
  refine wpIn_rangeFunc_own1 (F := Fence.wide) (q := 25) (k := 7) (enc := fun x : Bits a => .int .i64 (x.1 : Int)) rfl (by decide) (gf := 52) (lb := #[.pointer (some ⟨Bn, 0, none⟩)]) rfl trivial (enters_of Try.func52 (by kernel_rfl) rfl)
    (ones1_stops a 7 Bn w6 HF.out HN6.out) KeepB.trans (keepB_put HSZ6.out) (Below.refl _ _)
    (fun pre W => (NatAt W B6 (shlF N (pre.map (·.1)) 0) ∧ W.cell? ⟨w.heap.size + 1, 0, none⟩ = some (.int .i64 n) ∧ NatAt W (w.heap.size + 1 + 1) 0) ∧ Below w.heap.size w W)
    (fun _ _ _ => False)
    (OwnFrom.and (Own.from (fun s A B row hs hg hr => ⟨hs.1.own hg hr, cell_kept hs.2.1 hg hr, hs.2.2.own hg hr⟩) _) (ownFrom_below (Nat.le_refl _) HW6.out.size))
    (fun _ _ _ _ _ hs _ _ => hs)
    ⟨⟨HO6.out, HC6.out, HR6.out⟩, HW6.out⟩ ?assign ?body ?done ?stop
  case assign =>
    intro l x W K hK
    simp only [List.setIfInBounds_toArray, List.set_cons_zero, List.set_cons_succ] at hK ⊢
    gi_wp2
    exact hK
  case stop =>
    rintro D c pre W _ _ h _
    exact h.elim
  case body =>
    rintro l pre ⟨i, hib, hbit⟩ W ⟨⟨hO, hC, hR⟩, hB⟩ _
    simp only [List.setIfInBounds_toArray, List.set_cons_zero, List.set_cons_succ]
    have hpre : Hid ((pre ++ [(⟨i, hib, hbit⟩ : Bits a)]).map (·.1) = pre.map (·.1) ++ [i]) := Lib.hid (by simp)
    generalize pre ++ [(⟨i, hib, hbit⟩ : Bits a)] = pre2 at *
    obtain ⟨p, hp⟩ : ∃ p, p = i + N := ⟨_, rfl⟩
    have hp1024 : p < 1024 := by have := HFF.out; omega
    have hw1 : IntKind.i64.wrap ((i : Int) + n) = (p : Int) := by have := HN.out; rw [IntKind.wrap_i64]; omega
    have hpi : p / 32 < 32 := by omega
    have HO := Lib.hid hO
    have HC := Lib.hid hC
    have HR := Lib.hid hR
    have HB := Lib.hid hB
    have HPP := Lib.hid hp
    have cz := hO.cell hpi
    have fz := hO.frozen (p / 32)
    have q1 : IntKind.i64.wrap ((p / 32 : Nat) : Int) = ((p / 32 : Nat) : Int) := by rw [IntKind.wrap_i64]; omega
    have e4 : (p : Int) / 32 = ((p / 32 : Nat) : Int) := by omega
    have m4 : ((p : Int)).tmod 32 = ((p % 32 : Nat) : Int) := by rw [Int.tmod_eq_emod_of_nonneg (by omega)]; omega
    have b1 : (0 : Int) ≤ ((p / 32 : Nat) : Int) := by omega
    have b2 : ((p / 32 : Nat) : Int) < 32 := by omega
    have b3 : ((p % 32 : Nat) : Int) < 32 := by omega
    have b4 : (0 : Int) ≤ ((p % 32 : Nat) : Int) := by omega
    have b5 : (0 : Int) ≤ (p : Int) := by omega
    have q2 : IntKind.i64.wrap (p % 32 : Nat) = ((p % 32 : Nat) : Int) := by rw [IntKind.wrap_i64]; omega
    have hDl := dig_lt (shlF N (pre.map (·.1)) 0) (p / 32)
    have hOld := Lib.hid hO
    clear hO hR hB hib hbit hp hp1024
    generalize hD : dig (shlF N (pre.map (·.1)) 0) (p / 32) = D at *
    have HDL := Lib.hid hDl
    have HD := Lib.hid hD
    clear hDl hD
    generalize hJ : p / 32 = J at *
    generalize hM : p % 32 = M at *
    have HJ := Lib.hid hJ
    have HM := Lib.hid hM
    clear hJ hM
    gi_wp2
    refine wpIn_region_still_tail 16 (by kernel_rfl) (by kernel_rfl) (by kernel_rfl) ?_
    simp only [List.take_succ_cons, List.take_zero, List.drop_succ_cons, List.drop_zero]
    repeat still_step
    try refine wpStill_nil ?_
    change wpListIn _ _ _ _ _ _ _ W.drew
    gi_wp2
    have hput := NatAt.orb (w := W.drew) (p := p) HO.out.drew (by rw [HJ.out]; omega) (bits .or .u32 (D : Int) (IntKind.u32.wrap (2 ^ M))) (by rw [HJ.out, HM.out, HD.out]; exact or_pow D M HDL.out (by omega))
    rw [HJ.out] at hput
    have hg : W.grownBy (W.drew.setCell ⟨B6, J, none⟩ (.int .u32 (bits .or .u32 (D : Int) (IntKind.u32.wrap (2 ^ M))))) (some B6) := ⟨hput.2.os, hput.2.tape, hput.2.output, hput.2.size, hput.2.block⟩
    have hS4 := HS4.out
    have hS5 := HSZ5.out
    refine ⟨(KeepsOthers.drew W).trans (KeepsOthers.setCell _ _ _), ⟨heap_setCell_other W.drew ⟨B6, J, none⟩ Bn _ (by simp; omega), hg.size⟩, ⟨?_, cell_kept' HC.out hg (by simp; omega), HR.out.grown hg (by simp; omega)⟩, HB.out.grown hg HB.out.size (fun k e => by injection e with e; omega)⟩
    rw [hpre.out, shlF_snoc, ← HPP.out]
    exact hput.1
  case done =>
    rintro D ys W hD hS ⟨⟨hO, hC, hR⟩, hB⟩ hK
    have hV : Hid (shlF N (ys.map (·.1)) 0 = a * 2 ^ N) := Lib.hid (by rw [hS, shl_all])
    rw [hV.out] at hO
    have HO := Lib.hid hO
    have HR := Lib.hid hR
    have HB := Lib.hid hB
    have HK := Lib.hid hK
    have HDR : Hid (w.heap.size + 2 < D) := Lib.hid (by have := HS4.out; have := HSZ5.out; have := HSZ6.out; omega)
    clear hO hC hR hB hK hS
    go_wp2_with (first | (refine wpl_ldN ntNat rfl rfl rfl HO.out ?_) | (refine wpl_stN ntNat rfl rfl rfl rfl HR.out ?_; intro w9 hn9 hg9; have HN9 := Lib.hid hn9; have HG9 := Lib.hid hg9; clear hn9 hg9))
    have hK9 : w9.heap[D]? = some (.deferred (some [])) := (HG9.out.block D (Array.getElem?_eq_some_iff.1 HK.out).1 (fun e => by injection e with e; have := HDR.out; omega)).trans HK.out
    have hgp := grownBy_putObj' w9 D (.deferred none)
    refine ⟨by simp, .inl ⟨_, _, rfl, run_takeDeferred hK9, ?_⟩⟩
    refine ⟨_, results_nat rfl _ _ rfl (HN9.out.grown hgp (fun e => by injection e with e; have := HDR.out; omega)), rfl, ?_⟩
    exact (HB.out.grown HG9.out HB.out.size (fun j e => by injection e with e; omega)).grown hgp (Nat.le_trans HB.out.size HG9.out.size) (fun j e => by injection e with e; have := HDR.out; omega)

end Go.Proofs.Ytomiapceefbmeaa

set_option linter.unusedVariables false
set_option linter.unusedSimpArgs false
set_option maxRecDepth 20000
namespace Go.Proofs.Ytomiapceefbmeaa
open Go.RowKit Go.Shelf
attribute [local go_sem] Oper.semAt_some

/-- ShiftRight's number and error. -/
def shrN (a : Nat) (n : Int) : Nat := if n < 0 then 0 else a / 2 ^ n.toNat
def shrE (n : Int) : Int := if n < 0 then 2 else 0

set_option maxHeartbeats 3200000 in
theorem shr_neg (a : Nat) (n : Int) (w : World) (hn0 : n < 0) :
    Calls Try.prog 41 #[.agg (natA a), .int .i64 n] w (RetN w.heap.size w 0 2) := by
  have HA : Hid (NatAt (((w.alloc (.cells (natA a) 29)).alloc (.cells #[.int .i64 n] 3)).alloc (.cells z0 29)) (w.heap.size) (a)) := Lib.hid (by
    have h := NatAt.new w (a) 29
    replace h := h.alloc (.cells #[.int .i64 n] 3)
    replace h := h.alloc (.cells z0 29)
    simpa using h)
  have HR : Hid (NatAt (((w.alloc (.cells (natA a) 29)).alloc (.cells #[.int .i64 n] 3)).alloc (.cells z0 29)) (w.heap.size + 1 + 1) (0)) := Lib.hid (by
    have h := NatAt.new ((w.alloc (.cells (natA a) 29)).alloc (.cells #[.int .i64 n] 3)) (0) 29
    rw [natA_zero] at h
    simpa using h)
  have HW : Hid (Below w.heap.size w (((w.alloc (.cells (natA a) 29)).alloc (.cells #[.int .i64 n] 3)).alloc (.cells z0 29))) := Lib.hid (by
    have h := Below.refl w.heap.size w
    replace h := h.alloc h.size (.cells (natA a) 29)
    replace h := h.alloc h.size (.cells #[.int .i64 n] 3)
    replace h := h.alloc h.size (.cells z0 29)
    exact h)
  go_enter Try.func41, Try.ntmps41
  go_wp2_with (refine wpl_stN (m := 0) ntNat rfl rfl rfl (by rw [natA_zero]; rfl) HR.out ?_; intro w9 hn9 hg9; have HN9 := Lib.hid hn9; have HG9 := Lib.hid hg9; clear hn9 hg9)
  refine bodyPost_ret (results_nat rfl _ _ rfl HN9.out) rfl ?_
  exact ⟨rfl, HW.out.grown HG9.out HW.out.size (fun j e => by injection e with e; omega)⟩

theorem shrF_snoc (N : Nat) (l : List Nat) (x : Nat) (V : Nat) : shrF N (l ++ [x]) V = shrF N l V ||| 2 ^ (x - N) := by simp [shrF]
theorem shr_all (a N : Nat) : shrF N ((onesN a).filter (fun x => decide (N ≤ x))) 0 = a / 2 ^ N := by
  unfold onesN
  rw [shr_ones, Nat.mod_eq_of_lt (lt_bl a), Nat.zero_or]
theorem filter_all (N : Nat) (l : List Nat) (h : ∀ y ∈ l, N ≤ y) : l.filter (fun x => decide (N ≤ x)) = l := List.filter_eq_self.2 (fun y hy => decide_eq_true (h y hy))
theorem filter_stop (N : Nat) : ∀ (l pre : List Nat) (x : Nat), l.Pairwise (fun x y => y < x) → pre ++ [x] <+: l → (∀ y ∈ pre, N ≤ y) → x < N → l.filter (fun x => decide (N ≤ x)) = pre
  | l, pre, x, hs, ⟨r, hr⟩, hp, hx => by
    subst hr
    rw [List.append_assoc, List.filter_append, filter_all N pre hp]
    have h1 : ([x] ++ r).filter (fun x => decide (N ≤ x)) = [] := by
      rw [List.filter_eq_nil_iff]
      intro y hy
      rw [List.append_assoc] at hs
      have h2 := (List.pairwise_append.1 hs).2.1
      rcases List.mem_cons.1 hy with rfl | hy
      · simp; omega
      · have := (List.pairwise_cons.1 h2).1 y hy
        simp
        omega
    rw [h1, List.append_nil]

set_option maxHeartbeats 3200000 in
theorem shr_main (a N : Nat) (w : World) (ha : Fit a) :
    Calls Try.prog 41 #[.agg (natA a), .int .i64 (N : Int)] w (RetN w.heap.size w (a / 2 ^ N) 0) := by
  obtain ⟨n, hn⟩ : ∃ n : Int, n = (N : Int) := ⟨_, rfl⟩
  rw [← hn]
  have hn0 : 0 ≤ n := by omega
  have HN := Lib.hid hn
  have HF := Lib.hid ha
  have hbl : (bl a : Int) ≤ 1024 := by have := bl_le (n := a) (k := 32 * 32) ha; omega
  clear ha hn
  have HA : Hid (NatAt (((w.alloc (.cells (natA a) 29)).alloc (.cells #[.int .i64 n] 3)).alloc (.cells z0 29)) (w.heap.size) (a)) := Lib.hid (by
    have h := NatAt.new w (a) 29
    replace h := h.alloc (.cells #[.int .i64 n] 3)
    replace h := h.alloc (.cells z0 29)
    simpa using h)
  have HR : Hid (NatAt (((w.alloc (.cells (natA a) 29)).alloc (.cells #[.int .i64 n] 3)).alloc (.cells z0 29)) (w.heap.size + 1 + 1) (0)) := Lib.hid (by
    have h := NatAt.new ((w.alloc (.cells (natA a) 29)).alloc (.cells #[.int .i64 n] 3)) (0) 29
    rw [natA_zero] at h
    simpa using h)
  have HW : Hid (Below w.heap.size w (((w.alloc (.cells (natA a) 29)).alloc (.cells #[.int .i64 n] 3)).alloc (.cells z0 29))) := Lib.hid (by
    have h := Below.refl w.heap.size w
    replace h := h.alloc h.size (.cells (natA a) 29)
    replace h := h.alloc h.size (.cells #[.int .i64 n] 3)
    replace h := h.alloc h.size (.cells z0 29)
    exact h)
  have HC : Hid ((((w.alloc (.cells (natA a) 29)).alloc (.cells #[.int .i64 n] 3)).alloc (.cells z0 29)).cell? ⟨w.heap.size + 1, 0, none⟩ = some (.int .i64 n)) := Lib.hid (by
    have h1 := World.cell?_alloc_mark (w.alloc (.cells (natA a) 29)) #[.int .i64 n] 3 (0, 0) 0
    rw [World.size_alloc] at h1
    exact (World.cell?_alloc_lt _ _ _ (by simp)).trans h1)
  refine (callsIn_wide (n := 8)).1 ?_
  refine callsIn_of_wp_marks Try.func41 rfl trivial ?_ rfl
  refine wpIn_wide.2 ?_
  simp only [Try.ntmps41, List.size_toArray, List.length_cons, List.length_nil, Nat.reduceAdd, Nat.reduceSub, Array.replicate_succ, Array.replicate_zero, List.push_toArray, List.append_toArray, List.nil_append, List.cons_append]
  have HS4 : Hid (w.heap.size + 2 < ((((w.alloc (.cells (natA a) 29)).alloc (.cells #[.int .i64 n] 3)).alloc (.cells z0 29))).heap.size) := Lib.hid HR.out.lt
  have HO5 : Hid (NatAt (((((w.alloc (.cells (natA a) 29)).alloc (.cells #[.int .i64 n] 3)).alloc (.cells z0 29))).alloc (.cells z0 29)) ((((w.alloc (.cells (natA a) 29)).alloc (.cells #[.int .i64 n] 3)).alloc (.cells z0 29))).heap.size 0) := Lib.hid (by
    have h := NatAt.new ((((w.alloc (.cells (natA a) 29)).alloc (.cells #[.int .i64 n] 3)).alloc (.cells z0 29))) 0 29
    rw [natA_zero] at h
    exact h)
  have HA5 : Hid (NatAt (((((w.alloc (.cells (natA a) 29)).alloc (.cells #[.int .i64 n] 3)).alloc (.cells z0 29))).alloc (.cells z0 29)) w.heap.size a) := Lib.hid (HA.out.alloc _)
  have HR5 : Hid (NatAt (((((w.alloc (.cells (natA a) 29)).alloc (.cells #[.int .i64 n] 3)).alloc (.cells z0 29))).alloc (.cells z0 29)) (w.heap.size + 1 + 1) 0) := Lib.hid (HR.out.alloc _)
  have HC5 : Hid ((((((w.alloc (.cells (natA a) 29)).alloc (.cells #[.int .i64 n] 3)).alloc (.cells z0 29))).alloc (.cells z0 29)).cell? ⟨w.heap.size + 1, 0, none⟩ = some (.int .i64 n)) := Lib.hid (cell_later HC.out ((Below.refl _ _).alloc (Nat.le_refl _) _))
  have HW5 : Hid (Below w.heap.size w (((((w.alloc (.cells (natA a) 29)).alloc (.cells #[.int .i64 n] 3)).alloc (.cells z0 29))).alloc (.cells z0 29))) := Lib.hid (HW.out.alloc (by have := HS4.out; omega) _)
  clear HA HR HC HW
  go_wp2_with (refine wpl_ldN ntNat rfl rfl rfl HA5.out ?_)
  generalize hw4 : ((((w.alloc (.cells (natA a) 29)).alloc (.cells #[.int .i64 n] 3)).alloc (.cells z0 29))) = w4 at HS4 HO5 HA5 HR5 HC5 HW5 ⊢
  have hz4 : w.heap.size + 1 + 1 + 1 = w4.heap.size := by rw [← hw4]; simp
  rw [hz4]
  clear hz4 hw4
  generalize w4.alloc (.cells z0 29) = w5 at HO5 HA5 HR5 HC5 HW5 ⊢
  refine (ones_any a _).mono ?_
  rintro e w6 ⟨rfl, hb6, hn6⟩
  have HSZ5 : Hid (w4.heap.size < w5.heap.size) := Lib.hid HO5.out.lt
  have HO6 := Lib.hid (HO5.out.below hb6)
  have HR6 := Lib.hid (HR5.out.below hb6)
  have HC6 := Lib.hid (cell_later HC5.out hb6)
  have HW6 : Hid (Below w.heap.size w w6) := Lib.hid (HW5.out.trans (hb6.mono HW5.out.size))
  have HN6 := Lib.hid hn6
  have HSZ6 : Hid (w5.heap.size < w6.heap.size) := Lib.hid hn6.lt
  clear hb6 hn6 HA5 HO5 HR5 HC5 HW5
  go_wp2_with fail
  generalize w4.heap.size = B6 at *
  generalize w5.heap.size = Bn at *
  refine (wpIn_wide (n := 8)).1 ?_
  refine wpIn_rangeFunc_own1 (F := Fence.wide) (q := 13) (k := 7) (enc := fun x : Bits a => .int .i64 (x.1 : Int)) rfl (by decide) (gf := 52) (lb := #[.pointer (some ⟨Bn, 0, none⟩)]) rfl trivial (enters_of Try.func52 (by kernel_rfl) rfl)
    (ones1_stops a 7 Bn w6 HF.out HN6.out) KeepB.trans (keepB_put HSZ6.out) (Below.refl _ _)
    (fun pre W => ((∀ y ∈ pre.map (·.1), N ≤ y) ∧ NatAt W B6 (shrF N (pre.map (·.1)) 0) ∧ W.cell? ⟨w.heap.size + 1, 0, none⟩ = some (.int .i64 n) ∧ NatAt W (w.heap.size + 1 + 1) 0) ∧ Below w.heap.size w W)
    (fun c pre W => (c = .exit 0 ∧ (∃ l x, pre.map (·.1) = l ++ [x] ∧ (∀ y ∈ l, N ≤ y) ∧ x < N ∧ NatAt W B6 (shrF N l 0)) ∧ NatAt W (w.heap.size + 1 + 1) 0) ∧ Below w.heap.size w W)
    (OwnFrom.and (Own.from (fun s A B row hs hg hr => ⟨hs.1, hs.2.1.own hg hr, cell_kept hs.2.2.1 hg hr, hs.2.2.2.own hg hr⟩) _) (ownFrom_below (Nat.le_refl _) HW6.out.size))
    (fun c => OwnFrom.and (Own.from (fun s A B row hs hg hr => ⟨hs.1, (by obtain ⟨l, x, h1, h2, h3, h4⟩ := hs.2.1; exact ⟨l, x, h1, h2, h3, h4.own hg hr⟩), hs.2.2.own hg hr⟩) _) (ownFrom_below (Nat.le_refl _) HW6.out.size))
    ⟨⟨by simp, HO6.out, HC6.out, HR6.out⟩, HW6.out⟩ ?assign ?body ?done ?stop
  case assign =>
    intro l x W K hK
    simp only [List.setIfInBounds_toArray, List.set_cons_zero, List.set_cons_succ] at hK ⊢
    gi_wp2
    exact hK
  case body =>
    rintro l pre ⟨i, hib, hbit⟩ W ⟨⟨hall, hO, hC, hR⟩, hB⟩ _
    simp only [List.setIfInBounds_toArray, List.set_cons_zero, List.set_cons_succ]
    have hpre : Hid ((pre ++ [(⟨i, hib, hbit⟩ : Bits a)]).map (·.1) = pre.map (·.1) ++ [i]) := Lib.hid (by simp)
    generalize pre ++ [(⟨i, hib, hbit⟩ : Bits a)] = pre2 at *
    have HALL := Lib.hid hall
    have HO := Lib.hid hO
    have HC := Lib.hid hC
    have HR := Lib.hid hR
    have HB := Lib.hid hB
    have hS4 := HS4.out
    have hS5 := HSZ5.out
    by_cases hlt : i < N
    · have hti : (i : Int) < n := by have := HN.out; omega
      have HLT := Lib.hid hlt
      clear hlt hall hO hR hB
      gi_wp2
      exact ⟨KeepsOthers.refl _, ⟨rfl, ⟨_, _, hpre.out, HALL.out, HLT.out, HO.out⟩, HR.out⟩, HB.out⟩
    · have hti : n ≤ (i : Int) := by have := HN.out; omega
      have HIB := Lib.hid hib
      have HLT := Lib.hid hlt
      clear hlt hall hO hR hB hib hbit
      gi_wp2
      clear hti
      have hlt := HLT.out
      have hib := HIB.out
      have hO := HO.out
      have hNi : N ≤ i := by omega
      have HNI := Lib.hid hNi
      obtain ⟨p, hp⟩ : ∃ p, p = i - N := ⟨_, rfl⟩
      have hp1024 : p < 1024 := by omega
      have hw1 : IntKind.i64.wrap ((i : Int) - n) = (p : Int) := by have := HN.out; rw [IntKind.wrap_i64]; omega
      have hpi : p / 32 < 32 := by omega
      have HPP := Lib.hid hp
      have cz := hO.cell hpi
      have fz := hO.frozen (p / 32)
      have q1 : IntKind.i64.wrap ((p / 32 : Nat) : Int) = ((p / 32 : Nat) : Int) := by rw [IntKind.wrap_i64]; omega
      have e4 : (p : Int) / 32 = ((p / 32 : Nat) : Int) := by omega
      have m4 : ((p : Int)).tmod 32 = ((p % 32 : Nat) : Int) := by rw [Int.tmod_eq_emod_of_nonneg (by omega)]; omega
      have b1 : (0 : Int) ≤ ((p / 32 : Nat) : Int) := by omega
      have b2 : ((p / 32 : Nat) : Int) < 32 := by omega
      have b3 : ((p % 32 : Nat) : Int) < 32 := by omega
      have b4 : (0 : Int) ≤ ((p % 32 : Nat) : Int) := by omega
      have b5 : (0 : Int) ≤ (p : Int) := by omega
      have q2 : IntKind.i64.wrap (p % 32 : Nat) = ((p % 32 : Nat) : Int) := by rw [IntKind.wrap_i64]; omega
      have hDl := dig_lt (shrF N (pre.map (·.1)) 0) (p / 32)
      clear hO hib hp hp1024 hlt hNi
      generalize hD : dig (shrF N (pre.map (·.1)) 0) (p / 32) = D at *
      have HDL := Lib.hid hDl
      have HD := Lib.hid hD
      clear hDl hD
      generalize hJ : p / 32 = J at *
      generalize hM : p % 32 = M at *
      have HJ := Lib.hid hJ
      have HM := Lib.hid hM
      clear hJ hM
      refine wpIn_region_still_tail 16 (by kernel_rfl) (by kernel_rfl) (by kernel_rfl) ?_
      simp only [List.take_succ_cons, List.take_zero, List.drop_succ_cons, List.drop_zero]
      repeat still_step
      try refine wpStill_nil ?_
      change wpListIn _ _ _ _ _ _ _ W.drew
      gi_wp2
      have hput := NatAt.orb (w := W.drew) (p := p) HO.out.drew (by rw [HJ.out]; omega) (bits .or .u32 (D : Int) (IntKind.u32.wrap (2 ^ M))) (by rw [HJ.out, HM.out, HD.out]; exact or_pow D M HDL.out (by omega))
      rw [HJ.out] at hput
      have hg : W.grownBy (W.drew.setCell ⟨B6, J, none⟩ (.int .u32 (bits .or .u32 (D : Int) (IntKind.u32.wrap (2 ^ M))))) (some B6) := ⟨hput.2.os, hput.2.tape, hput.2.output, hput.2.size, hput.2.block⟩
      refine ⟨(KeepsOthers.drew W).trans (KeepsOthers.setCell _ _ _), ⟨heap_setCell_other W.drew ⟨B6, J, none⟩ Bn _ (by simp; omega), hg.size⟩, ⟨?_, ?_, cell_kept' HC.out hg (by simp; omega), HR.out.grown hg (by simp; omega)⟩, HB.out.grown hg HB.out.size (fun k e => by injection e with e; omega)⟩
      · rw [hpre.out]
        intro y hy
        rcases List.mem_append.1 hy with hy | hy
        · exact HALL.out y hy
        · have := List.mem_singleton.1 hy
          subst this
          exact HNI.out
      · rw [hpre.out, shrF_snoc, ← HPP.out]
        exact hput.1
  case done =>
    rintro D ys W hD hS ⟨⟨hall, hO, hC, hR⟩, hB⟩ hK
    have hV : Hid (shrF N (ys.map (·.1)) 0 = a / 2 ^ N) := Lib.hid (by
      rw [← shr_all, filter_all N (onesN a) (by rw [← hS]; exact hall), hS])
    rw [hV.out] at hO
    have HO := Lib.hid hO
    have HR := Lib.hid hR
    have HB := Lib.hid hB
    have HK := Lib.hid hK
    have HDR : Hid (w.heap.size + 2 < D) := Lib.hid (by have := HS4.out; have := HSZ5.out; have := HSZ6.out; omega)
    clear hO hC hR hB hK hS hall
    go_wp2_with (first | (refine wpl_ldN ntNat rfl rfl rfl HO.out ?_) | (refine wpl_stN ntNat rfl rfl rfl rfl HR.out ?_; intro w9 hn9 hg9; have HN9 := Lib.hid hn9; have HG9 := Lib.hid hg9; clear hn9 hg9))
    have hK9 : w9.heap[D]? = some (.deferred (some [])) := (HG9.out.block D (Array.getElem?_eq_some_iff.1 HK.out).1 (fun e => by injection e with e; have := HDR.out; omega)).trans HK.out
    have hgp := grownBy_putObj' w9 D (.deferred none)
    refine ⟨by simp, .inl ⟨_, _, rfl, run_takeDeferred hK9, ?_⟩⟩
    refine ⟨_, results_nat rfl _ _ rfl (HN9.out.grown hgp (fun e => by injection e with e; have := HDR.out; omega)), rfl, ?_⟩
    exact (HB.out.grown HG9.out HB.out.size (fun j e => by injection e with e; omega)).grown hgp (Nat.le_trans HB.out.size HG9.out.size) (fun j e => by injection e with e; have := HDR.out; omega)
  case stop =>
    rintro D c pre W hD hS ⟨⟨rfl, ⟨l, x, hl, hall, hx, hO⟩, hR⟩, hB⟩ hK
    have hV : Hid (shrF N l 0 = a / 2 ^ N) := Lib.hid (by
      rw [hl] at hS
      rw [← shr_all, filter_stop N (onesN a) l x (onesU_sorted a _) hS hall hx])
    rw [hV.out] at hO
    have HO := Lib.hid hO
    have HR := Lib.hid hR
    have HB := Lib.hid hB
    have HK := Lib.hid hK
    have HDR : Hid (w.heap.size + 2 < D) := Lib.hid (by have := HS4.out; have := HSZ5.out; have := HSZ6.out; omega)
    clear hO hR hB hK hS hall hl hx
    refine wpIn_wide.2 ?_
    go_wp2_with (first | (refine wpl_ldN ntNat rfl rfl rfl HO.out ?_) | (refine wpl_stN ntNat rfl rfl rfl rfl HR.out ?_; intro w9 hn9 hg9; have HN9 := Lib.hid hn9; have HG9 := Lib.hid hg9; clear hn9 hg9))
    have hK9 : w9.heap[D]? = some (.deferred (some [])) := (HG9.out.block D (Array.getElem?_eq_some_iff.1 HK.out).1 (fun e => by injection e with e; have := HDR.out; omega)).trans HK.out
    have hgp := grownBy_putObj' w9 D (.deferred none)
    refine ⟨by simp, .inl ⟨_, _, rfl, run_takeDeferred hK9, ?_⟩⟩
    refine ⟨_, results_nat rfl _ _ rfl (HN9.out.grown hgp (fun e => by injection e with e; have := HDR.out; omega)), rfl, ?_⟩
    exact (HB.out.grown HG9.out HB.out.size (fun j e => by injection e with e; omega)).grown hgp (Nat.le_trans HB.out.size HG9.out.size) (fun j e => by injection e with e; have := HDR.out; omega)

/-! ### All cases in one -/
theorem shl_any (a : Nat) (n : Int) (w : World) (ha : Fit a) :
    Calls Try.prog 40 #[.agg (natA a), .int .i64 n] w (RetN w.heap.size w (shlN a n) (shlE a n)) := by
  unfold shlN shlE
  by_cases h1 : n < 0
  · rw [if_pos h1, if_pos h1]; exact shl_neg a n w h1
  · rw [if_neg h1, if_neg h1]
    by_cases h2 : a = 0
    · rw [if_pos h2, if_pos h2]
      have := shl_zero a n w ha h2 h1
      rwa [h2] at this ⊢
    · rw [if_neg h2, if_neg h2]
      by_cases h3 : 1024 - (bl a : Int) < n
      · rw [if_pos h3, if_pos h3]; exact shl_far a n w ha h2 h1 h3
      · rw [if_neg h3, if_neg h3]
        obtain ⟨N, rfl⟩ : ∃ N : Nat, n = (N : Int) := ⟨n.toNat, by omega⟩
        rw [Int.toNat_natCast]
        exact shl_main a N w ha h2 (by omega)
theorem shr_any (a : Nat) (n : Int) (w : World) (ha : Fit a) :
    Calls Try.prog 41 #[.agg (natA a), .int .i64 n] w (RetN w.heap.size w (shrN a n) (shrE n)) := by
  unfold shrN shrE
  by_cases h1 : n < 0
  · rw [if_pos h1, if_pos h1]; exact shr_neg a n w h1
  · rw [if_neg h1, if_neg h1]
    obtain ⟨N, rfl⟩ : ∃ N : Nat, n = (N : Int) := ⟨n.toNat, by omega⟩
    rw [Int.toNat_natCast]
    exact shr_main a N w ha

end Go.Proofs.Ytomiapceefbmeaa
