/- Slices of numbers; the closures that modular hands on (printed by genmodf.py). -/
import Derived.Test.YtfmadiepefbepaaModE
set_option linter.unusedVariables false
set_option linter.unusedSimpArgs false
set_option maxRecDepth 20000
namespace Go.Proofs.Ytfmadiepefbepaa
open Go.RowKit

/-- Block B begins with the numbers ns. -/
def NatsIn (w : World) (B : Nat) (ns : List Nat) : Prop := ∃ cur T, w.heap[B]? = some (.cells cur T (0, 0)) ∧ 32 * ns.length ≤ cur.size ∧ ∀ i n, ns[i]? = some n → ∀ j, j < 32 → cur[32 * i + j]? = some (.int .u32 ((dig n j : Nat) : Int))
section
variable {w w' : World} {B : Nat} {ns : List Nat}
theorem NatsIn.lt (h : NatsIn w B ns) : B < w.heap.size := let ⟨_, _, h, _⟩ := h; (Array.getElem?_eq_some_iff.1 h).1
theorem NatsIn.below (h : NatsIn w B ns) (hb : Below w.heap.size w w') : NatsIn w' B ns := by
  have hlt := h.lt
  obtain ⟨cur, T, h, r⟩ := h
  exact ⟨cur, T, by rw [hb.block B hlt]; exact h, r⟩
theorem NatsIn.grown {row : Option Nat} (h : NatsIn w B ns) (hg : w.grownBy w' row) (hne : some B ≠ row) : NatsIn w' B ns := by
  have hlt := h.lt
  obtain ⟨cur, T, h, r⟩ := h
  exact ⟨cur, T, by rw [hg.block B hlt hne]; exact h, r⟩
theorem NatsIn.alloc (h : NatsIn w B ns) (o : Obj) : NatsIn (w.alloc o) B ns := h.below ((Below.refl _ _).alloc (Nat.le_refl _) _)
theorem NatsIn.drew (h : NatsIn w B ns) : NatsIn w.drew B ns := h
theorem NatsIn.range (h : NatsIn w B ns) {i n : Nat} (hi : ns[i]? = some n) : w.rangeAt B (32 * i) (natL n) := by
  obtain ⟨cur, T, h, hs, hc⟩ := h
  intro j v hv
  have hj : j < 32 := by
    have := (List.getElem?_eq_some_iff.1 hv).1
    rwa [natL_length] at this
  rw [natL_get n j hj] at hv
  rw [cell_of_row w B (32 * i + j) _ _ (0, 0) h, hc i n hi j hj, hv]
theorem NatsIn.there (h : NatsIn w B ns) {i n : Nat} (hi : ns[i]? = some n) : w.there B (32 * i) 32 := by
  have hr := h.range hi
  obtain ⟨cur, T, h, hs, hc⟩ := h
  intro j hj
  refine ⟨?_, frozen_of_row w B (32 * i + j) _ _ h⟩
  rw [hr j _ (natL_get n j hj)]
  rfl
/-- A row of cells written in its midst. -/
theorem setCells_mid (b : Nat) (T : TypeId) : ∀ (vs : List Value) (o : Nat) (w : World) (cs : Array Value), w.heap[b]? = some (.cells cs T (0, 0)) →
    ∃ cs', (w.setCells b o vs).heap[b]? = some (.cells cs' T (0, 0)) ∧ cs'.size = cs.size ∧ (∀ j, j < o ∨ o + vs.length ≤ j → cs'[j]? = cs[j]?) ∧ ∀ j, j < vs.length → o + j < cs.size → cs'[o + j]? = vs[j]?
  | [], o, w, cs, h => ⟨cs, h, rfl, fun _ _ => rfl, fun j hj => by simp at hj⟩
  | v :: r, o, w, cs, h => by
    have h1 := heap_setCell_same w b o _ _ v h
    obtain ⟨cs', g1, g2, g3, g4⟩ := setCells_mid b T r (o + 1) _ _ h1
    refine ⟨cs', g1, by rw [g2]; simp, fun j hj => ?_, fun j hj hjs => ?_⟩
    · rw [List.length_cons] at hj
      rw [g3 j (by omega), Array.getElem?_setIfInBounds_ne (by omega)]
    · cases j with
      | zero =>
        rw [Nat.add_zero, g3 o (by omega), Array.getElem?_setIfInBounds_self_of_lt (by simpa using hjs)]
        rfl
      | succ j =>
        have := g4 j (by simpa using hj) (by simp; omega)
        rw [show o + (j + 1) = o + 1 + j from by omega, this]
        rfl
theorem NatsIn.set (h : NatsIn w B ns) {i n : Nat} (hi : ns[i]? = some n) (m : Nat) : NatsIn (w.setCells B (32 * i) (natL m)) B (ns.set i m) ∧ w.grownBy (w.setCells B (32 * i) (natL m)) (some B) := by
  refine ⟨?_, grown_setCells B _ _ w⟩
  have hil : i < ns.length := (List.getElem?_eq_some_iff.1 hi).1
  obtain ⟨cur, T, h, hs, hc⟩ := h
  obtain ⟨cs', g1, g2, g3, g4⟩ := setCells_mid B T (natL m) (32 * i) w cur h
  rw [natL_length] at g3 g4
  refine ⟨cs', T, g1, by rw [g2, List.length_set]; exact hs, fun k x hk j hj => ?_⟩
  have hkl : k < ns.length := by have := (List.getElem?_eq_some_iff.1 hk).1; rwa [List.length_set] at this
  by_cases e : k = i
  · have hx : x = m := by
      rw [e, List.getElem?_set_self hil] at hk
      exact (Option.some.inj hk).symm
    have hlen : 32 * i + j < cur.size := by omega
    have h5 := g4 j hj hlen
    rw [natL_get m j hj] at h5
    rw [e, hx]
    exact h5
  · rw [List.getElem?_set_ne (fun h => e h.symm)] at hk
    have hout : 32 * k + j < 32 * i ∨ 32 * i + 32 ≤ 32 * k + j := by omega
    exact (g3 (32 * k + j) hout).trans (hc k x hk j hj)
end
section
variable {P : Program} {w : World}
theorem exec_ldIn {T : TypeId} (hT : NT P T) {o : Oper} {ρ : Operand → Value} {x : Operand} (ho : o.op = .load T x) {W : World} {B i n : Nat} {ns : List Nat} {off : Nat} (hx : ρ x = .pointer (some ⟨B, off, none⟩)) (h : NatsIn W B ns) (hi : ns[i]? = some n) (hoff : off = 32 * i) :
    (execOp ρ o).run P W = .ok (.value (.agg (natA n))) W := by
  subst hoff
  obtain ⟨d, h1, h2, h3⟩ := hT
  have e1 := run_loadVar_mid W B (32 * i) T (natL n) d (h.range hi) h1 h2 (by rw [natL_length]; exact h3)
  unfold execOp
  simp only [ho, hx, Instr.loadAt, Instr.sureAddr, Sem.run_bind, Sem.run_pure, Result.andThen_ok, e1]
  rfl
theorem wpl_ldIn {ops : Array Oper} {rest : List Oper} {o : Oper} {a : Act} {Q : Exit → Act → World → Prop} {T : TypeId} (hT : NT P T) (hgd : o.guard = none) {x : Operand} (ho : o.op = .load T x)
    {B i n off : Nat} {ns : List Nat} (hx : a.eval x = .pointer (some ⟨B, off, none⟩)) (h : NatsIn w B ns) (hi : ns[i]? = some n) (hoff : off = 32 * i) (hk : wpList P ops Q rest (a.put o.dst (.agg (natA n))) w) : wpList P ops Q (o :: rest) a w := by
  subst hoff
  obtain ⟨d, h1, h2, h3⟩ := hT
  exact wpList_load_mid hgd T x ho B (32 * i) hx (natL n) d (h.range hi) h1 h2 (by rw [natL_length]; exact h3) hk
end
/-- Numbers in other blocks, and slices of them, stay. -/
def KeepS (R : Nat) (W W' : World) : Prop := (∀ b n, b ≠ R → NatAt W b n → NatAt W' b n) ∧ ∀ b ns, b ≠ R → NatsIn W b ns → NatsIn W' b ns
theorem keepS_refl (R : Nat) (w : World) : KeepS R w w := ⟨fun _ _ _ h => h, fun _ _ _ h => h⟩
theorem keepS_trans (R : Nat) (a b c : World) (h : KeepS R a b) (k : KeepS R b c) : KeepS R a c := ⟨fun x n hx hn => k.1 x n hx (h.1 x n hx hn), fun x n hx hn => k.2 x n hx (h.2 x n hx hn)⟩
theorem keepS_below {R : Nat} {w w' : World} (h : Below w.heap.size w w') : KeepS R w w' := ⟨fun _ _ _ k => k.below h, fun _ _ _ k => k.below h⟩
theorem keepS_grown {R : Nat} {w w' : World} (h : w.grownBy w' (some R)) : KeepS R w w' := ⟨fun _ _ hne k => k.grown h (fun e => hne (by injection e with e)), fun _ _ hne k => k.grown h (fun e => hne (by injection e with e))⟩

set_option maxHeartbeats 3200000 in
theorem add1_ok {m a b r : Nat} (B c : Nat) (w : World) (hm : Fit m) (ha : a < m) (hb : b < m) (hl : NatsIn w B [a, b]) (hr : (a + b) % m = r) :
    Calls Try.prog 37 #[.agg (natA m), .slice (some ⟨B, 0, none⟩) 2 c] w fun e w' => e = .returned (.agg (natA r)) ∧ Below w.heap.size w w' := by
  have FM := Lib.hid hm
  have FA := Lib.hid ha
  have FB := Lib.hid hb
  have FR := Lib.hid hr
  have FL := Lib.hid hl
  have FLT := Lib.hid hl.lt
  clear hm ha hb hr hl
  have HM : Hid (NatAt ((w.alloc (.cells (natA m) 60)).alloc (.cells z0 37)) (w.heap.size) (m)) := Lib.hid (by
    have h := NatAt.new w (m) 60
    replace h := h.alloc (.cells z0 37)
    simpa using h)
  have HR : Hid (NatAt ((w.alloc (.cells (natA m) 60)).alloc (.cells z0 37)) (w.heap.size + 1) (0)) := Lib.hid (by
    have h := NatAt.new (w.alloc (.cells (natA m) 60)) (0) 37
    rw [natA_zero] at h
    simpa using h)
  have HW : Hid (Below w.heap.size w ((w.alloc (.cells (natA m) 60)).alloc (.cells z0 37))) := Lib.hid (by
    have h := Below.refl w.heap.size w
    replace h := h.alloc h.size (.cells (natA m) 60)
    replace h := h.alloc h.size (.cells z0 37)
    exact h)
  have L_0 : Hid (NatsIn ((w.alloc (.cells (natA m) 60)).alloc (.cells z0 37)) B [a, b]) := Lib.hid ((FL.out.alloc _).alloc _)
  go_enter Try.func37, Try.ntmps37
  go_wp2_with (first | go_skip | (refine wpl_ldN ntMod rfl rfl rfl HM.out ?_) | (refine wpl_ldN_g ntMod ?hw rfl rfl HM.out ?_; (case hw => rfl)) | (refine wpl_ldN ntNat rfl rfl rfl HM.out ?_) | (refine wpl_ldN_g ntNat ?hw rfl rfl HM.out ?_; (case hw => rfl)) | (refine wpl_ldN ntNat rfl rfl rfl HR.out ?_) | (refine wpl_ldN_g ntNat ?hw rfl rfl HR.out ?_; (case hw => rfl)))
  refine region_road (KeepS (w.heap.size + 1)) [(0, true), (1, true), (2, true), (3, true), (4, true), (5, true), (6, true), (7, false), (8, false)] (by kernel_rfl) (by kernel_rfl) (by kernel_rfl) (by kernel_rfl) (by kernel_rfl) (by kernel_rfl) (keepS_refl _) (keepS_trans _) (fun _ _ d _ _ h => by cases d <;> exact h) ?_
  have M_1 := Lib.hid HM.out.drew
  have R_1 := Lib.hid HR.out.drew
  have L_1 := Lib.hid L_0.out.drew
  have W_1 : Hid (Below w.heap.size w ((w.alloc (.cells (natA m) 60)).alloc (.cells z0 37)).drew) := Lib.hid HW.out.drew
  clear HM HR L_0 HW
  generalize ((w.alloc (.cells (natA m) 60)).alloc (.cells z0 37)).drew = d1 at M_1 R_1 L_1 W_1 ⊢
  refine seqR_at (o := ?_) ?_ ?_
  rotate_left
  · (conv => (lhs; whnf; arg 1; whnf))
  refine seqR_y (v := ?_) (by rfl) (fun W hW => ?_) ?_
  rotate_left
  · (refine exec_ldN (x := .tmp 2) ntMod ?_ ?_ (hW.1 _ _ (by omega) M_1.out)) <;> rfl
  try simp only [Act.put, List.setIfInBounds_toArray, List.set_cons_zero, List.set_cons_succ]
  refine seqR_at (o := ?_) ?_ ?_
  rotate_left
  · (conv => (lhs; whnf; arg 1; whnf))
  refine seqR_y (v := ?_) (by rfl) (fun W hW => ?_) ?_
  rotate_left
  · go_simp; try with_reducible rfl
  try simp only [Act.put, List.setIfInBounds_toArray, List.set_cons_zero, List.set_cons_succ]
  refine seqR_at (o := ?_) ?_ ?_
  rotate_left
  · (conv => (lhs; whnf; arg 1; whnf))
  refine seqR_y (v := ?_) (by rfl) (fun W hW => ?_) ?_
  rotate_left
  · go_simp; try with_reducible rfl
  try simp only [Act.put, List.setIfInBounds_toArray, List.set_cons_zero, List.set_cons_succ]
  refine seqR_at (o := ?_) ?_ ?_
  rotate_left
  · (conv => (lhs; whnf; arg 1; whnf))
  refine seqR_y (v := ?_) (by rfl) (fun W hW => ?_) ?_
  rotate_left
  · (refine exec_ldIn (x := .tmp 7) (i := 0) (off := 0) (n := a) ntNat ?_ ?_ (hW.2 _ _ (by have := FLT.out; omega) L_1.out) ?_ ?_) <;> rfl
  try simp only [Act.put, List.setIfInBounds_toArray, List.set_cons_zero, List.set_cons_succ]
  refine seqR_at (o := ?_) ?_ ?_
  rotate_left
  · (conv => (lhs; whnf; arg 1; whnf))
  refine seqR_y (v := ?_) (by rfl) (fun W hW => ?_) ?_
  rotate_left
  · go_simp; try with_reducible rfl
  try simp only [Act.put, List.setIfInBounds_toArray, List.set_cons_zero, List.set_cons_succ]
  refine seqR_at (o := ?_) ?_ ?_
  rotate_left
  · (conv => (lhs; whnf; arg 1; whnf))
  refine seqR_y (v := ?_) (by rfl) (fun W hW => ?_) ?_
  rotate_left
  · go_simp; try with_reducible rfl
  try simp only [Act.put, List.setIfInBounds_toArray, List.set_cons_zero, List.set_cons_succ]
  refine seqR_at (o := ?_) ?_ ?_
  rotate_left
  · (conv => (lhs; whnf; arg 1; whnf))
  refine seqR_y (v := ?_) (by rfl) (fun W hW => ?_) ?_
  rotate_left
  · (refine exec_ldIn (x := .tmp 10) (i := 1) (off := 32) (n := b) ntNat ?_ ?_ (hW.2 _ _ (by have := FLT.out; omega) L_1.out) ?_ ?_) <;> rfl
  try simp only [Act.put, List.setIfInBounds_toArray, List.set_cons_zero, List.set_cons_succ]
  refine seqR_at (o := ?_) ?_ ?_
  rotate_left
  · (conv => (lhs; whnf; arg 1; whnf))
  refine seqR_c (by rfl) (fun K hK => ?_)
  go_simp
  refine (plus_ok _ FM.out FA.out FB.out FR.out).mono ?_
  rintro e p1 ⟨rfl, hb⟩
  have R_2 := Lib.hid (R_1.out.below hb)
  have W_2 := Lib.hid (W_1.out.trans (hb.mono W_1.out.size))
  refine hK _ _ (keepS_below hb) ?_
  clear hK K hb R_1 W_1 M_1 L_1
  try simp only [Act.put, List.setIfInBounds_toArray, List.set_cons_zero, List.set_cons_succ]
  refine seqR_at (o := ?_) ?_ ?_
  rotate_left
  · (conv => (lhs; whnf; arg 1; whnf))
  refine seqR_c (by rfl) (fun K hK => ?_)
  refine wp_stN ntNat rfl rfl (m := r) rfl R_2.out ?_
  intro z hn hg
  have R_3 := Lib.hid hn
  have W_3 := Lib.hid (W_2.out.grown hg W_2.out.size (fun j e => by injection e with e; omega))
  refine hK _ _ (keepS_grown hg) ?_
  clear hK K hn hg R_2 W_2
  try simp only [Act.put, List.setIfInBounds_toArray, List.set_cons_zero, List.set_cons_succ]
  refine seqR_end ?_
  go_wp2_with fail
  refine bodyPost_ret (results_one rfl _ _ rfl R_3.out) rfl ?_
  exact ⟨rfl, W_3.out⟩

set_option maxHeartbeats 3200000 in
theorem sub1_ok {m a b r : Nat} (B c : Nat) (w : World) (hm : Fit m) (ha : a < m) (hb : b < m) (hl : NatsIn w B [a, b]) (hr : (a + m - b) % m = r) :
    Calls Try.prog 41 #[.agg (natA m), .slice (some ⟨B, 0, none⟩) 2 c] w fun e w' => e = .returned (.agg (natA r)) ∧ Below w.heap.size w w' := by
  have FM := Lib.hid hm
  have FA := Lib.hid ha
  have FB := Lib.hid hb
  have FR := Lib.hid hr
  have FL := Lib.hid hl
  have FLT := Lib.hid hl.lt
  clear hm ha hb hr hl
  have HM : Hid (NatAt ((w.alloc (.cells (natA m) 60)).alloc (.cells z0 37)) (w.heap.size) (m)) := Lib.hid (by
    have h := NatAt.new w (m) 60
    replace h := h.alloc (.cells z0 37)
    simpa using h)
  have HR : Hid (NatAt ((w.alloc (.cells (natA m) 60)).alloc (.cells z0 37)) (w.heap.size + 1) (0)) := Lib.hid (by
    have h := NatAt.new (w.alloc (.cells (natA m) 60)) (0) 37
    rw [natA_zero] at h
    simpa using h)
  have HW : Hid (Below w.heap.size w ((w.alloc (.cells (natA m) 60)).alloc (.cells z0 37))) := Lib.hid (by
    have h := Below.refl w.heap.size w
    replace h := h.alloc h.size (.cells (natA m) 60)
    replace h := h.alloc h.size (.cells z0 37)
    exact h)
  have L_0 : Hid (NatsIn ((w.alloc (.cells (natA m) 60)).alloc (.cells z0 37)) B [a, b]) := Lib.hid ((FL.out.alloc _).alloc _)
  go_enter Try.func41, Try.ntmps41
  go_wp2_with (first | go_skip | (refine wpl_ldN ntMod rfl rfl rfl HM.out ?_) | (refine wpl_ldN_g ntMod ?hw rfl rfl HM.out ?_; (case hw => rfl)) | (refine wpl_ldN ntNat rfl rfl rfl HM.out ?_) | (refine wpl_ldN_g ntNat ?hw rfl rfl HM.out ?_; (case hw => rfl)) | (refine wpl_ldN ntNat rfl rfl rfl HR.out ?_) | (refine wpl_ldN_g ntNat ?hw rfl rfl HR.out ?_; (case hw => rfl)))
  refine region_road (KeepS (w.heap.size + 1)) [(0, true), (1, true), (2, true), (3, true), (4, true), (5, true), (6, true), (7, false), (8, false)] (by kernel_rfl) (by kernel_rfl) (by kernel_rfl) (by kernel_rfl) (by kernel_rfl) (by kernel_rfl) (keepS_refl _) (keepS_trans _) (fun _ _ d _ _ h => by cases d <;> exact h) ?_
  have M_1 := Lib.hid HM.out.drew
  have R_1 := Lib.hid HR.out.drew
  have L_1 := Lib.hid L_0.out.drew
  have W_1 : Hid (Below w.heap.size w ((w.alloc (.cells (natA m) 60)).alloc (.cells z0 37)).drew) := Lib.hid HW.out.drew
  clear HM HR L_0 HW
  generalize ((w.alloc (.cells (natA m) 60)).alloc (.cells z0 37)).drew = d1 at M_1 R_1 L_1 W_1 ⊢
  refine seqR_at (o := ?_) ?_ ?_
  rotate_left
  · (conv => (lhs; whnf; arg 1; whnf))
  refine seqR_y (v := ?_) (by rfl) (fun W hW => ?_) ?_
  rotate_left
  · (refine exec_ldN (x := .tmp 2) ntMod ?_ ?_ (hW.1 _ _ (by omega) M_1.out)) <;> rfl
  try simp only [Act.put, List.setIfInBounds_toArray, List.set_cons_zero, List.set_cons_succ]
  refine seqR_at (o := ?_) ?_ ?_
  rotate_left
  · (conv => (lhs; whnf; arg 1; whnf))
  refine seqR_y (v := ?_) (by rfl) (fun W hW => ?_) ?_
  rotate_left
  · go_simp; try with_reducible rfl
  try simp only [Act.put, List.setIfInBounds_toArray, List.set_cons_zero, List.set_cons_succ]
  refine seqR_at (o := ?_) ?_ ?_
  rotate_left
  · (conv => (lhs; whnf; arg 1; whnf))
  refine seqR_y (v := ?_) (by rfl) (fun W hW => ?_) ?_
  rotate_left
  · go_simp; try with_reducible rfl
  try simp only [Act.put, List.setIfInBounds_toArray, List.set_cons_zero, List.set_cons_succ]
  refine seqR_at (o := ?_) ?_ ?_
  rotate_left
  · (conv => (lhs; whnf; arg 1; whnf))
  refine seqR_y (v := ?_) (by rfl) (fun W hW => ?_) ?_
  rotate_left
  · (refine exec_ldIn (x := .tmp 7) (i := 0) (off := 0) (n := a) ntNat ?_ ?_ (hW.2 _ _ (by have := FLT.out; omega) L_1.out) ?_ ?_) <;> rfl
  try simp only [Act.put, List.setIfInBounds_toArray, List.set_cons_zero, List.set_cons_succ]
  refine seqR_at (o := ?_) ?_ ?_
  rotate_left
  · (conv => (lhs; whnf; arg 1; whnf))
  refine seqR_y (v := ?_) (by rfl) (fun W hW => ?_) ?_
  rotate_left
  · go_simp; try with_reducible rfl
  try simp only [Act.put, List.setIfInBounds_toArray, List.set_cons_zero, List.set_cons_succ]
  refine seqR_at (o := ?_) ?_ ?_
  rotate_left
  · (conv => (lhs; whnf; arg 1; whnf))
  refine seqR_y (v := ?_) (by rfl) (fun W hW => ?_) ?_
  rotate_left
  · go_simp; try with_reducible rfl
  try simp only [Act.put, List.setIfInBounds_toArray, List.set_cons_zero, List.set_cons_succ]
  refine seqR_at (o := ?_) ?_ ?_
  rotate_left
  · (conv => (lhs; whnf; arg 1; whnf))
  refine seqR_y (v := ?_) (by rfl) (fun W hW => ?_) ?_
  rotate_left
  · (refine exec_ldIn (x := .tmp 10) (i := 1) (off := 32) (n := b) ntNat ?_ ?_ (hW.2 _ _ (by have := FLT.out; omega) L_1.out) ?_ ?_) <;> rfl
  try simp only [Act.put, List.setIfInBounds_toArray, List.set_cons_zero, List.set_cons_succ]
  refine seqR_at (o := ?_) ?_ ?_
  rotate_left
  · (conv => (lhs; whnf; arg 1; whnf))
  refine seqR_c (by rfl) (fun K hK => ?_)
  go_simp
  refine (less_ok _ FM.out FA.out FB.out FR.out).mono ?_
  rintro e p1 ⟨rfl, hb⟩
  have R_2 := Lib.hid (R_1.out.below hb)
  have W_2 := Lib.hid (W_1.out.trans (hb.mono W_1.out.size))
  refine hK _ _ (keepS_below hb) ?_
  clear hK K hb R_1 W_1 M_1 L_1
  try simp only [Act.put, List.setIfInBounds_toArray, List.set_cons_zero, List.set_cons_succ]
  refine seqR_at (o := ?_) ?_ ?_
  rotate_left
  · (conv => (lhs; whnf; arg 1; whnf))
  refine seqR_c (by rfl) (fun K hK => ?_)
  refine wp_stN ntNat rfl rfl (m := r) rfl R_2.out ?_
  intro z hn hg
  have R_3 := Lib.hid hn
  have W_3 := Lib.hid (W_2.out.grown hg W_2.out.size (fun j e => by injection e with e; omega))
  refine hK _ _ (keepS_grown hg) ?_
  clear hK K hn hg R_2 W_2
  try simp only [Act.put, List.setIfInBounds_toArray, List.set_cons_zero, List.set_cons_succ]
  refine seqR_end ?_
  go_wp2_with fail
  refine bodyPost_ret (results_one rfl _ _ rfl R_3.out) rfl ?_
  exact ⟨rfl, W_3.out⟩

set_option maxHeartbeats 3200000 in
theorem mul1_ok {m a b r : Nat} (B c : Nat) (w : World) (hm : Fit m) (ha : a < m) (hb : b < m) (hl : NatsIn w B [a, b]) (hr : a * b % m = r) :
    Calls Try.prog 39 #[.agg (natA m), .slice (some ⟨B, 0, none⟩) 2 c] w fun e w' => e = .returned (.agg (natA r)) ∧ Below w.heap.size w w' := by
  have FM := Lib.hid hm
  have FA := Lib.hid ha
  have FB := Lib.hid hb
  have FR := Lib.hid hr
  have FL := Lib.hid hl
  have FLT := Lib.hid hl.lt
  clear hm ha hb hr hl
  have HM : Hid (NatAt ((w.alloc (.cells (natA m) 60)).alloc (.cells z0 37)) (w.heap.size) (m)) := Lib.hid (by
    have h := NatAt.new w (m) 60
    replace h := h.alloc (.cells z0 37)
    simpa using h)
  have HR : Hid (NatAt ((w.alloc (.cells (natA m) 60)).alloc (.cells z0 37)) (w.heap.size + 1) (0)) := Lib.hid (by
    have h := NatAt.new (w.alloc (.cells (natA m) 60)) (0) 37
    rw [natA_zero] at h
    simpa using h)
  have HW : Hid (Below w.heap.size w ((w.alloc (.cells (natA m) 60)).alloc (.cells z0 37))) := Lib.hid (by
    have h := Below.refl w.heap.size w
    replace h := h.alloc h.size (.cells (natA m) 60)
    replace h := h.alloc h.size (.cells z0 37)
    exact h)
  have L_0 : Hid (NatsIn ((w.alloc (.cells (natA m) 60)).alloc (.cells z0 37)) B [a, b]) := Lib.hid ((FL.out.alloc _).alloc _)
  go_enter Try.func39, Try.ntmps39
  go_wp2_with (first | go_skip | (refine wpl_ldN ntMod rfl rfl rfl HM.out ?_) | (refine wpl_ldN_g ntMod ?hw rfl rfl HM.out ?_; (case hw => rfl)) | (refine wpl_ldN ntNat rfl rfl rfl HM.out ?_) | (refine wpl_ldN_g ntNat ?hw rfl rfl HM.out ?_; (case hw => rfl)) | (refine wpl_ldN ntNat rfl rfl rfl HR.out ?_) | (refine wpl_ldN_g ntNat ?hw rfl rfl HR.out ?_; (case hw => rfl)))
  refine region_road (KeepS (w.heap.size + 1)) [(0, true), (1, true), (2, true), (3, true), (4, true), (5, true), (6, true), (7, false), (8, false)] (by kernel_rfl) (by kernel_rfl) (by kernel_rfl) (by kernel_rfl) (by kernel_rfl) (by kernel_rfl) (keepS_refl _) (keepS_trans _) (fun _ _ d _ _ h => by cases d <;> exact h) ?_
  have M_1 := Lib.hid HM.out.drew
  have R_1 := Lib.hid HR.out.drew
  have L_1 := Lib.hid L_0.out.drew
  have W_1 : Hid (Below w.heap.size w ((w.alloc (.cells (natA m) 60)).alloc (.cells z0 37)).drew) := Lib.hid HW.out.drew
  clear HM HR L_0 HW
  generalize ((w.alloc (.cells (natA m) 60)).alloc (.cells z0 37)).drew = d1 at M_1 R_1 L_1 W_1 ⊢
  refine seqR_at (o := ?_) ?_ ?_
  rotate_left
  · (conv => (lhs; whnf; arg 1; whnf))
  refine seqR_y (v := ?_) (by rfl) (fun W hW => ?_) ?_
  rotate_left
  · (refine exec_ldN (x := .tmp 2) ntMod ?_ ?_ (hW.1 _ _ (by omega) M_1.out)) <;> rfl
  try simp only [Act.put, List.setIfInBounds_toArray, List.set_cons_zero, List.set_cons_succ]
  refine seqR_at (o := ?_) ?_ ?_
  rotate_left
  · (conv => (lhs; whnf; arg 1; whnf))
  refine seqR_y (v := ?_) (by rfl) (fun W hW => ?_) ?_
  rotate_left
  · go_simp; try with_reducible rfl
  try simp only [Act.put, List.setIfInBounds_toArray, List.set_cons_zero, List.set_cons_succ]
  refine seqR_at (o := ?_) ?_ ?_
  rotate_left
  · (conv => (lhs; whnf; arg 1; whnf))
  refine seqR_y (v := ?_) (by rfl) (fun W hW => ?_) ?_
  rotate_left
  · go_simp; try with_reducible rfl
  try simp only [Act.put, List.setIfInBounds_toArray, List.set_cons_zero, List.set_cons_succ]
  refine seqR_at (o := ?_) ?_ ?_
  rotate_left
  · (conv => (lhs; whnf; arg 1; whnf))
  refine seqR_y (v := ?_) (by rfl) (fun W hW => ?_) ?_
  rotate_left
  · (refine exec_ldIn (x := .tmp 7) (i := 0) (off := 0) (n := a) ntNat ?_ ?_ (hW.2 _ _ (by have := FLT.out; omega) L_1.out) ?_ ?_) <;> rfl
  try simp only [Act.put, List.setIfInBounds_toArray, List.set_cons_zero, List.set_cons_succ]
  refine seqR_at (o := ?_) ?_ ?_
  rotate_left
  · (conv => (lhs; whnf; arg 1; whnf))
  refine seqR_y (v := ?_) (by rfl) (fun W hW => ?_) ?_
  rotate_left
  · go_simp; try with_reducible rfl
  try simp only [Act.put, List.setIfInBounds_toArray, List.set_cons_zero, List.set_cons_succ]
  refine seqR_at (o := ?_) ?_ ?_
  rotate_left
  · (conv => (lhs; whnf; arg 1; whnf))
  refine seqR_y (v := ?_) (by rfl) (fun W hW => ?_) ?_
  rotate_left
  · go_simp; try with_reducible rfl
  try simp only [Act.put, List.setIfInBounds_toArray, List.set_cons_zero, List.set_cons_succ]
  refine seqR_at (o := ?_) ?_ ?_
  rotate_left
  · (conv => (lhs; whnf; arg 1; whnf))
  refine seqR_y (v := ?_) (by rfl) (fun W hW => ?_) ?_
  rotate_left
  · (refine exec_ldIn (x := .tmp 10) (i := 1) (off := 32) (n := b) ntNat ?_ ?_ (hW.2 _ _ (by have := FLT.out; omega) L_1.out) ?_ ?_) <;> rfl
  try simp only [Act.put, List.setIfInBounds_toArray, List.set_cons_zero, List.set_cons_succ]
  refine seqR_at (o := ?_) ?_ ?_
  rotate_left
  · (conv => (lhs; whnf; arg 1; whnf))
  refine seqR_c (by rfl) (fun K hK => ?_)
  go_simp
  refine (times_ok _ FM.out FA.out FB.out FR.out).mono ?_
  rintro e p1 ⟨rfl, hb⟩
  have R_2 := Lib.hid (R_1.out.below hb)
  have W_2 := Lib.hid (W_1.out.trans (hb.mono W_1.out.size))
  refine hK _ _ (keepS_below hb) ?_
  clear hK K hb R_1 W_1 M_1 L_1
  try simp only [Act.put, List.setIfInBounds_toArray, List.set_cons_zero, List.set_cons_succ]
  refine seqR_at (o := ?_) ?_ ?_
  rotate_left
  · (conv => (lhs; whnf; arg 1; whnf))
  refine seqR_c (by rfl) (fun K hK => ?_)
  refine wp_stN ntNat rfl rfl (m := r) rfl R_2.out ?_
  intro z hn hg
  have R_3 := Lib.hid hn
  have W_3 := Lib.hid (W_2.out.grown hg W_2.out.size (fun j e => by injection e with e; omega))
  refine hK _ _ (keepS_grown hg) ?_
  clear hK K hn hg R_2 W_2
  try simp only [Act.put, List.setIfInBounds_toArray, List.set_cons_zero, List.set_cons_succ]
  refine seqR_end ?_
  go_wp2_with fail
  refine bodyPost_ret (results_one rfl _ _ rfl R_3.out) rfl ?_
  exact ⟨rfl, W_3.out⟩

set_option maxHeartbeats 3200000 in
theorem reduce1_ok {m a : Nat} (B c : Nat) (w : World) (hl : NatsIn w B [a]) :
    Calls Try.prog 43 #[.agg (natA m), .slice (some ⟨B, 0, none⟩) 1 c] w fun e w' => e = .returned (.agg (natA a)) ∧ Below w.heap.size w w' := by
  have FL := Lib.hid hl
  clear hl
  have HM : Hid (NatAt ((w.alloc (.cells (natA m) 60)).alloc (.cells z0 37)) (w.heap.size) (m)) := Lib.hid (by
    have h := NatAt.new w (m) 60
    replace h := h.alloc (.cells z0 37)
    simpa using h)
  have HR : Hid (NatAt ((w.alloc (.cells (natA m) 60)).alloc (.cells z0 37)) (w.heap.size + 1) (0)) := Lib.hid (by
    have h := NatAt.new (w.alloc (.cells (natA m) 60)) (0) 37
    rw [natA_zero] at h
    simpa using h)
  have HW : Hid (Below w.heap.size w ((w.alloc (.cells (natA m) 60)).alloc (.cells z0 37))) := Lib.hid (by
    have h := Below.refl w.heap.size w
    replace h := h.alloc h.size (.cells (natA m) 60)
    replace h := h.alloc h.size (.cells z0 37)
    exact h)
  have L_0 : Hid (NatsIn ((w.alloc (.cells (natA m) 60)).alloc (.cells z0 37)) B [a]) := Lib.hid ((FL.out.alloc _).alloc _)
  go_enter Try.func43, Try.ntmps43
  clear HM
  go_wp2_with (first | go_skip | (refine wpl_ldN ntNat rfl rfl rfl HR.out ?_) | (refine wpl_ldN_g ntNat ?hw rfl rfl HR.out ?_; (case hw => rfl)) | (refine wpl_ldIn (i := 0) ntNat rfl rfl rfl L_0.out rfl rfl ?_) | (refine wpl_stN ntNat rfl rfl rfl rfl HR.out ?_; intro z1 hn hg; have W_1 := Lib.hid (HW.out.grown hg HW.out.size (fun j e => by injection e with e; omega)); have R_1 := Lib.hid hn; clear hn hg HW HR))
  refine bodyPost_ret (results_one rfl _ _ rfl R_1.out) rfl ?_
  exact ⟨rfl, W_1.out⟩


end Go.Proofs.Ytfmadiepefbepaa
