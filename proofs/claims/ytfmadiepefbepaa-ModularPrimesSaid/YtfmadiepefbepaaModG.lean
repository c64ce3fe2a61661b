/- slices.Clone of numbers; checked (printed by genmodg.py). -/
import Derived.Test.YtfmadiepefbepaaModF
import Derived.Test.YtfmadiepefbepaaDrawT
import Derived.WalkSpells
import Derived.Lib.SliceRun
set_option linter.unusedVariables false
set_option linter.unusedSimpArgs false
set_option maxRecDepth 20000
namespace Go.Proofs.Ytfmadiepefbepaa
open Go.RowKit

theorem infoNat : (Try.prog.info? 37).map (fun i => (i.zero, i.size, i.bytes)) = some (some (.agg z0), 32, 128) := by kernel_rfl
theorem flat_get : ∀ (ns : List Nat) (k : Nat), (ns.flatMap natL)[k]? = (ns[k / 32]?).bind fun n => (natL n)[k % 32]?
  | [], k => by simp
  | n :: ns, k => by
    rw [List.flatMap_cons]
    by_cases h : k < 32
    · rw [List.getElem?_append_left (by rw [natL_length]; exact h), Nat.div_eq_of_lt h, Nat.mod_eq_of_lt h]
      rfl
    · rw [List.getElem?_append_right (by rw [natL_length]; omega), natL_length, flat_get ns (k - 32), show k / 32 = (k - 32) / 32 + 1 from by omega, show (k - 32) % 32 = k % 32 from by omega]
      rfl
theorem flat_length (ns : List Nat) : (ns.flatMap natL).length = ns.length * 32 := by
  induction ns with
  | nil => rfl
  | cons n ns ih => rw [List.flatMap_cons, List.length_append, natL_length, ih, List.length_cons]; omega
theorem flat_one (ns : List Nat) : ∀ u ∈ ns.flatMap natL, u.oneCell' = true := by
  intro u hu
  obtain ⟨n, _, hn⟩ := List.mem_flatMap.1 hu
  exact natL_one n u hn
theorem NatsIn.cells {w : World} {B : Nat} {ns : List Nat} (h : NatsIn w B ns) (k : Nat) (u : Value) (hk : (ns.flatMap natL)[k]? = some u) : w.cell? ⟨B, k, none⟩ = some u := by
  rw [flat_get] at hk
  cases hn : ns[k / 32]? with
  | none => rw [hn] at hk; cases hk
  | some n =>
    rw [hn] at hk
    have h1 := h.range hn (k % 32) u hk
    rwa [show 32 * (k / 32) + k % 32 = k from by omega] at h1
theorem NatsIn.of_own {w : World} {base : Nat} {e : TypeId} {v : Value} {n : Nat} {ns : List Nat} (h : w.ownsRow base e 32 v n (ns.flatMap natL)) (hn : 0 < n) : ∃ g cap, v = .slice (some ⟨g, 0, none⟩) n cap ∧ base ≤ g ∧ NatsIn w g ns := by
  obtain ⟨hl, h2⟩ := h
  rw [flat_length] at hl
  rcases h2 with ⟨_, h0⟩ | ⟨g, cap, cur, hv, hb, hg, hnc, hm, hs, ht⟩
  · omega
  · refine ⟨g, cap, hv, hb, cur, e, hg, by omega, fun i x hx j hj => ?_⟩
    have hil : i < ns.length := (List.getElem?_eq_some_iff.1 hx).1
    have h1 : (ns.flatMap natL)[32 * i + j]? = some (.int .u32 ((dig x j : Nat) : Int)) := by
      rw [flat_get, show (32 * i + j) / 32 = i from by omega, show (32 * i + j) % 32 = j from by omega, hx]
      exact natL_get x j hj
    rw [← ht, List.getElem?_take] at h1
    split at h1
    · simpa using h1
    · cases h1
section
variable {w : World}
theorem wpl_append_n {ops : Array Oper} {rest : List Oper} {o : Oper} {a : Act} {Q : Exit → Act → World → Prop} (hgd : o.guard = none) (s x : Operand) (t : TypeId)
    (ho : o.op = .call { callee := .builtin .append, args := #[s, x], argTypes := #[t, t] }) (ht : Try.prog.underlying t = some (.slice 37))
    (base : Nat) (v : Value) (hs : a.eval s = v) (hown : w.ownsRow base 37 32 v 0 []) (B k c : Nat) (ns : List Nat) (hx : a.eval x = .slice (some ⟨B, 0, none⟩) k c) (hy : NatsIn w B ns) (hk : ns.length = k) (hpos : 0 < k) (hsm : k ≤ 1000) (hbase : base ≤ w.heap.size)
    (h : ∀ (g cap : Nat) w', base ≤ g → NatsIn w' g ns → w.grownBy w' v.ownBlock → wpList Try.prog ops Q rest (a.put o.dst (.slice (some ⟨g, 0, none⟩) k cap)) w') :
    wpList Try.prog ops Q (o :: rest) a w := by
  subst hk
  obtain ⟨i0, hi, hz0, hz1, hz2⟩ := info_parts infoNat
  obtain ⟨v', w', hrun, h2, h3, _, _⟩ := run_append_own_at (P := Try.prog) (w := w) base t o.type 37 i0 (.agg z0) 32 128 ht hi hz0 hz1 hz2 (by rfl) (by decide) v 0 [] hown ⟨B, 0, none⟩ ns.length c (ns.flatMap natL) (flat_length ns)
    (fun j u hu => by rw [add_lit', Nat.zero_add]; exact hy.cells j u hu) (flat_one ns) (by simp [maxLen]; omega) (by omega) hbase
  rw [List.nil_append, Nat.zero_add] at h2
  obtain ⟨g, cap, rfl, hg, hn⟩ := NatsIn.of_own h2 hpos
  refine wpList_plain hgd fun K hK => ?_
  unfold Oper.wp execOp
  simp only [ho, resolve, invoke, builtin, Sem.run_bind, Sem.run_pure, Result.andThen_ok, List.map_toArray, List.map_cons, List.map_nil, hs, hx, hrun]
  exact hK _ _ (h g cap w' hg hn h3)
end
theorem own_none {w : World} {base : Nat} {e : TypeId} (hb : base ≤ w.heap.size) : (w.alloc (.cells #[] e)).ownsRow base e 32 (.slice (some ⟨w.heap.size, 0, none⟩) 0 0) 0 [] :=
  ⟨rfl, .inr ⟨w.heap.size, 0, #[], rfl, hb, heap_alloc_new w _, Nat.le_refl _, by simp [maxLen], rfl, rfl⟩⟩
def RetS (w : World) (ns : List Nat) (e : Ending) (w' : World) : Prop := ∃ g cap, e = .returned (.slice (some ⟨g, 0, none⟩) ns.length cap) ∧ w.heap.size ≤ g ∧ NatsIn w' g ns ∧ Below w.heap.size w w'
set_option maxHeartbeats 1600000 in
theorem clone_ok (ns : List Nat) (B c k : Nat) (w : World) (hl : NatsIn w B ns) (hk : ns.length = k) (hpos : 0 < k) (hsm : k ≤ 1000) :
    Calls Try.prog 61 #[.slice (some ⟨B, 0, none⟩) k c] w (RetS w ns) := by
  have HL := Lib.hid hl
  have HK := Lib.hid hk
  have HP := Lib.hid hpos
  have HS := Lib.hid hsm
  have heq : ∀ W : World, (binOp .eql 61 (.slice (some ⟨B, 0, none⟩) k c) (.slice none 0 0)).run Try.prog W = .ok (.bool false) W := fun W => Lib.run_eql_slice_nil W 61 37 _ _ _ 0 0 Try.underlying61
  clear hl hk hpos hsm
  go_enter Try.func61, Try.ntmps61
  go_wp2_with (at_builtin; refine wpl_append_n rfl (.tmp 5) (.tmp 6) 61 rfl Try.underlying61 w.heap.size _ rfl (own_none (Nat.le_refl _)) B k c ns rfl (HL.out.alloc _) HK.out HP.out HS.out (by simp) ?_; intro g cap w1 hg hn hgr; have HG := Lib.hid hg; have HN := Lib.hid hn; have HB : Hid (Below w.heap.size w w1) := Lib.hid (((Below.refl w.heap.size w).alloc (Nat.le_refl _) _).grown hgr (by simp) (fun j e => by have e2 : some w.heap.size = some j := e; injection e2 with e2; omega)); clear hg hn hgr)
  go_ret
  exact ⟨g, cap, by rw [HK.out]; rfl, HG.out, HN.out, HB.out⟩

theorem exec_build_mod {o : Oper} {ρ : Operand → Value} {x : Operand} {n : Nat} (W : World) (ho : o.op = .build 60 #[(0, x)]) (hx : ρ x = .agg (natA n)) :
    (execOp ρ o).run Try.prog W = .ok (.value (.agg (natA n))) W := by
  unfold execOp
  simp only [ho]
  go_simp
  kernel_rfl
theorem wpl_build_mod {w : World} {ops : Array Oper} {rest : List Oper} {o : Oper} {a : Act} {Q : Exit → Act → World → Prop} {x : Operand} {n : Nat} (hw : Region.wanted o (yielded ops a.tmps) = true) (ho : o.op = .build 60 #[(0, x)]) (hx : a.eval x = .agg (natA n))
    (hk : wpList Try.prog ops Q rest (a.put o.dst (.agg (natA n))) w) : wpList Try.prog ops Q (o :: rest) a w := wpl_run hw (exec_build_mod w ho hx) hk
theorem wp_stIn {P : Program} {w : World} {o : Oper} {a : Act} {K : Act → World → Prop} {Q : Exit → Act → World → Prop} {T : TypeId} (hT : NT P T) {x y : Operand} (ho : o.op = .store T x y)
    {B i off n m : Nat} {ns : List Nat} (hx : a.eval x = .pointer (some ⟨B, off, none⟩)) (hy : a.eval y = .agg (natA m)) (h : NatsIn w B ns) (hi : ns[i]? = some n) (hoff : off = 32 * i)
    (hk : ∀ w', NatsIn w' B (ns.set i m) → w.grownBy w' (some B) → K (a.put o.dst undef) w') : o.wp P a w K Q := by
  subst hoff
  obtain ⟨d, h1, h2, h3⟩ := hT
  obtain ⟨g1, g2⟩ := h.set hi m
  refine wp_store_mid T x y ho B (32 * i) (natA m) hx hy (by rw [natA_size]; exact h.there hi) (by rw [natA_size]; exact h3) (all_oneCell_toArray (natL_one m)) ?_
  exact hk _ g1 g2

set_option maxHeartbeats 6400000 in
theorem checked_2 {m r a b a' b' : Nat} (K : FuncId) (hE : ∀ (args : Array Value) (W : World), (callFunc K args).run Try.prog W = .ok (.enter K args) W) (B c : Nat) (w : World) (hm : Fit m) (h0 : m ≠ 0) (ha : Fit a) (hb : Fit b) (ea : a % m = a') (eb : b % m = b') (hl : NatsIn w B [a, b])
    (hK : ∀ (g cap : Nat) (W : World), Below w.heap.size w W → NatsIn W g [a', b'] → Calls Try.prog K #[.agg (natA m), .slice (some ⟨g, 0, none⟩) 2 cap] W fun e W' => e = .returned (.agg (natA r)) ∧ Below W.heap.size W W') :
    Calls Try.prog 36 #[.agg (natA m), .func (.func K) #[] #[], .slice (some ⟨B, 0, none⟩) 2 c] w fun e w' => e = .returned (.tuple #[.agg (natA r), .int .i64 0]) ∧ Below w.heap.size w w' := by
  have FM := Lib.hid hm
  have F0 := Lib.hid h0
  have FZ : Hid (decide (m = 0) = false) := Lib.hid (decide_eq_false h0)
  have FL := Lib.hid hl
  have FK := Lib.hid hK
  have FE := Lib.hid hE
  have Ga := Lib.hid ha
  have Ea := Lib.hid ea
  have Gb := Lib.hid hb
  have Eb := Lib.hid eb
  clear hm h0 hl hK hE ha ea hb eb
  have HM : Hid (NatAt ((w.alloc (.cells (natA m) 37)).alloc (.cells z0 37)) (w.heap.size) (m)) := Lib.hid (by
    have h := NatAt.new w (m) 37
    replace h := h.alloc (.cells z0 37)
    simpa using h)
  have HR : Hid (NatAt ((w.alloc (.cells (natA m) 37)).alloc (.cells z0 37)) (w.heap.size + 1) (0)) := Lib.hid (by
    have h := NatAt.new (w.alloc (.cells (natA m) 37)) (0) 37
    rw [natA_zero] at h
    simpa using h)
  have HW : Hid (Below w.heap.size w ((w.alloc (.cells (natA m) 37)).alloc (.cells z0 37))) := Lib.hid (by
    have h := Below.refl w.heap.size w
    replace h := h.alloc h.size (.cells (natA m) 37)
    replace h := h.alloc h.size (.cells z0 37)
    exact h)
  have L_0 : Hid (NatsIn ((w.alloc (.cells (natA m) 37)).alloc (.cells z0 37)) B [a, b]) := Lib.hid ((FL.out.alloc _).alloc _)
  clear FL
  go_enter Try.func36, Try.ntmps36
  go_wp2_with (first | go_skip | (refine wpl_ldN ntNat rfl rfl rfl HM.out ?_) | (refine wpl_ldN_g ntNat ?hw rfl rfl HM.out ?_; (case hw => rfl)) | (refine wpl_ldN ntNat rfl rfl rfl HR.out ?_) | (refine wpl_ldN_g ntNat ?hw rfl rfl HR.out ?_; (case hw => rfl)))
  refine (isZero_ok _ FM.out FZ.out).mono ?_
  rintro e p1 ⟨rfl, hb⟩
  have M_1 := Lib.hid (HM.out.below hb)
  have R_1 := Lib.hid (HR.out.below hb)
  have L_1 := Lib.hid (L_0.out.below hb)
  have W_1 := Lib.hid (HW.out.trans (hb.mono HW.out.size))
  clear hb HM HR L_0 HW
  go_wp2_with (first | go_skip | (refine wpl_ldN ntNat rfl rfl rfl M_1.out ?_) | (refine wpl_ldN_g ntNat ?hw rfl rfl M_1.out ?_; (case hw => rfl)) | (refine wpl_ldN ntNat rfl rfl rfl R_1.out ?_) | (refine wpl_ldN_g ntNat ?hw rfl rfl R_1.out ?_; (case hw => rfl)))
  refine (clone_ok [a, b] B c 2 _ L_1.out rfl (by decide) (by decide)).mono ?_
  rintro e p2 ⟨g, cap, rfl, hg, hn, hb⟩
  have HGR : Hid (w.heap.size + 1 < g) := Lib.hid (Nat.lt_of_lt_of_le R_1.out.lt hg)
  have M_2 := Lib.hid (M_1.out.below hb)
  have R_2 := Lib.hid (R_1.out.below hb)
  have L_2 := Lib.hid (L_1.out.below hb)
  have W_2 := Lib.hid (W_1.out.trans (hb.mono W_1.out.size))
  have S_2 := Lib.hid hn
  clear hb hn hg M_1 R_1 L_1 W_1
  clear L_2
  go_wp2_with (first | go_skip | (refine wpl_ldN ntNat rfl rfl rfl M_2.out ?_) | (refine wpl_ldN_g ntNat ?hw rfl rfl M_2.out ?_; (case hw => rfl)) | (refine wpl_ldN ntNat rfl rfl rfl R_2.out ?_) | (refine wpl_ldN_g ntNat ?hw rfl rfl R_2.out ?_; (case hw => rfl)))
  go_loopw [16] (fun i wr => ((i = .int .i64 0 ∧ NatsIn wr g [a, b]) ∨ (i = .int .i64 1 ∧ NatsIn wr g [a', b]) ∨ (i = .int .i64 2 ∧ NatsIn wr g [a', b'])) ∧ NatAt wr w.heap.size m ∧ NatAt wr (w.heap.size + 1) 0 ∧ Below w.heap.size w wr) (fun i _ => 2 - (intOf i).toNat)
  case atStart => exact ⟨.inl ⟨rfl, S_2.out⟩, M_2.out, R_2.out, W_2.out⟩
  case round =>
    obtain ⟨hi, h1, h2, h3⟩ := hrel
    clear S_2 M_2 R_2 W_2
    have M_0 := Lib.hid h1
    have R_0 := Lib.hid h2
    have W_0 := Lib.hid h3
    clear h1 h2 h3
    rcases hi with ⟨rfl, hs⟩ | ⟨rfl, hs⟩ | ⟨rfl, hs⟩
    · have S_0 := Lib.hid hs
      clear hs
      go_wp2_with fail
      refine region_roadT 10 Later [(0, true), (1, true), (2, true), (3, true), (4, true), (5, true), (6, true), (7, true), (8, false), (9, true), (10, false)] (by kernel_rfl) (by kernel_rfl) (by kernel_rfl) (by kernel_rfl) (by kernel_rfl) (by kernel_rfl) (by kernel_rfl) later_refl later_trans (fun _ _ d _ _ h => by cases d <;> exact h) ?_
      have M_d1 := Lib.hid M_0.out.drew
      have R_d1 := Lib.hid R_0.out.drew
      have S_d1 := Lib.hid S_0.out.drew
      have W_d1 : Hid (Below w.heap.size w wr.drew) := Lib.hid W_0.out.drew
      clear M_0 R_0 S_0 W_0
      generalize wr.drew = d1 at M_d1 R_d1 S_d1 W_d1 ⊢
      refine seqT_at (o := ?_) ?_ ?_
      rotate_left
      · (conv => (lhs; whnf; arg 1; whnf))
      refine seqT_y (v := ?_) (by rfl) (fun W hW => ?_) ?_
      rotate_left
      · go_simp; try with_reducible rfl
      try simp only [Act.put, List.setIfInBounds_toArray, List.set_cons_zero, List.set_cons_succ]
      refine seqT_at (o := ?_) ?_ ?_
      rotate_left
      · (conv => (lhs; whnf; arg 1; whnf))
      refine seqT_y (v := ?_) (by rfl) (fun W hW => ?_) ?_
      rotate_left
      · go_simp; try with_reducible rfl
      try simp only [Act.put, List.setIfInBounds_toArray, List.set_cons_zero, List.set_cons_succ]
      refine seqT_at (o := ?_) ?_ ?_
      rotate_left
      · (conv => (lhs; whnf; arg 1; whnf))
      refine seqT_y (v := ?_) (by rfl) (fun W hW => ?_) ?_
      rotate_left
      · (refine exec_ldN (x := .tmp 3) ntNat ?_ ?_ (M_d1.out.below hW)) <;> rfl
      try simp only [Act.put, List.setIfInBounds_toArray, List.set_cons_zero, List.set_cons_succ]
      refine seqT_at (o := ?_) ?_ ?_
      rotate_left
      · (conv => (lhs; whnf; arg 1; whnf))
      refine seqT_y (v := ?_) (by rfl) (fun W hW => ?_) ?_
      rotate_left
      · (refine exec_build_mod (n := m) (x := .tmp 21) W ?_ ?_) <;> rfl
      try simp only [Act.put, List.setIfInBounds_toArray, List.set_cons_zero, List.set_cons_succ]
      refine seqT_at (o := ?_) ?_ ?_
      rotate_left
      · (conv => (lhs; whnf; arg 1; whnf))
      refine seqT_y (v := ?_) (by rfl) (fun W hW => ?_) ?_
      rotate_left
      · go_simp; try with_reducible rfl
      try simp only [Act.put, List.setIfInBounds_toArray, List.set_cons_zero, List.set_cons_succ]
      refine seqT_at (o := ?_) ?_ ?_
      rotate_left
      · (conv => (lhs; whnf; arg 1; whnf))
      refine seqT_y (v := ?_) (by rfl) (fun W hW => ?_) ?_
      rotate_left
      · go_simp; try with_reducible rfl
      try simp only [Act.put, List.setIfInBounds_toArray, List.set_cons_zero, List.set_cons_succ]
      refine seqT_at (o := ?_) ?_ ?_
      rotate_left
      · (conv => (lhs; whnf; arg 1; whnf))
      refine seqT_y (v := ?_) (by rfl) (fun W hW => ?_) ?_
      rotate_left
      · go_simp; try with_reducible rfl
      try simp only [Act.put, List.setIfInBounds_toArray, List.set_cons_zero, List.set_cons_succ]
      refine seqT_at (o := ?_) ?_ ?_
      rotate_left
      · (conv => (lhs; whnf; arg 1; whnf))
      refine seqT_y (v := ?_) (by rfl) (fun W hW => ?_) ?_
      rotate_left
      · (refine exec_ldIn (x := .tmp 25) (i := 0) (off := 0) (n := a) ntNat ?_ ?_ (S_d1.out.below hW) ?_ ?_) <;> rfl
      try simp only [Act.put, List.setIfInBounds_toArray, List.set_cons_zero, List.set_cons_succ]
      refine seqT_at (o := ?_) ?_ ?_
      rotate_left
      · (conv => (lhs; whnf; arg 1; whnf))
      refine seqT_c (by rfl) (fun K hK => ?_)
      go_simp
      refine (residue_ok _ FM.out Ga.out F0.out Ea.out).mono ?_
      rintro e p2 ⟨rfl, hb⟩
      have M_2 := Lib.hid (M_d1.out.below hb)
      have R_2 := Lib.hid (R_d1.out.below hb)
      have S_2 := Lib.hid (S_d1.out.below hb)
      have W_2 := Lib.hid (W_d1.out.trans (hb.mono W_d1.out.size))
      refine hK _ _ hb ?_
      clear hK K hb M_d1 R_d1 S_d1 W_d1
      try simp only [Act.put, List.setIfInBounds_toArray, List.set_cons_zero, List.set_cons_succ]
      refine seqT_at (o := ?_) ?_ ?_
      rotate_left
      · (conv => (lhs; whnf; arg 1; whnf))
      refine seqT_y (v := ?_) (by rfl) (fun W hW => ?_) ?_
      rotate_left
      · go_simp; try with_reducible rfl
      try simp only [Act.put, List.setIfInBounds_toArray, List.set_cons_zero, List.set_cons_succ]
      refine seqT_at (o := ?_) ?_ ?_
      rotate_left
      · (conv => (lhs; whnf; arg 1; whnf))
      refine seqT_last (by rfl) (fun K hK => ?_)
      refine wp_stIn (i := 0) (off := 0) (m := a') ntNat rfl rfl rfl S_2.out rfl rfl ?_
      intro z3 hn hg
      have S_3 := Lib.hid hn
      have M_3 := Lib.hid (M_2.out.grown hg (fun e => by injection e with e; have := HGR.out; omega))
      have R_3 := Lib.hid (R_2.out.grown hg (fun e => by injection e with e; have := HGR.out; omega))
      have W_3 := Lib.hid (W_2.out.grown hg W_2.out.size (fun j e => by injection e with e; have := HGR.out; omega))
      refine hK _ _ ?_
      clear hK K hn hg W_2 M_2 R_2 S_2
      try simp only [Act.put, List.setIfInBounds_toArray, List.set_cons_zero, List.set_cons_succ]
      refine seqT_end ?_
      go_wp2_with fail
      go_roundw
      case rel => exact ⟨.inr (.inl ⟨rfl, S_3.out⟩), M_3.out, R_3.out, W_3.out⟩
      case measure => simp [intOf]
    · have S_0 := Lib.hid hs
      clear hs
      go_wp2_with fail
      refine region_roadT 10 Later [(0, true), (1, true), (2, true), (3, true), (4, true), (5, true), (6, true), (7, true), (8, false), (9, true), (10, false)] (by kernel_rfl) (by kernel_rfl) (by kernel_rfl) (by kernel_rfl) (by kernel_rfl) (by kernel_rfl) (by kernel_rfl) later_refl later_trans (fun _ _ d _ _ h => by cases d <;> exact h) ?_
      have M_d1 := Lib.hid M_0.out.drew
      have R_d1 := Lib.hid R_0.out.drew
      have S_d1 := Lib.hid S_0.out.drew
      have W_d1 : Hid (Below w.heap.size w wr.drew) := Lib.hid W_0.out.drew
      clear M_0 R_0 S_0 W_0
      generalize wr.drew = d1 at M_d1 R_d1 S_d1 W_d1 ⊢
      refine seqT_at (o := ?_) ?_ ?_
      rotate_left
      · (conv => (lhs; whnf; arg 1; whnf))
      refine seqT_y (v := ?_) (by rfl) (fun W hW => ?_) ?_
      rotate_left
      · go_simp; try with_reducible rfl
      try simp only [Act.put, List.setIfInBounds_toArray, List.set_cons_zero, List.set_cons_succ]
      refine seqT_at (o := ?_) ?_ ?_
      rotate_left
      · (conv => (lhs; whnf; arg 1; whnf))
      refine seqT_y (v := ?_) (by rfl) (fun W hW => ?_) ?_
      rotate_left
      · go_simp; try with_reducible rfl
      try simp only [Act.put, List.setIfInBounds_toArray, List.set_cons_zero, List.set_cons_succ]
      refine seqT_at (o := ?_) ?_ ?_
      rotate_left
      · (conv => (lhs; whnf; arg 1; whnf))
      refine seqT_y (v := ?_) (by rfl) (fun W hW => ?_) ?_
      rotate_left
      · (refine exec_ldN (x := .tmp 3) ntNat ?_ ?_ (M_d1.out.below hW)) <;> rfl
      try simp only [Act.put, List.setIfInBounds_toArray, List.set_cons_zero, List.set_cons_succ]
      refine seqT_at (o := ?_) ?_ ?_
      rotate_left
      · (conv => (lhs; whnf; arg 1; whnf))
      refine seqT_y (v := ?_) (by rfl) (fun W hW => ?_) ?_
      rotate_left
      · (refine exec_build_mod (n := m) (x := .tmp 21) W ?_ ?_) <;> rfl
      try simp only [Act.put, List.setIfInBounds_toArray, List.set_cons_zero, List.set_cons_succ]
      refine seqT_at (o := ?_) ?_ ?_
      rotate_left
      · (conv => (lhs; whnf; arg 1; whnf))
      refine seqT_y (v := ?_) (by rfl) (fun W hW => ?_) ?_
      rotate_left
      · go_simp; try with_reducible rfl
      try simp only [Act.put, List.setIfInBounds_toArray, List.set_cons_zero, List.set_cons_succ]
      refine seqT_at (o := ?_) ?_ ?_
      rotate_left
      · (conv => (lhs; whnf; arg 1; whnf))
      refine seqT_y (v := ?_) (by rfl) (fun W hW => ?_) ?_
      rotate_left
      · go_simp; try with_reducible rfl
      try simp only [Act.put, List.setIfInBounds_toArray, List.set_cons_zero, List.set_cons_succ]
      refine seqT_at (o := ?_) ?_ ?_
      rotate_left
      · (conv => (lhs; whnf; arg 1; whnf))
      refine seqT_y (v := ?_) (by rfl) (fun W hW => ?_) ?_
      rotate_left
      · go_simp; try with_reducible rfl
      try simp only [Act.put, List.setIfInBounds_toArray, List.set_cons_zero, List.set_cons_succ]
      refine seqT_at (o := ?_) ?_ ?_
      rotate_left
      · (conv => (lhs; whnf; arg 1; whnf))
      refine seqT_y (v := ?_) (by rfl) (fun W hW => ?_) ?_
      rotate_left
      · (refine exec_ldIn (x := .tmp 25) (i := 1) (off := 32) (n := b) ntNat ?_ ?_ (S_d1.out.below hW) ?_ ?_) <;> rfl
      try simp only [Act.put, List.setIfInBounds_toArray, List.set_cons_zero, List.set_cons_succ]
      refine seqT_at (o := ?_) ?_ ?_
      rotate_left
      · (conv => (lhs; whnf; arg 1; whnf))
      refine seqT_c (by rfl) (fun K hK => ?_)
      go_simp
      refine (residue_ok _ FM.out Gb.out F0.out Eb.out).mono ?_
      rintro e p2 ⟨rfl, hb⟩
      have M_2 := Lib.hid (M_d1.out.below hb)
      have R_2 := Lib.hid (R_d1.out.below hb)
      have S_2 := Lib.hid (S_d1.out.below hb)
      have W_2 := Lib.hid (W_d1.out.trans (hb.mono W_d1.out.size))
      refine hK _ _ hb ?_
      clear hK K hb M_d1 R_d1 S_d1 W_d1
      try simp only [Act.put, List.setIfInBounds_toArray, List.set_cons_zero, List.set_cons_succ]
      refine seqT_at (o := ?_) ?_ ?_
      rotate_left
      · (conv => (lhs; whnf; arg 1; whnf))
      refine seqT_y (v := ?_) (by rfl) (fun W hW => ?_) ?_
      rotate_left
      · go_simp; try with_reducible rfl
      try simp only [Act.put, List.setIfInBounds_toArray, List.set_cons_zero, List.set_cons_succ]
      refine seqT_at (o := ?_) ?_ ?_
      rotate_left
      · (conv => (lhs; whnf; arg 1; whnf))
      refine seqT_last (by rfl) (fun K hK => ?_)
      refine wp_stIn (i := 1) (off := 32) (m := b') ntNat rfl rfl rfl S_2.out rfl rfl ?_
      intro z3 hn hg
      have S_3 := Lib.hid hn
      have M_3 := Lib.hid (M_2.out.grown hg (fun e => by injection e with e; have := HGR.out; omega))
      have R_3 := Lib.hid (R_2.out.grown hg (fun e => by injection e with e; have := HGR.out; omega))
      have W_3 := Lib.hid (W_2.out.grown hg W_2.out.size (fun j e => by injection e with e; have := HGR.out; omega))
      refine hK _ _ ?_
      clear hK K hn hg W_2 M_2 R_2 S_2
      try simp only [Act.put, List.setIfInBounds_toArray, List.set_cons_zero, List.set_cons_succ]
      refine seqT_end ?_
      go_wp2_with fail
      go_roundw
      case rel => exact ⟨.inr (.inr ⟨rfl, S_3.out⟩), M_3.out, R_3.out, W_3.out⟩
      case measure => simp [intOf]
    · have S_0 := Lib.hid hs
      clear hs
      have FKW := FK.out g cap wr W_0.out S_0.out
      have HKW := Lib.hid FKW
      clear FKW S_0
      have hE := FE.out
      go_wp2_with (first | go_skip | (refine wpl_ldN ntNat rfl rfl rfl M_0.out ?_) | (refine wpl_ldN_g ntNat ?hw rfl rfl M_0.out ?_; (case hw => rfl)) | (refine wpl_ldN ntNat rfl rfl rfl R_0.out ?_) | (refine wpl_ldN_g ntNat ?hw rfl rfl R_0.out ?_; (case hw => rfl)) | (refine wpl_build_mod rfl rfl rfl ?_))
      clear hE
      refine (HKW.out).mono ?_
      rintro e p1 ⟨rfl, hb⟩
      have M_1 := Lib.hid (M_0.out.below hb)
      have R_1 := Lib.hid (R_0.out.below hb)
      have W_1 := Lib.hid (W_0.out.trans (hb.mono W_0.out.size))
      clear hb M_0 R_0 W_0
      go_wp2_with (first | go_skip | (refine wpl_ldN ntNat rfl rfl rfl M_1.out ?_) | (refine wpl_ldN_g ntNat ?hw rfl rfl M_1.out ?_; (case hw => rfl)) | (refine wpl_ldN ntNat rfl rfl rfl R_1.out ?_) | (refine wpl_ldN_g ntNat ?hw rfl rfl R_1.out ?_; (case hw => rfl)) | (refine wpl_stN ntNat rfl rfl rfl rfl R_1.out ?_; intro z2 hn hg; have W_2 := Lib.hid (W_1.out.grown hg W_1.out.size (fun j e => by injection e with e; omega)); have R_2 := Lib.hid hn; clear hn hg W_1 M_1 R_1))
      refine bodyPost_ret (results_nat rfl _ _ rfl R_2.out) rfl ?_
      exact ⟨rfl, W_2.out⟩

set_option maxHeartbeats 6400000 in
theorem checked_1 {m r a a' : Nat} (K : FuncId) (hE : ∀ (args : Array Value) (W : World), (callFunc K args).run Try.prog W = .ok (.enter K args) W) (B c : Nat) (w : World) (hm : Fit m) (h0 : m ≠ 0) (ha : Fit a) (ea : a % m = a') (hl : NatsIn w B [a])
    (hK : ∀ (g cap : Nat) (W : World), Below w.heap.size w W → NatsIn W g [a'] → Calls Try.prog K #[.agg (natA m), .slice (some ⟨g, 0, none⟩) 1 cap] W fun e W' => e = .returned (.agg (natA r)) ∧ Below W.heap.size W W') :
    Calls Try.prog 36 #[.agg (natA m), .func (.func K) #[] #[], .slice (some ⟨B, 0, none⟩) 1 c] w fun e w' => e = .returned (.tuple #[.agg (natA r), .int .i64 0]) ∧ Below w.heap.size w w' := by
  have FM := Lib.hid hm
  have F0 := Lib.hid h0
  have FZ : Hid (decide (m = 0) = false) := Lib.hid (decide_eq_false h0)
  have FL := Lib.hid hl
  have FK := Lib.hid hK
  have FE := Lib.hid hE
  have Ga := Lib.hid ha
  have Ea := Lib.hid ea
  clear hm h0 hl hK hE ha ea
  have HM : Hid (NatAt ((w.alloc (.cells (natA m) 37)).alloc (.cells z0 37)) (w.heap.size) (m)) := Lib.hid (by
    have h := NatAt.new w (m) 37
    replace h := h.alloc (.cells z0 37)
    simpa using h)
  have HR : Hid (NatAt ((w.alloc (.cells (natA m) 37)).alloc (.cells z0 37)) (w.heap.size + 1) (0)) := Lib.hid (by
    have h := NatAt.new (w.alloc (.cells (natA m) 37)) (0) 37
    rw [natA_zero] at h
    simpa using h)
  have HW : Hid (Below w.heap.size w ((w.alloc (.cells (natA m) 37)).alloc (.cells z0 37))) := Lib.hid (by
    have h := Below.refl w.heap.size w
    replace h := h.alloc h.size (.cells (natA m) 37)
    replace h := h.alloc h.size (.cells z0 37)
    exact h)
  have L_0 : Hid (NatsIn ((w.alloc (.cells (natA m) 37)).alloc (.cells z0 37)) B [a]) := Lib.hid ((FL.out.alloc _).alloc _)
  clear FL
  go_enter Try.func36, Try.ntmps36
  go_wp2_with (first | go_skip | (refine wpl_ldN ntNat rfl rfl rfl HM.out ?_) | (refine wpl_ldN_g ntNat ?hw rfl rfl HM.out ?_; (case hw => rfl)) | (refine wpl_ldN ntNat rfl rfl rfl HR.out ?_) | (refine wpl_ldN_g ntNat ?hw rfl rfl HR.out ?_; (case hw => rfl)))
  refine (isZero_ok _ FM.out FZ.out).mono ?_
  rintro e p1 ⟨rfl, hb⟩
  have M_1 := Lib.hid (HM.out.below hb)
  have R_1 := Lib.hid (HR.out.below hb)
  have L_1 := Lib.hid (L_0.out.below hb)
  have W_1 := Lib.hid (HW.out.trans (hb.mono HW.out.size))
  clear hb HM HR L_0 HW
  go_wp2_with (first | go_skip | (refine wpl_ldN ntNat rfl rfl rfl M_1.out ?_) | (refine wpl_ldN_g ntNat ?hw rfl rfl M_1.out ?_; (case hw => rfl)) | (refine wpl_ldN ntNat rfl rfl rfl R_1.out ?_) | (refine wpl_ldN_g ntNat ?hw rfl rfl R_1.out ?_; (case hw => rfl)))
  refine (clone_ok [a] B c 1 _ L_1.out rfl (by decide) (by decide)).mono ?_
  rintro e p2 ⟨g, cap, rfl, hg, hn, hb⟩
  have HGR : Hid (w.heap.size + 1 < g) := Lib.hid (Nat.lt_of_lt_of_le R_1.out.lt hg)
  have M_2 := Lib.hid (M_1.out.below hb)
  have R_2 := Lib.hid (R_1.out.below hb)
  have L_2 := Lib.hid (L_1.out.below hb)
  have W_2 := Lib.hid (W_1.out.trans (hb.mono W_1.out.size))
  have S_2 := Lib.hid hn
  clear hb hn hg M_1 R_1 L_1 W_1
  clear L_2
  go_wp2_with (first | go_skip | (refine wpl_ldN ntNat rfl rfl rfl M_2.out ?_) | (refine wpl_ldN_g ntNat ?hw rfl rfl M_2.out ?_; (case hw => rfl)) | (refine wpl_ldN ntNat rfl rfl rfl R_2.out ?_) | (refine wpl_ldN_g ntNat ?hw rfl rfl R_2.out ?_; (case hw => rfl)))
  go_loopw [16] (fun i wr => ((i = .int .i64 0 ∧ NatsIn wr g [a]) ∨ (i = .int .i64 1 ∧ NatsIn wr g [a'])) ∧ NatAt wr w.heap.size m ∧ NatAt wr (w.heap.size + 1) 0 ∧ Below w.heap.size w wr) (fun i _ => 1 - (intOf i).toNat)
  case atStart => exact ⟨.inl ⟨rfl, S_2.out⟩, M_2.out, R_2.out, W_2.out⟩
  case round =>
    obtain ⟨hi, h1, h2, h3⟩ := hrel
    clear S_2 M_2 R_2 W_2
    have M_0 := Lib.hid h1
    have R_0 := Lib.hid h2
    have W_0 := Lib.hid h3
    clear h1 h2 h3
    rcases hi with ⟨rfl, hs⟩ | ⟨rfl, hs⟩
    · have S_0 := Lib.hid hs
      clear hs
      go_wp2_with fail
      refine region_roadT 10 Later [(0, true), (1, true), (2, true), (3, true), (4, true), (5, true), (6, true), (7, true), (8, false), (9, true), (10, false)] (by kernel_rfl) (by kernel_rfl) (by kernel_rfl) (by kernel_rfl) (by kernel_rfl) (by kernel_rfl) (by kernel_rfl) later_refl later_trans (fun _ _ d _ _ h => by cases d <;> exact h) ?_
      have M_d1 := Lib.hid M_0.out.drew
      have R_d1 := Lib.hid R_0.out.drew
      have S_d1 := Lib.hid S_0.out.drew
      have W_d1 : Hid (Below w.heap.size w wr.drew) := Lib.hid W_0.out.drew
      clear M_0 R_0 S_0 W_0
      generalize wr.drew = d1 at M_d1 R_d1 S_d1 W_d1 ⊢
      refine seqT_at (o := ?_) ?_ ?_
      rotate_left
      · (conv => (lhs; whnf; arg 1; whnf))
      refine seqT_y (v := ?_) (by rfl) (fun W hW => ?_) ?_
      rotate_left
      · go_simp; try with_reducible rfl
      try simp only [Act.put, List.setIfInBounds_toArray, List.set_cons_zero, List.set_cons_succ]
      refine seqT_at (o := ?_) ?_ ?_
      rotate_left
      · (conv => (lhs; whnf; arg 1; whnf))
      refine seqT_y (v := ?_) (by rfl) (fun W hW => ?_) ?_
      rotate_left
      · go_simp; try with_reducible rfl
      try simp only [Act.put, List.setIfInBounds_toArray, List.set_cons_zero, List.set_cons_succ]
      refine seqT_at (o := ?_) ?_ ?_
      rotate_left
      · (conv => (lhs; whnf; arg 1; whnf))
      refine seqT_y (v := ?_) (by rfl) (fun W hW => ?_) ?_
      rotate_left
      · (refine exec_ldN (x := .tmp 3) ntNat ?_ ?_ (M_d1.out.below hW)) <;> rfl
      try simp only [Act.put, List.setIfInBounds_toArray, List.set_cons_zero, List.set_cons_succ]
      refine seqT_at (o := ?_) ?_ ?_
      rotate_left
      · (conv => (lhs; whnf; arg 1; whnf))
      refine seqT_y (v := ?_) (by rfl) (fun W hW => ?_) ?_
      rotate_left
      · (refine exec_build_mod (n := m) (x := .tmp 21) W ?_ ?_) <;> rfl
      try simp only [Act.put, List.setIfInBounds_toArray, List.set_cons_zero, List.set_cons_succ]
      refine seqT_at (o := ?_) ?_ ?_
      rotate_left
      · (conv => (lhs; whnf; arg 1; whnf))
      refine seqT_y (v := ?_) (by rfl) (fun W hW => ?_) ?_
      rotate_left
      · go_simp; try with_reducible rfl
      try simp only [Act.put, List.setIfInBounds_toArray, List.set_cons_zero, List.set_cons_succ]
      refine seqT_at (o := ?_) ?_ ?_
      rotate_left
      · (conv => (lhs; whnf; arg 1; whnf))
      refine seqT_y (v := ?_) (by rfl) (fun W hW => ?_) ?_
      rotate_left
      · go_simp; try with_reducible rfl
      try simp only [Act.put, List.setIfInBounds_toArray, List.set_cons_zero, List.set_cons_succ]
      refine seqT_at (o := ?_) ?_ ?_
      rotate_left
      · (conv => (lhs; whnf; arg 1; whnf))
      refine seqT_y (v := ?_) (by rfl) (fun W hW => ?_) ?_
      rotate_left
      · go_simp; try with_reducible rfl
      try simp only [Act.put, List.setIfInBounds_toArray, List.set_cons_zero, List.set_cons_succ]
      refine seqT_at (o := ?_) ?_ ?_
      rotate_left
      · (conv => (lhs; whnf; arg 1; whnf))
      refine seqT_y (v := ?_) (by rfl) (fun W hW => ?_) ?_
      rotate_left
      · (refine exec_ldIn (x := .tmp 25) (i := 0) (off := 0) (n := a) ntNat ?_ ?_ (S_d1.out.below hW) ?_ ?_) <;> rfl
      try simp only [Act.put, List.setIfInBounds_toArray, List.set_cons_zero, List.set_cons_succ]
      refine seqT_at (o := ?_) ?_ ?_
      rotate_left
      · (conv => (lhs; whnf; arg 1; whnf))
      refine seqT_c (by rfl) (fun K hK => ?_)
      go_simp
      refine (residue_ok _ FM.out Ga.out F0.out Ea.out).mono ?_
      rintro e p2 ⟨rfl, hb⟩
      have M_2 := Lib.hid (M_d1.out.below hb)
      have R_2 := Lib.hid (R_d1.out.below hb)
      have S_2 := Lib.hid (S_d1.out.below hb)
      have W_2 := Lib.hid (W_d1.out.trans (hb.mono W_d1.out.size))
      refine hK _ _ hb ?_
      clear hK K hb M_d1 R_d1 S_d1 W_d1
      try simp only [Act.put, List.setIfInBounds_toArray, List.set_cons_zero, List.set_cons_succ]
      refine seqT_at (o := ?_) ?_ ?_
      rotate_left
      · (conv => (lhs; whnf; arg 1; whnf))
      refine seqT_y (v := ?_) (by rfl) (fun W hW => ?_) ?_
      rotate_left
      · go_simp; try with_reducible rfl
      try simp only [Act.put, List.setIfInBounds_toArray, List.set_cons_zero, List.set_cons_succ]
      refine seqT_at (o := ?_) ?_ ?_
      rotate_left
      · (conv => (lhs; whnf; arg 1; whnf))
      refine seqT_last (by rfl) (fun K hK => ?_)
      refine wp_stIn (i := 0) (off := 0) (m := a') ntNat rfl rfl rfl S_2.out rfl rfl ?_
      intro z3 hn hg
      have S_3 := Lib.hid hn
      have M_3 := Lib.hid (M_2.out.grown hg (fun e => by injection e with e; have := HGR.out; omega))
      have R_3 := Lib.hid (R_2.out.grown hg (fun e => by injection e with e; have := HGR.out; omega))
      have W_3 := Lib.hid (W_2.out.grown hg W_2.out.size (fun j e => by injection e with e; have := HGR.out; omega))
      refine hK _ _ ?_
      clear hK K hn hg W_2 M_2 R_2 S_2
      try simp only [Act.put, List.setIfInBounds_toArray, List.set_cons_zero, List.set_cons_succ]
      refine seqT_end ?_
      go_wp2_with fail
      go_roundw
      case rel => exact ⟨.inr ⟨rfl, S_3.out⟩, M_3.out, R_3.out, W_3.out⟩
      case measure => simp [intOf]
    · have S_0 := Lib.hid hs
      clear hs
      have FKW := FK.out g cap wr W_0.out S_0.out
      have HKW := Lib.hid FKW
      clear FKW S_0
      have hE := FE.out
      go_wp2_with (first | go_skip | (refine wpl_ldN ntNat rfl rfl rfl M_0.out ?_) | (refine wpl_ldN_g ntNat ?hw rfl rfl M_0.out ?_; (case hw => rfl)) | (refine wpl_ldN ntNat rfl rfl rfl R_0.out ?_) | (refine wpl_ldN_g ntNat ?hw rfl rfl R_0.out ?_; (case hw => rfl)) | (refine wpl_build_mod rfl rfl rfl ?_))
      clear hE
      refine (HKW.out).mono ?_
      rintro e p1 ⟨rfl, hb⟩
      have M_1 := Lib.hid (M_0.out.below hb)
      have R_1 := Lib.hid (R_0.out.below hb)
      have W_1 := Lib.hid (W_0.out.trans (hb.mono W_0.out.size))
      clear hb M_0 R_0 W_0
      go_wp2_with (first | go_skip | (refine wpl_ldN ntNat rfl rfl rfl M_1.out ?_) | (refine wpl_ldN_g ntNat ?hw rfl rfl M_1.out ?_; (case hw => rfl)) | (refine wpl_ldN ntNat rfl rfl rfl R_1.out ?_) | (refine wpl_ldN_g ntNat ?hw rfl rfl R_1.out ?_; (case hw => rfl)) | (refine wpl_stN ntNat rfl rfl rfl rfl R_1.out ?_; intro z2 hn hg; have W_2 := Lib.hid (W_1.out.grown hg W_1.out.size (fun j e => by injection e with e; omega)); have R_2 := Lib.hid hn; clear hn hg W_1 M_1 R_1))
      refine bodyPost_ret (results_nat rfl _ _ rfl R_2.out) rfl ?_
      exact ⟨rfl, W_2.out⟩

set_option maxHeartbeats 6400000 in
theorem checked_e {m r a a' bE : Nat} (K : FuncId) (hE : ∀ (args : Array Value) (W : World), (callFunc K args).run Try.prog W = .ok (.enter K args) W) (B c : Nat) (w : World) (hm : Fit m) (h0 : m ≠ 0) (ha : Fit a) (ea : a % m = a') (hl : NatsIn w B [a])
    (hK : ∀ (g cap : Nat) (W : World), Below w.heap.size w W → NatsIn W g [a'] → Calls Try.prog K #[.agg (natA m), .slice (some ⟨g, 0, none⟩) 1 cap, .pointer (some ⟨bE, 0, none⟩)] W fun e W' => e = .returned (.agg (natA r)) ∧ Below W.heap.size W W') :
    Calls Try.prog 36 #[.agg (natA m), .func (.func K) #[] #[.pointer (some ⟨bE, 0, none⟩)], .slice (some ⟨B, 0, none⟩) 1 c] w fun e w' => e = .returned (.tuple #[.agg (natA r), .int .i64 0]) ∧ Below w.heap.size w w' := by
  have FM := Lib.hid hm
  have F0 := Lib.hid h0
  have FZ : Hid (decide (m = 0) = false) := Lib.hid (decide_eq_false h0)
  have FL := Lib.hid hl
  have FK := Lib.hid hK
  have FE := Lib.hid hE
  have Ga := Lib.hid ha
  have Ea := Lib.hid ea
  clear hm h0 hl hK hE ha ea
  have HM : Hid (NatAt ((w.alloc (.cells (natA m) 37)).alloc (.cells z0 37)) (w.heap.size) (m)) := Lib.hid (by
    have h := NatAt.new w (m) 37
    replace h := h.alloc (.cells z0 37)
    simpa using h)
  have HR : Hid (NatAt ((w.alloc (.cells (natA m) 37)).alloc (.cells z0 37)) (w.heap.size + 1) (0)) := Lib.hid (by
    have h := NatAt.new (w.alloc (.cells (natA m) 37)) (0) 37
    rw [natA_zero] at h
    simpa using h)
  have HW : Hid (Below w.heap.size w ((w.alloc (.cells (natA m) 37)).alloc (.cells z0 37))) := Lib.hid (by
    have h := Below.refl w.heap.size w
    replace h := h.alloc h.size (.cells (natA m) 37)
    replace h := h.alloc h.size (.cells z0 37)
    exact h)
  have L_0 : Hid (NatsIn ((w.alloc (.cells (natA m) 37)).alloc (.cells z0 37)) B [a]) := Lib.hid ((FL.out.alloc _).alloc _)
  clear FL
  go_enter Try.func36, Try.ntmps36
  go_wp2_with (first | go_skip | (refine wpl_ldN ntNat rfl rfl rfl HM.out ?_) | (refine wpl_ldN_g ntNat ?hw rfl rfl HM.out ?_; (case hw => rfl)) | (refine wpl_ldN ntNat rfl rfl rfl HR.out ?_) | (refine wpl_ldN_g ntNat ?hw rfl rfl HR.out ?_; (case hw => rfl)))
  refine (isZero_ok _ FM.out FZ.out).mono ?_
  rintro e p1 ⟨rfl, hb⟩
  have M_1 := Lib.hid (HM.out.below hb)
  have R_1 := Lib.hid (HR.out.below hb)
  have L_1 := Lib.hid (L_0.out.below hb)
  have W_1 := Lib.hid (HW.out.trans (hb.mono HW.out.size))
  clear hb HM HR L_0 HW
  go_wp2_with (first | go_skip | (refine wpl_ldN ntNat rfl rfl rfl M_1.out ?_) | (refine wpl_ldN_g ntNat ?hw rfl rfl M_1.out ?_; (case hw => rfl)) | (refine wpl_ldN ntNat rfl rfl rfl R_1.out ?_) | (refine wpl_ldN_g ntNat ?hw rfl rfl R_1.out ?_; (case hw => rfl)))
  refine (clone_ok [a] B c 1 _ L_1.out rfl (by decide) (by decide)).mono ?_
  rintro e p2 ⟨g, cap, rfl, hg, hn, hb⟩
  have HGR : Hid (w.heap.size + 1 < g) := Lib.hid (Nat.lt_of_lt_of_le R_1.out.lt hg)
  have M_2 := Lib.hid (M_1.out.below hb)
  have R_2 := Lib.hid (R_1.out.below hb)
  have L_2 := Lib.hid (L_1.out.below hb)
  have W_2 := Lib.hid (W_1.out.trans (hb.mono W_1.out.size))
  have S_2 := Lib.hid hn
  clear hb hn hg M_1 R_1 L_1 W_1
  clear L_2
  go_wp2_with (first | go_skip | (refine wpl_ldN ntNat rfl rfl rfl M_2.out ?_) | (refine wpl_ldN_g ntNat ?hw rfl rfl M_2.out ?_; (case hw => rfl)) | (refine wpl_ldN ntNat rfl rfl rfl R_2.out ?_) | (refine wpl_ldN_g ntNat ?hw rfl rfl R_2.out ?_; (case hw => rfl)))
  go_loopw [16] (fun i wr => ((i = .int .i64 0 ∧ NatsIn wr g [a]) ∨ (i = .int .i64 1 ∧ NatsIn wr g [a'])) ∧ NatAt wr w.heap.size m ∧ NatAt wr (w.heap.size + 1) 0 ∧ Below w.heap.size w wr) (fun i _ => 1 - (intOf i).toNat)
  case atStart => exact ⟨.inl ⟨rfl, S_2.out⟩, M_2.out, R_2.out, W_2.out⟩
  case round =>
    obtain ⟨hi, h1, h2, h3⟩ := hrel
    clear S_2 M_2 R_2 W_2
    have M_0 := Lib.hid h1
    have R_0 := Lib.hid h2
    have W_0 := Lib.hid h3
    clear h1 h2 h3
    rcases hi with ⟨rfl, hs⟩ | ⟨rfl, hs⟩
    · have S_0 := Lib.hid hs
      clear hs
      go_wp2_with fail
      refine region_roadT 10 Later [(0, true), (1, true), (2, true), (3, true), (4, true), (5, true), (6, true), (7, true), (8, false), (9, true), (10, false)] (by kernel_rfl) (by kernel_rfl) (by kernel_rfl) (by kernel_rfl) (by kernel_rfl) (by kernel_rfl) (by kernel_rfl) later_refl later_trans (fun _ _ d _ _ h => by cases d <;> exact h) ?_
      have M_d1 := Lib.hid M_0.out.drew
      have R_d1 := Lib.hid R_0.out.drew
      have S_d1 := Lib.hid S_0.out.drew
      have W_d1 : Hid (Below w.heap.size w wr.drew) := Lib.hid W_0.out.drew
      clear M_0 R_0 S_0 W_0
      generalize wr.drew = d1 at M_d1 R_d1 S_d1 W_d1 ⊢
      refine seqT_at (o := ?_) ?_ ?_
      rotate_left
      · (conv => (lhs; whnf; arg 1; whnf))
      refine seqT_y (v := ?_) (by rfl) (fun W hW => ?_) ?_
      rotate_left
      · go_simp; try with_reducible rfl
      try simp only [Act.put, List.setIfInBounds_toArray, List.set_cons_zero, List.set_cons_succ]
      refine seqT_at (o := ?_) ?_ ?_
      rotate_left
      · (conv => (lhs; whnf; arg 1; whnf))
      refine seqT_y (v := ?_) (by rfl) (fun W hW => ?_) ?_
      rotate_left
      · go_simp; try with_reducible rfl
      try simp only [Act.put, List.setIfInBounds_toArray, List.set_cons_zero, List.set_cons_succ]
      refine seqT_at (o := ?_) ?_ ?_
      rotate_left
      · (conv => (lhs; whnf; arg 1; whnf))
      refine seqT_y (v := ?_) (by rfl) (fun W hW => ?_) ?_
      rotate_left
      · (refine exec_ldN (x := .tmp 3) ntNat ?_ ?_ (M_d1.out.below hW)) <;> rfl
      try simp only [Act.put, List.setIfInBounds_toArray, List.set_cons_zero, List.set_cons_succ]
      refine seqT_at (o := ?_) ?_ ?_
      rotate_left
      · (conv => (lhs; whnf; arg 1; whnf))
      refine seqT_y (v := ?_) (by rfl) (fun W hW => ?_) ?_
      rotate_left
      · (refine exec_build_mod (n := m) (x := .tmp 21) W ?_ ?_) <;> rfl
      try simp only [Act.put, List.setIfInBounds_toArray, List.set_cons_zero, List.set_cons_succ]
      refine seqT_at (o := ?_) ?_ ?_
      rotate_left
      · (conv => (lhs; whnf; arg 1; whnf))
      refine seqT_y (v := ?_) (by rfl) (fun W hW => ?_) ?_
      rotate_left
      · go_simp; try with_reducible rfl
      try simp only [Act.put, List.setIfInBounds_toArray, List.set_cons_zero, List.set_cons_succ]
      refine seqT_at (o := ?_) ?_ ?_
      rotate_left
      · (conv => (lhs; whnf; arg 1; whnf))
      refine seqT_y (v := ?_) (by rfl) (fun W hW => ?_) ?_
      rotate_left
      · go_simp; try with_reducible rfl
      try simp only [Act.put, List.setIfInBounds_toArray, List.set_cons_zero, List.set_cons_succ]
      refine seqT_at (o := ?_) ?_ ?_
      rotate_left
      · (conv => (lhs; whnf; arg 1; whnf))
      refine seqT_y (v := ?_) (by rfl) (fun W hW => ?_) ?_
      rotate_left
      · go_simp; try with_reducible rfl
      try simp only [Act.put, List.setIfInBounds_toArray, List.set_cons_zero, List.set_cons_succ]
      refine seqT_at (o := ?_) ?_ ?_
      rotate_left
      · (conv => (lhs; whnf; arg 1; whnf))
      refine seqT_y (v := ?_) (by rfl) (fun W hW => ?_) ?_
      rotate_left
      · (refine exec_ldIn (x := .tmp 25) (i := 0) (off := 0) (n := a) ntNat ?_ ?_ (S_d1.out.below hW) ?_ ?_) <;> rfl
      try simp only [Act.put, List.setIfInBounds_toArray, List.set_cons_zero, List.set_cons_succ]
      refine seqT_at (o := ?_) ?_ ?_
      rotate_left
      · (conv => (lhs; whnf; arg 1; whnf))
      refine seqT_c (by rfl) (fun K hK => ?_)
      go_simp
      refine (residue_ok _ FM.out Ga.out F0.out Ea.out).mono ?_
      rintro e p2 ⟨rfl, hb⟩
      have M_2 := Lib.hid (M_d1.out.below hb)
      have R_2 := Lib.hid (R_d1.out.below hb)
      have S_2 := Lib.hid (S_d1.out.below hb)
      have W_2 := Lib.hid (W_d1.out.trans (hb.mono W_d1.out.size))
      refine hK _ _ hb ?_
      clear hK K hb M_d1 R_d1 S_d1 W_d1
      try simp only [Act.put, List.setIfInBounds_toArray, List.set_cons_zero, List.set_cons_succ]
      refine seqT_at (o := ?_) ?_ ?_
      rotate_left
      · (conv => (lhs; whnf; arg 1; whnf))
      refine seqT_y (v := ?_) (by rfl) (fun W hW => ?_) ?_
      rotate_left
      · go_simp; try with_reducible rfl
      try simp only [Act.put, List.setIfInBounds_toArray, List.set_cons_zero, List.set_cons_succ]
      refine seqT_at (o := ?_) ?_ ?_
      rotate_left
      · (conv => (lhs; whnf; arg 1; whnf))
      refine seqT_last (by rfl) (fun K hK => ?_)
      refine wp_stIn (i := 0) (off := 0) (m := a') ntNat rfl rfl rfl S_2.out rfl rfl ?_
      intro z3 hn hg
      have S_3 := Lib.hid hn
      have M_3 := Lib.hid (M_2.out.grown hg (fun e => by injection e with e; have := HGR.out; omega))
      have R_3 := Lib.hid (R_2.out.grown hg (fun e => by injection e with e; have := HGR.out; omega))
      have W_3 := Lib.hid (W_2.out.grown hg W_2.out.size (fun j e => by injection e with e; have := HGR.out; omega))
      refine hK _ _ ?_
      clear hK K hn hg W_2 M_2 R_2 S_2
      try simp only [Act.put, List.setIfInBounds_toArray, List.set_cons_zero, List.set_cons_succ]
      refine seqT_end ?_
      go_wp2_with fail
      go_roundw
      case rel => exact ⟨.inr ⟨rfl, S_3.out⟩, M_3.out, R_3.out, W_3.out⟩
      case measure => simp [intOf]
    · have S_0 := Lib.hid hs
      clear hs
      have FKW := FK.out g cap wr W_0.out S_0.out
      have HKW := Lib.hid FKW
      clear FKW S_0
      have hE := FE.out
      go_wp2_with (first | go_skip | (refine wpl_ldN ntNat rfl rfl rfl M_0.out ?_) | (refine wpl_ldN_g ntNat ?hw rfl rfl M_0.out ?_; (case hw => rfl)) | (refine wpl_ldN ntNat rfl rfl rfl R_0.out ?_) | (refine wpl_ldN_g ntNat ?hw rfl rfl R_0.out ?_; (case hw => rfl)) | (refine wpl_build_mod rfl rfl rfl ?_))
      clear hE
      refine (HKW.out).mono ?_
      rintro e p1 ⟨rfl, hb⟩
      have M_1 := Lib.hid (M_0.out.below hb)
      have R_1 := Lib.hid (R_0.out.below hb)
      have W_1 := Lib.hid (W_0.out.trans (hb.mono W_0.out.size))
      clear hb M_0 R_0 W_0
      go_wp2_with (first | go_skip | (refine wpl_ldN ntNat rfl rfl rfl M_1.out ?_) | (refine wpl_ldN_g ntNat ?hw rfl rfl M_1.out ?_; (case hw => rfl)) | (refine wpl_ldN ntNat rfl rfl rfl R_1.out ?_) | (refine wpl_ldN_g ntNat ?hw rfl rfl R_1.out ?_; (case hw => rfl)) | (refine wpl_stN ntNat rfl rfl rfl rfl R_1.out ?_; intro z2 hn hg; have W_2 := Lib.hid (W_1.out.grown hg W_1.out.size (fun j e => by injection e with e; omega)); have R_2 := Lib.hid hn; clear hn hg W_1 M_1 R_1))
      refine bodyPost_ret (results_nat rfl _ _ rfl R_2.out) rfl ?_
      exact ⟨rfl, W_2.out⟩


end Go.Proofs.Ytfmadiepefbepaa
