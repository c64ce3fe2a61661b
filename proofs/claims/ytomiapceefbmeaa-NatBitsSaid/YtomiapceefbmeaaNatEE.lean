/- Walk: GCD (printed by gennatee.py). -/
import Derived.Test.YtomiapceefbmeaaNatDD
import Derived.Test.YtomiapceefbmeaaNatH
import Derived.Test.YtomiapceefbmeaaRefJ
import Derived.Deep.LoopGhost
set_option linter.unusedVariables false
set_option linter.unusedSimpArgs false
set_option maxRecDepth 20000
namespace Go.Proofs.Ytomiapceefbmeaa
open Go.RowKit

theorem results_one {fn : Func} {p : Tmp} (h : fn.results = #[.cell p 29]) (tmps : Array Value) (w : World) {B n : Nat} (hp : tmps.getD p undef = .pointer (some ⟨B, 0, none⟩)) (hn : NatAt w B n) :
    (results fn tmps).run Try.prog w = .ok (.agg (natA n)) w := by
  obtain ⟨T, hT⟩ := hn
  exact results_cell_row h tmps w B T (natA n) (0, 0) _ hp hT Try.underlying29 rfl (by rw [natA_size]; kernel_rfl)
def RetG1 (w : World) (n : Nat) : Ending → World → Prop := fun r w' => r = .returned (.agg (natA n)) ∧ Below w.heap.size w w'

set_option maxHeartbeats 3200000 in
set_option maxRecDepth 100000 in
theorem gcd_any (a b : Nat) (w : World) (ha : Fit a) (hb : Fit b) :
    Calls Try.prog 31 #[.agg (natA a), .agg (natA b)] w (RetG1 w (Nat.gcd a b)) := by
  have HFA := Lib.hid ha
  have HFB := Lib.hid hb
  clear ha hb
  have HA : Hid (NatAt (((w.alloc (.cells (natA a) 29)).alloc (.cells (natA b) 29)).alloc (.cells z0 29)) (w.heap.size) (a)) := Lib.hid (by
    have h := NatAt.new w (a) 29
    replace h := h.alloc (.cells (natA b) 29)
    replace h := h.alloc (.cells z0 29)
    simpa using h)
  have HB : Hid (NatAt (((w.alloc (.cells (natA a) 29)).alloc (.cells (natA b) 29)).alloc (.cells z0 29)) (w.heap.size + 1) (b)) := Lib.hid (by
    have h := NatAt.new (w.alloc (.cells (natA a) 29)) (b) 29
    replace h := h.alloc (.cells z0 29)
    simpa using h)
  have HR : Hid (NatAt (((w.alloc (.cells (natA a) 29)).alloc (.cells (natA b) 29)).alloc (.cells z0 29)) (w.heap.size + 1 + 1) (0)) := Lib.hid (by
    have h := NatAt.new ((w.alloc (.cells (natA a) 29)).alloc (.cells (natA b) 29)) (0) 29
    rw [natA_zero] at h
    simpa using h)
  have HW : Hid (Below w.heap.size w (((w.alloc (.cells (natA a) 29)).alloc (.cells (natA b) 29)).alloc (.cells z0 29))) := Lib.hid (by
    have h := Below.refl w.heap.size w
    replace h := h.alloc h.size (.cells (natA a) 29)
    replace h := h.alloc h.size (.cells (natA b) 29)
    replace h := h.alloc h.size (.cells z0 29)
    exact h)
  go_enter Try.func31, Try.ntmps31
  go_wp2_with fail
  generalize (((w.alloc (.cells (natA a) 29)).alloc (.cells (natA b) 29)).alloc (.cells z0 29)) = w1 at HA HB HR HW ⊢
  go_loopg [7] b (fun y _ wr => ∃ x, NatAt wr w.heap.size x ∧ NatAt wr (w.heap.size + 1) y ∧ NatAt wr (w.heap.size + 1 + 1) 0 ∧ Nat.gcd x y = Nat.gcd a b ∧ Fit x ∧ Fit y ∧ Below w.heap.size w wr)
  case atStart => exact ⟨a, HA.out, HB.out, HR.out, rfl, HFA.out, HFB.out, HW.out⟩
  case round =>
    clear HA HB HR HW HFA HFB
    obtain ⟨x, hx, hy, hr, hg, hfx, hfy, hw⟩ := hrel
    have HX := Lib.hid hx
    have HY := Lib.hid hy
    have HR := Lib.hid hr
    have HG := Lib.hid hg
    have HFX := Lib.hid hfx
    have HFY := Lib.hid hfy
    have HW := Lib.hid hw
    clear hx hy hr hg hfx hfy hw
    go_wp2_with (refine wpl_ldN ntNat rfl rfl rfl HY.out ?_)
    refine (isZero_any gk _ HFY.out).mono ?_
    rintro e w2 ⟨rfl, hb2⟩
    have S2 := Lib.hid (HX.out.below hb2)
    have S3 := Lib.hid (HY.out.below hb2)
    have S4 := Lib.hid (HR.out.below hb2)
    have SW := Lib.hid (HW.out.trans (hb2.mono HW.out.size))
    clear HX HY HR HW hb2
    by_cases h0 : gk = 0
    · have HGX : Hid (x = Nat.gcd a b) := Lib.hid (by rw [← HG.out, h0, Nat.gcd_zero_right])
      rw [decide_eq_true h0]
      rw [HGX.out] at S2
      clear h0
      go_wp2_with (first | (refine wpl_ldN ntNat rfl rfl rfl S2.out ?_) | (refine wpl_stN ntNat rfl rfl rfl rfl S4.out ?_; intro w9 hn9 hg9; have HN9 := Lib.hid hn9; have HW9 := Lib.hid (SW.out.grown hg9 SW.out.size (fun j e => by injection e with e; omega)); clear hn9 hg9))
      refine bodyPost_ret (results_one rfl _ _ rfl HN9.out) rfl ?_
      exact ⟨rfl, HW9.out⟩
    · rw [decide_eq_false h0]
      have H0 := Lib.hid h0
      clear h0
      have HD : Hid (∀ W, Calls Try.prog 33 #[.agg (natA x), .agg (natA gk)] W (RetD W (x / gk) (x % gk) 0)) := Lib.hid (fun W => by
        have h := divide_any x gk W HFX.out HFY.out
        rwa [divA, divR, divE, if_neg H0.out, if_neg H0.out, if_neg H0.out] at h)
      go_wp2_with (first | (refine wpl_ldN ntNat rfl rfl rfl S2.out ?_) | (refine wpl_ldN ntNat rfl rfl rfl S3.out ?_))
      refine (HD.out _).mono ?_
      rintro e w3 ⟨rfl, hb3⟩
      have U2 := Lib.hid (((S2.out.below hb3).alloc (.cells z0 29)).alloc (.cells z0 29))
      have U3 := Lib.hid (((S3.out.below hb3).alloc (.cells z0 29)).alloc (.cells z0 29))
      have U4 := Lib.hid (((S4.out.below hb3).alloc (.cells z0 29)).alloc (.cells z0 29))
      have hws := SW.out.trans (hb3.mono SW.out.size)
      have UW := Lib.hid ((hws.alloc hws.size (.cells z0 29)).alloc (by have := hws.size; simp; omega) (.cells z0 29))
      have U5 : Hid (NatAt ((w3.alloc (.cells z0 29)).alloc (.cells z0 29)) w3.heap.size 0) := Lib.hid (by
        have h := NatAt.new w3 0 29
        rw [natA_zero] at h
        exact h.alloc _)
      have U6 : Hid (NatAt ((w3.alloc (.cells z0 29)).alloc (.cells z0 29)) (w3.heap.size + 1) 0) := Lib.hid (by
        have h := NatAt.new (w3.alloc (.cells z0 29)) 0 29
        rw [natA_zero, World.size_alloc] at h
        exact h)
      have H5 : Hid (w.heap.size + 3 ≤ w3.heap.size) := Lib.hid (by have := (S4.out.below hb3).lt; omega)
      clear S2 S3 S4 SW hws hb3 HD
      go_upto_region 3 with (first | (refine wpl_stN ntNat rfl rfl rfl (m := x / gk) rfl U5.out ?_; intro w4 hn4 hg4; have V2 := Lib.hid (U2.out.grown hg4 (by have := H5.out; simp; omega)); have V3 := Lib.hid (U3.out.grown hg4 (by have := H5.out; simp; omega)); have V4 := Lib.hid (U4.out.grown hg4 (by have := H5.out; simp; omega)); have V6 := Lib.hid (U6.out.grown hg4 (by simp)); have VW := Lib.hid (UW.out.grown hg4 UW.out.size (fun j e => by injection e with e; have := H5.out; omega)); clear hn4 hg4 U2 U3 U4 U5 U6 UW) | (refine wpl_stN ntNat rfl rfl rfl (m := x % gk) rfl V6.out ?_; intro w5 hn5 hg5; have S6 := Lib.hid hn5.drew; have S2 := Lib.hid (V2.out.grown hg5 (by have := H5.out; simp; omega)).drew; have S3 := Lib.hid (V3.out.grown hg5 (by have := H5.out; simp; omega)).drew; have S4 := Lib.hid (V4.out.grown hg5 (by have := H5.out; simp; omega)).drew; have SW := Lib.hid (below_drew' (VW.out.grown hg5 VW.out.size (fun j e => by injection e with e; have := H5.out; omega)) 1); clear hn5 hg5 V2 V3 V4 V6 VW))
      obtain ⟨B6, hB6⟩ : ∃ y, y = w3.heap.size + 1 := ⟨_, rfl⟩
      rw [← hB6] at S6 ⊢
      have H6 : Hid (w.heap.size + 3 ≤ B6) := Lib.hid (by have := H5.out; omega)
      clear hB6 H5
      refine region_roadN (fun w1 w2 => NatAt w1 B6 (x % gk) → NatAt w2 B6 (x % gk)) [(1, true), (0, false), (2, false), (3, false)] (by kernel_rfl) (by kernel_rfl) (by kernel_rfl) (by kernel_rfl) (by kernel_rfl) (by kernel_rfl) (fun _ h => h) (fun _ _ _ f g h => g (f h)) ?_
      have SW' : Hid (Below w.heap.size w w5.drew) := SW
      clear SW
      have SW := SW'
      clear SW'
      generalize w5.drew = w7 at S2 S3 S4 S6 SW ⊢
      refine seqR_at (o := ?_) ?_ ?_
      rotate_left
      · (conv => (lhs; whnf; arg 1; whnf))
      refine seqR_y (v := ?_) (by rfl) (fun W hW => ?_) ?_
      rotate_left
      · (refine exec_ldN (x := .tmp 6) ntNat ?_ ?_ (hW S6.out)) <;> rfl
      try simp only [Act.put, List.setIfInBounds_toArray, List.set_cons_zero, List.set_cons_succ]
      refine seqR_at (o := ?_) ?_ ?_
      rotate_left
      · (conv => (lhs; whnf; arg 1; whnf))
      refine seqR_c (by rfl) (fun K hK => ?_)
      refine wp_ld_dig dtNat rfl rfl (DAt.of_nat S3.out) ?_
      refine hK _ _ (fun h => h) ?_
      try simp only [Act.put, List.setIfInBounds_toArray, List.set_cons_zero, List.set_cons_succ]
      refine seqR_at (o := ?_) ?_ ?_
      rotate_left
      · (conv => (lhs; whnf; arg 1; whnf))
      refine seqR_c (by rfl) (fun K hK => ?_)
      refine wp_st_dig dtNat rfl rfl rfl (DAt.of_nat S2.out) ?_
      intro w8 hd8 hg8
      have T2 := Lib.hid (DAt.nat hd8)
      have T3 := Lib.hid (S3.out.grown hg8 (by simp))
      have T4 := Lib.hid (S4.out.grown hg8 (by simp; omega))
      have TW := Lib.hid (SW.out.grown hg8 SW.out.size (fun j e => by injection e with e; omega))
      refine hK _ _ (fun h => NatAt.grown h hg8 (by have := H6.out; simp; omega)) ?_
      clear hd8 hg8 S2 S3 S4 SW
      try simp only [Act.put, List.setIfInBounds_toArray, List.set_cons_zero, List.set_cons_succ]
      refine seqR_at (o := ?_) ?_ ?_
      rotate_left
      · (conv => (lhs; whnf; arg 1; whnf))
      refine seqR_c (by rfl) (fun K hK => ?_)
      refine wp_st_dig dtNat rfl rfl rfl (DAt.of_nat T3.out) ?_
      intro w9 hd9 hg9
      have X3 := Lib.hid (DAt.nat hd9)
      have X2 := Lib.hid (T2.out.grown hg9 (by simp))
      have X4 := Lib.hid (T4.out.grown hg9 (by simp))
      have XW := Lib.hid (TW.out.grown hg9 TW.out.size (fun j e => by injection e with e; omega))
      refine hK _ _ (fun h => NatAt.grown h hg9 (by have := H6.out; simp; omega)) ?_
      clear hd9 hg9 T2 T3 T4 TW
      try simp only [Act.put, List.setIfInBounds_toArray, List.set_cons_zero, List.set_cons_succ]
      refine seqR_end ?_
      simp only [onN]
      have hlt : x % gk < gk := Nat.mod_lt _ (Nat.pos_of_ne_zero H0.out)
      go_wp2_with fail
      go_roundg (x % gk)
      case measure => exact hlt
      case rel => exact ⟨gk, X2.out, X3.out, X4.out, by rw [gcd_step]; exact HG.out, HFY.out, Nat.lt_trans hlt HFY.out, XW.out⟩

end Go.Proofs.Ytomiapceefbmeaa
