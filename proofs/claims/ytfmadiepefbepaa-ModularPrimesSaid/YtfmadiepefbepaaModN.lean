/- Walk: Prime. -/
import Derived.Test.YtfmadiepefbepaaModM
set_option linter.unusedVariables false
set_option linter.unusedSimpArgs false
set_option maxRecDepth 20000
namespace Go.Proofs.Ytfmadiepefbepaa
open Go.RowKit Go.Shelf
attribute [local go_sem] Oper.semAt_some

/-- What Prime returns. -/
def RetPm (w : World) (v : Int) (e : Ending) (w' : World) : Prop := ∃ (b : Bool) (c : Int), e = .returned (.tuple #[.bool b, .int .i64 c]) ∧ Below w.heap.size w w' ∧
  (v < 0 → b = false ∧ c = 2) ∧ (4294967296 ≤ v → b = false ∧ c = 3) ∧ (0 ≤ v → v < 4294967296 → c = 0 ∧ (b = true ↔ IsP v.toNat))

theorem results_pr {tmps : Array Value} {w : World} {B C : Nat} {b : Bool} {c : Int} (hp : tmps.getD 2 undef = .pointer (some ⟨B, 0, none⟩)) (hq : tmps.getD 3 undef = .pointer (some ⟨C, 0, none⟩)) (hb : OneAt w B (.bool b)) (hc : OneAt w C (.int .i64 c)) :
    (results Try.f11 tmps).run Try.prog w = .ok (.tuple #[.bool b, .int .i64 c]) w := by
  have h1 := hb.cell
  have h2 := hc.cell
  rw [Array.getD_eq_getD_getElem?] at hp hq
  simp [results, Try.f11, go_sem, hp, hq, h1, h2]

theorem boxes_pr (w : World) (v : Int) (b : Bool) (c : Int) : OneAt (((w.alloc (.cells #[.int .i64 v] 3)).alloc (.cells #[.bool b] 4)).alloc (.cells #[.int .i64 c] 23)) w.heap.size (.int .i64 v) ∧ OneAt (((w.alloc (.cells #[.int .i64 v] 3)).alloc (.cells #[.bool b] 4)).alloc (.cells #[.int .i64 c] 23)) (w.heap.size + 1) (.bool b) ∧ OneAt (((w.alloc (.cells #[.int .i64 v] 3)).alloc (.cells #[.bool b] 4)).alloc (.cells #[.int .i64 c] 23)) (w.heap.size + 1 + 1) (.int .i64 c) ∧ Below w.heap.size w (((w.alloc (.cells #[.int .i64 v] 3)).alloc (.cells #[.bool b] 4)).alloc (.cells #[.int .i64 c] 23)) := by
  refine ⟨((OneAt.new w _ _).alloc _).alloc _, ?_, ?_, ?_⟩
  · have h := (OneAt.new (w.alloc (.cells #[.int .i64 v] 3)) (.bool b) 4).alloc (.cells #[.int .i64 c] 23)
    rwa [World.size_alloc] at h
  · have h := OneAt.new ((w.alloc (.cells #[.int .i64 v] 3)).alloc (.cells #[.bool b] 4)) (.int .i64 c) 23
    rwa [World.size_alloc, World.size_alloc] at h
  · have h := (Below.refl w.heap.size w).alloc (Nat.le_refl _) (.cells #[.int .i64 v] 3)
    replace h := h.alloc h.size (.cells #[.bool b] 4)
    exact h.alloc h.size _

theorem prime_dvd {m p c : Nat} (h : IsP m) (hp : 2 ≤ p) (e : c * p = m) : p = m := by
  have hm := h.1
  rcases Nat.lt_or_ge c 2 with h1 | h1
  · rcases Nat.eq_zero_or_pos c with h2 | h2
    · rw [h2, Nat.zero_mul] at e; omega
    · obtain rfl : c = 1 := by omega
      rw [Nat.one_mul] at e
      exact e
  · exfalso
    rcases Nat.lt_or_ge c p with h3 | h3
    · refine h.2 c h1 ?_ (by rw [← e]; exact Nat.mul_mod_right _ _)
      rw [← e]
      exact Nat.mul_le_mul_left c (Nat.le_of_lt h3)
    · refine h.2 p hp ?_ (by rw [← e]; exact Nat.mul_mod_left _ _)
      rw [← e]
      exact Nat.mul_le_mul_right p h3
theorem not_isP_one : ¬ IsP 1 := fun h => by have := h.1; omega
theorem not_isP_zero : ¬ IsP 0 := fun h => by have := h.1; omega
theorem no_fac {v : Int} (h : FacsAll v []) (h0 : 0 ≤ v) (hL : v < 4294967296) : ¬ IsP v.toNat := by
  rcases h with ⟨m, rfl, h1, h2, q, hq⟩ | ⟨h1, -⟩
  · rw [facS_nil] at hq
    injection hq with hq
    injection hq with ha hb
    rw [ha]
    exact not_isP_one
  · obtain rfl : v = 0 := by omega
    exact not_isP_zero

/-- Said of the first factors: they are those of v, and the first is at least 2. -/
theorem first_fac {v : Int} {x : Fac} (h : FacsPre v [x]) : 0 ≤ v ∧ ((x.1.1 : Int) = v ↔ IsP v.toNat) := by
  obtain ⟨m, rfl, hm, hM, -, s, hs⟩ := h
  refine ⟨by omega, ?_⟩
  obtain ⟨r, q⟩ := s
  have hs1 : stepF (facS m []) x.1 = some (r, q) := hs
  obtain ⟨r0, q0, h0, h1, h2, h3, h4⟩ := stepF_some hs1
  rw [facS_nil] at h0
  injection h0 with h0
  injection h0 with ha hb
  rw [Int.toNat_natCast]
  constructor
  · intro h
    have : x.1.1 = m := by omega
    rw [← this]
    exact x.2.1
  · intro h
    have hp := x.2.1
    have hn := x.2.2.2.1
    obtain ⟨j, hj⟩ : ∃ j, x.1.2 = j + 1 := ⟨x.1.2 - 1, by omega⟩
    have e : r * x.1.1 ^ j * x.1.1 = m := by rw [← ha] at h3; rw [h3, hj, Nat.pow_succ, Nat.mul_assoc]
    exact congrArg (Nat.cast (R := Int)) (prime_dvd h hp.1 e)

set_option maxHeartbeats 6400000 in
theorem prime_any (v : Int) (w : World) : Calls Try.prog 11 #[.int .i64 v] w (RetPm w v) := by
  obtain ⟨hA, hB, hC, hW⟩ := boxes_pr w v false 0
  have HA := Lib.hid hA
  have HB := Lib.hid hB
  have HC := Lib.hid hC
  have HW := Lib.hid hW
  clear hA hB hC hW
  refine (callsIn_wide (n := 8)).1 ?_
  refine callsIn_of_wp_marks Try.func11 rfl trivial ?_ rfl
  simp only [Try.ntmps11, List.size_toArray, List.length_cons, List.length_nil, Nat.reduceAdd, Nat.reduceSub, Array.replicate_succ, Array.replicate_zero, List.push_toArray, List.append_toArray, List.nil_append, List.cons_append]
  by_cases h0 : v < 0
  · have g1 := decide_eq_true h0
    have hca := HA.out.cell
    gi_wp2_with fail
    obtain ⟨hA, hB, hC, hW⟩ := boxes_pr w v false 2
    exact ⟨_, results_pr rfl rfl hB hC, _, _, rfl, hW, fun _ => ⟨rfl, rfl⟩, fun h => by omega, fun h => by omega⟩
  · by_cases hL : v < 4294967296
    · have g1 := decide_eq_false h0
      have hca := HA.out.cell
      have g2 : ¬ 4294967296 ≤ v := by omega
      have g3 := decide_eq_false g2
      have H0 := Lib.hid h0
      have HL := Lib.hid hL
      clear h0 hL
      gi_wp2_with fail
      clear hca
      generalize (((w.alloc (.cells #[.int .i64 v] 3)).alloc (.cells #[.bool false] 4)).alloc (.cells #[.int .i64 0] 23)) = w1 at *
      refine ⟨trivial, (callsIn_wide.2 (factors_any v _)).mono ?_⟩
      rintro e w2 ⟨rfl, hb2, hn2⟩
      have A2 := Lib.hid (HA.out.below hb2)
      have B2 := Lib.hid (HB.out.below hb2)
      have C2 := Lib.hid (HC.out.below hb2)
      have W2 := Lib.hid (HW.out.trans (hb2.mono HW.out.size))
      have N2 := Lib.hid hn2
      have S1 := Lib.hid hn2.lt
      have S3 := Lib.hid HC.out.lt
      clear HA HB HC HW hb2 hn2
      gi_wp2_with fail
      generalize w1.heap.size = Bn at *
      refine wpIn_rangeFunc_ownF (F := Fence.wide) rfl (by decide) (gf := 34) (lb := #[.pointer (some ⟨Bn, 0, none⟩)]) rfl trivial (enters_of Try.func34 (by kernel_rfl) rfl)
        (factors1_stops v 7 Bn w2 N2.out) KeepB.trans (keepB_put S1.out) (Below.refl _ _) (fun _ => rfl)
        (fun pre W => (pre = [] ∧ OneAt W w.heap.size (.int .i64 v) ∧ (∃ z, OneAt W (w.heap.size + 1) z) ∧ (∃ z, OneAt W (w.heap.size + 1 + 1) z) ∧ OneAt W Bn (.int .i64 v)) ∧ Below w.heap.size w W)
        (fun c pre W => (c = .ret ∧ (∃ x : Fac, pre = [x] ∧ OneAt W (w.heap.size + 1) (.bool ((x.1.1 : Int) == v))) ∧ OneAt W (w.heap.size + 1 + 1) (.int .i64 0)) ∧ Below w.heap.size w W)
        (OwnFrom.and (Own.from (fun s A B row hs hg hr => ⟨hs.1, hs.2.1.own hg hr, let ⟨z, hz⟩ := hs.2.2.1; ⟨z, hz.own hg hr⟩, let ⟨z, hz⟩ := hs.2.2.2.1; ⟨z, hz.own hg hr⟩, hs.2.2.2.2.own hg hr⟩) _) (ownFrom_below (Nat.le_refl _) W2.out.size))
        (fun c => OwnFrom.and (Own.from (fun s A B row hs hg hr => ⟨hs.1, let ⟨x, hx, h⟩ := hs.2.1; ⟨x, hx, h.own hg hr⟩, hs.2.2.own hg hr⟩) _) (ownFrom_below (Nat.le_refl _) W2.out.size))
        ⟨⟨rfl, A2.out, ⟨_, B2.out⟩, ⟨_, C2.out⟩, N2.out⟩, W2.out⟩
        (fun x => { tmps := #[.int .i64 v, .pointer (some ⟨w.heap.size, 0, none⟩), .pointer (some ⟨w.heap.size + 1, 0, none⟩), .pointer (some ⟨w.heap.size + 1 + 1, 0, none⟩), .int .i64 (x.1.1 : Int), .bool false, .int .i64 v, .bool false, .bool false, .int .i64 v, .bool false, .int .i64 v, .func (.func 34) #[] #[.pointer (some ⟨Bn, 0, none⟩)], .int .i64 (x.1.1 : Int), .int .i64 (x.1.2 : Int), undef, undef, undef], defers := [] }) ?assign ?body ?done ?stop
      case assign =>
        intro l x W K hK
        dsimp only [encF]
        gi_wp2
        exact hK
      case body =>
        rintro l pre x W ⟨⟨rfl, hA, ⟨zb, hB⟩, ⟨zc, hC⟩, hN⟩, hBel⟩ _
        have hca := hA.cell
        have hcb := hB.cell
        have hcc := hC.cell
        have hfb := hB.frozen
        have hfc := hC.frozen
        gi_wp2
        have hs1 := hB.set (.bool ((x.1.1 : Int) == v))
        have hC1 := hC.grown hs1.2 (by intro e; injection e with e; omega)
        have hs2 := hC1.set (.int .i64 0)
        exact ⟨(KeepsOthers.setCell _ _ _).trans (KeepsOthers.setCell _ _ _), ⟨rfl, ⟨x, rfl, hs1.1.grown hs2.2 (by intro e; injection e with e; omega)⟩, hs2.1⟩,
          (hBel.setCell (p := ⟨w.heap.size + 1, 0, none⟩) (by simp) _).setCell (p := ⟨w.heap.size + 1 + 1, 0, none⟩) (by simp; omega) _⟩
      case done =>
        rintro D ys W hD hS ⟨⟨rfl, hA, ⟨zb, hB⟩, ⟨zc, hC⟩, hN⟩, hBel⟩ hK
        have hcb := hB.cell
        have hcc := hC.cell
        have hfb := hB.frozen
        have hfc := hC.frozen
        gi_wp2
        have hs1 := hB.set (.bool false)
        have hC1 := hC.grown hs1.2 (by intro e; injection e with e; omega)
        have hs2 := hC1.set (.int .i64 0)
        have hK' := ((KeepsOthers.setCell W ⟨w.heap.size + 1, 0, none⟩ (.bool false)).trans (KeepsOthers.setCell _ ⟨w.heap.size + 1 + 1, 0, none⟩ (.int .i64 0))).same D _ hK rfl
        have hB2 := hs1.1.grown hs2.2 (by intro e; injection e with e; omega)
        have hBel2 := (hBel.setCell (p := ⟨w.heap.size + 1, 0, none⟩) (by simp) (.bool false)).setCell (p := ⟨w.heap.size + 1 + 1, 0, none⟩) (by simp; omega) (.int .i64 0)
        have hown : ∀ r, some D = some r → ∃ o : Obj, ((W.setCell ⟨w.heap.size + 1, 0, none⟩ (.bool false)).setCell ⟨w.heap.size + 1 + 1, 0, none⟩ (.int .i64 0)).heap[r]? = some o ∧ o.isCells = false := fun r e => by cases e; exact ⟨_, hK', rfl⟩
        refine ⟨by simp, .inl ⟨_, _, rfl, run_takeDeferred hK', ?_⟩⟩
        exact ⟨_, results_pr rfl rfl (hB2.own (grownBy_putObj' _ D (.deferred none)) hown) (hs2.1.own (grownBy_putObj' _ D (.deferred none)) hown), _, _, rfl,
          hBel2.trans (belowK_b (w := w) (Nat.le_refl _) _ D _ _ (Nat.le_trans W2.out.size hD) hK' rfl rfl), fun h => absurd H0.out (by omega), fun h => absurd HL.out (by omega), fun _ _ => ⟨rfl, ⟨(fun h => by cases h), fun h => absurd h (no_fac hS H0.out HL.out)⟩⟩⟩
      case stop =>
        rintro D c pre W hD hpre ⟨⟨rfl, ⟨x, rfl, hB⟩, hC⟩, hBel⟩ hK
        gi_wp2
        have hown : ∀ r, some D = some r → ∃ o : Obj, W.heap[r]? = some o ∧ o.isCells = false := fun r e => by cases e; exact ⟨_, hK, rfl⟩
        refine ⟨by simp, .inl ⟨_, _, rfl, run_takeDeferred hK, ?_⟩⟩
        exact ⟨_, results_pr rfl rfl (hB.own (grownBy_putObj' _ D (.deferred none)) hown) (hC.own (grownBy_putObj' _ D (.deferred none)) hown), _, _, rfl,
          hBel.trans (belowK_b (w := w) (Nat.le_refl _) W D _ _ (Nat.le_trans W2.out.size hD) hK rfl rfl), fun h => absurd H0.out (by omega), fun h => absurd HL.out (by omega), fun _ _ => ⟨rfl, by rw [beq_iff_eq]; exact (first_fac hpre).2⟩⟩
    · have g1 := decide_eq_false h0
      have hca := HA.out.cell
      have g2 : 4294967296 ≤ v := by omega
      have g3 := decide_eq_true g2
      have HL := Lib.hid hL
      clear hL
      gi_wp2_with fail
      obtain ⟨hA, hB, hC, hW⟩ := boxes_pr w v false 3
      exact ⟨_, results_pr rfl rfl hB hC, _, _, rfl, hW, fun h => by omega, fun _ => ⟨rfl, rfl⟩, fun _ h => by omega⟩
end Go.Proofs.Ytfmadiepefbepaa
