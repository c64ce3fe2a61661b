/- Walk: the law ModularPrimes. -/
import Derived.Test.YtfmadiepefbepaaModO
import Derived.RegionTactic
import Derived.LoopN
import Derived.Deep.CutBlock
import Derived.BigRegion
set_option linter.unusedVariables false
set_option linter.unusedSimpArgs false
set_option maxRecDepth 100000
namespace Go.Proofs.Ytfmadiepefbepaa
open Go.RowKit Go.Shelf
attribute [local go_sem] Oper.semAt_some

theorem results_mp {tmps : Array Value} {w : World} {B : Nat} {b : Bool} (hp : tmps.getD 4 undef = .pointer (some ⟨B, 0, none⟩)) (hb : OneAt w B (.bool b)) :
    (results Try.f3 tmps).run Try.prog w = .ok (.bool b) w := by
  have h1 := hb.cell
  rw [Array.getD_eq_getD_getElem?] at hp
  simp [results, Try.f3, go_sem, hp, h1]
theorem OneAt.drewn {w : World} {B : Nat} {v : Value} (h : OneAt w B v) : OneAt w.drew B v := h
theorem box3 (w : World) (a b c : Value) (T T' T'' : TypeId) : OneAt (((w.alloc (.cells #[a] T)).alloc (.cells #[b] T')).alloc (.cells #[c] T'')) w.heap.size a ∧ OneAt (((w.alloc (.cells #[a] T)).alloc (.cells #[b] T')).alloc (.cells #[c] T'')) (w.heap.size + 1) b ∧ OneAt (((w.alloc (.cells #[a] T)).alloc (.cells #[b] T')).alloc (.cells #[c] T'')) (w.heap.size + 1 + 1) c ∧ Below w.heap.size w (((w.alloc (.cells #[a] T)).alloc (.cells #[b] T')).alloc (.cells #[c] T'')) := by
  refine ⟨((OneAt.new w _ _).alloc _).alloc _, ?_, ?_, ?_⟩
  · have h := (OneAt.new (w.alloc (.cells #[a] T)) b T').alloc (.cells #[c] T'')
    rwa [World.size_alloc] at h
  · have h := OneAt.new ((w.alloc (.cells #[a] T)).alloc (.cells #[b] T')) c T''
    rwa [World.size_alloc, World.size_alloc] at h
  · have h := (Below.refl w.heap.size w).alloc (Nat.le_refl _) (.cells #[a] T)
    replace h := h.alloc h.size (.cells #[b] T')
    exact h.alloc h.size _

theorem wp_cut_marks {P : Program} {s : Code} {K : Act → World → Prop} {Q' : Exit → Act → World → Prop} {a : Act} {w : World} (R : Nat → World → Prop)
    (rest : ∀ D w', R D w' → K { a with defers := { target := .collected D, args := #[] } :: a.defers } w')
    (first : s.wp P (Exit.then (fun a' w' => ∃ D, a' = { a with defers := { target := .collected D, args := #[] } :: a.defers } ∧ R D w') Q') a w) : s.wp P (Exit.then K Q') a w := by
  refine wp_mono first ?_
  intro e a' w' hq
  cases e with
  | normal => obtain ⟨D, rfl, h⟩ := hq; exact rest _ _ h
  | exit id => exact hq
  | goto l => exact hq
  | ret => exact hq
  | panic ch => exact hq
  | outgrown => exact hq
theorem ownFrom_mark {β : Type} {N D : Nat} {o : Obj} (h : D < N) : OwnFrom N (fun (_ : β) W => W.heap[D]? = some o) := fun s A B row hs hg hr => by
  have h1 := (Array.getElem?_eq_some_iff.1 hs).1
  refine (hg.block D h1 (fun e => ?_)).trans hs
  have := (hr D e.symm).1
  omega
theorem rest_one {v : Int} {ys : List Fac} {zl zr : Int} (hS : FacsAll v ys) (himp : ∀ (m r q : Nat), v = (m : Int) → facS m ys = some (r, q) → zl = (q : Int) ∧ zr = (r : Int)) (h2 : 2 ≤ v) (hL : v < 4294967296) : zr = 1 := by
  rcases hS with ⟨m, hm, -, -, q, hq⟩ | ⟨h, -⟩
  · exact (himp m 1 q hm hq).2
  · omega

theorem good_next {v : Int} {m p r' : Nat} {l : List Fac} (hm : v = (m : Int)) (hG : facS m l = some (r', p)) : ∀ (m' r q : Nat), v = (m' : Int) → facS m' l = some (r, q) → (p : Int) = (q : Int) ∧ (r' : Int) = (r : Int) := by
  intro m' r q hv hf
  obtain rfl : m' = m := by omega
  rw [hG] at hf
  injection hf with hf
  injection hf with ha hb
  omega
theorem bad_last {m p r q : Nat} {pre : List Fac} {x : Fac} (hp : x.1.1 = p) (hf : facS m (pre ++ [x]) = some (r, q)) : q = p := by
  rw [facS_snoc] at hf
  obtain ⟨r0, q0, e0, e1, -⟩ := stepF_some hf
  rw [e1, hp]
theorem bad_next {v zl zr : Int} {m p : Nat} {pre : List Fac} {x : Fac} (hm : v = (m : Int)) (hp : x.1.1 = p) (hg : ¬ ∃ r', facS m (pre ++ [x]) = some (r', p)) : ∀ (m' r q : Nat), v = (m' : Int) → facS m' (pre ++ [x]) = some (r, q) → zl = (q : Int) ∧ zr = (r : Int) := by
  intro m' r q hv hf
  obtain rfl : m' = m := by omega
  exact absurd ⟨r, by rw [hf, bad_last hp hf]⟩ hg
theorem not_pre {v : Int} {m p : Nat} {pre : List Fac} {x : Fac} (hm : v = (m : Int)) (hp : x.1.1 = p) (hg : ¬ ∃ r', facS m (pre ++ [x]) = some (r', p)) : ¬ FacsPre v (pre ++ [x]) := by
  rintro ⟨m', hv, -, -, -, ⟨r, q⟩, hf⟩
  obtain rfl : m' = m := by omega
  exact hg ⟨r, by rw [hf, bad_last hp hf]⟩
theorem not_pre_range {v : Int} {l : List Fac} (h : ¬ (2 ≤ v ∧ v < 4294967296)) : ¬ FacsPre v l := by
  rintro ⟨m', hv, h1, h2, -⟩
  exact h (by omega)

set_option maxHeartbeats 12800000 in
theorem mprimes_any (v many : Int) (w : World) (hv : -9223372036854775808 ≤ v ∧ v ≤ 9223372036854775807) (hm : -9223372036854775808 ≤ many ∧ many ≤ 9223372036854775807) :
    Calls Try.prog 3 #[.int .i64 v, .int .i64 many] w fun e w' => e = .returned (.bool true) ∧ Below w.heap.size w w' := by
  obtain ⟨hA, hB, hC, hW⟩ := box3 w (.int .i64 v) (.int .i64 many) (.bool false) 3 3 4
  have HA := Lib.hid hA
  have HB := Lib.hid hB
  have HC := Lib.hid hC
  have HW := Lib.hid hW
  clear hA hB hC hW
  refine (callsIn_wide (n := 8)).1 ?_
  refine callsIn_of_wp_marks Try.func3 rfl trivial ?_ rfl
  refine wpIn_wide.2 ?_
  simp only [Try.ntmps3, List.size_toArray, List.length_cons, List.length_nil, Nat.reduceAdd, Nat.reduceSub, Array.replicate_succ, Array.replicate_zero, List.push_toArray, List.append_toArray, List.nil_append, List.cons_append]
  have hca := HA.out.cell
  by_cases hg : 16777216 ≤ v ∧ v < 4294967296
  · obtain ⟨h1, h2⟩ := hg
    have g1 := decide_eq_true h1
    have g2 := decide_eq_true h2
    clear h1 h2
    go_wp2_with fail
    refine (known2_any _).mono ?_
    rintro e p1 ⟨rfl, hb⟩
    have hC1 := HC.out.below hb
    have hcc := hC1.cell
    have hfc := hC1.frozen
    have hW1 := HW.out.trans (hb.mono HW.out.size)
    clear hca g1 g2
    go_wp2_with fail
    obtain ⟨hs, hgr⟩ := hC1.set (.bool true)
    exact ⟨_, results_mp rfl hs, rfl, hW1.grown hgr hW1.size (fun j e => by injection e with e; omega)⟩
  · have HG := Lib.hid hg
    clear hg
    go_upto_region 1 with fail
    generalize ((w.alloc (.cells #[.int .i64 v] 3)).alloc (.cells #[.int .i64 many] 3)).alloc (.cells #[.bool false] 4) = w1 at *
    go_cut [20] from 15 to 20 (fun x wx => x = .bool false ∧ wx = w1)
    case first =>
      by_cases h1 : 16777216 ≤ v
      · have g1 := decide_eq_true h1
        have h2 : ¬ v < 4294967296 := fun h => HG.out ⟨h1, h⟩
        have g2 := decide_eq_false h2
        clear h1 h2
        go_wp2_with fail
        go_meet
        case rel => exact ⟨rfl, rfl⟩
      · have g1 := decide_eq_false h1
        clear h1
        go_wp2_with fail
        go_meet
        case rel => exact ⟨rfl, rfl⟩
    case rest =>
      obtain ⟨rfl, rfl⟩ := hcut
      go_wp2_with fail
      refine (prime_any v _).mono ?_
      rintro e p1 ⟨b, c, rfl, hb, hx1, hx2, hx3⟩
      have A1 := Lib.hid (HA.out.below hb)
      have B1 := Lib.hid (HB.out.below hb)
      have C1 := Lib.hid (HC.out.below hb)
      have W1 := Lib.hid (HW.out.trans (hb.mono HW.out.size))
      have X1 := Lib.hid hx1
      have X2 := Lib.hid hx2
      have X3 := Lib.hid hx3
      have hca := A1.out.cell
      clear hb hx1 hx2 hx3 HA HB HC HW
      go_wp2_with fail
      refine (factors_any v _).mono ?_
      rintro e p2 ⟨rfl, hb, hn⟩
      have A2 := Lib.hid (A1.out.below hb)
      have B2 := Lib.hid (B1.out.below hb)
      have C2 := Lib.hid (C1.out.below hb)
      have W2 := Lib.hid (W1.out.trans (hb.mono W1.out.size))
      have N2 := Lib.hid hn
      have L2 : Hid (w.heap.size + 1 + 1 < p1.heap.size) := Lib.hid C1.out.lt
      clear hca
      have hca := A2.out.cell
      clear hb hn A1 B1 C1 W1
      go_upto_block 0 with (rw [run_eqF])
      have T3 := Lib.hid (OneAt.new p2 (.int .i64 0) 3)
      have A3 := Lib.hid (A2.out.alloc (.cells #[.int .i64 0] 3))
      have B3 := Lib.hid (B2.out.alloc (.cells #[.int .i64 0] 3))
      have C3 := Lib.hid (C2.out.alloc (.cells #[.int .i64 0] 3))
      have N3 := Lib.hid (N2.out.alloc (.cells #[.int .i64 0] 3))
      have W3 := Lib.hid (W2.out.alloc W2.out.size (.cells #[.int .i64 0] 3))
      have L3 : Hid (p1.heap.size < p2.heap.size) := Lib.hid N2.out.lt
      clear A2 B2 C2 N2 W2 hca
      have hca := A3.out.cell
      have hct := T3.out.cell
      generalize p2.alloc (.cells #[.int .i64 0] 3) = w3 at *
      generalize p1.heap.size = Bn at *
      generalize p2.heap.size = Bt at *
      refine wp_block ?_
      refine wp_loop_rounds 3 ?_
      rw [rounds_succ]
      go_upto_region 10 with fail
      go_cut [9, 10, 11] from 35 to 35 (fun x y z wx => ∃ B9 B10 B11, x = .pointer (some ⟨B9, 0, none⟩) ∧ y = .pointer (some ⟨B10, 0, none⟩) ∧ z = .pointer (some ⟨B11, 0, none⟩) ∧ B9 ≠ B10 ∧ B9 ≠ B11 ∧ B10 ≠ B11 ∧ w3.heap.size ≤ B9 ∧ w3.heap.size ≤ B10 ∧ w3.heap.size ≤ B11 ∧ OneAt wx B9 (.int .i64 0) ∧ OneAt wx B10 (.int .i64 1) ∧ OneAt wx B11 (.int .i64 v) ∧ Below w3.heap.size w3 wx)
      case first =>
        have hall1 : ∀ o1 : Obj, (w3.alloc o1).cell? ⟨w.heap.size, 0, none⟩ = some (.int .i64 v) := fun o1 => (A3.out.alloc o1).cell
        have hall2 : ∀ o1 o2 : Obj, ((w3.alloc o1).alloc o2).cell? ⟨w.heap.size, 0, none⟩ = some (.int .i64 v) := fun o1 o2 => ((A3.out.alloc o1).alloc o2).cell
        have hall3 : ∀ o1 o2 o3 : Obj, (((w3.alloc o1).alloc o2).alloc o3).cell? ⟨w.heap.size, 0, none⟩ = some (.int .i64 v) := fun o1 o2 o3 => (((A3.out.alloc o1).alloc o2).alloc o3).cell
        go_region
        all_goals (dsimp only [Exit.then]; go_step; go_meet)
        all_goals (refine ⟨_, _, _, rfl, rfl, rfl, by omega, by omega, by omega, by omega, by omega, by omega, ?_, ?_, ?_, ?_⟩ <;> first | exact OneAt.drewn (box3 w3 _ _ _ _ _ _).1 | exact OneAt.drewn (box3 w3 _ _ _ _ _ _).2.1 | exact OneAt.drewn (box3 w3 _ _ _ _ _ _).2.2.1 | exact (box3 w3 _ _ _ _ _ _).2.2.2.drew)
      case rest =>
        obtain ⟨B9, B10, B11, rfl, rfl, rfl, n1, n2, n3, m1, m2, m3, h9, h10, h11, hbx⟩ := hcut
        have A3_t0 := Lib.hid (A3.out.below hbx)
        have LT_A3_t0 := Lib.hid A3.out.lt
        have B3_t0 := Lib.hid (B3.out.below hbx)
        have LT_B3_t0 := Lib.hid B3.out.lt
        have C3_t0 := Lib.hid (C3.out.below hbx)
        have LT_C3_t0 := Lib.hid C3.out.lt
        have T3_t0 := Lib.hid (T3.out.below hbx)
        have LT_T3_t0 := Lib.hid T3.out.lt
        have N3_t0 := Lib.hid (N3.out.below hbx)
        have LT_N3_t0 := Lib.hid N3.out.lt
        have W3_t0 := Lib.hid (W3.out.trans (hbx.mono W3.out.size))
        have K9 := Lib.hid h9
        have K10 := Lib.hid h10
        have K11 := Lib.hid h11
        have Q1 := Lib.hid n1
        have Q2 := Lib.hid n2
        have Q3 := Lib.hid n3
        have M1 : Hid (w.heap.size + 1 + 1 < B9 ∧ Bt < B9 ∧ Bn < B9) := Lib.hid ⟨by have := LT_C3_t0.out; omega, by have := LT_T3_t0.out; omega, by have := LT_N3_t0.out; omega⟩
        have M2 : Hid (w.heap.size + 1 + 1 < B10 ∧ Bt < B10 ∧ Bn < B10) := Lib.hid ⟨by have := LT_C3_t0.out; omega, by have := LT_T3_t0.out; omega, by have := LT_N3_t0.out; omega⟩
        have M3 : Hid (w.heap.size + 1 + 1 < B11 ∧ Bt < B11 ∧ Bn < B11) := Lib.hid ⟨by have := LT_C3_t0.out; omega, by have := LT_T3_t0.out; omega, by have := LT_N3_t0.out; omega⟩
        have S9 := Lib.hid h9.lt
        have S10 := Lib.hid h10.lt
        have S11 := Lib.hid h11.lt
        have SN : Hid (Bn < wc.heap.size) := Lib.hid N3_t0.out.lt
        have ST : Hid (Bt < wc.heap.size) := Lib.hid T3_t0.out.lt
        clear n1 n2 n3 m1 m2 m3 h9 h10 h11 hbx hca hct A3 B3 C3 T3 N3 W3 LT_A3_t0 LT_B3_t0 LT_C3_t0 LT_T3_t0 LT_N3_t0
        generalize wc = x0 at *
        go_upto_block 2 with fail
        refine wp_cut_marks (fun D w' => x0.heap.size ≤ D ∧ w'.heap[D]? = some (.deferred (some [])) ∧ (OneAt w' (w.heap.size) (.int .i64 v) ∧ OneAt w' (w.heap.size + 1) (.int .i64 many) ∧ OneAt w' (w.heap.size + 1 + 1) (.bool false) ∧ OneAt w' Bt (.int .i64 0) ∧ OneAt w' Bn (.int .i64 v)) ∧ Below w.heap.size w w') ?rest ?first
        case first =>
          refine (wpIn_wide (n := 8)).1 ?_
          refine wpIn_block ?_
          refine wpIn_rangeFunc_own2 (F := Fence.wide) (q := 37) (q' := 38) (k := 12) (k' := 13) (e := fun x : Fac => .int .i64 (x.1.1 : Int)) (e' := fun x : Fac => .int .i64 (x.1.2 : Int)) rfl (by decide) (gf := 34) (lb := #[.pointer (some ⟨Bn, 0, none⟩)]) rfl trivial (enters_of Try.func34 (by kernel_rfl) rfl)
            (factors1_stops v 7 Bn x0 N3_t0.out) KeepB.trans (keepB_put SN.out) (Below.refl _ _)
            (fun pre W => ((∃ zk : Int, OneAt W B9 (.int .i64 zk)) ∧ (∃ zl zr : Int, OneAt W B10 (.int .i64 zl) ∧ OneAt W B11 (.int .i64 zr) ∧ ∀ (m r q : Nat), v = (m : Int) → facS m pre = some (r, q) → zl = (q : Int) ∧ zr = (r : Int)) ∧ (OneAt W (w.heap.size) (.int .i64 v) ∧ OneAt W (w.heap.size + 1) (.int .i64 many) ∧ OneAt W (w.heap.size + 1 + 1) (.bool false) ∧ OneAt W Bt (.int .i64 0) ∧ OneAt W Bn (.int .i64 v))) ∧ Below w.heap.size w W)
            (fun c pre W => ((c = .ret ∧ ¬ FacsPre v pre) ∨ (c = .exit 2 ∧ (OneAt W (w.heap.size) (.int .i64 v) ∧ OneAt W (w.heap.size + 1) (.int .i64 many) ∧ OneAt W (w.heap.size + 1 + 1) (.bool false) ∧ OneAt W Bt (.int .i64 0) ∧ OneAt W Bn (.int .i64 v)))) ∧ Below w.heap.size w W)
            (OwnFrom.and (Own.from (fun st A B row hs0 hg hr => by
              obtain ⟨⟨zk, hk⟩, ⟨zl, zr, hl, hz, himp⟩, hs⟩ := hs0
              exact ⟨⟨zk, hk.own hg hr⟩, ⟨zl, zr, hl.own hg hr, hz.own hg hr, himp⟩, ⟨hs.1.own hg hr, hs.2.1.own hg hr, hs.2.2.1.own hg hr, hs.2.2.2.1.own hg hr, hs.2.2.2.2.own hg hr⟩⟩) _) (ownFrom_below (Nat.le_refl _) W3_t0.out.size))
            (fun c => OwnFrom.and (Own.from (fun st A B row hs0 hg hr => by
              rcases hs0 with h | ⟨h, hs⟩
              · exact .inl h
              · exact .inr ⟨h, ⟨hs.1.own hg hr, hs.2.1.own hg hr, hs.2.2.1.own hg hr, hs.2.2.2.1.own hg hr, hs.2.2.2.2.own hg hr⟩⟩) _) (ownFrom_below (Nat.le_refl _) W3_t0.out.size))
            ⟨⟨⟨0, K9.out⟩, ⟨1, v, K10.out, K11.out, fun m r q hv hf => by rw [facS_nil] at hf; injection hf with hf; injection hf with ha hb; omega⟩, A3_t0.out, B3_t0.out, C3_t0.out, T3_t0.out, N3_t0.out⟩, W3_t0.out⟩ ?assign ?body ?done ?stop
          case assign =>
            intro l x W K hK
            simp only [List.setIfInBounds_toArray, List.set_cons_zero, List.set_cons_succ] at hK ⊢
            gi_wp2
            exact hK
          case body =>
            rintro l pre x W ⟨⟨⟨zk, hk⟩, ⟨zl, zr, hl, hz, himp⟩, hA, hB, hC, hT, hN⟩, hBel⟩ _
            simp only [List.setIfInBounds_toArray, List.set_cons_zero, List.set_cons_succ]
            have YK := Lib.hid hk
            have YL := Lib.hid hl
            have YZ := Lib.hid hz
            have YA := Lib.hid hA
            have YB := Lib.hid hB
            have YC := Lib.hid hC
            have YT := Lib.hid hT
            have YN := Lib.hid hN
            have YW := Lib.hid hBel
            have YI := Lib.hid himp
            have ca := hA.cell
            have cb := hB.cell
            have cc := hC.cell
            have fc := hC.frozen
            have ct := hT.cell
            have ck := hk.cell
            have fk := hk.frozen
            have cl := hl.cell
            have fl := hl.frozen
            have cz := hz.cell
            have fz := hz.frozen
            clear hk hl hz himp hA hB hC hT hN hBel 
            by_cases hin : 2 ≤ v ∧ v < 4294967296
            · skip
              obtain ⟨m, hm⟩ := Int.eq_ofNat_of_zero_le (show 0 ≤ v by omega)
              have HVL : Hid (2 ≤ v ∧ v < 4294967296) := Lib.hid hin
              have HM := Lib.hid hm
              have hv1 : ¬ v < 2 := by omega
              have hv2 : ¬ 4294967296 ≤ v := by omega
              have dv1 := decide_eq_false hv1
              have dv2 := decide_eq_false hv2
              clear hin hm hv1 hv2
              obtain ⟨p, hp⟩ : ∃ p, x.1.1 = p := ⟨_, rfl⟩
              obtain ⟨n, hn⟩ : ∃ n, x.1.2 = n := ⟨_, rfl⟩
              have XP : Hid (IsP p) := Lib.hid (by rw [← hp]; exact x.2.1)
              have XL : Hid (p < 4294967296) := Lib.hid (by rw [← hp]; exact x.2.2.1)
              have XN1 : Hid (1 ≤ n) := Lib.hid (by rw [← hn]; exact x.2.2.2.1)
              have XN2 : Hid (n ≤ 64) := Lib.hid (by rw [← hn]; exact x.2.2.2.2)
              have hp2 : (2 : Int) ≤ (p : Int) := by have := XP.out.1; omega
              have hn1 : ¬ (n : Int) < 1 := by have := XN1.out; omega
              have dn1 := decide_eq_false hn1
              have hn64 : (n : Int) ≤ 64 := by have := XN2.out; omega
              have HP := Lib.hid hp
              have HN := Lib.hid hn
              rw [hp, hn]
              clear hn1 hp hn
              by_cases hg : ∃ r', facS m (pre ++ [x]) = some (r', p)
              · skip
                obtain ⟨r', hr'⟩ := hg
                have HG := Lib.hid hr'
                rw [facS_snoc] at hr'
                obtain ⟨r0, q0, e0, e1, e2, e3, e4⟩ := stepF_some hr'
                obtain ⟨z1, z2⟩ := YI.out m r0 q0 HM.out e0
                have hr0 := (facS_len (by have := HM.out; have := HVL.out; omega) (by have := HM.out; have := HVL.out; omega) e0).2.2
                rw [HP.out] at e2 e3 e4
                rw [HN.out] at e3
                have E5 : Hid (r' * p ^ n ≤ 4294967295) := Lib.hid (by rw [← e3]; have := HM.out; have := HVL.out; omega)
                have E2 := Lib.hid e2
                have E3 := Lib.hid e3
                have E4 := Lib.hid e4
                rw [z1] at cl
                rw [z2, e3] at cz
                rw [z1] at YL
                rw [z2, e3] at YZ
                have hle : ¬ (p : Int) ≤ (q0 : Int) := by omega
                have dle := decide_eq_false hle
                have dle2 : decide (p ≤ q0) = false := decide_eq_false (by omega)
                clear hr' e0 e1 e2 e3 e4 z1 z2 hle hr0
                repeat (first | go_values | gi_guarded | gi_step | gi_upon | gi_back)
                refine ⟨trivial, (CallsIn.inRound l (callsIn_wide.2 (rprime_ok p W XL.out))).mono ?_⟩
                rintro e W2 ⟨bb, rfl, hbb, rfl⟩
                have hbt : bb = true := hbb.2 XP.out
                rw [hbt]
                clear hbb hbt
                try dsimp only
                repeat (first | go_values | gi_guarded | gi_step | gi_upon | gi_back)
                gi_loopw [14] (fun i wr => ∃ j : Nat, j ≤ n ∧ i = .int .i64 (j : Int) ∧ OneAt wr B11 (.int .i64 ((r' * p ^ (n - j) : Nat) : Int)) ∧ W.grownBy wr (some B11) ∧ KeepsOthers W wr) (fun i _ => n - (intOf i).toNat)
                case atStart => exact ⟨0, Nat.zero_le _, rfl, by rw [Nat.sub_zero]; exact YZ.out, World.grownBy.refl _ _, KeepsOthers.refl _⟩
                case round =>
                  obtain ⟨j, hj, rfl, hz, hgw, hko⟩ := hrel
                  have VZ := Lib.hid hz
                  have HGW := Lib.hid hgw
                  have KOW := Lib.hid hko
                  have HJ := Lib.hid hj
                  clear hz hgw hko ck fk cl fl cz fz ct cb ca cc fc
                  have hj64 : (j : Int) ≤ 64 := by have := XN2.out; omega
                  by_cases hlt : j < n
                  · have dj := decide_eq_true hlt
                    have dj2 : decide ((j : Int) < (n : Int)) = true := decide_eq_true (by omega)
                    have HLT := Lib.hid hlt
                    obtain ⟨zn, hzn⟩ : ∃ z, r' * p ^ (n - j) = z := ⟨_, rfl⟩
                    obtain ⟨zm, hzm⟩ : ∃ z, r' * p ^ (n - (j + 1)) = z := ⟨_, rfl⟩
                    have hstep : zm * p = zn := by rw [← hzm, ← hzn, show n - j = n - (j + 1) + 1 by omega, Nat.pow_succ, Nat.mul_assoc]
                    rw [hzn] at VZ
                    have ht : (zn : Int).tmod (p : Int) = 0 := by rw [← hstep, Int.natCast_mul]; exact Int.mul_tmod_left _ _
                    have ht2 : (zn : Int) % (p : Int) = 0 := by rw [← hstep, Int.natCast_mul]; exact Int.mul_emod_left _ _
                    have hd : (zn : Int).tdiv (p : Int) = (zm : Int) := by rw [← hstep, Int.natCast_mul]; exact Int.mul_tdiv_cancel _ (by omega)
                    have hd2 : (zn : Int) / (p : Int) = (zm : Int) := by rw [← hstep, Int.natCast_mul]; exact Int.mul_ediv_cancel _ (by omega)
                    have hzb : zm ≤ 4294967295 := by rw [← hzm]; exact Nat.le_trans (Nat.mul_le_mul_left _ (Nat.pow_le_pow_right (by have := XP.out.1; omega) (by omega))) E5.out
                    have hzw : IntKind.i64.wrap (zm : Int) = (zm : Int) := by rw [IntKind.wrap_i64]; omega
                    clear hzb
                    have cz := VZ.out.cell
                    have fz := VZ.out.frozen
                    have HZM := Lib.hid hzm
                    have hs := fun u : Value => VZ.out.set u
                    clear hlt hj hzn hzm hstep
                    repeat (first | go_values | gi_guarded | gi_step | gi_upon | gi_back)
                    go_roundw
                    case rel => exact ⟨j + 1, HLT.out, by go_num, by rw [HZM.out]; exact (hs _).1, grown_trans HGW.out (hs _).2, KOW.out.trans (KeepsOthers.setCell _ _ _)⟩
                    case measure => simp [intOf]; have := HLT.out; omega
                  · obtain rfl : j = n := by omega
                    have dj : decide (j < j) = false := decide_eq_false (by omega)
                    rw [Nat.sub_self, Nat.pow_zero, Nat.mul_one] at VZ
                    have VK := Lib.hid (YK.out.grown HGW.out (fun e => by injection e with e; have := Q2.out; omega))
                    have VL := Lib.hid (YL.out.grown HGW.out (fun e => by injection e with e; have := Q3.out; omega))
                    have VA := Lib.hid (YA.out.grown HGW.out (fun e => by injection e with e; have := M3.out; omega))
                    have VB := Lib.hid (YB.out.grown HGW.out (fun e => by injection e with e; have := M3.out; omega))
                    have VC := Lib.hid (YC.out.grown HGW.out (fun e => by injection e with e; have := M3.out; omega))
                    have VT := Lib.hid (YT.out.grown HGW.out (fun e => by injection e with e; have := M3.out; omega))
                    have VN := Lib.hid (YN.out.grown HGW.out (fun e => by injection e with e; have := M3.out; omega))
                    have VW := Lib.hid (YW.out.grown HGW.out YW.out.size (fun j e => by injection e with e; have := M3.out; omega))
                    have VKB := Lib.hid (KeepB.grown HGW.out YN.out.lt (fun e => by injection e with e; have := M3.out; omega))
                    obtain ⟨mm, hmm⟩ : ∃ mm, r' % p = mm := ⟨_, rfl⟩
                    have hm0 : mm ≠ 0 := by rw [← hmm]; exact E4.out
                    have ht : (r' : Int).tmod (p : Int) = (mm : Int) := by rw [Int.tmod_eq_emod_of_nonneg (by omega), ← hmm]; exact (Int.natCast_emod _ _).symm
                    have ht2 : (r' : Int) % (p : Int) = (mm : Int) := by rw [← hmm]; exact (Int.natCast_emod _ _).symm
                    have dm : ((mm : Int) == 0) = false := by rw [beq_eq_false_iff_ne]; omega
                    have dm2 : (mm == 0) = false := by rw [beq_eq_false_iff_ne]; exact hm0
                    have dm3 : ¬ (mm : Int) = 0 := by omega
                    clear hmm
                    have ck := VK.out.cell
                    have fk := VK.out.frozen
                    have cl := VL.out.cell
                    have fl := VL.out.frozen
                    have cz := VZ.out.cell
                    have ct := VT.out.cell
                    have cb := VB.out.cell
                    have s10 := VL.out.set (.int .i64 (p : Int))
                    have k9 := VK.out.grown s10.2 (fun e => by injection e with e; exact Q1.out e)
                    have s9 := fun u : Value => k9.set u
                    have hkr : ∀ u : Value, ((wr.setCell ⟨B10, 0, none⟩ (.int .i64 (p : Int))).setCell ⟨B9, 0, none⟩ u).cell? ⟨B9, 0, none⟩ = some u := fun u => (s9 u).1.cell
                    have hk1 : (wr.setCell ⟨B10, 0, none⟩ (.int .i64 (p : Int))).cell? ⟨B9, 0, none⟩ = some (.int .i64 zk) := k9.cell
                    have hk2 : (wr.setCell ⟨B10, 0, none⟩ (.int .i64 (p : Int))).frozen? ⟨B9, 0, none⟩ = false := k9.frozen
                    have ht1 : ∀ u : Value, ((wr.setCell ⟨B10, 0, none⟩ (.int .i64 (p : Int))).setCell ⟨B9, 0, none⟩ u).cell? ⟨Bt, 0, none⟩ = some (.int .i64 0) := fun u => ((VT.out.grown s10.2 (fun e => by injection e with e; have := M2.out; omega)).grown (s9 u).2 (fun e => by injection e with e; have := M1.out; omega)).cell
                    have hb1 : ∀ u : Value, ((wr.setCell ⟨B10, 0, none⟩ (.int .i64 (p : Int))).setCell ⟨B9, 0, none⟩ u).cell? ⟨w.heap.size + 1, 0, none⟩ = some (.int .i64 many) := fun u => ((VB.out.grown s10.2 (fun e => by injection e with e; have := M2.out; omega)).grown (s9 u).2 (fun e => by injection e with e; have := M1.out; omega)).cell
                    obtain ⟨zk2, hzk2⟩ : ∃ z, IntKind.i64.wrap (zk + 1) = z := ⟨_, rfl⟩
                    by_cases hbr : many ≤ zk2
                    · have dbr := decide_eq_true hbr
                      repeat (first | go_values | gi_guarded | gi_step | gi_upon | gi_back)
                      exact ⟨((KOW.out.trans (KeepsOthers.setCell _ _ _)).trans (KeepsOthers.setCell _ _ _)), .inr ⟨rfl, ⟨((VA.out.grown s10.2 (fun e => by injection e with e; have := M2.out; omega)).grown (s9 _).2 (fun e => by injection e with e; have := M1.out; omega)), ((VB.out.grown s10.2 (fun e => by injection e with e; have := M2.out; omega)).grown (s9 _).2 (fun e => by injection e with e; have := M1.out; omega)), ((VC.out.grown s10.2 (fun e => by injection e with e; have := M2.out; omega)).grown (s9 _).2 (fun e => by injection e with e; have := M1.out; omega)), ((VT.out.grown s10.2 (fun e => by injection e with e; have := M2.out; omega)).grown (s9 _).2 (fun e => by injection e with e; have := M1.out; omega)), ((VN.out.grown s10.2 (fun e => by injection e with e; have := M2.out; omega)).grown (s9 _).2 (fun e => by injection e with e; have := M1.out; omega))⟩⟩, ((VW.out.grown s10.2 VW.out.size (fun j e => by injection e with e; have := M2.out; omega)).grown (s9 _).2 (VW.out.grown s10.2 VW.out.size (fun j e => by injection e with e; have := M2.out; omega)).size (fun j e => by injection e with e; have := M1.out; omega))⟩
                    · have dbr := decide_eq_false hbr
                      repeat (first | go_values | gi_guarded | gi_step | gi_upon | gi_back)
                      exact ⟨((KOW.out.trans (KeepsOthers.setCell _ _ _)).trans (KeepsOthers.setCell _ _ _)), ((VKB.out.trans (KeepB.grown s10.2 VN.out.lt (fun e => by injection e with e; have := M2.out; omega))).trans (KeepB.grown (s9 _).2 (VN.out.grown s10.2 (fun e => by injection e with e; have := M2.out; omega)).lt (fun e => by injection e with e; have := M1.out; omega))), ⟨⟨_, (s9 _).1⟩, ⟨(p : Int), (r' : Int), s10.1.grown (s9 _).2 (fun e => by injection e with e; exact Q1.out e.symm), ((VZ.out.grown s10.2 (fun e => by injection e with e; exact Q3.out e.symm)).grown (s9 _).2 (fun e => by injection e with e; exact Q2.out e.symm)), good_next HM.out HG.out⟩, ⟨((VA.out.grown s10.2 (fun e => by injection e with e; have := M2.out; omega)).grown (s9 _).2 (fun e => by injection e with e; have := M1.out; omega)), ((VB.out.grown s10.2 (fun e => by injection e with e; have := M2.out; omega)).grown (s9 _).2 (fun e => by injection e with e; have := M1.out; omega)), ((VC.out.grown s10.2 (fun e => by injection e with e; have := M2.out; omega)).grown (s9 _).2 (fun e => by injection e with e; have := M1.out; omega)), ((VT.out.grown s10.2 (fun e => by injection e with e; have := M2.out; omega)).grown (s9 _).2 (fun e => by injection e with e; have := M1.out; omega)), ((VN.out.grown s10.2 (fun e => by injection e with e; have := M2.out; omega)).grown (s9 _).2 (fun e => by injection e with e; have := M1.out; omega))⟩⟩, ((VW.out.grown s10.2 VW.out.size (fun j e => by injection e with e; have := M2.out; omega)).grown (s9 _).2 (VW.out.grown s10.2 VW.out.size (fun j e => by injection e with e; have := M2.out; omega)).size (fun j e => by injection e with e; have := M1.out; omega))⟩
              · skip
                have NO := Lib.hid (not_pre HM.out HP.out hg)
                have BN : Hid (∀ zl zr : Int, ∀ (m' r q : Nat), v = (m' : Int) → facS m' (pre ++ [x]) = some (r, q) → zl = (q : Int) ∧ zr = (r : Int)) := Lib.hid (fun zl zr => bad_next HM.out HP.out hg)
                clear hg
                by_cases hle : (p : Int) ≤ zl
                · have dle := decide_eq_true hle
                  repeat (first | go_values | gi_guarded | gi_step | gi_upon | gi_back)
                  refine ⟨trivial, ?_⟩
                  repeat (first | go_values | gi_guarded | gi_step | gi_upon | gi_back)
                  exact ⟨(KeepsOthers.setCell _ _ _), .inl ⟨rfl, NO.out⟩, (YW.out.setCell (p := ⟨w.heap.size + 1 + 1, 0, none⟩) (by simp; omega) _)⟩
                · have dle := decide_eq_false hle
                  clear hle
                  repeat (first | go_values | gi_guarded | gi_step | gi_upon | gi_back)
                  refine ⟨trivial, (CallsIn.inRound l (callsIn_wide.2 (rprime_ok p W XL.out))).mono ?_⟩
                  rintro e W2 ⟨bb, rfl, hbb, rfl⟩
                  have hbt : bb = true := hbb.2 XP.out
                  rw [hbt]
                  clear hbb hbt
                  try dsimp only
                  repeat (first | go_values | gi_guarded | gi_step | gi_upon | gi_back)
                  gi_loopw [14] (fun i wr => ∃ (j : Nat) (z : Int), j ≤ n ∧ i = .int .i64 (j : Int) ∧ OneAt wr B11 (.int .i64 z) ∧ W.grownBy wr (some B11) ∧ KeepsOthers W wr) (fun i _ => n - (intOf i).toNat)
                  case atStart => exact ⟨0, zr, Nat.zero_le _, rfl, YZ.out, World.grownBy.refl _ _, KeepsOthers.refl _⟩
                  case round =>
                    obtain ⟨j, z, hj, rfl, hz, hgw, hko⟩ := hrel
                    have VZ := Lib.hid hz
                    have HGW := Lib.hid hgw
                    have KOW := Lib.hid hko
                    have HJ := Lib.hid hj
                    clear hz hgw hko ck fk cl fl cz fz ct cb ca cc fc
                    have hj64 : (j : Int) ≤ 64 := by have := XN2.out; omega
                    have VK := Lib.hid (YK.out.grown HGW.out (fun e => by injection e with e; have := Q2.out; omega))
                    have VL := Lib.hid (YL.out.grown HGW.out (fun e => by injection e with e; have := Q3.out; omega))
                    have VA := Lib.hid (YA.out.grown HGW.out (fun e => by injection e with e; have := M3.out; omega))
                    have VB := Lib.hid (YB.out.grown HGW.out (fun e => by injection e with e; have := M3.out; omega))
                    have VC := Lib.hid (YC.out.grown HGW.out (fun e => by injection e with e; have := M3.out; omega))
                    have VT := Lib.hid (YT.out.grown HGW.out (fun e => by injection e with e; have := M3.out; omega))
                    have VN := Lib.hid (YN.out.grown HGW.out (fun e => by injection e with e; have := M3.out; omega))
                    have VW := Lib.hid (YW.out.grown HGW.out YW.out.size (fun j e => by injection e with e; have := M3.out; omega))
                    have VKB := Lib.hid (KeepB.grown HGW.out YN.out.lt (fun e => by injection e with e; have := M3.out; omega))
                    obtain ⟨mm, hmm⟩ : ∃ mm, z.tmod (p : Int) = mm := ⟨_, rfl⟩
                    have ht := hmm
                    clear hmm
                    have cz := VZ.out.cell
                    have fz := VZ.out.frozen
                    have cc := VC.out.cell
                    have fc := VC.out.frozen
                    have hs := fun u : Value => VZ.out.set u
                    by_cases hlt : j < n
                    · have dj := decide_eq_true hlt
                      have dj2 : decide ((j : Int) < (n : Int)) = true := decide_eq_true (by omega)
                      have HLT := Lib.hid hlt
                      clear hlt hj
                      by_cases hm0 : mm = 0
                      · have dm : (mm == 0) = true := by rw [hm0]; rfl
                        subst hm0
                        repeat (first | go_values | gi_guarded | gi_step | gi_upon | gi_back)
                        go_roundw
                        case rel => exact ⟨j + 1, _, HLT.out, by go_num, (hs _).1, grown_trans HGW.out (hs _).2, KOW.out.trans (KeepsOthers.setCell _ _ _)⟩
                        case measure => simp [intOf]; have := HLT.out; omega
                      · have dm : (mm == 0) = false := beq_eq_false_iff_ne.2 hm0
                        repeat (first | go_values | gi_guarded | gi_step | gi_upon | gi_back)
                        exact ⟨(KOW.out.trans (KeepsOthers.setCell _ _ _)), .inl ⟨rfl, NO.out⟩, (VW.out.setCell (p := ⟨w.heap.size + 1 + 1, 0, none⟩) (by simp; omega) _)⟩
                    · obtain rfl : j = n := by omega
                      have dj : decide (j < j) = false := decide_eq_false (by omega)
                      by_cases hm0 : mm = 0
                      · have dm : (mm == 0) = true := by rw [hm0]; rfl
                        subst hm0
                        repeat (first | go_values | gi_guarded | gi_step | gi_upon | gi_back)
                        exact ⟨(KOW.out.trans (KeepsOthers.setCell _ _ _)), .inl ⟨rfl, NO.out⟩, (VW.out.setCell (p := ⟨w.heap.size + 1 + 1, 0, none⟩) (by simp; omega) _)⟩
                      · have dm : (mm == 0) = false := beq_eq_false_iff_ne.2 hm0
                        clear cc fc
                        have ck := VK.out.cell
                        have fk := VK.out.frozen
                        have cl := VL.out.cell
                        have fl := VL.out.frozen
                        have cz := VZ.out.cell
                        have ct := VT.out.cell
                        have cb := VB.out.cell
                        have s10 := VL.out.set (.int .i64 (p : Int))
                        have k9 := VK.out.grown s10.2 (fun e => by injection e with e; exact Q1.out e)
                        have s9 := fun u : Value => k9.set u
                        have hkr : ∀ u : Value, ((wr.setCell ⟨B10, 0, none⟩ (.int .i64 (p : Int))).setCell ⟨B9, 0, none⟩ u).cell? ⟨B9, 0, none⟩ = some u := fun u => (s9 u).1.cell
                        have hk1 : (wr.setCell ⟨B10, 0, none⟩ (.int .i64 (p : Int))).cell? ⟨B9, 0, none⟩ = some (.int .i64 zk) := k9.cell
                        have hk2 : (wr.setCell ⟨B10, 0, none⟩ (.int .i64 (p : Int))).frozen? ⟨B9, 0, none⟩ = false := k9.frozen
                        have ht1 : ∀ u : Value, ((wr.setCell ⟨B10, 0, none⟩ (.int .i64 (p : Int))).setCell ⟨B9, 0, none⟩ u).cell? ⟨Bt, 0, none⟩ = some (.int .i64 0) := fun u => ((VT.out.grown s10.2 (fun e => by injection e with e; have := M2.out; omega)).grown (s9 u).2 (fun e => by injection e with e; have := M1.out; omega)).cell
                        have hb1 : ∀ u : Value, ((wr.setCell ⟨B10, 0, none⟩ (.int .i64 (p : Int))).setCell ⟨B9, 0, none⟩ u).cell? ⟨w.heap.size + 1, 0, none⟩ = some (.int .i64 many) := fun u => ((VB.out.grown s10.2 (fun e => by injection e with e; have := M2.out; omega)).grown (s9 u).2 (fun e => by injection e with e; have := M1.out; omega)).cell
                        obtain ⟨zk2, hzk2⟩ : ∃ z, IntKind.i64.wrap (zk + 1) = z := ⟨_, rfl⟩
                        by_cases hbr : many ≤ zk2
                        · have dbr := decide_eq_true hbr
                          repeat (first | go_values | gi_guarded | gi_step | gi_upon | gi_back)
                          exact ⟨((KOW.out.trans (KeepsOthers.setCell _ _ _)).trans (KeepsOthers.setCell _ _ _)), .inr ⟨rfl, ⟨((VA.out.grown s10.2 (fun e => by injection e with e; have := M2.out; omega)).grown (s9 _).2 (fun e => by injection e with e; have := M1.out; omega)), ((VB.out.grown s10.2 (fun e => by injection e with e; have := M2.out; omega)).grown (s9 _).2 (fun e => by injection e with e; have := M1.out; omega)), ((VC.out.grown s10.2 (fun e => by injection e with e; have := M2.out; omega)).grown (s9 _).2 (fun e => by injection e with e; have := M1.out; omega)), ((VT.out.grown s10.2 (fun e => by injection e with e; have := M2.out; omega)).grown (s9 _).2 (fun e => by injection e with e; have := M1.out; omega)), ((VN.out.grown s10.2 (fun e => by injection e with e; have := M2.out; omega)).grown (s9 _).2 (fun e => by injection e with e; have := M1.out; omega))⟩⟩, ((VW.out.grown s10.2 VW.out.size (fun j e => by injection e with e; have := M2.out; omega)).grown (s9 _).2 (VW.out.grown s10.2 VW.out.size (fun j e => by injection e with e; have := M2.out; omega)).size (fun j e => by injection e with e; have := M1.out; omega))⟩
                        · have dbr := decide_eq_false hbr
                          repeat (first | go_values | gi_guarded | gi_step | gi_upon | gi_back)
                          exact ⟨((KOW.out.trans (KeepsOthers.setCell _ _ _)).trans (KeepsOthers.setCell _ _ _)), ((VKB.out.trans (KeepB.grown s10.2 VN.out.lt (fun e => by injection e with e; have := M2.out; omega))).trans (KeepB.grown (s9 _).2 (VN.out.grown s10.2 (fun e => by injection e with e; have := M2.out; omega)).lt (fun e => by injection e with e; have := M1.out; omega))), ⟨⟨_, (s9 _).1⟩, ⟨(p : Int), z, s10.1.grown (s9 _).2 (fun e => by injection e with e; exact Q1.out e.symm), ((VZ.out.grown s10.2 (fun e => by injection e with e; exact Q3.out e.symm)).grown (s9 _).2 (fun e => by injection e with e; exact Q2.out e.symm)), BN.out _ _⟩, ⟨((VA.out.grown s10.2 (fun e => by injection e with e; have := M2.out; omega)).grown (s9 _).2 (fun e => by injection e with e; have := M1.out; omega)), ((VB.out.grown s10.2 (fun e => by injection e with e; have := M2.out; omega)).grown (s9 _).2 (fun e => by injection e with e; have := M1.out; omega)), ((VC.out.grown s10.2 (fun e => by injection e with e; have := M2.out; omega)).grown (s9 _).2 (fun e => by injection e with e; have := M1.out; omega)), ((VT.out.grown s10.2 (fun e => by injection e with e; have := M2.out; omega)).grown (s9 _).2 (fun e => by injection e with e; have := M1.out; omega)), ((VN.out.grown s10.2 (fun e => by injection e with e; have := M2.out; omega)).grown (s9 _).2 (fun e => by injection e with e; have := M1.out; omega))⟩⟩, ((VW.out.grown s10.2 VW.out.size (fun j e => by injection e with e; have := M2.out; omega)).grown (s9 _).2 (VW.out.grown s10.2 VW.out.size (fun j e => by injection e with e; have := M2.out; omega)).size (fun j e => by injection e with e; have := M1.out; omega))⟩
            · have NO : Hid (¬ FacsPre v (pre ++ [x])) := Lib.hid (not_pre_range hin)
              by_cases hv2 : v < 2
              · have dv := decide_eq_true hv2
                clear hin
                repeat (first | go_values | gi_guarded | gi_step | gi_upon | gi_back)
                refine ⟨trivial, ?_⟩
                repeat (first | go_values | gi_guarded | gi_step | gi_upon | gi_back)
                exact ⟨(KeepsOthers.setCell _ _ _), .inl ⟨rfl, NO.out⟩, (YW.out.setCell (p := ⟨w.heap.size + 1 + 1, 0, none⟩) (by simp; omega) _)⟩
              · have dv := decide_eq_false hv2
                have hv4 : 4294967296 ≤ v := by omega
                have dv2 := decide_eq_true hv4
                clear hin
                repeat (first | go_values | gi_guarded | gi_step | gi_upon | gi_back)
                refine ⟨trivial, ?_⟩
                repeat (first | go_values | gi_guarded | gi_step | gi_upon | gi_back)
                exact ⟨(KeepsOthers.setCell _ _ _), .inl ⟨rfl, NO.out⟩, (YW.out.setCell (p := ⟨w.heap.size + 1 + 1, 0, none⟩) (by simp; omega) _)⟩
          case done =>
            rintro D ys W hD hS ⟨⟨-, ⟨zl, zr, hl, hz, himp⟩, hc⟩, hBel⟩ hK
            simp only [Exit.inBlock, Exit.then]
            exact ⟨D, rfl, hD, hK, hc, hBel⟩
          case stop =>
            rintro D c pre W hD hpre ⟨h, hBel⟩ hK
            rcases h with ⟨-, hno⟩ | ⟨rfl, hc⟩
            · exact absurd hpre hno
            · refine wpIn_exit ?_
              simp only [Exit.inBlock, Exit.then, ↓reduceIte]
              exact ⟨D, rfl, hD, hK, hc, hBel⟩
        case rest =>
          rintro D0 y0 ⟨hD0, hK0, ⟨hA, hB, hC, hT, hN⟩, hBel⟩
          have hca := hA.cell
          have hct := hT.cell
          go_wp2_with fail
          rw [rounds_succ]
          have T5 := Lib.hid (OneAt.new y0 (.int .i64 1) 3)
          have A5 := Lib.hid (hA.alloc (.cells #[.int .i64 1] 3))
          have B5 := Lib.hid (hB.alloc (.cells #[.int .i64 1] 3))
          have C5 := Lib.hid (hC.alloc (.cells #[.int .i64 1] 3))
          have N5 := Lib.hid (hN.alloc (.cells #[.int .i64 1] 3))
          have W5 := Lib.hid (hBel.alloc hBel.size (.cells #[.int .i64 1] 3))
          have MD0 : Hid ((y0.alloc (.cells #[.int .i64 1] 3)).heap[D0]? = some (.deferred (some []))) := Lib.hid ((((Below.refl y0.heap.size y0).alloc (Nat.le_refl _) (.cells #[.int .i64 1] 3)).block _ (Array.getElem?_eq_some_iff.1 hK0).1).trans hK0)
          clear hA hB hC hT hN hBel hca hct hK0
          have hca := A5.out.cell
          have hct := T5.out.cell
          generalize y0.alloc (.cells #[.int .i64 1] 3) = w5 at *
          generalize y0.heap.size = Bt5 at *
          clear K9 K10 K11 Q1 Q2 Q3 M1 M2 M3 S9 S10 S11 SN ST A3_t0 B3_t0 C3_t0 T3_t0 N3_t0 L3
          have hDL0 : w.heap.size ≤ D0 := Nat.le_trans W3_t0.out.size hD0
          clear W3_t0 hD0
          go_upto_region 10 with fail
          go_cut [9, 10, 11] from 35 to 35 (fun x y z wx => ∃ B9 B10 B11, x = .pointer (some ⟨B9, 0, none⟩) ∧ y = .pointer (some ⟨B10, 0, none⟩) ∧ z = .pointer (some ⟨B11, 0, none⟩) ∧ B9 ≠ B10 ∧ B9 ≠ B11 ∧ B10 ≠ B11 ∧ w5.heap.size ≤ B9 ∧ w5.heap.size ≤ B10 ∧ w5.heap.size ≤ B11 ∧ OneAt wx B9 (.int .i64 0) ∧ OneAt wx B10 (.int .i64 1) ∧ OneAt wx B11 (.int .i64 v) ∧ Below w5.heap.size w5 wx)
          case first =>
            have hall1 : ∀ o1 : Obj, (w5.alloc o1).cell? ⟨w.heap.size, 0, none⟩ = some (.int .i64 v) := fun o1 => (A5.out.alloc o1).cell
            have hall2 : ∀ o1 o2 : Obj, ((w5.alloc o1).alloc o2).cell? ⟨w.heap.size, 0, none⟩ = some (.int .i64 v) := fun o1 o2 => ((A5.out.alloc o1).alloc o2).cell
            have hall3 : ∀ o1 o2 o3 : Obj, (((w5.alloc o1).alloc o2).alloc o3).cell? ⟨w.heap.size, 0, none⟩ = some (.int .i64 v) := fun o1 o2 o3 => (((A5.out.alloc o1).alloc o2).alloc o3).cell
            go_region
            all_goals (dsimp only [Exit.then]; go_step; go_meet)
            all_goals (refine ⟨_, _, _, rfl, rfl, rfl, by omega, by omega, by omega, by omega, by omega, by omega, ?_, ?_, ?_, ?_⟩ <;> first | exact OneAt.drewn (box3 w5 _ _ _ _ _ _).1 | exact OneAt.drewn (box3 w5 _ _ _ _ _ _).2.1 | exact OneAt.drewn (box3 w5 _ _ _ _ _ _).2.2.1 | exact (box3 w5 _ _ _ _ _ _).2.2.2.drew)
          case rest =>
            obtain ⟨B9, B10, B11, rfl, rfl, rfl, n1, n2, n3, m1, m2, m3, h9, h10, h11, hbx⟩ := hcut
            have A5_t1 := Lib.hid (A5.out.below hbx)
            have LT_A5_t1 := Lib.hid A5.out.lt
            have B5_t1 := Lib.hid (B5.out.below hbx)
            have LT_B5_t1 := Lib.hid B5.out.lt
            have C5_t1 := Lib.hid (C5.out.below hbx)
            have LT_C5_t1 := Lib.hid C5.out.lt
            have T5_t1 := Lib.hid (T5.out.below hbx)
            have LT_T5_t1 := Lib.hid T5.out.lt
            have N5_t1 := Lib.hid (N5.out.below hbx)
            have LT_N5_t1 := Lib.hid N5.out.lt
            have MD0_t1 : Hid (wc.heap[D0]? = some (.deferred (some []))) := Lib.hid ((hbx.block _ (Array.getElem?_eq_some_iff.1 MD0.out).1).trans MD0.out)
            have LT_MD0_t1 : Hid (D0 < wc.heap.size) := Lib.hid (Nat.lt_of_lt_of_le (Array.getElem?_eq_some_iff.1 MD0.out).1 hbx.size)
            have W5_t1 := Lib.hid (W5.out.trans (hbx.mono W5.out.size))
            have K9 := Lib.hid h9
            have K10 := Lib.hid h10
            have K11 := Lib.hid h11
            have Q1 := Lib.hid n1
            have Q2 := Lib.hid n2
            have Q3 := Lib.hid n3
            have M1 : Hid (w.heap.size + 1 + 1 < B9 ∧ Bt5 < B9 ∧ Bn < B9) := Lib.hid ⟨by have := LT_C5_t1.out; omega, by have := LT_T5_t1.out; omega, by have := LT_N5_t1.out; omega⟩
            have M2 : Hid (w.heap.size + 1 + 1 < B10 ∧ Bt5 < B10 ∧ Bn < B10) := Lib.hid ⟨by have := LT_C5_t1.out; omega, by have := LT_T5_t1.out; omega, by have := LT_N5_t1.out; omega⟩
            have M3 : Hid (w.heap.size + 1 + 1 < B11 ∧ Bt5 < B11 ∧ Bn < B11) := Lib.hid ⟨by have := LT_C5_t1.out; omega, by have := LT_T5_t1.out; omega, by have := LT_N5_t1.out; omega⟩
            have S9 := Lib.hid h9.lt
            have S10 := Lib.hid h10.lt
            have S11 := Lib.hid h11.lt
            have SN : Hid (Bn < wc.heap.size) := Lib.hid N5_t1.out.lt
            have ST : Hid (Bt5 < wc.heap.size) := Lib.hid T5_t1.out.lt
            clear n1 n2 n3 m1 m2 m3 h9 h10 h11 hbx hca hct A5 B5 C5 T5 N5 W5 MD0 LT_A5_t1 LT_B5_t1 LT_C5_t1 LT_T5_t1 LT_N5_t1
            generalize wc = x1 at *
            go_upto_block 2 with fail
            refine wp_cut_marks (fun D w' => x1.heap.size ≤ D ∧ w'.heap[D]? = some (.deferred (some [])) ∧ (OneAt w' (w.heap.size) (.int .i64 v) ∧ OneAt w' (w.heap.size + 1) (.int .i64 many) ∧ OneAt w' (w.heap.size + 1 + 1) (.bool false) ∧ OneAt w' Bt5 (.int .i64 1) ∧ OneAt w' Bn (.int .i64 v)) ∧ w'.heap[D0]? = some (.deferred (some [])) ∧ (∃ zr : Int, OneAt w' B11 (.int .i64 zr) ∧ (2 ≤ v → v < 4294967296 → zr = 1)) ∧ Below w.heap.size w w') ?rest ?first
            case first =>
              refine (wpIn_wide (n := 8)).1 ?_
              refine wpIn_block ?_
              refine wpIn_rangeFunc_own2 (F := Fence.wide) (q := 37) (q' := 38) (k := 12) (k' := 13) (e := fun x : Fac => .int .i64 (x.1.1 : Int)) (e' := fun x : Fac => .int .i64 (x.1.2 : Int)) rfl (by decide) (gf := 34) (lb := #[.pointer (some ⟨Bn, 0, none⟩)]) rfl trivial (enters_of Try.func34 (by kernel_rfl) rfl)
                (factors1_stops v 7 Bn x1 N5_t1.out) KeepB.trans (keepB_put SN.out) (Below.refl _ _)
                (fun pre W => ((∃ zk : Int, OneAt W B9 (.int .i64 zk)) ∧ (∃ zl zr : Int, OneAt W B10 (.int .i64 zl) ∧ OneAt W B11 (.int .i64 zr) ∧ ∀ (m r q : Nat), v = (m : Int) → facS m pre = some (r, q) → zl = (q : Int) ∧ zr = (r : Int)) ∧ (OneAt W (w.heap.size) (.int .i64 v) ∧ OneAt W (w.heap.size + 1) (.int .i64 many) ∧ OneAt W (w.heap.size + 1 + 1) (.bool false) ∧ OneAt W Bt5 (.int .i64 1) ∧ OneAt W Bn (.int .i64 v))) ∧ W.heap[D0]? = some (.deferred (some [])) ∧ Below w.heap.size w W)
                (fun c pre W => ((c = .ret ∧ ¬ FacsPre v pre)) ∧ W.heap[D0]? = some (.deferred (some [])) ∧ Below w.heap.size w W)
                (OwnFrom.and (Own.from (fun st A B row hs0 hg hr => by
                  obtain ⟨⟨zk, hk⟩, ⟨zl, zr, hl, hz, himp⟩, hs⟩ := hs0
                  exact ⟨⟨zk, hk.own hg hr⟩, ⟨zl, zr, hl.own hg hr, hz.own hg hr, himp⟩, ⟨hs.1.own hg hr, hs.2.1.own hg hr, hs.2.2.1.own hg hr, hs.2.2.2.1.own hg hr, hs.2.2.2.2.own hg hr⟩⟩) _) (OwnFrom.and (ownFrom_mark LT_MD0_t1.out) (ownFrom_below (Nat.le_refl _) W5_t1.out.size)))
                (fun c => OwnFrom.and (Own.from (fun st A B row hs0 hg hr => hs0) _) (OwnFrom.and (ownFrom_mark LT_MD0_t1.out) (ownFrom_below (Nat.le_refl _) W5_t1.out.size)))
                ⟨⟨⟨0, K9.out⟩, ⟨1, v, K10.out, K11.out, fun m r q hv hf => by rw [facS_nil] at hf; injection hf with hf; injection hf with ha hb; omega⟩, A5_t1.out, B5_t1.out, C5_t1.out, T5_t1.out, N5_t1.out⟩, MD0_t1.out, W5_t1.out⟩ ?assign ?body ?done ?stop
              case assign =>
                intro l x W K hK
                simp only [List.setIfInBounds_toArray, List.set_cons_zero, List.set_cons_succ] at hK ⊢
                gi_wp2
                exact hK
              case body =>
                rintro l pre x W ⟨⟨⟨zk, hk⟩, ⟨zl, zr, hl, hz, himp⟩, hA, hB, hC, hT, hN⟩, hD0, hBel⟩ _
                simp only [List.setIfInBounds_toArray, List.set_cons_zero, List.set_cons_succ]
                have YK := Lib.hid hk
                have YL := Lib.hid hl
                have YZ := Lib.hid hz
                have YA := Lib.hid hA
                have YB := Lib.hid hB
                have YC := Lib.hid hC
                have YT := Lib.hid hT
                have YN := Lib.hid hN
                have YW := Lib.hid hBel
                have YI := Lib.hid himp
                have YD0 := Lib.hid hD0
                have ca := hA.cell
                have cb := hB.cell
                have cc := hC.cell
                have fc := hC.frozen
                have ct := hT.cell
                have ck := hk.cell
                have fk := hk.frozen
                have cl := hl.cell
                have fl := hl.frozen
                have cz := hz.cell
                have fz := hz.frozen
                clear hk hl hz himp hA hB hC hT hN hBel hD0
                by_cases hin : 2 ≤ v ∧ v < 4294967296
                · skip
                  obtain ⟨m, hm⟩ := Int.eq_ofNat_of_zero_le (show 0 ≤ v by omega)
                  have HVL : Hid (2 ≤ v ∧ v < 4294967296) := Lib.hid hin
                  have HM := Lib.hid hm
                  have hv1 : ¬ v < 2 := by omega
                  have hv2 : ¬ 4294967296 ≤ v := by omega
                  have dv1 := decide_eq_false hv1
                  have dv2 := decide_eq_false hv2
                  clear hin hm hv1 hv2
                  obtain ⟨p, hp⟩ : ∃ p, x.1.1 = p := ⟨_, rfl⟩
                  obtain ⟨n, hn⟩ : ∃ n, x.1.2 = n := ⟨_, rfl⟩
                  have XP : Hid (IsP p) := Lib.hid (by rw [← hp]; exact x.2.1)
                  have XL : Hid (p < 4294967296) := Lib.hid (by rw [← hp]; exact x.2.2.1)
                  have XN1 : Hid (1 ≤ n) := Lib.hid (by rw [← hn]; exact x.2.2.2.1)
                  have XN2 : Hid (n ≤ 64) := Lib.hid (by rw [← hn]; exact x.2.2.2.2)
                  have hp2 : (2 : Int) ≤ (p : Int) := by have := XP.out.1; omega
                  have hn1 : ¬ (n : Int) < 1 := by have := XN1.out; omega
                  have dn1 := decide_eq_false hn1
                  have hn64 : (n : Int) ≤ 64 := by have := XN2.out; omega
                  have HP := Lib.hid hp
                  have HN := Lib.hid hn
                  rw [hp, hn]
                  clear hn1 hp hn
                  by_cases hg : ∃ r', facS m (pre ++ [x]) = some (r', p)
                  · skip
                    obtain ⟨r', hr'⟩ := hg
                    have HG := Lib.hid hr'
                    rw [facS_snoc] at hr'
                    obtain ⟨r0, q0, e0, e1, e2, e3, e4⟩ := stepF_some hr'
                    obtain ⟨z1, z2⟩ := YI.out m r0 q0 HM.out e0
                    have hr0 := (facS_len (by have := HM.out; have := HVL.out; omega) (by have := HM.out; have := HVL.out; omega) e0).2.2
                    rw [HP.out] at e2 e3 e4
                    rw [HN.out] at e3
                    have E5 : Hid (r' * p ^ n ≤ 4294967295) := Lib.hid (by rw [← e3]; have := HM.out; have := HVL.out; omega)
                    have E2 := Lib.hid e2
                    have E3 := Lib.hid e3
                    have E4 := Lib.hid e4
                    rw [z1] at cl
                    rw [z2, e3] at cz
                    rw [z1] at YL
                    rw [z2, e3] at YZ
                    have hle : ¬ (p : Int) ≤ (q0 : Int) := by omega
                    have dle := decide_eq_false hle
                    have dle2 : decide (p ≤ q0) = false := decide_eq_false (by omega)
                    clear hr' e0 e1 e2 e3 e4 z1 z2 hle hr0
                    repeat (first | go_values | gi_guarded | gi_step | gi_upon | gi_back)
                    refine ⟨trivial, (CallsIn.inRound l (callsIn_wide.2 (rprime_ok p W XL.out))).mono ?_⟩
                    rintro e W2 ⟨bb, rfl, hbb, rfl⟩
                    have hbt : bb = true := hbb.2 XP.out
                    rw [hbt]
                    clear hbb hbt
                    try dsimp only
                    repeat (first | go_values | gi_guarded | gi_step | gi_upon | gi_back)
                    gi_loopw [14] (fun i wr => ∃ j : Nat, j ≤ n ∧ i = .int .i64 (j : Int) ∧ OneAt wr B11 (.int .i64 ((r' * p ^ (n - j) : Nat) : Int)) ∧ W.grownBy wr (some B11) ∧ KeepsOthers W wr) (fun i _ => n - (intOf i).toNat)
                    case atStart => exact ⟨0, Nat.zero_le _, rfl, by rw [Nat.sub_zero]; exact YZ.out, World.grownBy.refl _ _, KeepsOthers.refl _⟩
                    case round =>
                      obtain ⟨j, hj, rfl, hz, hgw, hko⟩ := hrel
                      have VZ := Lib.hid hz
                      have HGW := Lib.hid hgw
                      have KOW := Lib.hid hko
                      have HJ := Lib.hid hj
                      clear hz hgw hko ck fk cl fl cz fz ct cb ca cc fc
                      have hj64 : (j : Int) ≤ 64 := by have := XN2.out; omega
                      by_cases hlt : j < n
                      · have dj := decide_eq_true hlt
                        have dj2 : decide ((j : Int) < (n : Int)) = true := decide_eq_true (by omega)
                        have HLT := Lib.hid hlt
                        obtain ⟨zn, hzn⟩ : ∃ z, r' * p ^ (n - j) = z := ⟨_, rfl⟩
                        obtain ⟨zm, hzm⟩ : ∃ z, r' * p ^ (n - (j + 1)) = z := ⟨_, rfl⟩
                        have hstep : zm * p = zn := by rw [← hzm, ← hzn, show n - j = n - (j + 1) + 1 by omega, Nat.pow_succ, Nat.mul_assoc]
                        rw [hzn] at VZ
                        have ht : (zn : Int).tmod (p : Int) = 0 := by rw [← hstep, Int.natCast_mul]; exact Int.mul_tmod_left _ _
                        have ht2 : (zn : Int) % (p : Int) = 0 := by rw [← hstep, Int.natCast_mul]; exact Int.mul_emod_left _ _
                        have hd : (zn : Int).tdiv (p : Int) = (zm : Int) := by rw [← hstep, Int.natCast_mul]; exact Int.mul_tdiv_cancel _ (by omega)
                        have hd2 : (zn : Int) / (p : Int) = (zm : Int) := by rw [← hstep, Int.natCast_mul]; exact Int.mul_ediv_cancel _ (by omega)
                        have hzb : zm ≤ 4294967295 := by rw [← hzm]; exact Nat.le_trans (Nat.mul_le_mul_left _ (Nat.pow_le_pow_right (by have := XP.out.1; omega) (by omega))) E5.out
                        have hzw : IntKind.i64.wrap (zm : Int) = (zm : Int) := by rw [IntKind.wrap_i64]; omega
                        clear hzb
                        have cz := VZ.out.cell
                        have fz := VZ.out.frozen
                        have HZM := Lib.hid hzm
                        have hs := fun u : Value => VZ.out.set u
                        clear hlt hj hzn hzm hstep
                        repeat (first | go_values | gi_guarded | gi_step | gi_upon | gi_back)
                        go_roundw
                        case rel => exact ⟨j + 1, HLT.out, by go_num, by rw [HZM.out]; exact (hs _).1, grown_trans HGW.out (hs _).2, KOW.out.trans (KeepsOthers.setCell _ _ _)⟩
                        case measure => simp [intOf]; have := HLT.out; omega
                      · obtain rfl : j = n := by omega
                        have dj : decide (j < j) = false := decide_eq_false (by omega)
                        rw [Nat.sub_self, Nat.pow_zero, Nat.mul_one] at VZ
                        have VK := Lib.hid (YK.out.grown HGW.out (fun e => by injection e with e; have := Q2.out; omega))
                        have VL := Lib.hid (YL.out.grown HGW.out (fun e => by injection e with e; have := Q3.out; omega))
                        have VA := Lib.hid (YA.out.grown HGW.out (fun e => by injection e with e; have := M3.out; omega))
                        have VB := Lib.hid (YB.out.grown HGW.out (fun e => by injection e with e; have := M3.out; omega))
                        have VC := Lib.hid (YC.out.grown HGW.out (fun e => by injection e with e; have := M3.out; omega))
                        have VT := Lib.hid (YT.out.grown HGW.out (fun e => by injection e with e; have := M3.out; omega))
                        have VN := Lib.hid (YN.out.grown HGW.out (fun e => by injection e with e; have := M3.out; omega))
                        have VW := Lib.hid (YW.out.grown HGW.out YW.out.size (fun j e => by injection e with e; have := M3.out; omega))
                        have VKB := Lib.hid (KeepB.grown HGW.out YN.out.lt (fun e => by injection e with e; have := M3.out; omega))
                        obtain ⟨mm, hmm⟩ : ∃ mm, r' % p = mm := ⟨_, rfl⟩
                        have hm0 : mm ≠ 0 := by rw [← hmm]; exact E4.out
                        have ht : (r' : Int).tmod (p : Int) = (mm : Int) := by rw [Int.tmod_eq_emod_of_nonneg (by omega), ← hmm]; exact (Int.natCast_emod _ _).symm
                        have ht2 : (r' : Int) % (p : Int) = (mm : Int) := by rw [← hmm]; exact (Int.natCast_emod _ _).symm
                        have dm : ((mm : Int) == 0) = false := by rw [beq_eq_false_iff_ne]; omega
                        have dm2 : (mm == 0) = false := by rw [beq_eq_false_iff_ne]; exact hm0
                        have dm3 : ¬ (mm : Int) = 0 := by omega
                        clear hmm
                        have ck := VK.out.cell
                        have fk := VK.out.frozen
                        have cl := VL.out.cell
                        have fl := VL.out.frozen
                        have cz := VZ.out.cell
                        have ct := VT.out.cell
                        have cb := VB.out.cell
                        have s10 := VL.out.set (.int .i64 (p : Int))
                        have k9 := VK.out.grown s10.2 (fun e => by injection e with e; exact Q1.out e)
                        have s9 := fun u : Value => k9.set u
                        have hkr : ∀ u : Value, ((wr.setCell ⟨B10, 0, none⟩ (.int .i64 (p : Int))).setCell ⟨B9, 0, none⟩ u).cell? ⟨B9, 0, none⟩ = some u := fun u => (s9 u).1.cell
                        have hk1 : (wr.setCell ⟨B10, 0, none⟩ (.int .i64 (p : Int))).cell? ⟨B9, 0, none⟩ = some (.int .i64 zk) := k9.cell
                        have hk2 : (wr.setCell ⟨B10, 0, none⟩ (.int .i64 (p : Int))).frozen? ⟨B9, 0, none⟩ = false := k9.frozen
                        have ht1 : ∀ u : Value, ((wr.setCell ⟨B10, 0, none⟩ (.int .i64 (p : Int))).setCell ⟨B9, 0, none⟩ u).cell? ⟨Bt5, 0, none⟩ = some (.int .i64 1) := fun u => ((VT.out.grown s10.2 (fun e => by injection e with e; have := M2.out; omega)).grown (s9 u).2 (fun e => by injection e with e; have := M1.out; omega)).cell
                        have hb1 : ∀ u : Value, ((wr.setCell ⟨B10, 0, none⟩ (.int .i64 (p : Int))).setCell ⟨B9, 0, none⟩ u).cell? ⟨w.heap.size + 1, 0, none⟩ = some (.int .i64 many) := fun u => ((VB.out.grown s10.2 (fun e => by injection e with e; have := M2.out; omega)).grown (s9 u).2 (fun e => by injection e with e; have := M1.out; omega)).cell
                        obtain ⟨zk2, hzk2⟩ : ∃ z, IntKind.i64.wrap (zk + 1) = z := ⟨_, rfl⟩
                        repeat (first | go_values | gi_guarded | gi_step | gi_upon | gi_back)
                        exact ⟨((KOW.out.trans (KeepsOthers.setCell _ _ _)).trans (KeepsOthers.setCell _ _ _)), ((VKB.out.trans (KeepB.grown s10.2 VN.out.lt (fun e => by injection e with e; have := M2.out; omega))).trans (KeepB.grown (s9 _).2 (VN.out.grown s10.2 (fun e => by injection e with e; have := M2.out; omega)).lt (fun e => by injection e with e; have := M1.out; omega))), ⟨⟨_, (s9 _).1⟩, ⟨(p : Int), (r' : Int), s10.1.grown (s9 _).2 (fun e => by injection e with e; exact Q1.out e.symm), ((VZ.out.grown s10.2 (fun e => by injection e with e; exact Q3.out e.symm)).grown (s9 _).2 (fun e => by injection e with e; exact Q2.out e.symm)), good_next HM.out HG.out⟩, ⟨((VA.out.grown s10.2 (fun e => by injection e with e; have := M2.out; omega)).grown (s9 _).2 (fun e => by injection e with e; have := M1.out; omega)), ((VB.out.grown s10.2 (fun e => by injection e with e; have := M2.out; omega)).grown (s9 _).2 (fun e => by injection e with e; have := M1.out; omega)), ((VC.out.grown s10.2 (fun e => by injection e with e; have := M2.out; omega)).grown (s9 _).2 (fun e => by injection e with e; have := M1.out; omega)), ((VT.out.grown s10.2 (fun e => by injection e with e; have := M2.out; omega)).grown (s9 _).2 (fun e => by injection e with e; have := M1.out; omega)), ((VN.out.grown s10.2 (fun e => by injection e with e; have := M2.out; omega)).grown (s9 _).2 (fun e => by injection e with e; have := M1.out; omega))⟩⟩, (((KOW.out.trans (KeepsOthers.setCell _ _ _)).trans (KeepsOthers.setCell _ _ _))).same _ _ YD0.out rfl, ((VW.out.grown s10.2 VW.out.size (fun j e => by injection e with e; have := M2.out; omega)).grown (s9 _).2 (VW.out.grown s10.2 VW.out.size (fun j e => by injection e with e; have := M2.out; omega)).size (fun j e => by injection e with e; have := M1.out; omega))⟩
                  · skip
                    have NO := Lib.hid (not_pre HM.out HP.out hg)
                    have BN : Hid (∀ zl zr : Int, ∀ (m' r q : Nat), v = (m' : Int) → facS m' (pre ++ [x]) = some (r, q) → zl = (q : Int) ∧ zr = (r : Int)) := Lib.hid (fun zl zr => bad_next HM.out HP.out hg)
                    clear hg
                    by_cases hle : (p : Int) ≤ zl
                    · have dle := decide_eq_true hle
                      repeat (first | go_values | gi_guarded | gi_step | gi_upon | gi_back)
                      refine ⟨trivial, ?_⟩
                      repeat (first | go_values | gi_guarded | gi_step | gi_upon | gi_back)
                      exact ⟨(KeepsOthers.setCell _ _ _), ⟨rfl, NO.out⟩, ((KeepsOthers.setCell _ _ _)).same _ _ YD0.out rfl, (YW.out.setCell (p := ⟨w.heap.size + 1 + 1, 0, none⟩) (by simp; omega) _)⟩
                    · have dle := decide_eq_false hle
                      clear hle
                      repeat (first | go_values | gi_guarded | gi_step | gi_upon | gi_back)
                      refine ⟨trivial, (CallsIn.inRound l (callsIn_wide.2 (rprime_ok p W XL.out))).mono ?_⟩
                      rintro e W2 ⟨bb, rfl, hbb, rfl⟩
                      have hbt : bb = true := hbb.2 XP.out
                      rw [hbt]
                      clear hbb hbt
                      try dsimp only
                      repeat (first | go_values | gi_guarded | gi_step | gi_upon | gi_back)
                      gi_loopw [14] (fun i wr => ∃ (j : Nat) (z : Int), j ≤ n ∧ i = .int .i64 (j : Int) ∧ OneAt wr B11 (.int .i64 z) ∧ W.grownBy wr (some B11) ∧ KeepsOthers W wr) (fun i _ => n - (intOf i).toNat)
                      case atStart => exact ⟨0, zr, Nat.zero_le _, rfl, YZ.out, World.grownBy.refl _ _, KeepsOthers.refl _⟩
                      case round =>
                        obtain ⟨j, z, hj, rfl, hz, hgw, hko⟩ := hrel
                        have VZ := Lib.hid hz
                        have HGW := Lib.hid hgw
                        have KOW := Lib.hid hko
                        have HJ := Lib.hid hj
                        clear hz hgw hko ck fk cl fl cz fz ct cb ca cc fc
                        have hj64 : (j : Int) ≤ 64 := by have := XN2.out; omega
                        have VK := Lib.hid (YK.out.grown HGW.out (fun e => by injection e with e; have := Q2.out; omega))
                        have VL := Lib.hid (YL.out.grown HGW.out (fun e => by injection e with e; have := Q3.out; omega))
                        have VA := Lib.hid (YA.out.grown HGW.out (fun e => by injection e with e; have := M3.out; omega))
                        have VB := Lib.hid (YB.out.grown HGW.out (fun e => by injection e with e; have := M3.out; omega))
                        have VC := Lib.hid (YC.out.grown HGW.out (fun e => by injection e with e; have := M3.out; omega))
                        have VT := Lib.hid (YT.out.grown HGW.out (fun e => by injection e with e; have := M3.out; omega))
                        have VN := Lib.hid (YN.out.grown HGW.out (fun e => by injection e with e; have := M3.out; omega))
                        have VW := Lib.hid (YW.out.grown HGW.out YW.out.size (fun j e => by injection e with e; have := M3.out; omega))
                        have VKB := Lib.hid (KeepB.grown HGW.out YN.out.lt (fun e => by injection e with e; have := M3.out; omega))
                        obtain ⟨mm, hmm⟩ : ∃ mm, z.tmod (p : Int) = mm := ⟨_, rfl⟩
                        have ht := hmm
                        clear hmm
                        have cz := VZ.out.cell
                        have fz := VZ.out.frozen
                        have cc := VC.out.cell
                        have fc := VC.out.frozen
                        have hs := fun u : Value => VZ.out.set u
                        by_cases hlt : j < n
                        · have dj := decide_eq_true hlt
                          have dj2 : decide ((j : Int) < (n : Int)) = true := decide_eq_true (by omega)
                          have HLT := Lib.hid hlt
                          clear hlt hj
                          by_cases hm0 : mm = 0
                          · have dm : (mm == 0) = true := by rw [hm0]; rfl
                            subst hm0
                            repeat (first | go_values | gi_guarded | gi_step | gi_upon | gi_back)
                            go_roundw
                            case rel => exact ⟨j + 1, _, HLT.out, by go_num, (hs _).1, grown_trans HGW.out (hs _).2, KOW.out.trans (KeepsOthers.setCell _ _ _)⟩
                            case measure => simp [intOf]; have := HLT.out; omega
                          · have dm : (mm == 0) = false := beq_eq_false_iff_ne.2 hm0
                            repeat (first | go_values | gi_guarded | gi_step | gi_upon | gi_back)
                            exact ⟨(KOW.out.trans (KeepsOthers.setCell _ _ _)), ⟨rfl, NO.out⟩, ((KOW.out.trans (KeepsOthers.setCell _ _ _))).same _ _ YD0.out rfl, (VW.out.setCell (p := ⟨w.heap.size + 1 + 1, 0, none⟩) (by simp; omega) _)⟩
                        · obtain rfl : j = n := by omega
                          have dj : decide (j < j) = false := decide_eq_false (by omega)
                          by_cases hm0 : mm = 0
                          · have dm : (mm == 0) = true := by rw [hm0]; rfl
                            subst hm0
                            repeat (first | go_values | gi_guarded | gi_step | gi_upon | gi_back)
                            exact ⟨(KOW.out.trans (KeepsOthers.setCell _ _ _)), ⟨rfl, NO.out⟩, ((KOW.out.trans (KeepsOthers.setCell _ _ _))).same _ _ YD0.out rfl, (VW.out.setCell (p := ⟨w.heap.size + 1 + 1, 0, none⟩) (by simp; omega) _)⟩
                          · have dm : (mm == 0) = false := beq_eq_false_iff_ne.2 hm0
                            clear cc fc
                            have ck := VK.out.cell
                            have fk := VK.out.frozen
                            have cl := VL.out.cell
                            have fl := VL.out.frozen
                            have cz := VZ.out.cell
                            have ct := VT.out.cell
                            have cb := VB.out.cell
                            have s10 := VL.out.set (.int .i64 (p : Int))
                            have k9 := VK.out.grown s10.2 (fun e => by injection e with e; exact Q1.out e)
                            have s9 := fun u : Value => k9.set u
                            have hkr : ∀ u : Value, ((wr.setCell ⟨B10, 0, none⟩ (.int .i64 (p : Int))).setCell ⟨B9, 0, none⟩ u).cell? ⟨B9, 0, none⟩ = some u := fun u => (s9 u).1.cell
                            have hk1 : (wr.setCell ⟨B10, 0, none⟩ (.int .i64 (p : Int))).cell? ⟨B9, 0, none⟩ = some (.int .i64 zk) := k9.cell
                            have hk2 : (wr.setCell ⟨B10, 0, none⟩ (.int .i64 (p : Int))).frozen? ⟨B9, 0, none⟩ = false := k9.frozen
                            have ht1 : ∀ u : Value, ((wr.setCell ⟨B10, 0, none⟩ (.int .i64 (p : Int))).setCell ⟨B9, 0, none⟩ u).cell? ⟨Bt5, 0, none⟩ = some (.int .i64 1) := fun u => ((VT.out.grown s10.2 (fun e => by injection e with e; have := M2.out; omega)).grown (s9 u).2 (fun e => by injection e with e; have := M1.out; omega)).cell
                            have hb1 : ∀ u : Value, ((wr.setCell ⟨B10, 0, none⟩ (.int .i64 (p : Int))).setCell ⟨B9, 0, none⟩ u).cell? ⟨w.heap.size + 1, 0, none⟩ = some (.int .i64 many) := fun u => ((VB.out.grown s10.2 (fun e => by injection e with e; have := M2.out; omega)).grown (s9 u).2 (fun e => by injection e with e; have := M1.out; omega)).cell
                            obtain ⟨zk2, hzk2⟩ : ∃ z, IntKind.i64.wrap (zk + 1) = z := ⟨_, rfl⟩
                            repeat (first | go_values | gi_guarded | gi_step | gi_upon | gi_back)
                            exact ⟨((KOW.out.trans (KeepsOthers.setCell _ _ _)).trans (KeepsOthers.setCell _ _ _)), ((VKB.out.trans (KeepB.grown s10.2 VN.out.lt (fun e => by injection e with e; have := M2.out; omega))).trans (KeepB.grown (s9 _).2 (VN.out.grown s10.2 (fun e => by injection e with e; have := M2.out; omega)).lt (fun e => by injection e with e; have := M1.out; omega))), ⟨⟨_, (s9 _).1⟩, ⟨(p : Int), z, s10.1.grown (s9 _).2 (fun e => by injection e with e; exact Q1.out e.symm), ((VZ.out.grown s10.2 (fun e => by injection e with e; exact Q3.out e.symm)).grown (s9 _).2 (fun e => by injection e with e; exact Q2.out e.symm)), BN.out _ _⟩, ⟨((VA.out.grown s10.2 (fun e => by injection e with e; have := M2.out; omega)).grown (s9 _).2 (fun e => by injection e with e; have := M1.out; omega)), ((VB.out.grown s10.2 (fun e => by injection e with e; have := M2.out; omega)).grown (s9 _).2 (fun e => by injection e with e; have := M1.out; omega)), ((VC.out.grown s10.2 (fun e => by injection e with e; have := M2.out; omega)).grown (s9 _).2 (fun e => by injection e with e; have := M1.out; omega)), ((VT.out.grown s10.2 (fun e => by injection e with e; have := M2.out; omega)).grown (s9 _).2 (fun e => by injection e with e; have := M1.out; omega)), ((VN.out.grown s10.2 (fun e => by injection e with e; have := M2.out; omega)).grown (s9 _).2 (fun e => by injection e with e; have := M1.out; omega))⟩⟩, (((KOW.out.trans (KeepsOthers.setCell _ _ _)).trans (KeepsOthers.setCell _ _ _))).same _ _ YD0.out rfl, ((VW.out.grown s10.2 VW.out.size (fun j e => by injection e with e; have := M2.out; omega)).grown (s9 _).2 (VW.out.grown s10.2 VW.out.size (fun j e => by injection e with e; have := M2.out; omega)).size (fun j e => by injection e with e; have := M1.out; omega))⟩
                · have NO : Hid (¬ FacsPre v (pre ++ [x])) := Lib.hid (not_pre_range hin)
                  by_cases hv2 : v < 2
                  · have dv := decide_eq_true hv2
                    clear hin
                    repeat (first | go_values | gi_guarded | gi_step | gi_upon | gi_back)
                    refine ⟨trivial, ?_⟩
                    repeat (first | go_values | gi_guarded | gi_step | gi_upon | gi_back)
                    exact ⟨(KeepsOthers.setCell _ _ _), ⟨rfl, NO.out⟩, ((KeepsOthers.setCell _ _ _)).same _ _ YD0.out rfl, (YW.out.setCell (p := ⟨w.heap.size + 1 + 1, 0, none⟩) (by simp; omega) _)⟩
                  · have dv := decide_eq_false hv2
                    have hv4 : 4294967296 ≤ v := by omega
                    have dv2 := decide_eq_true hv4
                    clear hin
                    repeat (first | go_values | gi_guarded | gi_step | gi_upon | gi_back)
                    refine ⟨trivial, ?_⟩
                    repeat (first | go_values | gi_guarded | gi_step | gi_upon | gi_back)
                    exact ⟨(KeepsOthers.setCell _ _ _), ⟨rfl, NO.out⟩, ((KeepsOthers.setCell _ _ _)).same _ _ YD0.out rfl, (YW.out.setCell (p := ⟨w.heap.size + 1 + 1, 0, none⟩) (by simp; omega) _)⟩
              case done =>
                rintro D ys W hD hS ⟨⟨-, ⟨zl, zr, hl, hz, himp⟩, hc⟩, hD0, hBel⟩ hK
                simp only [Exit.inBlock, Exit.then]
                exact ⟨D, rfl, hD, hK, hc, hD0, ⟨zr, hz, fun h2 hL => rest_one hS himp h2 hL⟩, hBel⟩
              case stop =>
                rintro D c pre W hD hpre ⟨⟨-, hno⟩, hD0, hBel⟩ hK
                exact absurd hpre hno
            case rest =>
              rintro D1 y1 ⟨hD1, hK1, ⟨hA, hB, hC, hT, hN⟩, hK0, ⟨zr, hz, hz1⟩, hBel⟩
              have DD : Hid (D0 < D1) := Lib.hid (Nat.lt_of_lt_of_le (Array.getElem?_eq_some_iff.1 MD0_t1.out).1 hD1)
              have DL : Hid (w.heap.size ≤ D1) := Lib.hid (Nat.le_trans W5_t1.out.size hD1)
              have DL0 : Hid (w.heap.size ≤ D0) := Lib.hid hDL0
              have HZ1 := Lib.hid hz1
              clear K9 K10 K11 Q1 Q2 Q3 M1 M2 M3 S9 S10 S11 SN ST A5_t1 B5_t1 C5_t1 T5_t1 N5_t1 W5_t1 MD0_t1 LT_MD0_t1 hD1 hz1
              have hca := hA.cell
              have hct := hT.cell
              have hcz := hz.cell
              clear hz
              by_cases c0 : v < 0
              · skip
                obtain ⟨rfl, rfl⟩ := X1.out c0
                have dc := decide_eq_true c0
                have c2 : ¬ 2 ≤ v := by omega
                have dc2 := decide_eq_false c2
                clear c0 c2
                go_wp2_with fail
                rw [rounds_succ]
                have T6 := Lib.hid (OneAt.new y1 (.int .i64 2) 3)
                have A6 := Lib.hid (hA.alloc (.cells #[.int .i64 2] 3))
                have B6 := Lib.hid (hB.alloc (.cells #[.int .i64 2] 3))
                have C6 := Lib.hid (hC.alloc (.cells #[.int .i64 2] 3))
                have N6 := Lib.hid (hN.alloc (.cells #[.int .i64 2] 3))
                have W6 := Lib.hid (hBel.alloc hBel.size (.cells #[.int .i64 2] 3))
                have MD0 : Hid ((y1.alloc (.cells #[.int .i64 2] 3)).heap[D0]? = some (.deferred (some []))) := Lib.hid ((((Below.refl y1.heap.size y1).alloc (Nat.le_refl _) (.cells #[.int .i64 2] 3)).block _ (Array.getElem?_eq_some_iff.1 hK0).1).trans hK0)
                have MD1 : Hid ((y1.alloc (.cells #[.int .i64 2] 3)).heap[D1]? = some (.deferred (some []))) := Lib.hid ((((Below.refl y1.heap.size y1).alloc (Nat.le_refl _) (.cells #[.int .i64 2] 3)).block _ (Array.getElem?_eq_some_iff.1 hK1).1).trans hK1)
                clear hcz
                clear hA hB hC hT hN hBel hca hct hK0 hK1
                have hca := A6.out.cell
                have hct := T6.out.cell
                generalize y1.alloc (.cells #[.int .i64 2] 3) = w6 at *
                generalize y1.heap.size = Bt6 at *
                go_wp2_with fail
                refine (known2_any _).mono ?_
                rintro e p7 ⟨rfl, hb⟩
                have hC7 := C6.out.below hb
                have hcc := hC7.cell
                have hfc := hC7.frozen
                have W7 := Lib.hid (W6.out.trans (hb.mono W6.out.size))
                have hk0 := (hb.block _ (Array.getElem?_eq_some_iff.1 MD0.out).1).trans MD0.out
                have hk1 := (hb.block _ (Array.getElem?_eq_some_iff.1 MD1.out).1).trans MD1.out
                clear hb hca hct
                have HK0 := Lib.hid hk0
                have HK1 := Lib.hid hk1
                have HC7 := Lib.hid hC7
                clear hk0 hk1 hC7
                go_wp2_with fail
                obtain ⟨hs, hgr⟩ := HC7.out.set (.bool true)
                have hk1 := (KeepsOthers.setCell p7 ⟨w.heap.size + 1 + 1, 0, none⟩ (.bool true)).same D1 _ HK1.out rfl
                have hk0 := (KeepsOthers.setCell p7 ⟨w.heap.size + 1 + 1, 0, none⟩ (.bool true)).same D0 _ HK0.out rfl
                have W8 := W7.out.grown hgr W7.out.size (fun j e => by injection e with e; omega)
                generalize p7.setCell ⟨w.heap.size + 1 + 1, 0, none⟩ (.bool true) = p8 at *
                have g1 := grownBy_putObj' p8 D1 (.deferred none)
                have hk0' := (g1.block D0 (Array.getElem?_eq_some_iff.1 hk0).1 (fun e => by injection e with e; have := DD.out; omega)).trans hk0
                have g2 := grownBy_putObj' (p8.putObj D1 (.deferred none)) D0 (.deferred none)
                have o1 : ∀ r, some D1 = some r → ∃ o : Obj, p8.heap[r]? = some o ∧ o.isCells = false := fun r e => by cases e; exact ⟨_, hk1, rfl⟩
                have o0 : ∀ r, some D0 = some r → ∃ o : Obj, (p8.putObj D1 (.deferred none)).heap[r]? = some o ∧ o.isCells = false := fun r e => by cases e; exact ⟨_, hk0', rfl⟩
                refine ⟨by simp, .inl ⟨_, _, rfl, run_takeDeferred hk1, ?_⟩⟩
                refine ⟨by simp, .inl ⟨_, _, rfl, run_takeDeferred hk0', ?_⟩⟩
                exact ⟨_, results_mp rfl ((hs.own g1 o1).own g2 o0), rfl, (W8.trans (belowK_b (w := w) (Nat.le_refl _) p8 D1 _ _ DL.out hk1 rfl rfl)).trans (belowK_b (w := w) (Nat.le_refl _) _ D0 _ _ DL0.out hk0' rfl rfl)⟩
              by_cases c1 : 4294967296 ≤ v
              · skip
                obtain ⟨rfl, rfl⟩ := X2.out c1
                have dc := decide_eq_false c0
                have dc1 := decide_eq_true c1
                have c2 : 2 ≤ v := by omega
                have dc2 := decide_eq_true c2
                have c3 : ¬ v < 4294967296 := by omega
                have dc3 := decide_eq_false c3
                clear c0 c1 c2 c3
                go_wp2_with fail
                rw [rounds_succ]
                have T6 := Lib.hid (OneAt.new y1 (.int .i64 2) 3)
                have A6 := Lib.hid (hA.alloc (.cells #[.int .i64 2] 3))
                have B6 := Lib.hid (hB.alloc (.cells #[.int .i64 2] 3))
                have C6 := Lib.hid (hC.alloc (.cells #[.int .i64 2] 3))
                have N6 := Lib.hid (hN.alloc (.cells #[.int .i64 2] 3))
                have W6 := Lib.hid (hBel.alloc hBel.size (.cells #[.int .i64 2] 3))
                have MD0 : Hid ((y1.alloc (.cells #[.int .i64 2] 3)).heap[D0]? = some (.deferred (some []))) := Lib.hid ((((Below.refl y1.heap.size y1).alloc (Nat.le_refl _) (.cells #[.int .i64 2] 3)).block _ (Array.getElem?_eq_some_iff.1 hK0).1).trans hK0)
                have MD1 : Hid ((y1.alloc (.cells #[.int .i64 2] 3)).heap[D1]? = some (.deferred (some []))) := Lib.hid ((((Below.refl y1.heap.size y1).alloc (Nat.le_refl _) (.cells #[.int .i64 2] 3)).block _ (Array.getElem?_eq_some_iff.1 hK1).1).trans hK1)
                clear hcz
                clear hA hB hC hT hN hBel hca hct hK0 hK1
                have hca := A6.out.cell
                have hct := T6.out.cell
                generalize y1.alloc (.cells #[.int .i64 2] 3) = w6 at *
                generalize y1.heap.size = Bt6 at *
                go_wp2_with fail
                refine (known2_any _).mono ?_
                rintro e p7 ⟨rfl, hb⟩
                have hC7 := C6.out.below hb
                have hcc := hC7.cell
                have hfc := hC7.frozen
                have W7 := Lib.hid (W6.out.trans (hb.mono W6.out.size))
                have hk0 := (hb.block _ (Array.getElem?_eq_some_iff.1 MD0.out).1).trans MD0.out
                have hk1 := (hb.block _ (Array.getElem?_eq_some_iff.1 MD1.out).1).trans MD1.out
                clear hb hca hct
                have HK0 := Lib.hid hk0
                have HK1 := Lib.hid hk1
                have HC7 := Lib.hid hC7
                clear hk0 hk1 hC7
                go_wp2_with fail
                obtain ⟨hs, hgr⟩ := HC7.out.set (.bool true)
                have hk1 := (KeepsOthers.setCell p7 ⟨w.heap.size + 1 + 1, 0, none⟩ (.bool true)).same D1 _ HK1.out rfl
                have hk0 := (KeepsOthers.setCell p7 ⟨w.heap.size + 1 + 1, 0, none⟩ (.bool true)).same D0 _ HK0.out rfl
                have W8 := W7.out.grown hgr W7.out.size (fun j e => by injection e with e; omega)
                generalize p7.setCell ⟨w.heap.size + 1 + 1, 0, none⟩ (.bool true) = p8 at *
                have g1 := grownBy_putObj' p8 D1 (.deferred none)
                have hk0' := (g1.block D0 (Array.getElem?_eq_some_iff.1 hk0).1 (fun e => by injection e with e; have := DD.out; omega)).trans hk0
                have g2 := grownBy_putObj' (p8.putObj D1 (.deferred none)) D0 (.deferred none)
                have o1 : ∀ r, some D1 = some r → ∃ o : Obj, p8.heap[r]? = some o ∧ o.isCells = false := fun r e => by cases e; exact ⟨_, hk1, rfl⟩
                have o0 : ∀ r, some D0 = some r → ∃ o : Obj, (p8.putObj D1 (.deferred none)).heap[r]? = some o ∧ o.isCells = false := fun r e => by cases e; exact ⟨_, hk0', rfl⟩
                refine ⟨by simp, .inl ⟨_, _, rfl, run_takeDeferred hk1, ?_⟩⟩
                refine ⟨by simp, .inl ⟨_, _, rfl, run_takeDeferred hk0', ?_⟩⟩
                exact ⟨_, results_mp rfl ((hs.own g1 o1).own g2 o0), rfl, (W8.trans (belowK_b (w := w) (Nat.le_refl _) p8 D1 _ _ DL.out hk1 rfl rfl)).trans (belowK_b (w := w) (Nat.le_refl _) _ D0 _ _ DL0.out hk0' rfl rfl)⟩
              obtain ⟨m, rfl⟩ := Int.eq_ofNat_of_zero_le (show 0 ≤ v by omega)
              obtain ⟨rfl, hbx⟩ := X3.out (by omega) (by omega)
              rw [Int.toNat_natCast] at hbx
              have hm24 : m < 4294967296 := by omega
              have dc := decide_eq_false c0
              have dc1 := decide_eq_false c1
              have c3 : (m : Int) < 4294967296 := by omega
              have dc3 := decide_eq_true c3
              by_cases c2 : (2 : Int) ≤ (m : Int)
              · skip
                have dc2 := decide_eq_true c2
                obtain rfl : zr = 1 := HZ1.out c2 c3
                clear c0 c1 c2 c3
                go_wp2_with fail
                rw [rounds_succ]
                have T6 := Lib.hid (OneAt.new y1 (.int .i64 2) 3)
                have A6 := Lib.hid (hA.alloc (.cells #[.int .i64 2] 3))
                have B6 := Lib.hid (hB.alloc (.cells #[.int .i64 2] 3))
                have C6 := Lib.hid (hC.alloc (.cells #[.int .i64 2] 3))
                have N6 := Lib.hid (hN.alloc (.cells #[.int .i64 2] 3))
                have W6 := Lib.hid (hBel.alloc hBel.size (.cells #[.int .i64 2] 3))
                have MD0 : Hid ((y1.alloc (.cells #[.int .i64 2] 3)).heap[D0]? = some (.deferred (some []))) := Lib.hid ((((Below.refl y1.heap.size y1).alloc (Nat.le_refl _) (.cells #[.int .i64 2] 3)).block _ (Array.getElem?_eq_some_iff.1 hK0).1).trans hK0)
                have MD1 : Hid ((y1.alloc (.cells #[.int .i64 2] 3)).heap[D1]? = some (.deferred (some []))) := Lib.hid ((((Below.refl y1.heap.size y1).alloc (Nat.le_refl _) (.cells #[.int .i64 2] 3)).block _ (Array.getElem?_eq_some_iff.1 hK1).1).trans hK1)
                clear hcz
                clear hA hB hC hT hN hBel hca hct hK0 hK1
                have hca := A6.out.cell
                have hct := T6.out.cell
                generalize y1.alloc (.cells #[.int .i64 2] 3) = w6 at *
                generalize y1.heap.size = Bt6 at *
                go_wp2_with fail
                refine (rprime_ok m _ (by omega)).mono ?_
                rintro e x6 ⟨bb, rfl, hbb, rfl⟩
                have hbe : b = bb := by
                  cases b <;> cases bb <;> simp_all
                rw [hbe]
                clear hbb hbe
                go_wp2_with fail
                refine (known2_any _).mono ?_
                rintro e p7 ⟨rfl, hb⟩
                have hC7 := C6.out.below hb
                have hcc := hC7.cell
                have hfc := hC7.frozen
                have W7 := Lib.hid (W6.out.trans (hb.mono W6.out.size))
                have hk0 := (hb.block _ (Array.getElem?_eq_some_iff.1 MD0.out).1).trans MD0.out
                have hk1 := (hb.block _ (Array.getElem?_eq_some_iff.1 MD1.out).1).trans MD1.out
                clear hb hca hct
                have HK0 := Lib.hid hk0
                have HK1 := Lib.hid hk1
                have HC7 := Lib.hid hC7
                clear hk0 hk1 hC7
                go_wp2_with fail
                obtain ⟨hs, hgr⟩ := HC7.out.set (.bool true)
                have hk1 := (KeepsOthers.setCell p7 ⟨w.heap.size + 1 + 1, 0, none⟩ (.bool true)).same D1 _ HK1.out rfl
                have hk0 := (KeepsOthers.setCell p7 ⟨w.heap.size + 1 + 1, 0, none⟩ (.bool true)).same D0 _ HK0.out rfl
                have W8 := W7.out.grown hgr W7.out.size (fun j e => by injection e with e; omega)
                generalize p7.setCell ⟨w.heap.size + 1 + 1, 0, none⟩ (.bool true) = p8 at *
                have g1 := grownBy_putObj' p8 D1 (.deferred none)
                have hk0' := (g1.block D0 (Array.getElem?_eq_some_iff.1 hk0).1 (fun e => by injection e with e; have := DD.out; omega)).trans hk0
                have g2 := grownBy_putObj' (p8.putObj D1 (.deferred none)) D0 (.deferred none)
                have o1 : ∀ r, some D1 = some r → ∃ o : Obj, p8.heap[r]? = some o ∧ o.isCells = false := fun r e => by cases e; exact ⟨_, hk1, rfl⟩
                have o0 : ∀ r, some D0 = some r → ∃ o : Obj, (p8.putObj D1 (.deferred none)).heap[r]? = some o ∧ o.isCells = false := fun r e => by cases e; exact ⟨_, hk0', rfl⟩
                refine ⟨by simp, .inl ⟨_, _, rfl, run_takeDeferred hk1, ?_⟩⟩
                refine ⟨by simp, .inl ⟨_, _, rfl, run_takeDeferred hk0', ?_⟩⟩
                exact ⟨_, results_mp rfl ((hs.own g1 o1).own g2 o0), rfl, (W8.trans (belowK_b (w := w) (Nat.le_refl _) p8 D1 _ _ DL.out hk1 rfl rfl)).trans (belowK_b (w := w) (Nat.le_refl _) _ D0 _ _ DL0.out hk0' rfl rfl)⟩
              · skip
                have dc2 := decide_eq_false c2
                clear c0 c1 c2 c3
                go_wp2_with fail
                rw [rounds_succ]
                have T6 := Lib.hid (OneAt.new y1 (.int .i64 2) 3)
                have A6 := Lib.hid (hA.alloc (.cells #[.int .i64 2] 3))
                have B6 := Lib.hid (hB.alloc (.cells #[.int .i64 2] 3))
                have C6 := Lib.hid (hC.alloc (.cells #[.int .i64 2] 3))
                have N6 := Lib.hid (hN.alloc (.cells #[.int .i64 2] 3))
                have W6 := Lib.hid (hBel.alloc hBel.size (.cells #[.int .i64 2] 3))
                have MD0 : Hid ((y1.alloc (.cells #[.int .i64 2] 3)).heap[D0]? = some (.deferred (some []))) := Lib.hid ((((Below.refl y1.heap.size y1).alloc (Nat.le_refl _) (.cells #[.int .i64 2] 3)).block _ (Array.getElem?_eq_some_iff.1 hK0).1).trans hK0)
                have MD1 : Hid ((y1.alloc (.cells #[.int .i64 2] 3)).heap[D1]? = some (.deferred (some []))) := Lib.hid ((((Below.refl y1.heap.size y1).alloc (Nat.le_refl _) (.cells #[.int .i64 2] 3)).block _ (Array.getElem?_eq_some_iff.1 hK1).1).trans hK1)
                clear hcz
                clear hA hB hC hT hN hBel hca hct hK0 hK1
                have hca := A6.out.cell
                have hct := T6.out.cell
                generalize y1.alloc (.cells #[.int .i64 2] 3) = w6 at *
                generalize y1.heap.size = Bt6 at *
                go_wp2_with fail
                refine (rprime_ok m _ (by omega)).mono ?_
                rintro e x6 ⟨bb, rfl, hbb, rfl⟩
                have hbe : b = bb := by
                  cases b <;> cases bb <;> simp_all
                rw [hbe]
                clear hbb hbe
                go_wp2_with fail
                refine (known2_any _).mono ?_
                rintro e p7 ⟨rfl, hb⟩
                have hC7 := C6.out.below hb
                have hcc := hC7.cell
                have hfc := hC7.frozen
                have W7 := Lib.hid (W6.out.trans (hb.mono W6.out.size))
                have hk0 := (hb.block _ (Array.getElem?_eq_some_iff.1 MD0.out).1).trans MD0.out
                have hk1 := (hb.block _ (Array.getElem?_eq_some_iff.1 MD1.out).1).trans MD1.out
                clear hb hca hct
                have HK0 := Lib.hid hk0
                have HK1 := Lib.hid hk1
                have HC7 := Lib.hid hC7
                clear hk0 hk1 hC7
                go_wp2_with fail
                obtain ⟨hs, hgr⟩ := HC7.out.set (.bool true)
                have hk1 := (KeepsOthers.setCell p7 ⟨w.heap.size + 1 + 1, 0, none⟩ (.bool true)).same D1 _ HK1.out rfl
                have hk0 := (KeepsOthers.setCell p7 ⟨w.heap.size + 1 + 1, 0, none⟩ (.bool true)).same D0 _ HK0.out rfl
                have W8 := W7.out.grown hgr W7.out.size (fun j e => by injection e with e; omega)
                generalize p7.setCell ⟨w.heap.size + 1 + 1, 0, none⟩ (.bool true) = p8 at *
                have g1 := grownBy_putObj' p8 D1 (.deferred none)
                have hk0' := (g1.block D0 (Array.getElem?_eq_some_iff.1 hk0).1 (fun e => by injection e with e; have := DD.out; omega)).trans hk0
                have g2 := grownBy_putObj' (p8.putObj D1 (.deferred none)) D0 (.deferred none)
                have o1 : ∀ r, some D1 = some r → ∃ o : Obj, p8.heap[r]? = some o ∧ o.isCells = false := fun r e => by cases e; exact ⟨_, hk1, rfl⟩
                have o0 : ∀ r, some D0 = some r → ∃ o : Obj, (p8.putObj D1 (.deferred none)).heap[r]? = some o ∧ o.isCells = false := fun r e => by cases e; exact ⟨_, hk0', rfl⟩
                refine ⟨by simp, .inl ⟨_, _, rfl, run_takeDeferred hk1, ?_⟩⟩
                refine ⟨by simp, .inl ⟨_, _, rfl, run_takeDeferred hk0', ?_⟩⟩
                exact ⟨_, results_mp rfl ((hs.own g1 o1).own g2 o0), rfl, (W8.trans (belowK_b (w := w) (Nat.le_refl _) p8 D1 _ _ DL.out hk1 rfl rfl)).trans (belowK_b (w := w) (Nat.le_refl _) _ D0 _ _ DL0.out hk0' rfl rfl)⟩
end Go.Proofs.Ytfmadiepefbepaa
