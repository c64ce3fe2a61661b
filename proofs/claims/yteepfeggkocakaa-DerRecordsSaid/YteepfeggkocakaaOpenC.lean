/- What the walk is told of keys, sealed strings and data that came in. -/
import Derived.Test.YteepfeggkocakaaOpenB
import Derived.Test.YteepfeggkocakaaDerQ
set_option linter.unusedVariables false
set_option linter.unusedSimpArgs false
set_option maxRecDepth 100000
namespace Go.Proofs.Yteepfeggkocakaa
open Go.ChangeShapes Go.WideShapes Go.RowKit

section
variable {H : Type} {enc : TypeId × Value → H} {w : World} {base : Nat}

theorem byt_of_cell {fuel : Nat} {u : Value} {x : DataW H × List MemPlace} (h : DataW.trod enc Try.prog w base (fun _ => true) true fuel 24 [u] = some x) : ∃ xs : List UInt8, Byt w u xs := by
  have hv : ∃ A n c, u = .slice A n c := by
    rcases open_ints Try.underlying24 Try.underlying5 (by kernel_rfl) h with ⟨hcs, _⟩ | ⟨a, l, c', zs, hcs, _⟩
    · exact ⟨none, 0, 0, by simpa using hcs⟩
    · exact ⟨some a, l, c', by simpa using hcs⟩
  obtain ⟨A, n2, c2, hv⟩ := hv
  obtain ⟨xs, _, hb⟩ := byt_of_ints (v := u) Try.underlying24 Try.underlying5 (by kernel_rfl) hv (by rw [hv] at h ⊢; exact h)
  exact ⟨xs, hb⟩
theorem int_of_cell {fuel : Nat} {u : Value} {x : DataW H × List MemPlace} (h : DataW.trod enc Try.prog w base (fun _ => true) true fuel 3 [u] = some x) : ∃ p : Int, u = .int .i64 p ∧ (-9223372036854775808 ≤ p ∧ p ≤ 9223372036854775807) := by
  obtain ⟨m, h1, _, hw⟩ := DataW.trod_int Try.underlying3 h
  exact ⟨m, by simpa using h1, wf_i64' hw⟩

theorem open_Key {r : Reach} {b0 : Nat} {v : Value} {d : DataW H} {ps : List MemPlace} (hval : Value.okWide Try.prog w r b0 49 v) (hd : DataW.Trod enc Try.prog w base (fun _ => true) true 49 v d ps) :
    ∃ p q b xs, v = .agg #[.int .i64 p, .int .i64 q, b] ∧ ((-9223372036854775808 ≤ p ∧ p ≤ 9223372036854775807) ∧ (-9223372036854775808 ≤ q ∧ q ≤ 9223372036854775807)) ∧ Byt w b xs := by
  obtain ⟨cs, rfl, hsz⟩ := okWide_struct Try.underlying49 hval
  obtain ⟨fuel, hf⟩ := hd
  obtain ⟨ys, n, _, _, hl, hxl, hfield⟩ := DataW.trod_struct Try.underlying49 hf
  rw [show Try.prog.cellsOf 49 = 3 from by kernel_rfl] at hsz hl
  obtain ⟨c0, c1, c2, rfl⟩ : ∃ c0 c1 c2, cs = #[c0, c1, c2] := by
    obtain ⟨l⟩ := cs
    match l, hsz with
    | [a, b, c], _ => exact ⟨a, b, c, rfl⟩
  have f0 : DataW.trod enc Try.prog w base (fun _ => true) true n 3 (([c0, c1, c2].drop 0).take (Try.prog.cellsOf 3)) = ys[0]? := hfield 0 _ rfl
  have f1 : DataW.trod enc Try.prog w base (fun _ => true) true n 3 (([c0, c1, c2].drop 1).take (Try.prog.cellsOf 3)) = ys[1]? := hfield 1 _ rfl
  have f2 : DataW.trod enc Try.prog w base (fun _ => true) true n 24 (([c0, c1, c2].drop 2).take (Try.prog.cellsOf 24)) = ys[2]? := hfield 2 _ rfl
  simp only [List.drop_zero, List.drop_succ_cons] at f0 f1 f2
  rw [show Try.prog.cellsOf 3 = 1 from by kernel_rfl] at f0 f1
  rw [show Try.prog.cellsOf 24 = 1 from by kernel_rfl] at f2
  simp only [List.take_succ_cons, List.take_zero] at f0 f1 f2
  have hy : ys.length = 3 := hxl
  rw [List.getElem?_eq_getElem (by omega)] at f0 f1 f2
  obtain ⟨p, rfl, hp⟩ := int_of_cell f0
  obtain ⟨q, rfl, hq⟩ := int_of_cell f1
  obtain ⟨xs, hx⟩ := byt_of_cell f2
  exact ⟨p, q, c2, xs, rfl, ⟨hp, hq⟩, hx⟩

theorem open_Sealed {r : Reach} {b0 : Nat} {v : Value} {d : DataW H} {ps : List MemPlace} (hval : Value.okWide Try.prog w r b0 50 v) (hd : DataW.Trod enc Try.prog w base (fun _ => true) true 50 v d ps) :
    ∃ p q b xs, v = .agg #[.int .i64 p, .int .i64 q, b] ∧ ((-9223372036854775808 ≤ p ∧ p ≤ 9223372036854775807) ∧ (-9223372036854775808 ≤ q ∧ q ≤ 9223372036854775807)) ∧ Byt w b xs := by
  obtain ⟨cs, rfl, hsz⟩ := okWide_struct Try.underlying50 hval
  obtain ⟨fuel, hf⟩ := hd
  obtain ⟨ys, n, _, _, hl, hxl, hfield⟩ := DataW.trod_struct Try.underlying50 hf
  rw [show Try.prog.cellsOf 50 = 3 from by kernel_rfl] at hsz hl
  obtain ⟨c0, c1, c2, rfl⟩ : ∃ c0 c1 c2, cs = #[c0, c1, c2] := by
    obtain ⟨l⟩ := cs
    match l, hsz with
    | [a, b, c], _ => exact ⟨a, b, c, rfl⟩
  have f0 : DataW.trod enc Try.prog w base (fun _ => true) true n 3 (([c0, c1, c2].drop 0).take (Try.prog.cellsOf 3)) = ys[0]? := hfield 0 _ rfl
  have f1 : DataW.trod enc Try.prog w base (fun _ => true) true n 3 (([c0, c1, c2].drop 1).take (Try.prog.cellsOf 3)) = ys[1]? := hfield 1 _ rfl
  have f2 : DataW.trod enc Try.prog w base (fun _ => true) true n 24 (([c0, c1, c2].drop 2).take (Try.prog.cellsOf 24)) = ys[2]? := hfield 2 _ rfl
  simp only [List.drop_zero, List.drop_succ_cons] at f0 f1 f2
  rw [show Try.prog.cellsOf 3 = 1 from by kernel_rfl] at f0 f1
  rw [show Try.prog.cellsOf 24 = 1 from by kernel_rfl] at f2
  simp only [List.take_succ_cons, List.take_zero] at f0 f1 f2
  have hy : ys.length = 3 := hxl
  rw [List.getElem?_eq_getElem (by omega)] at f0 f1 f2
  obtain ⟨p, rfl, hp⟩ := int_of_cell f0
  obtain ⟨q, rfl, hq⟩ := int_of_cell f1
  obtain ⟨xs, hx⟩ := byt_of_cell f2
  exact ⟨p, q, c2, xs, rfl, ⟨hp, hq⟩, hx⟩


theorem open_data2 {fuel : Nat} {cs : List Value} {x : DataW H × List MemPlace} (h : DataW.trod enc Try.prog w base (fun _ => true) true fuel 53 cs = some x) :
    ∃ p b xs, cs = [.int .i64 p, b] ∧ (-9223372036854775808 ≤ p ∧ p ≤ 9223372036854775807) ∧ Byt w b xs := by
  obtain ⟨ys, n, _, _, hl, hxl, hfield⟩ := DataW.trod_struct Try.underlying53 h
  rw [show Try.prog.cellsOf 53 = 2 from by kernel_rfl] at hl
  obtain ⟨c0, c1, rfl⟩ : ∃ c0 c1, cs = [c0, c1] := by
    match cs, hl with
    | [a, b], _ => exact ⟨a, b, rfl⟩
  have f0 : DataW.trod enc Try.prog w base (fun _ => true) true n 3 (([c0, c1].drop 0).take (Try.prog.cellsOf 3)) = ys[0]? := hfield 0 _ rfl
  have f1 : DataW.trod enc Try.prog w base (fun _ => true) true n 24 (([c0, c1].drop 1).take (Try.prog.cellsOf 24)) = ys[1]? := hfield 1 _ rfl
  simp only [List.drop_zero, List.drop_succ_cons] at f0 f1
  rw [show Try.prog.cellsOf 3 = 1 from by kernel_rfl] at f0
  rw [show Try.prog.cellsOf 24 = 1 from by kernel_rfl] at f1
  simp only [List.take_succ_cons, List.take_zero] at f0 f1
  have hy : ys.length = 2 := hxl
  rw [List.getElem?_eq_getElem (by omega)] at f0 f1
  obtain ⟨p, rfl, hp⟩ := int_of_cell f0
  obtain ⟨xs, hx⟩ := byt_of_cell f1
  exact ⟨p, c1, xs, rfl, hp, hx⟩

theorem choose_pairs {α β : Type} {p : Nat → α → β → Prop} : ∀ n : Nat, (∀ i, i < n → ∃ x y, p i x y) → ∃ (xs : List α) (ys : List β), xs.length = n ∧ ys.length = n ∧ ∀ i x y, xs[i]? = some x → ys[i]? = some y → p i x y
  | 0, _ => ⟨[], [], rfl, rfl, by simp⟩
  | n + 1, h => by
    obtain ⟨xs, ys, hl, hl2, hx⟩ := choose_pairs n fun i hi => h i (by omega)
    obtain ⟨x, y, hx1⟩ := h n (by omega)
    refine ⟨xs ++ [x], ys ++ [y], by simp [hl], by simp [hl2], fun i a b ha hb => ?_⟩
    rcases Nat.lt_or_ge i n with h1 | h1
    · rw [List.getElem?_append_left (by omega)] at ha hb
      exact hx i a b ha hb
    · have : i = n := by
        have := (List.getElem?_eq_some_iff.1 ha).1
        simp at this
        omega
      subst this
      rw [List.getElem?_append_right (by omega)] at ha hb
      simp [hl] at ha
      simp [hl2] at hb
      subst ha hb
      exact hx1

theorem open_datas {r : Reach} {b0 : Nat} {v : Value} {d : DataW H} {ps : List MemPlace} (hval : Value.okWide Try.prog w r b0 51 v) (hd : DataW.Trod enc Try.prog w base (fun _ => true) true 51 v d ps) :
    ∃ ds : List (Int × List UInt8), Dts w v ds ∧ ∀ d ∈ ds, -9223372036854775808 ≤ d.1 ∧ d.1 ≤ 9223372036854775807 := by
  obtain ⟨A, n, c, rfl⟩ := okWide_slice Try.underlying51 hval
  obtain ⟨fuel, hf⟩ := hd
  rcases Go.Deep.open_slice Try.underlying51 hf with ⟨hcs, _⟩ | ⟨a, l, c', m, n', D, Pl, hcs, _, hl, hm, hmm, _, hx⟩
  · simp [Value.cells] at hcs
    obtain ⟨rfl, rfl, rfl⟩ := hcs
    exact ⟨[], ⟨none, 0, rfl, fun h => absurd rfl h⟩, by simp⟩
  · simp [Value.cells] at hcs
    obtain ⟨rfl, rfl, rfl⟩ := hcs
    simp only [if_true] at hmm
    subst hmm
    rw [show Try.prog.cellsOf 53 = 2 from by kernel_rfl] at hx
    obtain ⟨us, ds, hlu, hld, hxs⟩ := choose_pairs (p := fun i (u : Value) (d : Int × List UInt8) => w.cell? (a.add (i * 2)) = some (.int .i64 d.1) ∧ w.cell? ((a.add (i * 2)).add 1) = some u ∧ (-9223372036854775808 ≤ d.1 ∧ d.1 ≤ 9223372036854775807) ∧ Byt w u d.2) n fun i hi => by
      obtain ⟨cs', h1, h2⟩ := hx i (by omega)
      obtain ⟨p, b, xs, rfl, hp, hb⟩ := open_data2 h2
      have h3 := (World.cells?_some h1).2.2
      exact ⟨b, (p, xs), by have := h3 0 (by omega); simpa [Addr.add] using this, by have := h3 1 (by omega); simpa using this, hp, hb⟩
    refine ⟨ds, ⟨some a, _, by rw [hld], fun hne => ?_⟩, fun d hd => ?_⟩
    · have hn0 : 0 < n := by
        rcases Nat.eq_zero_or_pos n with h0 | h0
        · subst h0; exact absurd (List.eq_nil_of_length_eq_zero hld) hne
        · exact h0
      have hu0 := (hxs 0 _ _ (List.getElem?_eq_getElem (by omega)) (List.getElem?_eq_getElem (by omega))).1
      obtain ⟨b, off, spot⟩ := a
      have hspot : spot = none := by simpa [Addr.add] using World.cell?_spot hu0
      subst hspot
      refine ⟨b, off, us, rfl, ?_, by omega, fun j u d hu hd => ?_⟩
      · simpa [Addr.add] using World.block_lt_of_cell? _ _ hu0
      obtain ⟨g1, g2, g3, g4⟩ := hxs j u d hu hd
      have e : ∀ m, (⟨b, off, none⟩ : Addr).add m = ⟨b, off + m, none⟩ := fun m => by
        unfold Addr.add
        split
        · subst_vars; rfl
        · rfl
      rw [e] at g1 g2
      have e2 : (⟨b, off + j * 2, none⟩ : Addr).add 1 = ⟨b, off + j * 2 + 1, none⟩ := by unfold Addr.add; simp
      rw [e2] at g2
      exact ⟨g1, g2, g4⟩
    · obtain ⟨j, hj, rfl⟩ := List.mem_iff_getElem.1 hd
      exact (hxs j _ _ (List.getElem?_eq_getElem (by omega)) (List.getElem?_eq_getElem hj)).2.2.1
end

end Go.Proofs.Yteepfeggkocakaa
