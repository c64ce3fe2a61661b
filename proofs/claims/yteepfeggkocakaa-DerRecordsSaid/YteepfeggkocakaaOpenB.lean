/- What the walk is told of a slice of byte slices that came in. -/
import Derived.Test.YteepfeggkocakaaOpen
import Derived.Test.YteepfeggkocakaaSlices
set_option linter.unusedVariables false
set_option linter.unusedSimpArgs false
namespace Go.Proofs.Yteepfeggkocakaa
open Go.ChangeShapes Go.WideShapes Go.RowKit

section
variable {H : Type} {enc : TypeId × Value → H} {P : Program} {w : World} {base : Nat}

theorem choose_lists {p : Nat → List UInt8 → Prop} : ∀ n : Nat, (∀ i, i < n → ∃ x, p i x) → ∃ xss : List (List UInt8), xss.length = n ∧ ∀ i x, xss[i]? = some x → p i x
  | 0, _ => ⟨[], rfl, by simp⟩
  | n + 1, h => by
    obtain ⟨xss, hl, hx⟩ := choose_lists n fun i hi => h i (by omega)
    obtain ⟨x, hx1⟩ := h n (by omega)
    refine ⟨xss ++ [x], by simp [hl], fun i y hy => ?_⟩
    rcases Nat.lt_or_ge i n with h1 | h1
    · rw [List.getElem?_append_left (by omega)] at hy
      exact hx i y hy
    · have : i = n := by
        have := (List.getElem?_eq_some_iff.1 hy).1
        simp at this
        omega
      subst this
      rw [List.getElem?_append_right (by omega), hl] at hy
      simp at hy
      subst hy
      exact hx1

theorem open_bss {r : Reach} {b0 : Nat} {t e u : TypeId} {v : Value} {d : DataW H} {ps : List MemPlace} (ht : P.underlying t = some (.slice e)) (he : P.underlying e = some (.slice u)) (hu : P.underlying u = some (.int .u8)) (hce : P.cellsOf e = 1) (hcu : P.cellsOf u = 1)
    (hval : Value.okWide P w r b0 t v) (hd : DataW.Trod enc P w base (fun _ => true) true t v d ps) : ∃ xss : List (List UInt8), Bss w v xss := by
  obtain ⟨A, n, c, rfl⟩ := okWide_slice ht hval
  obtain ⟨fuel, hf⟩ := hd
  rcases Go.Deep.open_slice1 ht hce hf with ⟨hcs, _⟩ | ⟨a, l, c', m, n', V, D, Pl, hcs, _, hl, hm, hmm, _, hx⟩
  · simp [Value.cells] at hcs
    obtain ⟨rfl, rfl, rfl⟩ := hcs
    exact ⟨[], ⟨[], rfl, Sl.nil w, by simp⟩⟩
  · simp [Value.cells] at hcs
    obtain ⟨rfl, rfl, rfl⟩ := hcs
    simp only [if_true] at hmm
    subst hmm
    obtain ⟨xss, hlen, hxs⟩ := choose_lists (p := fun i x => Byt w (V i) x) n fun i hi => by
      have h1 := (hx i (by omega)).2
      have hv : ∃ A n c, V i = .slice A n c := by
        rcases open_ints he hu hcu h1 with ⟨hcs, _⟩ | ⟨a, l, c', zs, hcs, _⟩
        · exact ⟨none, 0, 0, by simpa using hcs⟩
        · exact ⟨some a, l, c', by simpa using hcs⟩
      obtain ⟨A, n2, c2, hv⟩ := hv
      obtain ⟨x, _, hb⟩ := byt_of_ints (v := V i) he hu hcu hv (by rw [hv] at h1 ⊢; exact h1)
      exact ⟨x, hb⟩
    refine ⟨xss, ⟨(List.range n).map V, by simp [hlen], ⟨some a, _, by simp, by simpa using hl, hm, by simp, fun hne => ?_⟩, fun j u x hu hx' => ?_⟩⟩
    · have hn0 : 0 < n := by
        rcases Nat.eq_zero_or_pos n with h0 | h0
        · subst h0; exact absurd rfl hne
        · exact h0
      have hu0 := (hx 0 (by omega)).1
      obtain ⟨b, off, spot⟩ := a
      have hspot : spot = none := by simpa [Addr.add] using World.cell?_spot hu0
      subst hspot
      have hu0' : w.cell? ⟨b, off, none⟩ = some (V 0) := by simpa [Addr.add] using hu0
      refine ⟨b, off, rfl, World.block_lt_of_cell? _ _ hu0', fun j u hu => ?_⟩
      have hj : j < n := by
        have := (List.getElem?_eq_some_iff.1 hu).1
        simpa using this
      simp [hj] at hu
      subst hu
      have h2 := (hx j (by omega)).1
      unfold Addr.add at h2
      split at h2
      · subst_vars; simpa using h2
      · exact h2
    · have hj : j < n := by
        have := (List.getElem?_eq_some_iff.1 hu).1
        simpa using this
      simp [hj] at hu
      subst hu
      exact hxs j x hx'
end

end Go.Proofs.Yteepfeggkocakaa
