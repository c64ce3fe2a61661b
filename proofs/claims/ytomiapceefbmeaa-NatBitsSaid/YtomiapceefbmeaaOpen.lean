/- What the walk is told of an argument that came in. -/
import Derived.Test.YtomiapceefbmeaaBase
import Derived.WalkKit
import Derived.ProofKit
import Derived.OpenShut
import Derived.ShutString
import Derived.ChangeOld
import Derived.Deep.Slices
import Derived.DataShut
set_option linter.unusedVariables false
set_option linter.unusedSimpArgs false
namespace Go.Proofs.Ytomiapceefbmeaa
open Go.ChangeShapes Go.WideShapes Go.RowKit

section
variable {H : Type} {enc : TypeId × Value → H} {P : Program} {w : World} {base : Nat}

/-- Bytes that came in. -/
theorem byt_of_ints {t e : TypeId} {fuel : Nat} {v : Value} {x : DataW H × List MemPlace} (ht : P.underlying t = some (.slice e)) (he : P.underlying e = some (.int .u8)) (hc : P.cellsOf e = 1) {A : Option Addr} {n c : Nat} (hv : v = .slice A n c)
    (h : DataW.trod enc P w base (fun _ => true) true fuel t v.cells.toList = some x) : ∃ xs : List UInt8, xs.length = n ∧ Byt w v xs := by
  subst hv
  rcases open_ints ht he hc h with ⟨hcs, _⟩ | ⟨a, l, c', zs, hcs, _, hl, hm, hz, _, hcell, hwz⟩
  · simp [Value.cells] at hcs
    obtain ⟨rfl, rfl, rfl⟩ := hcs
    exact ⟨[], rfl, Sl.nil w⟩
  · simp [Value.cells] at hcs
    obtain ⟨rfl, rfl, rfl⟩ := hcs
    simp only [if_true] at hz
    have hx : ∀ j u, (((zs.take n).map fun m => UInt8.ofNat m.toNat).map u8v)[j]? = some u → j < n ∧ w.cell? (a.add j) = some u := by
      intro j u hu
      have hj : j < n := by
        have := (List.getElem?_eq_some_iff.1 hu).1
        simp at this
        omega
      have hjz : j < zs.length := by omega
      refine ⟨hj, ?_⟩
      rw [hcell j hjz]
      simp only [List.getElem?_map, List.getElem?_take, hj, if_true, List.getElem?_eq_getElem hjz, Option.map_some, Option.some.injEq] at hu
      rw [← hu, List.getD, List.getElem?_eq_getElem hjz, Option.getD_some]
      have hw := hwz zs[j] (List.getElem_mem hjz)
      rw [Lit.wf_int_iff] at hw
      have e1 : IntKind.min .u8 = 0 := rfl
      have e2 : IntKind.max .u8 = 255 := rfl
      rw [e1, e2] at hw
      unfold u8v
      rw [UInt8.toNat_ofNat']
      congr 2
      omega
    have hlen : ((zs.take n).map fun m => UInt8.ofNat m.toNat).length = n := by simp; omega
    refine ⟨(zs.take n).map fun m => UInt8.ofNat m.toNat, hlen, some a, c, ?_, ?_, hm, by simp, fun hne => ?_⟩
    · rw [List.length_map, hlen]
    · rw [List.length_map, hlen]; exact hl
    · have hpos : 0 < ((zs.take n).map fun m => UInt8.ofNat m.toNat).length := by
        exact List.length_pos_iff.2 (fun e => hne (by rw [e]; rfl))
      obtain ⟨u, hu⟩ : ∃ u, (((zs.take n).map fun m => UInt8.ofNat m.toNat).map u8v)[0]? = some u := ⟨_, List.getElem?_eq_getElem (by simpa using hpos)⟩
      obtain ⟨_, hu0⟩ := hx 0 u hu
      obtain ⟨b, off, spot⟩ := a
      have hspot : spot = none := by simpa [Addr.add] using World.cell?_spot hu0
      subst hspot
      have hu0' : w.cell? ⟨b, off, none⟩ = some u := by simpa [Addr.add] using hu0
      refine ⟨b, off, rfl, ?_, fun j u hu => ?_⟩
      · exact World.block_lt_of_cell? _ _ hu0'
      · have h2 := (hx j u hu).2
        unfold Addr.add at h2
        split at h2
        · subst_vars; simpa using h2
        · exact h2

theorem open_byt {r : Reach} {b0 : Nat} {t e : TypeId} {v : Value} {d : DataW H} {ps : List MemPlace} (ht : P.underlying t = some (.slice e)) (he : P.underlying e = some (.int .u8)) (hc : P.cellsOf e = 1) (hval : Value.okWide P w r b0 t v)
    (hd : DataW.Trod enc P w base (fun _ => true) true t v d ps) : ∃ xs : List UInt8, Byt w v xs := by
  obtain ⟨A, n, c, hv⟩ := okWide_slice ht hval
  obtain ⟨fuel, hf⟩ := hd
  obtain ⟨xs, _, h⟩ := byt_of_ints ht he hc hv hf
  exact ⟨xs, h⟩
end

theorem wf_i64' {n : Int} (h : (Lit.int .i64 n).wf = true) : -9223372036854775808 ≤ n ∧ n ≤ 9223372036854775807 := (Lit.wf_int_iff _ _).1 h
theorem wf_u32' {n : Int} (h : (Lit.int .u32 n).wf = true) : 0 ≤ n ∧ n ≤ 4294967295 := (Lit.wf_int_iff _ _).1 h
theorem wf_u8' {n : Int} (h : (Lit.int .u8 n).wf = true) : 0 ≤ n ∧ n ≤ 255 := (Lit.wf_int_iff _ _).1 h

end Go.Proofs.Ytomiapceefbmeaa
