/- Walks: record, keys and sealed strings (printed by genrec.py). -/
import Derived.Test.YteepfeggkocakaaDerL1
set_option linter.unusedVariables false
set_option linter.unusedSimpArgs false
set_option maxRecDepth 20000
namespace Go.Proofs.Yteepfeggkocakaa
open Go.RowKit Der

/-- Elements, numbered and tagged. -/
def tagsE : Nat → List (List UInt8) → List (List UInt8)
  | _, [] => []
  | i, x :: xs => wrapE 160 (i : Int) x :: tagsE (i + 1) xs
theorem tagsE_length (i : Nat) (xss : List (List UInt8)) : (tagsE i xss).length = xss.length := by
  induction xss generalizing i with
  | nil => rfl
  | cons x xs ih => simp [tagsE, ih]
theorem tagsE_get (i : Nat) (xss : List (List UInt8)) (j : Nat) : (tagsE i xss)[j]? = (xss[j]?).map (wrapE 160 ((i + j : Nat) : Int)) := by
  induction xss generalizing i j with
  | nil => rfl
  | cons x xs ih =>
    cases j with
    | zero => simp [tagsE]
    | succ j =>
      simp only [tagsE, List.getElem?_cons_succ, ih]
      rw [show i + 1 + j = i + (j + 1) from by omega]
/-- A record: a sequence of them; empty if one of them is. -/
def recE (xss : List (List UInt8)) : List UInt8 := if xss.any (·.isEmpty) then [] else elem 48 (tagsE 0 xss).flatten
theorem wrapE_length (tag n : Int) (xs : List UInt8) : (wrapE tag n xs).length ≤ xs.length + 5 := by
  unfold wrapE
  split
  · simp
  · exact elem_length _ _
theorem tagsE_flat (i : Nat) (xss : List (List UInt8)) (m : Nat) (h : ∀ x ∈ xss, x.length ≤ m) : (tagsE i xss).flatten.length ≤ xss.length * (m + 5) := by
  induction xss generalizing i with
  | nil => simp [tagsE]
  | cons x xs ih =>
    have h0 := h x (by simp)
    have h1 := ih (i + 1) fun y hy => h y (by simp [hy])
    have h2 := wrapE_length 160 (i : Int) x
    simp only [tagsE, List.flatten_cons, List.length_append, List.length_cons, Nat.succ_mul]
    omega

/-- The state of the loop in 'record': k elements are there, the others are nil. -/
def RecSt (wr : World) (base n : Nat) (xss : List (List UInt8)) (k : Nat) : Prop :=
  ∃ us : List Value, us.length = k ∧ wr.ownsRow base 24 1 (.slice (some ⟨base, 0, none⟩) n n) n (us ++ List.replicate (n - k) (.slice none 0 0)) ∧
    ∀ (j : Nat) (u : Value) (x : List UInt8), us[j]? = some u → (tagsE 0 xss)[j]? = some x → Byt wr u x ∧ u.ownBlock ≠ some base

theorem RecSt.add {wr w2 : World} {base n : Nat} {xss : List (List UInt8)} {k : Nat} {A : Option Addr} {c : Nat} (h : RecSt wr base n xss k) (hk : k < n) (hb : Below wr.heap.size wr w2) {x : List UInt8} {m : Nat}
    (ho : OwnB w2 wr.heap.size (.slice A m c) x) (hx : ∀ y, (tagsE 0 xss)[k]? = some y → y = x) : RecSt (w2.setCell ⟨base, k, none⟩ (.slice A m c)) base n xss (k + 1) := by
  obtain ⟨us, hul, hrow, hus⟩ := h
  have hbase : base < wr.heap.size := (hrow.lt base rfl).2
  have hrow2 := own_below hrow hb
  obtain ⟨h1, hg⟩ := hrow2.stored k (.slice A m c)
  have hoB : (Value.slice A m c).ownBlock ≠ some base := fun e => by have := (ho.lt base e).1; omega
  refine ⟨us ++ [.slice A m c], by simp [hul], ?_, fun j u y hu hy => ?_⟩
  · rw [show us ++ [Value.slice A m c] ++ List.replicate (n - (k + 1)) (Value.slice none 0 0) = (us ++ List.replicate (n - k) (Value.slice none 0 0)).set k (.slice A m c) from ?_]
    · exact h1
    · rw [List.set_append_right _ _ (by omega), hul, Nat.sub_self, show n - k = (n - (k + 1)) + 1 from by omega, List.replicate_succ, List.set_cons_zero, List.append_assoc]
      rfl
  · rcases Nat.lt_or_ge j k with h2 | h2
    · rw [List.getElem?_append_left (by omega)] at hu
      obtain ⟨g1, g2⟩ := hus j u y hu hy
      exact ⟨(g1.below hb).grown' hg (fun _ b e => by injection e with e; subst e; exact g2), g2⟩
    · have : j = k := by
        have := (List.getElem?_eq_some_iff.1 hu).1
        simp [hul] at this
        omega
      subst this
      rw [List.getElem?_append_right (by omega), hul, Nat.sub_self] at hu
      simp at hu
      subst hu
      rw [hx y hy]
      exact ⟨ho.byt.grown' hg (fun _ b e => by injection e with e; subst e; exact hoB), hoB⟩

set_option maxHeartbeats 3200000 in
theorem record_any (v : Value) (xss : List (List UInt8)) (w : World) (h : Bss w v xss) (hl : (xss.length : Int) ≤ 30) (hn : ∀ x ∈ xss, (x.length : Int) ≤ 100000) :
    Calls Try.prog 67 #[v] w (RetB w (recE xss)) := by
  obtain ⟨A, c, rfl⟩ := h.len
  have H := Lib.hid h
  have HN := Lib.hid hn
  have HF : Hid (((tagsE 0 xss).flatten.length : Int) ≤ 16777215) := Lib.hid (by
    have h1 := tagsE_flat 0 xss 100000 (fun x hx => by have := hn x hx; omega)
    have h2 : xss.length * (100000 + 5) ≤ 30 * (100000 + 5) := Nat.mul_le_mul_right _ (by omega)
    omega)
  obtain ⟨i0, hi, hz0, hz1, hz2⟩ := info_parts infoBs
  clear h hn
  go_enter Try.func67, Try.ntmps67
  go_wp2_with (refine wpList_make_full _ rfl (.tmp 7) (.tmp 7) 22 rfl w.heap.size 24 i0 (.slice none 0 0) 1 Try.underlying22 hi hz0 hz1 .i64 .i64 (xss.length : Int) (xss.length : Int) xss.length rfl rfl rfl rfl (by rw [hz2]; omega) (by unfold maxLen; omega) (Nat.le_refl _) ?_; intro w1 hown1 hg1)
  have hb1 : Below w.heap.size w w1 := below_of_none hg1 (Nat.le_refl _)
  have hst : RecSt w1 w.heap.size xss.length xss 0 := ⟨[], rfl, by simpa [Value.cells, toList_madeCells_one] using hown1, by simp⟩
  have HST := Lib.hid hst
  have HB1 := Lib.hid hb1
  clear hown1 hg1 hst hb1 hi hz0 hz1 hz2
  go_wp2_with fail
  go_loopw [4, 5, 11] (fun _ _ i wr => ∃ k : Nat, k ≤ xss.length ∧ i = .int .i64 k ∧ RecSt wr w.heap.size xss.length xss k ∧ (∀ (j : Nat) (hj : j < xss.length), j < k → xss[j] ≠ []) ∧ Below w.heap.size w wr) (fun _ _ i _ => xss.length - (intOf i).toNat)
  case atStart => exact ⟨0, Nat.zero_le _, rfl, HST.out, fun j _ hj => absurd hj (Nat.not_lt_zero _), HB1.out⟩
  case round =>
    obtain ⟨k, hk, rfl, hst, hne, hb⟩ := hrel
    have HK := Lib.hid hst
    have HNE := Lib.hid hne
    have HB := Lib.hid hb
    clear hst hne hb HST HB1
    by_cases hlt : k < xss.length
    · obtain ⟨b, off, c2, u, hA, _, hc, hu⟩ := (H.out.below HB.out).at_ hlt
      injection hA with hA _ hc'
      subst hA hc'
      obtain ⟨Au, cu, rfl, _, _, _⟩ := hu.len
      have HU := Lib.hid hu
      have HL : Hid ((xss[k].length : Int) ≤ 16777215) := Lib.hid (by have := HN.out _ (List.getElem_mem hlt); omega)
      clear hu
      by_cases h0 : xss[k].length = 0
      · have he : Hid (recE xss = []) := by
          unfold Hid recE
          rw [if_pos]
          rw [List.any_eq_true]
          exact ⟨_, List.getElem_mem hlt, by rw [List.isEmpty_iff]; exact List.eq_nil_of_length_eq_zero h0⟩
        rw [h0] at hc
        go_wp2_with fail
        go_ret
        rw [he.out]
        exact ⟨_, rfl, World.ownsRow_nil _ _ _ _, HB.out⟩
      · have h0' : ((xss[k].length : Int) == 0) = false := by rw [beq_eq_false_iff_ne]; omega
        go_wp2_with fail
        refine (tagged_any (k : Int) _ xss[k] wr HU.out HL.out).mono ?_
        rintro e w2 ⟨v2, rfl, hown2, hb2⟩
        obtain ⟨A2, c2, rfl, _⟩ := hown2.byt.len
        have hrow := (own_below HK.out.choose_spec.2.1 hb2)
        have hst2 : RecSt (w2.setCell ⟨w.heap.size, k, none⟩ (.slice A2 (wrapE 160 (k : Int) xss[k]).length c2)) w.heap.size xss.length xss (k + 1) := RecSt.add HK.out hlt hb2 hown2 (fun y hy => by rw [tagsE_get, List.getElem?_eq_getElem hlt] at hy; simpa using hy.symm)
        have hf := hrow.frozenAt k
        obtain ⟨x0, hc3⟩ : ∃ x, w2.cell? ⟨w.heap.size, k, none⟩ = some x := by
          rw [hrow.cellAt k (by omega)]
          exact ⟨_, List.getElem?_eq_getElem (by have := hrow.1; omega)⟩
        have HST2 := Lib.hid hst2
        have HB2 := Lib.hid (HB.out.trans (hb2.mono HB.out.size))
        have HNE2 : Hid (∀ (j : Nat) (hj : j < xss.length), j < k + 1 → xss[j] ≠ []) := Lib.hid (fun j hj hjk => by
          rcases Nat.lt_or_ge j k with h1 | h1
          · exact HNE.out j hj h1
          · obtain rfl : j = k := by omega
            intro e
            rw [e] at h0
            exact h0 rfl)
        clear hrow hst2 hown2 hb2 HK
        go_wp2_with fail
        go_roundw
        case rel => exact ⟨k + 1, by omega, by go_num, HST2.out, HNE2.out, HB2.out.setCell (Nat.le_refl _) _⟩
        case measure => simp [intOf]; omega
    · obtain rfl : k = xss.length := by omega
      obtain ⟨us, hul, hrow, hus⟩ := HK.out
      have hbss : Bss wr (.slice (some ⟨w.heap.size, 0, none⟩) xss.length xss.length) (tagsE 0 xss) := by
        refine ⟨us, by rw [hul, tagsE_length], ?_, fun j u x hu hx => (hus j u x hu hx).1⟩
        have h1 := Sl.of_own hrow
        simpa using h1
      have HBS := Lib.hid hbss
      have hre : recE xss = elem 48 (tagsE 0 xss).flatten := by
        unfold recE
        rw [if_neg]
        rw [List.any_eq_true]
        rintro ⟨x, hx, he⟩
        obtain ⟨j, hj, rfl⟩ := List.mem_iff_getElem.1 hx
        exact HNE.out j hj hj (by simpa [List.isEmpty_iff] using he)
      have HRE := Lib.hid hre
      clear hul hrow hus hbss hre HK HNE
      go_wp2_with fail
      refine (sequence_any _ (tagsE 0 xss) wr HBS.out (by rw [tagsE_length]; exact small_lim (by omega)) HF.out).mono ?_
      rintro e w2 ⟨v2, rfl, hown2, hb2⟩
      go_wp2_with fail
      go_ret
      rw [HRE.out]
      exact RetB.of HB.out hown2 hb2

end Go.Proofs.Yteepfeggkocakaa
