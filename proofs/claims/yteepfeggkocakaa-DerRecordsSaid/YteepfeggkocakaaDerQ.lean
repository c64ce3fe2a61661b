/- Walks: data (printed by gendata.py). -/
import Derived.Test.YteepfeggkocakaaDerP
set_option linter.unusedVariables false
set_option linter.unusedSimpArgs false
set_option maxRecDepth 20000
namespace Go.Proofs.Yteepfeggkocakaa
open Go.RowKit Der

/-- Data that came in: a slice of structs of two cells. -/
def Dts (w : World) (v : Value) (ds : List (Int × List UInt8)) : Prop :=
  ∃ A c, v = .slice A ds.length c ∧ (ds ≠ [] → ∃ b off, ∃ us : List Value, A = some ⟨b, off, none⟩ ∧ b < w.heap.size ∧ us.length = ds.length ∧
    ∀ (j : Nat) (u : Value) (d : Int × List UInt8), us[j]? = some u → ds[j]? = some d → w.cell? ⟨b, off + j * 2, none⟩ = some (.int .i64 d.1) ∧ w.cell? ⟨b, off + j * 2 + 1, none⟩ = some u ∧ Byt w u d.2)
theorem Dts.below {w w' : World} {v : Value} {ds : List (Int × List UInt8)} (h : Dts w v ds) (hb : Below w.heap.size w w') : Dts w' v ds := by
  obtain ⟨A, c, rfl, h1⟩ := h
  refine ⟨A, c, rfl, fun hne => ?_⟩
  obtain ⟨b, off, us, rfl, hlt, hl, hx⟩ := h1 hne
  refine ⟨b, off, us, rfl, Nat.lt_of_lt_of_le hlt hb.size, hl, fun j u d hu hd => ?_⟩
  obtain ⟨g1, g2, g3⟩ := hx j u d hu hd
  exact ⟨(hb.cell (p := ⟨b, _, none⟩) hlt).trans g1, (hb.cell (p := ⟨b, _, none⟩) hlt).trans g2, g3.below hb⟩
theorem Dts.at_ {w : World} {v : Value} {ds : List (Int × List UInt8)} (h : Dts w v ds) {k : Nat} (hk : k < ds.length) :
    ∃ b off c u, v = .slice (some ⟨b, off, none⟩) ds.length c ∧ b < w.heap.size ∧ w.cell? ⟨b, off + k * 2, none⟩ = some (.int .i64 ds[k].1) ∧ w.cell? ⟨b, off + k * 2 + 1, none⟩ = some u ∧ Byt w u ds[k].2 := by
  obtain ⟨A, c, rfl, h1⟩ := h
  obtain ⟨b, off, us, rfl, hlt, hl, hx⟩ := h1 (by intro e; subst e; simp at hk)
  obtain ⟨g1, g2, g3⟩ := hx k _ _ (List.getElem?_eq_getElem (by omega)) (List.getElem?_eq_getElem hk)
  exact ⟨b, off, c, _, rfl, hlt, g1, g2, g3⟩
theorem Dts.len {w : World} {v : Value} {ds : List (Int × List UInt8)} (h : Dts w v ds) : ∃ A c, v = .slice A ds.length c := let ⟨A, c, h, _⟩ := h; ⟨A, c, h⟩

def datE (d : Int × List UInt8) : List UInt8 := recE [intE d.1, elem 4 d.2]
/-- The encoding of data. -/
def dataE (ds : List (Int × List UInt8)) : List UInt8 := if 16 < ds.length ∨ ∃ d ∈ ds, intE d.1 = [] then [] else elem 48 (ds.map datE).flatten
theorem datE_nil {d : Int × List UInt8} : datE d = [] ↔ intE d.1 = [] := by
  unfold datE recE
  by_cases h : intE d.1 = []
  · simp [h]
  · rw [if_neg (by simp [h, elem])]
    simp [h, elem]
theorem datE_length (d : Int × List UInt8) : (datE d).length ≤ d.2.length + 40 := by
  unfold datE recE
  split
  · simp
  · have h0 := elem_length 48 (tagsE 0 [intE d.1, elem 4 d.2]).flatten
    have h1 := intE_length d.1
    have h2 := elem_length 4 d.2
    have h3 := wrapE_length 160 0 (intE d.1)
    have h4 := wrapE_length 160 1 (elem 4 d.2)
    have e : (tagsE 0 [intE d.1, elem 4 d.2]).flatten.length = (wrapE 160 0 (intE d.1)).length + (wrapE 160 1 (elem 4 d.2)).length := by
      show (wrapE 160 0 (intE d.1) ++ (wrapE 160 1 (elem 4 d.2) ++ [])).length = _
      simp
    omega
theorem datE_mem (d : Int × List UInt8) (hn : (d.2.length : Int) ≤ 50000) : ∀ x ∈ [intE d.1, elem 4 d.2], (x.length : Int) ≤ 100000 := by
  have h1 := intE_length d.1
  have h3 := elem_length 4 d.2
  intro x hx
  simp only [List.mem_cons, List.not_mem_nil, or_false] at hx
  rcases hx with rfl | rfl <;> omega
theorem flat_le {xss : List (List UInt8)} (m : Nat) (h : ∀ (j : Nat) (hj : j < xss.length), xss[j].length ≤ m) : xss.flatten.length ≤ xss.length * m := by
  induction xss with
  | nil => simp
  | cons x xss ih =>
    have h0 := h 0 (by simp)
    have h1 := ih fun j hj => by have := h (j + 1) (by simpa using hj); simpa using this
    simp only [List.getElem_cons_zero] at h0
    simp only [List.flatten_cons, List.length_append, List.length_cons, Nat.succ_mul]
    omega
theorem dataE_flat (ds : List (Int × List UInt8)) (h16 : ds.length ≤ 16) (hn : ∀ d ∈ ds, (d.2.length : Int) ≤ 50000) : (((ds.map datE).flatten.length : Nat) : Int) ≤ 16777215 := by
  have h := flat_le (xss := ds.map datE) 50040 (fun j hj => by
    rw [List.getElem_map]
    have hj' : j < ds.length := by simpa using hj
    have h1 := datE_length ds[j]
    have h2 := hn _ (List.getElem_mem hj')
    omega)
  have h2 : (ds.map datE).length * 50040 ≤ 16 * 50040 := Nat.mul_le_mul_right _ (by simpa using h16)
  omega

/-- The state of the loop in 'Data': the encodings of the first k. -/
def DatSt (wr : World) (base : Nat) (v : Value) (ds : List (Int × List UInt8)) (k : Nat) : Prop :=
  ∃ us : List Value, us.length = k ∧ wr.ownsRow base 24 1 v k us ∧
    ∀ (j : Nat) (u : Value) (d : Int × List UInt8), us[j]? = some u → ds[j]? = some d → Byt wr u (datE d) ∧ (∀ b, v.ownBlock = some b → u.ownBlock ≠ some b) ∧ (∀ b, u.ownBlock = some b → b < wr.heap.size)

theorem DatSt.below {wr w' : World} {base : Nat} {v : Value} {ds : List (Int × List UInt8)} {k : Nat} (h : DatSt wr base v ds k) (hb : Below wr.heap.size wr w') : DatSt w' base v ds k := by
  obtain ⟨us, h1, h2, h3⟩ := h
  exact ⟨us, h1, own_below h2 hb, fun j u d hu hd => ⟨(h3 j u d hu hd).1.below hb, (h3 j u d hu hd).2.1, fun b hb' => Nat.lt_of_lt_of_le ((h3 j u d hu hd).2.2 b hb') hb.size⟩⟩
theorem sl_one (w : World) (u : Value) : Sl (w.alloc (.cells #[u] 24)) (.slice (some ⟨w.heap.size, 0, none⟩) 1 1) [u] := by
  have h := World.ownsRow_lit (base := 0) (e := 24) (size := 1) w #[u] 1 (Nat.zero_le _) (by simp [maxLen]) (by simp)
  exact Sl.of_own (base := 0) (e := 24) (n := 1) (by simpa using h)
theorem DatSt.add {w6 w7 : World} {o : Obj} {base B : Nat} {v v' : Value} {us : List Value} {ds : List (Int × List UInt8)} {k : Nat} {u : Value} {x : List UInt8} (hul : us.length = k)
    (hrow : w6.ownsRow base 24 1 v k us) (hus : ∀ (j : Nat) (u : Value) (d : Int × List UInt8), us[j]? = some u → ds[j]? = some d → Byt w6 u (datE d) ∧ (∀ b, v.ownBlock = some b → u.ownBlock ≠ some b) ∧ (∀ b, u.ownBlock = some b → b < w6.heap.size))
    (ho : OwnB w6 B u x) (hB : ∀ b, v.ownBlock = some b → b < B) (hx : ∀ d, ds[k]? = some d → datE d = x) (hrow' : w7.ownsRow base 24 1 v' (k + 1) (us ++ [u])) (hg : (w6.alloc o).grownBy w7 v.ownBlock)
    (hat : v'.ownBlock = v.ownBlock ∨ v'.ownBlock = some (w6.alloc o).heap.size) : DatSt w7 base v' ds (k + 1) := by
  have hsz : w6.heap.size ≤ w7.heap.size := Nat.le_trans (below1 o).size hg.size
  refine ⟨us ++ [u], by simp [hul], hrow', fun j y d hu hd => ?_⟩
  have key : ∀ (y : Value) (z : List UInt8), Byt w6 y z → (∀ b, v.ownBlock = some b → y.ownBlock ≠ some b) → (∀ b, y.ownBlock = some b → b < w6.heap.size) →
      Byt w7 y z ∧ (∀ b, v'.ownBlock = some b → y.ownBlock ≠ some b) ∧ (∀ b, y.ownBlock = some b → b < w7.heap.size) := by
    intro y z h1 h2 h3
    refine ⟨(h1.below (below1 o)).grown' hg (fun _ b e => h2 b e), fun b e e2 => ?_, fun b e => Nat.lt_of_lt_of_le (h3 b e) hsz⟩
    rcases hat with h | h
    · exact h2 b (h ▸ e) e2
    · rw [h] at e
      injection e with e
      have h4 := h3 b e2
      have h5 := (below1 (w := w6) o).size
      omega
  rcases Nat.lt_or_ge j k with h2 | h2
  · rw [List.getElem?_append_left (by omega)] at hu
    obtain ⟨g1, g2, g3⟩ := hus j y d hu hd
    exact key y _ g1 g2 g3
  · have : j = k := by
      have := (List.getElem?_eq_some_iff.1 hu).1
      simp [hul] at this
      omega
    subst this
    rw [List.getElem?_append_right (by omega), hul, Nat.sub_self] at hu
    simp at hu
    subst hu
    rw [hx d hd]
    exact key u x ho.byt (fun b e e2 => by have := hB b e; have := (ho.lt b e2).1; omega) (fun b e => (ho.lt b e).2)

set_option maxHeartbeats 6400000 in
theorem data_any (v : Value) (ds : List (Int × List UInt8)) (w : World) (h : Dts w v ds) (hl : (ds.length : Int) ≤ 1000000) (hn : ∀ d ∈ ds, (d.2.length : Int) ≤ 50000) :
    Calls Try.prog 37 #[v] w (RetB w (dataE ds)) := by
  obtain ⟨A, c, rfl⟩ := h.len
  have H := Lib.hid h
  have HN := Lib.hid hn
  clear h hn
  go_enter Try.func37, Try.ntmps37
  go_wp2_with fail
  go_loopw [3, 5, 6, 9] (fun o _ _ i wr => ∃ (k : Nat) (A : Option Addr) (c : Nat), k ≤ ds.length ∧ k ≤ 16 ∧ i = .int .i64 k ∧ o = .slice A k c ∧ DatSt wr w.heap.size (.slice A k c) ds k ∧ (∀ (j : Nat) (hj : j < ds.length), j < k → intE ds[j].1 ≠ []) ∧ Below w.heap.size w wr) (fun _ _ _ i _ => ds.length - (intOf i).toNat)
  case atStart => exact ⟨0, none, 0, Nat.zero_le _, Nat.zero_le _, rfl, rfl, ⟨[], rfl, World.ownsRow_nil _ _ _ _, by simp⟩, fun j _ hj => absurd hj (Nat.not_lt_zero _), Below.refl _ _⟩
  case round =>
    obtain ⟨k, A', c', hk, hk16, rfl, rfl, hst, hne, hb⟩ := hrel
    have HK := Lib.hid hst
    have HNE := Lib.hid hne
    have HB := Lib.hid hb
    clear hst hne hb
    by_cases hlt : k < ds.length
    · obtain ⟨b, off, c2, u, hA, hblt, hc0, hc1, hu⟩ := (H.out.below HB.out).at_ hlt
      injection hA with hA _ hc'
      subst hA hc'
      obtain ⟨Au, cu, rfl, _, _, _⟩ := hu.len
      have HD := Lib.hid (HN.out _ (List.getElem_mem hlt))
      have HDT : Hid (∀ x ∈ [intE ds[k].1, elem 4 ds[k].2], (x.length : Int) ≤ 100000) := Lib.hid (datE_mem _ HD.out)
      have HDE : Hid (datE ds[k] = recE [intE ds[k].1, elem 4 ds[k].2]) := Lib.hid rfl
      have hge : ds[k]? = some ds[k] := List.getElem?_eq_getElem hlt
      have HGE := Lib.hid hge
      have HNX : Hid (∀ d, ds[k]? = some d → d = ds[k]) := Lib.hid (fun d hd => by rw [hge] at hd; exact (Option.some.inj hd).symm)
      clear hge
      generalize hdk : ds[k] = d at *
      obtain ⟨kd, bd⟩ := d
      have HU : Hid (Byt wr (.slice Au bd.length cu) bd) := Lib.hid hu
      have HDK := Lib.hid hdk
      clear hu hdk
      have HD' : Hid ((bd.length : Int) ≤ 16777215) := Lib.hid (by have := HD.out; simp only [] at this; omega)
      clear HD
      simp only [] at hc0 hc1
      go_wp2_with fail
      refine region_road Later [(0, true), (1, true), (3, true), (4, true), (2, false), (5, false), (6, false), (7, false), (8, true)] (by kernel_rfl) (by kernel_rfl) (by kernel_rfl) (by kernel_rfl) (by kernel_rfl) (by kernel_rfl) later_refl later_trans (fun _ _ d _ _ h => by cases d <;> exact h) ?_
      have hrow : (wr.alloc (.cells #[.int .i64 kd, .slice Au bd.length cu] 53)).drew.heap[wr.heap.size]? = some (.cells #[.int .i64 kd, .slice Au bd.length cu] 53 (0, 0)) := heap_alloc_new wr _
      have hN2 : Hid (Below wr.heap.size wr (wr.alloc (.cells #[.int .i64 kd, .slice Au bd.length cu] 53)).drew) := Lib.hid (below1 _).drew
      have hlt2 : wr.heap.size < (wr.alloc (.cells #[.int .i64 kd, .slice Au bd.length cu] 53)).drew.heap.size := (Array.getElem?_eq_some_iff.1 hrow).1
      generalize (wr.alloc (.cells #[.int .i64 kd, .slice Au bd.length cu] 53)).drew = w2 at hrow hN2 hlt2 ⊢
      have hH : Hid (Byt w2 (.slice Au bd.length cu) bd) := Lib.hid (HU.out.below hN2.out)
      have q0 : Hid (w2.cell? ⟨wr.heap.size, 0, none⟩ = some (.int .i64 kd)) := Lib.hid (cell_is _ _ 0 _ _ _ hrow rfl)
      have q1 : Hid (w2.cell? ⟨wr.heap.size, 1, none⟩ = some (.slice Au bd.length cu)) := Lib.hid (cell_is _ _ 1 _ _ _ hrow rfl)
      clear hrow hc0 hc1
      refine seqR_at (o := ?_) ?_ ?_
      rotate_left
      · (conv => (lhs; whnf; arg 1; whnf))
      refine seqR_y (v := ?_) (by rfl) (fun W hW => ?_) ?_
      rotate_left
      · go_simp; try with_reducible rfl
      try simp only [Act.put, List.setIfInBounds_toArray, List.set_cons_zero, List.set_cons_succ]
      refine seqR_at (o := ?_) ?_ ?_
      rotate_left
      · (conv => (lhs; whnf; arg 1; whnf))
      refine seqR_y (v := ?_) (by rfl) (fun W hW => ?_) ?_
      rotate_left
      · have g0 := (Below.cell hW (p := ⟨wr.heap.size, 0, none⟩) hlt2).trans q0.out; have g1 := (Below.cell hW (p := ⟨wr.heap.size, 1, none⟩) hlt2).trans q1.out; go_simp; try with_reducible rfl
      try simp only [Act.put, List.setIfInBounds_toArray, List.set_cons_zero, List.set_cons_succ]
      refine seqR_at (o := ?_) ?_ ?_
      rotate_left
      · (conv => (lhs; whnf; arg 1; whnf))
      refine seqR_y (v := ?_) (by rfl) (fun W hW => ?_) ?_
      rotate_left
      · go_simp; try with_reducible rfl
      try simp only [Act.put, List.setIfInBounds_toArray, List.set_cons_zero, List.set_cons_succ]
      refine seqR_at (o := ?_) ?_ ?_
      rotate_left
      · (conv => (lhs; whnf; arg 1; whnf))
      refine seqR_y (v := ?_) (by rfl) (fun W hW => ?_) ?_
      rotate_left
      · have g0 := (Below.cell hW (p := ⟨wr.heap.size, 0, none⟩) hlt2).trans q0.out; have g1 := (Below.cell hW (p := ⟨wr.heap.size, 1, none⟩) hlt2).trans q1.out; go_simp; try with_reducible rfl
      try simp only [Act.put, List.setIfInBounds_toArray, List.set_cons_zero, List.set_cons_succ]
      refine seqR_at (o := ?_) ?_ ?_
      rotate_left
      · (conv => (lhs; whnf; arg 1; whnf))
      refine seqR_c (by rfl) (fun K hK => ?_)
      go_simp
      refine (integer_any kd _).mono ?_
      rintro e w3 ⟨v3, rfl, hown3, hb3⟩
      obtain ⟨A3, c3, rfl, _⟩ := hown3.byt.len
      have HB3 := Lib.hid hb3
      have HO3 := Lib.hid hown3.byt
      refine hK _ _ hb3 ?_
      clear hK hb3 hown3
      try simp only [Act.put, List.setIfInBounds_toArray, List.set_cons_zero, List.set_cons_succ]
      refine seqR_at (o := ?_) ?_ ?_
      rotate_left
      · (conv => (lhs; whnf; arg 1; whnf))
      refine seqR_c (by rfl) (fun K hK => ?_)
      go_simp
      refine (octets_any _ bd _ (hH.out.below HB3.out) HD'.out).mono ?_
      rintro e w4 ⟨v4, rfl, hown4, hb4⟩
      obtain ⟨A4, c4, rfl, _⟩ := hown4.byt.len
      have HB4 := Lib.hid hb4
      have HBS := Lib.hid (bss2 (w := w4) rfl (HO3.out.below HB4.out) hown4.byt)
      refine hK _ _ hb4 ?_
      clear hK hb4 hown4
      try simp only [Act.put, List.setIfInBounds_toArray, List.set_cons_zero, List.set_cons_succ]
      refine seqR_at (o := ?_) ?_ ?_
      rotate_left
      · (conv => (lhs; whnf; arg 1; whnf))
      refine seqR_c (by rfl) (fun K hK => ?_)
      go_simp
      have hb5 := below1 (w := w4) (.cells #[.slice A3 (intE kd).length c3, .slice A4 (elem 4 bd).length c4] 24)
      generalize w4.alloc (.cells #[.slice A3 (intE kd).length c3, .slice A4 (elem 4 bd).length c4] 24) = w5 at hb5 HBS ⊢
      have HB5 := Lib.hid hb5
      refine hK _ _ hb5 ?_
      clear hK hb5
      try simp only [Act.put, List.setIfInBounds_toArray, List.set_cons_zero, List.set_cons_succ]
      refine seqR_at (o := ?_) ?_ ?_
      rotate_left
      · (conv => (lhs; whnf; arg 1; whnf))
      refine seqR_c (by rfl) (fun K hK => ?_)
      go_simp
      refine (record_any _ _ _ HBS.out (by simp) HDT.out).mono ?_
      rintro e w6 ⟨v6, rfl, hown6, hb6⟩
      rw [← HDE.out] at hown6
      obtain ⟨A6, c6, rfl, _⟩ := hown6.byt.len
      have HB6 := Lib.hid hb6
      have HO6 := Lib.hid hown6
      refine hK _ _ hb6 ?_
      clear hK hb6 hown6
      try simp only [Act.put, List.setIfInBounds_toArray, List.set_cons_zero, List.set_cons_succ]
      refine seqR_at (o := ?_) ?_ ?_
      rotate_left
      · (conv => (lhs; whnf; arg 1; whnf))
      refine seqR_y (v := ?_) (by rfl) (fun W hW => ?_) ?_
      rotate_left
      · go_simp; try with_reducible rfl
      try simp only [Act.put, List.setIfInBounds_toArray, List.set_cons_zero, List.set_cons_succ]
      refine seqR_end ?_
      have HALL : Hid (Below wr.heap.size wr w6) := Lib.hid (by
        have h1 := hN2.out.trans (HB3.out.mono hN2.out.size)
        have h2 := h1.trans (HB4.out.mono h1.size)
        have h3 := h2.trans (HB5.out.mono h2.size)
        exact h3.trans (HB6.out.mono h3.size))
      have HO : Hid (OwnB w6 wr.heap.size (.slice A6 (datE (kd, bd)).length c6) (datE (kd, bd))) := Lib.hid (HO6.out.mono (by
        have h1 := hN2.out.trans (HB3.out.mono hN2.out.size)
        have h2 := h1.trans (HB4.out.mono h1.size)
        exact Nat.le_trans h2.size HB5.out.size))
      clear q0 q1 HB3 HB4 HB5 HB6 HO6 HBS HO3 hH hN2 hlt2
      by_cases hk0 : intE kd = []
      · have hd0 : datE (kd, bd) = [] := datE_nil.2 hk0
        rw [hd0] at HO ⊢
        have HR : Hid (dataE ds = []) := by
          unfold Hid dataE
          rw [if_pos]
          exact .inr ⟨_, List.getElem_mem hlt, by rw [HDK.out]; exact hk0⟩
        clear hk0 hd0
        go_wp2_with fail
        go_ret
        rw [HR.out]
        exact ⟨_, rfl, World.ownsRow_nil _ _ _ _, HB.out.trans (HALL.out.mono HB.out.size)⟩
      · have hd0 : datE (kd, bd) ≠ [] := fun e => hk0 (datE_nil.1 e)
        have hl0 : ((((datE (kd, bd)).length : Nat) : Int) == 0) = false := by rw [beq_eq_false_iff_ne]; intro e; exact hd0 (List.eq_nil_of_length_eq_zero (by omega))
        by_cases hk16' : k = 16
        · have HR : Hid (dataE ds = []) := by
            unfold Hid dataE
            rw [if_pos]
            exact .inl (by omega)
          subst hk16'
          clear hk0 hd0
          go_wp2_with fail
          go_ret
          rw [HR.out]
          exact ⟨_, rfl, World.ownsRow_nil _ _ _ _, HB.out.trans (HALL.out.mono HB.out.size)⟩
        · have hk16b : ((k : Int) == 16) = false := by rw [beq_eq_false_iff_ne]; omega
          have hKI : (k : Int) ≤ 16 := by omega
          have HBZ : Hid (Below w.heap.size w w6) := Lib.hid (HB.out.trans (HALL.out.mono HB.out.size))
          have HK6 : Hid (DatSt w6 w.heap.size (.slice A' k c') ds k) := Lib.hid (HK.out.below HALL.out)
          have HNE2 : Hid (∀ (j : Nat) (hj : j < ds.length), j < k + 1 → intE ds[j].1 ≠ []) := Lib.hid (fun j hj hjk => by
            rcases Nat.lt_or_ge j k with h1 | h1
            · exact HNE.out j hj h1
            · obtain rfl : j = k := by omega
              rw [HDK.out]
              exact hk0)
          obtain ⟨us, hul, hrow, hus⟩ := HK6.out
          have hvB : Hid (∀ b, (Value.slice A' k c').ownBlock = some b → b < wr.heap.size) := Lib.hid (fun b e => (HK.out.choose_spec.2.1.lt b e).2)
          have HUL := Lib.hid hul
          have HADD := Lib.hid (fun (w7 : World) (v' : Value) h1 h2 h3 => DatSt.add (w7 := w7) (v' := v') (o := .cells #[.slice A6 (datE (kd, bd)).length c6] 24) hul hrow hus HO.out hvB.out (fun d hd => by rw [HNX.out d hd]) h1 h2 h3)
          have HROW := Lib.hid (own_below hrow (below1 (.cells #[.slice A6 (datE (kd, bd)).length c6] 24)))
          clear hk0 hd0 HALL HB HK HK6 hul hrow hus
          go_wp2_with (at_builtin; refine wpl_append rfl (.tmp 29) (.tmp 31) 22 rfl eiBs w.heap.size (.slice A' k c') k us rfl HROW.out _ _ rfl (sl_one w6 (.slice A6 (datE (kd, bd)).length c6)) (by simp [Value.oneCell']) (by simp [maxLen]; omega) (by simp; omega) (Nat.le_trans HBZ.out.size (below1 _).size) ?_; intro v7 w7 hrow7 hg7 hat7; have HST7 := Lib.hid (HADD.out w7 v7 hrow7 hg7 hat7); have HB7 := Lib.hid ((HBZ.out.trans ((below1 _).mono HBZ.out.size)).trans (below_of_own HROW.out hg7 (Nat.le_trans HBZ.out.size (below1 _).size))); have hlen7 := (Sl.of_own hrow7).len; rw [List.length_append, HUL.out] at hlen7; obtain ⟨A7, c7, rfl⟩ := hlen7; clear hrow7 hg7 hat7 HADD HROW)
          go_roundw
          case rel => exact ⟨k + 1, A7, c7, by omega, by omega, by go_num, rfl, HST7.out, HNE2.out, HB7.out⟩
          case measure => simp [intOf]; omega
    · obtain rfl : k = ds.length := by omega
      obtain ⟨us, hul, hrow, hus⟩ := HK.out
      have HBS : Hid (Bss wr (.slice A' ds.length c') (ds.map datE)) := Lib.hid ⟨us, by simp [hul], Sl.of_own hrow, fun j u x hu hx => by
        rw [List.getElem?_map] at hx
        obtain ⟨d, hd, rfl⟩ := Option.map_eq_some_iff.1 hx
        exact (hus j u d hu hd).1⟩
      have HR : Hid (dataE ds = elem 48 (ds.map datE).flatten) := by
        unfold Hid dataE
        rw [if_neg]
        rintro (h1 | ⟨d, hd, h2⟩)
        · omega
        · obtain ⟨j, hj, rfl⟩ := List.mem_iff_getElem.1 hd
          exact HNE.out j hj hj h2
      have HF := Lib.hid (dataE_flat ds hk16 HN.out)
      clear hul hrow hus HK HNE
      go_wp2_with fail
      refine (sequence_any _ (ds.map datE) wr HBS.out (by rw [List.length_map]; exact small_lim (by omega)) HF.out).mono ?_
      rintro e w2 ⟨v2, rfl, hown2, hb2⟩
      go_wp2_with fail
      go_ret
      rw [HR.out]
      exact RetB.of HB.out hown2 hb2

end Go.Proofs.Yteepfeggkocakaa
