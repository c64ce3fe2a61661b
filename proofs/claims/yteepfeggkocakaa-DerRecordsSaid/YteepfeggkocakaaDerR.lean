/- Walk: the reference's Data (printed by genrdata.py). -/
import Derived.Test.YteepfeggkocakaaDerQ
set_option linter.unusedVariables false
set_option linter.unusedSimpArgs false
set_option maxRecDepth 20000
namespace Go.Proofs.Yteepfeggkocakaa
open Go.RowKit Der

/-- append of bytes, as one operation. -/
theorem opwp_append_b {P : Program} {w : World} {o : Oper} {a : Act} {K : Act → World → Prop} {Q : Exit → Act → World → Prop} (s x : Operand) (t : TypeId)
    (ho : o.op = .call { callee := .builtin .append, args := #[s, x], argTypes := #[t, t] }) {z : Value} (E : EI P t 5 z 1)
    (base : Nat) (v : Value) (xs : List UInt8) (hs : a.eval s = v) (hown : OwnB w base v xs) (y : Value) (ys : List UInt8) (hx : a.eval x = y) (hy : Byt w y ys)
    (hlen : xs.length + ys.length ≤ lim) (hbase : base ≤ w.heap.size)
    (h : ∀ (A : Option Addr) (c : Nat) w', OwnB w' base (.slice A (xs.length + ys.length) c) (xs ++ ys) → w.grownBy w' v.ownBlock → K (a.put o.dst (.slice A (xs.length + ys.length) c)) w') :
    o.wp P a w K Q := by
  obtain ⟨v', w', hrun, h2, h3, h4⟩ := run_append_sl (P := P) (ty := o.type) E base v xs.length (xs.map u8v) hown y (ys.map u8v) hy (oneCell_bytes ys) (by have := lim_le hlen; simp [maxLen]; omega) (by have := lim_le hlen; simp; omega) hbase
  have g4 : OwnB w' base v' (xs ++ ys) := by
    unfold OwnB
    rw [List.length_append, List.map_append]
    simpa using h2
  obtain ⟨A, c, rfl, _⟩ := g4.byt.len
  rw [List.length_append] at *
  unfold Oper.wp execOp
  simp only [ho, resolve, invoke, builtin, Sem.run_bind, Sem.run_pure, Result.andThen_ok, List.map_toArray, List.map_cons, List.map_nil, hs, hx, hrun]
  exact h A c w' g4 h3

theorem datE_some {kd : Int} {bd : List UInt8} (h : intE kd ≠ []) : datE (kd, bd) = elem 48 [wrapE 160 0 (intE kd), wrapE 160 1 (elem 4 bd)].flatten := by
  unfold datE recE
  rw [if_neg]
  · rfl
  · simp [h, elem]
theorem dat_flat (kd : Int) (bd : List UInt8) (hn : (bd.length : Int) ≤ 50000) : (([wrapE 160 0 (intE kd), wrapE 160 1 (elem 4 bd)].flatten.length : Nat) : Int) ≤ 16777215 := by
  have h1 := intE_length kd
  have h3 := elem_length 4 bd
  have g1 := wrapE_length 160 0 (intE kd)
  have g3 := wrapE_length 160 1 (elem 4 bd)
  simp only [List.flatten_cons, List.flatten_nil, List.length_append, List.length_nil]
  omega
theorem flen_dat (ds : List (Int × List UInt8)) (k : Nat) (hk : k < ds.length) (d : Int × List UInt8) (hd : ds[k] = d) : flen (ds.map datE) (k + 1) = flen (ds.map datE) k + (datE d).length := by
  rw [flen_succ _ _ (by simpa using hk)]
  simp [hd]
theorem flat_dat (ds : List (Int × List UInt8)) (k : Nat) (hk : k < ds.length) (d : Int × List UInt8) (hd : ds[k] = d) : ((ds.map datE).take (k + 1)).flatten = ((ds.map datE).take k).flatten ++ datE d := by
  rw [flat_take _ _ (by simpa using hk)]
  simp [hd]
theorem flen_dat_le (ds : List (Int × List UInt8)) (k : Nat) (hk : k ≤ 16) (hn : ∀ d ∈ ds, (d.2.length : Int) ≤ 50000) : ((flen (ds.map datE) k : Nat) : Int) ≤ 800640 := by
  have h := flat_le (xss := (ds.map datE).take k) 50040 (fun j hj => by
    have hj' : j < ds.length := by simp at hj; omega
    have h1 := datE_length ds[j]
    have h2 := hn _ (List.getElem_mem hj')
    simp only [List.getElem_take, List.getElem_map]
    omega)
  have h2 : ((ds.map datE).take k).length * 50040 ≤ 16 * 50040 := Nat.mul_le_mul_right _ (by simp; omega)
  unfold flen
  omega

set_option maxHeartbeats 6400000 in
theorem r_data_any (v : Value) (ds : List (Int × List UInt8)) (w : World) (h : Dts w v ds) (hl : (ds.length : Int) ≤ 1000000) (hn : ∀ d ∈ ds, (d.2.length : Int) ≤ 50000) (h64 : ∀ d ∈ ds, -9223372036854775808 ≤ d.1 ∧ d.1 ≤ 9223372036854775807) :
    Calls Try.prog 38 #[v] w (RetB w (dataE ds)) := by
  obtain ⟨A, c, rfl⟩ := h.len
  have H := Lib.hid h
  have HN := Lib.hid hn
  have H64 := Lib.hid h64
  clear h hn h64
  go_enter Try.func38, Try.ntmps38
  go_wp2_with fail
  go_loopw [3, 4] (fun o i wr => ∃ (k : Nat) (A : Option Addr) (c : Nat), k ≤ ds.length ∧ k ≤ 16 ∧ i = .int .i64 k ∧ o = .slice A (flen (ds.map datE) k) c ∧ OwnB wr w.heap.size (.slice A (flen (ds.map datE) k) c) ((ds.map datE).take k).flatten ∧ (∀ (j : Nat) (hj : j < ds.length), j < k → intE ds[j].1 ≠ []) ∧ Below w.heap.size w wr) (fun _ i _ => ds.length - (intOf i).toNat)
  case atStart => exact ⟨0, none, 0, Nat.zero_le _, Nat.zero_le _, rfl, rfl, World.ownsRow_nil _ _ _ _, fun j _ hj => absurd hj (Nat.not_lt_zero _), Below.refl _ _⟩
  case round =>
    obtain ⟨k, A', c', hk, hk16, rfl, rfl, hst, hne, hb⟩ := hrel
    have HK := Lib.hid hst
    have HNE := Lib.hid hne
    have HB := Lib.hid hb
    clear hst hne hb
    by_cases hlt : k < ds.length
    · obtain ⟨b, off, c2, u, hA, hblt, hq0, hq1, hu⟩ := H.out.at_ hlt
      injection hA with hA _ hc'
      subst hA hc'
      obtain ⟨Au, cu, rfl, _, _, _⟩ := hu.len
      have HD := Lib.hid (HN.out _ (List.getElem_mem hlt))
      have HI := Lib.hid (H64.out _ (List.getElem_mem hlt))
      have hge : ds[k]? = some ds[k] := List.getElem?_eq_getElem hlt
      have HFL := Lib.hid (fun d hd => flen_dat ds k hlt d hd)
      have HFT := Lib.hid (fun d hd => flat_dat ds k hlt d hd)
      clear hge
      generalize hdk : ds[k] = d at *
      obtain ⟨kd, bd⟩ := d
      have hFL := Lib.hid (HFL.out _ rfl)
      have hFT := Lib.hid (HFT.out _ rfl)
      have HU : Hid (Byt w (.slice Au bd.length cu) bd) := Lib.hid hu
      have HDK := Lib.hid hdk
      have HDL : Hid ((bd.length : Int) ≤ 50000) := Lib.hid HD.out
      clear hu hdk HD HFL HFT
      have HD' : Hid ((bd.length : Int) ≤ 16777215) := Lib.hid (by have := HDL.out; omega)
      have HLP : Hid (((intE kd).length : Int) ≤ 16777215) := Lib.hid (by have := intE_length kd; omega)
      have HLO : Hid (((elem 4 bd).length : Int) ≤ 16777215) := Lib.hid (by have := elem_length 4 bd; have := HDL.out; omega)
      have HDF := Lib.hid (dat_flat kd bd HDL.out)
      have q0 : Hid (w.cell? ⟨b, off + k * 2, none⟩ = some (.int .i64 kd)) := Lib.hid hq0
      have q1 : Hid (w.cell? ⟨b, off + k * 2 + 1, none⟩ = some (.slice Au bd.length cu)) := Lib.hid hq1
      clear hq0 hq1
      have hc0 := (HB.out.cell (p := ⟨b, off + k * 2, none⟩) hblt).trans q0.out
      go_wp2_with fail
      refine (r_integer_any kd wr HI.out.1 HI.out.2).mono ?_
      rintro e w1 ⟨v1, rfl, hown1, hb1⟩
      obtain ⟨A1, c1, rfl, _⟩ := hown1.byt.len
      have HB1 := Lib.hid (HB.out.trans (hb1.mono HB.out.size))
      have HK1 := Lib.hid (HK.out.below hb1)
      clear hc0 hown1 hb1 HB HK
      by_cases hk0 : intE kd = []
      · have HR : Hid (dataE ds = []) := by
          unfold Hid dataE
          rw [if_pos]
          exact .inr ⟨_, List.getElem_mem hlt, by rw [HDK.out]; exact hk0⟩
        rw [hk0]
        clear hk0
        go_wp2_with fail
        go_ret
        rw [HR.out]
        exact ⟨_, rfl, World.ownsRow_nil _ _ _ _, HB1.out⟩
      · have hl0 : ((((intE kd).length : Nat) : Int) == 0) = false := by rw [beq_eq_false_iff_ne]; intro e; exact hk0 (List.eq_nil_of_length_eq_zero (by omega))
        by_cases hk16' : k = 16
        · have HR : Hid (dataE ds = []) := by
            unfold Hid dataE
            rw [if_pos]
            exact .inl (by omega)
          have hk16i : ((k : Int) == 16) = true := by rw [beq_iff_eq]; omega
          clear hk0
          go_wp2_with fail
          go_ret
          rw [HR.out]
          exact ⟨_, rfl, World.ownsRow_nil _ _ _ _, HB1.out⟩
        · have hk16b : ((k : Int) == 16) = false := by rw [beq_eq_false_iff_ne]; omega
          have hKI : (k : Int) ≤ 16 := by omega
          have HNE2 : Hid (∀ (j : Nat) (hj : j < ds.length), j < k + 1 → intE ds[j].1 ≠ []) := Lib.hid (fun j hj hjk => by
            rcases Nat.lt_or_ge j k with h1 | h1
            · exact HNE.out j hj h1
            · obtain rfl : j = k := by omega
              rw [HDK.out]
              exact hk0)
          have HDS := Lib.hid (datE_some (bd := bd) hk0)
          have HLEN : Hid (flen (ds.map datE) k + (datE (kd, bd)).length ≤ lim) := Lib.hid (small_lim (by
            have h1 := flen_dat_le ds k hk16 HN.out
            have h2 := datE_length (kd, bd)
            have h3 := HDL.out
            simp only [] at h2
            omega))
          clear hk0
          go_wp2_with fail
          refine region_road (Below w.heap.size) [(0, true), (1, true), (2, true), (3, true), (4, true), (5, true), (8, true), (9, true), (10, true), (11, true), (12, true), (6, false), (7, false), (13, false), (14, false), (15, false), (16, false), (17, false), (18, true)] (by kernel_rfl) (by kernel_rfl) (by kernel_rfl) (by kernel_rfl) (by kernel_rfl) (by kernel_rfl) (Below.refl _) (fun _ _ _ h k => h.trans k) (fun _ _ d _ _ h => by cases d <;> exact h) ?_
          have hB2 : Hid (Below w.heap.size w w1.drew) := Lib.hid HB1.out.drew
          have hK2 : Hid (OwnB w1.drew w.heap.size (.slice A' (flen (ds.map datE) k) c') ((ds.map datE).take k).flatten) := HK1
          generalize w1.drew = w2 at hB2 hK2 ⊢
          clear HB1 HK1
          refine seqR_at (o := ?_) ?_ ?_
          rotate_left
          · (conv => (lhs; whnf; arg 1; whnf))
          refine seqR_y (v := ?_) (by rfl) (fun W hW => ?_) ?_
          rotate_left
          · go_simp; try with_reducible rfl
          try simp only [Act.put, List.setIfInBounds_toArray, List.set_cons_zero, List.set_cons_succ]
          refine seqR_at (o := ?_) ?_ ?_
          rotate_left
          · (conv => (lhs; whnf; arg 1; whnf))
          refine seqR_y (v := ?_) (by rfl) (fun W hW => ?_) ?_
          rotate_left
          · go_simp; try with_reducible rfl
          try simp only [Act.put, List.setIfInBounds_toArray, List.set_cons_zero, List.set_cons_succ]
          refine seqR_at (o := ?_) ?_ ?_
          rotate_left
          · (conv => (lhs; whnf; arg 1; whnf))
          refine seqR_y (v := ?_) (by rfl) (fun W hW => ?_) ?_
          rotate_left
          · go_simp; try with_reducible rfl
          try simp only [Act.put, List.setIfInBounds_toArray, List.set_cons_zero, List.set_cons_succ]
          refine seqR_at (o := ?_) ?_ ?_
          rotate_left
          · (conv => (lhs; whnf; arg 1; whnf))
          refine seqR_y (v := ?_) (by rfl) (fun W hW => ?_) ?_
          rotate_left
          · go_simp; try with_reducible rfl
          try simp only [Act.put, List.setIfInBounds_toArray, List.set_cons_zero, List.set_cons_succ]
          refine seqR_at (o := ?_) ?_ ?_
          rotate_left
          · (conv => (lhs; whnf; arg 1; whnf))
          refine seqR_y (v := ?_) (by rfl) (fun W hW => ?_) ?_
          rotate_left
          · go_simp; try with_reducible rfl
          try simp only [Act.put, List.setIfInBounds_toArray, List.set_cons_zero, List.set_cons_succ]
          refine seqR_at (o := ?_) ?_ ?_
          rotate_left
          · (conv => (lhs; whnf; arg 1; whnf))
          refine seqR_y (v := ?_) (by rfl) (fun W hW => ?_) ?_
          rotate_left
          · have g0 := (Below.cell (hB2.out.trans hW) (p := ⟨b, off + k * 2, none⟩) hblt).trans q0.out; have g1 := (Below.cell (hB2.out.trans hW) (p := ⟨b, off + k * 2 + 1, none⟩) hblt).trans q1.out; go_simp; try with_reducible rfl
          try simp only [Act.put, List.setIfInBounds_toArray, List.set_cons_zero, List.set_cons_succ]
          refine seqR_at (o := ?_) ?_ ?_
          rotate_left
          · (conv => (lhs; whnf; arg 1; whnf))
          refine seqR_y (v := ?_) (by rfl) (fun W hW => ?_) ?_
          rotate_left
          · go_simp; try with_reducible rfl
          try simp only [Act.put, List.setIfInBounds_toArray, List.set_cons_zero, List.set_cons_succ]
          refine seqR_at (o := ?_) ?_ ?_
          rotate_left
          · (conv => (lhs; whnf; arg 1; whnf))
          refine seqR_y (v := ?_) (by rfl) (fun W hW => ?_) ?_
          rotate_left
          · go_simp; try with_reducible rfl
          try simp only [Act.put, List.setIfInBounds_toArray, List.set_cons_zero, List.set_cons_succ]
          refine seqR_at (o := ?_) ?_ ?_
          rotate_left
          · (conv => (lhs; whnf; arg 1; whnf))
          refine seqR_y (v := ?_) (by rfl) (fun W hW => ?_) ?_
          rotate_left
          · go_simp; try with_reducible rfl
          try simp only [Act.put, List.setIfInBounds_toArray, List.set_cons_zero, List.set_cons_succ]
          refine seqR_at (o := ?_) ?_ ?_
          rotate_left
          · (conv => (lhs; whnf; arg 1; whnf))
          refine seqR_y (v := ?_) (by rfl) (fun W hW => ?_) ?_
          rotate_left
          · go_simp; try with_reducible rfl
          try simp only [Act.put, List.setIfInBounds_toArray, List.set_cons_zero, List.set_cons_succ]
          refine seqR_at (o := ?_) ?_ ?_
          rotate_left
          · (conv => (lhs; whnf; arg 1; whnf))
          refine seqR_y (v := ?_) (by rfl) (fun W hW => ?_) ?_
          rotate_left
          · have g0 := (Below.cell (hB2.out.trans hW) (p := ⟨b, off + k * 2, none⟩) hblt).trans q0.out; have g1 := (Below.cell (hB2.out.trans hW) (p := ⟨b, off + k * 2 + 1, none⟩) hblt).trans q1.out; go_simp; try with_reducible rfl
          try simp only [Act.put, List.setIfInBounds_toArray, List.set_cons_zero, List.set_cons_succ]
          refine seqR_at (o := ?_) ?_ ?_
          rotate_left
          · (conv => (lhs; whnf; arg 1; whnf))
          refine seqR_c (by rfl) (fun K hK => ?_)
          go_simp
          refine (r_integer_any kd _ HI.out.1 HI.out.2).mono ?_
          rintro e w3 ⟨v3, rfl, hown3, hb3⟩
          have HB3 := Lib.hid (hB2.out.trans (hb3.mono hB2.out.size))
          have HO3 := Lib.hid hown3.byt
          have HK3 := Lib.hid (hK2.out.below hb3)
          refine hK _ _ (hb3.mono hB2.out.size) ?_
          clear hK hb3 hown3 hK2
          try simp only [Act.put, List.setIfInBounds_toArray, List.set_cons_zero, List.set_cons_succ]
          refine seqR_at (o := ?_) ?_ ?_
          rotate_left
          · (conv => (lhs; whnf; arg 1; whnf))
          refine seqR_c (by rfl) (fun K hK => ?_)
          go_simp
          refine (r_tagged_any 0 _ (intE kd) _ HO3.out HLP.out).mono ?_
          rintro e w4 ⟨v4, rfl, hown4, hb4⟩
          obtain ⟨A4, c4, rfl, _⟩ := hown4.byt.len
          have HB4 := Lib.hid (HB3.out.trans (hb4.mono HB3.out.size))
          have HO4 := Lib.hid hown4.byt
          have HK4 := Lib.hid (HK3.out.below hb4)
          refine hK _ _ (hb4.mono HB3.out.size) ?_
          clear hK hb4 hown4 HK3 HO3
          try simp only [Act.put, List.setIfInBounds_toArray, List.set_cons_zero, List.set_cons_succ]
          refine seqR_at (o := ?_) ?_ ?_
          rotate_left
          · (conv => (lhs; whnf; arg 1; whnf))
          refine seqR_c (by rfl) (fun K hK => ?_)
          go_simp
          refine (r_octets_any _ bd _ (HU.out.below HB4.out) HD'.out).mono ?_
          rintro e w5 ⟨v5, rfl, hown5, hb5⟩
          have HB5 := Lib.hid (HB4.out.trans (hb5.mono HB4.out.size))
          have HO5 := Lib.hid hown5.byt
          have HO4' := Lib.hid (HO4.out.below hb5)
          have HK5 := Lib.hid (HK4.out.below hb5)
          refine hK _ _ (hb5.mono HB4.out.size) ?_
          clear hK hb5 hown5 HK4 HO4
          try simp only [Act.put, List.setIfInBounds_toArray, List.set_cons_zero, List.set_cons_succ]
          refine seqR_at (o := ?_) ?_ ?_
          rotate_left
          · (conv => (lhs; whnf; arg 1; whnf))
          refine seqR_c (by rfl) (fun K hK => ?_)
          go_simp
          refine (r_tagged_any 1 _ (elem 4 bd) _ HO5.out HLO.out).mono ?_
          rintro e w6 ⟨v6, rfl, hown6, hb6⟩
          obtain ⟨A6, c6, rfl, _⟩ := hown6.byt.len
          have HB6 := Lib.hid (HB5.out.trans (hb6.mono HB5.out.size))
          have HBS := Lib.hid (bss2 (w := w6) rfl (HO4'.out.below hb6) hown6.byt)
          have HK6 := Lib.hid (HK5.out.below hb6)
          refine hK _ _ (hb6.mono HB5.out.size) ?_
          clear hK hb6 hown6 HK5 HO4' HO5
          try simp only [Act.put, List.setIfInBounds_toArray, List.set_cons_zero, List.set_cons_succ]
          refine seqR_at (o := ?_) ?_ ?_
          rotate_left
          · (conv => (lhs; whnf; arg 1; whnf))
          refine seqR_c (by rfl) (fun K hK => ?_)
          go_simp
          have hb7 := below1 (w := w6) (.cells #[.slice A4 (wrapE 160 0 (intE kd)).length c4, .slice A6 (wrapE 160 1 (elem 4 bd)).length c6] 24)
          generalize w6.alloc (.cells #[.slice A4 (wrapE 160 0 (intE kd)).length c4, .slice A6 (wrapE 160 1 (elem 4 bd)).length c6] 24) = w7 at hb7 HBS ⊢
          have HB7 := Lib.hid (HB6.out.trans (hb7.mono HB6.out.size))
          have HK7 := Lib.hid (HK6.out.below hb7)
          refine hK _ _ (hb7.mono HB6.out.size) ?_
          clear hK hb7 HK6
          try simp only [Act.put, List.setIfInBounds_toArray, List.set_cons_zero, List.set_cons_succ]
          refine seqR_at (o := ?_) ?_ ?_
          rotate_left
          · (conv => (lhs; whnf; arg 1; whnf))
          refine seqR_c (by rfl) (fun K hK => ?_)
          go_simp
          refine (r_sequence_any _ _ _ HBS.out (le_lim (by simp)) HDF.out).mono ?_
          rintro e w8 ⟨v8, rfl, hown8, hb8⟩
          rw [← HDS.out] at hown8
          have HB8 := Lib.hid (HB7.out.trans (hb8.mono HB7.out.size))
          have HO8 := Lib.hid hown8.byt
          have HK8 := Lib.hid (HK7.out.below hb8)
          refine hK _ _ (hb8.mono HB7.out.size) ?_
          clear hK hb8 hown8 HK7 HBS
          try simp only [Act.put, List.setIfInBounds_toArray, List.set_cons_zero, List.set_cons_succ]
          refine seqR_at (o := ?_) ?_ ?_
          rotate_left
          · (conv => (lhs; whnf; arg 1; whnf))
          refine seqR_c (by rfl) (fun K hK => ?_)
          refine opwp_append_b (.tmp 23) (.tmp 39) 24 rfl eiU8 w.heap.size (.slice A' (flen (ds.map datE) k) c') _ rfl HK8.out _ (datE (kd, bd)) rfl HO8.out (by have := HLEN.out; unfold flen at this; exact this) HB8.out.size ?_
          intro A9 c9 w9 hown9 hg9
          have hb9 := below_of_own HK8.out hg9 HB8.out.size
          have HB9 := Lib.hid (HB8.out.trans hb9)
          have HO9 := Lib.hid hown9
          refine hK _ _ hb9 ?_
          clear hK hb9 hown9 hg9
          try simp only [Act.put, List.setIfInBounds_toArray, List.set_cons_zero, List.set_cons_succ]
          refine seqR_at (o := ?_) ?_ ?_
          rotate_left
          · (conv => (lhs; whnf; arg 1; whnf))
          refine seqR_y (v := ?_) (by rfl) (fun W hW => ?_) ?_
          rotate_left
          · go_simp; try with_reducible rfl
          try simp only [Act.put, List.setIfInBounds_toArray, List.set_cons_zero, List.set_cons_succ]
          refine seqR_end ?_
          go_wp2_with fail
          go_roundw
          case rel =>
            have e : ((ds.map datE).take k).flatten.length + (datE (kd, bd)).length = flen (ds.map datE) (k + 1) := by rw [hFL.out]; rfl
            refine ⟨k + 1, A9, c9, by omega, by omega, by go_num, ?_, ?_, HNE2.out, HB9.out⟩
            · rw [← e]
              simp
            · rw [hFT.out]
              exact HO9.out.respell e.symm
          case measure => simp [intOf]; omega
    · obtain rfl : k = ds.length := by omega
      have HR : Hid (dataE ds = elem 48 (ds.map datE).flatten) := by
        unfold Hid dataE
        rw [if_neg]
        rintro (h1 | ⟨d, hd, h2⟩)
        · omega
        · obtain ⟨j, hj, rfl⟩ := List.mem_iff_getElem.1 hd
          exact HNE.out j hj hj h2
      have HF := Lib.hid (dataE_flat ds hk16 HN.out)
      have HX : Hid (Byt wr (.slice A' (flen (ds.map datE) ds.length) c') (ds.map datE).flatten) := Lib.hid (by
        have := HK.out.byt
        rw [List.take_of_length_le (by simp)] at this
        exact this)
      clear HK HNE
      go_wp2_with fail
      refine (make_any 48 _ _ wr HX.out HF.out).mono ?_
      rintro e w2 ⟨v2, rfl, hown2, hb2⟩
      go_wp2_with fail
      go_ret
      rw [HR.out]
      exact RetB.of HB.out hown2 hb2

end Go.Proofs.Yteepfeggkocakaa
