/- Walks: reading: take, length, contents. -/
import Derived.Test.YteepfeggkocakaaDerF
set_option linter.unusedVariables false
set_option linter.unusedSimpArgs false
set_option maxRecDepth 20000
namespace Go.Proofs.Yteepfeggkocakaa
open Go.RowKit Der

/-- What an error reads as when it is thrown. -/
def thrown (e : Int) : List PanicEntry := [{ v := .iface 37 (.int .i64 e), recovered := false }]

/-- Block g is an input: the bytes xs, at offset k. -/
def InAt (w : World) (g : Nat) (A : Option Addr) (c : Nat) (xs : List UInt8) (k : Nat) : Prop :=
  w.heap[g]? = some (.cells #[.slice A xs.length c, .int .i64 (k : Int)] 60 (0, 0)) ∧ Byt w (.slice A xs.length c) xs ∧ k ≤ xs.length ∧ xs.length ≤ lim ∧ (xs ≠ [] → (Value.slice A xs.length c).ownBlock ≠ some g)

theorem InAt.lt {w : World} {g : Nat} {A : Option Addr} {c k : Nat} {xs : List UInt8} (h : InAt w g A c xs k) : g < w.heap.size := (Array.getElem?_eq_some_iff.1 h.1).1
theorem InAt.cell0 {w : World} {g : Nat} {A : Option Addr} {c k : Nat} {xs : List UInt8} (h : InAt w g A c xs k) : w.cell? ⟨g, 0, none⟩ = some (.slice A xs.length c) := by
  rw [cell_of_row w g 0 _ _ (0, 0) h.1]; rfl
theorem InAt.cell1 {w : World} {g : Nat} {A : Option Addr} {c k : Nat} {xs : List UInt8} (h : InAt w g A c xs k) : w.cell? ⟨g, 1, none⟩ = some (.int .i64 (k : Int)) := by
  rw [cell_of_row w g 1 _ _ (0, 0) h.1]; rfl
theorem InAt.frozen {w : World} {g : Nat} {A : Option Addr} {c k : Nat} {xs : List UInt8} (h : InAt w g A c xs k) (j : Nat) : w.frozen? ⟨g, j, none⟩ = false := frozen_of_row w g j _ _ h.1
theorem InAt.set {w : World} {g : Nat} {A : Option Addr} {c k : Nat} {xs : List UInt8} (h : InAt w g A c xs k) (k' : Nat) (hk : k' ≤ xs.length) : InAt (w.setCell ⟨g, 1, none⟩ (.int .i64 (k' : Int))) g A c xs k' ∧ w.grownBy (w.setCell ⟨g, 1, none⟩ (.int .i64 (k' : Int))) (some g) := by
  have hg : w.grownBy (w.setCell ⟨g, 1, none⟩ (.int .i64 (k' : Int))) (some g) := ⟨rfl, rfl, rfl, by simp, fun b _ hb => heap_setCell_other w ⟨g, 1, none⟩ b _ (fun e => hb (by simp [e]))⟩
  refine ⟨⟨?_, h.2.1.grown' hg (fun hx b hb => by injection hb with hb; subst hb; exact h.2.2.2.2 hx), hk, h.2.2.2⟩, hg⟩
  rw [heap_setCell_same w g 1 _ _ _ h.1]
  rfl
theorem InAt.drewN {w : World} {g : Nat} {A : Option Addr} {c k : Nat} {xs : List UInt8} (h : InAt w g A c xs k) (n : Nat) : InAt (w.drewN n) g A c xs k := h
theorem grown_drewN {w w' : World} {row : Option Nat} {n : Nat} (h : (w.drewN n).grownBy w' row) : w.grownBy w' row := ⟨h.os, h.tape, h.output, h.size, h.block⟩
theorem InAt.setN {w : World} {g : Nat} {A : Option Addr} {c k : Nat} {xs : List UInt8} (h : InAt w g A c xs k) (m k' : Nat) (i : Int) (hi : i = (k' : Int)) (hk : k' ≤ xs.length) :
    InAt ((w.drewN m).setCell ⟨g, 1, none⟩ (.int .i64 i)) g A c xs k' ∧ w.grownBy ((w.drewN m).setCell ⟨g, 1, none⟩ (.int .i64 i)) (some g) := by
  subst hi
  obtain ⟨h1, h2⟩ := (h.drewN m).set k' hk
  exact ⟨h1, grown_drewN h2⟩
theorem InAt.below {w w' : World} {g : Nat} {A : Option Addr} {c k : Nat} {xs : List UInt8} (h : InAt w g A c xs k) (hb : Below w.heap.size w w') : InAt w' g A c xs k :=
  ⟨by rw [hb.block g h.lt]; exact h.1, h.2.1.below hb, h.2.2⟩

theorem need_t (b : Bool) (e : Int) (w : World) (hb : b = true) : Calls Try.prog 71 #[.bool b, .int .i64 e] w fun r w' => r = .returned (.tuple #[]) ∧ w = w' := by subst hb; exact need_true e w
theorem need_f (b : Bool) (e : Int) (w : World) (hb : b = false) : Calls Try.prog 71 #[.bool b, .int .i64 e] w fun r w' => r = .panicked (thrown e) ∧ w = w' := by subst hb; exact need_false e w
theorem fitsUp_short (xs : List UInt8) (h : xs.length ≤ 7) : FitsUp 0 xs := by
  intro k hk
  have hb := ofB_bounds (xs.take k) 0 (by decide)
  have hl : (xs.take k).length ≤ 6 := by rw [List.length_take]; omega
  have hp : (256 : Int) ^ (xs.take k).length ≤ 256 ^ 6 := by
    have h2 : ((256 ^ (xs.take k).length : Nat) : Int) ≤ ((256 ^ 6 : Nat) : Int) := Int.ofNat_le.2 (Nat.pow_le_pow_right (by decide) hl)
    rw [Int.natCast_pow, Int.natCast_pow] at h2
    exact h2
  have e6 : (256 : Int) ^ 6 = 281474976710656 := by decide
  rw [e6] at hp
  generalize (256 : Int) ^ (xs.take k).length = P at *
  omega

set_option maxHeartbeats 800000 in
theorem left_any (b o : Nat) (A : Option Addr) (n c : Nat) (k : Int) (w : World) (h0 : w.cell? ⟨b, o, none⟩ = some (.slice A n c)) (h1 : w.cell? ⟨b, o + 1, none⟩ = some (.int .i64 k)) (hk : 0 ≤ k) (hn : (n : Int) ≤ 1099511627776) (hk2 : k ≤ 1099511627776) :
    Calls Try.prog 62 #[.pointer (some ⟨b, o, none⟩)] w fun e w' => e = .returned (.int .i64 ((n : Int) - k)) ∧ ∃ m, w' = w.drewN m := by
  go_enter Try.func62, Try.ntmps62
  go_wp2_with fail
  go_quiet (fail)
  go_wp2_with fail
  go_ret
  exact ⟨rfl, _, rfl⟩

set_option maxHeartbeats 1600000 in
theorem take_ok (g : Nat) (A : Option Addr) (c : Nat) (xs : List UInt8) (k n : Nat) (w : World) (h : InAt w g A c xs k) (hn : k + n ≤ xs.length) :
    Calls Try.prog 65 #[.pointer (some ⟨g, 0, none⟩), .int .i64 (n : Int)] w fun e w' => ∃ A' c', e = .returned (.slice A' n c') ∧ Byt w' (.slice A' n c') ((xs.drop k).take n) ∧ InAt w' g A c xs (k + n) ∧ w.grownBy w' (some g) := by
  have hc0 := h.cell0
  have hc1 := h.cell1
  have hf := h.frozen 1
  have hl : (xs.length : Int) ≤ 1099511627776 := by have := lim_le h.2.2.2.1; omega
  have hk : (k : Int) ≤ 1099511627776 := by have := h.2.2.1; omega
  have hcut := h.2.1.cut (l := k) (hi := k + n) (m := k + n) rfl (by omega) hn (Nat.le_refl _) (by obtain ⟨_, _, e, h1, _⟩ := h.2.1; injection e with _ _ e; subst e; simp at h1; omega)
  have hcap : (xs.length : Int) ≤ (c : Int) := by obtain ⟨_, _, e, h1, _⟩ := h.2.1; injection e with _ _ e; subst e; simp at h1; omega
  have e1 : ((xs.take (k + n)).drop k) = (xs.drop k).take n := by rw [List.drop_take]; congr 1; omega
  rw [e1] at hcut
  have H := Lib.hid h
  by_cases hn0 : n = 0
  · subst hn0
    have hcut0 : Byt w (.slice A 0 0) ((xs.drop k).take 0) := by simpa using hcut
    have HC := Lib.hid hcut0
    clear h hcut e1 hcut0
    go_enter Try.func65, Try.ntmps65
    go_wp2_with fail
    refine (left_any g 0 A xs.length c k w hc0 hc1 (by omega) hl hk).mono ?_
    rintro e w1 ⟨rfl, m, rfl⟩
    have hb : decide (((0 : Nat) : Int) ≤ (xs.length : Int) - (k : Int)) = true := by simp; omega
    have hb' : decide ((0 : Int) ≤ (xs.length : Int) - (k : Int)) = true := by simp; omega
    have hb2 : (k : Int) ≤ (xs.length : Int) := by omega
    go_wp2_with fail
    refine (need_true 4 _).mono ?_
    rintro e w1 ⟨rfl, rfl⟩
    clear hb hb'
    go_wp2_with fail
    go_quiet (fail)
    go_wp2_with fail
    go_ret
    obtain ⟨g1, g2⟩ := H.out.setN (m + nq) k k rfl (by omega)
    exact ⟨A, 0, rfl, HC.out.grown' g2 (fun hx => absurd (by simp) hx), g1, g2⟩
  · rw [if_neg (by omega), Nat.add_sub_cancel_left] at hcut
    have hne : ¬ k + n = k := by omega
    have HC := Lib.hid hcut
    clear h hcut e1
    go_enter Try.func65, Try.ntmps65
    go_wp2_with fail
    refine (left_any g 0 A xs.length c k w hc0 hc1 (by omega) hl hk).mono ?_
    rintro e w1 ⟨rfl, m, rfl⟩
    have hb : decide ((n : Int) ≤ (xs.length : Int) - (k : Int)) = true := by simp; omega
    go_wp2_with fail
    refine (need_true 4 _).mono ?_
    rintro e w1 ⟨rfl, rfl⟩
    clear hb
    go_wp2_with fail
    go_quiet (fail)
    go_wp2_with fail
    go_ret
    obtain ⟨g1, g2⟩ := H.out.setN (m + nq) (k + n) ((k : Int) + (n : Int)) (by omega) hn
    refine ⟨A.map (·.add k), n, by rw [show n = k + n - k from by omega]; simp, HC.out.grown' g2 (fun hx b hb => ?_), g1, g2⟩
    injection hb with hb
    subst hb
    intro e
    refine H.out.2.2.2.2 (fun h0 => hx (by rw [h0]; simp)) ?_
    cases A with
    | none => simp [Value.ownBlock] at e
    | some ad => simpa [Value.ownBlock, block_add] using e

set_option maxHeartbeats 1600000 in
theorem take_short (g : Nat) (A : Option Addr) (c : Nat) (xs : List UInt8) (k : Nat) (n : Int) (w : World) (h : InAt w g A c xs k) (hn : (xs.length : Int) < (k : Int) + n) :
    Calls Try.prog 65 #[.pointer (some ⟨g, 0, none⟩), .int .i64 n] w fun e w' => e = .panicked (thrown 4) ∧ ∃ m, w' = w.drewN m := by
  have hc0 := h.cell0
  have hc1 := h.cell1
  have hl : (xs.length : Int) ≤ 1099511627776 := by have := lim_le h.2.2.2.1; omega
  have hk : (k : Int) ≤ 1099511627776 := by have := h.2.2.1; omega
  clear h
  go_enter Try.func65, Try.ntmps65
  go_wp2_with fail
  refine (left_any g 0 A xs.length c k w hc0 hc1 (by omega) hl hk).mono ?_
  rintro e w1 ⟨rfl, m, rfl⟩
  have hb : decide (n ≤ (xs.length : Int) - (k : Int)) = false := by simp; omega
  clear hn
  go_wp2_with fail
  refine (need_false 4 _).mono ?_
  rintro e w1 ⟨rfl, rfl⟩
  exact ⟨rfl, rfl, _, rfl⟩


theorem byt_one {w : World} {A : Option Addr} {c : Nat} {x : UInt8} (h : Byt w (.slice A 1 c) [x]) : ∃ b off, A = some ⟨b, off, none⟩ ∧ w.cell? ⟨b, off, none⟩ = some (.int .u8 (x.toNat : Int)) := by
  obtain ⟨b, off, c', hA, _, hc⟩ := h.at_ (k := 0) (by simp)
  injection hA with hA
  exact ⟨b, off, hA, by simpa using hc⟩

/-- What a length's reading leaves. -/
def LenPost (w : World) (g : Nat) (A : Option Addr) (c : Nat) (xs : List UInt8) (k : Nat) (e : Ending) (w' : World) : Except Int (Nat × Nat) → Prop
  | .ok (n, j) => e = .returned (.int .i64 (n : Int)) ∧ InAt w' g A c xs (k + j) ∧ w.grownBy w' (some g)
  | .error er => e = .panicked (thrown er) ∧ w.grownBy w' (some g)

theorem grown_refl_drewN (w : World) (n : Nat) (row : Option Nat) : w.grownBy (w.drewN n) row := ⟨rfl, rfl, rfl, Nat.le_refl _, fun _ _ _ => rfl⟩
theorem grown_trans {a b c : World} {row : Option Nat} (h : a.grownBy b row) (k : b.grownBy c row) : a.grownBy c row :=
  ⟨k.os.trans h.os, k.tape.trans h.tape, k.output.trans h.output, Nat.le_trans h.size k.size, fun i hi hne => (k.block i (Nat.lt_of_lt_of_le hi h.size) hne).trans (h.block i hi hne)⟩
theorem grown_of_below {a w : World} (h : Below a.heap.size a w) (row : Option Nat) : a.grownBy w row := ⟨h.os, h.tape, h.output, h.size, fun i hi _ => h.block i hi⟩

set_option maxHeartbeats 3200000 in
theorem length_any (g : Nat) (A : Option Addr) (c : Nat) (xs : List UInt8) (k : Nat) (w : World) (h : InAt w g A c xs k) :
    Calls Try.prog 66 #[.pointer (some ⟨g, 0, none⟩)] w fun e w' => LenPost w g A c xs k e w' (lenP (xs.drop k)) := by
  by_cases hk : k = xs.length
  · have HE : Hid (lenP (xs.drop k) = .error 4) := by unfold Hid; rw [hk, List.drop_length]; rfl
    go_enter Try.func66, Try.ntmps66
    go_wp2_with fail
    refine (take_short g A c xs k 1 w h (by omega)).mono ?_
    rintro e w1 ⟨rfl, m, rfl⟩
    exact ⟨rfl, by rw [HE.out]; exact ⟨rfl, grown_refl_drewN _ _ _⟩⟩
  · have hlt : k < xs.length := by have := h.2.2.1; omega
    have ed : xs.drop k = xs[k] :: xs.drop (k + 1) := List.drop_eq_getElem_cons hlt
    have hx : (xs[k].toNat : Int) < 256 := by have := xs[k].toNat_lt; omega
    generalize xs[k] = x at ed hx
    have et : (xs.drop k).take 1 = [x] := by rw [ed]; rfl
    have HD := Lib.hid ed
    have H := Lib.hid h
    have hks : k + 1 ≤ xs.length := hlt
    clear h ed hk
    by_cases h128 : (x.toNat : Int) < 128
    · have HE : Hid (lenP (xs.drop k) = .ok (x.toNat, 1)) := by unfold Hid lenP; rw [HD.out]; simp only []; rw [if_pos (by omega)]
      go_enter Try.func66, Try.ntmps66
      go_wp2_with fail
      refine (take_ok g A c xs k 1 w H.out hks).mono ?_
      rintro e w1 ⟨A', c', rfl, hbyt, hin, hg⟩
      rw [et] at hbyt
      obtain ⟨b, off, rfl, hc⟩ := byt_one hbyt
      have HIN := Lib.hid hin
      have HG := Lib.hid hg
      clear et hbyt hin hg
      go_wp2_with fail
      go_ret
      rw [HE.out]
      exact ⟨rfl, HIN.out, HG.out⟩
    · go_enter Try.func66, Try.ntmps66
      go_wp2_with fail
      refine (take_ok g A c xs k 1 w H.out hks).mono ?_
      rintro e w1 ⟨A', c', rfl, hbyt, hin, hg⟩
      rw [et] at hbyt
      obtain ⟨b, off, rfl, hc⟩ := byt_one hbyt
      have HIN := Lib.hid hin
      have HG := Lib.hid hg
      clear et hbyt hin hg
      by_cases hm : x.toNat - 128 < 1 ∨ 3 < x.toNat - 128
      · have HE : Hid (lenP (xs.drop k) = .error 6) := by unfold Hid lenP; rw [HD.out]; simp only []; rw [if_neg (by omega), if_pos hm]
        by_cases hm1 : x.toNat = 128
        · have hx1 : (x.toNat : Int) = 128 := by omega
          rw [hx1] at hc
          clear hm hm1 hx1 h128 hx
          go_wp2_with fail
          refine (need_false 6 _).mono ?_
          rintro e w2 ⟨rfl, rfl⟩
          exact ⟨rfl, by rw [HE.out]; exact ⟨rfl, HG.out⟩⟩
        · have hx1 : 132 ≤ (x.toNat : Int) := by omega
          clear hm hm1 h128
          go_wp2_with fail
          refine (need_f _ 6 _ (decide_eq_false (by omega))).mono ?_
          rintro e w2 ⟨rfl, rfl⟩
          exact ⟨rfl, by rw [HE.out]; exact ⟨rfl, HG.out⟩⟩
      · have hxm : x.toNat = 129 ∨ x.toNat = 130 ∨ x.toNat = 131 := by omega
        clear hm h128 hx
        have eN : ∀ m : Nat, x.toNat = 128 + m → 1 ≤ m → m ≤ 3 → lenP (xs.drop k) = if xs.length < k + 1 + m then .error 4 else if 128 ≤ (ofB 0 ((xs.drop (k + 1)).take m)).toNat ∧ 256 ^ (m - 1) ≤ (ofB 0 ((xs.drop (k + 1)).take m)).toNat then .ok ((ofB 0 ((xs.drop (k + 1)).take m)).toNat, 1 + m) else .error 6 := by
          intro m h1 h2 h3
          unfold lenP
          rw [HD.out]
          simp only []
          rw [if_neg (by omega), if_neg (by omega), show x.toNat - 128 = m from by omega, List.length_drop]
          by_cases hsh : xs.length < k + 1 + m
          · rw [if_pos (by omega), if_pos hsh]
          · rw [if_neg (by omega), if_neg hsh]
        have EN := Lib.hid eN
        clear eN
        obtain hx1 | hx1 | hx1 := hxm
        · have hx2 : (x.toNat : Int) = 129 := by omega
          rw [hx2] at hc
          have HE := Lib.hid (EN.out 1 hx1 (by omega) (by omega))
          clear hx1 hx2 EN
          by_cases hsh : xs.length < k + 1 + 1
          · have HE2 := HE.out
            rw [if_pos hsh] at HE2
            have HE := Lib.hid HE2
            clear HE2
            go_wp2_with fail
            refine (need_t _ 6 _ rfl).mono ?_
            rintro e w2 ⟨rfl, rfl⟩
            go_wp2_with fail
            refine (take_short g A c xs (k + 1) 1 _ HIN.out (by omega)).mono ?_
            rintro e w2 ⟨rfl, m, rfl⟩
            exact ⟨rfl, by rw [HE.out]; exact ⟨rfl, grown_trans HG.out (grown_refl_drewN _ _ _)⟩⟩
          · have HE2 := HE.out
            rw [if_neg hsh] at HE2
            have HE := Lib.hid HE2
            have hok : k + 1 + 1 ≤ xs.length := by omega
            clear HE2 hsh
            go_wp2_with fail
            refine (need_t _ 6 _ rfl).mono ?_
            rintro e w2 ⟨rfl, rfl⟩
            go_wp2_with fail
            refine (take_ok g A c xs (k + 1) 1 _ HIN.out hok).mono ?_
            rintro e w2 ⟨A2, c2, rfl, hbyt2, hin2, hg2⟩
            have hl3 : ((xs.drop (k + 1)).take 1).length = 1 := by rw [List.length_take, List.length_drop]; omega
            generalize hzs : (xs.drop (k + 1)).take 1 = zs at *
            have HZ := Lib.hid hbyt2
            have HIN2 := Lib.hid hin2
            have HG2 := Lib.hid (grown_trans HG.out hg2)
            have hnb := ofB_bounds zs 0 (by decide)
            rw [hl3] at hnb
            have HZL := Lib.hid hl3
            clear hbyt2 hin2 hg2 hzs HIN HG hl3
            go_wp2_with fail
            refine (value_unsigned _ zs _ HZ.out (by rw [HZL.out]; omega) (fitsUp_short _ (by rw [HZL.out]; omega))).mono ?_
            rintro e w3 ⟨rfl, rfl⟩
            generalize hN : ofB 0 zs = N at *
            have hN0 : 0 ≤ N := hnb.1
            have HNB := Lib.hid hnb
            clear hN hnb
            by_cases h1 : 128 ≤ N
            · by_cases h2 : 1 ≤ N
              · have HE3 := HE.out
                rw [if_pos ⟨by omega, by omega⟩] at HE3
                have HE := Lib.hid HE3
                have d1 : decide (1 ≤ N) = true := decide_eq_true h2
                clear HE3 h2
                go_wp2_with fail
                refine (need_t _ 6 _ rfl).mono ?_
                rintro e w4 ⟨rfl, rfl⟩
                go_wp2_with fail
                go_ret
                rw [HE.out]
                refine ⟨?_, HIN2.out, HG2.out⟩
                show Ending.returned (.int .i64 N) = _
                rw [Int.toNat_of_nonneg hN0]
              · have HE3 := HE.out
                rw [if_neg (by omega)] at HE3
                have HE := Lib.hid HE3
                have d1 : decide (1 ≤ N) = false := decide_eq_false h2
                clear HE3 h2
                go_wp2_with fail
                refine (need_f _ 6 _ rfl).mono ?_
                rintro e w4 ⟨rfl, rfl⟩
                exact ⟨rfl, by rw [HE.out]; exact ⟨rfl, HG2.out⟩⟩
            · have HE3 := HE.out
              rw [if_neg (by omega)] at HE3
              have HE := Lib.hid HE3
              clear HE3
              go_wp2_with fail
              refine (need_f _ 6 _ rfl).mono ?_
              rintro e w4 ⟨rfl, rfl⟩
              exact ⟨rfl, by rw [HE.out]; exact ⟨rfl, HG2.out⟩⟩
        · have hx2 : (x.toNat : Int) = 130 := by omega
          rw [hx2] at hc
          have HE := Lib.hid (EN.out 2 hx1 (by omega) (by omega))
          clear hx1 hx2 EN
          by_cases hsh : xs.length < k + 1 + 2
          · have HE2 := HE.out
            rw [if_pos hsh] at HE2
            have HE := Lib.hid HE2
            clear HE2
            go_wp2_with fail
            refine (need_t _ 6 _ rfl).mono ?_
            rintro e w2 ⟨rfl, rfl⟩
            go_wp2_with fail
            refine (take_short g A c xs (k + 1) 2 _ HIN.out (by omega)).mono ?_
            rintro e w2 ⟨rfl, m, rfl⟩
            exact ⟨rfl, by rw [HE.out]; exact ⟨rfl, grown_trans HG.out (grown_refl_drewN _ _ _)⟩⟩
          · have HE2 := HE.out
            rw [if_neg hsh] at HE2
            have HE := Lib.hid HE2
            have hok : k + 1 + 2 ≤ xs.length := by omega
            clear HE2 hsh
            go_wp2_with fail
            refine (need_t _ 6 _ rfl).mono ?_
            rintro e w2 ⟨rfl, rfl⟩
            go_wp2_with fail
            refine (take_ok g A c xs (k + 1) 2 _ HIN.out hok).mono ?_
            rintro e w2 ⟨A2, c2, rfl, hbyt2, hin2, hg2⟩
            have hl3 : ((xs.drop (k + 1)).take 2).length = 2 := by rw [List.length_take, List.length_drop]; omega
            generalize hzs : (xs.drop (k + 1)).take 2 = zs at *
            have HZ := Lib.hid hbyt2
            have HIN2 := Lib.hid hin2
            have HG2 := Lib.hid (grown_trans HG.out hg2)
            have hnb := ofB_bounds zs 0 (by decide)
            rw [hl3] at hnb
            have HZL := Lib.hid hl3
            clear hbyt2 hin2 hg2 hzs HIN HG hl3
            go_wp2_with fail
            refine (value_unsigned _ zs _ HZ.out (by rw [HZL.out]; omega) (fitsUp_short _ (by rw [HZL.out]; omega))).mono ?_
            rintro e w3 ⟨rfl, rfl⟩
            generalize hN : ofB 0 zs = N at *
            have hN0 : 0 ≤ N := hnb.1
            have HNB := Lib.hid hnb
            clear hN hnb
            by_cases h1 : 128 ≤ N
            · by_cases h2 : 256 ≤ N
              · have HE3 := HE.out
                rw [if_pos ⟨by omega, by omega⟩] at HE3
                have HE := Lib.hid HE3
                have d1 : decide (256 ≤ N) = true := decide_eq_true h2
                clear HE3 h2
                go_wp2_with fail
                refine (need_t _ 6 _ rfl).mono ?_
                rintro e w4 ⟨rfl, rfl⟩
                go_wp2_with fail
                go_ret
                rw [HE.out]
                refine ⟨?_, HIN2.out, HG2.out⟩
                show Ending.returned (.int .i64 N) = _
                rw [Int.toNat_of_nonneg hN0]
              · have HE3 := HE.out
                rw [if_neg (by omega)] at HE3
                have HE := Lib.hid HE3
                have d1 : decide (256 ≤ N) = false := decide_eq_false h2
                clear HE3 h2
                go_wp2_with fail
                refine (need_f _ 6 _ rfl).mono ?_
                rintro e w4 ⟨rfl, rfl⟩
                exact ⟨rfl, by rw [HE.out]; exact ⟨rfl, HG2.out⟩⟩
            · have HE3 := HE.out
              rw [if_neg (by omega)] at HE3
              have HE := Lib.hid HE3
              clear HE3
              go_wp2_with fail
              refine (need_f _ 6 _ rfl).mono ?_
              rintro e w4 ⟨rfl, rfl⟩
              exact ⟨rfl, by rw [HE.out]; exact ⟨rfl, HG2.out⟩⟩
        · have hx2 : (x.toNat : Int) = 131 := by omega
          rw [hx2] at hc
          have HE := Lib.hid (EN.out 3 hx1 (by omega) (by omega))
          clear hx1 hx2 EN
          by_cases hsh : xs.length < k + 1 + 3
          · have HE2 := HE.out
            rw [if_pos hsh] at HE2
            have HE := Lib.hid HE2
            clear HE2
            go_wp2_with fail
            refine (need_t _ 6 _ rfl).mono ?_
            rintro e w2 ⟨rfl, rfl⟩
            go_wp2_with fail
            refine (take_short g A c xs (k + 1) 3 _ HIN.out (by omega)).mono ?_
            rintro e w2 ⟨rfl, m, rfl⟩
            exact ⟨rfl, by rw [HE.out]; exact ⟨rfl, grown_trans HG.out (grown_refl_drewN _ _ _)⟩⟩
          · have HE2 := HE.out
            rw [if_neg hsh] at HE2
            have HE := Lib.hid HE2
            have hok : k + 1 + 3 ≤ xs.length := by omega
            clear HE2 hsh
            go_wp2_with fail
            refine (need_t _ 6 _ rfl).mono ?_
            rintro e w2 ⟨rfl, rfl⟩
            go_wp2_with fail
            refine (take_ok g A c xs (k + 1) 3 _ HIN.out hok).mono ?_
            rintro e w2 ⟨A2, c2, rfl, hbyt2, hin2, hg2⟩
            have hl3 : ((xs.drop (k + 1)).take 3).length = 3 := by rw [List.length_take, List.length_drop]; omega
            generalize hzs : (xs.drop (k + 1)).take 3 = zs at *
            have HZ := Lib.hid hbyt2
            have HIN2 := Lib.hid hin2
            have HG2 := Lib.hid (grown_trans HG.out hg2)
            have hnb := ofB_bounds zs 0 (by decide)
            rw [hl3] at hnb
            have HZL := Lib.hid hl3
            clear hbyt2 hin2 hg2 hzs HIN HG hl3
            go_wp2_with fail
            refine (value_unsigned _ zs _ HZ.out (by rw [HZL.out]; omega) (fitsUp_short _ (by rw [HZL.out]; omega))).mono ?_
            rintro e w3 ⟨rfl, rfl⟩
            generalize hN : ofB 0 zs = N at *
            have hN0 : 0 ≤ N := hnb.1
            have HNB := Lib.hid hnb
            clear hN hnb
            by_cases h1 : 128 ≤ N
            · by_cases h2 : 65536 ≤ N
              · have HE3 := HE.out
                rw [if_pos ⟨by omega, by omega⟩] at HE3
                have HE := Lib.hid HE3
                have d1 : decide (65536 ≤ N) = true := decide_eq_true h2
                clear HE3 h2
                go_wp2_with fail
                refine (need_t _ 6 _ rfl).mono ?_
                rintro e w4 ⟨rfl, rfl⟩
                go_wp2_with fail
                go_ret
                rw [HE.out]
                refine ⟨?_, HIN2.out, HG2.out⟩
                show Ending.returned (.int .i64 N) = _
                rw [Int.toNat_of_nonneg hN0]
              · have HE3 := HE.out
                rw [if_neg (by omega)] at HE3
                have HE := Lib.hid HE3
                have d1 : decide (65536 ≤ N) = false := decide_eq_false h2
                clear HE3 h2
                go_wp2_with fail
                refine (need_f _ 6 _ rfl).mono ?_
                rintro e w4 ⟨rfl, rfl⟩
                exact ⟨rfl, by rw [HE.out]; exact ⟨rfl, HG2.out⟩⟩
            · have HE3 := HE.out
              rw [if_neg (by omega)] at HE3
              have HE := Lib.hid HE3
              clear HE3
              go_wp2_with fail
              refine (need_f _ 6 _ rfl).mono ?_
              rintro e w4 ⟨rfl, rfl⟩
              exact ⟨rfl, by rw [HE.out]; exact ⟨rfl, HG2.out⟩⟩

end Go.Proofs.Yteepfeggkocakaa
