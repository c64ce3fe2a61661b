/- Walks: reading: contents, integer, octets. -/
import Derived.Test.YteepfeggkocakaaDerG
set_option linter.unusedVariables false
set_option linter.unusedSimpArgs false
set_option maxRecDepth 20000
namespace Go.Proofs.Yteepfeggkocakaa
open Go.RowKit Der

/-- What the reading of bytes leaves. -/
def BytPost (w : World) (g : Nat) (A : Option Addr) (c : Nat) (xs : List UInt8) (k : Nat) (e : Ending) (w' : World) : Except Int (List UInt8 × Nat) → Prop
  | .ok (ys, j) => ∃ A' c', e = .returned (.slice A' ys.length c') ∧ Byt w' (.slice A' ys.length c') ys ∧ InAt w' g A c xs (k + j) ∧ w.grownBy w' (some g)
  | .error er => e = .panicked (thrown er) ∧ w.grownBy w' (some g)

theorem contP_cons (tag : Int) (x : UInt8) (r : List UInt8) : contP tag (x :: r) = if (x.toNat : Int) ≠ tag then .error 6 else match lenP r with
      | .error e => .error e
      | .ok (n, c) => if r.length < c + n then .error 4 else .ok ((r.drop c).take n, 1 + c + n) := rfl

set_option maxHeartbeats 3200000 in
theorem contents_any (tag : Int) (g : Nat) (A : Option Addr) (c : Nat) (xs : List UInt8) (k : Nat) (w : World) (h : InAt w g A c xs k) :
    Calls Try.prog 70 #[.pointer (some ⟨g, 0, none⟩), .int .i64 tag] w fun e w' => BytPost w g A c xs k e w' (contP tag (xs.drop k)) := by
  by_cases hk : k = xs.length
  · have HE : Hid (contP tag (xs.drop k) = .error 4) := by unfold Hid; rw [hk, List.drop_length]; rfl
    go_enter Try.func70, Try.ntmps70
    go_wp2_with fail
    refine (take_short g A c xs k 1 w h (by omega)).mono ?_
    rintro e w1 ⟨rfl, m, rfl⟩
    exact ⟨rfl, by rw [HE.out]; exact ⟨rfl, grown_refl_drewN _ _ _⟩⟩
  · have hlt : k < xs.length := by have := h.2.2.1; omega
    have ed : xs.drop k = xs[k] :: xs.drop (k + 1) := List.drop_eq_getElem_cons hlt
    have hx : (xs[k].toNat : Int) < 256 := by have := xs[k].toNat_lt; omega
    generalize xs[k] = x at ed hx
    have et : (xs.drop k).take 1 = [x] := by rw [ed]; rfl
    have HE := Lib.hid (contP_cons tag x (xs.drop (k + 1)))
    rw [← ed] at HE
    have H := Lib.hid h
    have hks : k + 1 ≤ xs.length := hlt
    clear h ed hk
    go_enter Try.func70, Try.ntmps70
    go_wp2_with fail
    refine (take_ok g A c xs k 1 w H.out hks).mono ?_
    rintro e w1 ⟨A', c', rfl, hbyt, hin, hg⟩
    rw [et] at hbyt
    obtain ⟨b, off, rfl, hc⟩ := byt_one hbyt
    have HIN := Lib.hid hin
    have HG := Lib.hid hg
    clear et hbyt hin hg
    by_cases ht : (x.toNat : Int) = tag
    · have HE2 := HE.out
      rw [if_neg (by simpa using ht)] at HE2
      have HE := Lib.hid HE2
      have tb : ((x.toNat : Int) == tag) = true := by simp [ht]
      clear HE2 ht
      go_wp2_with fail
      refine (need_t _ 6 _ rfl).mono ?_
      rintro e w2 ⟨rfl, rfl⟩
      go_wp2_with fail
      refine (length_any g A c xs (k + 1) _ HIN.out).mono ?_
      intro e w2 hL
      cases hlp : lenP (xs.drop (k + 1)) with
      | error er =>
        rw [hlp] at hL
        obtain ⟨rfl, hg2⟩ := hL
        have HE2 := HE.out
        rw [hlp] at HE2
        exact ⟨rfl, by rw [HE2]; exact ⟨rfl, grown_trans HG.out hg2⟩⟩
      | ok nj =>
        obtain ⟨n, j⟩ := nj
        rw [hlp] at hL
        obtain ⟨rfl, hin2, hg2⟩ := hL
        have HE2 := HE.out
        rw [hlp] at HE2
        simp only [] at HE2
        have HIN2 := Lib.hid hin2
        have HG2 := Lib.hid (grown_trans HG.out hg2)
        have hjl := (lenP_le hlp).1
        have hn24 : (n : Int) ≤ 16777215 := by have := (lenP_le hlp).2; omega
        have HLP := Lib.hid hlp
        rw [List.length_drop] at HE2 hjl
        clear hlp hin2 hg2 HIN HG HE
        by_cases hsh : xs.length - (k + 1) < j + n
        · rw [if_pos hsh] at HE2
          have HE := Lib.hid HE2
          clear HE2
          go_wp2_with fail
          refine (take_short g A c xs (k + 1 + j) n _ HIN2.out (by omega)).mono ?_
          rintro e w3 ⟨rfl, m, rfl⟩
          exact ⟨rfl, by rw [HE.out]; exact ⟨rfl, grown_trans HG2.out (grown_refl_drewN _ _ _)⟩⟩
        · rw [if_neg hsh] at HE2
          have HE := Lib.hid HE2
          clear HE2
          go_wp2_with fail
          refine (take_ok g A c xs (k + 1 + j) n _ HIN2.out (by omega)).mono ?_
          rintro e w3 ⟨A3, c3, rfl, hbyt3, hin3, hg3⟩
          go_wp2_with fail
          go_ret
          rw [HE.out]
          have e1 : ((xs.drop (k + 1)).drop j).take n = (xs.drop (k + 1 + j)).take n := by rw [List.drop_drop]
          have e2 : (((xs.drop (k + 1)).drop j).take n).length = n := by rw [e1, List.length_take, List.length_drop]; omega
          refine ⟨A3, c3, ?_, ?_, ?_, grown_trans HG2.out hg3⟩
          · show Ending.returned (.slice A3 n c3) = _
            rw [e2]
          · rw [e2, e1]
            exact hbyt3
          · have e3 : k + (1 + j + n) = k + 1 + j + n := by omega
            rw [e3]
            exact hin3
    · have HE2 := HE.out
      rw [if_pos (by simpa using ht)] at HE2
      have HE := Lib.hid HE2
      have tb : ((x.toNat : Int) == tag) = false := by simp [ht]
      clear HE2 ht
      go_wp2_with fail
      refine (need_f _ 6 _ rfl).mono ?_
      rintro e w2 ⟨rfl, rfl⟩
      exact ⟨rfl, by rw [HE.out]; exact ⟨rfl, HG.out⟩⟩

/-- What the reading of a copy of bytes leaves. -/
def OctPost (w : World) (g : Nat) (A : Option Addr) (c : Nat) (xs : List UInt8) (k : Nat) (e : Ending) (w' : World) : Except Int (List UInt8 × Nat) → Prop
  | .ok (ys, j) => ∃ v, e = .returned v ∧ OwnB w' w.heap.size v ys ∧ InAt w' g A c xs (k + j) ∧ w.grownBy w' (some g)
  | .error er => e = .panicked (thrown er) ∧ w.grownBy w' (some g)

set_option maxHeartbeats 1600000 in
theorem octetsIn_any (g : Nat) (A : Option Addr) (c : Nat) (xs : List UInt8) (k : Nat) (w : World) (h : InAt w g A c xs k) :
    Calls Try.prog 60 #[.pointer (some ⟨g, 0, none⟩)] w fun e w' => OctPost w g A c xs k e w' (contP 4 (xs.drop k)) := by
  go_enter Try.func60, Try.ntmps60
  go_wp2_with fail
  refine (contents_any 4 g A c xs k w h).mono ?_
  intro e w1 hP
  cases hcp : contP 4 (xs.drop k) with
  | error er =>
    rw [hcp] at hP
    obtain ⟨rfl, hg⟩ := hP
    exact ⟨rfl, by rw [hcp]; exact ⟨rfl, hg⟩⟩
  | ok yj =>
    obtain ⟨ys, j⟩ := yj
    rw [hcp] at hP
    obtain ⟨A1, c1, rfl, hbyt, hin, hg⟩ := hP
    have hl := (contP_le hcp).2.2
    have HB := Lib.hid hbyt
    have HIN := Lib.hid hin
    have HG := Lib.hid hg
    have HL := Lib.hid (small_lim (n := ys.length) (by omega))
    have HCP := Lib.hid hcp
    clear hbyt hin hg hl hcp
    go_wp2_with fail
    refine (clone_any _ ys w1 HB.out HL.out).mono ?_
    rintro e w2 ⟨v2, rfl, hown, hb⟩
    go_wp2_with fail
    go_ret
    rw [HCP.out]
    exact ⟨v2, rfl, hown.mono HG.out.size, HIN.out.below hb, grown_trans HG.out (grown_of_below hb _)⟩

/-- Reading an integer. -/
def intP (ys : List UInt8) : Except Int (Int × Nat) :=
  match contP 2 ys with
  | .error e => .error e
  | .ok (c, j) => if c.length < 1 ∨ 8 < c.length then .error 6 else if intE (ofB (sgn c) c) = elem 2 c then .ok (ofB (sgn c) c, j) else .error 6

theorem ofB64 (xs : List UInt8) (h1 : xs ≠ []) (h8 : xs.length ≤ 8) : -9223372036854775808 ≤ ofB (sgn xs) xs ∧ ofB (sgn xs) xs ≤ 9223372036854775807 := by
  have hb := ofB_signed xs h1
  have hp : (256 : Int) ^ (xs.length - 1) ≤ 256 ^ 7 := by
    have h2 : ((256 ^ (xs.length - 1) : Nat) : Int) ≤ ((256 ^ 7 : Nat) : Int) := Int.ofNat_le.2 (Nat.pow_le_pow_right (by decide) (by omega))
    rw [Int.natCast_pow, Int.natCast_pow] at h2
    exact h2
  have e7 : (256 : Int) ^ 7 = 72057594037927936 := by decide
  rw [e7] at hp
  generalize (256 : Int) ^ (xs.length - 1) = P at *
  omega

/-- What the reading of an int leaves. -/
def IntPost (w : World) (g : Nat) (A : Option Addr) (c : Nat) (xs : List UInt8) (k : Nat) (e : Ending) (w' : World) : Except Int (Int × Nat) → Prop
  | .ok (v, j) => e = .returned (.int .i64 v) ∧ InAt w' g A c xs (k + j) ∧ w.grownBy w' (some g)
  | .error er => e = .panicked (thrown er) ∧ w.grownBy w' (some g)

set_option maxHeartbeats 3200000 in
theorem integerIn_any (g : Nat) (A : Option Addr) (c : Nat) (xs : List UInt8) (k : Nat) (w : World) (h : InAt w g A c xs k) :
    Calls Try.prog 73 #[.pointer (some ⟨g, 0, none⟩)] w fun e w' => IntPost w g A c xs k e w' (intP (xs.drop k)) := by
  go_enter Try.func73, Try.ntmps73
  go_wp2_with fail
  refine (contents_any 2 g A c xs k w h).mono ?_
  intro e w1 hP
  have HI : Hid (intP (xs.drop k) = intP (xs.drop k)) := rfl
  have HI2 := HI.out
  conv at HI2 => rhs; unfold intP
  clear HI
  cases hcp : contP 2 (xs.drop k) with
  | error er =>
    rw [hcp] at hP HI2
    obtain ⟨rfl, hg⟩ := hP
    exact ⟨rfl, by rw [HI2]; exact ⟨rfl, hg⟩⟩
  | ok yj =>
    obtain ⟨ys, j⟩ := yj
    rw [hcp] at hP HI2
    obtain ⟨A1, c1, rfl, hbyt, hin, hg⟩ := hP
    simp only [] at HI2
    have hl := (contP_le hcp).2.2
    have hl1 : (ys.length : Int) ≤ 16777215 := by omega
    have HB := Lib.hid hbyt
    have HIN := Lib.hid hin
    have HG := Lib.hid hg
    clear hbyt hin hg hcp hl
    by_cases h1 : ys.length < 1 ∨ 8 < ys.length
    · rw [if_pos h1] at HI2
      have HE := Lib.hid HI2
      clear HI2
      by_cases h0 : 1 ≤ (ys.length : Int)
      · have h8 : ¬ (ys.length : Int) ≤ 8 := by omega
        clear h1
        go_wp2_with fail
        refine (need_f _ 6 _ (by first | rfl | exact decide_eq_false (by omega))).mono ?_
        rintro e w2 ⟨rfl, rfl⟩
        exact ⟨rfl, by rw [HE.out]; exact ⟨rfl, HG.out⟩⟩
      · clear h1
        go_wp2_with fail
        refine (need_f _ 6 _ (by first | rfl | exact decide_eq_false (by omega))).mono ?_
        rintro e w2 ⟨rfl, rfl⟩
        exact ⟨rfl, by rw [HE.out]; exact ⟨rfl, HG.out⟩⟩
    · rw [if_neg h1] at HI2
      have HE := Lib.hid HI2
      have h0 : 1 ≤ (ys.length : Int) := by omega
      have h8 : (ys.length : Int) ≤ 8 := by omega
      clear HI2 h1
      go_wp2_with fail
      refine (need_t _ 6 _ (by first | rfl | exact decide_eq_true h8)).mono ?_
      rintro e w2 ⟨rfl, rfl⟩
      go_wp2_with fail
      have hne : ys ≠ [] := List.length_pos_iff.1 (by omega)
      have h64 := ofB64 ys hne (by omega)
      refine (value_signed _ ys _ HB.out (by omega) hne).mono ?_
      rintro e w2 ⟨rfl, rfl⟩
      generalize hV : ofB (sgn ys) ys = V at *
      have H64 := Lib.hid h64
      clear hV hne h64
      go_wp2_with fail
      refine (integer_any V _).mono ?_
      rintro e w2 ⟨v2, rfl, hown2, hb2⟩
      have hbyt2 := hown2.byt
      have HB2 := Lib.hid hbyt2
      have HY2 := Lib.hid (HB.out.below hb2)
      clear hown2 hbyt2
      go_wp2_with fail
      refine (element_one 2 _ _ ys w2 rfl HY2.out hl1).mono ?_
      rintro e w3 ⟨v3, rfl, hown3, hb3⟩
      have hb23 : Below w2.heap.size w2 w3 := (below1 _).trans (hb3.mono (by simp))
      have HB3 := Lib.hid hown3.byt
      have HB23 := Lib.hid (HB2.out.below hb23)
      have HIN3 := Lib.hid ((HIN.out.below hb2).below hb23)
      have HG3 := Lib.hid (grown_trans (grown_trans HG.out (grown_of_below hb2 _)) (grown_of_below hb23 _))
      have HLI := Lib.hid (Nat.le_trans (intE_length V) (show 13 ≤ lim from le_lim (by omega)))
      have HLE := Lib.hid (Nat.le_trans (elem_length 2 ys) (small_lim (by simp; omega)))
      clear hown3 hb2 hb3 hb23
      go_wp2_with fail
      refine (equal_any v2 v3 (intE V) (elem 2 ys) w3 HB23.out HB3.out HLI.out HLE.out).mono ?_
      rintro e w4 ⟨rfl, m, rfl⟩
      by_cases hq : intE V = elem 2 ys
      · have HE2 := HE.out
        rw [if_pos hq] at HE2
        have HE := Lib.hid HE2
        have HQ := Lib.hid (decide_eq_true hq)
        clear HE2 hq
        go_wp2_with fail
        refine (need_t _ 6 _ HQ.out).mono ?_
        rintro e w5 ⟨rfl, rfl⟩
        go_wp2_with fail
        go_ret
        rw [HE.out]
        exact ⟨rfl, HIN3.out, grown_trans HG3.out (grown_refl_drewN _ _ _)⟩
      · have HE2 := HE.out
        rw [if_neg hq] at HE2
        have HE := Lib.hid HE2
        have HQ := Lib.hid (decide_eq_false hq)
        clear HE2 hq
        go_wp2_with fail
        refine (need_f _ 6 _ HQ.out).mono ?_
        rintro e w5 ⟨rfl, rfl⟩
        exact ⟨rfl, by rw [HE.out]; exact ⟨rfl, grown_trans HG3.out (grown_refl_drewN _ _ _)⟩⟩

end Go.Proofs.Yteepfeggkocakaa
