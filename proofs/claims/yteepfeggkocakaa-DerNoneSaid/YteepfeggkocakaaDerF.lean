/- Walks: times, flags, wrapped elements, the reference's sequences. -/
import Derived.Test.YteepfeggkocakaaDerE
set_option linter.unusedVariables false
set_option linter.unusedSimpArgs false
set_option maxRecDepth 20000
namespace Go.Proofs.Yteepfeggkocakaa
open Go.RowKit Der

set_option maxHeartbeats 1600000 in
theorem time_any (t : Int) (w : World) : Calls Try.prog 21 #[.int .i64 t] w (RetB w (timeE t)) := by
  by_cases hout : t < 0 ∨ 1099511627776 < t
  · have HE : Hid (timeE t = []) := by unfold Hid timeE; rw [if_pos hout]
    by_cases h1 : t < 0
    · have d1 : decide (t < 0) = true := decide_eq_true h1
      clear hout h1
      go_enter Try.func21, Try.ntmps21
      go_wp2_with fail
      go_ret
      exact ⟨_, rfl, by rw [HE.out]; exact World.ownsRow_nil _ _ _ _, Below.refl _ _⟩
    · have d1 : decide (t < 0) = false := decide_eq_false h1
      have d2 : decide (1099511627776 < t) = true := decide_eq_true (by omega)
      clear hout h1
      go_enter Try.func21, Try.ntmps21
      go_wp2_with fail
      go_ret
      exact ⟨_, rfl, by rw [HE.out]; exact World.ownsRow_nil _ _ _ _, Below.refl _ _⟩
  · have HE : Hid (timeE t = elem 24 (numB t 6)) := by unfold Hid timeE; rw [if_neg hout]
    have d1 : decide (t < 0) = false := decide_eq_false (by omega)
    have d2 : decide (1099511627776 < t) = false := decide_eq_false (by omega)
    clear hout
    go_enter Try.func21, Try.ntmps21
    go_wp2_with fail
    refine (number_any t 6 _ (by omega)).mono ?_
    rintro e w1 ⟨v1, rfl, hown, hb⟩
    have hbyt := hown.byt
    obtain ⟨A, c, rfl, _, _, _⟩ := hbyt.len
    rw [numB_length] at *
    have HB := Lib.hid hbyt
    clear hown hbyt
    go_wp2_with fail
    refine (element_one 24 _ _ (numB t 6) w1 rfl HB.out (by rw [numB_length]; omega)).mono ?_
    rintro e w2 ⟨v2, rfl, hown2, hb2⟩
    go_wp2_with fail
    go_ret
    rw [HE.out]
    exact RetB.of (hb.trans ((below1 _).mono hb.size)) hown2 hb2

theorem lit_byte (v : Int) (i k : Nat) (hk : k = 8 * i) : Value.int .u8 (v / 2 ^ k % 256) = u8v (byteAt v i) := by
  subst hk
  rw [u8v_byteAt, pow256]

set_option maxHeartbeats 1600000 in
theorem r_time_any (t : Int) (w : World) : Calls Try.prog 22 #[.int .i64 t] w (RetB w (timeE t)) := by
  by_cases hout : t < 0 ∨ 1099511627776 < t
  · have HE : Hid (timeE t = []) := by unfold Hid timeE; rw [if_pos hout]
    by_cases h1 : t < 0
    · have d1 : decide (t < 0) = true := decide_eq_true h1
      clear hout h1
      go_enter Try.func22, Try.ntmps22
      go_wp2_with fail
      go_ret
      exact ⟨_, rfl, by rw [HE.out]; exact World.ownsRow_nil _ _ _ _, Below.refl _ _⟩
    · have d1 : decide (t < 0) = false := decide_eq_false h1
      have d2 : decide (1099511627776 < t) = true := decide_eq_true (by omega)
      clear hout h1
      go_enter Try.func22, Try.ntmps22
      go_wp2_with fail
      go_ret
      exact ⟨_, rfl, by rw [HE.out]; exact World.ownsRow_nil _ _ _ _, Below.refl _ _⟩
  · have HE : Hid (timeE t = elem 24 (numB t 6)) := by unfold Hid timeE; rw [if_neg hout]
    have d1 : decide (t < 0) = false := decide_eq_false (by omega)
    have d2 : decide (1099511627776 < t) = false := decide_eq_false (by omega)
    clear hout
    go_enter Try.func22, Try.ntmps22
    have e5 : Value.int .u8 (t / 1099511627776 % 256) = u8v (byteAt t 5) := u8v_byte (by rfl)
    have e4 : Value.int .u8 (t / 4294967296 % 256) = u8v (byteAt t 4) := u8v_byte (by rfl)
    have e3 : Value.int .u8 (t / 16777216 % 256) = u8v (byteAt t 3) := u8v_byte (by rfl)
    have e2 : Value.int .u8 (t / 65536 % 256) = u8v (byteAt t 2) := u8v_byte (by rfl)
    have e1 : Value.int .u8 (t / 256 % 256) = u8v (byteAt t 1) := u8v_byte (by rfl)
    have e0 : Value.int .u8 (t % 256) = u8v (byteAt t 0) := u8v_byte (by rw [Int.pow_zero, Int.ediv_one])
    have HB := Lib.hid (byt_lit (w := w) (g := w.heap.size) (n := 6) (cs := #[.int .u8 (t / 1099511627776 % 256), .int .u8 (t / 4294967296 % 256), .int .u8 (t / 16777216 % 256), .int .u8 (t / 65536 % 256), .int .u8 (t / 256 % 256), .int .u8 (t % 256)]) (numB t 6) rfl (by rw [e0, e1, e2, e3, e4, e5]; rfl) rfl (le_lim (by simp [numB_length])))
    clear e0 e1 e2 e3 e4 e5
    go_wp2_with fail
    refine (make_any 24 _ (numB t 6) _ HB.out (by rw [numB_length]; omega)).mono ?_
    rintro e w2 ⟨v2, rfl, hown2, hb2⟩
    go_wp2_with fail
    go_ret
    rw [HE.out]
    exact RetB.of (below1 _) hown2 hb2

set_option maxHeartbeats 1600000 in
theorem bits_any (f : Int) (w : World) (h0 : 0 ≤ f) (h1 : f ≤ 4294967295) : Calls Try.prog 23 #[.int .u32 f] w (RetB w (bitsE f)) := by
  have H0 := Lib.hid (byt_lit (w := w) (g := w.heap.size) (n := 1) (cs := #[.int .u8 0]) [byteAt 0 0] rfl (by rw [show Value.int .u8 0 = u8v (byteAt 0 0) from u8v_byte (by simp)]; rfl) rfl (le_lim (by simp)))
  go_enter Try.func23, Try.ntmps23
  go_wp2_with fail
  refine (number_any f 4 _ (by omega)).mono ?_
  rintro e w1 ⟨v1, rfl, hown, hb⟩
  have hbyt := hown.byt
  obtain ⟨A, c, rfl, _, _, _⟩ := hbyt.len
  rw [numB_length] at *
  have HB := Lib.hid hbyt
  have H1 := Lib.hid (H0.out.below hb)
  clear hown hbyt H0
  go_wp2_with fail
  refine (element_any 3 _ [[byteAt 0 0], numB f 4] _ (bss2 (g := w1.heap.size) rfl H1.out HB.out) (le_lim (by simp)) (by simp [numB_length])).mono ?_
  rintro e w2 ⟨v2, rfl, hown2, hb2⟩
  go_wp2_with fail
  go_ret
  have e : bitsE f = elem 3 [[byteAt 0 0], numB f 4].flatten := by simp [bitsE]
  rw [e]
  exact RetB.of ((below1 _).trans ((hb.trans ((below1 _).mono hb.size)).mono (by simp))) hown2 hb2

set_option maxHeartbeats 1600000 in
theorem r_bits_any (f : Int) (w : World) (h0 : 0 ≤ f) (h1 : f ≤ 4294967295) : Calls Try.prog 24 #[.int .u32 f] w (RetB w (bitsE f)) := by
  have e4 : Value.int .u8 (f / 16777216) = u8v (byteAt f 3) := u8v_byte (by show _ = f / 16777216 % 256; omega)
  have e3 : Value.int .u8 (f / 65536 % 256) = u8v (byteAt f 2) := u8v_byte (by rfl)
  have e2 : Value.int .u8 (f / 256 % 256) = u8v (byteAt f 1) := u8v_byte (by rfl)
  have e1 : Value.int .u8 (f % 256) = u8v (byteAt f 0) := u8v_byte (by rw [Int.pow_zero, Int.ediv_one])
  have e0 : Value.int .u8 0 = u8v (byteAt 0 0) := u8v_byte (by simp)
  have HB := Lib.hid (byt_lit (w := w) (g := w.heap.size) (n := 5) (cs := #[.int .u8 0, .int .u8 (f / 16777216), .int .u8 (f / 65536 % 256), .int .u8 (f / 256 % 256), .int .u8 (f % 256)]) (byteAt 0 0 :: numB f 4) rfl (by rw [e0, e1, e2, e3, e4]; rfl) rfl (le_lim (by simp [numB_length])))
  clear e0 e1 e2 e3 e4
  go_enter Try.func24, Try.ntmps24
  go_wp2_with fail
  refine (make_any 3 _ (byteAt 0 0 :: numB f 4) _ HB.out (by simp [numB_length])).mono ?_
  rintro e w2 ⟨v2, rfl, hown2, hb2⟩
  go_wp2_with fail
  go_ret
  exact RetB.of (below1 _) hown2 hb2

def isNil (xs : List UInt8) : Bool := xs.isEmpty
theorem len_eq0 (xs : List UInt8) : ((xs.length : Int) == 0) = isNil xs := by
  cases xs with
  | nil => rfl
  | cons x xs => simp [isNil]; omega

set_option maxHeartbeats 1600000 in
theorem wrapped_any (tag n : Int) (v : Value) (xs : List UInt8) (w : World) (ht0 : 0 ≤ tag) (ht : tag ≤ 255) (h : Byt w v xs) (hn : (xs.length : Int) ≤ 16777215) :
    Calls Try.prog 53 #[.int .i64 tag, .int .i64 n, v] w (RetB w (wrapE tag n xs)) := by
  obtain ⟨A, c, rfl, _, _, _⟩ := h.len
  have H := Lib.hid h
  clear h
  by_cases h1 : n < 0
  · have HE : Hid (wrapE tag n xs = []) := by unfold Hid wrapE; rw [if_pos (.inl h1)]
    have d1 : decide (n < 0) = true := decide_eq_true h1
    go_enter Try.func53, Try.ntmps53
    go_wp2_with fail
    go_ret
    exact ⟨_, rfl, by rw [HE.out]; exact World.ownsRow_nil _ _ _ _, Below.refl _ _⟩
  · by_cases h2 : 30 < n
    · have HE : Hid (wrapE tag n xs = []) := by unfold Hid wrapE; rw [if_pos (.inr (.inl h2))]
      go_enter Try.func53, Try.ntmps53
      go_wp2_with fail
      go_ret
      exact ⟨_, rfl, by rw [HE.out]; exact World.ownsRow_nil _ _ _ _, Below.refl _ _⟩
    · by_cases h3 : xs = []
      · have HE : Hid (wrapE tag n xs = []) := by unfold Hid wrapE; rw [if_pos (.inr (.inr h3))]
        have d3 : ((xs.length : Int) == 0) = true := by rw [h3]; rfl
        clear h3
        go_enter Try.func53, Try.ntmps53
        go_wp2_with fail
        go_ret
        exact ⟨_, rfl, by rw [HE.out]; exact World.ownsRow_nil _ _ _ _, Below.refl _ _⟩
      · have HE : Hid (wrapE tag n xs = elem (tag + n) xs) := by unfold Hid wrapE; rw [if_neg (by simp only [not_or]; exact ⟨h1, h2, h3⟩)]
        have d3 : ((xs.length : Int) == 0) = false := by have := List.length_pos_iff.2 h3; simp; omega
        clear h3
        have h1' : 0 ≤ n := by omega
        have h2' : n ≤ 30 := by omega
        go_enter Try.func53, Try.ntmps53
        go_wp2_with fail
        refine (element_one _ _ _ xs w rfl H.out hn).mono ?_
        rintro e w2 ⟨v2, rfl, hown2, hb2⟩
        go_wp2_with fail
        go_ret
        rw [HE.out]
        exact RetB.of (below1 _) hown2 hb2

set_option maxHeartbeats 1600000 in
theorem r_wrapped_any (tag n : Int) (v : Value) (xs : List UInt8) (w : World) (ht0 : 0 ≤ tag) (ht : tag ≤ 255) (h : Byt w v xs) (hn : (xs.length : Int) ≤ 16777215) :
    Calls Try.prog 54 #[.int .i64 tag, .int .i64 n, v] w (RetB w (wrapE tag n xs)) := by
  obtain ⟨A, c, rfl, _, _, _⟩ := h.len
  have H := Lib.hid h
  clear h
  by_cases h1 : n < 0
  · have HE : Hid (wrapE tag n xs = []) := by unfold Hid wrapE; rw [if_pos (.inl h1)]
    have d1 : decide (n < 0) = true := decide_eq_true h1
    go_enter Try.func54, Try.ntmps54
    go_wp2_with fail
    go_ret
    exact ⟨_, rfl, by rw [HE.out]; exact World.ownsRow_nil _ _ _ _, Below.refl _ _⟩
  · by_cases h2 : 30 < n
    · have HE : Hid (wrapE tag n xs = []) := by unfold Hid wrapE; rw [if_pos (.inr (.inl h2))]
      go_enter Try.func54, Try.ntmps54
      go_wp2_with fail
      go_ret
      exact ⟨_, rfl, by rw [HE.out]; exact World.ownsRow_nil _ _ _ _, Below.refl _ _⟩
    · by_cases h3 : xs = []
      · have HE : Hid (wrapE tag n xs = []) := by unfold Hid wrapE; rw [if_pos (.inr (.inr h3))]
        have d3 : ((xs.length : Int) == 0) = true := by rw [h3]; rfl
        clear h3
        go_enter Try.func54, Try.ntmps54
        go_wp2_with fail
        go_ret
        exact ⟨_, rfl, by rw [HE.out]; exact World.ownsRow_nil _ _ _ _, Below.refl _ _⟩
      · have HE : Hid (wrapE tag n xs = elem (tag + n) xs) := by unfold Hid wrapE; rw [if_neg (by simp only [not_or]; exact ⟨h1, h2, h3⟩)]
        have d3 : ((xs.length : Int) == 0) = false := by have := List.length_pos_iff.2 h3; simp; omega
        clear h3
        have h1' : 0 ≤ n := by omega
        have h2' : n ≤ 30 := by omega
        go_enter Try.func54, Try.ntmps54
        go_wp2_with fail
        refine (make_any _ _ xs w H.out hn).mono ?_
        rintro e w2 ⟨v2, rfl, hown2, hb2⟩
        go_wp2_with fail
        go_ret
        rw [HE.out]
        exact ⟨_, rfl, hown2, hb2⟩

set_option maxHeartbeats 800000 in
theorem application_any (n : Int) (v : Value) (xs : List UInt8) (w : World) (h : Byt w v xs) (hn : (xs.length : Int) ≤ 16777215) :
    Calls Try.prog 11 #[.int .i64 n, v] w (RetB w (wrapE 96 n xs)) := by
  have H := Lib.hid h
  clear h
  go_enter Try.func11, Try.ntmps11
  go_wp2_with fail
  refine (wrapped_any 96 n v xs w (by omega) (by omega) H.out hn).mono ?_
  rintro e w2 ⟨v2, rfl, hown2, hb2⟩
  go_wp2_with fail
  go_ret
  exact ⟨_, rfl, hown2, hb2⟩

set_option maxHeartbeats 800000 in
theorem r_application_any (n : Int) (v : Value) (xs : List UInt8) (w : World) (h : Byt w v xs) (hn : (xs.length : Int) ≤ 16777215) :
    Calls Try.prog 12 #[.int .i64 n, v] w (RetB w (wrapE 96 n xs)) := by
  have H := Lib.hid h
  clear h
  go_enter Try.func12, Try.ntmps12
  go_wp2_with fail
  refine (r_wrapped_any 96 n v xs w (by omega) (by omega) H.out hn).mono ?_
  rintro e w2 ⟨v2, rfl, hown2, hb2⟩
  go_wp2_with fail
  go_ret
  exact ⟨_, rfl, hown2, hb2⟩

set_option maxHeartbeats 800000 in
theorem tagged_any (n : Int) (v : Value) (xs : List UInt8) (w : World) (h : Byt w v xs) (hn : (xs.length : Int) ≤ 16777215) :
    Calls Try.prog 13 #[.int .i64 n, v] w (RetB w (wrapE 160 n xs)) := by
  have H := Lib.hid h
  clear h
  go_enter Try.func13, Try.ntmps13
  go_wp2_with fail
  refine (wrapped_any 160 n v xs w (by omega) (by omega) H.out hn).mono ?_
  rintro e w2 ⟨v2, rfl, hown2, hb2⟩
  go_wp2_with fail
  go_ret
  exact ⟨_, rfl, hown2, hb2⟩

set_option maxHeartbeats 800000 in
theorem r_tagged_any (n : Int) (v : Value) (xs : List UInt8) (w : World) (h : Byt w v xs) (hn : (xs.length : Int) ≤ 16777215) :
    Calls Try.prog 14 #[.int .i64 n, v] w (RetB w (wrapE 160 n xs)) := by
  have H := Lib.hid h
  clear h
  go_enter Try.func14, Try.ntmps14
  go_wp2_with fail
  refine (r_wrapped_any 160 n v xs w (by omega) (by omega) H.out hn).mono ?_
  rintro e w2 ⟨v2, rfl, hown2, hb2⟩
  go_wp2_with fail
  go_ret
  exact ⟨_, rfl, hown2, hb2⟩


set_option maxHeartbeats 1600000 in
theorem r_sequence_any (v : Value) (xss : List (List UInt8)) (w : World) (h : Bss w v xss) (hl : xss.length ≤ lim) (hn : (xss.flatten.length : Int) ≤ 16777215) : Calls Try.prog 16 #[v] w (RetB w (elem 48 xss.flatten)) := by
  obtain ⟨A, c, rfl⟩ := h.len
  have hn1 : (xss.length : Int) ≤ 1099511627776 := by have := lim_le hl; omega
  have H := Lib.hid h
  have HN := Lib.hid hn
  clear h hl hn
  go_enter Try.func16, Try.ntmps16
  go_wp2_with fail
  go_loopw [3, 4] (fun b i wr => ∃ (k : Nat) (A : Option Addr) (c : Nat), k ≤ xss.length ∧ i = .int .i64 k ∧ b = .slice A (flen xss k) c ∧ OwnB wr w.heap.size (.slice A (flen xss k) c) (xss.take k).flatten ∧ Below w.heap.size w wr) (fun _ i _ => xss.length - (intOf i).toNat)
  case atStart => exact ⟨0, none, 0, Nat.zero_le _, rfl, rfl, World.ownsRow_nil _ _ _ _, Below.refl _ _⟩
  case round =>
    obtain ⟨k, A', c', hk, rfl, rfl, hown, hb⟩ := hrel
    have HO := Lib.hid hown
    clear hown
    by_cases hlt : k < xss.length
    · obtain ⟨b, off, c2, u, hA, _, hc, hu⟩ := (H.out.below hb).at_ hlt
      injection hA with hA _ hc'
      subst hA hc'
      obtain ⟨Au, cu, rfl, _, _, _⟩ := hu.len
      have HU := Lib.hid hu
      have hsum : flen xss k + xss[k].length ≤ flen xss xss.length := by rw [← flen_succ xss k hlt]; exact flen_le xss (k + 1)
      have HS := Lib.hid hsum
      clear hu hsum
      go_wp2_with (at_builtin; refine wpl_append_b rfl _ _ 24 rfl eiU8 w.heap.size (.slice A' (flen xss k) c') _ rfl HO.out _ xss[k] rfl HU.out (small_lim (by have := HN.out; have h2 := HS.out; rw [flen_all] at h2; unfold flen at h2; omega)) hb.size ?_; intro A3 c3 w3 hown3 hg3 _; have HO3 := Lib.hid hown3; have HG3 := Lib.hid hg3; clear hown3 hg3)
      go_roundw
      case rel =>
        have e : (xss.take k).flatten.length + xss[k].length = flen xss (k + 1) := (flen_succ xss k hlt).symm
        refine ⟨k + 1, A3, c3, by omega, by go_num, ?_, ?_, hb.trans (below_of_own HO.out HG3.out hb.size)⟩
        · rw [← e]
          simp
        · rw [flat_take xss k hlt]
          exact HO3.out.respell e.symm
      case measure => simp [intOf]; omega
    · obtain rfl : k = xss.length := by omega
      go_wp2_with fail
      refine (make_any 48 _ xss.flatten wr (by have := HO.out.byt; rw [List.take_length] at this; exact this) HN.out).mono ?_
      rintro e w2 ⟨v2, rfl, hown2, hb2⟩
      go_wp2_with fail
      go_ret
      exact RetB.of hb hown2 hb2

end Go.Proofs.Yteepfeggkocakaa
