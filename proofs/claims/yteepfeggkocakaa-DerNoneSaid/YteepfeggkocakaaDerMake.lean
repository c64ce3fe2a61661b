/- Walks: the reference's Make. -/
import Derived.Test.YteepfeggkocakaaDerB
set_option linter.unusedVariables false
set_option linter.unusedSimpArgs false
namespace Go.Proofs.Yteepfeggkocakaa
open Go.RowKit Der

set_option maxHeartbeats 3200000 in
set_option maxRecDepth 20000 in
/-- The element with a tag around bytes: the reference's. -/
theorem make_any (tag : Int) (v : Value) (xs : List UInt8) (w : World) (h : Byt w v xs) (hn : (xs.length : Int) ≤ 16777215) :
    Calls Try.prog 56 #[.int .i64 tag, v] w (RetB w (elem tag xs)) := by
  obtain ⟨A, c, rfl, _, _, _⟩ := h.len
  have e1 : Value.int .u8 (tag % 256) = u8v (byteAt tag 0) := u8v_byte (by rw [Int.pow_zero, Int.ediv_one])
  have HT := Lib.hid (own_lit (w := w) (base := w.heap.size) (g := w.heap.size) (n := 1) (cs := #[.int .u8 (tag % 256)]) [byteAt tag 0] (Nat.le_refl _) rfl (by rw [e1]; rfl) rfl (le_lim (by simp)))
  have HX := Lib.hid h
  have HN := Lib.hid hn
  clear e1 h
  by_cases h1 : (xs.length : Int) < 128
  · have HLEN : Hid (lenB xs.length = [byteAt xs.length 0]) := by
      unfold Hid
      unfold lenB; rw [if_pos (by omega)]
    have f0 : Value.int .u8 ((xs.length : Int)) = u8v (byteAt ((xs.length : Int)) 0) := u8v_byte (by have := HN.out; simp; try omega)
    have hL := byt_lit (w := w.alloc (.cells #[.int .u8 (tag % 256)] 5)) (g := w.heap.size + 1) (n := 1) (cs := #[.int .u8 ((xs.length : Int))]) [byteAt xs.length 0] (by simp) (by rw [f0]; rfl) rfl (le_lim (by simp [numB_length]))
    have HL := Lib.hid hL
    have HT2 := Lib.hid (HT.out.below ((Below.refl _ _).alloc (Nat.le_refl _) (.cells #[.int .u8 ((xs.length : Int))] 5)))
    clear HT hL f0
    go_enter Try.func56, Try.ntmps56
    go_wp2_with (at_builtin; first | (refine wpl_append_b rfl (.tmp 14) (.tmp 17) 24 rfl eiU8 w.heap.size (.slice (some ⟨w.heap.size, 0, none⟩) 1 1) [byteAt tag 0] rfl HT2.out _ [byteAt xs.length 0] rfl HL.out (le_lim (by simp [numB_length])) (by simp; omega) ?_; intro A3 c3 w3 hown3 hg3 hat3; have HO3 := Lib.hid hown3; have HB3 := Lib.hid ((((Below.refl w.heap.size w).alloc (Nat.le_refl _) _).alloc (by simp) _).trans (below_of_own (base := w.heap.size) HT2.out hg3 (by simp; omega))); have HX3 := Lib.hid (HX.out.below HB3.out); clear hown3 hg3 hat3) | (refine wpl_append_b rfl (.tmp 52) (.tmp 53) 24 rfl eiU8 w.heap.size _ _ rfl HO3.out _ xs rfl HX3.out (small_lim (by have := HN.out; simp [numB_length]; omega)) HB3.out.size ?_; intro A4 c4 w4 hown4 hg4 hat4; have HO4 := Lib.hid hown4; have HG4 := Lib.hid hg4; clear hown4 hg4 hat4))
    go_ret
    refine ⟨_, rfl, ?_, ?_⟩
    · have e : elem tag xs = ([byteAt tag 0] ++ [byteAt xs.length 0]) ++ xs := by
        unfold elem
        rw [HLEN.out]
        rfl
      rw [e]
      exact HO4.out.respell (by simp [numB_length])
    · exact HB3.out.trans (below_of_own HO3.out HG4.out HB3.out.size)
  · by_cases h2 : (xs.length : Int) < 256
    · have HLEN : Hid (lenB xs.length = [byteAt 129 0, byteAt xs.length 0]) := by
        unfold Hid
        unfold lenB; rw [if_neg (by omega), if_pos (by omega)]; rfl
      have f0 : Value.int .u8 (129) = u8v (byteAt (129) 0) := u8v_byte (by have := HN.out; simp; try omega)
      have f1 : Value.int .u8 ((xs.length : Int)) = u8v (byteAt ((xs.length : Int)) 0) := u8v_byte (by have := HN.out; simp; try omega)
      have hL := byt_lit (w := w.alloc (.cells #[.int .u8 (tag % 256)] 5)) (g := w.heap.size + 1) (n := 2) (cs := #[.int .u8 (129), .int .u8 ((xs.length : Int))]) [byteAt 129 0, byteAt xs.length 0] (by simp) (by rw [f0, f1]; rfl) rfl (le_lim (by simp [numB_length]))
      have HL := Lib.hid hL
      have HT2 := Lib.hid (HT.out.below ((Below.refl _ _).alloc (Nat.le_refl _) (.cells #[.int .u8 (129), .int .u8 ((xs.length : Int))] 5)))
      clear HT hL f0 f1
      go_enter Try.func56, Try.ntmps56
      go_wp2_with (at_builtin; first | (refine wpl_append_b rfl (.tmp 21) (.tmp 24) 24 rfl eiU8 w.heap.size (.slice (some ⟨w.heap.size, 0, none⟩) 1 1) [byteAt tag 0] rfl HT2.out _ [byteAt 129 0, byteAt xs.length 0] rfl HL.out (le_lim (by simp [numB_length])) (by simp; omega) ?_; intro A3 c3 w3 hown3 hg3 hat3; have HO3 := Lib.hid hown3; have HB3 := Lib.hid ((((Below.refl w.heap.size w).alloc (Nat.le_refl _) _).alloc (by simp) _).trans (below_of_own (base := w.heap.size) HT2.out hg3 (by simp; omega))); have HX3 := Lib.hid (HX.out.below HB3.out); clear hown3 hg3 hat3) | (refine wpl_append_b rfl (.tmp 52) (.tmp 53) 24 rfl eiU8 w.heap.size _ _ rfl HO3.out _ xs rfl HX3.out (small_lim (by have := HN.out; simp [numB_length]; omega)) HB3.out.size ?_; intro A4 c4 w4 hown4 hg4 hat4; have HO4 := Lib.hid hown4; have HG4 := Lib.hid hg4; clear hown4 hg4 hat4))
      go_ret
      refine ⟨_, rfl, ?_, ?_⟩
      · have e : elem tag xs = ([byteAt tag 0] ++ [byteAt 129 0, byteAt xs.length 0]) ++ xs := by
          unfold elem
          rw [HLEN.out]
          rfl
        rw [e]
        exact HO4.out.respell (by simp [numB_length])
      · exact HB3.out.trans (below_of_own HO3.out HG4.out HB3.out.size)
    · have d1 : decide ((xs.length : Int) < 128) = false := by simp; omega
      have d2 : decide ((xs.length : Int) < 256) = false := by simp; omega
      have H2 := Lib.hid h2
      clear h1 h2
      by_cases h3 : (xs.length : Int) < 65536
      · have d3 : decide ((xs.length : Int) < 65536) = true := by simp; omega
        have H3 := Lib.hid h3
        clear h3
        have HLEN : Hid (lenB xs.length = [byteAt 130 0, byteAt xs.length 1, byteAt xs.length 0]) := by
          unfold Hid
          have := H2.out; have := H3.out; unfold lenB; rw [if_neg (by omega), if_neg (by omega), if_pos (by omega)]; rfl
        have f0 : Value.int .u8 (130) = u8v (byteAt (130) 0) := u8v_byte (by have := HN.out; have := H3.out; simp; try omega)
        have f1 : Value.int .u8 ((xs.length : Int) / 256 % 256) = u8v (byteAt ((xs.length : Int)) 1) := u8v_byte (by have := HN.out; have := H3.out; simp; try omega)
        have f2 : Value.int .u8 ((xs.length : Int) % 256) = u8v (byteAt ((xs.length : Int)) 0) := u8v_byte (by have := HN.out; have := H3.out; simp; try omega)
        have hL := byt_lit (w := w.alloc (.cells #[.int .u8 (tag % 256)] 5)) (g := w.heap.size + 1) (n := 3) (cs := #[.int .u8 (130), .int .u8 ((xs.length : Int) / 256 % 256), .int .u8 ((xs.length : Int) % 256)]) [byteAt 130 0, byteAt xs.length 1, byteAt xs.length 0] (by simp) (by rw [f0, f1, f2]; rfl) rfl (le_lim (by simp [numB_length]))
        have HL := Lib.hid hL
        have HT2 := Lib.hid (HT.out.below ((Below.refl _ _).alloc (Nat.le_refl _) (.cells #[.int .u8 (130), .int .u8 ((xs.length : Int) / 256 % 256), .int .u8 ((xs.length : Int) % 256)] 5)))
        clear HT hL f0 f1 f2
        go_enter Try.func56, Try.ntmps56
        go_wp2_with (at_builtin; first | (refine wpl_append_b rfl (.tmp 28) (.tmp 35) 24 rfl eiU8 w.heap.size (.slice (some ⟨w.heap.size, 0, none⟩) 1 1) [byteAt tag 0] rfl HT2.out _ [byteAt 130 0, byteAt xs.length 1, byteAt xs.length 0] rfl HL.out (le_lim (by simp [numB_length])) (by simp; omega) ?_; intro A3 c3 w3 hown3 hg3 hat3; have HO3 := Lib.hid hown3; have HB3 := Lib.hid ((((Below.refl w.heap.size w).alloc (Nat.le_refl _) _).alloc (by simp) _).trans (below_of_own (base := w.heap.size) HT2.out hg3 (by simp; omega))); have HX3 := Lib.hid (HX.out.below HB3.out); clear hown3 hg3 hat3) | (refine wpl_append_b rfl (.tmp 52) (.tmp 53) 24 rfl eiU8 w.heap.size _ _ rfl HO3.out _ xs rfl HX3.out (small_lim (by have := HN.out; simp [numB_length]; omega)) HB3.out.size ?_; intro A4 c4 w4 hown4 hg4 hat4; have HO4 := Lib.hid hown4; have HG4 := Lib.hid hg4; clear hown4 hg4 hat4))
        go_ret
        refine ⟨_, rfl, ?_, ?_⟩
        · have e : elem tag xs = ([byteAt tag 0] ++ [byteAt 130 0, byteAt xs.length 1, byteAt xs.length 0]) ++ xs := by
            unfold elem
            rw [HLEN.out]
            rfl
          rw [e]
          exact HO4.out.respell (by simp [numB_length])
        · exact HB3.out.trans (below_of_own HO3.out HG4.out HB3.out.size)
      · have d3 : decide ((xs.length : Int) < 65536) = false := by simp; omega
        have d4 : decide ((xs.length : Int) < 16777216) = true := by have := HN.out; simp; omega
        have H3 := Lib.hid h3
        clear h3
        have HLEN : Hid (lenB xs.length = [byteAt 131 0, byteAt xs.length 2, byteAt xs.length 1, byteAt xs.length 0]) := by
          unfold Hid
          have := H3.out; unfold lenB; rw [if_neg (by omega), if_neg (by omega), if_neg (by omega)]; rfl
        have f0 : Value.int .u8 (131) = u8v (byteAt (131) 0) := u8v_byte (by have := HN.out; simp; try omega)
        have f1 : Value.int .u8 ((xs.length : Int) / 65536) = u8v (byteAt ((xs.length : Int)) 2) := u8v_byte (by have := HN.out; simp; try omega)
        have f2 : Value.int .u8 ((xs.length : Int) / 256 % 256) = u8v (byteAt ((xs.length : Int)) 1) := u8v_byte (by have := HN.out; simp; try omega)
        have f3 : Value.int .u8 ((xs.length : Int) % 256) = u8v (byteAt ((xs.length : Int)) 0) := u8v_byte (by have := HN.out; simp; try omega)
        have hL := byt_lit (w := w.alloc (.cells #[.int .u8 (tag % 256)] 5)) (g := w.heap.size + 1) (n := 4) (cs := #[.int .u8 (131), .int .u8 ((xs.length : Int) / 65536), .int .u8 ((xs.length : Int) / 256 % 256), .int .u8 ((xs.length : Int) % 256)]) [byteAt 131 0, byteAt xs.length 2, byteAt xs.length 1, byteAt xs.length 0] (by simp) (by rw [f0, f1, f2, f3]; rfl) rfl (le_lim (by simp [numB_length]))
        have HL := Lib.hid hL
        have HT2 := Lib.hid (HT.out.below ((Below.refl _ _).alloc (Nat.le_refl _) (.cells #[.int .u8 (131), .int .u8 ((xs.length : Int) / 65536), .int .u8 ((xs.length : Int) / 256 % 256), .int .u8 ((xs.length : Int) % 256)] 5)))
        clear HT hL f0 f1 f2 f3
        go_enter Try.func56, Try.ntmps56
        go_wp2_with (at_builtin; first | (refine wpl_append_b rfl (.tmp 39) (.tmp 50) 24 rfl eiU8 w.heap.size (.slice (some ⟨w.heap.size, 0, none⟩) 1 1) [byteAt tag 0] rfl HT2.out _ [byteAt 131 0, byteAt xs.length 2, byteAt xs.length 1, byteAt xs.length 0] rfl HL.out (le_lim (by simp [numB_length])) (by simp; omega) ?_; intro A3 c3 w3 hown3 hg3 hat3; have HO3 := Lib.hid hown3; have HB3 := Lib.hid ((((Below.refl w.heap.size w).alloc (Nat.le_refl _) _).alloc (by simp) _).trans (below_of_own (base := w.heap.size) HT2.out hg3 (by simp; omega))); have HX3 := Lib.hid (HX.out.below HB3.out); clear hown3 hg3 hat3) | (refine wpl_append_b rfl (.tmp 52) (.tmp 53) 24 rfl eiU8 w.heap.size _ _ rfl HO3.out _ xs rfl HX3.out (small_lim (by have := HN.out; simp [numB_length]; omega)) HB3.out.size ?_; intro A4 c4 w4 hown4 hg4 hat4; have HO4 := Lib.hid hown4; have HG4 := Lib.hid hg4; clear hown4 hg4 hat4))
        go_ret
        refine ⟨_, rfl, ?_, ?_⟩
        · have e : elem tag xs = ([byteAt tag 0] ++ [byteAt 131 0, byteAt xs.length 2, byteAt xs.length 1, byteAt xs.length 0]) ++ xs := by
            unfold elem
            rw [HLEN.out]
            rfl
          rw [e]
          exact HO4.out.respell (by simp [numB_length])
        · exact HB3.out.trans (below_of_own HO3.out HG4.out HB3.out.size)

end Go.Proofs.Yteepfeggkocakaa
