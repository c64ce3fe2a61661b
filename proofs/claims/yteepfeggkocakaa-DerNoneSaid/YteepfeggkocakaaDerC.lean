/- Walks: the elements of values, the program's and the reference's. -/
import Derived.Test.YteepfeggkocakaaDerMake
set_option linter.unusedVariables false
set_option linter.unusedSimpArgs false
set_option maxRecDepth 20000
namespace Go.Proofs.Yteepfeggkocakaa
open Go.RowKit Der

theorem flat1 (x : List UInt8) : [x].flatten = x := by simp
theorem below1 {w : World} (o : Obj) : Below w.heap.size w (w.alloc o) := (Below.refl _ _).alloc (Nat.le_refl _) _

/-- One element around bytes that are at hand. -/
theorem element_one (tag : Int) (g : Nat) (v : Value) (xs : List UInt8) (w : World) (hg : g = w.heap.size) (h : Byt w v xs) (hn : (xs.length : Int) ≤ 16777215) :
    Calls Try.prog 55 #[.int .i64 tag, .slice (some ⟨g, 0, none⟩) 1 1] (w.alloc (.cells #[v] 24)) (RetB (w.alloc (.cells #[v] 24)) (elem tag xs)) := by
  have h1 := element_any tag _ [xs] _ (bss1 hg h) (le_lim (by simp)) (by simpa using hn)
  rwa [flat1] at h1

set_option maxHeartbeats 800000 in
theorem octets_any (v : Value) (xs : List UInt8) (w : World) (h : Byt w v xs) (hn : (xs.length : Int) ≤ 16777215) : Calls Try.prog 25 #[v] w (RetB w (elem 4 xs)) := by
  obtain ⟨A, c, rfl, _, _, _⟩ := h.len
  have H := Lib.hid h
  clear h
  go_enter Try.func25, Try.ntmps25
  go_wp2_with fail
  refine (element_one 4 _ _ xs w rfl H.out hn).mono ?_
  rintro e w1 ⟨v1, rfl, hown, hb⟩
  go_wp2_with fail
  go_ret
  exact RetB.of (below1 _) hown hb

set_option maxHeartbeats 800000 in
theorem r_octets_any (v : Value) (xs : List UInt8) (w : World) (h : Byt w v xs) (hn : (xs.length : Int) ≤ 16777215) : Calls Try.prog 26 #[v] w (RetB w (elem 4 xs)) := by
  have H := Lib.hid h
  clear h
  go_enter Try.func26, Try.ntmps26
  go_wp2_with fail
  refine (make_any 4 _ xs w H.out hn).mono ?_
  rintro e w1 ⟨v1, rfl, hown, hb⟩
  go_wp2_with fail
  go_ret
  exact ⟨_, rfl, hown, hb⟩

set_option maxHeartbeats 800000 in
theorem string_any (s : ByteArray) (w : World) (hn : (s.size : Int) ≤ 16777215) : Calls Try.prog 27 #[.string s] w (RetB w (elem 27 s.data.toList)) := by
  have hlen : (s.data.toList.length : Int) ≤ 16777215 := by rw [Array.length_toList]; exact hn
  have HL := Lib.hid hlen
  clear hlen
  go_enter Try.func27, Try.ntmps27
  go_wp2_with (refine wpl_str_bytes rfl rfl Try.underlying9 Try.underlying24 Try.underlying5 s rfl (small_lim (by omega)) ?_; intro c w1 hbyt hb; have HB := Lib.hid hbyt; clear hbyt)
  refine (element_one 27 _ _ s.data.toList w1 rfl HB.out HL.out).mono ?_
  rintro e w2 ⟨v2, rfl, hown, hb2⟩
  go_wp2_with fail
  go_ret
  exact RetB.of (hb.trans ((below1 _).mono hb.size)) hown hb2

set_option maxHeartbeats 800000 in
theorem r_string_any (s : ByteArray) (w : World) (hn : (s.size : Int) ≤ 16777215) : Calls Try.prog 28 #[.string s] w (RetB w (elem 27 s.data.toList)) := by
  have hlen : (s.data.toList.length : Int) ≤ 16777215 := by rw [Array.length_toList]; exact hn
  have HL := Lib.hid hlen
  clear hlen
  go_enter Try.func28, Try.ntmps28
  go_wp2_with (refine wpl_str_bytes rfl rfl Try.underlying9 Try.underlying24 Try.underlying5 s rfl (small_lim (by omega)) ?_; intro c w1 hbyt hb; have HB := Lib.hid hbyt; clear hbyt)
  refine (make_any 27 _ s.data.toList w1 HB.out HL.out).mono ?_
  rintro e w2 ⟨v2, rfl, hown, hb2⟩
  go_wp2_with fail
  go_ret
  exact RetB.of hb hown hb2

set_option maxHeartbeats 800000 in
theorem sequence_any (v : Value) (xss : List (List UInt8)) (w : World) (h : Bss w v xss) (hl : xss.length ≤ lim) (hn : (xss.flatten.length : Int) ≤ 16777215) : Calls Try.prog 15 #[v] w (RetB w (elem 48 xss.flatten)) := by
  have H := Lib.hid h
  have HL := Lib.hid hl
  have HN := Lib.hid hn
  clear h hl hn
  go_enter Try.func15, Try.ntmps15
  go_wp2_with fail
  refine (element_any 48 _ xss w H.out HL.out HN.out).mono ?_
  rintro e w1 ⟨v1, rfl, hown, hb⟩
  go_wp2_with fail
  go_ret
  exact ⟨_, rfl, hown, hb⟩

set_option maxHeartbeats 800000 in
theorem bool_any (b : Bool) (w : World) : Calls Try.prog 17 #[.bool b] w (RetB w (boolE b)) := by
  cases b
  · have h := byt_lit (w := w) (g := w.heap.size) (n := 1) (cs := #[.int .u8 0]) [byteAt 0 0] rfl (by rw [show Value.int .u8 0 = u8v (byteAt 0 0) from u8v_byte (by simp)]; rfl) rfl (le_lim (by simp))
    have H := Lib.hid h
    clear h
    go_enter Try.func17, Try.ntmps17
    go_wp2_with fail
    refine (element_one 1 _ _ [byteAt 0 0] _ (by simp) H.out (by simp)).mono ?_
    rintro e w1 ⟨v1, rfl, hown, hb⟩
    go_wp2_with fail
    go_ret
    exact RetB.of ((below1 _).alloc (by simp) _) hown hb
  · have h := byt_lit (w := w) (g := w.heap.size) (n := 1) (cs := #[.int .u8 255]) [byteAt 255 0] rfl (by rw [show Value.int .u8 255 = u8v (byteAt 255 0) from u8v_byte (by simp)]; rfl) rfl (le_lim (by simp))
    have H := Lib.hid h
    clear h
    go_enter Try.func17, Try.ntmps17
    go_wp2_with fail
    refine (element_one 1 _ _ [byteAt 255 0] _ (by simp) H.out (by simp)).mono ?_
    rintro e w1 ⟨v1, rfl, hown, hb⟩
    go_wp2_with fail
    go_ret
    exact RetB.of ((below1 _).alloc (by simp) _) hown hb

set_option maxHeartbeats 800000 in
theorem r_bool_any (b : Bool) (w : World) : Calls Try.prog 18 #[.bool b] w (RetB w (boolE b)) := by
  cases b
  · have h := byt_lit (w := w) (g := w.heap.size) (n := 1) (cs := #[.int .u8 0]) [byteAt 0 0] rfl (by rw [show Value.int .u8 0 = u8v (byteAt 0 0) from u8v_byte (by simp)]; rfl) rfl (le_lim (by simp))
    have H := Lib.hid h
    clear h
    go_enter Try.func18, Try.ntmps18
    go_wp2_with fail
    refine (make_any 1 _ [byteAt 0 0] _ H.out (by simp)).mono ?_
    rintro e w1 ⟨v1, rfl, hown, hb⟩
    go_wp2_with fail
    go_ret
    exact RetB.of (below1 _) hown hb
  · have h := byt_lit (w := w) (g := w.heap.size) (n := 1) (cs := #[.int .u8 255]) [byteAt 255 0] rfl (by rw [show Value.int .u8 255 = u8v (byteAt 255 0) from u8v_byte (by simp)]; rfl) rfl (le_lim (by simp))
    have H := Lib.hid h
    clear h
    go_enter Try.func18, Try.ntmps18
    go_wp2_with fail
    refine (make_any 1 _ [byteAt 255 0] _ H.out (by simp)).mono ?_
    rintro e w1 ⟨v1, rfl, hown, hb⟩
    go_wp2_with fail
    go_ret
    exact RetB.of (below1 _) hown hb

end Go.Proofs.Yteepfeggkocakaa
