/- Walks: der.element and the reference's Make; the elements of values. -/
import Derived.Test.YteepfeggkocakaaDerA
import Derived.Test.YteepfeggkocakaaSlices
set_option linter.unusedVariables false
set_option linter.unusedSimpArgs false
namespace Go.Proofs.Yteepfeggkocakaa
open Go.RowKit Der

theorem u8v_byteAt (v : Int) (i : Nat) : u8v (byteAt v i) = .int .u8 (v / 256 ^ i % 256) := by unfold u8v; rw [byteAt_toNat]
theorem u8v_byteAt0 (v : Int) : u8v (byteAt v 0) = .int .u8 (v % 256) := by rw [u8v_byteAt, Int.pow_zero, Int.ediv_one]

theorem infoBs : (Try.prog.info? 24).map (fun i => (i.zero, i.size, i.bytes)) = some (some (.slice none 0 0), 1, 24) := by kernel_rfl
theorem eiBs : EI Try.prog 22 24 (.slice none 0 0) 24 := by
  obtain ⟨i0, hi, hz0, hz1, hz2⟩ := info_parts infoBs
  exact ⟨Try.underlying22, ⟨i0, hi, hz0, hz1, hz2⟩, rfl⟩

/-- A literal row of bytes, of byte slices, just laid. -/
theorem byt_lit {w : World} {g n : Nat} {cs : Array Value} (xs : List UInt8) (hg : g = w.heap.size) (hcs : cs = (xs.map u8v).toArray) (hn : n = xs.length) (hl : xs.length ≤ lim) :
    Byt (w.alloc (.cells cs 5)) (.slice (some ⟨g, 0, none⟩) n n) xs := by
  subst hg
  exact (ownB_new (base := 0) (Nat.zero_le _) xs hl cs hcs n hn).byt
theorem own_lit {w : World} {base g n : Nat} {cs : Array Value} (xs : List UInt8) (hb : base ≤ w.heap.size) (hg : g = w.heap.size) (hcs : cs = (xs.map u8v).toArray) (hn : n = xs.length) (hl : xs.length ≤ lim) :
    OwnB (w.alloc (.cells cs 5)) base (.slice (some ⟨g, 0, none⟩) n n) xs := by
  subst hg
  exact ownB_new hb xs hl cs hcs n hn
/-- The same slice, its length spelled otherwise. -/
theorem Byt.len_eq {w : World} {A : Option Addr} {n m c : Nat} {xs : List UInt8} (h : Byt w (.slice A n c) xs) (e : m = n) : Byt w (.slice A m c) xs := by subst e; exact h
theorem u8v_byte {a v : Int} {i : Nat} (h : a = v / 256 ^ i % 256) : Value.int .u8 a = u8v (byteAt v i) := by rw [u8v_byteAt, h]
theorem bss_lit {w : World} {g n : Nat} {cs : Array Value} (us : List Value) (xss : List (List UInt8)) (hg : g = w.heap.size) (hcs : cs = us.toArray) (hn : n = us.length) (hl : us.length = xss.length) (hs : us.length ≤ lim)
    (h : ∀ (j : Nat) (u : Value) (x : List UInt8), us[j]? = some u → xss[j]? = some x → Byt w u x) : Bss (w.alloc (.cells cs 24)) (.slice (some ⟨g, 0, none⟩) n n) xss := by
  subst hg hcs hn
  refine ⟨us, hl, Sl.of_own (base := 0) (e := 24) (n := us.length) ?_, fun j u x hu hx => (h j u x hu hx).alloc _⟩
  have h := World.ownsRow_lit (base := 0) (e := 24) (size := 1) w us.toArray us.length (Nat.zero_le _) (by have := lim_le hs; simp [maxLen]; omega) (by simp)
  simpa using h
theorem bss1 {w : World} {g : Nat} {u : Value} {x : List UInt8} (hg : g = w.heap.size) (h : Byt w u x) : Bss (w.alloc (.cells #[u] 24)) (.slice (some ⟨g, 0, none⟩) 1 1) [x] :=
  bss_lit [u] [x] hg rfl rfl rfl (le_lim (by simp)) (fun j a b ha hb => by
    match j with
    | 0 => simp at ha hb; subst ha hb; exact h
    | j + 1 => simp at ha)
theorem bss2 {w : World} {g : Nat} {u v : Value} {x y : List UInt8} (hg : g = w.heap.size) (h : Byt w u x) (h2 : Byt w v y) : Bss (w.alloc (.cells #[u, v] 24)) (.slice (some ⟨g, 0, none⟩) 2 2) [x, y] :=
  bss_lit [u, v] [x, y] hg rfl rfl rfl (le_lim (by simp)) (fun j a b ha hb => by
    match j with
    | 0 => simp at ha hb; subst ha hb; exact h
    | 1 => simp at ha hb; subst ha hb; exact h2
    | j + 2 => simp at ha)
theorem bss3 {w : World} {g : Nat} {u v r : Value} {x y z : List UInt8} (hg : g = w.heap.size) (h : Byt w u x) (h2 : Byt w v y) (h3 : Byt w r z) : Bss (w.alloc (.cells #[u, v, r] 24)) (.slice (some ⟨g, 0, none⟩) 3 3) [x, y, z] :=
  bss_lit [u, v, r] [x, y, z] hg rfl rfl rfl (le_lim (by simp)) (fun j a b ha hb => by
    match j with
    | 0 => simp at ha hb; subst ha hb; exact h
    | 1 => simp at ha hb; subst ha hb; exact h2
    | 2 => simp at ha hb; subst ha hb; exact h3
    | j + 3 => simp at ha)

theorem small_lim {n : Nat} (h : (n : Int) ≤ 16777300) : n ≤ lim := by unfold lim; omega

set_option maxHeartbeats 1600000 in
set_option maxRecDepth 20000 in
theorem element_short (tag : Int) (v : Value) (xss : List (List UInt8)) (w : World) (h : Bss w v xss) (hl : xss.length ≤ lim) (hn : (xss.flatten.length : Int) < 128) :
    Calls Try.prog 55 #[.int .i64 tag, v] w (RetB w (elem tag xss.flatten)) := by
  have H := Lib.hid h
  have HL := Lib.hid hl
  have HN := Lib.hid hn
  clear h hl hn
  go_enter Try.func55, Try.ntmps55
  go_wp2_with fail
  refine (concat_any v xss _ H.out HL.out (small_lim (by have := HN.out; omega))).mono ?_
  rintro e w1 ⟨v1, rfl, hown, hb⟩
  have hbyt := hown.byt
  obtain ⟨A, c, rfl, _, _, _⟩ := hbyt.len
  generalize hxs : xss.flatten = xs at *
  have hn := HN.out
  have HB := Lib.hid hbyt
  clear hown hxs
  go_wp2_with fail
  have e1 : Value.int .u8 (xs.length : Int) = u8v (byteAt xs.length 0) := u8v_byte (by rw [Int.pow_zero, Int.ediv_one]; omega)
  have e2 : Value.int .u8 (tag % 256) = u8v (byteAt tag 0) := u8v_byte (by rw [Int.pow_zero, Int.ediv_one])
  have h1 := byt_lit (w := w1) (g := w1.heap.size) (n := 1) (cs := #[.int .u8 (xs.length : Int)]) [byteAt xs.length 0] rfl (by rw [e1]; rfl) rfl (le_lim (by simp))
  have h2 := byt_lit (w := w1.alloc (.cells #[.int .u8 (xs.length : Int)] 5)) (g := w1.heap.size + 1) (n := 1) (cs := #[.int .u8 (tag % 256)]) [byteAt tag 0] (by simp) (by rw [e2]; rfl) rfl (le_lim (by simp))
  refine (concat_any _ _ _ (bss3 (by simp) h2 (h1.alloc _) ((HB.out.alloc _).alloc _)) (le_lim (by simp)) (small_lim (by simp; omega))).mono ?_
  rintro e w2 ⟨v2, rfl, hown2, hb2⟩
  clear h1 h2 e1 e2
  go_wp2_with fail
  go_ret
  refine ⟨_, rfl, ?_, ?_⟩
  · have e : elem tag xs = [[byteAt tag 0], [byteAt xs.length 0], xs].flatten := by
      simp only [elem, lenB]
      rw [if_pos (by omega)]
      simp only [List.flatten_cons, List.flatten_nil, List.append_nil, List.cons_append, List.nil_append]
    rw [e]
    exact hown2.mono (by have := hb.size; simp; omega)
  · exact hb.trans ((((Below.refl _ _).alloc hb.size _).alloc (by have := hb.size; simp; omega) _).alloc (by have := hb.size; simp; omega) _ |>.trans (hb2.mono (by have := hb.size; simp; omega)))

theorem lenB_long (n k : Nat) (h1 : 128 ≤ n) (hk : 1 ≤ k ∧ k ≤ 3) (hlo : k = 1 ∨ 256 ^ (k - 1) ≤ n) (hhi : n < 256 ^ k) : lenB n = byteAt (128 + k) 0 :: numB n k := by
  unfold lenB
  rw [if_neg (by omega)]
  obtain rfl | rfl | rfl : k = 1 ∨ k = 2 ∨ k = 3 := by omega
  · rw [if_pos (by omega)]; rfl
  · rw [if_neg (by omega), if_pos (by omega)]; rfl
  · rw [if_neg (by omega), if_neg (by omega)]; rfl

set_option maxHeartbeats 3200000 in
set_option maxRecDepth 20000 in
theorem element_long (tag : Int) (v : Value) (xss : List (List UInt8)) (w : World) (h : Bss w v xss) (hl : xss.length ≤ lim) (h128 : 128 ≤ (xss.flatten.length : Int)) (hn : (xss.flatten.length : Int) ≤ 16777215)
    (k : Nat) (hk : 1 ≤ k ∧ k ≤ 3) (hlo : k = 1 ∨ 256 ^ (k - 1) ≤ xss.flatten.length) (hhi : xss.flatten.length < 256 ^ k) :
    Calls Try.prog 55 #[.int .i64 tag, v] w (RetB w (elem tag xss.flatten)) := by
  have H := Lib.hid h
  have HL := Lib.hid hl
  have HN := Lib.hid hn
  have HN8 := Lib.hid h128
  have HLO := Lib.hid hlo
  have HHI := Lib.hid hhi
  clear h hl hn h128 hlo hhi
  go_enter Try.func55, Try.ntmps55
  go_wp2_with fail
  refine (concat_any v xss _ H.out HL.out (small_lim (by have := HN.out; omega))).mono ?_
  rintro e w1 ⟨v1, rfl, hown, hb⟩
  have hbyt := hown.byt
  obtain ⟨A, c, rfl, _, _, _⟩ := hbyt.len
  generalize hxs : xss.flatten = xs at *
  have hn := HN.out
  have hn8 := HN8.out
  have HB := Lib.hid hbyt
  clear hown hxs
  go_wp2_with fail
  go_loop [8, 20] (fun j _ => ∃ m : Nat, 1 ≤ m ∧ m ≤ k ∧ j = .int .i64 m) (fun j _ => k - (intOf j).toNat)
  case atStart => exact ⟨1, Nat.le_refl _, hk.1, rfl⟩
  case round =>
    obtain ⟨m, hm1, hm2, rfl⟩ := hrel
    by_cases hmk : m < k
    · have hge : (256 : Int) ^ m ≤ (xs.length : Int) := by
        rcases HLO.out with h | h
        · omega
        · have h1 : 256 ^ m ≤ 256 ^ (k - 1) := Nat.pow_le_pow_right (by decide) (by omega)
          have h2 : ((256 ^ m : Nat) : Int) ≤ (xs.length : Int) := Int.ofNat_le.2 (Nat.le_trans h1 h)
          rwa [Int.natCast_pow] at h2
      obtain rfl | rfl : m = 1 ∨ m = 2 := by omega
      · have hge' : (256 : Int) ≤ (xs.length : Int) := by omega
        clear hge
        go_wp2_with fail
        go_round
        case rel => exact ⟨2, by omega, by omega, rfl⟩
        case measure => simp [intOf]; omega
      · have hge' : (65536 : Int) ≤ (xs.length : Int) := by omega
        clear hge
        go_wp2_with fail
        go_round
        case rel => exact ⟨3, by omega, by omega, rfl⟩
        case measure => simp [intOf]; omega
    · obtain rfl : m = k := by omega
      have hlt : (xs.length : Int) < (256 : Int) ^ m := by
        have h2 : ((xs.length : Nat) : Int) < ((256 ^ m : Nat) : Int) := Int.ofNat_lt.2 HHI.out
        rwa [Int.natCast_pow] at h2
      obtain rfl | rfl | rfl : m = 1 ∨ m = 2 ∨ m = 3 := by omega
      · have hd : decide ((256 : Int) ≤ (xs.length : Int)) = false := by simp; omega
        have hlen : lenB xs.length = byteAt (128 + (1 : Nat)) 0 :: numB xs.length 1 := lenB_long xs.length 1 (by omega) (by omega) (.inl rfl) (by omega)
        have HLEN := Lib.hid hlen
        clear hlt HLO HHI hm1 hm2 hmk hlen hk hbyt
        go_wp2_with fail
        refine (number_any _ 1 _ (by omega)).mono ?_
        rintro e w2 ⟨v2, rfl, hown2, hb2⟩
        have hlit : OwnB ((w1.alloc (.cells #[.int .u8 ((xs.length : Int) % 256)] 5)).alloc (.cells #[.int .u8 129] 5)) w1.heap.size (.slice (some ⟨w1.heap.size + 1, 0, none⟩) 1 1) [byteAt (128 + (1 : Nat)) 0] :=
          own_lit _ (by simp) (by simp) (by rw [show Value.int .u8 129 = u8v (byteAt (128 + (1 : Nat)) 0) from u8v_byte (by rw [Int.pow_zero, Int.ediv_one]; rfl)]; rfl) rfl (le_lim (by simp))
        have HLIT := Lib.hid (hlit.below hb2)
        have HNUM := Lib.hid hown2.byt
        have hb12 : Below w1.heap.size w1 w2 := ((Below.refl _ _).alloc (Nat.le_refl _) _).alloc (by simp) _ |>.trans (hb2.mono (by simp; omega))
        have hs2 := hb12.size
        clear hlit hown2 hb2
        go_wp2_with (at_builtin; refine wpl_append_b rfl _ _ 24 rfl eiU8 w1.heap.size (.slice (some ⟨w1.heap.size + 1, 0, none⟩) 1 1) _ rfl HLIT.out v2 (numB xs.length 1) rfl HNUM.out (le_lim (by simp [numB_length])) hs2 ?_; intro A3 c3 w3 hown3 hg3 hat3; have HO3 := Lib.hid hown3; have HG3 := Lib.hid hg3; clear hown3 hg3 hat3)
        have hb13 := hb12.trans (below_of_own HLIT.out HG3.out hs2)
        have HX3 := Lib.hid (HB.out.below hb13)
        have hs3 := hb13.size
        have e2 : Value.int .u8 (tag % 256) = u8v (byteAt tag 0) := u8v_byte (by rw [Int.pow_zero, Int.ediv_one])
        have h2 := byt_lit (w := w3) (g := w3.heap.size) (n := 1) (cs := #[.int .u8 (tag % 256)]) [byteAt tag 0] rfl (by rw [e2]; rfl) rfl (le_lim (by simp))
        refine (concat_any _ [[byteAt tag 0], [byteAt (128 + (1 : Nat)) 0] ++ numB xs.length 1, xs] _ (bss3 (g := w3.heap.size + 1) (by simp) h2 ((HO3.out.byt.alloc _).len_eq (by simp [numB_length])) (HX3.out.alloc _)) (le_lim (by simp)) (small_lim (by simp [numB_length]; omega))).mono ?_
        rintro e w4 ⟨v4, rfl, hown4, hb4⟩
        go_wp2_with fail
        go_ret
        refine ⟨_, rfl, ?_, ?_⟩
        · have e : elem tag xs = [[byteAt tag 0], [byteAt (128 + (1 : Nat)) 0] ++ numB xs.length 1, xs].flatten := by
            simp only [elem]
            rw [HLEN.out]
            simp only [List.flatten_cons, List.flatten_nil, List.append_nil, List.cons_append, List.nil_append]
          rw [e]
          exact hown4.mono (by have := hb.size; simp; omega)
        · exact hb.trans ((hb13.mono hb.size).trans (((Below.refl _ _).alloc (by have := hb.size; omega) _).alloc (by have := hb.size; simp; omega) _ |>.trans (hb4.mono (by have := hb.size; simp; omega))))
      · have hd : decide ((65536 : Int) ≤ (xs.length : Int)) = false := by simp; omega
        have hlen : lenB xs.length = byteAt (128 + (2 : Nat)) 0 :: numB xs.length 2 := lenB_long xs.length 2 (by omega) (by omega) (.inr (by have := HLO.out; omega)) (by omega)
        have HLEN := Lib.hid hlen
        clear hlt HLO HHI hm1 hm2 hmk hlen hk hbyt
        go_wp2_with fail
        refine (number_any _ 2 _ (by omega)).mono ?_
        rintro e w2 ⟨v2, rfl, hown2, hb2⟩
        have hlit : OwnB ((w1.alloc (.cells #[.int .u8 ((xs.length : Int) % 256)] 5)).alloc (.cells #[.int .u8 130] 5)) w1.heap.size (.slice (some ⟨w1.heap.size + 1, 0, none⟩) 1 1) [byteAt (128 + (2 : Nat)) 0] :=
          own_lit _ (by simp) (by simp) (by rw [show Value.int .u8 130 = u8v (byteAt (128 + (2 : Nat)) 0) from u8v_byte (by rw [Int.pow_zero, Int.ediv_one]; rfl)]; rfl) rfl (le_lim (by simp))
        have HLIT := Lib.hid (hlit.below hb2)
        have HNUM := Lib.hid hown2.byt
        have hb12 : Below w1.heap.size w1 w2 := ((Below.refl _ _).alloc (Nat.le_refl _) _).alloc (by simp) _ |>.trans (hb2.mono (by simp; omega))
        have hs2 := hb12.size
        clear hlit hown2 hb2
        go_wp2_with (at_builtin; refine wpl_append_b rfl _ _ 24 rfl eiU8 w1.heap.size (.slice (some ⟨w1.heap.size + 1, 0, none⟩) 1 1) _ rfl HLIT.out v2 (numB xs.length 2) rfl HNUM.out (le_lim (by simp [numB_length])) hs2 ?_; intro A3 c3 w3 hown3 hg3 hat3; have HO3 := Lib.hid hown3; have HG3 := Lib.hid hg3; clear hown3 hg3 hat3)
        have hb13 := hb12.trans (below_of_own HLIT.out HG3.out hs2)
        have HX3 := Lib.hid (HB.out.below hb13)
        have hs3 := hb13.size
        have e2 : Value.int .u8 (tag % 256) = u8v (byteAt tag 0) := u8v_byte (by rw [Int.pow_zero, Int.ediv_one])
        have h2 := byt_lit (w := w3) (g := w3.heap.size) (n := 1) (cs := #[.int .u8 (tag % 256)]) [byteAt tag 0] rfl (by rw [e2]; rfl) rfl (le_lim (by simp))
        refine (concat_any _ [[byteAt tag 0], [byteAt (128 + (2 : Nat)) 0] ++ numB xs.length 2, xs] _ (bss3 (g := w3.heap.size + 1) (by simp) h2 ((HO3.out.byt.alloc _).len_eq (by simp [numB_length])) (HX3.out.alloc _)) (le_lim (by simp)) (small_lim (by simp [numB_length]; omega))).mono ?_
        rintro e w4 ⟨v4, rfl, hown4, hb4⟩
        go_wp2_with fail
        go_ret
        refine ⟨_, rfl, ?_, ?_⟩
        · have e : elem tag xs = [[byteAt tag 0], [byteAt (128 + (2 : Nat)) 0] ++ numB xs.length 2, xs].flatten := by
            simp only [elem]
            rw [HLEN.out]
            simp only [List.flatten_cons, List.flatten_nil, List.append_nil, List.cons_append, List.nil_append]
          rw [e]
          exact hown4.mono (by have := hb.size; simp; omega)
        · exact hb.trans ((hb13.mono hb.size).trans (((Below.refl _ _).alloc (by have := hb.size; omega) _).alloc (by have := hb.size; simp; omega) _ |>.trans (hb4.mono (by have := hb.size; simp; omega))))
      · have hd : decide ((16777216 : Int) ≤ (xs.length : Int)) = false := by simp; omega
        have hlen : lenB xs.length = byteAt (128 + (3 : Nat)) 0 :: numB xs.length 3 := lenB_long xs.length 3 (by omega) (by omega) (.inr (by have := HLO.out; omega)) (by omega)
        have HLEN := Lib.hid hlen
        clear hlt HLO HHI hm1 hm2 hmk hlen hk hbyt
        go_wp2_with fail
        refine (number_any _ 3 _ (by omega)).mono ?_
        rintro e w2 ⟨v2, rfl, hown2, hb2⟩
        have hlit : OwnB ((w1.alloc (.cells #[.int .u8 ((xs.length : Int) % 256)] 5)).alloc (.cells #[.int .u8 131] 5)) w1.heap.size (.slice (some ⟨w1.heap.size + 1, 0, none⟩) 1 1) [byteAt (128 + (3 : Nat)) 0] :=
          own_lit _ (by simp) (by simp) (by rw [show Value.int .u8 131 = u8v (byteAt (128 + (3 : Nat)) 0) from u8v_byte (by rw [Int.pow_zero, Int.ediv_one]; rfl)]; rfl) rfl (le_lim (by simp))
        have HLIT := Lib.hid (hlit.below hb2)
        have HNUM := Lib.hid hown2.byt
        have hb12 : Below w1.heap.size w1 w2 := ((Below.refl _ _).alloc (Nat.le_refl _) _).alloc (by simp) _ |>.trans (hb2.mono (by simp; omega))
        have hs2 := hb12.size
        clear hlit hown2 hb2
        go_wp2_with (at_builtin; refine wpl_append_b rfl _ _ 24 rfl eiU8 w1.heap.size (.slice (some ⟨w1.heap.size + 1, 0, none⟩) 1 1) _ rfl HLIT.out v2 (numB xs.length 3) rfl HNUM.out (le_lim (by simp [numB_length])) hs2 ?_; intro A3 c3 w3 hown3 hg3 hat3; have HO3 := Lib.hid hown3; have HG3 := Lib.hid hg3; clear hown3 hg3 hat3)
        have hb13 := hb12.trans (below_of_own HLIT.out HG3.out hs2)
        have HX3 := Lib.hid (HB.out.below hb13)
        have hs3 := hb13.size
        have e2 : Value.int .u8 (tag % 256) = u8v (byteAt tag 0) := u8v_byte (by rw [Int.pow_zero, Int.ediv_one])
        have h2 := byt_lit (w := w3) (g := w3.heap.size) (n := 1) (cs := #[.int .u8 (tag % 256)]) [byteAt tag 0] rfl (by rw [e2]; rfl) rfl (le_lim (by simp))
        refine (concat_any _ [[byteAt tag 0], [byteAt (128 + (3 : Nat)) 0] ++ numB xs.length 3, xs] _ (bss3 (g := w3.heap.size + 1) (by simp) h2 ((HO3.out.byt.alloc _).len_eq (by simp [numB_length])) (HX3.out.alloc _)) (le_lim (by simp)) (small_lim (by simp [numB_length]; omega))).mono ?_
        rintro e w4 ⟨v4, rfl, hown4, hb4⟩
        go_wp2_with fail
        go_ret
        refine ⟨_, rfl, ?_, ?_⟩
        · have e : elem tag xs = [[byteAt tag 0], [byteAt (128 + (3 : Nat)) 0] ++ numB xs.length 3, xs].flatten := by
            simp only [elem]
            rw [HLEN.out]
            simp only [List.flatten_cons, List.flatten_nil, List.append_nil, List.cons_append, List.nil_append]
          rw [e]
          exact hown4.mono (by have := hb.size; simp; omega)
        · exact hb.trans ((hb13.mono hb.size).trans (((Below.refl _ _).alloc (by have := hb.size; omega) _).alloc (by have := hb.size; simp; omega) _ |>.trans (hb4.mono (by have := hb.size; simp; omega))))

/-- The element with a tag around what some byte slices hold. -/
theorem element_any (tag : Int) (v : Value) (xss : List (List UInt8)) (w : World) (h : Bss w v xss) (hl : xss.length ≤ lim) (hn : (xss.flatten.length : Int) ≤ 16777215) :
    Calls Try.prog 55 #[.int .i64 tag, v] w (RetB w (elem tag xss.flatten)) := by
  by_cases h1 : (xss.flatten.length : Int) < 128
  · exact element_short tag v xss w h hl h1
  · by_cases h2 : (xss.flatten.length : Int) < 256
    · exact element_long tag v xss w h hl (by omega) hn 1 (by omega) (.inl rfl) (by omega)
    · by_cases h3 : (xss.flatten.length : Int) < 65536
      · exact element_long tag v xss w h hl (by omega) hn 2 (by omega) (.inr (by omega)) (by omega)
      · exact element_long tag v xss w h hl (by omega) hn 3 (by omega) (.inr (by omega)) (by omega)

end Go.Proofs.Yteepfeggkocakaa
