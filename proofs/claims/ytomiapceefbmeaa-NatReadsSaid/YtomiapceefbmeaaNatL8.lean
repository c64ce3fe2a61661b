/- Walk: the law NatReads (printed by gennatlaw.py). -/
import Derived.Test.YtomiapceefbmeaaNatII
import Derived.Test.YtomiapceefbmeaaNatKK
set_option linter.unusedVariables false
set_option linter.unusedSimpArgs false
set_option maxRecDepth 100000
namespace Go.Proofs.Ytomiapceefbmeaa
open Go.RowKit

theorem u8_succ (x : UInt8) : Value.int .u8 (IntKind.u8.wrap ((x.toNat : Int) + 1)) = u8v (x + 1) := by
  have h := x.toNat_lt
  unfold u8v
  rw [IntKind.wrap_u8, UInt8.toNat_add]
  congr 1
theorem own_lit' {w : World} {base n : Nat} {cs : Array Value} (xs : List UInt8) (hb : base ≤ w.heap.size) (hcs : cs = (xs.map u8v).toArray) (hn : n = xs.length) (hl : xs.length ≤ lim) :
    OwnB (w.alloc (.cells cs 5)) base (.slice (some ⟨w.heap.size, 0, none⟩) n n) xs := ownB_new hb xs hl cs hcs n hn
theorem c16_lt {n q j : Nat} (h : n < 2 ^ q) (hq : q ≤ 16 * j) : c16 n ≤ j := c16_le (Nat.lt_of_lt_of_le h (Nat.pow_le_pow_right (by decide) hq))
theorem own_lt {w : World} {base : Nat} {v : Value} {xs : List UInt8} (h : OwnB w base v xs) (g : Nat) (hg : v.ownBlock = some g) : g < w.heap.size := (World.ownsRow.lt h g hg).2
theorem own_block {w : World} {base n c : Nat} {A : Option Addr} {bs : List UInt8} (h : OwnB w base (.slice A n c) bs) (hn : 0 < bs.length) : ∃ g, A = some ⟨g, 0, none⟩ := by
  rcases h.2 with ⟨h1, h2⟩ | ⟨g, cap, cur, h1, _⟩
  · omega
  · injection h1 with e1
    exact ⟨g, e1⟩
theorem below_fresh {w : World} (o : Obj) : Below w.heap.size w (w.alloc o) := (Below.refl _ _).alloc (Nat.le_refl _) _
theorem parse_no {s : ByteArray} (w : World) (hs : s.size ≤ 100000) (h : okP s.data.toList = false) :
    Calls Try.prog 19 #[.string s] w fun e w' => e = .returned (.tuple #[.agg (natA 0), .int .i64 6]) ∧ Below w.heap.size w w' := by
  have h1 := parse_any s w hs
  unfold RetNP at h1
  rwa [(par_no h).1, (par_no h).2] at h1
theorem parse_full {s : ByteArray} (w : World) (hs : s.size ≤ 100000) (h : okP s.data.toList = true) (hf : ¬ Fit (numH s.data.toList)) :
    Calls Try.prog 19 #[.string s] w fun e w' => e = .returned (.tuple #[.agg (natA 0), .int .i64 7]) ∧ Below w.heap.size w w' := by
  have h1 := parse_any s w hs
  unfold RetNP at h1
  have h2 := (okP_fit h).2 hf
  rwa [(par_full h h2).1, (par_full h h2).2] at h1
theorem parse_yes {s : ByteArray} {n : Nat} (w : World) (hs : s.size ≤ 100000) (h : okP s.data.toList = true) (hn : numH s.data.toList = n) (hf : Fit n) :
    Calls Try.prog 19 #[.string s] w fun e w' => e = .returned (.tuple #[.agg (natA n), .int .i64 0]) ∧ Below w.heap.size w w' := by
  subst hn
  have h1 := parse_any s w hs
  unfold RetNP at h1
  have h2 : ¬ 256 < s.data.toList.length := fun h3 => (okP_fit h).1 h3 hf
  rwa [(par_yes h h2).1, (par_yes h h2).2] at h1
theorem rparse_no {s : ByteArray} (w : World) (hs : s.size ≤ 100000) (h : okP s.data.toList = false) :
    Calls Try.prog 20 #[.string s] w fun e w' => e = .returned (.tuple #[.slice none 0 0, .bool false]) ∧ Below w.heap.size w w' := by
  have h1 := rparse_any s w hs
  refine h1.mono fun e w' h2 => ?_
  unfold RetP at h2
  rwa [if_neg (by rw [h]; decide)] at h2
def RetLB (w : World) (n : Nat) (e : Ending) (w' : World) : Prop := ∃ v, e = .returned (.tuple #[v, .bool true]) ∧ Lst w' v n ∧ Below w.heap.size w w'
theorem rparse_yes {s : ByteArray} {n : Nat} (w : World) (hs : s.size ≤ 100000) (h : okP s.data.toList = true) (hn : numH s.data.toList = n) :
    Calls Try.prog 20 #[.string s] w (RetLB w n) := by
  subst hn
  have h1 := rparse_any s w hs
  refine h1.mono fun e w' h2 => ?_
  unfold RetP at h2
  rwa [if_pos h] at h2
theorem text_back {s : ByteArray} {n : Nat} (w : World) (h : okP s.data.toList = true) (hn : numH s.data.toList = n) (hf : Fit n) :
    Calls Try.prog 17 #[.agg (natA n)] w fun e w' => e = .returned (.string s) ∧ Below w.heap.size w w' := by
  subst hn
  have h1 := text_any _ w hf
  rwa [textN_numH h, show (⟨s.data.toList.toArray⟩ : ByteArray) = s from by cases s; simp] at h1
theorem numH_sz {s : ByteArray} (hs : s.size ≤ 300) (h : okP s.data.toList = true) : Sz (numH s.data.toList) := by
  have h1 := numH_lt _ (okP_all h).1
  have h2 : s.data.toList.length = s.size := by simp
  exact Sz.of (c16_lt (j := 100) h1 (by omega)) (by decide)

set_option maxHeartbeats 6400000 in
theorem reads_f_no (va : Value) (xa : List UInt8) (s : ByteArray) (w : World) (ha : Byt w va xa) (ll0 : xa.length ≤ 200) (ll1 : s.size ≤ 300) (n m : Nat) (hn : numN xa = n) (hf : Fit n) (hp : okP s.data.toList = false) :
    Calls Try.prog 3 #[va, .string s] w fun e w' => e = .returned (.bool true) ∧ Below w.heap.size w w' := by
  have HA := Lib.hid ha
  obtain ⟨A, c, rfl, -⟩ := ha.len
  have d0 : decide (200 < (xa.length : Int)) = false := decide_eq_false (by omega)
  have d1 : decide (300 < (s.size : Int)) = false := decide_eq_false (by omega)
  have HL : Hid (xa.length ≤ 200) := Lib.hid ll0
  have HLL : Hid (xa.length ≤ lim) := Lib.hid (by unfold lim; omega)
  have HLI : Hid ((xa.length : Int) ≤ 200) := Lib.hid (by omega)
  have HSZ : Hid (s.size ≤ 100000) := Lib.hid (by omega)
  have HSn := Lib.hid (sz_num HL.out)
  rw [hn] at HSn
  have HEn := Lib.hid hn
  have HFn := Lib.hid hf
  have HP := Lib.hid hp
  clear ha hn hf hp ll0 ll1
  go_enter Try.func3, Try.ntmps3
  go_wp2_with (at_builtin; refine wpl_append_b rfl (.tmp 23) (.tmp 24) 22 rfl eiU8 w.heap.size _ [] rfl (own_lit' [] (Nat.le_refl _) rfl rfl (le_lim (by simp))) _ xa rfl (HA.out.below (below_fresh _)) (by simpa using HLL.out) (by simp) ?_; intro A1 c1 w1 hown1 hg1 hat1; have O_0 := Lib.hid hown1; have W_0 : Hid (Below w.heap.size w w1) := Lib.hid ((below_fresh _).trans (below_of_own (own_lit' [] (Nat.le_refl _) rfl rfl (le_lim (by simp))) hg1 (by simp))); clear hown1 hg1 hat1; simp only [List.length_nil, Nat.zero_add, List.nil_append] at O_0 ⊢)
  have A_0 : Hid (Byt w1 (.slice A xa.length c) xa) := Lib.hid (HA.out.below W_0.out)
  clear HA
  have HO0 : Hid (∀ g, (Value.slice A1 xa.length c1).ownBlock = some g → g < w1.heap.size) := Lib.hid (fun g hg => own_lt O_0.out g hg)
  refine (fromBytes_ok _ _ (OwnB.byt O_0.out) HL.out HEn.out HFn.out).mono ?_
  rintro e p1 ⟨rfl, hb⟩
  have HSP : Hid (w1.heap.size ≤ p1.heap.size) := Lib.hid hb.size
  have XT0_1 := Lib.hid (NatAt.zero p1)
  have XA_1 := Lib.hid (below_zero hb hb.size)
  have hsz_1 : Hid (w1.heap.size ≤ p1.heap.size) := Lib.hid hb.size
  clear hb
  go_wp2_with (first | go_skip | (refine wpl_stN ntNat rfl rfl rfl rfl XT0_1.out ?_; intro q1 hn hg; have XB0_1 := Lib.hid (XA_1.out.grown hg XA_1.out.size (fun j e => by injection e with e; rw [← e]; have := hsz_1.out; omega)); have XS00_1 := Lib.hid hn; have O_1 := Lib.hid (O_0.out.below XB0_1.out); have A_1 := Lib.hid (A_0.out.below XB0_1.out); have W_1 := Lib.hid (W_0.out.trans (XB0_1.out.mono W_0.out.size)); have x_1 := XS00_1; clear hn hg O_0 A_0 W_0 XT0_1 XA_1 XS00_1 XB0_1 hsz_1) | (refine wpl_ldN ntNat rfl rfl rfl x_1.out ?_) | (refine wpl_ldN_g ntNat ?hw rfl rfl x_1.out ?_; (case hw => rfl)))
  refine (from_any _ xa _ A_1.out (by have := HL.out; omega)).mono ?_
  rintro e p2 ⟨v2, rfl, hv, hb, ho⟩
  have O_2 := Lib.hid (O_1.out.below hb)
  have A_2 := Lib.hid (A_1.out.below hb)
  have x_2 := Lib.hid (x_1.out.below hb)
  have W_2 := Lib.hid (W_1.out.trans (hb.mono W_1.out.size))
  have L_2 := Lib.hid hv
  rw [HEn.out] at L_2
  have HOB : Hid (∀ g, (Value.slice A1 xa.length c1).ownBlock = some g → g < p1.heap.size ∧ v2.ownBlock ≠ some g) := Lib.hid (fun g hg => by
    have h1 := HO0.out g hg; have h2 := HSP.out; have h3 := x_1.out.lt; exact ⟨by omega, fun h4 => by have := ho g h4; omega⟩)
  clear hb hv ho HO0 HSP O_1 A_1 x_1 W_1
  clear A_2
  go_wp2_with (first | go_skip | (refine wpl_ldN ntNat rfl rfl rfl x_2.out ?_) | (refine wpl_ldN_g ntNat ?hw rfl rfl x_2.out ?_; (case hw => rfl)))
  go_loopw [9] (fun i wr => ∃ (j : Nat) (bs : List UInt8), (j : Int) ≤ 200 ∧ bs.length = xa.length ∧ i = .int .i64 j ∧ OwnB wr w.heap.size (.slice A1 xa.length c1) bs ∧ NatAt wr p1.heap.size n ∧ Lst wr v2 n ∧ Below w.heap.size w wr) (fun i _ => 300 - (intOf i).toNat)
  case atStart => exact ⟨0, xa, by omega, rfl, rfl, O_2.out, x_2.out, L_2.out, W_2.out⟩
  case round =>
    obtain ⟨j, bs, hj, hbs, rfl, hown, hx, hl, hb⟩ := hrel
    clear O_2 x_2 L_2 W_2
    by_cases hlt : j < xa.length
    · obtain ⟨g, hA1⟩ : ∃ g, A1 = some ⟨g, 0, none⟩ := own_block hown (by omega)
      subst hA1
      have hown' : wr.ownsRow w.heap.size 5 1 (.slice (some ⟨g, 0, none⟩) xa.length c1) xa.length (bs.map u8v) := hbs ▸ hown
      have hf := hown'.frozenAt j
      have hc := hown'.cellAt j (by omega)
      obtain ⟨x0, hgt⟩ : ∃ x : UInt8, (bs.map u8v)[j]? = some (.int .u8 (x.toNat : Int)) := ⟨bs[j], by rw [List.getElem?_map, List.getElem?_eq_getElem (by omega)]; rfl⟩
      rw [hgt] at hc
      have HX := Lib.hid hx; have HLS := Lib.hid hl; have HW := Lib.hid hb; have HOWN := Lib.hid hown'; have HBS := Lib.hid hbs; have HJ := Lib.hid hj; have HGB := Lib.hid (hown'.lt g rfl)
      clear hx hl hb hown hown' hbs hgt
      go_wp2_with fail
      go_roundw
      case rel =>
        obtain ⟨hs1, hs2⟩ := HOWN.out.stored j (u8v (x0 + 1))
        rw [← u8_succ] at hs1 hs2
        refine ⟨j + 1, bs.set j (x0 + 1), by have := HLI.out; omega, by rw [List.length_set]; exact HBS.out, by go_num, ?_, HX.out.grown hs2 (fun e => by injection e with e; have := (HOB.out g rfl).1; omega), HLS.out.grown hs2 (fun g' e => by injection e with e; rw [← e]; exact (HOB.out g rfl).2), HW.out.setCell HGB.out.1 _⟩
        unfold OwnB
        rw [List.length_set, HBS.out, List.map_set, ← u8_succ]
        exact hs1
      case measure => simp [intOf]; omega
    · have x_9 := Lib.hid hx; have L_9 := Lib.hid hl; have W_9 := Lib.hid hb
      clear hx hl hb hown hbs HOB
      go_wp2_with (first | go_skip | (refine wpl_ldN ntNat rfl rfl rfl x_9.out ?_) | (refine wpl_ldN_g ntNat ?hw rfl rfl x_9.out ?_; (case hw => rfl)))
      refine (rfits_ok _ _ L_9.out HSn.out (c := true) (by simp [HFn.out])).mono ?_
      rintro e p10 ⟨rfl, rfl⟩
      go_wp2_with (first | go_skip | (refine wpl_ldN ntNat rfl rfl rfl x_9.out ?_) | (refine wpl_ldN_g ntNat ?hw rfl rfl x_9.out ?_; (case hw => rfl)))
      refine (same_ok _ _ HFn.out L_9.out HSn.out (decide_eq_true rfl)).mono ?_
      rintro e p11 ⟨rfl, hb⟩
      have x_11 := Lib.hid (x_9.out.below hb)
      have L_11 := Lib.hid (L_9.out.below hb)
      have W_11 := Lib.hid (W_9.out.trans (hb.mono W_9.out.size))
      clear hb x_9 L_9 W_9
      go_wp2_with (first | go_skip | (refine wpl_ldN ntNat rfl rfl rfl x_11.out ?_) | (refine wpl_ldN_g ntNat ?hw rfl rfl x_11.out ?_; (case hw => rfl)))
      refine (text_any _ _ HFn.out).mono ?_
      rintro e p12 ⟨rfl, hb⟩
      have x_12 := Lib.hid (x_11.out.below hb)
      have L_12 := Lib.hid (L_11.out.below hb)
      have W_12 := Lib.hid (W_11.out.trans (hb.mono W_11.out.size))
      clear hb x_11 L_11 W_11
      go_wp2_with (first | go_skip | (refine wpl_ldN ntNat rfl rfl rfl x_12.out ?_) | (refine wpl_ldN_g ntNat ?hw rfl rfl x_12.out ?_; (case hw => rfl)))
      refine (rtext_any _ _ _ L_12.out HSn.out).mono ?_
      rintro e p13 ⟨rfl, rfl⟩
      go_wp2_with (first | go_skip | (refine wpl_ldN ntNat rfl rfl rfl x_12.out ?_) | (refine wpl_ldN_g ntNat ?hw rfl rfl x_12.out ?_; (case hw => rfl)))
      clear x_12
      clear L_12
      refine (parse_no _ HSZ.out HP.out).mono ?_
      rintro e p14 ⟨rfl, hb⟩
      have XT0_14 := Lib.hid (NatAt.zero p14)
      have XA_14 := Lib.hid (below_zero hb hb.size)
      have hsz_14 : Hid (p12.heap.size ≤ p14.heap.size) := Lib.hid hb.size
      clear hb
      go_wp2_with (first | go_skip | (refine wpl_stN ntNat rfl rfl rfl rfl XT0_14.out ?_; intro q14 hn hg; have XB0_14 := Lib.hid (XA_14.out.grown hg XA_14.out.size (fun j e => by injection e with e; rw [← e]; have := hsz_14.out; omega)); have XS00_14 := Lib.hid hn; have W_14 := Lib.hid (W_12.out.trans (XB0_14.out.mono W_12.out.size)); have y_14 := XS00_14; clear hn hg W_12 XT0_14 XA_14 XS00_14 XB0_14 hsz_14) | (refine wpl_ldN ntNat rfl rfl rfl y_14.out ?_) | (refine wpl_ldN_g ntNat ?hw rfl rfl y_14.out ?_; (case hw => rfl)))
      refine (rparse_no _ HSZ.out HP.out).mono ?_
      rintro e p15 ⟨rfl, hb⟩
      have y_15 := Lib.hid (y_14.out.below hb)
      have W_15 := Lib.hid (W_14.out.trans (hb.mono W_14.out.size))
      clear hb y_14 W_14
      go_wp2_with (first | go_skip | (refine wpl_ldN ntNat rfl rfl rfl y_15.out ?_) | (refine wpl_ldN_g ntNat ?hw rfl rfl y_15.out ?_; (case hw => rfl)))
      refine (isZero_zero _).mono ?_
      rintro e p16 ⟨rfl, hb⟩
      have y_16 := Lib.hid (y_15.out.below hb)
      have W_16 := Lib.hid (W_15.out.trans (hb.mono W_15.out.size))
      clear hb y_15 W_15
      go_wp2_with (first | go_skip | (refine wpl_ldN ntNat rfl rfl rfl y_16.out ?_) | (refine wpl_ldN_g ntNat ?hw rfl rfl y_16.out ?_; (case hw => rfl)))
      refine (known_any _).mono ?_
      rintro e p17 ⟨rfl, hb⟩
      have y_17 := Lib.hid (y_16.out.below hb)
      have W_17 := Lib.hid (W_16.out.trans (hb.mono W_16.out.size))
      clear hb y_16 W_16
      go_wp2_with (first | go_skip | (refine wpl_ldN ntNat rfl rfl rfl y_17.out ?_) | (refine wpl_ldN_g ntNat ?hw rfl rfl y_17.out ?_; (case hw => rfl)))
      go_ret
      exact ⟨rfl, W_17.out⟩

set_option maxHeartbeats 6400000 in
theorem reads_f_full (va : Value) (xa : List UInt8) (s : ByteArray) (w : World) (ha : Byt w va xa) (ll0 : xa.length ≤ 200) (ll1 : s.size ≤ 300) (n m : Nat) (hn : numN xa = n) (hf : Fit n) (hp : okP s.data.toList = true) (hm : numH s.data.toList = m) (hq : ¬ Fit m) :
    Calls Try.prog 3 #[va, .string s] w fun e w' => e = .returned (.bool true) ∧ Below w.heap.size w w' := by
  have HA := Lib.hid ha
  obtain ⟨A, c, rfl, -⟩ := ha.len
  have d0 : decide (200 < (xa.length : Int)) = false := decide_eq_false (by omega)
  have d1 : decide (300 < (s.size : Int)) = false := decide_eq_false (by omega)
  have HL : Hid (xa.length ≤ 200) := Lib.hid ll0
  have HLL : Hid (xa.length ≤ lim) := Lib.hid (by unfold lim; omega)
  have HLI : Hid ((xa.length : Int) ≤ 200) := Lib.hid (by omega)
  have HSZ : Hid (s.size ≤ 100000) := Lib.hid (by omega)
  have HSn := Lib.hid (sz_num HL.out)
  rw [hn] at HSn
  have HEn := Lib.hid hn
  have HFn := Lib.hid hf
  have HP := Lib.hid hp
  have HM := Lib.hid hm
  have HFm := Lib.hid hq
  have HSm : Hid (Sz m) := Lib.hid (by rw [← hm]; exact numH_sz ll1 hp)
  clear hm hq
  clear ha hn hf hp ll0 ll1
  go_enter Try.func3, Try.ntmps3
  go_wp2_with (at_builtin; refine wpl_append_b rfl (.tmp 23) (.tmp 24) 22 rfl eiU8 w.heap.size _ [] rfl (own_lit' [] (Nat.le_refl _) rfl rfl (le_lim (by simp))) _ xa rfl (HA.out.below (below_fresh _)) (by simpa using HLL.out) (by simp) ?_; intro A1 c1 w1 hown1 hg1 hat1; have O_0 := Lib.hid hown1; have W_0 : Hid (Below w.heap.size w w1) := Lib.hid ((below_fresh _).trans (below_of_own (own_lit' [] (Nat.le_refl _) rfl rfl (le_lim (by simp))) hg1 (by simp))); clear hown1 hg1 hat1; simp only [List.length_nil, Nat.zero_add, List.nil_append] at O_0 ⊢)
  have A_0 : Hid (Byt w1 (.slice A xa.length c) xa) := Lib.hid (HA.out.below W_0.out)
  clear HA
  have HO0 : Hid (∀ g, (Value.slice A1 xa.length c1).ownBlock = some g → g < w1.heap.size) := Lib.hid (fun g hg => own_lt O_0.out g hg)
  refine (fromBytes_ok _ _ (OwnB.byt O_0.out) HL.out HEn.out HFn.out).mono ?_
  rintro e p1 ⟨rfl, hb⟩
  have HSP : Hid (w1.heap.size ≤ p1.heap.size) := Lib.hid hb.size
  have XT0_1 := Lib.hid (NatAt.zero p1)
  have XA_1 := Lib.hid (below_zero hb hb.size)
  have hsz_1 : Hid (w1.heap.size ≤ p1.heap.size) := Lib.hid hb.size
  clear hb
  go_wp2_with (first | go_skip | (refine wpl_stN ntNat rfl rfl rfl rfl XT0_1.out ?_; intro q1 hn hg; have XB0_1 := Lib.hid (XA_1.out.grown hg XA_1.out.size (fun j e => by injection e with e; rw [← e]; have := hsz_1.out; omega)); have XS00_1 := Lib.hid hn; have O_1 := Lib.hid (O_0.out.below XB0_1.out); have A_1 := Lib.hid (A_0.out.below XB0_1.out); have W_1 := Lib.hid (W_0.out.trans (XB0_1.out.mono W_0.out.size)); have x_1 := XS00_1; clear hn hg O_0 A_0 W_0 XT0_1 XA_1 XS00_1 XB0_1 hsz_1) | (refine wpl_ldN ntNat rfl rfl rfl x_1.out ?_) | (refine wpl_ldN_g ntNat ?hw rfl rfl x_1.out ?_; (case hw => rfl)))
  refine (from_any _ xa _ A_1.out (by have := HL.out; omega)).mono ?_
  rintro e p2 ⟨v2, rfl, hv, hb, ho⟩
  have O_2 := Lib.hid (O_1.out.below hb)
  have A_2 := Lib.hid (A_1.out.below hb)
  have x_2 := Lib.hid (x_1.out.below hb)
  have W_2 := Lib.hid (W_1.out.trans (hb.mono W_1.out.size))
  have L_2 := Lib.hid hv
  rw [HEn.out] at L_2
  have HOB : Hid (∀ g, (Value.slice A1 xa.length c1).ownBlock = some g → g < p1.heap.size ∧ v2.ownBlock ≠ some g) := Lib.hid (fun g hg => by
    have h1 := HO0.out g hg; have h2 := HSP.out; have h3 := x_1.out.lt; exact ⟨by omega, fun h4 => by have := ho g h4; omega⟩)
  clear hb hv ho HO0 HSP O_1 A_1 x_1 W_1
  clear A_2
  go_wp2_with (first | go_skip | (refine wpl_ldN ntNat rfl rfl rfl x_2.out ?_) | (refine wpl_ldN_g ntNat ?hw rfl rfl x_2.out ?_; (case hw => rfl)))
  go_loopw [9] (fun i wr => ∃ (j : Nat) (bs : List UInt8), (j : Int) ≤ 200 ∧ bs.length = xa.length ∧ i = .int .i64 j ∧ OwnB wr w.heap.size (.slice A1 xa.length c1) bs ∧ NatAt wr p1.heap.size n ∧ Lst wr v2 n ∧ Below w.heap.size w wr) (fun i _ => 300 - (intOf i).toNat)
  case atStart => exact ⟨0, xa, by omega, rfl, rfl, O_2.out, x_2.out, L_2.out, W_2.out⟩
  case round =>
    obtain ⟨j, bs, hj, hbs, rfl, hown, hx, hl, hb⟩ := hrel
    clear O_2 x_2 L_2 W_2
    by_cases hlt : j < xa.length
    · obtain ⟨g, hA1⟩ : ∃ g, A1 = some ⟨g, 0, none⟩ := own_block hown (by omega)
      subst hA1
      have hown' : wr.ownsRow w.heap.size 5 1 (.slice (some ⟨g, 0, none⟩) xa.length c1) xa.length (bs.map u8v) := hbs ▸ hown
      have hf := hown'.frozenAt j
      have hc := hown'.cellAt j (by omega)
      obtain ⟨x0, hgt⟩ : ∃ x : UInt8, (bs.map u8v)[j]? = some (.int .u8 (x.toNat : Int)) := ⟨bs[j], by rw [List.getElem?_map, List.getElem?_eq_getElem (by omega)]; rfl⟩
      rw [hgt] at hc
      have HX := Lib.hid hx; have HLS := Lib.hid hl; have HW := Lib.hid hb; have HOWN := Lib.hid hown'; have HBS := Lib.hid hbs; have HJ := Lib.hid hj; have HGB := Lib.hid (hown'.lt g rfl)
      clear hx hl hb hown hown' hbs hgt
      go_wp2_with fail
      go_roundw
      case rel =>
        obtain ⟨hs1, hs2⟩ := HOWN.out.stored j (u8v (x0 + 1))
        rw [← u8_succ] at hs1 hs2
        refine ⟨j + 1, bs.set j (x0 + 1), by have := HLI.out; omega, by rw [List.length_set]; exact HBS.out, by go_num, ?_, HX.out.grown hs2 (fun e => by injection e with e; have := (HOB.out g rfl).1; omega), HLS.out.grown hs2 (fun g' e => by injection e with e; rw [← e]; exact (HOB.out g rfl).2), HW.out.setCell HGB.out.1 _⟩
        unfold OwnB
        rw [List.length_set, HBS.out, List.map_set, ← u8_succ]
        exact hs1
      case measure => simp [intOf]; omega
    · have x_9 := Lib.hid hx; have L_9 := Lib.hid hl; have W_9 := Lib.hid hb
      clear hx hl hb hown hbs HOB
      go_wp2_with (first | go_skip | (refine wpl_ldN ntNat rfl rfl rfl x_9.out ?_) | (refine wpl_ldN_g ntNat ?hw rfl rfl x_9.out ?_; (case hw => rfl)))
      refine (rfits_ok _ _ L_9.out HSn.out (c := true) (by simp [HFn.out])).mono ?_
      rintro e p10 ⟨rfl, rfl⟩
      go_wp2_with (first | go_skip | (refine wpl_ldN ntNat rfl rfl rfl x_9.out ?_) | (refine wpl_ldN_g ntNat ?hw rfl rfl x_9.out ?_; (case hw => rfl)))
      refine (same_ok _ _ HFn.out L_9.out HSn.out (decide_eq_true rfl)).mono ?_
      rintro e p11 ⟨rfl, hb⟩
      have x_11 := Lib.hid (x_9.out.below hb)
      have L_11 := Lib.hid (L_9.out.below hb)
      have W_11 := Lib.hid (W_9.out.trans (hb.mono W_9.out.size))
      clear hb x_9 L_9 W_9
      go_wp2_with (first | go_skip | (refine wpl_ldN ntNat rfl rfl rfl x_11.out ?_) | (refine wpl_ldN_g ntNat ?hw rfl rfl x_11.out ?_; (case hw => rfl)))
      refine (text_any _ _ HFn.out).mono ?_
      rintro e p12 ⟨rfl, hb⟩
      have x_12 := Lib.hid (x_11.out.below hb)
      have L_12 := Lib.hid (L_11.out.below hb)
      have W_12 := Lib.hid (W_11.out.trans (hb.mono W_11.out.size))
      clear hb x_11 L_11 W_11
      go_wp2_with (first | go_skip | (refine wpl_ldN ntNat rfl rfl rfl x_12.out ?_) | (refine wpl_ldN_g ntNat ?hw rfl rfl x_12.out ?_; (case hw => rfl)))
      refine (rtext_any _ _ _ L_12.out HSn.out).mono ?_
      rintro e p13 ⟨rfl, rfl⟩
      go_wp2_with (first | go_skip | (refine wpl_ldN ntNat rfl rfl rfl x_12.out ?_) | (refine wpl_ldN_g ntNat ?hw rfl rfl x_12.out ?_; (case hw => rfl)))
      clear x_12
      clear L_12
      refine (parse_full _ HSZ.out HP.out (by rw [HM.out]; exact HFm.out)).mono ?_
      rintro e p14 ⟨rfl, hb⟩
      have XT0_14 := Lib.hid (NatAt.zero p14)
      have XA_14 := Lib.hid (below_zero hb hb.size)
      have hsz_14 : Hid (p12.heap.size ≤ p14.heap.size) := Lib.hid hb.size
      clear hb
      go_wp2_with (first | go_skip | (refine wpl_stN ntNat rfl rfl rfl rfl XT0_14.out ?_; intro q14 hn hg; have XB0_14 := Lib.hid (XA_14.out.grown hg XA_14.out.size (fun j e => by injection e with e; rw [← e]; have := hsz_14.out; omega)); have XS00_14 := Lib.hid hn; have W_14 := Lib.hid (W_12.out.trans (XB0_14.out.mono W_12.out.size)); have y_14 := XS00_14; clear hn hg W_12 XT0_14 XA_14 XS00_14 XB0_14 hsz_14) | (refine wpl_ldN ntNat rfl rfl rfl y_14.out ?_) | (refine wpl_ldN_g ntNat ?hw rfl rfl y_14.out ?_; (case hw => rfl)))
      refine (rparse_yes _ HSZ.out HP.out HM.out).mono ?_
      rintro e p15 ⟨v15, rfl, hv, hb⟩
      have y_15 := Lib.hid (y_14.out.below hb)
      have W_15 := Lib.hid (W_14.out.trans (hb.mono W_14.out.size))
      clear hb y_14 W_14
      have q_15 := Lib.hid hv
      clear hv
      go_wp2_with (first | go_skip | (refine wpl_ldN ntNat rfl rfl rfl y_15.out ?_) | (refine wpl_ldN_g ntNat ?hw rfl rfl y_15.out ?_; (case hw => rfl)))
      refine (rfits_ok _ _ q_15.out HSm.out (c := false) (by simp [HFm.out])).mono ?_
      rintro e p16 ⟨rfl, rfl⟩
      go_wp2_with (first | go_skip | (refine wpl_ldN ntNat rfl rfl rfl y_15.out ?_) | (refine wpl_ldN_g ntNat ?hw rfl rfl y_15.out ?_; (case hw => rfl)))
      refine (isZero_zero _).mono ?_
      rintro e p17 ⟨rfl, hb⟩
      have y_17 := Lib.hid (y_15.out.below hb)
      have q_17 := Lib.hid (q_15.out.below hb)
      have W_17 := Lib.hid (W_15.out.trans (hb.mono W_15.out.size))
      clear hb y_15 q_15 W_15
      go_wp2_with (first | go_skip | (refine wpl_ldN ntNat rfl rfl rfl y_17.out ?_) | (refine wpl_ldN_g ntNat ?hw rfl rfl y_17.out ?_; (case hw => rfl)))
      refine (known_any _).mono ?_
      rintro e p18 ⟨rfl, hb⟩
      have y_18 := Lib.hid (y_17.out.below hb)
      have q_18 := Lib.hid (q_17.out.below hb)
      have W_18 := Lib.hid (W_17.out.trans (hb.mono W_17.out.size))
      clear hb y_17 q_17 W_17
      go_wp2_with (first | go_skip | (refine wpl_ldN ntNat rfl rfl rfl y_18.out ?_) | (refine wpl_ldN_g ntNat ?hw rfl rfl y_18.out ?_; (case hw => rfl)))
      go_ret
      exact ⟨rfl, W_18.out⟩

set_option maxHeartbeats 6400000 in
theorem reads_f_yes (va : Value) (xa : List UInt8) (s : ByteArray) (w : World) (ha : Byt w va xa) (ll0 : xa.length ≤ 200) (ll1 : s.size ≤ 300) (n m : Nat) (hn : numN xa = n) (hf : Fit n) (hp : okP s.data.toList = true) (hm : numH s.data.toList = m) (hq : Fit m) :
    Calls Try.prog 3 #[va, .string s] w fun e w' => e = .returned (.bool true) ∧ Below w.heap.size w w' := by
  have HA := Lib.hid ha
  obtain ⟨A, c, rfl, -⟩ := ha.len
  have d0 : decide (200 < (xa.length : Int)) = false := decide_eq_false (by omega)
  have d1 : decide (300 < (s.size : Int)) = false := decide_eq_false (by omega)
  have HL : Hid (xa.length ≤ 200) := Lib.hid ll0
  have HLL : Hid (xa.length ≤ lim) := Lib.hid (by unfold lim; omega)
  have HLI : Hid ((xa.length : Int) ≤ 200) := Lib.hid (by omega)
  have HSZ : Hid (s.size ≤ 100000) := Lib.hid (by omega)
  have HSn := Lib.hid (sz_num HL.out)
  rw [hn] at HSn
  have HEn := Lib.hid hn
  have HFn := Lib.hid hf
  have HP := Lib.hid hp
  have HM := Lib.hid hm
  have HFm := Lib.hid hq
  have HSm : Hid (Sz m) := Lib.hid (by rw [← hm]; exact numH_sz ll1 hp)
  clear hm hq
  clear ha hn hf hp ll0 ll1
  go_enter Try.func3, Try.ntmps3
  go_wp2_with (at_builtin; refine wpl_append_b rfl (.tmp 23) (.tmp 24) 22 rfl eiU8 w.heap.size _ [] rfl (own_lit' [] (Nat.le_refl _) rfl rfl (le_lim (by simp))) _ xa rfl (HA.out.below (below_fresh _)) (by simpa using HLL.out) (by simp) ?_; intro A1 c1 w1 hown1 hg1 hat1; have O_0 := Lib.hid hown1; have W_0 : Hid (Below w.heap.size w w1) := Lib.hid ((below_fresh _).trans (below_of_own (own_lit' [] (Nat.le_refl _) rfl rfl (le_lim (by simp))) hg1 (by simp))); clear hown1 hg1 hat1; simp only [List.length_nil, Nat.zero_add, List.nil_append] at O_0 ⊢)
  have A_0 : Hid (Byt w1 (.slice A xa.length c) xa) := Lib.hid (HA.out.below W_0.out)
  clear HA
  have HO0 : Hid (∀ g, (Value.slice A1 xa.length c1).ownBlock = some g → g < w1.heap.size) := Lib.hid (fun g hg => own_lt O_0.out g hg)
  refine (fromBytes_ok _ _ (OwnB.byt O_0.out) HL.out HEn.out HFn.out).mono ?_
  rintro e p1 ⟨rfl, hb⟩
  have HSP : Hid (w1.heap.size ≤ p1.heap.size) := Lib.hid hb.size
  have XT0_1 := Lib.hid (NatAt.zero p1)
  have XA_1 := Lib.hid (below_zero hb hb.size)
  have hsz_1 : Hid (w1.heap.size ≤ p1.heap.size) := Lib.hid hb.size
  clear hb
  go_wp2_with (first | go_skip | (refine wpl_stN ntNat rfl rfl rfl rfl XT0_1.out ?_; intro q1 hn hg; have XB0_1 := Lib.hid (XA_1.out.grown hg XA_1.out.size (fun j e => by injection e with e; rw [← e]; have := hsz_1.out; omega)); have XS00_1 := Lib.hid hn; have O_1 := Lib.hid (O_0.out.below XB0_1.out); have A_1 := Lib.hid (A_0.out.below XB0_1.out); have W_1 := Lib.hid (W_0.out.trans (XB0_1.out.mono W_0.out.size)); have x_1 := XS00_1; clear hn hg O_0 A_0 W_0 XT0_1 XA_1 XS00_1 XB0_1 hsz_1) | (refine wpl_ldN ntNat rfl rfl rfl x_1.out ?_) | (refine wpl_ldN_g ntNat ?hw rfl rfl x_1.out ?_; (case hw => rfl)))
  refine (from_any _ xa _ A_1.out (by have := HL.out; omega)).mono ?_
  rintro e p2 ⟨v2, rfl, hv, hb, ho⟩
  have O_2 := Lib.hid (O_1.out.below hb)
  have A_2 := Lib.hid (A_1.out.below hb)
  have x_2 := Lib.hid (x_1.out.below hb)
  have W_2 := Lib.hid (W_1.out.trans (hb.mono W_1.out.size))
  have L_2 := Lib.hid hv
  rw [HEn.out] at L_2
  have HOB : Hid (∀ g, (Value.slice A1 xa.length c1).ownBlock = some g → g < p1.heap.size ∧ v2.ownBlock ≠ some g) := Lib.hid (fun g hg => by
    have h1 := HO0.out g hg; have h2 := HSP.out; have h3 := x_1.out.lt; exact ⟨by omega, fun h4 => by have := ho g h4; omega⟩)
  clear hb hv ho HO0 HSP O_1 A_1 x_1 W_1
  clear A_2
  go_wp2_with (first | go_skip | (refine wpl_ldN ntNat rfl rfl rfl x_2.out ?_) | (refine wpl_ldN_g ntNat ?hw rfl rfl x_2.out ?_; (case hw => rfl)))
  go_loopw [9] (fun i wr => ∃ (j : Nat) (bs : List UInt8), (j : Int) ≤ 200 ∧ bs.length = xa.length ∧ i = .int .i64 j ∧ OwnB wr w.heap.size (.slice A1 xa.length c1) bs ∧ NatAt wr p1.heap.size n ∧ Lst wr v2 n ∧ Below w.heap.size w wr) (fun i _ => 300 - (intOf i).toNat)
  case atStart => exact ⟨0, xa, by omega, rfl, rfl, O_2.out, x_2.out, L_2.out, W_2.out⟩
  case round =>
    obtain ⟨j, bs, hj, hbs, rfl, hown, hx, hl, hb⟩ := hrel
    clear O_2 x_2 L_2 W_2
    by_cases hlt : j < xa.length
    · obtain ⟨g, hA1⟩ : ∃ g, A1 = some ⟨g, 0, none⟩ := own_block hown (by omega)
      subst hA1
      have hown' : wr.ownsRow w.heap.size 5 1 (.slice (some ⟨g, 0, none⟩) xa.length c1) xa.length (bs.map u8v) := hbs ▸ hown
      have hf := hown'.frozenAt j
      have hc := hown'.cellAt j (by omega)
      obtain ⟨x0, hgt⟩ : ∃ x : UInt8, (bs.map u8v)[j]? = some (.int .u8 (x.toNat : Int)) := ⟨bs[j], by rw [List.getElem?_map, List.getElem?_eq_getElem (by omega)]; rfl⟩
      rw [hgt] at hc
      have HX := Lib.hid hx; have HLS := Lib.hid hl; have HW := Lib.hid hb; have HOWN := Lib.hid hown'; have HBS := Lib.hid hbs; have HJ := Lib.hid hj; have HGB := Lib.hid (hown'.lt g rfl)
      clear hx hl hb hown hown' hbs hgt
      go_wp2_with fail
      go_roundw
      case rel =>
        obtain ⟨hs1, hs2⟩ := HOWN.out.stored j (u8v (x0 + 1))
        rw [← u8_succ] at hs1 hs2
        refine ⟨j + 1, bs.set j (x0 + 1), by have := HLI.out; omega, by rw [List.length_set]; exact HBS.out, by go_num, ?_, HX.out.grown hs2 (fun e => by injection e with e; have := (HOB.out g rfl).1; omega), HLS.out.grown hs2 (fun g' e => by injection e with e; rw [← e]; exact (HOB.out g rfl).2), HW.out.setCell HGB.out.1 _⟩
        unfold OwnB
        rw [List.length_set, HBS.out, List.map_set, ← u8_succ]
        exact hs1
      case measure => simp [intOf]; omega
    · have x_9 := Lib.hid hx; have L_9 := Lib.hid hl; have W_9 := Lib.hid hb
      clear hx hl hb hown hbs HOB
      go_wp2_with (first | go_skip | (refine wpl_ldN ntNat rfl rfl rfl x_9.out ?_) | (refine wpl_ldN_g ntNat ?hw rfl rfl x_9.out ?_; (case hw => rfl)))
      refine (rfits_ok _ _ L_9.out HSn.out (c := true) (by simp [HFn.out])).mono ?_
      rintro e p10 ⟨rfl, rfl⟩
      go_wp2_with (first | go_skip | (refine wpl_ldN ntNat rfl rfl rfl x_9.out ?_) | (refine wpl_ldN_g ntNat ?hw rfl rfl x_9.out ?_; (case hw => rfl)))
      refine (same_ok _ _ HFn.out L_9.out HSn.out (decide_eq_true rfl)).mono ?_
      rintro e p11 ⟨rfl, hb⟩
      have x_11 := Lib.hid (x_9.out.below hb)
      have L_11 := Lib.hid (L_9.out.below hb)
      have W_11 := Lib.hid (W_9.out.trans (hb.mono W_9.out.size))
      clear hb x_9 L_9 W_9
      go_wp2_with (first | go_skip | (refine wpl_ldN ntNat rfl rfl rfl x_11.out ?_) | (refine wpl_ldN_g ntNat ?hw rfl rfl x_11.out ?_; (case hw => rfl)))
      refine (text_any _ _ HFn.out).mono ?_
      rintro e p12 ⟨rfl, hb⟩
      have x_12 := Lib.hid (x_11.out.below hb)
      have L_12 := Lib.hid (L_11.out.below hb)
      have W_12 := Lib.hid (W_11.out.trans (hb.mono W_11.out.size))
      clear hb x_11 L_11 W_11
      go_wp2_with (first | go_skip | (refine wpl_ldN ntNat rfl rfl rfl x_12.out ?_) | (refine wpl_ldN_g ntNat ?hw rfl rfl x_12.out ?_; (case hw => rfl)))
      refine (rtext_any _ _ _ L_12.out HSn.out).mono ?_
      rintro e p13 ⟨rfl, rfl⟩
      go_wp2_with (first | go_skip | (refine wpl_ldN ntNat rfl rfl rfl x_12.out ?_) | (refine wpl_ldN_g ntNat ?hw rfl rfl x_12.out ?_; (case hw => rfl)))
      clear x_12
      clear L_12
      refine (parse_yes _ HSZ.out HP.out HM.out HFm.out).mono ?_
      rintro e p14 ⟨rfl, hb⟩
      have XT0_14 := Lib.hid (NatAt.zero p14)
      have XA_14 := Lib.hid (below_zero hb hb.size)
      have hsz_14 : Hid (p12.heap.size ≤ p14.heap.size) := Lib.hid hb.size
      clear hb
      go_wp2_with (first | go_skip | (refine wpl_stN ntNat rfl rfl rfl rfl XT0_14.out ?_; intro q14 hn hg; have XB0_14 := Lib.hid (XA_14.out.grown hg XA_14.out.size (fun j e => by injection e with e; rw [← e]; have := hsz_14.out; omega)); have XS00_14 := Lib.hid hn; have W_14 := Lib.hid (W_12.out.trans (XB0_14.out.mono W_12.out.size)); have y_14 := XS00_14; clear hn hg W_12 XT0_14 XA_14 XS00_14 XB0_14 hsz_14) | (refine wpl_ldN ntNat rfl rfl rfl y_14.out ?_) | (refine wpl_ldN_g ntNat ?hw rfl rfl y_14.out ?_; (case hw => rfl)))
      refine (rparse_yes _ HSZ.out HP.out HM.out).mono ?_
      rintro e p15 ⟨v15, rfl, hv, hb⟩
      have y_15 := Lib.hid (y_14.out.below hb)
      have W_15 := Lib.hid (W_14.out.trans (hb.mono W_14.out.size))
      clear hb y_14 W_14
      have q_15 := Lib.hid hv
      clear hv
      go_wp2_with (first | go_skip | (refine wpl_ldN ntNat rfl rfl rfl y_15.out ?_) | (refine wpl_ldN_g ntNat ?hw rfl rfl y_15.out ?_; (case hw => rfl)))
      refine (rfits_ok _ _ q_15.out HSm.out (c := true) (by simp [HFm.out])).mono ?_
      rintro e p16 ⟨rfl, rfl⟩
      go_wp2_with (first | go_skip | (refine wpl_ldN ntNat rfl rfl rfl y_15.out ?_) | (refine wpl_ldN_g ntNat ?hw rfl rfl y_15.out ?_; (case hw => rfl)))
      refine (same_ok _ _ HFm.out q_15.out HSm.out (decide_eq_true rfl)).mono ?_
      rintro e p17 ⟨rfl, hb⟩
      have y_17 := Lib.hid (y_15.out.below hb)
      have q_17 := Lib.hid (q_15.out.below hb)
      have W_17 := Lib.hid (W_15.out.trans (hb.mono W_15.out.size))
      clear hb y_15 q_15 W_15
      go_wp2_with (first | go_skip | (refine wpl_ldN ntNat rfl rfl rfl y_17.out ?_) | (refine wpl_ldN_g ntNat ?hw rfl rfl y_17.out ?_; (case hw => rfl)))
      refine (text_back _ HP.out HM.out HFm.out).mono ?_
      rintro e p18 ⟨rfl, hb⟩
      have y_18 := Lib.hid (y_17.out.below hb)
      have q_18 := Lib.hid (q_17.out.below hb)
      have W_18 := Lib.hid (W_17.out.trans (hb.mono W_17.out.size))
      clear hb y_17 q_17 W_17
      go_wp2_with (first | go_skip | (refine wpl_ldN ntNat rfl rfl rfl y_18.out ?_) | (refine wpl_ldN_g ntNat ?hw rfl rfl y_18.out ?_; (case hw => rfl)))
      refine (known_any _).mono ?_
      rintro e p19 ⟨rfl, hb⟩
      have y_19 := Lib.hid (y_18.out.below hb)
      have q_19 := Lib.hid (q_18.out.below hb)
      have W_19 := Lib.hid (W_18.out.trans (hb.mono W_18.out.size))
      clear hb y_18 q_18 W_18
      go_wp2_with (first | go_skip | (refine wpl_ldN ntNat rfl rfl rfl y_19.out ?_) | (refine wpl_ldN_g ntNat ?hw rfl rfl y_19.out ?_; (case hw => rfl)))
      go_ret
      exact ⟨rfl, W_19.out⟩

set_option maxHeartbeats 6400000 in
theorem reads_u_no (va : Value) (xa : List UInt8) (s : ByteArray) (w : World) (ha : Byt w va xa) (ll0 : xa.length ≤ 200) (ll1 : s.size ≤ 300) (n m : Nat) (hn : numN xa = n) (hf : ¬ Fit n) (hp : okP s.data.toList = false) :
    Calls Try.prog 3 #[va, .string s] w fun e w' => e = .returned (.bool true) ∧ Below w.heap.size w w' := by
  have HA := Lib.hid ha
  obtain ⟨A, c, rfl, -⟩ := ha.len
  have d0 : decide (200 < (xa.length : Int)) = false := decide_eq_false (by omega)
  have d1 : decide (300 < (s.size : Int)) = false := decide_eq_false (by omega)
  have HL : Hid (xa.length ≤ 200) := Lib.hid ll0
  have HLL : Hid (xa.length ≤ lim) := Lib.hid (by unfold lim; omega)
  have HLI : Hid ((xa.length : Int) ≤ 200) := Lib.hid (by omega)
  have HSZ : Hid (s.size ≤ 100000) := Lib.hid (by omega)
  have HSn := Lib.hid (sz_num HL.out)
  rw [hn] at HSn
  have HEn := Lib.hid hn
  have HFn := Lib.hid hf
  have HP := Lib.hid hp
  clear ha hn hf hp ll0 ll1
  go_enter Try.func3, Try.ntmps3
  go_wp2_with (at_builtin; refine wpl_append_b rfl (.tmp 23) (.tmp 24) 22 rfl eiU8 w.heap.size _ [] rfl (own_lit' [] (Nat.le_refl _) rfl rfl (le_lim (by simp))) _ xa rfl (HA.out.below (below_fresh _)) (by simpa using HLL.out) (by simp) ?_; intro A1 c1 w1 hown1 hg1 hat1; have O_0 := Lib.hid hown1; have W_0 : Hid (Below w.heap.size w w1) := Lib.hid ((below_fresh _).trans (below_of_own (own_lit' [] (Nat.le_refl _) rfl rfl (le_lim (by simp))) hg1 (by simp))); clear hown1 hg1 hat1; simp only [List.length_nil, Nat.zero_add, List.nil_append] at O_0 ⊢)
  have A_0 : Hid (Byt w1 (.slice A xa.length c) xa) := Lib.hid (HA.out.below W_0.out)
  clear HA
  have HO0 : Hid (∀ g, (Value.slice A1 xa.length c1).ownBlock = some g → g < w1.heap.size) := Lib.hid (fun g hg => own_lt O_0.out g hg)
  refine (fromBytes_full _ _ (OwnB.byt O_0.out) HL.out (by rw [HEn.out]; exact HFn.out)).mono ?_
  rintro e p1 ⟨rfl, hb⟩
  have HSP : Hid (w1.heap.size ≤ p1.heap.size) := Lib.hid hb.size
  have XT0_1 := Lib.hid (NatAt.zero p1)
  have XA_1 := Lib.hid (below_zero hb hb.size)
  have hsz_1 : Hid (w1.heap.size ≤ p1.heap.size) := Lib.hid hb.size
  clear hb
  go_wp2_with (first | go_skip | (refine wpl_stN ntNat rfl rfl rfl rfl XT0_1.out ?_; intro q1 hn hg; have XB0_1 := Lib.hid (XA_1.out.grown hg XA_1.out.size (fun j e => by injection e with e; rw [← e]; have := hsz_1.out; omega)); have XS00_1 := Lib.hid hn; have O_1 := Lib.hid (O_0.out.below XB0_1.out); have A_1 := Lib.hid (A_0.out.below XB0_1.out); have W_1 := Lib.hid (W_0.out.trans (XB0_1.out.mono W_0.out.size)); have x_1 := XS00_1; clear hn hg O_0 A_0 W_0 XT0_1 XA_1 XS00_1 XB0_1 hsz_1) | (refine wpl_ldN ntNat rfl rfl rfl x_1.out ?_) | (refine wpl_ldN_g ntNat ?hw rfl rfl x_1.out ?_; (case hw => rfl)))
  refine (from_any _ xa _ A_1.out (by have := HL.out; omega)).mono ?_
  rintro e p2 ⟨v2, rfl, hv, hb, ho⟩
  have O_2 := Lib.hid (O_1.out.below hb)
  have A_2 := Lib.hid (A_1.out.below hb)
  have x_2 := Lib.hid (x_1.out.below hb)
  have W_2 := Lib.hid (W_1.out.trans (hb.mono W_1.out.size))
  have L_2 := Lib.hid hv
  rw [HEn.out] at L_2
  have HOB : Hid (∀ g, (Value.slice A1 xa.length c1).ownBlock = some g → g < p1.heap.size ∧ v2.ownBlock ≠ some g) := Lib.hid (fun g hg => by
    have h1 := HO0.out g hg; have h2 := HSP.out; have h3 := x_1.out.lt; exact ⟨by omega, fun h4 => by have := ho g h4; omega⟩)
  clear hb hv ho HO0 HSP O_1 A_1 x_1 W_1
  clear A_2
  go_wp2_with (first | go_skip | (refine wpl_ldN ntNat rfl rfl rfl x_2.out ?_) | (refine wpl_ldN_g ntNat ?hw rfl rfl x_2.out ?_; (case hw => rfl)))
  go_loopw [9] (fun i wr => ∃ (j : Nat) (bs : List UInt8), (j : Int) ≤ 200 ∧ bs.length = xa.length ∧ i = .int .i64 j ∧ OwnB wr w.heap.size (.slice A1 xa.length c1) bs ∧ NatAt wr p1.heap.size 0 ∧ Lst wr v2 n ∧ Below w.heap.size w wr) (fun i _ => 300 - (intOf i).toNat)
  case atStart => exact ⟨0, xa, by omega, rfl, rfl, O_2.out, x_2.out, L_2.out, W_2.out⟩
  case round =>
    obtain ⟨j, bs, hj, hbs, rfl, hown, hx, hl, hb⟩ := hrel
    clear O_2 x_2 L_2 W_2
    by_cases hlt : j < xa.length
    · obtain ⟨g, hA1⟩ : ∃ g, A1 = some ⟨g, 0, none⟩ := own_block hown (by omega)
      subst hA1
      have hown' : wr.ownsRow w.heap.size 5 1 (.slice (some ⟨g, 0, none⟩) xa.length c1) xa.length (bs.map u8v) := hbs ▸ hown
      have hf := hown'.frozenAt j
      have hc := hown'.cellAt j (by omega)
      obtain ⟨x0, hgt⟩ : ∃ x : UInt8, (bs.map u8v)[j]? = some (.int .u8 (x.toNat : Int)) := ⟨bs[j], by rw [List.getElem?_map, List.getElem?_eq_getElem (by omega)]; rfl⟩
      rw [hgt] at hc
      have HX := Lib.hid hx; have HLS := Lib.hid hl; have HW := Lib.hid hb; have HOWN := Lib.hid hown'; have HBS := Lib.hid hbs; have HJ := Lib.hid hj; have HGB := Lib.hid (hown'.lt g rfl)
      clear hx hl hb hown hown' hbs hgt
      go_wp2_with fail
      go_roundw
      case rel =>
        obtain ⟨hs1, hs2⟩ := HOWN.out.stored j (u8v (x0 + 1))
        rw [← u8_succ] at hs1 hs2
        refine ⟨j + 1, bs.set j (x0 + 1), by have := HLI.out; omega, by rw [List.length_set]; exact HBS.out, by go_num, ?_, HX.out.grown hs2 (fun e => by injection e with e; have := (HOB.out g rfl).1; omega), HLS.out.grown hs2 (fun g' e => by injection e with e; rw [← e]; exact (HOB.out g rfl).2), HW.out.setCell HGB.out.1 _⟩
        unfold OwnB
        rw [List.length_set, HBS.out, List.map_set, ← u8_succ]
        exact hs1
      case measure => simp [intOf]; omega
    · have x_9 := Lib.hid hx; have L_9 := Lib.hid hl; have W_9 := Lib.hid hb
      clear hx hl hb hown hbs HOB
      go_wp2_with (first | go_skip | (refine wpl_ldN ntNat rfl rfl rfl x_9.out ?_) | (refine wpl_ldN_g ntNat ?hw rfl rfl x_9.out ?_; (case hw => rfl)))
      refine (rfits_ok _ _ L_9.out HSn.out (c := false) (by simp [HFn.out])).mono ?_
      rintro e p10 ⟨rfl, rfl⟩
      go_wp2_with (first | go_skip | (refine wpl_ldN ntNat rfl rfl rfl x_9.out ?_) | (refine wpl_ldN_g ntNat ?hw rfl rfl x_9.out ?_; (case hw => rfl)))
      refine (isZero_zero _).mono ?_
      rintro e p11 ⟨rfl, hb⟩
      have x_11 := Lib.hid (x_9.out.below hb)
      have L_11 := Lib.hid (L_9.out.below hb)
      have W_11 := Lib.hid (W_9.out.trans (hb.mono W_9.out.size))
      clear hb x_9 L_9 W_9
      go_wp2_with (first | go_skip | (refine wpl_ldN ntNat rfl rfl rfl x_11.out ?_) | (refine wpl_ldN_g ntNat ?hw rfl rfl x_11.out ?_; (case hw => rfl)))
      clear x_11
      clear L_11
      refine (parse_no _ HSZ.out HP.out).mono ?_
      rintro e p12 ⟨rfl, hb⟩
      have XT0_12 := Lib.hid (NatAt.zero p12)
      have XA_12 := Lib.hid (below_zero hb hb.size)
      have hsz_12 : Hid (p11.heap.size ≤ p12.heap.size) := Lib.hid hb.size
      clear hb
      go_wp2_with (first | go_skip | (refine wpl_stN ntNat rfl rfl rfl rfl XT0_12.out ?_; intro q12 hn hg; have XB0_12 := Lib.hid (XA_12.out.grown hg XA_12.out.size (fun j e => by injection e with e; rw [← e]; have := hsz_12.out; omega)); have XS00_12 := Lib.hid hn; have W_12 := Lib.hid (W_11.out.trans (XB0_12.out.mono W_11.out.size)); have y_12 := XS00_12; clear hn hg W_11 XT0_12 XA_12 XS00_12 XB0_12 hsz_12) | (refine wpl_ldN ntNat rfl rfl rfl y_12.out ?_) | (refine wpl_ldN_g ntNat ?hw rfl rfl y_12.out ?_; (case hw => rfl)))
      refine (rparse_no _ HSZ.out HP.out).mono ?_
      rintro e p13 ⟨rfl, hb⟩
      have y_13 := Lib.hid (y_12.out.below hb)
      have W_13 := Lib.hid (W_12.out.trans (hb.mono W_12.out.size))
      clear hb y_12 W_12
      go_wp2_with (first | go_skip | (refine wpl_ldN ntNat rfl rfl rfl y_13.out ?_) | (refine wpl_ldN_g ntNat ?hw rfl rfl y_13.out ?_; (case hw => rfl)))
      refine (isZero_zero _).mono ?_
      rintro e p14 ⟨rfl, hb⟩
      have y_14 := Lib.hid (y_13.out.below hb)
      have W_14 := Lib.hid (W_13.out.trans (hb.mono W_13.out.size))
      clear hb y_13 W_13
      go_wp2_with (first | go_skip | (refine wpl_ldN ntNat rfl rfl rfl y_14.out ?_) | (refine wpl_ldN_g ntNat ?hw rfl rfl y_14.out ?_; (case hw => rfl)))
      refine (known_any _).mono ?_
      rintro e p15 ⟨rfl, hb⟩
      have y_15 := Lib.hid (y_14.out.below hb)
      have W_15 := Lib.hid (W_14.out.trans (hb.mono W_14.out.size))
      clear hb y_14 W_14
      go_wp2_with (first | go_skip | (refine wpl_ldN ntNat rfl rfl rfl y_15.out ?_) | (refine wpl_ldN_g ntNat ?hw rfl rfl y_15.out ?_; (case hw => rfl)))
      go_ret
      exact ⟨rfl, W_15.out⟩

set_option maxHeartbeats 6400000 in
theorem reads_u_full (va : Value) (xa : List UInt8) (s : ByteArray) (w : World) (ha : Byt w va xa) (ll0 : xa.length ≤ 200) (ll1 : s.size ≤ 300) (n m : Nat) (hn : numN xa = n) (hf : ¬ Fit n) (hp : okP s.data.toList = true) (hm : numH s.data.toList = m) (hq : ¬ Fit m) :
    Calls Try.prog 3 #[va, .string s] w fun e w' => e = .returned (.bool true) ∧ Below w.heap.size w w' := by
  have HA := Lib.hid ha
  obtain ⟨A, c, rfl, -⟩ := ha.len
  have d0 : decide (200 < (xa.length : Int)) = false := decide_eq_false (by omega)
  have d1 : decide (300 < (s.size : Int)) = false := decide_eq_false (by omega)
  have HL : Hid (xa.length ≤ 200) := Lib.hid ll0
  have HLL : Hid (xa.length ≤ lim) := Lib.hid (by unfold lim; omega)
  have HLI : Hid ((xa.length : Int) ≤ 200) := Lib.hid (by omega)
  have HSZ : Hid (s.size ≤ 100000) := Lib.hid (by omega)
  have HSn := Lib.hid (sz_num HL.out)
  rw [hn] at HSn
  have HEn := Lib.hid hn
  have HFn := Lib.hid hf
  have HP := Lib.hid hp
  have HM := Lib.hid hm
  have HFm := Lib.hid hq
  have HSm : Hid (Sz m) := Lib.hid (by rw [← hm]; exact numH_sz ll1 hp)
  clear hm hq
  clear ha hn hf hp ll0 ll1
  go_enter Try.func3, Try.ntmps3
  go_wp2_with (at_builtin; refine wpl_append_b rfl (.tmp 23) (.tmp 24) 22 rfl eiU8 w.heap.size _ [] rfl (own_lit' [] (Nat.le_refl _) rfl rfl (le_lim (by simp))) _ xa rfl (HA.out.below (below_fresh _)) (by simpa using HLL.out) (by simp) ?_; intro A1 c1 w1 hown1 hg1 hat1; have O_0 := Lib.hid hown1; have W_0 : Hid (Below w.heap.size w w1) := Lib.hid ((below_fresh _).trans (below_of_own (own_lit' [] (Nat.le_refl _) rfl rfl (le_lim (by simp))) hg1 (by simp))); clear hown1 hg1 hat1; simp only [List.length_nil, Nat.zero_add, List.nil_append] at O_0 ⊢)
  have A_0 : Hid (Byt w1 (.slice A xa.length c) xa) := Lib.hid (HA.out.below W_0.out)
  clear HA
  have HO0 : Hid (∀ g, (Value.slice A1 xa.length c1).ownBlock = some g → g < w1.heap.size) := Lib.hid (fun g hg => own_lt O_0.out g hg)
  refine (fromBytes_full _ _ (OwnB.byt O_0.out) HL.out (by rw [HEn.out]; exact HFn.out)).mono ?_
  rintro e p1 ⟨rfl, hb⟩
  have HSP : Hid (w1.heap.size ≤ p1.heap.size) := Lib.hid hb.size
  have XT0_1 := Lib.hid (NatAt.zero p1)
  have XA_1 := Lib.hid (below_zero hb hb.size)
  have hsz_1 : Hid (w1.heap.size ≤ p1.heap.size) := Lib.hid hb.size
  clear hb
  go_wp2_with (first | go_skip | (refine wpl_stN ntNat rfl rfl rfl rfl XT0_1.out ?_; intro q1 hn hg; have XB0_1 := Lib.hid (XA_1.out.grown hg XA_1.out.size (fun j e => by injection e with e; rw [← e]; have := hsz_1.out; omega)); have XS00_1 := Lib.hid hn; have O_1 := Lib.hid (O_0.out.below XB0_1.out); have A_1 := Lib.hid (A_0.out.below XB0_1.out); have W_1 := Lib.hid (W_0.out.trans (XB0_1.out.mono W_0.out.size)); have x_1 := XS00_1; clear hn hg O_0 A_0 W_0 XT0_1 XA_1 XS00_1 XB0_1 hsz_1) | (refine wpl_ldN ntNat rfl rfl rfl x_1.out ?_) | (refine wpl_ldN_g ntNat ?hw rfl rfl x_1.out ?_; (case hw => rfl)))
  refine (from_any _ xa _ A_1.out (by have := HL.out; omega)).mono ?_
  rintro e p2 ⟨v2, rfl, hv, hb, ho⟩
  have O_2 := Lib.hid (O_1.out.below hb)
  have A_2 := Lib.hid (A_1.out.below hb)
  have x_2 := Lib.hid (x_1.out.below hb)
  have W_2 := Lib.hid (W_1.out.trans (hb.mono W_1.out.size))
  have L_2 := Lib.hid hv
  rw [HEn.out] at L_2
  have HOB : Hid (∀ g, (Value.slice A1 xa.length c1).ownBlock = some g → g < p1.heap.size ∧ v2.ownBlock ≠ some g) := Lib.hid (fun g hg => by
    have h1 := HO0.out g hg; have h2 := HSP.out; have h3 := x_1.out.lt; exact ⟨by omega, fun h4 => by have := ho g h4; omega⟩)
  clear hb hv ho HO0 HSP O_1 A_1 x_1 W_1
  clear A_2
  go_wp2_with (first | go_skip | (refine wpl_ldN ntNat rfl rfl rfl x_2.out ?_) | (refine wpl_ldN_g ntNat ?hw rfl rfl x_2.out ?_; (case hw => rfl)))
  go_loopw [9] (fun i wr => ∃ (j : Nat) (bs : List UInt8), (j : Int) ≤ 200 ∧ bs.length = xa.length ∧ i = .int .i64 j ∧ OwnB wr w.heap.size (.slice A1 xa.length c1) bs ∧ NatAt wr p1.heap.size 0 ∧ Lst wr v2 n ∧ Below w.heap.size w wr) (fun i _ => 300 - (intOf i).toNat)
  case atStart => exact ⟨0, xa, by omega, rfl, rfl, O_2.out, x_2.out, L_2.out, W_2.out⟩
  case round =>
    obtain ⟨j, bs, hj, hbs, rfl, hown, hx, hl, hb⟩ := hrel
    clear O_2 x_2 L_2 W_2
    by_cases hlt : j < xa.length
    · obtain ⟨g, hA1⟩ : ∃ g, A1 = some ⟨g, 0, none⟩ := own_block hown (by omega)
      subst hA1
      have hown' : wr.ownsRow w.heap.size 5 1 (.slice (some ⟨g, 0, none⟩) xa.length c1) xa.length (bs.map u8v) := hbs ▸ hown
      have hf := hown'.frozenAt j
      have hc := hown'.cellAt j (by omega)
      obtain ⟨x0, hgt⟩ : ∃ x : UInt8, (bs.map u8v)[j]? = some (.int .u8 (x.toNat : Int)) := ⟨bs[j], by rw [List.getElem?_map, List.getElem?_eq_getElem (by omega)]; rfl⟩
      rw [hgt] at hc
      have HX := Lib.hid hx; have HLS := Lib.hid hl; have HW := Lib.hid hb; have HOWN := Lib.hid hown'; have HBS := Lib.hid hbs; have HJ := Lib.hid hj; have HGB := Lib.hid (hown'.lt g rfl)
      clear hx hl hb hown hown' hbs hgt
      go_wp2_with fail
      go_roundw
      case rel =>
        obtain ⟨hs1, hs2⟩ := HOWN.out.stored j (u8v (x0 + 1))
        rw [← u8_succ] at hs1 hs2
        refine ⟨j + 1, bs.set j (x0 + 1), by have := HLI.out; omega, by rw [List.length_set]; exact HBS.out, by go_num, ?_, HX.out.grown hs2 (fun e => by injection e with e; have := (HOB.out g rfl).1; omega), HLS.out.grown hs2 (fun g' e => by injection e with e; rw [← e]; exact (HOB.out g rfl).2), HW.out.setCell HGB.out.1 _⟩
        unfold OwnB
        rw [List.length_set, HBS.out, List.map_set, ← u8_succ]
        exact hs1
      case measure => simp [intOf]; omega
    · have x_9 := Lib.hid hx; have L_9 := Lib.hid hl; have W_9 := Lib.hid hb
      clear hx hl hb hown hbs HOB
      go_wp2_with (first | go_skip | (refine wpl_ldN ntNat rfl rfl rfl x_9.out ?_) | (refine wpl_ldN_g ntNat ?hw rfl rfl x_9.out ?_; (case hw => rfl)))
      refine (rfits_ok _ _ L_9.out HSn.out (c := false) (by simp [HFn.out])).mono ?_
      rintro e p10 ⟨rfl, rfl⟩
      go_wp2_with (first | go_skip | (refine wpl_ldN ntNat rfl rfl rfl x_9.out ?_) | (refine wpl_ldN_g ntNat ?hw rfl rfl x_9.out ?_; (case hw => rfl)))
      refine (isZero_zero _).mono ?_
      rintro e p11 ⟨rfl, hb⟩
      have x_11 := Lib.hid (x_9.out.below hb)
      have L_11 := Lib.hid (L_9.out.below hb)
      have W_11 := Lib.hid (W_9.out.trans (hb.mono W_9.out.size))
      clear hb x_9 L_9 W_9
      go_wp2_with (first | go_skip | (refine wpl_ldN ntNat rfl rfl rfl x_11.out ?_) | (refine wpl_ldN_g ntNat ?hw rfl rfl x_11.out ?_; (case hw => rfl)))
      clear x_11
      clear L_11
      refine (parse_full _ HSZ.out HP.out (by rw [HM.out]; exact HFm.out)).mono ?_
      rintro e p12 ⟨rfl, hb⟩
      have XT0_12 := Lib.hid (NatAt.zero p12)
      have XA_12 := Lib.hid (below_zero hb hb.size)
      have hsz_12 : Hid (p11.heap.size ≤ p12.heap.size) := Lib.hid hb.size
      clear hb
      go_wp2_with (first | go_skip | (refine wpl_stN ntNat rfl rfl rfl rfl XT0_12.out ?_; intro q12 hn hg; have XB0_12 := Lib.hid (XA_12.out.grown hg XA_12.out.size (fun j e => by injection e with e; rw [← e]; have := hsz_12.out; omega)); have XS00_12 := Lib.hid hn; have W_12 := Lib.hid (W_11.out.trans (XB0_12.out.mono W_11.out.size)); have y_12 := XS00_12; clear hn hg W_11 XT0_12 XA_12 XS00_12 XB0_12 hsz_12) | (refine wpl_ldN ntNat rfl rfl rfl y_12.out ?_) | (refine wpl_ldN_g ntNat ?hw rfl rfl y_12.out ?_; (case hw => rfl)))
      refine (rparse_yes _ HSZ.out HP.out HM.out).mono ?_
      rintro e p13 ⟨v13, rfl, hv, hb⟩
      have y_13 := Lib.hid (y_12.out.below hb)
      have W_13 := Lib.hid (W_12.out.trans (hb.mono W_12.out.size))
      clear hb y_12 W_12
      have q_13 := Lib.hid hv
      clear hv
      go_wp2_with (first | go_skip | (refine wpl_ldN ntNat rfl rfl rfl y_13.out ?_) | (refine wpl_ldN_g ntNat ?hw rfl rfl y_13.out ?_; (case hw => rfl)))
      refine (rfits_ok _ _ q_13.out HSm.out (c := false) (by simp [HFm.out])).mono ?_
      rintro e p14 ⟨rfl, rfl⟩
      go_wp2_with (first | go_skip | (refine wpl_ldN ntNat rfl rfl rfl y_13.out ?_) | (refine wpl_ldN_g ntNat ?hw rfl rfl y_13.out ?_; (case hw => rfl)))
      refine (isZero_zero _).mono ?_
      rintro e p15 ⟨rfl, hb⟩
      have y_15 := Lib.hid (y_13.out.below hb)
      have q_15 := Lib.hid (q_13.out.below hb)
      have W_15 := Lib.hid (W_13.out.trans (hb.mono W_13.out.size))
      clear hb y_13 q_13 W_13
      go_wp2_with (first | go_skip | (refine wpl_ldN ntNat rfl rfl rfl y_15.out ?_) | (refine wpl_ldN_g ntNat ?hw rfl rfl y_15.out ?_; (case hw => rfl)))
      refine (known_any _).mono ?_
      rintro e p16 ⟨rfl, hb⟩
      have y_16 := Lib.hid (y_15.out.below hb)
      have q_16 := Lib.hid (q_15.out.below hb)
      have W_16 := Lib.hid (W_15.out.trans (hb.mono W_15.out.size))
      clear hb y_15 q_15 W_15
      go_wp2_with (first | go_skip | (refine wpl_ldN ntNat rfl rfl rfl y_16.out ?_) | (refine wpl_ldN_g ntNat ?hw rfl rfl y_16.out ?_; (case hw => rfl)))
      go_ret
      exact ⟨rfl, W_16.out⟩

set_option maxHeartbeats 6400000 in
theorem reads_u_yes (va : Value) (xa : List UInt8) (s : ByteArray) (w : World) (ha : Byt w va xa) (ll0 : xa.length ≤ 200) (ll1 : s.size ≤ 300) (n m : Nat) (hn : numN xa = n) (hf : ¬ Fit n) (hp : okP s.data.toList = true) (hm : numH s.data.toList = m) (hq : Fit m) :
    Calls Try.prog 3 #[va, .string s] w fun e w' => e = .returned (.bool true) ∧ Below w.heap.size w w' := by
  have HA := Lib.hid ha
  obtain ⟨A, c, rfl, -⟩ := ha.len
  have d0 : decide (200 < (xa.length : Int)) = false := decide_eq_false (by omega)
  have d1 : decide (300 < (s.size : Int)) = false := decide_eq_false (by omega)
  have HL : Hid (xa.length ≤ 200) := Lib.hid ll0
  have HLL : Hid (xa.length ≤ lim) := Lib.hid (by unfold lim; omega)
  have HLI : Hid ((xa.length : Int) ≤ 200) := Lib.hid (by omega)
  have HSZ : Hid (s.size ≤ 100000) := Lib.hid (by omega)
  have HSn := Lib.hid (sz_num HL.out)
  rw [hn] at HSn
  have HEn := Lib.hid hn
  have HFn := Lib.hid hf
  have HP := Lib.hid hp
  have HM := Lib.hid hm
  have HFm := Lib.hid hq
  have HSm : Hid (Sz m) := Lib.hid (by rw [← hm]; exact numH_sz ll1 hp)
  clear hm hq
  clear ha hn hf hp ll0 ll1
  go_enter Try.func3, Try.ntmps3
  go_wp2_with (at_builtin; refine wpl_append_b rfl (.tmp 23) (.tmp 24) 22 rfl eiU8 w.heap.size _ [] rfl (own_lit' [] (Nat.le_refl _) rfl rfl (le_lim (by simp))) _ xa rfl (HA.out.below (below_fresh _)) (by simpa using HLL.out) (by simp) ?_; intro A1 c1 w1 hown1 hg1 hat1; have O_0 := Lib.hid hown1; have W_0 : Hid (Below w.heap.size w w1) := Lib.hid ((below_fresh _).trans (below_of_own (own_lit' [] (Nat.le_refl _) rfl rfl (le_lim (by simp))) hg1 (by simp))); clear hown1 hg1 hat1; simp only [List.length_nil, Nat.zero_add, List.nil_append] at O_0 ⊢)
  have A_0 : Hid (Byt w1 (.slice A xa.length c) xa) := Lib.hid (HA.out.below W_0.out)
  clear HA
  have HO0 : Hid (∀ g, (Value.slice A1 xa.length c1).ownBlock = some g → g < w1.heap.size) := Lib.hid (fun g hg => own_lt O_0.out g hg)
  refine (fromBytes_full _ _ (OwnB.byt O_0.out) HL.out (by rw [HEn.out]; exact HFn.out)).mono ?_
  rintro e p1 ⟨rfl, hb⟩
  have HSP : Hid (w1.heap.size ≤ p1.heap.size) := Lib.hid hb.size
  have XT0_1 := Lib.hid (NatAt.zero p1)
  have XA_1 := Lib.hid (below_zero hb hb.size)
  have hsz_1 : Hid (w1.heap.size ≤ p1.heap.size) := Lib.hid hb.size
  clear hb
  go_wp2_with (first | go_skip | (refine wpl_stN ntNat rfl rfl rfl rfl XT0_1.out ?_; intro q1 hn hg; have XB0_1 := Lib.hid (XA_1.out.grown hg XA_1.out.size (fun j e => by injection e with e; rw [← e]; have := hsz_1.out; omega)); have XS00_1 := Lib.hid hn; have O_1 := Lib.hid (O_0.out.below XB0_1.out); have A_1 := Lib.hid (A_0.out.below XB0_1.out); have W_1 := Lib.hid (W_0.out.trans (XB0_1.out.mono W_0.out.size)); have x_1 := XS00_1; clear hn hg O_0 A_0 W_0 XT0_1 XA_1 XS00_1 XB0_1 hsz_1) | (refine wpl_ldN ntNat rfl rfl rfl x_1.out ?_) | (refine wpl_ldN_g ntNat ?hw rfl rfl x_1.out ?_; (case hw => rfl)))
  refine (from_any _ xa _ A_1.out (by have := HL.out; omega)).mono ?_
  rintro e p2 ⟨v2, rfl, hv, hb, ho⟩
  have O_2 := Lib.hid (O_1.out.below hb)
  have A_2 := Lib.hid (A_1.out.below hb)
  have x_2 := Lib.hid (x_1.out.below hb)
  have W_2 := Lib.hid (W_1.out.trans (hb.mono W_1.out.size))
  have L_2 := Lib.hid hv
  rw [HEn.out] at L_2
  have HOB : Hid (∀ g, (Value.slice A1 xa.length c1).ownBlock = some g → g < p1.heap.size ∧ v2.ownBlock ≠ some g) := Lib.hid (fun g hg => by
    have h1 := HO0.out g hg; have h2 := HSP.out; have h3 := x_1.out.lt; exact ⟨by omega, fun h4 => by have := ho g h4; omega⟩)
  clear hb hv ho HO0 HSP O_1 A_1 x_1 W_1
  clear A_2
  go_wp2_with (first | go_skip | (refine wpl_ldN ntNat rfl rfl rfl x_2.out ?_) | (refine wpl_ldN_g ntNat ?hw rfl rfl x_2.out ?_; (case hw => rfl)))
  go_loopw [9] (fun i wr => ∃ (j : Nat) (bs : List UInt8), (j : Int) ≤ 200 ∧ bs.length = xa.length ∧ i = .int .i64 j ∧ OwnB wr w.heap.size (.slice A1 xa.length c1) bs ∧ NatAt wr p1.heap.size 0 ∧ Lst wr v2 n ∧ Below w.heap.size w wr) (fun i _ => 300 - (intOf i).toNat)
  case atStart => exact ⟨0, xa, by omega, rfl, rfl, O_2.out, x_2.out, L_2.out, W_2.out⟩
  case round =>
    obtain ⟨j, bs, hj, hbs, rfl, hown, hx, hl, hb⟩ := hrel
    clear O_2 x_2 L_2 W_2
    by_cases hlt : j < xa.length
    · obtain ⟨g, hA1⟩ : ∃ g, A1 = some ⟨g, 0, none⟩ := own_block hown (by omega)
      subst hA1
      have hown' : wr.ownsRow w.heap.size 5 1 (.slice (some ⟨g, 0, none⟩) xa.length c1) xa.length (bs.map u8v) := hbs ▸ hown
      have hf := hown'.frozenAt j
      have hc := hown'.cellAt j (by omega)
      obtain ⟨x0, hgt⟩ : ∃ x : UInt8, (bs.map u8v)[j]? = some (.int .u8 (x.toNat : Int)) := ⟨bs[j], by rw [List.getElem?_map, List.getElem?_eq_getElem (by omega)]; rfl⟩
      rw [hgt] at hc
      have HX := Lib.hid hx; have HLS := Lib.hid hl; have HW := Lib.hid hb; have HOWN := Lib.hid hown'; have HBS := Lib.hid hbs; have HJ := Lib.hid hj; have HGB := Lib.hid (hown'.lt g rfl)
      clear hx hl hb hown hown' hbs hgt
      go_wp2_with fail
      go_roundw
      case rel =>
        obtain ⟨hs1, hs2⟩ := HOWN.out.stored j (u8v (x0 + 1))
        rw [← u8_succ] at hs1 hs2
        refine ⟨j + 1, bs.set j (x0 + 1), by have := HLI.out; omega, by rw [List.length_set]; exact HBS.out, by go_num, ?_, HX.out.grown hs2 (fun e => by injection e with e; have := (HOB.out g rfl).1; omega), HLS.out.grown hs2 (fun g' e => by injection e with e; rw [← e]; exact (HOB.out g rfl).2), HW.out.setCell HGB.out.1 _⟩
        unfold OwnB
        rw [List.length_set, HBS.out, List.map_set, ← u8_succ]
        exact hs1
      case measure => simp [intOf]; omega
    · have x_9 := Lib.hid hx; have L_9 := Lib.hid hl; have W_9 := Lib.hid hb
      clear hx hl hb hown hbs HOB
      go_wp2_with (first | go_skip | (refine wpl_ldN ntNat rfl rfl rfl x_9.out ?_) | (refine wpl_ldN_g ntNat ?hw rfl rfl x_9.out ?_; (case hw => rfl)))
      refine (rfits_ok _ _ L_9.out HSn.out (c := false) (by simp [HFn.out])).mono ?_
      rintro e p10 ⟨rfl, rfl⟩
      go_wp2_with (first | go_skip | (refine wpl_ldN ntNat rfl rfl rfl x_9.out ?_) | (refine wpl_ldN_g ntNat ?hw rfl rfl x_9.out ?_; (case hw => rfl)))
      refine (isZero_zero _).mono ?_
      rintro e p11 ⟨rfl, hb⟩
      have x_11 := Lib.hid (x_9.out.below hb)
      have L_11 := Lib.hid (L_9.out.below hb)
      have W_11 := Lib.hid (W_9.out.trans (hb.mono W_9.out.size))
      clear hb x_9 L_9 W_9
      go_wp2_with (first | go_skip | (refine wpl_ldN ntNat rfl rfl rfl x_11.out ?_) | (refine wpl_ldN_g ntNat ?hw rfl rfl x_11.out ?_; (case hw => rfl)))
      clear x_11
      clear L_11
      refine (parse_yes _ HSZ.out HP.out HM.out HFm.out).mono ?_
      rintro e p12 ⟨rfl, hb⟩
      have XT0_12 := Lib.hid (NatAt.zero p12)
      have XA_12 := Lib.hid (below_zero hb hb.size)
      have hsz_12 : Hid (p11.heap.size ≤ p12.heap.size) := Lib.hid hb.size
      clear hb
      go_wp2_with (first | go_skip | (refine wpl_stN ntNat rfl rfl rfl rfl XT0_12.out ?_; intro q12 hn hg; have XB0_12 := Lib.hid (XA_12.out.grown hg XA_12.out.size (fun j e => by injection e with e; rw [← e]; have := hsz_12.out; omega)); have XS00_12 := Lib.hid hn; have W_12 := Lib.hid (W_11.out.trans (XB0_12.out.mono W_11.out.size)); have y_12 := XS00_12; clear hn hg W_11 XT0_12 XA_12 XS00_12 XB0_12 hsz_12) | (refine wpl_ldN ntNat rfl rfl rfl y_12.out ?_) | (refine wpl_ldN_g ntNat ?hw rfl rfl y_12.out ?_; (case hw => rfl)))
      refine (rparse_yes _ HSZ.out HP.out HM.out).mono ?_
      rintro e p13 ⟨v13, rfl, hv, hb⟩
      have y_13 := Lib.hid (y_12.out.below hb)
      have W_13 := Lib.hid (W_12.out.trans (hb.mono W_12.out.size))
      clear hb y_12 W_12
      have q_13 := Lib.hid hv
      clear hv
      go_wp2_with (first | go_skip | (refine wpl_ldN ntNat rfl rfl rfl y_13.out ?_) | (refine wpl_ldN_g ntNat ?hw rfl rfl y_13.out ?_; (case hw => rfl)))
      refine (rfits_ok _ _ q_13.out HSm.out (c := true) (by simp [HFm.out])).mono ?_
      rintro e p14 ⟨rfl, rfl⟩
      go_wp2_with (first | go_skip | (refine wpl_ldN ntNat rfl rfl rfl y_13.out ?_) | (refine wpl_ldN_g ntNat ?hw rfl rfl y_13.out ?_; (case hw => rfl)))
      refine (same_ok _ _ HFm.out q_13.out HSm.out (decide_eq_true rfl)).mono ?_
      rintro e p15 ⟨rfl, hb⟩
      have y_15 := Lib.hid (y_13.out.below hb)
      have q_15 := Lib.hid (q_13.out.below hb)
      have W_15 := Lib.hid (W_13.out.trans (hb.mono W_13.out.size))
      clear hb y_13 q_13 W_13
      go_wp2_with (first | go_skip | (refine wpl_ldN ntNat rfl rfl rfl y_15.out ?_) | (refine wpl_ldN_g ntNat ?hw rfl rfl y_15.out ?_; (case hw => rfl)))
      refine (text_back _ HP.out HM.out HFm.out).mono ?_
      rintro e p16 ⟨rfl, hb⟩
      have y_16 := Lib.hid (y_15.out.below hb)
      have q_16 := Lib.hid (q_15.out.below hb)
      have W_16 := Lib.hid (W_15.out.trans (hb.mono W_15.out.size))
      clear hb y_15 q_15 W_15
      go_wp2_with (first | go_skip | (refine wpl_ldN ntNat rfl rfl rfl y_16.out ?_) | (refine wpl_ldN_g ntNat ?hw rfl rfl y_16.out ?_; (case hw => rfl)))
      refine (known_any _).mono ?_
      rintro e p17 ⟨rfl, hb⟩
      have y_17 := Lib.hid (y_16.out.below hb)
      have q_17 := Lib.hid (q_16.out.below hb)
      have W_17 := Lib.hid (W_16.out.trans (hb.mono W_16.out.size))
      clear hb y_16 q_16 W_16
      go_wp2_with (first | go_skip | (refine wpl_ldN ntNat rfl rfl rfl y_17.out ?_) | (refine wpl_ldN_g ntNat ?hw rfl rfl y_17.out ?_; (case hw => rfl)))
      go_ret
      exact ⟨rfl, W_17.out⟩

theorem reads_any (va : Value) (xa : List UInt8) (s : ByteArray) (w : World) (ha : Byt w va xa) (hsz : s.size ≤ maxLen) :
    Calls Try.prog 3 #[va, .string s] w fun e w' => e = .returned (.bool true) ∧ Below w.heap.size w w' := by
  have HA := Lib.hid ha
  obtain ⟨A, c, rfl, -⟩ := ha.len
  clear ha hsz
  by_cases hl0 : 200 < xa.length
  · have d0 : decide (200 < (xa.length : Int)) = true := decide_eq_true (by omega)
    clear hl0
    go_enter Try.func3, Try.ntmps3
    go_wp2_with fail
    refine (known_any w).mono ?_
    rintro e w1 ⟨rfl, hb⟩
    have HB := Lib.hid hb
    clear hb
    go_wp2_with fail
    go_ret
    exact ⟨rfl, HB.out⟩
  · have d0 : decide (200 < (xa.length : Int)) = false := decide_eq_false (by omega)
    have ll0 : xa.length ≤ 200 := by omega
    clear hl0
    by_cases hl1 : 300 < s.size
    · have d1 : decide (300 < (s.size : Int)) = true := decide_eq_true (by omega)
      clear hl1 ll0
      go_enter Try.func3, Try.ntmps3
      go_wp2_with fail
      refine (known_any w).mono ?_
      rintro e w1 ⟨rfl, hb⟩
      have HB := Lib.hid hb
      clear hb
      go_wp2_with fail
      go_ret
      exact ⟨rfl, HB.out⟩
    have ll1 : s.size ≤ 300 := by omega
    clear d0 hl1
    cases hp : okP s.data.toList
    · by_cases hf : Fit (numN xa)
      · exact reads_f_no _ xa s w HA.out ll0 ll1 _ 0 rfl hf hp
      · exact reads_u_no _ xa s w HA.out ll0 ll1 _ 0 rfl hf hp
    · by_cases hf : Fit (numN xa) <;> by_cases hq : Fit (numH s.data.toList)
      · exact reads_f_yes _ xa s w HA.out ll0 ll1 _ _ rfl hf hp rfl hq
      · exact reads_f_full _ xa s w HA.out ll0 ll1 _ _ rfl hf hp rfl hq
      · exact reads_u_yes _ xa s w HA.out ll0 ll1 _ _ rfl hf hp rfl hq
      · exact reads_u_full _ xa s w HA.out ll0 ll1 _ _ rfl hf hp rfl hq

end Go.Proofs.Ytomiapceefbmeaa
