/- Walk: known (printed by gennatii.py). -/
import Derived.Test.YtomiapceefbmeaaNatJJ
import Derived.Test.YtomiapceefbmeaaNatJ
import Derived.Test.YtomiapceefbmeaaNatT
import Derived.Test.YtomiapceefbmeaaNatH
import Derived.BigFrame
set_option linter.unusedVariables false
set_option linter.unusedSimpArgs false
set_option maxRecDepth 20000
namespace Go.Proofs.Ytomiapceefbmeaa
open Go.RowKit

theorem wpl_ldN_g {P : Program} {w : World} {ops : Array Oper} {rest : List Oper} {o : Oper} {a : Act} {Q : Exit → Act → World → Prop} {T : TypeId} (hT : NT P T) (hw : Region.wanted o (yielded ops a.tmps) = true) {x : Operand} (ho : o.op = .load T x)
    {B n : Nat} (hx : a.eval x = .pointer (some ⟨B, 0, none⟩)) (h : NatAt w B n) (hk : wpList P ops Q rest (a.put o.dst (.agg (natA n))) w) : wpList P ops Q (o :: rest) a w :=
  BigFrame.wpList_want hw fun K hK => wp_ld_dig (N := 32) hT ho hx (DAt.of_nat h) (hK _ _ hk)
theorem small_fit {n : Nat} (h : n < 4294967296) : Fit n := Nat.lt_of_lt_of_le h (by
  have e : B32 1 = 4294967296 := B1_eq
  rw [← e]
  exact B32_mono (by decide))
theorem known_top : shlE 1 1023 = 0 ∧ Fit (shlN 1 1023) ∧ ¬ shlN 1 1023 + shlN 1 1023 < B32 32 := by
  have hb : ((bl 1 : Nat) : Int) = 1 := by kernel_rfl
  have e1 : shlE 1 1023 = 0 := by
    unfold shlE
    rw [hb]
    decide
  have e2 : shlN 1 1023 = 2 ^ (1023 : Int).toNat := by
    unfold shlN
    rw [hb, if_neg (by decide), if_neg (by decide), if_neg (by decide), Nat.one_mul]
  obtain ⟨z, hz⟩ : ∃ z, z = (1023 : Int).toNat := ⟨_, rfl⟩
  have hz2 : 32 * 32 = z + 1 := by rw [hz]; rfl
  rw [← hz] at e2
  refine ⟨e1, ?_, ?_⟩
  · rw [e2]
    unfold Fit B32
    rw [hz2]
    exact Nat.pow_lt_pow_right (by decide) (by omega)
  · rw [e2]
    unfold B32
    rw [hz2, Nat.pow_succ]
    omega

set_option maxHeartbeats 3200000 in
set_option maxRecDepth 100000 in
theorem known_any (w : World) : Calls Try.prog 11 #[] w fun e w' => e = .returned (.bool true) ∧ Below w.heap.size w w' := by
  obtain ⟨n256, hc256⟩ : ∃ n : Nat, n = 256 := ⟨_, rfl⟩
  obtain ⟨n257, hc257⟩ : ∃ n : Nat, n = 257 := ⟨_, rfl⟩
  obtain ⟨n1, hc1⟩ : ∃ n : Nat, n = 1 := ⟨_, rfl⟩
  obtain ⟨n1000, hc1000⟩ : ∃ n : Nat, n = 1000 := ⟨_, rfl⟩
  obtain ⟨n7, hc7⟩ : ∃ n : Nat, n = 7 := ⟨_, rfl⟩
  obtain ⟨n142, hc142⟩ : ∃ n : Nat, n = 142 := ⟨_, rfl⟩
  obtain ⟨n6, hc6⟩ : ∃ n : Nat, n = 6 := ⟨_, rfl⟩
  obtain ⟨n255, hc255⟩ : ∃ n : Nat, n = 255 := ⟨_, rfl⟩
  obtain ⟨n12, hc12⟩ : ∃ n : Nat, n = 12 := ⟨_, rfl⟩
  obtain ⟨n18, hc18⟩ : ∃ n : Nat, n = 18 := ⟨_, rfl⟩
  have KB : Hid (∀ W, ∀ v, Byt W v [0, 1, 0] → Calls Try.prog 12 #[v] W fun e w' => e = .returned (.tuple #[.agg (natA n256), .int .i64 0]) ∧ Below W.heap.size W w') := Lib.hid (by
    intro W v h
    have h1 := fromBytes_any v [0, 1, 0] W h (by unfold lim; decide)
    have e : numN [0, 1, 0] = n256 := by rw [hc256]; rfl
    rwa [fromN, fromE, e, if_pos (by rw [hc256]; exact small_fit (by decide)), if_pos (by rw [hc256]; exact small_fit (by decide))] at h1)
  have KI257 : Hid (∀ W, Calls Try.prog 21 #[.int .i64 257] W fun e w' => e = .returned (.tuple #[.agg (natA n257), .int .i64 0]) ∧ Below W.heap.size W w') := Lib.hid (by
    intro W
    have h1 := fromInt_pos 257 W (by decide)
    rw [hc257]
    exact h1)
  have KI1 : Hid (∀ W, Calls Try.prog 21 #[.int .i64 1] W fun e w' => e = .returned (.tuple #[.agg (natA n1), .int .i64 0]) ∧ Below W.heap.size W w') := Lib.hid (by
    intro W
    have h1 := fromInt_pos 1 W (by decide)
    rw [hc1]
    exact h1)
  have KI1000 : Hid (∀ W, Calls Try.prog 21 #[.int .i64 1000] W fun e w' => e = .returned (.tuple #[.agg (natA n1000), .int .i64 0]) ∧ Below W.heap.size W w') := Lib.hid (by
    intro W
    have h1 := fromInt_pos 1000 W (by decide)
    rw [hc1000]
    exact h1)
  have KI7 : Hid (∀ W, Calls Try.prog 21 #[.int .i64 7] W fun e w' => e = .returned (.tuple #[.agg (natA n7), .int .i64 0]) ∧ Below W.heap.size W w') := Lib.hid (by
    intro W
    have h1 := fromInt_pos 7 W (by decide)
    rw [hc7]
    exact h1)
  have KI12 : Hid (∀ W, Calls Try.prog 21 #[.int .i64 12] W fun e w' => e = .returned (.tuple #[.agg (natA n12), .int .i64 0]) ∧ Below W.heap.size W w') := Lib.hid (by
    intro W
    have h1 := fromInt_pos 12 W (by decide)
    rw [hc12]
    exact h1)
  have KI18 : Hid (∀ W, Calls Try.prog 21 #[.int .i64 18] W fun e w' => e = .returned (.tuple #[.agg (natA n18), .int .i64 0]) ∧ Below W.heap.size W w') := Lib.hid (by
    intro W
    have h1 := fromInt_pos 18 W (by decide)
    rw [hc18]
    exact h1)
  have KIM : Hid (∀ W, Calls Try.prog 21 #[.int .i64 (-1)] W fun e w' => e = .returned (.tuple #[.agg (natA 0), .int .i64 2]) ∧ Below W.heap.size W w') := Lib.hid (by
    exact fun W => fromInt_neg (-1) W (by decide))
  have KT : Hid (∀ W, Calls Try.prog 17 #[.agg (natA n256)] W fun e w' => e = .returned (.string ⟨#[49, 48, 48]⟩) ∧ Below W.heap.size W w') := Lib.hid (by
    intro W
    have h1 := text_any n256 W (by rw [hc256]; exact small_fit (by decide))
    rwa [show textN n256 = [49, 48, 48] from by rw [hc256]; kernel_rfl] at h1)
  have KL : Hid (∀ W, Calls Try.prog 26 #[.agg (natA n256)] W fun e w' => e = .returned (.int .i64 9) ∧ Below W.heap.size W w') := Lib.hid (by
    intro W
    have h1 := bitLen_any n256 W (by rw [hc256]; exact small_fit (by decide))
    rwa [show ((bl n256 : Nat) : Int) = 9 from by rw [hc256]; kernel_rfl] at h1)
  have KY : Hid (∀ W, Calls Try.prog 45 #[.agg (natA n256)] W (RetB W [1, 0])) := Lib.hid (by
    intro W
    have h1 := bytes_any n256 W (by rw [hc256]; exact small_fit (by decide))
    rwa [show bytesN n256 = [1, 0] from by rw [hc256]; kernel_rfl] at h1)
  have KS : Hid (∀ W, Calls Try.prog 37 #[.agg (natA n256), .agg (natA n257)] W fun e w' => e = .returned (.tuple #[.agg (natA 0), .int .i64 3]) ∧ Below W.heap.size W w') := Lib.hid (by
    intro W
    have h1 := sub_any n256 n257 W (by rw [hc256]; exact small_fit (by decide)) (by rw [hc257]; exact small_fit (by decide))
    rwa [if_neg (by omega), if_neg (by omega)] at h1)
  obtain ⟨top, htop⟩ : ∃ n : Nat, n = shlN 1 1023 := ⟨_, rfl⟩
  obtain ⟨g1, g2, g3⟩ := known_top
  rw [← htop] at g2 g3
  have KH : Hid (∀ W, Calls Try.prog 40 #[.agg (natA n1), .int .i64 1023] W fun e w' => e = .returned (.tuple #[.agg (natA top), .int .i64 0]) ∧ Below W.heap.size W w') := Lib.hid (by
    intro W
    have h1 := shl_any n1 1023 W (by rw [hc1]; exact small_fit (by decide))
    rw [hc1, ← htop, g1] at h1
    rw [hc1]
    exact h1)
  have KA : Hid (∀ W, Calls Try.prog 36 #[.agg (natA top), .agg (natA top)] W fun e w' => e = .returned (.tuple #[.agg (natA 0), .int .i64 7]) ∧ Below W.heap.size W w') := Lib.hid (by
    intro W
    have h1 := add_any top top W g2 g2
    rwa [if_neg g3, if_neg g3] at h1)
  have KD : Hid (∀ W, Calls Try.prog 33 #[.agg (natA n1000), .agg (natA n7)] W fun e w' => e = .returned (.tuple #[.agg (natA n142), .agg (natA n6), .int .i64 0]) ∧ Below W.heap.size W w') := Lib.hid (by
    intro W
    have h1 := divide_any n1000 n7 W (by rw [hc1000]; exact small_fit (by decide)) (by rw [hc7]; exact small_fit (by decide))
    rwa [show divA n1000 n7 = n142 from by rw [hc1000, hc7, hc142]; rfl, show divR n1000 n7 = n6 from by rw [hc1000, hc7, hc6]; rfl, show divE n7 = 0 from by rw [hc7]; rfl] at h1)
  have KZ : Hid (∀ W, Calls Try.prog 33 #[.agg (natA n1000), .agg z0] W fun e w' => e = .returned (.tuple #[.agg (natA 0), .agg (natA 0), .int .i64 2]) ∧ Below W.heap.size W w') := Lib.hid (by
    intro W
    have h1 := divide_any n1000 0 W (by rw [hc1000]; exact small_fit (by decide)) Fit.zero
    rw [natA_zero] at h1
    exact h1)
  have KN142 : Hid (∀ W, Calls Try.prog 24 #[.agg (natA n142)] W fun e w' => e = .returned (.tuple #[.int .i64 142, .int .i64 0]) ∧ Below W.heap.size W w') := Lib.hid (by
    intro W
    have h1 := int_any n142 W (by rw [hc142]; exact small_fit (by decide))
    rwa [show intN n142 = 142 from by rw [hc142]; rfl, show intE' n142 = 0 from by rw [hc142]; rfl] at h1)
  have KN6 : Hid (∀ W, Calls Try.prog 24 #[.agg (natA n6)] W fun e w' => e = .returned (.tuple #[.int .i64 6, .int .i64 0]) ∧ Below W.heap.size W w') := Lib.hid (by
    intro W
    have h1 := int_any n6 W (by rw [hc6]; exact small_fit (by decide))
    rwa [show intN n6 = 6 from by rw [hc6]; rfl, show intE' n6 = 0 from by rw [hc6]; rfl] at h1)
  have KN255 : Hid (∀ W, Calls Try.prog 24 #[.agg (natA n255)] W fun e w' => e = .returned (.tuple #[.int .i64 255, .int .i64 0]) ∧ Below W.heap.size W w') := Lib.hid (by
    intro W
    have h1 := int_any n255 W (by rw [hc255]; exact small_fit (by decide))
    rwa [show intN n255 = 255 from by rw [hc255]; rfl, show intE' n255 = 0 from by rw [hc255]; rfl] at h1)
  have KPa : Hid (∀ W, Calls Try.prog 19 #[.string ⟨#[102, 102]⟩] W fun e w' => e = .returned (.tuple #[.agg (natA n255), .int .i64 0]) ∧ Below W.heap.size W w') := Lib.hid (by
    intro W
    have h1 := parse_any ⟨#[102, 102]⟩ W (by decide)
    have e1 : parN (ByteArray.mk #[102, 102]).data.toList = n255 := by rw [hc255]; kernel_rfl
    have e2 : parE (ByteArray.mk #[102, 102]).data.toList = 0 := by kernel_rfl
    unfold RetNP at h1
    rwa [e1, e2] at h1)
  have KPb : Hid (∀ W, Calls Try.prog 19 #[.string ⟨#[48, 102]⟩] W fun e w' => e = .returned (.tuple #[.agg (natA 0), .int .i64 6]) ∧ Below W.heap.size W w') := Lib.hid (by
    intro W
    have h1 := parse_any ⟨#[48, 102]⟩ W (by decide)
    have e1 : parN (ByteArray.mk #[48, 102]).data.toList = 0 := by kernel_rfl
    have e2 : parE (ByteArray.mk #[48, 102]).data.toList = 6 := by kernel_rfl
    unfold RetNP at h1
    rwa [e1, e2] at h1)
  have KPc : Hid (∀ W, Calls Try.prog 19 #[.string ⟨#[]⟩] W fun e w' => e = .returned (.tuple #[.agg (natA 0), .int .i64 6]) ∧ Below W.heap.size W w') := Lib.hid (by
    intro W
    have h1 := parse_any ⟨#[]⟩ W (by decide)
    have e1 : parN (ByteArray.mk #[]).data.toList = 0 := by kernel_rfl
    have e2 : parE (ByteArray.mk #[]).data.toList = 6 := by kernel_rfl
    unfold RetNP at h1
    rwa [e1, e2] at h1)
  have KG : Hid (∀ W, Calls Try.prog 31 #[.agg (natA n12), .agg (natA n18)] W fun e w' => e = .returned (.agg (natA n6)) ∧ Below W.heap.size W w') := Lib.hid (by
    intro W
    have h1 := gcd_any n12 n18 W (by rw [hc12]; exact small_fit (by decide)) (by rw [hc18]; exact small_fit (by decide))
    rwa [show Nat.gcd n12 n18 = n6 from by rw [hc12, hc18, hc6]; rfl] at h1)
  have KGZ : Hid (∀ W, Calls Try.prog 31 #[.agg z0, .agg (natA n7)] W fun e w' => e = .returned (.agg (natA n7)) ∧ Below W.heap.size W w') := Lib.hid (by
    intro W
    have h1 := gcd_any 0 n7 W Fit.zero (by rw [hc7]; exact small_fit (by decide))
    rw [natA_zero] at h1
    rwa [Nat.gcd_zero_left] at h1)
  have F7 : Hid (Fit n7) := Lib.hid (by rw [hc7]; exact small_fit (by decide))
  clear hc256 hc257 hc1 hc1000 hc7 hc142 hc6 hc255 hc12 hc18 htop g1 g2 g3
  go_enter Try.func11, Try.ntmps11
  go_wp2_with fail
  have HX : Hid (Byt (w.alloc (.cells #[.int .u8 0, .int .u8 1, .int .u8 0] 5)) (.slice (some ⟨w.heap.size, 0, none⟩) 3 3) [0, 1, 0]) := Lib.hid (by
    refine ⟨some ⟨w.heap.size, 0, none⟩, 3, rfl, Nat.le_refl _, by unfold maxLen; omega, by simp, fun _ => ⟨w.heap.size, 0, rfl, by simp, fun j u hu => ?_⟩⟩
    rw [Nat.zero_add, cell_of_row _ _ _ _ _ (0, 0) (heap_alloc_new _ _), ← hu, ← List.getElem?_toArray]
    rfl)
  have W_0 : Hid (Below w.heap.size w (w.alloc (.cells #[.int .u8 0, .int .u8 1, .int .u8 0] 5))) := Lib.hid ((Below.refl _ _).alloc (Nat.le_refl _) _)
  generalize w.alloc (.cells #[.int .u8 0, .int .u8 1, .int .u8 0] 5) = q0 at HX W_0 ⊢
  refine (KB.out _ _ HX.out).mono ?_
  rintro e p1 ⟨rfl, hb⟩
  have XT_1 : Hid (NatAt (p1.alloc (.cells z0 29)) p1.heap.size 0) := Lib.hid (by have h := NatAt.new p1 0 29; rw [natA_zero] at h; exact h)
  have XA_1 : Hid (Below q0.heap.size q0 (p1.alloc (.cells z0 29))) := Lib.hid (hb.alloc hb.size _)
  have hsz_1 : Hid (q0.heap.size ≤ p1.heap.size) := Lib.hid hb.size
  clear hb
  go_wp2_with (first | (refine wpl_stN ntNat rfl rfl rfl rfl XT_1.out ?_; intro q1 hn hg; have XB_1 := Lib.hid (XA_1.out.grown hg XA_1.out.size (fun j e => by injection e with e; rw [← e]; exact hsz_1.out)); have W_1 := Lib.hid (W_0.out.trans (XB_1.out.mono W_0.out.size)); have A_1 := Lib.hid hn; clear hn hg W_0 XT_1 XA_1 XB_1 hsz_1) | (refine wpl_ldN ntNat rfl rfl rfl A_1.out ?_) | (refine wpl_ldN_g ntNat rfl rfl rfl A_1.out ?_))
  refine (KI257.out _).mono ?_
  rintro e p2 ⟨rfl, hb⟩
  have XT_2 : Hid (NatAt (p2.alloc (.cells z0 29)) p2.heap.size 0) := Lib.hid (by have h := NatAt.new p2 0 29; rw [natA_zero] at h; exact h)
  have XA_2 : Hid (Below q1.heap.size q1 (p2.alloc (.cells z0 29))) := Lib.hid (hb.alloc hb.size _)
  have hsz_2 : Hid (q1.heap.size ≤ p2.heap.size) := Lib.hid hb.size
  clear hb
  go_wp2_with (first | (refine wpl_stN ntNat rfl rfl rfl rfl XT_2.out ?_; intro q2 hn hg; have XB_2 := Lib.hid (XA_2.out.grown hg XA_2.out.size (fun j e => by injection e with e; rw [← e]; exact hsz_2.out)); have A_2 := Lib.hid (A_1.out.below XB_2.out); have W_2 := Lib.hid (W_1.out.trans (XB_2.out.mono W_1.out.size)); have B_2 := Lib.hid hn; clear hn hg A_1 W_1 XT_2 XA_2 XB_2 hsz_2) | (refine wpl_ldN ntNat rfl rfl rfl A_2.out ?_) | (refine wpl_ldN ntNat rfl rfl rfl B_2.out ?_) | (refine wpl_ldN_g ntNat rfl rfl rfl A_2.out ?_) | (refine wpl_ldN_g ntNat rfl rfl rfl B_2.out ?_))
  refine (KIM.out _).mono ?_
  rintro e p3 ⟨rfl, hb⟩
  have XT_3 : Hid (NatAt (p3.alloc (.cells z0 29)) p3.heap.size 0) := Lib.hid (by have h := NatAt.new p3 0 29; rw [natA_zero] at h; exact h)
  have XA_3 : Hid (Below q2.heap.size q2 (p3.alloc (.cells z0 29))) := Lib.hid (hb.alloc hb.size _)
  have hsz_3 : Hid (q2.heap.size ≤ p3.heap.size) := Lib.hid hb.size
  clear hb
  go_wp2_with (first | (refine wpl_stN ntNat rfl rfl rfl rfl XT_3.out ?_; intro q3 hn hg; have XB_3 := Lib.hid (XA_3.out.grown hg XA_3.out.size (fun j e => by injection e with e; rw [← e]; exact hsz_3.out)); have A_3 := Lib.hid (A_2.out.below XB_3.out); have B_3 := Lib.hid (B_2.out.below XB_3.out); have W_3 := Lib.hid (W_2.out.trans (XB_3.out.mono W_2.out.size)); clear hn hg A_2 B_2 W_2 XT_3 XA_3 XB_3 hsz_3) | (refine wpl_ldN ntNat rfl rfl rfl A_3.out ?_) | (refine wpl_ldN ntNat rfl rfl rfl B_3.out ?_) | (refine wpl_ldN_g ntNat rfl rfl rfl A_3.out ?_) | (refine wpl_ldN_g ntNat rfl rfl rfl B_3.out ?_))
  refine (KT.out _).mono ?_
  rintro e p4 ⟨rfl, hb⟩
  have A_4 := Lib.hid (A_3.out.below hb)
  clear A_3
  have B_4 := Lib.hid (B_3.out.below hb)
  clear B_3
  have W_4 := Lib.hid (W_3.out.trans (hb.mono W_3.out.size))
  clear W_3 hb
  go_wp2_with (first | (refine wpl_ldN_g ntNat rfl rfl rfl A_4.out ?_))
  refine (KL.out _).mono ?_
  rintro e p5 ⟨rfl, hb⟩
  have A_5 := Lib.hid (A_4.out.below hb)
  clear A_4
  have B_5 := Lib.hid (B_4.out.below hb)
  clear B_4
  have W_5 := Lib.hid (W_4.out.trans (hb.mono W_4.out.size))
  clear W_4 hb
  go_wp2_with (first | (refine wpl_ldN_g ntNat rfl rfl rfl A_5.out ?_))
  refine (KY.out _).mono ?_
  rintro e p6 ⟨v6, rfl, hv, hb⟩
  have cv := strOf (OwnB.byt hv)
  clear hv
  have A_6 := Lib.hid (A_5.out.below hb)
  clear A_5
  have B_6 := Lib.hid (B_5.out.below hb)
  clear B_5
  have W_6 := Lib.hid (W_5.out.trans (hb.mono W_5.out.size))
  clear W_5 hb
  go_wp2_with (first | (refine wpl_ldN ntNat rfl rfl rfl A_6.out ?_) | (refine wpl_ldN ntNat rfl rfl rfl B_6.out ?_) | (refine wpl_ldN_g ntNat rfl rfl rfl A_6.out ?_) | (refine wpl_ldN_g ntNat rfl rfl rfl B_6.out ?_))
  clear cv
  refine (KS.out _).mono ?_
  rintro e p7 ⟨rfl, hb⟩
  have XT_7 : Hid (NatAt (p7.alloc (.cells z0 29)) p7.heap.size 0) := Lib.hid (by have h := NatAt.new p7 0 29; rw [natA_zero] at h; exact h)
  have XA_7 : Hid (Below p6.heap.size p6 (p7.alloc (.cells z0 29))) := Lib.hid (hb.alloc hb.size _)
  have hsz_7 : Hid (p6.heap.size ≤ p7.heap.size) := Lib.hid hb.size
  clear hb
  go_wp2_with (first | (refine wpl_stN ntNat rfl rfl rfl rfl XT_7.out ?_; intro q7 hn hg; have XB_7 := Lib.hid (XA_7.out.grown hg XA_7.out.size (fun j e => by injection e with e; rw [← e]; exact hsz_7.out)); have A_7 := Lib.hid (A_6.out.below XB_7.out); have B_7 := Lib.hid (B_6.out.below XB_7.out); have W_7 := Lib.hid (W_6.out.trans (XB_7.out.mono W_6.out.size)); clear hn hg A_6 B_6 W_6 XT_7 XA_7 XB_7 hsz_7) | (refine wpl_ldN ntNat rfl rfl rfl A_7.out ?_) | (refine wpl_ldN ntNat rfl rfl rfl B_7.out ?_) | (refine wpl_ldN_g ntNat rfl rfl rfl A_7.out ?_) | (refine wpl_ldN_g ntNat rfl rfl rfl B_7.out ?_))
  refine (KI1.out _).mono ?_
  rintro e p8 ⟨rfl, hb⟩
  have XT_8 : Hid (NatAt (p8.alloc (.cells z0 29)) p8.heap.size 0) := Lib.hid (by have h := NatAt.new p8 0 29; rw [natA_zero] at h; exact h)
  have XA_8 : Hid (Below q7.heap.size q7 (p8.alloc (.cells z0 29))) := Lib.hid (hb.alloc hb.size _)
  have hsz_8 : Hid (q7.heap.size ≤ p8.heap.size) := Lib.hid hb.size
  clear hb
  go_wp2_with (first | (refine wpl_stN ntNat rfl rfl rfl rfl XT_8.out ?_; intro q8 hn hg; have XB_8 := Lib.hid (XA_8.out.grown hg XA_8.out.size (fun j e => by injection e with e; rw [← e]; exact hsz_8.out)); have A_8 := Lib.hid (A_7.out.below XB_8.out); have B_8 := Lib.hid (B_7.out.below XB_8.out); have W_8 := Lib.hid (W_7.out.trans (XB_8.out.mono W_7.out.size)); have C_8 := Lib.hid hn; clear hn hg A_7 B_7 W_7 XT_8 XA_8 XB_8 hsz_8) | (refine wpl_ldN ntNat rfl rfl rfl A_8.out ?_) | (refine wpl_ldN ntNat rfl rfl rfl B_8.out ?_) | (refine wpl_ldN ntNat rfl rfl rfl C_8.out ?_) | (refine wpl_ldN_g ntNat rfl rfl rfl A_8.out ?_) | (refine wpl_ldN_g ntNat rfl rfl rfl B_8.out ?_) | (refine wpl_ldN_g ntNat rfl rfl rfl C_8.out ?_))
  refine (KH.out _).mono ?_
  rintro e p9 ⟨rfl, hb⟩
  have XT_9 : Hid (NatAt (p9.alloc (.cells z0 29)) p9.heap.size 0) := Lib.hid (by have h := NatAt.new p9 0 29; rw [natA_zero] at h; exact h)
  have XA_9 : Hid (Below q8.heap.size q8 (p9.alloc (.cells z0 29))) := Lib.hid (hb.alloc hb.size _)
  have hsz_9 : Hid (q8.heap.size ≤ p9.heap.size) := Lib.hid hb.size
  clear hb
  go_wp2_with (first | (refine wpl_stN ntNat rfl rfl rfl rfl XT_9.out ?_; intro q9 hn hg; have XB_9 := Lib.hid (XA_9.out.grown hg XA_9.out.size (fun j e => by injection e with e; rw [← e]; exact hsz_9.out)); have A_9 := Lib.hid (A_8.out.below XB_9.out); have B_9 := Lib.hid (B_8.out.below XB_9.out); have C_9 := Lib.hid (C_8.out.below XB_9.out); have W_9 := Lib.hid (W_8.out.trans (XB_9.out.mono W_8.out.size)); have D_9 := Lib.hid hn; clear hn hg A_8 B_8 C_8 W_8 XT_9 XA_9 XB_9 hsz_9) | (refine wpl_ldN ntNat rfl rfl rfl A_9.out ?_) | (refine wpl_ldN ntNat rfl rfl rfl B_9.out ?_) | (refine wpl_ldN ntNat rfl rfl rfl C_9.out ?_) | (refine wpl_ldN ntNat rfl rfl rfl D_9.out ?_) | (refine wpl_ldN_g ntNat rfl rfl rfl A_9.out ?_) | (refine wpl_ldN_g ntNat rfl rfl rfl B_9.out ?_) | (refine wpl_ldN_g ntNat rfl rfl rfl C_9.out ?_) | (refine wpl_ldN_g ntNat rfl rfl rfl D_9.out ?_))
  refine (KA.out _).mono ?_
  rintro e p10 ⟨rfl, hb⟩
  have XT_10 : Hid (NatAt (p10.alloc (.cells z0 29)) p10.heap.size 0) := Lib.hid (by have h := NatAt.new p10 0 29; rw [natA_zero] at h; exact h)
  have XA_10 : Hid (Below q9.heap.size q9 (p10.alloc (.cells z0 29))) := Lib.hid (hb.alloc hb.size _)
  have hsz_10 : Hid (q9.heap.size ≤ p10.heap.size) := Lib.hid hb.size
  clear hb
  go_wp2_with (first | (refine wpl_stN ntNat rfl rfl rfl rfl XT_10.out ?_; intro q10 hn hg; have XB_10 := Lib.hid (XA_10.out.grown hg XA_10.out.size (fun j e => by injection e with e; rw [← e]; exact hsz_10.out)); have A_10 := Lib.hid (A_9.out.below XB_10.out); have B_10 := Lib.hid (B_9.out.below XB_10.out); have C_10 := Lib.hid (C_9.out.below XB_10.out); have D_10 := Lib.hid (D_9.out.below XB_10.out); have W_10 := Lib.hid (W_9.out.trans (XB_10.out.mono W_9.out.size)); clear hn hg A_9 B_9 C_9 D_9 W_9 XT_10 XA_10 XB_10 hsz_10) | (refine wpl_ldN ntNat rfl rfl rfl A_10.out ?_) | (refine wpl_ldN ntNat rfl rfl rfl B_10.out ?_) | (refine wpl_ldN ntNat rfl rfl rfl C_10.out ?_) | (refine wpl_ldN ntNat rfl rfl rfl D_10.out ?_) | (refine wpl_ldN_g ntNat rfl rfl rfl A_10.out ?_) | (refine wpl_ldN_g ntNat rfl rfl rfl B_10.out ?_) | (refine wpl_ldN_g ntNat rfl rfl rfl C_10.out ?_) | (refine wpl_ldN_g ntNat rfl rfl rfl D_10.out ?_))
  refine (KI1000.out _).mono ?_
  rintro e p11 ⟨rfl, hb⟩
  have XT_11 : Hid (NatAt (p11.alloc (.cells z0 29)) p11.heap.size 0) := Lib.hid (by have h := NatAt.new p11 0 29; rw [natA_zero] at h; exact h)
  have XA_11 : Hid (Below q10.heap.size q10 (p11.alloc (.cells z0 29))) := Lib.hid (hb.alloc hb.size _)
  have hsz_11 : Hid (q10.heap.size ≤ p11.heap.size) := Lib.hid hb.size
  clear hb
  go_wp2_with (first | (refine wpl_stN ntNat rfl rfl rfl rfl XT_11.out ?_; intro q11 hn hg; have XB_11 := Lib.hid (XA_11.out.grown hg XA_11.out.size (fun j e => by injection e with e; rw [← e]; exact hsz_11.out)); have A_11 := Lib.hid (A_10.out.below XB_11.out); have B_11 := Lib.hid (B_10.out.below XB_11.out); have C_11 := Lib.hid (C_10.out.below XB_11.out); have D_11 := Lib.hid (D_10.out.below XB_11.out); have W_11 := Lib.hid (W_10.out.trans (XB_11.out.mono W_10.out.size)); have E_11 := Lib.hid hn; clear hn hg A_10 B_10 C_10 D_10 W_10 XT_11 XA_11 XB_11 hsz_11) | (refine wpl_ldN ntNat rfl rfl rfl A_11.out ?_) | (refine wpl_ldN ntNat rfl rfl rfl B_11.out ?_) | (refine wpl_ldN ntNat rfl rfl rfl C_11.out ?_) | (refine wpl_ldN ntNat rfl rfl rfl D_11.out ?_) | (refine wpl_ldN ntNat rfl rfl rfl E_11.out ?_) | (refine wpl_ldN_g ntNat rfl rfl rfl A_11.out ?_) | (refine wpl_ldN_g ntNat rfl rfl rfl B_11.out ?_) | (refine wpl_ldN_g ntNat rfl rfl rfl C_11.out ?_) | (refine wpl_ldN_g ntNat rfl rfl rfl D_11.out ?_) | (refine wpl_ldN_g ntNat rfl rfl rfl E_11.out ?_))
  refine (KI7.out _).mono ?_
  rintro e p12 ⟨rfl, hb⟩
  have XT_12 : Hid (NatAt (p12.alloc (.cells z0 29)) p12.heap.size 0) := Lib.hid (by have h := NatAt.new p12 0 29; rw [natA_zero] at h; exact h)
  have XA_12 : Hid (Below q11.heap.size q11 (p12.alloc (.cells z0 29))) := Lib.hid (hb.alloc hb.size _)
  have hsz_12 : Hid (q11.heap.size ≤ p12.heap.size) := Lib.hid hb.size
  clear hb
  go_wp2_with (first | (refine wpl_stN ntNat rfl rfl rfl rfl XT_12.out ?_; intro q12 hn hg; have XB_12 := Lib.hid (XA_12.out.grown hg XA_12.out.size (fun j e => by injection e with e; rw [← e]; exact hsz_12.out)); have A_12 := Lib.hid (A_11.out.below XB_12.out); have B_12 := Lib.hid (B_11.out.below XB_12.out); have C_12 := Lib.hid (C_11.out.below XB_12.out); have D_12 := Lib.hid (D_11.out.below XB_12.out); have E_12 := Lib.hid (E_11.out.below XB_12.out); have W_12 := Lib.hid (W_11.out.trans (XB_12.out.mono W_11.out.size)); have G_12 := Lib.hid hn; clear hn hg A_11 B_11 C_11 D_11 E_11 W_11 XT_12 XA_12 XB_12 hsz_12) | (refine wpl_ldN ntNat rfl rfl rfl A_12.out ?_) | (refine wpl_ldN ntNat rfl rfl rfl B_12.out ?_) | (refine wpl_ldN ntNat rfl rfl rfl C_12.out ?_) | (refine wpl_ldN ntNat rfl rfl rfl D_12.out ?_) | (refine wpl_ldN ntNat rfl rfl rfl E_12.out ?_) | (refine wpl_ldN ntNat rfl rfl rfl G_12.out ?_) | (refine wpl_ldN_g ntNat rfl rfl rfl A_12.out ?_) | (refine wpl_ldN_g ntNat rfl rfl rfl B_12.out ?_) | (refine wpl_ldN_g ntNat rfl rfl rfl C_12.out ?_) | (refine wpl_ldN_g ntNat rfl rfl rfl D_12.out ?_) | (refine wpl_ldN_g ntNat rfl rfl rfl E_12.out ?_) | (refine wpl_ldN_g ntNat rfl rfl rfl G_12.out ?_))
  clear A_12
  clear B_12
  clear C_12
  clear D_12
  refine (KD.out _).mono ?_
  rintro e p13 ⟨rfl, hb⟩
  have XT_13 : Hid (NatAt ((p13.alloc (.cells z0 29)).alloc (.cells z0 29)) p13.heap.size 0) := Lib.hid (by have h := NatAt.new p13 0 29; rw [natA_zero] at h; exact h.alloc _)
  have XU_13 : Hid (NatAt ((p13.alloc (.cells z0 29)).alloc (.cells z0 29)) (p13.heap.size + 1) 0) := Lib.hid (by have h := NatAt.new (p13.alloc (.cells z0 29)) 0 29; rw [natA_zero, World.size_alloc] at h; exact h)
  have XA_13 : Hid (Below q12.heap.size q12 ((p13.alloc (.cells z0 29)).alloc (.cells z0 29))) := Lib.hid ((hb.alloc hb.size _).alloc (by have := hb.size; simp; omega) _)
  have hsz_13 : Hid (q12.heap.size ≤ p13.heap.size) := Lib.hid hb.size
  clear hb
  go_wp2_with (first | (refine wpl_stN ntNat rfl rfl rfl rfl XT_13.out ?_; intro r13 hn hg; have XV_13 := Lib.hid hn; have XX_13 := Lib.hid (XU_13.out.grown hg (by simp)); have XB_13 := Lib.hid (XA_13.out.grown hg XA_13.out.size (fun j e => by injection e with e; rw [← e]; exact hsz_13.out)); clear hn hg XT_13 XU_13 XA_13) | (refine wpl_stN ntNat rfl rfl rfl rfl XX_13.out ?_; intro q13 hn hg; have XC_13 := Lib.hid (XB_13.out.grown hg XB_13.out.size (fun j e => by injection e with e; rw [← e]; have := hsz_13.out; omega)); have E_13 := Lib.hid (E_12.out.below XC_13.out); have G_13 := Lib.hid (G_12.out.below XC_13.out); have W_13 := Lib.hid (W_12.out.trans (XC_13.out.mono W_12.out.size)); have Q_13 := Lib.hid (XV_13.out.grown hg (by simp)); have R_13 := Lib.hid hn; clear hn hg E_12 G_12 W_12 XX_13 XV_13 XB_13 XC_13 hsz_13) | (refine wpl_ldN ntNat rfl rfl rfl E_13.out ?_) | (refine wpl_ldN ntNat rfl rfl rfl G_13.out ?_) | (refine wpl_ldN ntNat rfl rfl rfl Q_13.out ?_) | (refine wpl_ldN ntNat rfl rfl rfl R_13.out ?_) | (refine wpl_ldN_g ntNat rfl rfl rfl E_13.out ?_) | (refine wpl_ldN_g ntNat rfl rfl rfl G_13.out ?_) | (refine wpl_ldN_g ntNat rfl rfl rfl Q_13.out ?_) | (refine wpl_ldN_g ntNat rfl rfl rfl R_13.out ?_))
  refine (KZ.out _).mono ?_
  rintro e p14 ⟨rfl, hb⟩
  have XT_14 : Hid (NatAt ((p14.alloc (.cells z0 29)).alloc (.cells z0 29)) p14.heap.size 0) := Lib.hid (by have h := NatAt.new p14 0 29; rw [natA_zero] at h; exact h.alloc _)
  have XU_14 : Hid (NatAt ((p14.alloc (.cells z0 29)).alloc (.cells z0 29)) (p14.heap.size + 1) 0) := Lib.hid (by have h := NatAt.new (p14.alloc (.cells z0 29)) 0 29; rw [natA_zero, World.size_alloc] at h; exact h)
  have XA_14 : Hid (Below q13.heap.size q13 ((p14.alloc (.cells z0 29)).alloc (.cells z0 29))) := Lib.hid ((hb.alloc hb.size _).alloc (by have := hb.size; simp; omega) _)
  have hsz_14 : Hid (q13.heap.size ≤ p14.heap.size) := Lib.hid hb.size
  clear hb
  go_wp2_with (first | (refine wpl_stN ntNat rfl rfl rfl rfl XT_14.out ?_; intro r14 hn hg; have XV_14 := Lib.hid hn; have XX_14 := Lib.hid (XU_14.out.grown hg (by simp)); have XB_14 := Lib.hid (XA_14.out.grown hg XA_14.out.size (fun j e => by injection e with e; rw [← e]; exact hsz_14.out)); clear hn hg XT_14 XU_14 XA_14) | (refine wpl_stN ntNat rfl rfl rfl rfl XX_14.out ?_; intro q14 hn hg; have XC_14 := Lib.hid (XB_14.out.grown hg XB_14.out.size (fun j e => by injection e with e; rw [← e]; have := hsz_14.out; omega)); have E_14 := Lib.hid (E_13.out.below XC_14.out); have G_14 := Lib.hid (G_13.out.below XC_14.out); have Q_14 := Lib.hid (Q_13.out.below XC_14.out); have R_14 := Lib.hid (R_13.out.below XC_14.out); have W_14 := Lib.hid (W_13.out.trans (XC_14.out.mono W_13.out.size)); clear hn hg E_13 G_13 Q_13 R_13 W_13 XX_14 XV_14 XB_14 XC_14 hsz_14) | (refine wpl_ldN ntNat rfl rfl rfl E_14.out ?_) | (refine wpl_ldN ntNat rfl rfl rfl G_14.out ?_) | (refine wpl_ldN ntNat rfl rfl rfl Q_14.out ?_) | (refine wpl_ldN ntNat rfl rfl rfl R_14.out ?_) | (refine wpl_ldN_g ntNat rfl rfl rfl E_14.out ?_) | (refine wpl_ldN_g ntNat rfl rfl rfl G_14.out ?_) | (refine wpl_ldN_g ntNat rfl rfl rfl Q_14.out ?_) | (refine wpl_ldN_g ntNat rfl rfl rfl R_14.out ?_))
  refine (KN142.out _).mono ?_
  rintro e p15 ⟨rfl, hb⟩
  have E_15 := Lib.hid (E_14.out.below hb)
  clear E_14
  have G_15 := Lib.hid (G_14.out.below hb)
  clear G_14
  have Q_15 := Lib.hid (Q_14.out.below hb)
  clear Q_14
  have R_15 := Lib.hid (R_14.out.below hb)
  clear R_14
  have W_15 := Lib.hid (W_14.out.trans (hb.mono W_14.out.size))
  clear W_14 hb
  go_wp2_with (first | (refine wpl_ldN ntNat rfl rfl rfl E_15.out ?_) | (refine wpl_ldN ntNat rfl rfl rfl G_15.out ?_) | (refine wpl_ldN ntNat rfl rfl rfl Q_15.out ?_) | (refine wpl_ldN ntNat rfl rfl rfl R_15.out ?_) | (refine wpl_ldN_g ntNat rfl rfl rfl E_15.out ?_) | (refine wpl_ldN_g ntNat rfl rfl rfl G_15.out ?_) | (refine wpl_ldN_g ntNat rfl rfl rfl Q_15.out ?_) | (refine wpl_ldN_g ntNat rfl rfl rfl R_15.out ?_))
  refine (KN6.out _).mono ?_
  rintro e p16 ⟨rfl, hb⟩
  have E_16 := Lib.hid (E_15.out.below hb)
  clear E_15
  have G_16 := Lib.hid (G_15.out.below hb)
  clear G_15
  have Q_16 := Lib.hid (Q_15.out.below hb)
  clear Q_15
  have R_16 := Lib.hid (R_15.out.below hb)
  clear R_15
  have W_16 := Lib.hid (W_15.out.trans (hb.mono W_15.out.size))
  clear W_15 hb
  go_wp2_with (first | (refine wpl_ldN ntNat rfl rfl rfl E_16.out ?_) | (refine wpl_ldN ntNat rfl rfl rfl G_16.out ?_) | (refine wpl_ldN ntNat rfl rfl rfl Q_16.out ?_) | (refine wpl_ldN ntNat rfl rfl rfl R_16.out ?_) | (refine wpl_ldN_g ntNat rfl rfl rfl E_16.out ?_) | (refine wpl_ldN_g ntNat rfl rfl rfl G_16.out ?_) | (refine wpl_ldN_g ntNat rfl rfl rfl Q_16.out ?_) | (refine wpl_ldN_g ntNat rfl rfl rfl R_16.out ?_))
  clear E_16
  clear Q_16
  clear R_16
  refine (KPa.out _).mono ?_
  rintro e p17 ⟨rfl, hb⟩
  have XT_17 : Hid (NatAt (p17.alloc (.cells z0 29)) p17.heap.size 0) := Lib.hid (by have h := NatAt.new p17 0 29; rw [natA_zero] at h; exact h)
  have XA_17 : Hid (Below p16.heap.size p16 (p17.alloc (.cells z0 29))) := Lib.hid (hb.alloc hb.size _)
  have hsz_17 : Hid (p16.heap.size ≤ p17.heap.size) := Lib.hid hb.size
  clear hb
  go_wp2_with (first | (refine wpl_stN ntNat rfl rfl rfl rfl XT_17.out ?_; intro q17 hn hg; have XB_17 := Lib.hid (XA_17.out.grown hg XA_17.out.size (fun j e => by injection e with e; rw [← e]; exact hsz_17.out)); have G_17 := Lib.hid (G_16.out.below XB_17.out); have W_17 := Lib.hid (W_16.out.trans (XB_17.out.mono W_16.out.size)); have P_17 := Lib.hid hn; clear hn hg G_16 W_16 XT_17 XA_17 XB_17 hsz_17) | (refine wpl_ldN ntNat rfl rfl rfl G_17.out ?_) | (refine wpl_ldN ntNat rfl rfl rfl P_17.out ?_) | (refine wpl_ldN_g ntNat rfl rfl rfl G_17.out ?_) | (refine wpl_ldN_g ntNat rfl rfl rfl P_17.out ?_))
  refine (KPb.out _).mono ?_
  rintro e p18 ⟨rfl, hb⟩
  have XT_18 : Hid (NatAt (p18.alloc (.cells z0 29)) p18.heap.size 0) := Lib.hid (by have h := NatAt.new p18 0 29; rw [natA_zero] at h; exact h)
  have XA_18 : Hid (Below q17.heap.size q17 (p18.alloc (.cells z0 29))) := Lib.hid (hb.alloc hb.size _)
  have hsz_18 : Hid (q17.heap.size ≤ p18.heap.size) := Lib.hid hb.size
  clear hb
  go_wp2_with (first | (refine wpl_stN ntNat rfl rfl rfl rfl XT_18.out ?_; intro q18 hn hg; have XB_18 := Lib.hid (XA_18.out.grown hg XA_18.out.size (fun j e => by injection e with e; rw [← e]; exact hsz_18.out)); have G_18 := Lib.hid (G_17.out.below XB_18.out); have P_18 := Lib.hid (P_17.out.below XB_18.out); have W_18 := Lib.hid (W_17.out.trans (XB_18.out.mono W_17.out.size)); clear hn hg G_17 P_17 W_17 XT_18 XA_18 XB_18 hsz_18) | (refine wpl_ldN ntNat rfl rfl rfl G_18.out ?_) | (refine wpl_ldN ntNat rfl rfl rfl P_18.out ?_) | (refine wpl_ldN_g ntNat rfl rfl rfl G_18.out ?_) | (refine wpl_ldN_g ntNat rfl rfl rfl P_18.out ?_))
  refine (KPc.out _).mono ?_
  rintro e p19 ⟨rfl, hb⟩
  have XT_19 : Hid (NatAt (p19.alloc (.cells z0 29)) p19.heap.size 0) := Lib.hid (by have h := NatAt.new p19 0 29; rw [natA_zero] at h; exact h)
  have XA_19 : Hid (Below q18.heap.size q18 (p19.alloc (.cells z0 29))) := Lib.hid (hb.alloc hb.size _)
  have hsz_19 : Hid (q18.heap.size ≤ p19.heap.size) := Lib.hid hb.size
  clear hb
  go_wp2_with (first | (refine wpl_stN ntNat rfl rfl rfl rfl XT_19.out ?_; intro q19 hn hg; have XB_19 := Lib.hid (XA_19.out.grown hg XA_19.out.size (fun j e => by injection e with e; rw [← e]; exact hsz_19.out)); have G_19 := Lib.hid (G_18.out.below XB_19.out); have P_19 := Lib.hid (P_18.out.below XB_19.out); have W_19 := Lib.hid (W_18.out.trans (XB_19.out.mono W_18.out.size)); clear hn hg G_18 P_18 W_18 XT_19 XA_19 XB_19 hsz_19) | (refine wpl_ldN ntNat rfl rfl rfl G_19.out ?_) | (refine wpl_ldN ntNat rfl rfl rfl P_19.out ?_) | (refine wpl_ldN_g ntNat rfl rfl rfl G_19.out ?_) | (refine wpl_ldN_g ntNat rfl rfl rfl P_19.out ?_))
  refine (KN255.out _).mono ?_
  rintro e p20 ⟨rfl, hb⟩
  have G_20 := Lib.hid (G_19.out.below hb)
  clear G_19
  have P_20 := Lib.hid (P_19.out.below hb)
  clear P_19
  have W_20 := Lib.hid (W_19.out.trans (hb.mono W_19.out.size))
  clear W_19 hb
  go_wp2_with (first | (refine wpl_ldN ntNat rfl rfl rfl G_20.out ?_) | (refine wpl_ldN ntNat rfl rfl rfl P_20.out ?_) | (refine wpl_ldN_g ntNat rfl rfl rfl G_20.out ?_) | (refine wpl_ldN_g ntNat rfl rfl rfl P_20.out ?_))
  clear P_20
  refine (KI12.out _).mono ?_
  rintro e p21 ⟨rfl, hb⟩
  have XT_21 : Hid (NatAt (p21.alloc (.cells z0 29)) p21.heap.size 0) := Lib.hid (by have h := NatAt.new p21 0 29; rw [natA_zero] at h; exact h)
  have XA_21 : Hid (Below p20.heap.size p20 (p21.alloc (.cells z0 29))) := Lib.hid (hb.alloc hb.size _)
  have hsz_21 : Hid (p20.heap.size ≤ p21.heap.size) := Lib.hid hb.size
  clear hb
  go_wp2_with (first | (refine wpl_stN ntNat rfl rfl rfl rfl XT_21.out ?_; intro q21 hn hg; have XB_21 := Lib.hid (XA_21.out.grown hg XA_21.out.size (fun j e => by injection e with e; rw [← e]; exact hsz_21.out)); have G_21 := Lib.hid (G_20.out.below XB_21.out); have W_21 := Lib.hid (W_20.out.trans (XB_21.out.mono W_20.out.size)); have U_21 := Lib.hid hn; clear hn hg G_20 W_20 XT_21 XA_21 XB_21 hsz_21) | (refine wpl_ldN ntNat rfl rfl rfl G_21.out ?_) | (refine wpl_ldN ntNat rfl rfl rfl U_21.out ?_) | (refine wpl_ldN_g ntNat rfl rfl rfl G_21.out ?_) | (refine wpl_ldN_g ntNat rfl rfl rfl U_21.out ?_))
  refine (KI18.out _).mono ?_
  rintro e p22 ⟨rfl, hb⟩
  have XT_22 : Hid (NatAt (p22.alloc (.cells z0 29)) p22.heap.size 0) := Lib.hid (by have h := NatAt.new p22 0 29; rw [natA_zero] at h; exact h)
  have XA_22 : Hid (Below q21.heap.size q21 (p22.alloc (.cells z0 29))) := Lib.hid (hb.alloc hb.size _)
  have hsz_22 : Hid (q21.heap.size ≤ p22.heap.size) := Lib.hid hb.size
  clear hb
  go_wp2_with (first | (refine wpl_stN ntNat rfl rfl rfl rfl XT_22.out ?_; intro q22 hn hg; have XB_22 := Lib.hid (XA_22.out.grown hg XA_22.out.size (fun j e => by injection e with e; rw [← e]; exact hsz_22.out)); have G_22 := Lib.hid (G_21.out.below XB_22.out); have U_22 := Lib.hid (U_21.out.below XB_22.out); have W_22 := Lib.hid (W_21.out.trans (XB_22.out.mono W_21.out.size)); have V_22 := Lib.hid hn; clear hn hg G_21 U_21 W_21 XT_22 XA_22 XB_22 hsz_22) | (refine wpl_ldN ntNat rfl rfl rfl G_22.out ?_) | (refine wpl_ldN ntNat rfl rfl rfl U_22.out ?_) | (refine wpl_ldN ntNat rfl rfl rfl V_22.out ?_) | (refine wpl_ldN_g ntNat rfl rfl rfl G_22.out ?_) | (refine wpl_ldN_g ntNat rfl rfl rfl U_22.out ?_) | (refine wpl_ldN_g ntNat rfl rfl rfl V_22.out ?_))
  refine (KG.out _).mono ?_
  rintro e p23 ⟨rfl, hb⟩
  have G_23 := Lib.hid (G_22.out.below hb)
  clear G_22
  have U_23 := Lib.hid (U_22.out.below hb)
  clear U_22
  have V_23 := Lib.hid (V_22.out.below hb)
  clear V_22
  have W_23 := Lib.hid (W_22.out.trans (hb.mono W_22.out.size))
  clear W_22 hb
  go_wp2_with (first | (refine wpl_ldN ntNat rfl rfl rfl G_23.out ?_) | (refine wpl_ldN ntNat rfl rfl rfl U_23.out ?_) | (refine wpl_ldN ntNat rfl rfl rfl V_23.out ?_) | (refine wpl_ldN_g ntNat rfl rfl rfl G_23.out ?_) | (refine wpl_ldN_g ntNat rfl rfl rfl U_23.out ?_) | (refine wpl_ldN_g ntNat rfl rfl rfl V_23.out ?_))
  refine (KN6.out _).mono ?_
  rintro e p24 ⟨rfl, hb⟩
  have G_24 := Lib.hid (G_23.out.below hb)
  clear G_23
  have U_24 := Lib.hid (U_23.out.below hb)
  clear U_23
  have V_24 := Lib.hid (V_23.out.below hb)
  clear V_23
  have W_24 := Lib.hid (W_23.out.trans (hb.mono W_23.out.size))
  clear W_23 hb
  go_wp2_with (first | (refine wpl_ldN ntNat rfl rfl rfl G_24.out ?_) | (refine wpl_ldN ntNat rfl rfl rfl U_24.out ?_) | (refine wpl_ldN ntNat rfl rfl rfl V_24.out ?_) | (refine wpl_ldN_g ntNat rfl rfl rfl G_24.out ?_) | (refine wpl_ldN_g ntNat rfl rfl rfl U_24.out ?_) | (refine wpl_ldN_g ntNat rfl rfl rfl V_24.out ?_))
  clear U_24
  clear V_24
  refine region_road Later [(0, true), (1, true), (2, true), (3, true), (4, true), (5, true), (6, true), (7, true), (8, true), (9, true), (10, true), (11, true), (12, true), (13, true), (14, true), (15, true), (16, true), (17, true), (18, true), (19, true), (20, true), (22, true), (21, false), (23, true), (24, true), (25, true)] (by kernel_rfl) (by kernel_rfl) (by kernel_rfl) (by kernel_rfl) (by kernel_rfl) (by kernel_rfl) later_refl later_trans (fun _ _ d _ _ h => by cases d <;> exact h) ?_
  have G_25 := Lib.hid (G_24.out.below ((Below.refl p24.heap.size p24).drew))
  have W_25 := Lib.hid (W_24.out.trans (((Below.refl p24.heap.size p24).drew).mono W_24.out.size))
  clear G_24 W_24
  generalize p24.drew = d25 at G_25 W_25 ⊢
  refine seqR_at (o := ?_) ?_ ?_
  rotate_left
  · (conv => (lhs; whnf; arg 1; whnf))
  refine seqR_y (v := ?_) (by rfl) (fun W hW => ?_) ?_
  rotate_left
  · go_simp; try with_reducible rfl
  try simp only [Act.put, List.setIfInBounds_toArray, List.set_cons_zero, List.set_cons_succ]
  refine seqR_at (o := ?_) ?_ ?_
  rotate_left
  · (conv => (lhs; whnf; arg 1; whnf))
  refine seqR_y (v := ?_) (by rfl) (fun W hW => ?_) ?_
  rotate_left
  · go_simp; try with_reducible rfl
  try simp only [Act.put, List.setIfInBounds_toArray, List.set_cons_zero, List.set_cons_succ]
  refine seqR_at (o := ?_) ?_ ?_
  rotate_left
  · (conv => (lhs; whnf; arg 1; whnf))
  refine seqR_y (v := ?_) (by rfl) (fun W hW => ?_) ?_
  rotate_left
  · go_simp; try with_reducible rfl
  try simp only [Act.put, List.setIfInBounds_toArray, List.set_cons_zero, List.set_cons_succ]
  refine seqR_at (o := ?_) ?_ ?_
  rotate_left
  · (conv => (lhs; whnf; arg 1; whnf))
  refine seqR_y (v := ?_) (by rfl) (fun W hW => ?_) ?_
  rotate_left
  · go_simp; try with_reducible rfl
  try simp only [Act.put, List.setIfInBounds_toArray, List.set_cons_zero, List.set_cons_succ]
  refine seqR_at (o := ?_) ?_ ?_
  rotate_left
  · (conv => (lhs; whnf; arg 1; whnf))
  refine seqR_y (v := ?_) (by rfl) (fun W hW => ?_) ?_
  rotate_left
  · go_simp; try with_reducible rfl
  try simp only [Act.put, List.setIfInBounds_toArray, List.set_cons_zero, List.set_cons_succ]
  refine seqR_at (o := ?_) ?_ ?_
  rotate_left
  · (conv => (lhs; whnf; arg 1; whnf))
  refine seqR_y (v := ?_) (by rfl) (fun W hW => ?_) ?_
  rotate_left
  · go_simp; try with_reducible rfl
  try simp only [Act.put, List.setIfInBounds_toArray, List.set_cons_zero, List.set_cons_succ]
  refine seqR_at (o := ?_) ?_ ?_
  rotate_left
  · (conv => (lhs; whnf; arg 1; whnf))
  refine seqR_y (v := ?_) (by rfl) (fun W hW => ?_) ?_
  rotate_left
  · go_simp; try with_reducible rfl
  try simp only [Act.put, List.setIfInBounds_toArray, List.set_cons_zero, List.set_cons_succ]
  refine seqR_at (o := ?_) ?_ ?_
  rotate_left
  · (conv => (lhs; whnf; arg 1; whnf))
  refine seqR_y (v := ?_) (by rfl) (fun W hW => ?_) ?_
  rotate_left
  · go_simp; try with_reducible rfl
  try simp only [Act.put, List.setIfInBounds_toArray, List.set_cons_zero, List.set_cons_succ]
  refine seqR_at (o := ?_) ?_ ?_
  rotate_left
  · (conv => (lhs; whnf; arg 1; whnf))
  refine seqR_y (v := ?_) (by rfl) (fun W hW => ?_) ?_
  rotate_left
  · go_simp; try with_reducible rfl
  try simp only [Act.put, List.setIfInBounds_toArray, List.set_cons_zero, List.set_cons_succ]
  refine seqR_at (o := ?_) ?_ ?_
  rotate_left
  · (conv => (lhs; whnf; arg 1; whnf))
  refine seqR_y (v := ?_) (by rfl) (fun W hW => ?_) ?_
  rotate_left
  · go_simp; try with_reducible rfl
  try simp only [Act.put, List.setIfInBounds_toArray, List.set_cons_zero, List.set_cons_succ]
  refine seqR_at (o := ?_) ?_ ?_
  rotate_left
  · (conv => (lhs; whnf; arg 1; whnf))
  refine seqR_y (v := ?_) (by rfl) (fun W hW => ?_) ?_
  rotate_left
  · go_simp; try with_reducible rfl
  try simp only [Act.put, List.setIfInBounds_toArray, List.set_cons_zero, List.set_cons_succ]
  refine seqR_at (o := ?_) ?_ ?_
  rotate_left
  · (conv => (lhs; whnf; arg 1; whnf))
  refine seqR_y (v := ?_) (by rfl) (fun W hW => ?_) ?_
  rotate_left
  · go_simp; try with_reducible rfl
  try simp only [Act.put, List.setIfInBounds_toArray, List.set_cons_zero, List.set_cons_succ]
  refine seqR_at (o := ?_) ?_ ?_
  rotate_left
  · (conv => (lhs; whnf; arg 1; whnf))
  refine seqR_y (v := ?_) (by rfl) (fun W hW => ?_) ?_
  rotate_left
  · go_simp; try with_reducible rfl
  try simp only [Act.put, List.setIfInBounds_toArray, List.set_cons_zero, List.set_cons_succ]
  refine seqR_at (o := ?_) ?_ ?_
  rotate_left
  · (conv => (lhs; whnf; arg 1; whnf))
  refine seqR_y (v := ?_) (by rfl) (fun W hW => ?_) ?_
  rotate_left
  · go_simp; try with_reducible rfl
  try simp only [Act.put, List.setIfInBounds_toArray, List.set_cons_zero, List.set_cons_succ]
  refine seqR_at (o := ?_) ?_ ?_
  rotate_left
  · (conv => (lhs; whnf; arg 1; whnf))
  refine seqR_y (v := ?_) (by rfl) (fun W hW => ?_) ?_
  rotate_left
  · go_simp; try with_reducible rfl
  try simp only [Act.put, List.setIfInBounds_toArray, List.set_cons_zero, List.set_cons_succ]
  refine seqR_at (o := ?_) ?_ ?_
  rotate_left
  · (conv => (lhs; whnf; arg 1; whnf))
  refine seqR_y (v := ?_) (by rfl) (fun W hW => ?_) ?_
  rotate_left
  · go_simp; try with_reducible rfl
  try simp only [Act.put, List.setIfInBounds_toArray, List.set_cons_zero, List.set_cons_succ]
  refine seqR_at (o := ?_) ?_ ?_
  rotate_left
  · (conv => (lhs; whnf; arg 1; whnf))
  refine seqR_y (v := ?_) (by rfl) (fun W hW => ?_) ?_
  rotate_left
  · go_simp; try with_reducible rfl
  try simp only [Act.put, List.setIfInBounds_toArray, List.set_cons_zero, List.set_cons_succ]
  refine seqR_at (o := ?_) ?_ ?_
  rotate_left
  · (conv => (lhs; whnf; arg 1; whnf))
  refine seqR_y (v := ?_) (by rfl) (fun W hW => ?_) ?_
  rotate_left
  · go_simp; try with_reducible rfl
  try simp only [Act.put, List.setIfInBounds_toArray, List.set_cons_zero, List.set_cons_succ]
  refine seqR_at (o := ?_) ?_ ?_
  rotate_left
  · (conv => (lhs; whnf; arg 1; whnf))
  refine seqR_y (v := ?_) (by rfl) (fun W hW => ?_) ?_
  rotate_left
  · go_simp; try with_reducible rfl
  try simp only [Act.put, List.setIfInBounds_toArray, List.set_cons_zero, List.set_cons_succ]
  refine seqR_at (o := ?_) ?_ ?_
  rotate_left
  · (conv => (lhs; whnf; arg 1; whnf))
  refine seqR_y (v := ?_) (by rfl) (fun W hW => ?_) ?_
  rotate_left
  · go_simp; try with_reducible rfl
  try simp only [Act.put, List.setIfInBounds_toArray, List.set_cons_zero, List.set_cons_succ]
  refine seqR_at (o := ?_) ?_ ?_
  rotate_left
  · (conv => (lhs; whnf; arg 1; whnf))
  refine seqR_y (v := ?_) (by rfl) (fun W hW => ?_) ?_
  rotate_left
  · (refine exec_ldN (x := .tmp 17) ntNat ?_ ?_ (G_25.out.below hW)) <;> rfl
  try simp only [Act.put, List.setIfInBounds_toArray, List.set_cons_zero, List.set_cons_succ]
  refine seqR_at (o := ?_) ?_ ?_
  rotate_left
  · (conv => (lhs; whnf; arg 1; whnf))
  refine seqR_y (v := ?_) (by rfl) (fun W hW => ?_) ?_
  rotate_left
  · (refine exec_ldN (x := .tmp 17) ntNat ?_ ?_ (G_25.out.below hW)) <;> rfl
  try simp only [Act.put, List.setIfInBounds_toArray, List.set_cons_zero, List.set_cons_succ]
  refine seqR_at (o := ?_) ?_ ?_
  rotate_left
  · (conv => (lhs; whnf; arg 1; whnf))
  refine seqR_c (by rfl) (fun K hK => ?_)
  go_simp
  refine (KGZ.out _).mono ?_
  rintro e p26 ⟨rfl, hb⟩
  have G_26 := Lib.hid (G_25.out.below hb)
  have W_26 := Lib.hid (W_25.out.trans (hb.mono W_25.out.size))
  refine hK _ _ hb ?_
  clear hK K hb G_25 W_25
  try simp only [Act.put, List.setIfInBounds_toArray, List.set_cons_zero, List.set_cons_succ]
  refine seqR_at (o := ?_) ?_ ?_
  rotate_left
  · (conv => (lhs; whnf; arg 1; whnf))
  refine seqR_y (v := ?_) (by rfl) (fun W hW => ?_) ?_
  rotate_left
  · (refine exec_eqN (x := .tmp 214) (y := .tmp 215) (t' := 29) (a := n7) (b := n7) ?_ ?_ ?_ F7.out F7.out) <;> rfl
  simp only [decide_true]
  try simp only [Act.put, List.setIfInBounds_toArray, List.set_cons_zero, List.set_cons_succ]
  refine seqR_at (o := ?_) ?_ ?_
  rotate_left
  · (conv => (lhs; whnf; arg 1; whnf))
  refine seqR_y (v := ?_) (by rfl) (fun W hW => ?_) ?_
  rotate_left
  · go_simp; try with_reducible rfl
  try simp only [Act.put, List.setIfInBounds_toArray, List.set_cons_zero, List.set_cons_succ]
  refine seqR_at (o := ?_) ?_ ?_
  rotate_left
  · (conv => (lhs; whnf; arg 1; whnf))
  refine seqR_y (v := ?_) (by rfl) (fun W hW => ?_) ?_
  rotate_left
  · go_simp; try with_reducible rfl
  try simp only [Act.put, List.setIfInBounds_toArray, List.set_cons_zero, List.set_cons_succ]
  refine seqR_end ?_
  go_wp2_with (first | (refine wpl_ldN ntNat rfl rfl rfl G_26.out ?_) | (refine wpl_ldN_g ntNat rfl rfl rfl G_26.out ?_))
  go_ret
  exact ⟨rfl, W_26.out⟩

end Go.Proofs.Ytomiapceefbmeaa
