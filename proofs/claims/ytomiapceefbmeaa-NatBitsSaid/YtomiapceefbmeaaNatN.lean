/- Walk: Bytes (printed by gennatl.py). · Walk: Text. · Walk: Bit. -/
import Derived.Test.YtomiapceefbmeaaNatK
import Derived.Deep.CutBlock
import Derived.Deep.DeepCutAuto
set_option linter.unusedVariables false
set_option linter.unusedSimpArgs false
set_option maxRecDepth 20000
namespace Go.Proofs.Ytomiapceefbmeaa
open Go.RowKit

/-- The last k bytes of a number, the most significant one first. -/
def natB (a : Nat) : Nat → List UInt8
  | 0 => []
  | k + 1 => UInt8.ofNat (a / 2 ^ (8 * k) % 256) :: natB a k
theorem natB_length (a k : Nat) : (natB a k).length = k := by
  induction k with
  | zero => rfl
  | succ k ih => simp [natB, ih]
/-- The bytes of a number. -/
def bytesN (a : Nat) : List UInt8 := natB a ((bl a + 7) / 8)
theorem rep_set (a n k : Nat) (hk : k < n) : (List.replicate (n - k) 0 ++ natB a k).set (n - 1 - k) (UInt8.ofNat (a / 2 ^ (8 * k) % 256)) = List.replicate (n - (k + 1)) 0 ++ natB a (k + 1) := by
  have e : List.replicate (n - k) (0 : UInt8) = List.replicate (n - (k + 1)) 0 ++ [0] := by
    rw [show n - k = n - (k + 1) + 1 from by omega, List.replicate_succ']
  rw [e, List.append_assoc, List.set_append_right _ _ (by simp; omega), List.length_replicate, show n - 1 - k - (n - (k + 1)) = 0 from by omega]
  rfl
/-- A byte out of a digit. -/
theorem byte_dig (a k : Nat) : dig a (k / 4) / 2 ^ (8 * (k % 4)) % 256 = a / 2 ^ (8 * k) % 256 := by
  have e : 2 ^ (8 * k) = B32 (k / 4) * 2 ^ (8 * (k % 4)) := by
    unfold B32
    rw [← Nat.pow_add]
    congr 1
    omega
  have h3 : k % 4 = 0 ∨ k % 4 = 1 ∨ k % 4 = 2 ∨ k % 4 = 3 := by omega
  rw [e, ← Nat.div_div_eq_div_mul, dig_eq, B1_eq]
  generalize a / B32 (k / 4) = q
  rcases h3 with h | h | h | h <;> rw [h] <;> simp <;> omega

set_option maxHeartbeats 3200000 in
theorem bytes_any (a : Nat) (w : World) (ha : Fit a) :
    Calls Try.prog 45 #[.agg (natA a)] w (RetB w (bytesN a)) := by
  have hbl : (bl a : Int) ≤ 1024 := by have := bl_le (n := a) (k := 32 * 32) ha; omega
  have HF := Lib.hid ha
  clear ha
  have HA : Hid (NatAt (w.alloc (.cells (natA a) 29)) (w.heap.size) (a)) := Lib.hid (by
    have h := NatAt.new w (a) 29
    simpa using h)
  have HW : Hid (Below w.heap.size w (w.alloc (.cells (natA a) 29))) := Lib.hid (by
    have h := Below.refl w.heap.size w
    replace h := h.alloc h.size (.cells (natA a) 29)
    exact h)
  obtain ⟨i0, hi, hz0, hz1, hz2⟩ := info_parts infoU8
  go_enter Try.func45, Try.ntmps45
  go_wp2_with (refine wpl_ldN ntNat rfl rfl rfl HA.out ?_)
  refine (bitLen_any a _ HF.out).mono ?_
  rintro e w2 ⟨rfl, hb2⟩
  have HA2 := Lib.hid (HA.out.below hb2)
  have HW2 := Lib.hid (HW.out.trans (hb2.mono HW.out.size))
  have HBN : Hid (bytesN a = natB a ((bl a + 7) / 8)) := Lib.hid rfl
  obtain ⟨n, hn⟩ : ∃ n, (bl a + 7) / 8 = n := ⟨_, rfl⟩
  have hni : ((bl a : Int) + 8 - 1) / 8 = (n : Int) := by omega
  have hn128 : (n : Int) ≤ 128 := by omega
  have HN := Lib.hid hn
  clear hb2 HA HW hn
  generalize (bl a : Int) = B at *
  go_upto_region 2 with (fail)
  rw [hni]
  go_wp2_with (refine wpList_make_full _ rfl (.tmp 11) (.tmp 11) 22 rfl w2.heap.size 5 i0 (.int .u8 0) 1 Try.underlying22 hi hz0 hz1 .i64 .i64 (n : Int) (n : Int) n rfl rfl rfl rfl (by rw [hz2]; omega) (by unfold maxLen; omega) (Nat.le_refl _) ?_; intro w3 hown3 hg3)
  have hb3 : Below w2.heap.size w2 w3 := below_of_none hg3 (Nat.le_refl _)
  have hown4 : OwnB w3 w2.heap.size (.slice (some ⟨w2.heap.size, 0, none⟩) n n) (List.replicate n 0) := by
    unfold OwnB
    rw [List.length_replicate]
    simpa [Value.cells, toList_madeCells_one, u8v] using hown3
  have HO := Lib.hid hown4
  have HB3 := Lib.hid hb3
  have HA3 := Lib.hid (HA2.out.below hb3)
  have HLT := Lib.hid HA2.out.lt
  clear hown3 hown4 hg3 hb3 hi hz0 hz1 hz2 HA2 hni hbl
  go_wp2_with fail
  go_loopw [5, 15] (fun _ i wr => ∃ (k : Nat), k ≤ n ∧ i = .int .i64 k ∧ OwnB wr w2.heap.size (.slice (some ⟨w2.heap.size, 0, none⟩) n n) (List.replicate (n - k) 0 ++ natB a k) ∧ w3.grownBy wr (some w2.heap.size)) (fun _ i _ => n - (intOf i).toNat)
  case atStart => exact ⟨0, Nat.zero_le _, rfl, by simpa [natB] using HO.out, World.grownBy.refl _ _⟩
  case round =>
    obtain ⟨k, hk, rfl, hown, hg⟩ := hrel
    have HG := Lib.hid hg
    have hlen : (List.replicate (n - k) (0 : UInt8) ++ natB a k).length = n := by rw [List.length_append, List.length_replicate, natB_length]; omega
    clear hg
    by_cases hlt : k < n
    · have hown' : wr.ownsRow w2.heap.size 5 1 (.slice (some ⟨w2.heap.size, 0, none⟩) n n) n ((List.replicate (n - k) (0 : UInt8) ++ natB a k).map u8v) := by
        have h := hown
        unfold OwnB at h
        rw [hlen] at h
        exact h
      have hf := hown'.frozenAt (n - 1 - k)
      have hc := hown'.cellAt (n - 1 - k) (by omega)
      obtain ⟨x0, hgt⟩ : ∃ x : UInt8, ((List.replicate (n - k) (0 : UInt8) ++ natB a k).map u8v)[n - 1 - k]? = some (u8v x) := ⟨_, by rw [List.getElem?_map, List.getElem?_eq_getElem (by omega)]; rfl⟩
      rw [hgt] at hc
      have hA4 := HA3.out.grown HG.out (by have := HLT.out; simp; omega)
      have cd := hA4.cell (show k / 4 < 32 by omega)
      have HOW := Lib.hid hown'
      have e1 : (n : Int) - 1 - (k : Int) = ((n - 1 - k : Nat) : Int) := by omega
      have e4 : (k : Int) / 4 = ((k / 4 : Nat) : Int) := by omega
      have m4 : (k : Int) % 4 = ((k % 4 : Nat) : Int) := by omega
      have b2 : ((k / 4 : Nat) : Int) < 32 := by omega
      have b3 : ((k % 4 : Nat) : Int) < 4 := by omega
      have hki : (k : Int) < (n : Int) := by omega
      have hbd := byte_dig a k
      have HBD := Lib.hid hbd
      clear hgt hown hown' hA4 hlen hbd
      generalize dig a (k / 4) = D at *
      generalize k / 4 = J at *
      generalize k % 4 = M at *
      have hval : Value.int .u8 ((D : Int) / 2 ^ (8 * M) % 256) = u8v (UInt8.ofNat (a / 2 ^ (8 * k) % 256)) := by
        unfold u8v
        rw [UInt8.toNat_ofNat', ← HBD.out]
        have e2 : (D : Int) / 2 ^ (8 * M) = ((D / 2 ^ (8 * M) : Nat) : Int) := by simp
        rw [e2]
        congr 1
        omega
      have HV := Lib.hid hval
      clear hval
      go_wp2_with fail
      go_roundw
      case rel =>
        have hs := HOW.out.stored (n - 1 - k) (Value.int .u8 ((D : Int) / 2 ^ (8 * M) % 256))
        have h1 := hs.1
        rw [HV.out, ← List.map_set, rep_set a n k hlt] at h1
        refine ⟨k + 1, by omega, by go_num, ?_, gb_trans _ _ _ _ HG.out hs.2⟩
        rw [HV.out]
        unfold OwnB
        rw [List.length_append, List.length_replicate, natB_length, show n - (k + 1) + (k + 1) = n from by omega]
        exact h1
      case measure => simp [intOf]; omega
    · obtain rfl : k = n := by omega
      have HX : Hid (OwnB wr w2.heap.size (.slice (some ⟨w2.heap.size, 0, none⟩) k k) (natB a k)) := Lib.hid (by simpa using hown)
      clear hown
      go_wp2_with fail
      go_ret
      rw [HBN.out, HN.out]
      refine ⟨_, rfl, HX.out.mono HW2.out.size, ?_⟩
      exact (HW2.out.trans (HB3.out.mono HW2.out.size)).grown HG.out (Nat.le_trans HW2.out.size HB3.out.size) (fun j e => by injection e with e; have := HW2.out.size; omega)

end Go.Proofs.Ytomiapceefbmeaa

set_option linter.unusedVariables false
set_option linter.unusedSimpArgs false
set_option maxRecDepth 20000
namespace Go.Proofs.Ytomiapceefbmeaa
open Go.RowKit

/-- A hexadecimal digit. -/
def hexC (d : Nat) : UInt8 := if d < 10 then UInt8.ofNat (48 + d) else UInt8.ofNat (87 + d)
/-- The last k hexadecimal digits of a number. -/
def hexB (a : Nat) : Nat → List UInt8
  | 0 => []
  | k + 1 => hexC (a / 2 ^ (4 * k) % 16) :: hexB a k
theorem hexB_length (a k : Nat) : (hexB a k).length = k := by
  induction k with
  | zero => rfl
  | succ k ih => simp [hexB, ih]
/-- The string of a number. -/
def textN (a : Nat) : List UInt8 := hexB a (max 1 ((bl a + 3) / 4))
theorem rep_hex (a n k : Nat) (hk : k < n) : (List.replicate (n - k) 0 ++ hexB a k).set (n - 1 - k) (hexC (a / 2 ^ (4 * k) % 16)) = List.replicate (n - (k + 1)) 0 ++ hexB a (k + 1) := by
  have e : List.replicate (n - k) (0 : UInt8) = List.replicate (n - (k + 1)) 0 ++ [0] := by
    rw [show n - k = n - (k + 1) + 1 from by omega, List.replicate_succ']
  rw [e, List.append_assoc, List.set_append_right _ _ (by simp; omega), List.length_replicate, show n - 1 - k - (n - (k + 1)) = 0 from by omega]
  rfl
/-- A hexadecimal digit out of a digit. -/
theorem hex_dig (a k : Nat) : dig a (k / 8) / 2 ^ (4 * (k % 8)) % 16 = a / 2 ^ (4 * k) % 16 := by
  have e : 2 ^ (4 * k) = B32 (k / 8) * 2 ^ (4 * (k % 8)) := by
    unfold B32
    rw [← Nat.pow_add]
    congr 1
    omega
  have h3 : k % 8 = 0 ∨ k % 8 = 1 ∨ k % 8 = 2 ∨ k % 8 = 3 ∨ k % 8 = 4 ∨ k % 8 = 5 ∨ k % 8 = 6 ∨ k % 8 = 7 := by omega
  rw [e, ← Nat.div_div_eq_div_mul, dig_eq, B1_eq]
  generalize a / B32 (k / 8) = q
  rcases h3 with h | h | h | h | h | h | h | h <;> rw [h] <;> simp <;> omega
theorem and15 (x : Nat) (h : x < 4294967296) : bits .and .u32 (x : Int) 15 = ((x % 16 : Nat) : Int) := by
  have e : (15 : Int) = ((15 : Nat) : Int) := rfl
  rw [e, u32_and_nat _ _ h (by decide)]
  congr 1
  exact Nat.and_two_pow_sub_one_eq_mod x 4

theorem hex_at (d : Nat) (h : d < (ByteArray.mk #[48, 49, 50, 51, 52, 53, 54, 55, 56, 57, 97, 98, 99, 100, 101, 102]).size) :
    Value.int .u8 ((((ByteArray.mk #[48, 49, 50, 51, 52, 53, 54, 55, 56, 57, 97, 98, 99, 100, 101, 102])[d]'h).toNat : Nat) : Int) = u8v (hexC d) := by
  have h16 : d < 16 := h
  have h2 : d = 0 ∨ d = 1 ∨ d = 2 ∨ d = 3 ∨ d = 4 ∨ d = 5 ∨ d = 6 ∨ d = 7 ∨ d = 8 ∨ d = 9 ∨ d = 10 ∨ d = 11 ∨ d = 12 ∨ d = 13 ∨ d = 14 ∨ d = 15 := by omega
  rcases h2 with rfl | rfl | rfl | rfl | rfl | rfl | rfl | rfl | rfl | rfl | rfl | rfl | rfl | rfl | rfl | rfl <;> rfl

set_option maxHeartbeats 3200000 in
theorem text_any (a : Nat) (w : World) (ha : Fit a) :
    Calls Try.prog 17 #[.agg (natA a)] w fun e w' => e = .returned (.string ⟨(textN a).toArray⟩) ∧ Below w.heap.size w w' := by
  have hbl : (bl a : Int) ≤ 1024 := by have := bl_le (n := a) (k := 32 * 32) ha; omega
  have HF := Lib.hid ha
  clear ha
  have HA : Hid (NatAt (w.alloc (.cells (natA a) 29)) (w.heap.size) (a)) := Lib.hid (by
    have h := NatAt.new w (a) 29
    simpa using h)
  have HW : Hid (Below w.heap.size w (w.alloc (.cells (natA a) 29))) := Lib.hid (by
    have h := Below.refl w.heap.size w
    replace h := h.alloc h.size (.cells (natA a) 29)
    exact h)
  obtain ⟨i0, hi, hz0, hz1, hz2⟩ := info_parts infoU8
  go_enter Try.func17, Try.ntmps17
  go_wp2_with (refine wpl_ldN ntNat rfl rfl rfl HA.out ?_)
  refine (bitLen_any a _ HF.out).mono ?_
  rintro e w2 ⟨rfl, hb2⟩
  have HA2 := Lib.hid (HA.out.below hb2)
  have HW2 := Lib.hid (HW.out.trans (hb2.mono HW.out.size))
  have HBN : Hid (textN a = hexB a (max 1 ((bl a + 3) / 4))) := Lib.hid rfl
  obtain ⟨n, hn⟩ : ∃ n, max 1 ((bl a + 3) / 4) = n := ⟨_, rfl⟩
  have hni : max 1 (((bl a : Int) + 3) / 4) = (n : Int) := by omega
  have hb0 : (0 : Int) ≤ (bl a : Int) := by omega
  have hn128 : (n : Int) ≤ 256 := by omega
  have HN := Lib.hid hn
  clear hb2 HA HW hn
  generalize (bl a : Int) = B at *
  go_upto_region 2 with (fail)
  go_wp2_with (refine wpList_make_full _ rfl (.tmp 11) (.tmp 11) 22 rfl w2.heap.size 5 i0 (.int .u8 0) 1 Try.underlying22 hi hz0 hz1 .i64 .i64 (n : Int) (n : Int) n rfl rfl rfl rfl (by rw [hz2]; omega) (by unfold maxLen; omega) (Nat.le_refl _) ?_; intro w3 hown3 hg3)
  have hb3 : Below w2.heap.size w2 w3 := below_of_none hg3 (Nat.le_refl _)
  have hown4 : OwnB w3 w2.heap.size (.slice (some ⟨w2.heap.size, 0, none⟩) n n) (List.replicate n 0) := by
    unfold OwnB
    rw [List.length_replicate]
    simpa [Value.cells, toList_madeCells_one, u8v] using hown3
  have HO := Lib.hid hown4
  have HB3 := Lib.hid hb3
  have HA3 := Lib.hid (HA2.out.below hb3)
  have HLT := Lib.hid HA2.out.lt
  clear hown3 hown4 hg3 hb3 hi hz0 hz1 hz2 HA2 hni hbl
  go_wp2_with fail
  go_loopw [5, 15] (fun _ i wr => ∃ (k : Nat), k ≤ n ∧ i = .int .i64 k ∧ OwnB wr w2.heap.size (.slice (some ⟨w2.heap.size, 0, none⟩) n n) (List.replicate (n - k) 0 ++ hexB a k) ∧ w3.grownBy wr (some w2.heap.size)) (fun _ i _ => n - (intOf i).toNat)
  case atStart => exact ⟨0, Nat.zero_le _, rfl, by simpa [hexB] using HO.out, World.grownBy.refl _ _⟩
  case round =>
    obtain ⟨k, hk, rfl, hown, hg⟩ := hrel
    have HG := Lib.hid hg
    have hlen : (List.replicate (n - k) (0 : UInt8) ++ hexB a k).length = n := by rw [List.length_append, List.length_replicate, hexB_length]; omega
    clear hg
    by_cases hlt : k < n
    · have hown' : wr.ownsRow w2.heap.size 5 1 (.slice (some ⟨w2.heap.size, 0, none⟩) n n) n ((List.replicate (n - k) (0 : UInt8) ++ hexB a k).map u8v) := by
        have h := hown
        unfold OwnB at h
        rw [hlen] at h
        exact h
      have hf := hown'.frozenAt (n - 1 - k)
      have hc := hown'.cellAt (n - 1 - k) (by omega)
      obtain ⟨x0, hgt⟩ : ∃ x : UInt8, ((List.replicate (n - k) (0 : UInt8) ++ hexB a k).map u8v)[n - 1 - k]? = some (u8v x) := ⟨_, by rw [List.getElem?_map, List.getElem?_eq_getElem (by omega)]; rfl⟩
      rw [hgt] at hc
      have hA4 := HA3.out.grown HG.out (by have := HLT.out; simp; omega)
      have cd := hA4.cell (show k / 8 < 32 by omega)
      have HOW := Lib.hid hown'
      have e1 : (n : Int) - 1 - (k : Int) = ((n - 1 - k : Nat) : Int) := by omega
      have e4 : (k : Int) / 8 = ((k / 8 : Nat) : Int) := by omega
      have m4 : (k : Int) % 8 = ((k % 8 : Nat) : Int) := by omega
      have b2 : ((k / 8 : Nat) : Int) < 32 := by omega
      have b3 : ((k % 8 : Nat) : Int) < 8 := by omega
      have hki : (k : Int) < (n : Int) := by omega
      have hbd := hex_dig a k
      have hD : dig a (k / 8) < 4294967296 := by have := dig_lt a (k / 8); omega
      have hand : bits .and .u32 ((dig a (k / 8) : Int) / 2 ^ (4 * (k % 8))) 15 = ((a / 2 ^ (4 * k) % 16 : Nat) : Int) := by
        have e2 : (dig a (k / 8) : Int) / 2 ^ (4 * (k % 8)) = ((dig a (k / 8) / 2 ^ (4 * (k % 8)) : Nat) : Int) := by simp
        rw [e2, and15 _ (Nat.lt_of_le_of_lt (Nat.div_le_self _ _) hD), hbd]
      have hd16 : ((a / 2 ^ (4 * k) % 16 : Nat) : Int) < 16 := by omega
      have RH := Lib.hid (rep_hex a n k hlt)
      clear hgt hown hown' hA4 hlen hbd hD
      generalize a / 2 ^ (4 * k) % 16 = d at *
      generalize dig a (k / 8) = D at *
      generalize k / 8 = J at *
      generalize k % 8 = M at *
      go_wp2_with fail
      go_roundw
      case rel =>
        refine ⟨k + 1, by omega, by go_num, ?_, ?_⟩
        · rw [hex_at d]
          have hs := HOW.out.stored (n - 1 - k) (u8v (hexC d))
          have h1 := hs.1
          rw [← List.map_set, RH.out] at h1
          unfold OwnB
          rw [List.length_append, List.length_replicate, hexB_length, show n - (k + 1) + (k + 1) = n from by omega]
          exact h1
        · rw [hex_at d]
          have hs := HOW.out.stored (n - 1 - k) (u8v (hexC d))
          exact gb_trans _ _ _ _ HG.out hs.2
      case measure => simp [intOf]; omega
    · obtain rfl : k = n := by omega
      have HX : Hid (OwnB wr w2.heap.size (.slice (some ⟨w2.heap.size, 0, none⟩) k k) (hexB a k)) := Lib.hid (by simpa using hown)
      clear hown
      have hst := run_str_of_bytes Try.underlying22 Try.underlying5 Try.underlying9 _ _ HX.out.byt
      go_wp2_with fail
      go_ret
      rw [HBN.out, HN.out]
      refine ⟨rfl, ?_⟩
      exact (HW2.out.trans (HB3.out.mono HW2.out.size)).grown HG.out (Nat.le_trans HW2.out.size HB3.out.size) (fun j e => by injection e with e; have := HW2.out.size; omega)

end Go.Proofs.Ytomiapceefbmeaa

set_option linter.unusedVariables false
set_option linter.unusedSimpArgs false
set_option maxRecDepth 20000
namespace Go.Proofs.Ytomiapceefbmeaa
open Go.RowKit

/-- Bit i of a number. -/
def bitN (a i : Nat) : Bool := decide (a / 2 ^ i % 2 = 1)
/-- What Bit answers. -/
def bitI (a : Nat) (i : Int) : Bool := decide (0 ≤ i) && bitN a i.toNat

theorem bit_dig (a k : Nat) : dig a (k / 32) / 2 ^ (k % 32) % 2 = a / 2 ^ k % 2 := by
  have e : 2 ^ k = B32 (k / 32) * 2 ^ (k % 32) := by
    unfold B32
    rw [← Nat.pow_add]
    congr 1
    omega
  rw [e, ← Nat.div_div_eq_div_mul, dig_eq, B1_eq]
  generalize a / B32 (k / 32) = q
  have h1 : k % 32 < 32 := Nat.mod_lt _ (by decide)
  generalize k % 32 = m at *
  have e2 : 4294967296 = 2 ^ m * (2 ^ (31 - m) * 2) := by
    rw [← Nat.mul_assoc, ← Nat.pow_add, ← Nat.pow_succ, show (m + (31 - m)).succ = 32 from by omega]
  rw [e2, Nat.mod_mul_right_div_self, Nat.mod_mul_left_mod]
theorem and1 (x : Nat) (h : x < 4294967296) : bits .and .u32 (x : Int) 1 = ((x % 2 : Nat) : Int) := by
  have e : (1 : Int) = ((1 : Nat) : Int) := rfl
  rw [e, u32_and_nat _ _ h (by decide)]
  congr 1
  exact Nat.and_two_pow_sub_one_eq_mod x 1
theorem bit_high {a k : Nat} (ha : Fit a) (hk : 1024 ≤ k) : bitN a k = false := by
  have h : a / 2 ^ k = 0 := Nat.div_eq_of_lt (Nat.lt_of_lt_of_le ha (B32_le_pow (by omega)))
  unfold bitN
  rw [h]
  rfl

set_option maxHeartbeats 3200000 in
theorem bit_any (a : Nat) (i : Int) (w : World) (ha : Fit a) :
    Calls Try.prog 28 #[.agg (natA a), .int .i64 i] w fun e w' => e = .returned (.bool (bitI a i)) ∧ Below w.heap.size w w' := by
  have HF := Lib.hid ha
  clear ha
  have HA : Hid (NatAt (w.alloc (.cells (natA a) 29)) (w.heap.size) (a)) := Lib.hid (by
    have h := NatAt.new w (a) 29
    simpa using h)
  have HW : Hid (Below w.heap.size w (w.alloc (.cells (natA a) 29))) := Lib.hid (by
    have h := Below.refl w.heap.size w
    replace h := h.alloc h.size (.cells (natA a) 29)
    exact h)
  by_cases h0 : i < 0
  · have hb : bitI a i = false := by unfold bitI; rw [decide_eq_false (by omega)]; rfl
    have HB := Lib.hid hb
    clear hb
    have hn : ¬ (0 : Int) ≤ i := by omega
    go_enter Try.func28, Try.ntmps28
    go_wp2_with fail
    go_ret
    rw [HB.out]
    exact ⟨rfl, HW.out⟩
  · by_cases h1 : i < 1024
    · obtain ⟨k, rfl⟩ : ∃ k : Nat, i = (k : Int) := ⟨i.toNat, by omega⟩
      have cd := HA.out.cell (show k / 32 < 32 by omega)
      have hD : dig a (k / 32) < 4294967296 := by have := dig_lt a (k / 32); omega
      have hand : bits .and .u32 ((dig a (k / 32) : Int) / 2 ^ (k % 32)) 1 = ((a / 2 ^ k % 2 : Nat) : Int) := by
        have e2 : (dig a (k / 32) : Int) / 2 ^ (k % 32) = ((dig a (k / 32) / 2 ^ (k % 32) : Nat) : Int) := by simp
        rw [e2, and1 _ (Nat.lt_of_le_of_lt (Nat.div_le_self _ _) hD), bit_dig]
      have hb : bitI a (k : Int) = decide (a / 2 ^ k % 2 = 1) := by
        unfold bitI bitN
        rw [decide_eq_true (show (0 : Int) ≤ (k : Int) by omega)]
        rfl
      have HB := Lib.hid hb
      have e4 : (k : Int) / 32 = ((k / 32 : Nat) : Int) := by omega
      have m4 : (k : Int) % 32 = ((k % 32 : Nat) : Int) := by omega
      have b2 : ((k / 32 : Nat) : Int) < 32 := by omega
      have b3 : ((k % 32 : Nat) : Int) < 32 := by omega
      have hd2 : ((a / 2 ^ k % 2 : Nat) : Int) < 2 := by omega
      clear hb hD
      generalize a / 2 ^ k % 2 = d at *
      generalize dig a (k / 32) = D at *
      generalize k / 32 = J at *
      generalize k % 32 = M at *
      go_enter Try.func28, Try.ntmps28
      go_wp2_with fail
      go_ret
      rw [HB.out]
      refine ⟨?_, HW.out⟩
      have h2 : d = 0 ∨ d = 1 := by omega
      rcases h2 with rfl | rfl <;> rfl
    · have hb : bitI a i = false := by unfold bitI; rw [bit_high HF.out (by omega), Bool.and_false]
      have HB := Lib.hid hb
      clear hb
      go_enter Try.func28, Try.ntmps28
      go_wp2_with fail
      go_ret
      rw [HB.out]
      exact ⟨rfl, HW.out⟩

end Go.Proofs.Ytomiapceefbmeaa
