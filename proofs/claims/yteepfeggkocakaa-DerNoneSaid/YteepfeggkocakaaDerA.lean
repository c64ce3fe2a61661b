/- Walks of package der: need, number, value. -/
import Derived.Test.YteepfeggkocakaaBase
import Derived.Test.YteepfeggkocakaaDerSpec
set_option linter.unusedVariables false
set_option linter.unusedSimpArgs false
namespace Go.Proofs.Yteepfeggkocakaa
open Go.RowKit Der

set_option maxHeartbeats 400000 in
theorem need_true (e : Int) (w : World) : Calls Try.prog 71 #[.bool true, .int .i64 e] w fun r w' => r = .returned (.tuple #[]) ∧ w = w' := by
  go_enter Try.func71, Try.ntmps71
  go_wp2
  go_end0
  exact ⟨rfl, rfl⟩
set_option maxHeartbeats 400000 in
theorem need_false (e : Int) (w : World) : Calls Try.prog 71 #[.bool false, .int .i64 e] w fun r w' => r = .panicked [{ v := .iface 37 (.int .i64 e), recovered := false }] ∧ w = w' := by
  go_enter Try.func71, Try.ntmps71
  go_wp2
  exact ⟨rfl, rfl, rfl⟩

theorem pow256 (m : Nat) : (2 : Int) ^ (8 * m) = 256 ^ m := by
  rw [Int.pow_mul]
  rfl

set_option maxHeartbeats 800000 in
theorem number_any (v : Int) (n : Nat) (w : World) (hn : n ≤ 8) :
    Calls Try.prog 57 #[.int .i64 v, .int .i64 n] w (RetB w (numB v n)) := by
  have hn8 : (n : Int) ≤ 8 := by omega
  obtain ⟨i0, hi, hz0, hz1, hz2⟩ := info_parts infoU8
  go_enter Try.func57, Try.ntmps57
  go_wp2_with (refine wpList_make_full _ rfl (.tmp 7) (.tmp 7) 24 rfl w.heap.size 5 i0 (.int .u8 0) 1 Try.underlying24 hi hz0 hz1 .i64 .i64 (n : Int) (n : Int) n rfl rfl rfl rfl (by rw [hz2]; omega) (by unfold maxLen; omega) (Nat.le_refl _) ?_; intro w1 hown1 hg1)
  have hb1 : Below w.heap.size w w1 := below_of_none hg1 (Nat.le_refl _)
  rw [show (madeCells (Value.int .u8 0).cells (n * 1)).toList = (((numB v n).take 0 ++ List.replicate (n - 0) 0).map u8v) from by simp [Value.cells, toList_madeCells_one, u8v]] at hown1
  go_loopw [6, 11] (fun _ i wr => ∃ k : Nat, k ≤ n ∧ i = .int .i64 k ∧ wr.ownsRow w.heap.size 5 1 (.slice (some ⟨w.heap.size, 0, none⟩) n n) n (((numB v n).take k ++ List.replicate (n - k) 0).map u8v) ∧ Below w.heap.size w wr)
    (fun _ i _ => n - (intOf i).toNat)
  case atStart => exact ⟨0, Nat.zero_le _, rfl, hown1, hb1⟩
  case round =>
    obtain ⟨k, hk, rfl, hown, hb⟩ := hrel
    clear hown1 hg1 hb1
    by_cases hlt : k < n
    · have hf := hown.frozenAt k
      have hc := hown.cellAt k (by omega)
      have hgt : (((numB v n).take k ++ List.replicate (n - k) 0).map u8v)[k]? = some (u8v 0) := by
        rw [List.getElem?_map, take_rep_get _ _ _ _ hlt (numB_length v n)]
        rfl
      rw [hgt] at hc
      have HO := Lib.hid hown
      clear hgt hown
      go_wp2
      go_roundw
      case rel =>
        have hs := HO.out.stored k (Value.int .u8 (v / 2 ^ (8 * (n - 1 - k)) % 256))
        refine ⟨k + 1, by omega, by go_num, ?_, hb.setCell (Nat.le_refl _) _⟩
        have e : Value.int .u8 (v / 2 ^ (8 * (n - 1 - k)) % 256) = u8v (byteAt v (n - 1 - k)) := by unfold u8v; rw [byteAt_toNat, pow256]
        have h1 := hs.1
        rw [e, ← List.map_set, take_rep_set _ _ _ _ _ hlt (numB_length v n) (numB_get v n k hlt)] at h1
        rw [e]
        exact h1
      case measure => simp [intOf]; omega
    · go_wp2
      go_ret
      obtain rfl : k = n := by omega
      refine ⟨_, rfl, ?_, hb⟩
      unfold OwnB
      rw [numB_length]
      simpa [List.take_of_length_le (Nat.le_of_eq (numB_length v k))] using hown

theorem or_byte (a b : Int) (ha1 : -36028797018963968 ≤ a) (ha2 : a ≤ 36028797018963967) (hb1 : 0 ≤ b) (hb2 : b ≤ 255) : bits .or .i64 (a * 256) b = a * 256 + b := by
  obtain ⟨n, rfl⟩ := Int.eq_ofNat_of_zero_le hb1
  show IntKind.i64.wrap ((BitVec.ofInt 64 (a * 256) ||| BitVec.ofInt 64 (n : Int)).toNat : Int) = _
  rw [BitVec.toNat_or, BitVec.ofInt_natCast, BitVec.toNat_ofNat, Nat.mod_eq_of_lt (by omega), BitVec.toNat_ofInt, nat_join 8 _ _ (by omega) (by omega), IntKind.wrap_i64]
  omega

theorem bound8 {k : Nat} {x : Int} (hk : k ≤ 7) (h1 : -(128 * 256 ^ (k - 1)) ≤ x) (h2 : x < 128 * 256 ^ (k - 1)) : -36028797018963968 ≤ x ∧ x ≤ 36028797018963967 := by
  have h : (256 : Int) ^ (k - 1) ≤ 256 ^ 6 := by
    have : (256 : Nat) ^ (k - 1) ≤ 256 ^ 6 := Nat.pow_le_pow_right (by decide) (by omega)
    have h2 : ((256 ^ (k - 1) : Nat) : Int) ≤ ((256 ^ 6 : Nat) : Int) := Int.ofNat_le.2 this
    rw [Int.natCast_pow, Int.natCast_pow] at h2
    exact h2
  have e : (256 : Int) ^ 6 = 281474976710656 := by decide
  rw [e] at h
  omega

theorem sgn_take (xs : List UInt8) (k : Nat) (hk : 0 < k) : sgn (xs.take k) = sgn xs := by
  cases xs with
  | nil => simp [sgn]
  | cons x xs =>
    cases k with
    | zero => omega
    | succ k => rfl

theorem ofB_take (s : Int) (xs : List UInt8) (k : Nat) (hk : k < xs.length) : ofB s (xs.take (k + 1)) = ofB s (xs.take k) * 256 + (xs[k].toNat : Int) := by
  rw [List.take_succ_eq_append_getElem hk, ofB_append]
  rfl

/-- The loop of 'value': with any sign s to begin with, such that no shift loses bits. -/
def FitsUp (s : Int) (xs : List UInt8) : Prop := ∀ k, k < xs.length → -36028797018963968 ≤ ofB s (xs.take k) ∧ ofB s (xs.take k) ≤ 36028797018963967

set_option maxHeartbeats 800000 in
theorem value_unsigned (v : Value) (xs : List UInt8) (w : World) (h : Byt w v xs) (hl : xs.length ≤ 8) (hu : FitsUp 0 xs) :
    Calls Try.prog 76 #[v, .bool false] w fun e w' => e = .returned (.int .i64 (ofB 0 xs)) ∧ w = w' := by
  obtain ⟨A, c, rfl, _, _, _⟩ := h.len
  have H := Lib.hid h
  have HU := Lib.hid hu
  clear h hu
  go_enter Try.func76, Try.ntmps76
  go_wp2
  go_loop [4, 6, 22] (fun v _ i => ∃ k : Nat, k ≤ xs.length ∧ i = .int .i64 k ∧ v = .int .i64 (ofB 0 (xs.take k))) (fun _ _ i => xs.length - (intOf i).toNat)
  case atStart => exact ⟨0, Nat.zero_le _, rfl, rfl⟩
  case round =>
    obtain ⟨k, hk, rfl, rfl⟩ := hrel
    by_cases hlt : k < xs.length
    · obtain ⟨b, off, c', hA, _, hc⟩ := H.out.at_ hlt
      injection hA with hA _ hc'
      subst hA hc'
      have hv : (xs[k].toNat : Int) ≤ 255 := by have := xs[k].toNat_lt; omega
      have hb := HU.out k hlt
      obtain ⟨hb1, hb2⟩ := hb
      go_wp2
      go_round
      case rel => exact ⟨k + 1, by omega, by go_num, by rw [or_byte _ _ hb1 hb2 (by omega) hv, ofB_take 0 xs k hlt]⟩
      case measure => simp [intOf]; omega
    · go_wp2
      go_ret
      obtain rfl : k = xs.length := by omega
      exact ⟨by simp, rfl⟩

set_option maxHeartbeats 1600000 in
theorem value_signed (v : Value) (xs : List UInt8) (w : World) (h : Byt w v xs) (hl : xs.length ≤ 8) (hne : xs ≠ []) :
    Calls Try.prog 76 #[v, .bool true] w fun e w' => e = .returned (.int .i64 (ofB (sgn xs) xs)) ∧ w = w' := by
  obtain ⟨A, c, rfl, _, _, _⟩ := h.len
  have hpos : 0 < xs.length := List.length_pos_iff.2 hne
  obtain ⟨b, off, c', hA, _, hc⟩ := h.at_ hpos
  injection hA with hA _ hc'
  subst hA hc'
  rw [Nat.add_zero] at hc
  have hv0 : (xs[0].toNat : Int) ≤ 255 := by have := xs[0].toNat_lt; omega
  have HS : Hid (sgn xs = if xs[0].toNat < 128 then 0 else -1) := by
    cases xs with
    | nil => exact absurd rfl hne
    | cons x xs => rfl
  have HU : Hid (FitsUp (sgn xs) xs) := fun k hk => by
    by_cases h0 : k = 0
    · subst h0
      simp only [List.take_zero, ofB]
      rw [HS.out]
      split <;> omega
    · have h1 := ofB_signed (xs.take k) (List.length_pos_iff.1 (by rw [List.length_take]; omega))
      rw [sgn_take xs k (by omega), List.length_take, Nat.min_eq_left (by omega)] at h1
      exact bound8 (k := k) (by omega) h1.1 h1.2
  have H := Lib.hid h
  clear h hne
  by_cases hs : xs[0].toNat < 128
  all_goals
    first | (have ht : ((xs[0].toNat : Int) / 128 == 1) = false := by simp; omega) | (have ht : ((xs[0].toNat : Int) / 128 == 1) = true := by simp; omega)
    have HS2 := HS.out
    first | rw [if_pos hs] at HS2 | rw [if_neg hs] at HS2
    rw [HS2] at HU ⊢
    clear HS HS2
    go_enter Try.func76, Try.ntmps76
    go_wp2
    clear hc
    go_loop [4, 6, 22] (fun v _ i => ∃ k : Nat, k ≤ xs.length ∧ i = .int .i64 k ∧ v = .int .i64 (ofB _ (xs.take k))) (fun _ _ i => xs.length - (intOf i).toNat)
    case atStart => exact ⟨0, Nat.zero_le _, rfl, rfl⟩
    case round =>
      obtain ⟨k, hk, rfl, rfl⟩ := hrel
      by_cases hlt : k < xs.length
      · obtain ⟨b', off', c', hA, _, hc⟩ := H.out.at_ hlt
        injection hA with hA _ hc'
        injection hA with hA
        injection hA with hA1 hA2
        subst hA1 hA2 hc'
        have hv : (xs[k].toNat : Int) ≤ 255 := by have := xs[k].toNat_lt; omega
        have hb := HU.out k hlt
        obtain ⟨hb1, hb2⟩ := hb
        go_wp2
        go_round
        case rel => exact ⟨k + 1, by omega, by go_num, by rw [or_byte _ _ hb1 hb2 (by omega) hv, ofB_take _ xs k hlt]⟩
        case measure => simp [intOf]; omega
      · go_wp2
        go_ret
        obtain rfl : k = xs.length := by omega
        exact ⟨by simp, rfl⟩

end Go.Proofs.Yteepfeggkocakaa
