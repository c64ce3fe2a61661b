/- Plain: bytes and strings of numbers are inverted. · Walk: same (printed by gennatgg.py). · Walk: made (printed by gennathh.py). -/
import Derived.Test.YtomiapceefbmeaaNatEE
import Derived.Test.YtomiapceefbmeaaNatS
set_option linter.unusedVariables false
set_option linter.unusedSimpArgs false
set_option maxRecDepth 20000
namespace Go.Proofs.Ytomiapceefbmeaa
open Go.RowKit

theorem mod_pow_step (a b k : Nat) : a / 2 ^ k % 2 ^ b * 2 ^ k + a % 2 ^ k = a % 2 ^ (k + b) := by
  rw [Nat.pow_add, Nat.mod_mul, Nat.mul_comm, Nat.add_comm]
theorem numN_natB (a : Nat) : ∀ k, numN (natB a k) = a % 2 ^ (8 * k)
  | 0 => by simp [natB, numN, Nat.mod_one]
  | k + 1 => by
    have h := mod_pow_step a 8 (8 * k)
    have e : (UInt8.ofNat (a / 2 ^ (8 * k) % 256)).toNat = a / 2 ^ (8 * k) % 2 ^ 8 := by simp
    rw [natB, numN, natB_length, numN_natB a k, e, h, Nat.mul_succ]
theorem numN_bytesN (a : Nat) : numN (bytesN a) = a := by
  unfold bytesN
  rw [numN_natB]
  exact Nat.mod_eq_of_lt (Nat.lt_of_lt_of_le (lt_bl a) (Nat.pow_le_pow_right (by decide) (by omega)))
theorem bytesN_inj {a b : Nat} : bytesN a = bytesN b ↔ a = b := by
  constructor
  · intro h
    rw [← numN_bytesN a, h, numN_bytesN]
  · rintro rfl; rfl
theorem bl_fit {n : Nat} : bl n ≤ 1024 ↔ Fit n := by
  constructor
  · intro h
    unfold Fit B32
    generalize hz : 32 * 32 = z
    exact Nat.lt_of_lt_of_le (lt_bl n) (Nat.pow_le_pow_right (by decide) (by omega))
  · intro h
    have h1 := bl_le (n := n) (k := 32 * 32) h
    omega
theorem bytesN_length {a : Nat} (ha : Fit a) : (bytesN a).length ≤ 128 := by
  unfold bytesN
  rw [natB_length]
  have := bl_fit.2 ha
  omega

/-! ### Strings -/
theorem hexI_hexC (d : Nat) (hd : d < 16) : hexI (hexC d) = d := (hexI_iff _ d hd).2 rfl
theorem numH_hexB (a : Nat) : ∀ k, numH (hexB a k) = a % 2 ^ (4 * k)
  | 0 => by simp [hexB, numH, Nat.mod_one]
  | k + 1 => by
    have h := mod_pow_step a 4 (4 * k)
    rw [hexB, numH_cons, hexB_length, numH_hexB a k, hexI_hexC _ (Nat.mod_lt _ (by decide)), show (16 : Nat) = 2 ^ 4 from rfl, h, Nat.mul_succ]
theorem numH_textN (a : Nat) : numH (textN a) = a := by
  unfold textN
  rw [numH_hexB]
  refine Nat.mod_eq_of_lt (Nat.lt_of_lt_of_le (lt_bl a) (Nat.pow_le_pow_right (by decide) ?_))
  omega
theorem allH_hexB (a : Nat) : ∀ k, allH (hexB a k) = true
  | 0 => rfl
  | k + 1 => by
    have h := allH_hexB a k
    unfold allH at *
    rw [hexB, List.all_cons, h, hexI_hexC _ (Nat.mod_lt _ (by decide))]
    simp
    exact Nat.mod_lt _ (by decide)
theorem hexC_48 (d : Nat) (hd : d < 16) : hexC d = 48 ↔ d = 0 := by
  rw [← UInt8.toNat_inj, hexC_toNat d hd, show (48 : UInt8).toNat = 48 from rfl]
  split <;> omega
theorem okP_textN (a : Nat) : okP (textN a) = true := by
  have hall : allH (textN a) = true := allH_hexB _ _
  have hlen : (textN a).length = max 1 ((bl a + 3) / 4) := hexB_length _ _
  unfold okP
  rw [hall, Bool.and_true, Bool.and_eq_true]
  constructor
  · rcases h : textN a with _ | ⟨x, r⟩
    · rw [h] at hlen; simp at hlen; omega
    · rfl
  · by_cases h1 : 1 < (textN a).length
    · have hk : max 1 ((bl a + 3) / 4) = (bl a + 3) / 4 - 1 + 1 := by omega
      have hne : a ≠ 0 := by
        rintro rfl
        have e : bl 0 = 0 := rfl
        rw [e] at hlen
        omega
      have h2 := le_bl hne
      have h3 := lt_bl a
      have h48 : (textN a).head? ≠ some 48 := by
        unfold textN
        rw [hk, hexB, List.head?_cons]
        intro h
        injection h with h
        rw [hexC_48 _ (Nat.mod_lt _ (by decide))] at h
        generalize hj : (bl a + 3) / 4 - 1 = j at *
        have h4 : 2 ^ (4 * j) ≤ a := Nat.le_trans (Nat.pow_le_pow_right (by decide) (by omega)) h2
        have h5 : a / 2 ^ (4 * j) < 16 := by
          rw [Nat.div_lt_iff_lt_mul (Nat.two_pow_pos _), show (16 : Nat) = 2 ^ 4 from rfl, ← Nat.pow_add]
          exact Nat.lt_of_lt_of_le h3 (Nat.pow_le_pow_right (by decide) (by omega))
        have h6 := Nat.div_pos h4 (Nat.two_pow_pos (4 * j))
        rw [Nat.mod_eq_of_lt h5] at h
        omega
      simp [h48]
    · simp [h1]
theorem textN_length {a : Nat} (ha : Fit a) : (textN a).length ≤ 256 := by
  have hlen : (textN a).length = max 1 ((bl a + 3) / 4) := hexB_length _ _
  have := bl_fit.2 ha
  omega
theorem hexB_add (h m : Nat) (j : Nat) : ∀ k, k ≤ j → hexB (h * 2 ^ (4 * j) + m) k = hexB m k
  | 0, _ => rfl
  | k + 1, hk => by
    rw [hexB, hexB, hexB_add h m j k (by omega)]
    congr 2
    have e : h * 2 ^ (4 * j) = 2 ^ (4 * k) * (16 * (h * 2 ^ (4 * (j - (k + 1))))) := by
      have : (2 : Nat) ^ (4 * j) = 2 ^ (4 * k) * (16 * 2 ^ (4 * (j - (k + 1)))) := by
        rw [show (16 : Nat) = 2 ^ 4 from rfl, ← Nat.pow_add, ← Nat.pow_add]
        congr 1
        omega
      rw [this]
      simp only [Nat.mul_left_comm]
    rw [e, Nat.mul_add_div (Nat.two_pow_pos _)]
    omega
theorem hexB_numH : ∀ l : List UInt8, allH l = true → hexB (numH l) l.length = l
  | [], _ => rfl
  | c :: r, h => by
    have h1 : hexI c < 16 := allH_of h (k := 0) (by simp)
    have h2 : allH r = true := allH_drop h 1
    have h3 := numH_lt r h2
    rw [List.length_cons, hexB, numH_cons, hexB_add _ _ _ _ (Nat.le_refl _), hexB_numH r h2, Nat.mul_comm, Nat.mul_add_div (Nat.two_pow_pos _), Nat.div_eq_of_lt h3, Nat.add_zero, Nat.mod_eq_of_lt h1, (hexI_iff c _ h1).1 rfl]
theorem okP_ge {l : List UInt8} (h : okP l = true) (h1 : 1 < l.length) : 2 ^ (4 * (l.length - 1)) ≤ numH l := by
  unfold okP at h
  rw [Bool.and_eq_true, Bool.and_eq_true] at h
  obtain ⟨⟨h2, h3⟩, h4⟩ := h
  rcases l with _ | ⟨c, r⟩
  · simp at h1
  · have h5 : c ≠ 48 := by
      rintro rfl
      have h6 : decide (1 < ((48 : UInt8) :: r).length) = true := decide_eq_true h1
      rw [h6] at h3
      simp at h3
    have h6 : hexI c ≠ 0 := fun h0 => h5 (((hexI_iff c 0 (by decide)).1 h0).symm.trans rfl)
    rw [numH_cons, List.length_cons, Nat.add_sub_cancel]
    have : 1 * 2 ^ (4 * r.length) ≤ hexI c * 2 ^ (4 * r.length) := Nat.mul_le_mul_right _ (by omega)
    omega
theorem okP_all {l : List UInt8} (h : okP l = true) : allH l = true ∧ 1 ≤ l.length := by
  unfold okP at h
  rw [Bool.and_eq_true, Bool.and_eq_true] at h
  obtain ⟨⟨h2, h3⟩, h4⟩ := h
  refine ⟨h4, ?_⟩
  rcases l with _ | ⟨c, r⟩
  · simp at h2
  · simp
theorem textN_numH {l : List UInt8} (h : okP l = true) : textN (numH l) = l := by
  obtain ⟨h1, h2⟩ := okP_all h
  have h3 := numH_lt l h1
  have e : max 1 ((bl (numH l) + 3) / 4) = l.length := by
    have h4 := bl_le h3
    by_cases h5 : 1 < l.length
    · have h6 := okP_ge h h5
      have h7 := lt_bl (numH l)
      have h8 : 4 * (l.length - 1) < bl (numH l) := by
        rcases Nat.lt_or_ge (4 * (l.length - 1)) (bl (numH l)) with h9 | h9
        · exact h9
        · have := Nat.pow_le_pow_right (n := 2) (by decide) h9
          omega
      omega
    · omega
  unfold textN
  rw [e, hexB_numH l h1]
theorem okP_fit {l : List UInt8} (h : okP l = true) : 256 < l.length ↔ ¬ Fit (numH l) := by
  obtain ⟨h1, h2⟩ := okP_all h
  constructor
  · intro h3 h4
    have h5 := okP_ge h (by omega)
    have h6 : B32 32 ≤ 2 ^ (4 * (l.length - 1)) := by unfold B32; generalize hz : 32 * 32 = z; exact Nat.pow_le_pow_right (by decide) (by omega)
    exact absurd (Nat.lt_of_lt_of_le h4 h6) (Nat.not_lt.2 h5)
  · intro h3
    rcases Nat.lt_or_ge 256 l.length with h4 | h4
    · exact h4
    · exact absurd (Nat.lt_of_lt_of_le (numH_lt l h1) (Nat.pow_le_pow_right (by decide) (by omega))) h3
theorem textN_inj {a b : Nat} : textN a = textN b ↔ a = b := by
  constructor
  · intro h
    rw [← numH_textN a, h, numH_textN]
  · rintro rfl; rfl

end Go.Proofs.Ytomiapceefbmeaa

set_option linter.unusedVariables false
set_option linter.unusedSimpArgs false
set_option maxRecDepth 20000
namespace Go.Proofs.Ytomiapceefbmeaa
open Go.RowKit

theorem strOf {w : World} {v : Value} {xs : List UInt8} (h : Byt w v xs) : (convert 22 9 v).run Try.prog w = .ok (.string ⟨xs.toArray⟩) w :=
  run_str_of_bytes Try.underlying22 Try.underlying5 Try.underlying9 v xs h
theorem strLater {w : World} {v : Value} {xs : List UInt8} (h : Byt w v xs) (W : World) (hW : Later w W) : (convert 22 9 v).run Try.prog W = .ok (.string ⟨xs.toArray⟩) W := strOf (h.below hW)
theorem bytes_beq (a n : Nat) : (bytesN a == bytesN n) = decide (a = n) := by
  rw [Bool.eq_iff_iff]
  simp [bytesN_inj]
set_option maxHeartbeats 1600000 in
theorem same_any (a n : Nat) (v : Value) (w : World) (ha : Fit a) (hn : Lst w v n) (hs : Sz n) :
    Calls Try.prog 16 #[.agg (natA a), v] w fun e w' => e = .returned (.bool (decide (a = n))) ∧ Below w.heap.size w w' := by
  have HF := Lib.hid ha
  have HS := Lib.hid hs
  have HA : Hid (NatAt (w.alloc (.cells (natA a) 29)).drew w.heap.size a) := Lib.hid (NatAt.new w a 29)
  have HN1 : Hid (Lst (w.alloc (.cells (natA a) 29)).drew v n) := Lib.hid (Lst.below hn (below_drew' ((Below.refl _ _).alloc (Nat.le_refl _) _) 1))
  have HB1 : Hid (Below w.heap.size w (w.alloc (.cells (natA a) 29)).drew) := Lib.hid (below_drew' ((Below.refl _ _).alloc (Nat.le_refl _) _) 1)
  obtain ⟨A, c, rfl, _⟩ := Its.len hn
  clear ha hn hs
  go_enter Try.func16, Try.ntmps16
  go_wp2_with fail
  refine region_road Later [(0, true), (3, true), (1, false), (2, true), (4, false), (5, true), (6, true), (7, true)] (by kernel_rfl) (by kernel_rfl) (by kernel_rfl) (by kernel_rfl) (by kernel_rfl) (by kernel_rfl) later_refl later_trans (fun _ _ d _ _ h => by cases d <;> exact h) ?_
  generalize (w.alloc (.cells (natA a) 29)).drew = w1 at HA HN1 HB1 ⊢
  refine seqR_at (o := ?_) ?_ ?_
  rotate_left
  · (conv => (lhs; whnf; arg 1; whnf))
  refine seqR_y (v := ?_) (by rfl) (fun W hW => ?_) ?_
  rotate_left
  · (refine exec_ldN (x := .tmp 2) ntNat ?_ ?_ (HA.out.below hW)) <;> rfl
  try simp only [Act.put, List.setIfInBounds_toArray, List.set_cons_zero, List.set_cons_succ]
  refine seqR_at (o := ?_) ?_ ?_
  rotate_left
  · (conv => (lhs; whnf; arg 1; whnf))
  refine seqR_y (v := ?_) (by rfl) (fun W hW => ?_) ?_
  rotate_left
  · go_simp; try with_reducible rfl
  try simp only [Act.put, List.setIfInBounds_toArray, List.set_cons_zero, List.set_cons_succ]
  refine seqR_at (o := ?_) ?_ ?_
  rotate_left
  · (conv => (lhs; whnf; arg 1; whnf))
  refine seqR_c (by rfl) (fun K hK => ?_)
  go_simp
  refine (bytes_any a _ HF.out).mono ?_
  rintro e w2 ⟨v2, rfl, hv2, hb2⟩
  have HV2 := Lib.hid hv2
  have HB2 := Lib.hid (HB1.out.trans (hb2.mono HB1.out.size))
  have HN2 := Lib.hid (HN1.out.below hb2)
  refine hK _ _ hb2 ?_
  clear hb2 hv2 HN1 HB1
  try simp only [Act.put, List.setIfInBounds_toArray, List.set_cons_zero, List.set_cons_succ]
  refine seqR_at (o := ?_) ?_ ?_
  rotate_left
  · (conv => (lhs; whnf; arg 1; whnf))
  refine seqR_y (v := ?_) (by rfl) (fun W hW => ?_) ?_
  rotate_left
  · have h9 := strLater (OwnB.byt HV2.out) W hW; go_simp; try with_reducible rfl
  try simp only [Act.put, List.setIfInBounds_toArray, List.set_cons_zero, List.set_cons_succ]
  refine seqR_at (o := ?_) ?_ ?_
  rotate_left
  · (conv => (lhs; whnf; arg 1; whnf))
  refine seqR_c (by rfl) (fun K hK => ?_)
  go_simp
  refine (rbytes_any _ n _ HN2.out HS.out).mono ?_
  rintro e w3 ⟨v3, rfl, hv3, hb3⟩
  have HV3 := Lib.hid hv3
  have HB3 := Lib.hid (HB2.out.trans (hb3.mono HB2.out.size))
  refine hK _ _ hb3 ?_
  clear hb3 hv3 HN2 HB2
  try simp only [Act.put, List.setIfInBounds_toArray, List.set_cons_zero, List.set_cons_succ]
  refine seqR_at (o := ?_) ?_ ?_
  rotate_left
  · (conv => (lhs; whnf; arg 1; whnf))
  refine seqR_y (v := ?_) (by rfl) (fun W hW => ?_) ?_
  rotate_left
  · have h9 := strLater (OwnB.byt HV3.out) W hW; go_simp; try with_reducible rfl
  try simp only [Act.put, List.setIfInBounds_toArray, List.set_cons_zero, List.set_cons_succ]
  refine seqR_at (o := ?_) ?_ ?_
  rotate_left
  · (conv => (lhs; whnf; arg 1; whnf))
  refine seqR_y (v := ?_) (by rfl) (fun W hW => ?_) ?_
  rotate_left
  · go_simp; try with_reducible rfl
  try simp only [Act.put, List.setIfInBounds_toArray, List.set_cons_zero, List.set_cons_succ]
  refine seqR_at (o := ?_) ?_ ?_
  rotate_left
  · (conv => (lhs; whnf; arg 1; whnf))
  refine seqR_y (v := ?_) (by rfl) (fun W hW => ?_) ?_
  rotate_left
  · go_simp; try with_reducible rfl
  try simp only [Act.put, List.setIfInBounds_toArray, List.set_cons_zero, List.set_cons_succ]
  refine seqR_end ?_
  go_wp2_with fail
  go_ret
  refine ⟨?_, HB3.out⟩
  show Ending.returned (.bool (bytesN a == bytesN n)) = _
  rw [bytes_beq]

end Go.Proofs.Ytomiapceefbmeaa

set_option linter.unusedVariables false
set_option linter.unusedSimpArgs false
set_option maxRecDepth 20000
namespace Go.Proofs.Ytomiapceefbmeaa
open Go.RowKit

theorem Its.grown {w w' : World} {v : Value} {xs : List Int} {row : Option Nat} (h : Its w v xs) (hg : w.grownBy w' row) (hne : ∀ g, row = some g → v.ownBlock ≠ some g) : Its w' v xs := Sl.grown h hg hne
theorem c16_num {xs : List UInt8} (h : xs.length ≤ 200) : c16 (numN xs) ≤ 100 :=
  c16_le (by
    unfold X16
    generalize hz : 16 * 100 = z
    exact Nat.lt_of_lt_of_le (numN_lt xs) (Nat.pow_le_pow_right (by decide) (by omega)))
theorem sz_num {xs : List UInt8} (h : xs.length ≤ 200) : Sz (numN xs) := Nat.le_trans (c16_num h) (by decide)
theorem results_ctt {fn : Func} {p q u : Tmp} (h : fn.results = #[.cell p 29, .tmp q, .tmp u]) (tmps : Array Value) (w : World) {B n : Nat} (hp : tmps.getD p undef = .pointer (some ⟨B, 0, none⟩)) (hn : NatAt w B n) :
    (results fn tmps).run Try.prog w = .ok (.tuple #[.agg (natA n), tmps.getD q undef, tmps.getD u undef]) w := by
  obtain ⟨d, h1, h2, h3⟩ := ntNat
  have e1 := run_loadVar_mid w B 0 29 (natL n) d hn.range h1 h2 (by rw [natL_length]; exact h3)
  have h9 : (results fn tmps).run Try.prog w = ((asAddr (tmps.getD p undef)).run Try.prog w).andThen fun a w₁ => ((loadVar 29 a).run Try.prog w₁).andThen fun v w₂ => .ok (.tuple #[v, tmps.getD q undef, tmps.getD u undef]) w₂ := by
    simp only [results, h]
    simp [Sem.run_bind, Result.andThen]
  rw [h9, hp]
  simp only [asAddr, Sem.run_pure, Result.andThen_ok, e1]
  rfl
def RetM (w : World) (a n : Nat) (b : Bool) (e : Ending) (w' : World) : Prop := ∃ v, e = .returned (.tuple #[.agg (natA a), v, .bool b]) ∧ Lst w' v n ∧ Below w.heap.size w w'
set_option maxHeartbeats 1600000 in
theorem made_fit (v : Value) (xs : List UInt8) (w : World) (hx : Byt w v xs) (hl : xs.length ≤ 200) (hf : Fit (numN xs)) :
    Calls Try.prog 23 #[v] w (RetM w (numN xs) (numN xs) true) := by
  have HS : Hid (Sz (numN xs)) := Lib.hid (sz_num hl)
  have HF := Lib.hid hf
  have HFB : Hid (decide ((bl (numN xs) : Int) ≤ 1024) = true) := Lib.hid (decide_eq_true (by have := bl_fit.2 hf; omega))
  have HFR : Hid (∀ v W, Byt W v xs → Calls Try.prog 12 #[v] W fun e w' => e = .returned (.tuple #[.agg (natA (numN xs)), .int .i64 0]) ∧ Below W.heap.size W w') := Lib.hid (fun v W h => by
    have h1 := fromBytes_any v xs W h (by unfold lim; omega)
    rwa [fromN, fromE, if_pos hf, if_pos hf] at h1)
  have HX0 := Lib.hid hx
  have HLN := Lib.hid hl
  obtain ⟨A, c, rfl, _⟩ := hx.len
  have HZ : Hid (NatAt (w.alloc (.cells z0 29)) (w.heap.size) (0)) := Lib.hid (by
    have h := NatAt.new w (0) 29
    rw [natA_zero] at h
    simpa using h)
  have HW : Hid (Below w.heap.size w (w.alloc (.cells z0 29))) := Lib.hid (by
    have h := Below.refl w.heap.size w
    replace h := h.alloc h.size (.cells z0 29)
    exact h)
  clear hx hl hf
  go_enter Try.func23, Try.ntmps23
  go_wp2_with fail
  have HX := Lib.hid (HX0.out.below ((Below.refl _ _).alloc (Nat.le_refl _) (.cells z0 29)))
  generalize (w.alloc (.cells z0 29)) = w1 at HZ HW HX ⊢
  refine (HFR.out _ _ HX.out).mono ?_
  rintro e w2 ⟨rfl, hb2⟩
  have HT : Hid (NatAt (w2.alloc (.cells z0 29)) w2.heap.size 0) := Lib.hid (by have h := NatAt.new w2 0 29; rw [natA_zero] at h; exact h)
  have HZ2 := Lib.hid ((HZ.out.below hb2).alloc (.cells z0 29))
  have HX2 := Lib.hid ((HX.out.below hb2).alloc (.cells z0 29))
  have hw2 := HW.out.trans (hb2.mono HW.out.size)
  have HW2 := Lib.hid (hw2.alloc hw2.size (.cells z0 29))
  have HSZ : Hid (w.heap.size < w2.heap.size) := Lib.hid (HZ.out.below hb2).lt
  have HXB : Hid (xs = [] ∨ ∀ g, (Value.slice A xs.length c).ownBlock = some g → g < w2.heap.size) := Lib.hid (by
    by_cases h0 : xs = []
    · exact .inl h0
    · exact .inr (fun g hg => Byt.blk (HX.out.below hb2) h0 hg))
  clear HZ HW HX hb2 hw2 HX0
  go_wp2_with (refine wpl_stN ntNat rfl rfl rfl rfl HT.out ?_; intro w3 hn3 hg3; have HN3 := Lib.hid hn3; have HG3 := Lib.hid hg3; clear hn3 hg3)
  have HZ3 := Lib.hid (HZ2.out.grown HG3.out (by have := HSZ.out; simp; omega))
  have HX3 : Hid (Byt w3 (.slice A xs.length c) xs) := Lib.hid (Byt.grown' HX2.out HG3.out (fun h0 g hg => by
    injection hg with hg
    rcases HXB.out with h1 | h1
    · exact absurd h1 h0
    · intro h2
      have := h1 g h2
      omega))
  have HW3 := Lib.hid (HW2.out.grown HG3.out HW2.out.size (fun j e => by injection e with e; have := HSZ.out; omega))
  have HSZ3 : Hid (w2.heap.size < w3.heap.size) := Lib.hid HN3.out.lt
  clear HZ2 HX2 HW2 HT HXB HG3 HFR
  refine (from_any _ xs _ HX3.out (by have := HLN.out; omega)).mono ?_
  rintro e w4 ⟨v4, rfl, hv4, hb4, ho4⟩
  have H2 := Lib.hid (HZ3.out.below hb4).drew
  have H5 := Lib.hid (HN3.out.below hb4).drew
  have HL : Hid (Lst w4.drew v4 (numN xs)) := Lib.hid hv4
  have HB : Hid (Below w.heap.size w w4.drew) := Lib.hid (below_drew' (HW3.out.trans (hb4.mono HW3.out.size)) 1)
  have HNE : Hid (∀ g, some w.heap.size = some g → v4.ownBlock ≠ some g) := Lib.hid (fun g e h => by
    injection e with e
    have := ho4 g h
    have := HSZ.out
    have := HSZ3.out
    omega)
  clear HZ3 HX3 HW3 hb4 ho4 HN3 HSZ3
  obtain ⟨A4, c4, rfl, _⟩ := Its.len hv4
  clear hv4
  go_wp2_with fail
  refine region_road (fun W1 W2 => NatAt W1 w2.heap.size (numN xs) → NatAt W2 w2.heap.size (numN xs)) [(0, true), (1, true), (2, true), (3, true), (4, true), (5, true), (6, false), (7, true), (8, true), (9, true), (10, true), (11, false), (12, true), (13, false), (14, true), (15, true)] (by kernel_rfl) (by kernel_rfl) (by kernel_rfl) (by kernel_rfl) (by kernel_rfl) (by kernel_rfl) (fun _ h => h) (fun _ _ _ f g h => g (f h)) (fun _ _ d _ _ h => by cases d <;> exact h) ?_
  generalize w4.drew = w5 at H2 H5 HL HB ⊢
  refine seqR_at (o := ?_) ?_ ?_
  rotate_left
  · (conv => (lhs; whnf; arg 1; whnf))
  refine seqR_y (v := ?_) (by rfl) (fun W hW => ?_) ?_
  rotate_left
  · (refine exec_ldN (x := .tmp 5) ntNat ?_ ?_ (hW H5.out)) <;> rfl
  try simp only [Act.put, List.setIfInBounds_toArray, List.set_cons_zero, List.set_cons_succ]
  refine seqR_at (o := ?_) ?_ ?_
  rotate_left
  · (conv => (lhs; whnf; arg 1; whnf))
  refine seqR_y (v := ?_) (by rfl) (fun W hW => ?_) ?_
  rotate_left
  · go_simp; try with_reducible rfl
  try simp only [Act.put, List.setIfInBounds_toArray, List.set_cons_zero, List.set_cons_succ]
  refine seqR_at (o := ?_) ?_ ?_
  rotate_left
  · (conv => (lhs; whnf; arg 1; whnf))
  refine seqR_y (v := ?_) (by rfl) (fun W hW => ?_) ?_
  rotate_left
  · go_simp; try with_reducible rfl
  try simp only [Act.put, List.setIfInBounds_toArray, List.set_cons_zero, List.set_cons_succ]
  refine seqR_at (o := ?_) ?_ ?_
  rotate_left
  · (conv => (lhs; whnf; arg 1; whnf))
  refine seqR_y (v := ?_) (by rfl) (fun W hW => ?_) ?_
  rotate_left
  · go_simp; try with_reducible rfl
  try simp only [Act.put, List.setIfInBounds_toArray, List.set_cons_zero, List.set_cons_succ]
  refine seqR_at (o := ?_) ?_ ?_
  rotate_left
  · (conv => (lhs; whnf; arg 1; whnf))
  refine seqR_y (v := ?_) (by rfl) (fun W hW => ?_) ?_
  rotate_left
  · go_simp; try with_reducible rfl
  try simp only [Act.put, List.setIfInBounds_toArray, List.set_cons_zero, List.set_cons_succ]
  refine seqR_at (o := ?_) ?_ ?_
  rotate_left
  · (conv => (lhs; whnf; arg 1; whnf))
  refine seqR_y (v := ?_) (by rfl) (fun W hW => ?_) ?_
  rotate_left
  · go_simp; try with_reducible rfl
  try simp only [Act.put, List.setIfInBounds_toArray, List.set_cons_zero, List.set_cons_succ]
  refine seqR_at (o := ?_) ?_ ?_
  rotate_left
  · (conv => (lhs; whnf; arg 1; whnf))
  refine seqR_c (by rfl) (fun K hK => ?_)
  go_simp
  refine (fits_any _ _ _ HL.out HS.out).mono ?_
  rintro e w5 ⟨rfl, rfl⟩
  rw [HFB.out]
  refine hK _ _ (fun h => h) ?_
  try simp only [Act.put, List.setIfInBounds_toArray, List.set_cons_zero, List.set_cons_succ]
  refine seqR_at (o := ?_) ?_ ?_
  rotate_left
  · (conv => (lhs; whnf; arg 1; whnf))
  refine seqR_y (v := ?_) (by rfl) (fun W hW => ?_) ?_
  rotate_left
  · go_simp; try with_reducible rfl
  try simp only [Act.put, List.setIfInBounds_toArray, List.set_cons_zero, List.set_cons_succ]
  refine seqR_at (o := ?_) ?_ ?_
  rotate_left
  · (conv => (lhs; whnf; arg 1; whnf))
  refine seqR_y (v := ?_) (by rfl) (fun W hW => ?_) ?_
  rotate_left
  · go_simp; try with_reducible rfl
  try simp only [Act.put, List.setIfInBounds_toArray, List.set_cons_zero, List.set_cons_succ]
  refine seqR_at (o := ?_) ?_ ?_
  rotate_left
  · (conv => (lhs; whnf; arg 1; whnf))
  refine seqR_y (v := ?_) (by rfl) (fun W hW => ?_) ?_
  rotate_left
  · (refine exec_ldN (x := .tmp 5) ntNat ?_ ?_ (hW H5.out)) <;> rfl
  try simp only [Act.put, List.setIfInBounds_toArray, List.set_cons_zero, List.set_cons_succ]
  refine seqR_at (o := ?_) ?_ ?_
  rotate_left
  · (conv => (lhs; whnf; arg 1; whnf))
  refine seqR_y (v := ?_) (by rfl) (fun W hW => ?_) ?_
  rotate_left
  · go_simp; try with_reducible rfl
  try simp only [Act.put, List.setIfInBounds_toArray, List.set_cons_zero, List.set_cons_succ]
  refine seqR_at (o := ?_) ?_ ?_
  rotate_left
  · (conv => (lhs; whnf; arg 1; whnf))
  refine seqR_c (by rfl) (fun K hK => ?_)
  go_simp
  refine (same_any _ _ _ _ HF.out HL.out HS.out).mono ?_
  rintro e w6 ⟨rfl, hb6⟩
  rw [decide_eq_true rfl]
  have H26 := Lib.hid (H2.out.below hb6)
  have HL6 := Lib.hid (Lst.below HL.out hb6)
  have HB6 := Lib.hid (HB.out.trans (hb6.mono HB.out.size))
  refine hK _ _ (fun h => NatAt.below h hb6) ?_
  clear hb6 H2 HL HB
  try simp only [Act.put, List.setIfInBounds_toArray, List.set_cons_zero, List.set_cons_succ]
  refine seqR_at (o := ?_) ?_ ?_
  rotate_left
  · (conv => (lhs; whnf; arg 1; whnf))
  refine seqR_y (v := ?_) (by rfl) (fun W hW => ?_) ?_
  rotate_left
  · go_simp; try with_reducible rfl
  try simp only [Act.put, List.setIfInBounds_toArray, List.set_cons_zero, List.set_cons_succ]
  refine seqR_at (o := ?_) ?_ ?_
  rotate_left
  · (conv => (lhs; whnf; arg 1; whnf))
  refine seqR_c (by rfl) (fun K hK => ?_)
  refine wp_st_dig dtNat rfl rfl rfl (DAt.of_nat H26.out) ?_
  intro w7 hd7 hg7
  refine hK _ _ (fun h => NatAt.grown h hg7 (by have := HSZ.out; simp; omega)) ?_
  have R2 := Lib.hid (DAt.nat hd7)
  have RL := Lib.hid (Its.grown HL6.out hg7 HNE.out)
  have RB := Lib.hid (HB6.out.grown hg7 HB6.out.size (fun j e => by injection e with e; omega))
  clear hd7 hg7
  try simp only [Act.put, List.setIfInBounds_toArray, List.set_cons_zero, List.set_cons_succ]
  refine seqR_at (o := ?_) ?_ ?_
  rotate_left
  · (conv => (lhs; whnf; arg 1; whnf))
  refine seqR_y (v := ?_) (by rfl) (fun W hW => ?_) ?_
  rotate_left
  · go_simp; try with_reducible rfl
  try simp only [Act.put, List.setIfInBounds_toArray, List.set_cons_zero, List.set_cons_succ]
  refine seqR_at (o := ?_) ?_ ?_
  rotate_left
  · (conv => (lhs; whnf; arg 1; whnf))
  refine seqR_y (v := ?_) (by rfl) (fun W hW => ?_) ?_
  rotate_left
  · go_simp; try with_reducible rfl
  try simp only [Act.put, List.setIfInBounds_toArray, List.set_cons_zero, List.set_cons_succ]
  refine seqR_end ?_
  go_wp2_with fail
  refine bodyPost_ret (results_ctt rfl _ _ rfl R2.out) rfl ?_
  exact ⟨_, rfl, RL.out, RB.out⟩

set_option maxHeartbeats 1600000 in
theorem made_unfit (v : Value) (xs : List UInt8) (w : World) (hx : Byt w v xs) (hl : xs.length ≤ 200) (hf : ¬ Fit (numN xs)) :
    Calls Try.prog 23 #[v] w (RetM w (0) (numN xs) false) := by
  have HS : Hid (Sz (numN xs)) := Lib.hid (sz_num hl)
  have HF := Lib.hid hf
  have HFB : Hid (decide ((bl (numN xs) : Int) ≤ 1024) = false) := Lib.hid (decide_eq_false (fun h => hf (bl_fit.1 (by omega))))
  have HFR : Hid (∀ v W, Byt W v xs → Calls Try.prog 12 #[v] W fun e w' => e = .returned (.tuple #[.agg (natA (0)), .int .i64 7]) ∧ Below W.heap.size W w') := Lib.hid (fun v W h => by
    have h1 := fromBytes_any v xs W h (by unfold lim; omega)
    rwa [fromN, fromE, if_neg hf, if_neg hf] at h1)
  have HX0 := Lib.hid hx
  have HLN := Lib.hid hl
  obtain ⟨A, c, rfl, _⟩ := hx.len
  have HZ : Hid (NatAt (w.alloc (.cells z0 29)) (w.heap.size) (0)) := Lib.hid (by
    have h := NatAt.new w (0) 29
    rw [natA_zero] at h
    simpa using h)
  have HW : Hid (Below w.heap.size w (w.alloc (.cells z0 29))) := Lib.hid (by
    have h := Below.refl w.heap.size w
    replace h := h.alloc h.size (.cells z0 29)
    exact h)
  clear hx hl hf
  go_enter Try.func23, Try.ntmps23
  go_wp2_with fail
  have HX := Lib.hid (HX0.out.below ((Below.refl _ _).alloc (Nat.le_refl _) (.cells z0 29)))
  generalize (w.alloc (.cells z0 29)) = w1 at HZ HW HX ⊢
  refine (HFR.out _ _ HX.out).mono ?_
  rintro e w2 ⟨rfl, hb2⟩
  have HT : Hid (NatAt (w2.alloc (.cells z0 29)) w2.heap.size 0) := Lib.hid (by have h := NatAt.new w2 0 29; rw [natA_zero] at h; exact h)
  have HZ2 := Lib.hid ((HZ.out.below hb2).alloc (.cells z0 29))
  have HX2 := Lib.hid ((HX.out.below hb2).alloc (.cells z0 29))
  have hw2 := HW.out.trans (hb2.mono HW.out.size)
  have HW2 := Lib.hid (hw2.alloc hw2.size (.cells z0 29))
  have HSZ : Hid (w.heap.size < w2.heap.size) := Lib.hid (HZ.out.below hb2).lt
  have HXB : Hid (xs = [] ∨ ∀ g, (Value.slice A xs.length c).ownBlock = some g → g < w2.heap.size) := Lib.hid (by
    by_cases h0 : xs = []
    · exact .inl h0
    · exact .inr (fun g hg => Byt.blk (HX.out.below hb2) h0 hg))
  clear HZ HW HX hb2 hw2 HX0
  go_wp2_with (refine wpl_stN ntNat rfl rfl rfl rfl HT.out ?_; intro w3 hn3 hg3; have HN3 := Lib.hid hn3; have HG3 := Lib.hid hg3; clear hn3 hg3)
  have HZ3 := Lib.hid (HZ2.out.grown HG3.out (by have := HSZ.out; simp; omega))
  have HX3 : Hid (Byt w3 (.slice A xs.length c) xs) := Lib.hid (Byt.grown' HX2.out HG3.out (fun h0 g hg => by
    injection hg with hg
    rcases HXB.out with h1 | h1
    · exact absurd h1 h0
    · intro h2
      have := h1 g h2
      omega))
  have HW3 := Lib.hid (HW2.out.grown HG3.out HW2.out.size (fun j e => by injection e with e; have := HSZ.out; omega))
  have HSZ3 : Hid (w2.heap.size < w3.heap.size) := Lib.hid HN3.out.lt
  clear HZ2 HX2 HW2 HT HXB HG3 HFR
  refine (from_any _ xs _ HX3.out (by have := HLN.out; omega)).mono ?_
  rintro e w4 ⟨v4, rfl, hv4, hb4, ho4⟩
  have H2 := Lib.hid (HZ3.out.below hb4).drew
  have H5 := Lib.hid (HN3.out.below hb4).drew
  have HL : Hid (Lst w4.drew v4 (numN xs)) := Lib.hid hv4
  have HB : Hid (Below w.heap.size w w4.drew) := Lib.hid (below_drew' (HW3.out.trans (hb4.mono HW3.out.size)) 1)
  have HNE : Hid (∀ g, some w.heap.size = some g → v4.ownBlock ≠ some g) := Lib.hid (fun g e h => by
    injection e with e
    have := ho4 g h
    have := HSZ.out
    have := HSZ3.out
    omega)
  clear HZ3 HX3 HW3 hb4 ho4 HN3 HSZ3
  obtain ⟨A4, c4, rfl, _⟩ := Its.len hv4
  clear hv4
  go_wp2_with fail
  refine region_road (fun W1 W2 => NatAt W1 w2.heap.size (0) → NatAt W2 w2.heap.size (0)) [(0, true), (1, true), (2, true), (3, true), (4, true), (5, true), (6, false), (7, true), (8, true), (9, true), (10, true), (11, false), (12, true), (13, false), (14, true), (15, true)] (by kernel_rfl) (by kernel_rfl) (by kernel_rfl) (by kernel_rfl) (by kernel_rfl) (by kernel_rfl) (fun _ h => h) (fun _ _ _ f g h => g (f h)) (fun _ _ d _ _ h => by cases d <;> exact h) ?_
  generalize w4.drew = w5 at H2 H5 HL HB ⊢
  refine seqR_at (o := ?_) ?_ ?_
  rotate_left
  · (conv => (lhs; whnf; arg 1; whnf))
  refine seqR_y (v := ?_) (by rfl) (fun W hW => ?_) ?_
  rotate_left
  · (refine exec_ldN (x := .tmp 5) ntNat ?_ ?_ (hW H5.out)) <;> rfl
  try simp only [Act.put, List.setIfInBounds_toArray, List.set_cons_zero, List.set_cons_succ]
  refine seqR_at (o := ?_) ?_ ?_
  rotate_left
  · (conv => (lhs; whnf; arg 1; whnf))
  refine seqR_y (v := ?_) (by rfl) (fun W hW => ?_) ?_
  rotate_left
  · go_simp; try with_reducible rfl
  try simp only [Act.put, List.setIfInBounds_toArray, List.set_cons_zero, List.set_cons_succ]
  refine seqR_at (o := ?_) ?_ ?_
  rotate_left
  · (conv => (lhs; whnf; arg 1; whnf))
  refine seqR_y (v := ?_) (by rfl) (fun W hW => ?_) ?_
  rotate_left
  · go_simp; try with_reducible rfl
  try simp only [Act.put, List.setIfInBounds_toArray, List.set_cons_zero, List.set_cons_succ]
  refine seqR_at (o := ?_) ?_ ?_
  rotate_left
  · (conv => (lhs; whnf; arg 1; whnf))
  refine seqR_y (v := ?_) (by rfl) (fun W hW => ?_) ?_
  rotate_left
  · go_simp; try with_reducible rfl
  try simp only [Act.put, List.setIfInBounds_toArray, List.set_cons_zero, List.set_cons_succ]
  refine seqR_at (o := ?_) ?_ ?_
  rotate_left
  · (conv => (lhs; whnf; arg 1; whnf))
  refine seqR_y (v := ?_) (by rfl) (fun W hW => ?_) ?_
  rotate_left
  · go_simp; try with_reducible rfl
  try simp only [Act.put, List.setIfInBounds_toArray, List.set_cons_zero, List.set_cons_succ]
  refine seqR_at (o := ?_) ?_ ?_
  rotate_left
  · (conv => (lhs; whnf; arg 1; whnf))
  refine seqR_n (by rfl) ?_
  try simp only [Act.put, List.setIfInBounds_toArray, List.set_cons_zero, List.set_cons_succ]
  refine seqR_at (o := ?_) ?_ ?_
  rotate_left
  · (conv => (lhs; whnf; arg 1; whnf))
  refine seqR_cn (by rfl) (fun h => h) ?_
  try simp only [Act.put, List.setIfInBounds_toArray, List.set_cons_zero, List.set_cons_succ]
  refine seqR_at (o := ?_) ?_ ?_
  rotate_left
  · (conv => (lhs; whnf; arg 1; whnf))
  refine seqR_y (v := ?_) (by rfl) (fun W hW => ?_) ?_
  rotate_left
  · go_simp; try with_reducible rfl
  try simp only [Act.put, List.setIfInBounds_toArray, List.set_cons_zero, List.set_cons_succ]
  refine seqR_at (o := ?_) ?_ ?_
  rotate_left
  · (conv => (lhs; whnf; arg 1; whnf))
  refine seqR_y (v := ?_) (by rfl) (fun W hW => ?_) ?_
  rotate_left
  · go_simp; try with_reducible rfl
  try simp only [Act.put, List.setIfInBounds_toArray, List.set_cons_zero, List.set_cons_succ]
  refine seqR_at (o := ?_) ?_ ?_
  rotate_left
  · (conv => (lhs; whnf; arg 1; whnf))
  refine seqR_n (by rfl) ?_
  try simp only [Act.put, List.setIfInBounds_toArray, List.set_cons_zero, List.set_cons_succ]
  refine seqR_at (o := ?_) ?_ ?_
  rotate_left
  · (conv => (lhs; whnf; arg 1; whnf))
  refine seqR_n (by rfl) ?_
  try simp only [Act.put, List.setIfInBounds_toArray, List.set_cons_zero, List.set_cons_succ]
  refine seqR_at (o := ?_) ?_ ?_
  rotate_left
  · (conv => (lhs; whnf; arg 1; whnf))
  refine seqR_cn (by rfl) (fun h => h) ?_
  try simp only [Act.put, List.setIfInBounds_toArray, List.set_cons_zero, List.set_cons_succ]
  refine seqR_at (o := ?_) ?_ ?_
  rotate_left
  · (conv => (lhs; whnf; arg 1; whnf))
  refine seqR_y (v := ?_) (by rfl) (fun W hW => ?_) ?_
  rotate_left
  · go_simp; try with_reducible rfl
  try simp only [Act.put, List.setIfInBounds_toArray, List.set_cons_zero, List.set_cons_succ]
  refine seqR_at (o := ?_) ?_ ?_
  rotate_left
  · (conv => (lhs; whnf; arg 1; whnf))
  refine seqR_c (by rfl) (fun K hK => ?_)
  refine wp_st_dig dtNat rfl rfl rfl (DAt.of_nat H2.out) ?_
  intro w7 hd7 hg7
  refine hK _ _ (fun h => NatAt.grown h hg7 (by have := HSZ.out; simp; omega)) ?_
  have R2 := Lib.hid (DAt.nat hd7)
  have RL := Lib.hid (Its.grown HL.out hg7 HNE.out)
  have RB := Lib.hid (HB.out.grown hg7 HB.out.size (fun j e => by injection e with e; omega))
  clear hd7 hg7
  try simp only [Act.put, List.setIfInBounds_toArray, List.set_cons_zero, List.set_cons_succ]
  refine seqR_at (o := ?_) ?_ ?_
  rotate_left
  · (conv => (lhs; whnf; arg 1; whnf))
  refine seqR_y (v := ?_) (by rfl) (fun W hW => ?_) ?_
  rotate_left
  · go_simp; try with_reducible rfl
  try simp only [Act.put, List.setIfInBounds_toArray, List.set_cons_zero, List.set_cons_succ]
  refine seqR_at (o := ?_) ?_ ?_
  rotate_left
  · (conv => (lhs; whnf; arg 1; whnf))
  refine seqR_y (v := ?_) (by rfl) (fun W hW => ?_) ?_
  rotate_left
  · go_simp; try with_reducible rfl
  try simp only [Act.put, List.setIfInBounds_toArray, List.set_cons_zero, List.set_cons_succ]
  refine seqR_end ?_
  go_wp2_with fail
  refine bodyPost_ret (results_ctt rfl _ _ rfl R2.out) rfl ?_
  exact ⟨_, rfl, RL.out, RB.out⟩

theorem made_any (v : Value) (xs : List UInt8) (w : World) (hx : Byt w v xs) (hl : xs.length ≤ 200) :
    Calls Try.prog 23 #[v] w (RetM w (fromN xs) (numN xs) (decide (Fit (numN xs)))) := by
  unfold fromN
  by_cases h : Fit (numN xs)
  · rw [if_pos h, decide_eq_true h]
    exact made_fit v xs w hx hl h
  · rw [if_neg h, decide_eq_false h]
    exact made_unfit v xs w hx hl h

end Go.Proofs.Ytomiapceefbmeaa
